/-
  The walks of the laws on years.
  Conditions: int64; the bytes can be read.
-/
import Derived.Test.YtpebdligpdlmlaaYe
namespace Go.Proofs.Ytpebdligpdlmlaa
open Go.RowKit

def I64 (n : Int) : Prop := -9223372036854775808 ≤ n ∧ n ≤ 9223372036854775807

theorem walk_fnExactConstants (w : World) : Calls Try.prog 3 #[] w fun e w' => e = .returned (.bool true) ∧ Below w.heap.size w w' := by
  go_enter Try.func3, Try.ntmps3
  go_wp2
  go_ret
  exact ⟨rfl, Below.refl _ _⟩

theorem ret_bool {a b : Bool} (h : a = b) : Ending.returned (.bool a) = .returned (.bool b) := by rw [h]
def inB (n a b : Int) : Bool := decide (a ≤ n ∧ n ≤ b)
theorem inB_iff {n a b : Int} : inB n a b = true ↔ a ≤ n ∧ n ≤ b := by unfold inB; rw [decide_eq_true_iff]
theorem inB_yes {n a b : Int} (h1 : a ≤ n) (h2 : n ≤ b) : inB n a b = true := decide_eq_true ⟨h1, h2⟩
theorem inB_no {n a b : Int} (h : ¬ (a ≤ n ∧ n ≤ b)) : inB n a b = false := decide_eq_false h
/-- l6In -/
theorem in_spec (n a b : Int) (w : World) :
    Calls Try.prog 28 #[.int .i64 n, .int .i64 a, .int .i64 b] w fun e w' => e = .returned (.bool (inB n a b)) ∧ w = w' := by
  go_enter Try.func28, Try.ntmps28
  go_wp2
  all_goals
    go_ret
    first
      | exact ⟨ret_bool (inB_no (by omega)).symm, rfl⟩
      | (refine ⟨ret_bool ?_, rfl⟩; unfold inB; rw [decide_eq_decide]; omega)
/-- isYear -/
theorem is_year (n : Int) (w : World) :
    Calls Try.prog 27 #[.int .i64 n] w fun e w' => e = .returned (.bool (inB n (-200000) 200000)) ∧ w = w' := by
  go_enter Try.func27, Try.ntmps27
  go_wp2
  all_goals
    go_ret
    first
      | exact ⟨ret_bool (inB_no (by omega)).symm, rfl⟩
      | (refine ⟨ret_bool ?_, rfl⟩; unfold inB; rw [decide_eq_decide]; omega)

set_option maxHeartbeats 1000000 in
theorem walk_fnExactYearAge (y : Int) (w : World) (h : I64 y) : Calls Try.prog 4 #[.int .i64 y] w fun e w' => e = .returned (.bool true) ∧ Below w.heap.size w w' := by
  obtain ⟨h1, h2⟩ := h
  cases c : inB y (-200000) 200000
  · go_enter Try.func4, Try.ntmps4
    go_wp2_with (first | (go_at_call 28; refine (in_spec _ _ _ _).mono ?_; rintro e w' ⟨rfl, rfl⟩) | (go_at_call 27; refine (is_year _ _).mono ?_; rintro e w' ⟨rfl, rfl⟩) | go_in)
    go_ret
    exact ⟨rfl, Below.refl _ _⟩
  · obtain ⟨c1, c2⟩ := inB_iff.1 c
    go_enter Try.func4, Try.ntmps4
    go_wp2_with (first | (go_at_call 28; refine (in_spec _ _ _ _).mono ?_; rintro e w' ⟨rfl, rfl⟩) | (go_at_call 27; refine (is_year _ _).mono ?_; rintro e w' ⟨rfl, rfl⟩) | go_in)
    go_ret
    exact ⟨rfl, Below.refl _ _⟩

set_option maxHeartbeats 1000000 in
theorem walk_fnExactYearOld (y : Int) (w : World) (h : I64 y) : Calls Try.prog 6 #[.int .i64 y] w fun e w' => e = .returned (.bool true) ∧ Below w.heap.size w w' := by
  obtain ⟨h1, h2⟩ := h
  cases c : inB y (-200000) 200000
  · go_enter Try.func6, Try.ntmps6
    go_wp2_with (first | (go_at_call 28; refine (in_spec _ _ _ _).mono ?_; rintro e w' ⟨rfl, rfl⟩) | (go_at_call 27; refine (is_year _ _).mono ?_; rintro e w' ⟨rfl, rfl⟩) | go_in)
    go_ret
    exact ⟨rfl, Below.refl _ _⟩
  · obtain ⟨c1, c2⟩ := inB_iff.1 c
    go_enter Try.func6, Try.ntmps6
    go_wp2_with (first | (go_at_call 28; refine (in_spec _ _ _ _).mono ?_; rintro e w' ⟨rfl, rfl⟩) | (go_at_call 27; refine (is_year _ _).mono ?_; rintro e w' ⟨rfl, rfl⟩) | go_in)
    go_ret
    exact ⟨rfl, Below.refl _ _⟩

set_option maxHeartbeats 1000000 in
theorem walk_fnExactYearOf (y : Int) (w : World) (h : I64 y) : Calls Try.prog 5 #[.int .i64 y] w fun e w' => e = .returned (.bool true) ∧ Below w.heap.size w w' := by
  obtain ⟨h1, h2⟩ := h
  by_cases c1 : y < -400000
  · have i1 : inB y (-400000) 400000 = false := inB_no (by omega)
    go_enter Try.func5, Try.ntmps5
    go_wp2_with (first | (go_at_call 28; refine (in_spec _ _ _ _).mono ?_; rintro e w' ⟨rfl, rfl⟩) | (go_at_call 27; refine (is_year _ _).mono ?_; rintro e w' ⟨rfl, rfl⟩) | go_in)
    go_ret
    exact ⟨rfl, Below.refl _ _⟩
  · by_cases c2 : 400000 < y
    · have i1 : inB y (-400000) 400000 = false := inB_no (by omega)
      go_enter Try.func5, Try.ntmps5
      go_wp2_with (first | (go_at_call 28; refine (in_spec _ _ _ _).mono ?_; rintro e w' ⟨rfl, rfl⟩) | (go_at_call 27; refine (is_year _ _).mono ?_; rintro e w' ⟨rfl, rfl⟩) | go_in)
      go_ret
      exact ⟨rfl, Below.refl _ _⟩
    · have i1 : inB y (-400000) 400000 = true := inB_yes (by omega) (by omega)
      cases c : inB (2000 - y) (-200000) 200000
      · go_enter Try.func5, Try.ntmps5
        go_wp2_with (first | (go_at_call 28; refine (in_spec _ _ _ _).mono ?_; rintro e w' ⟨rfl, rfl⟩) | (go_at_call 27; refine (is_year _ _).mono ?_; rintro e w' ⟨rfl, rfl⟩) | go_in)
        go_ret
        exact ⟨rfl, Below.refl _ _⟩
      · go_enter Try.func5, Try.ntmps5
        go_wp2_with (first | (go_at_call 28; refine (in_spec _ _ _ _).mono ?_; rintro e w' ⟨rfl, rfl⟩) | (go_at_call 27; refine (is_year _ _).mono ?_; rintro e w' ⟨rfl, rfl⟩) | go_in)
        go_ret
        exact ⟨rfl, Below.refl _ _⟩

/-- the year of a number of an era -/
def era (n : Int) : Int := if n < 0 then n + 1 else n
def eraOk (n : Int) : Bool := decide (n ≠ 0 ∧ -200001 ≤ n ∧ n ≤ 200000)
def spN (a b : Int) : Int := if eraOk a && eraOk b then era b - era a else 0
theorem eraOk_iff {n : Int} : eraOk n = true ↔ n ≠ 0 ∧ -200001 ≤ n ∧ n ≤ 200000 := by unfold eraOk; rw [decide_eq_true_iff]
theorem eraOk_no {n : Int} : eraOk n = false ↔ ¬ (n ≠ 0 ∧ -200001 ≤ n ∧ n ≤ 200000) := by unfold eraOk; rw [decide_eq_false_iff_not]
theorem era_neg {n : Int} (h : n < 0) : era n = n + 1 := by unfold era; rw [if_pos h]
theorem era_pos {n : Int} (h : ¬ n < 0) : era n = n := by unfold era; rw [if_neg h]
theorem sp_yes {a b : Int} (ha : eraOk a = true) (hb : eraOk b = true) : spN a b = era b - era a := by unfold spN; rw [ha, hb]; rfl
theorem sp_no {a b : Int} (h : eraOk a = false ∨ eraOk b = false) : spN a b = 0 ∧ (eraOk a && eraOk b) = false := by
  have e : (eraOk a && eraOk b) = false := by
    rcases h with h | h
    · rw [h]; rfl
    · rw [h, Bool.and_false]
  unfold spN; rw [e]; exact ⟨rfl, rfl⟩
theorem ret_ib {a b : Int} {o p : Bool} (h : b = a) (h2 : p = o) : Ending.returned (.tuple #[.int .i64 a, .bool o]) = .returned (.tuple #[.int .i64 b, .bool p]) := by rw [h, h2]
/-- where a number lies, as the walk tests it -/
theorem era_where (n : Int) : n < -200001 ∨ (-200001 ≤ n ∧ n < 0) ∨ n = 0 ∨ (0 < n ∧ n ≤ 200000) ∨ 200000 < n := by omega

theorem and_true {p q : Bool} (h : p = true) (k : q = true) : (p && q) = true := by rw [h, k]; rfl

set_option maxHeartbeats 8000000 in
theorem span_impl (a b : Int) (w : World) (ha : I64 a) (hb : I64 b) : Calls Try.prog 21 #[.int .i64 a, .int .i64 b] w fun e w' => e = .returned (.tuple #[.int .i64 (spN a b), .bool (eraOk a && eraOk b)]) ∧ w = w' := by
  obtain ⟨ha1, ha2⟩ := ha
  obtain ⟨hb1, hb2⟩ := hb
  rcases era_where a with ca | ca | ca | ca | ca
  · rcases era_where b with cb | cb | cb | cb | cb
    · have O := Lib.hid (sp_no (a := a) (b := b) (.inl (eraOk_no.2 (by omega))))
      have za : (a == 0) = false := by simp; omega
      have ia : inB a (-200001) 200000 = false := inB_no (by omega)
      have ja : inB (a + 1) (-200000) 200000 = false := inB_no (by omega)
      have na : a < 0 := by omega
      have zb : (b == 0) = false := by simp; omega
      have ib : inB b (-200001) 200000 = false := inB_no (by omega)
      have jb : inB (b + 1) (-200000) 200000 = false := inB_no (by omega)
      have nb : b < 0 := by omega
      go_enter Try.func21, Try.ntmps21
      go_wp2_with (first | (go_at_call 28; refine (in_spec _ _ _ _).mono ?_; rintro e w' ⟨rfl, rfl⟩) | (go_at_call 27; refine (is_year _ _).mono ?_; rintro e w' ⟨rfl, rfl⟩) | go_in)
      go_ret2
      exact ⟨ret_ib O.out.1 O.out.2, rfl⟩
    · have O := Lib.hid (sp_no (a := a) (b := b) (.inl (eraOk_no.2 (by omega))))
      have za : (a == 0) = false := by simp; omega
      have ia : inB a (-200001) 200000 = false := inB_no (by omega)
      have ja : inB (a + 1) (-200000) 200000 = false := inB_no (by omega)
      have na : a < 0 := by omega
      have zb : (b == 0) = false := by simp; omega
      have ib : inB b (-200001) 200000 = true := inB_yes (by omega) (by omega)
      have jb : inB (b + 1) (-200000) 200000 = true := inB_yes (by omega) (by omega)
      have nb : b < 0 := by omega
      go_enter Try.func21, Try.ntmps21
      go_wp2_with (first | (go_at_call 28; refine (in_spec _ _ _ _).mono ?_; rintro e w' ⟨rfl, rfl⟩) | (go_at_call 27; refine (is_year _ _).mono ?_; rintro e w' ⟨rfl, rfl⟩) | go_in)
      go_ret2
      exact ⟨ret_ib O.out.1 O.out.2, rfl⟩
    · have O := Lib.hid (sp_no (a := a) (b := b) (.inl (eraOk_no.2 (by omega))))
      subst cb
      have za : (a == 0) = false := by simp; omega
      have ia : inB a (-200001) 200000 = false := inB_no (by omega)
      have ja : inB (a + 1) (-200000) 200000 = false := inB_no (by omega)
      have na : a < 0 := by omega
      have ib : inB 0 (-200001) 200000 = true := inB_yes (by omega) (by omega)
      have jb : inB 0 (-200000) 200000 = true := inB_yes (by omega) (by omega)
      go_enter Try.func21, Try.ntmps21
      go_wp2_with (first | (go_at_call 28; refine (in_spec _ _ _ _).mono ?_; rintro e w' ⟨rfl, rfl⟩) | (go_at_call 27; refine (is_year _ _).mono ?_; rintro e w' ⟨rfl, rfl⟩) | go_in)
      go_ret2
      exact ⟨ret_ib O.out.1 O.out.2, rfl⟩
    · have O := Lib.hid (sp_no (a := a) (b := b) (.inl (eraOk_no.2 (by omega))))
      have za : (a == 0) = false := by simp; omega
      have ia : inB a (-200001) 200000 = false := inB_no (by omega)
      have ja : inB (a + 1) (-200000) 200000 = false := inB_no (by omega)
      have na : a < 0 := by omega
      have zb : (b == 0) = false := by simp; omega
      have ib : inB b (-200001) 200000 = true := inB_yes (by omega) (by omega)
      have jb : inB b (-200000) 200000 = true := inB_yes (by omega) (by omega)
      have nb : ¬ b < 0 := by omega
      go_enter Try.func21, Try.ntmps21
      go_wp2_with (first | (go_at_call 28; refine (in_spec _ _ _ _).mono ?_; rintro e w' ⟨rfl, rfl⟩) | (go_at_call 27; refine (is_year _ _).mono ?_; rintro e w' ⟨rfl, rfl⟩) | go_in)
      go_ret2
      exact ⟨ret_ib O.out.1 O.out.2, rfl⟩
    · have O := Lib.hid (sp_no (a := a) (b := b) (.inl (eraOk_no.2 (by omega))))
      have za : (a == 0) = false := by simp; omega
      have ia : inB a (-200001) 200000 = false := inB_no (by omega)
      have ja : inB (a + 1) (-200000) 200000 = false := inB_no (by omega)
      have na : a < 0 := by omega
      have zb : (b == 0) = false := by simp; omega
      have ib : inB b (-200001) 200000 = false := inB_no (by omega)
      have jb : inB b (-200000) 200000 = false := inB_no (by omega)
      have nb : ¬ b < 0 := by omega
      go_enter Try.func21, Try.ntmps21
      go_wp2_with (first | (go_at_call 28; refine (in_spec _ _ _ _).mono ?_; rintro e w' ⟨rfl, rfl⟩) | (go_at_call 27; refine (is_year _ _).mono ?_; rintro e w' ⟨rfl, rfl⟩) | go_in)
      go_ret2
      exact ⟨ret_ib O.out.1 O.out.2, rfl⟩
  · rcases era_where b with cb | cb | cb | cb | cb
    · have O := Lib.hid (sp_no (a := a) (b := b) (.inr (eraOk_no.2 (by omega))))
      have za : (a == 0) = false := by simp; omega
      have ia : inB a (-200001) 200000 = true := inB_yes (by omega) (by omega)
      have ja : inB (a + 1) (-200000) 200000 = true := inB_yes (by omega) (by omega)
      have na : a < 0 := by omega
      have zb : (b == 0) = false := by simp; omega
      have ib : inB b (-200001) 200000 = false := inB_no (by omega)
      have jb : inB (b + 1) (-200000) 200000 = false := inB_no (by omega)
      have nb : b < 0 := by omega
      go_enter Try.func21, Try.ntmps21
      go_wp2_with (first | (go_at_call 28; refine (in_spec _ _ _ _).mono ?_; rintro e w' ⟨rfl, rfl⟩) | (go_at_call 27; refine (is_year _ _).mono ?_; rintro e w' ⟨rfl, rfl⟩) | go_in)
      go_ret2
      exact ⟨ret_ib O.out.1 O.out.2, rfl⟩
    · have oa : eraOk a = true := eraOk_iff.2 (by omega)
      have ob : eraOk b = true := eraOk_iff.2 (by omega)
      have O := Lib.hid (sp_yes oa ob)
      have E := Lib.hid (and_true oa ob)
      clear oa ob
      have za : (a == 0) = false := by simp; omega
      have ia : inB a (-200001) 200000 = true := inB_yes (by omega) (by omega)
      have ja : inB (a + 1) (-200000) 200000 = true := inB_yes (by omega) (by omega)
      have na : a < 0 := by omega
      have zb : (b == 0) = false := by simp; omega
      have ib : inB b (-200001) 200000 = true := inB_yes (by omega) (by omega)
      have jb : inB (b + 1) (-200000) 200000 = true := inB_yes (by omega) (by omega)
      have nb : b < 0 := by omega
      go_enter Try.func21, Try.ntmps21
      go_wp2_with (first | (go_at_call 28; refine (in_spec _ _ _ _).mono ?_; rintro e w' ⟨rfl, rfl⟩) | (go_at_call 27; refine (is_year _ _).mono ?_; rintro e w' ⟨rfl, rfl⟩) | go_in)
      go_ret2
      exact ⟨ret_ib (O.out.trans (by unfold era; omega)) E.out, rfl⟩
    · have O := Lib.hid (sp_no (a := a) (b := b) (.inr (eraOk_no.2 (by omega))))
      subst cb
      have za : (a == 0) = false := by simp; omega
      have ia : inB a (-200001) 200000 = true := inB_yes (by omega) (by omega)
      have ja : inB (a + 1) (-200000) 200000 = true := inB_yes (by omega) (by omega)
      have na : a < 0 := by omega
      have ib : inB 0 (-200001) 200000 = true := inB_yes (by omega) (by omega)
      have jb : inB 0 (-200000) 200000 = true := inB_yes (by omega) (by omega)
      go_enter Try.func21, Try.ntmps21
      go_wp2_with (first | (go_at_call 28; refine (in_spec _ _ _ _).mono ?_; rintro e w' ⟨rfl, rfl⟩) | (go_at_call 27; refine (is_year _ _).mono ?_; rintro e w' ⟨rfl, rfl⟩) | go_in)
      go_ret2
      exact ⟨ret_ib O.out.1 O.out.2, rfl⟩
    · have oa : eraOk a = true := eraOk_iff.2 (by omega)
      have ob : eraOk b = true := eraOk_iff.2 (by omega)
      have O := Lib.hid (sp_yes oa ob)
      have E := Lib.hid (and_true oa ob)
      clear oa ob
      have za : (a == 0) = false := by simp; omega
      have ia : inB a (-200001) 200000 = true := inB_yes (by omega) (by omega)
      have ja : inB (a + 1) (-200000) 200000 = true := inB_yes (by omega) (by omega)
      have na : a < 0 := by omega
      have zb : (b == 0) = false := by simp; omega
      have ib : inB b (-200001) 200000 = true := inB_yes (by omega) (by omega)
      have jb : inB b (-200000) 200000 = true := inB_yes (by omega) (by omega)
      have nb : ¬ b < 0 := by omega
      go_enter Try.func21, Try.ntmps21
      go_wp2_with (first | (go_at_call 28; refine (in_spec _ _ _ _).mono ?_; rintro e w' ⟨rfl, rfl⟩) | (go_at_call 27; refine (is_year _ _).mono ?_; rintro e w' ⟨rfl, rfl⟩) | go_in)
      go_ret2
      exact ⟨ret_ib (O.out.trans (by unfold era; omega)) E.out, rfl⟩
    · have O := Lib.hid (sp_no (a := a) (b := b) (.inr (eraOk_no.2 (by omega))))
      have za : (a == 0) = false := by simp; omega
      have ia : inB a (-200001) 200000 = true := inB_yes (by omega) (by omega)
      have ja : inB (a + 1) (-200000) 200000 = true := inB_yes (by omega) (by omega)
      have na : a < 0 := by omega
      have zb : (b == 0) = false := by simp; omega
      have ib : inB b (-200001) 200000 = false := inB_no (by omega)
      have jb : inB b (-200000) 200000 = false := inB_no (by omega)
      have nb : ¬ b < 0 := by omega
      go_enter Try.func21, Try.ntmps21
      go_wp2_with (first | (go_at_call 28; refine (in_spec _ _ _ _).mono ?_; rintro e w' ⟨rfl, rfl⟩) | (go_at_call 27; refine (is_year _ _).mono ?_; rintro e w' ⟨rfl, rfl⟩) | go_in)
      go_ret2
      exact ⟨ret_ib O.out.1 O.out.2, rfl⟩
  · rcases era_where b with cb | cb | cb | cb | cb
    · have O := Lib.hid (sp_no (a := a) (b := b) (.inl (eraOk_no.2 (by omega))))
      subst ca
      have ia : inB 0 (-200001) 200000 = true := inB_yes (by omega) (by omega)
      have ja : inB 0 (-200000) 200000 = true := inB_yes (by omega) (by omega)
      have zb : (b == 0) = false := by simp; omega
      have ib : inB b (-200001) 200000 = false := inB_no (by omega)
      have jb : inB (b + 1) (-200000) 200000 = false := inB_no (by omega)
      have nb : b < 0 := by omega
      go_enter Try.func21, Try.ntmps21
      go_wp2_with (first | (go_at_call 28; refine (in_spec _ _ _ _).mono ?_; rintro e w' ⟨rfl, rfl⟩) | (go_at_call 27; refine (is_year _ _).mono ?_; rintro e w' ⟨rfl, rfl⟩) | go_in)
      go_ret2
      exact ⟨ret_ib O.out.1 O.out.2, rfl⟩
    · have O := Lib.hid (sp_no (a := a) (b := b) (.inl (eraOk_no.2 (by omega))))
      subst ca
      have ia : inB 0 (-200001) 200000 = true := inB_yes (by omega) (by omega)
      have ja : inB 0 (-200000) 200000 = true := inB_yes (by omega) (by omega)
      have zb : (b == 0) = false := by simp; omega
      have ib : inB b (-200001) 200000 = true := inB_yes (by omega) (by omega)
      have jb : inB (b + 1) (-200000) 200000 = true := inB_yes (by omega) (by omega)
      have nb : b < 0 := by omega
      go_enter Try.func21, Try.ntmps21
      go_wp2_with (first | (go_at_call 28; refine (in_spec _ _ _ _).mono ?_; rintro e w' ⟨rfl, rfl⟩) | (go_at_call 27; refine (is_year _ _).mono ?_; rintro e w' ⟨rfl, rfl⟩) | go_in)
      go_ret2
      exact ⟨ret_ib O.out.1 O.out.2, rfl⟩
    · have O := Lib.hid (sp_no (a := a) (b := b) (.inl (eraOk_no.2 (by omega))))
      subst ca
      subst cb
      have ia : inB 0 (-200001) 200000 = true := inB_yes (by omega) (by omega)
      have ja : inB 0 (-200000) 200000 = true := inB_yes (by omega) (by omega)
      go_enter Try.func21, Try.ntmps21
      go_wp2_with (first | (go_at_call 28; refine (in_spec _ _ _ _).mono ?_; rintro e w' ⟨rfl, rfl⟩) | (go_at_call 27; refine (is_year _ _).mono ?_; rintro e w' ⟨rfl, rfl⟩) | go_in)
      go_ret2
      exact ⟨ret_ib O.out.1 O.out.2, rfl⟩
    · have O := Lib.hid (sp_no (a := a) (b := b) (.inl (eraOk_no.2 (by omega))))
      subst ca
      have ia : inB 0 (-200001) 200000 = true := inB_yes (by omega) (by omega)
      have ja : inB 0 (-200000) 200000 = true := inB_yes (by omega) (by omega)
      have zb : (b == 0) = false := by simp; omega
      have ib : inB b (-200001) 200000 = true := inB_yes (by omega) (by omega)
      have jb : inB b (-200000) 200000 = true := inB_yes (by omega) (by omega)
      have nb : ¬ b < 0 := by omega
      go_enter Try.func21, Try.ntmps21
      go_wp2_with (first | (go_at_call 28; refine (in_spec _ _ _ _).mono ?_; rintro e w' ⟨rfl, rfl⟩) | (go_at_call 27; refine (is_year _ _).mono ?_; rintro e w' ⟨rfl, rfl⟩) | go_in)
      go_ret2
      exact ⟨ret_ib O.out.1 O.out.2, rfl⟩
    · have O := Lib.hid (sp_no (a := a) (b := b) (.inl (eraOk_no.2 (by omega))))
      subst ca
      have ia : inB 0 (-200001) 200000 = true := inB_yes (by omega) (by omega)
      have ja : inB 0 (-200000) 200000 = true := inB_yes (by omega) (by omega)
      have zb : (b == 0) = false := by simp; omega
      have ib : inB b (-200001) 200000 = false := inB_no (by omega)
      have jb : inB b (-200000) 200000 = false := inB_no (by omega)
      have nb : ¬ b < 0 := by omega
      go_enter Try.func21, Try.ntmps21
      go_wp2_with (first | (go_at_call 28; refine (in_spec _ _ _ _).mono ?_; rintro e w' ⟨rfl, rfl⟩) | (go_at_call 27; refine (is_year _ _).mono ?_; rintro e w' ⟨rfl, rfl⟩) | go_in)
      go_ret2
      exact ⟨ret_ib O.out.1 O.out.2, rfl⟩
  · rcases era_where b with cb | cb | cb | cb | cb
    · have O := Lib.hid (sp_no (a := a) (b := b) (.inr (eraOk_no.2 (by omega))))
      have za : (a == 0) = false := by simp; omega
      have ia : inB a (-200001) 200000 = true := inB_yes (by omega) (by omega)
      have ja : inB a (-200000) 200000 = true := inB_yes (by omega) (by omega)
      have na : ¬ a < 0 := by omega
      have zb : (b == 0) = false := by simp; omega
      have ib : inB b (-200001) 200000 = false := inB_no (by omega)
      have jb : inB (b + 1) (-200000) 200000 = false := inB_no (by omega)
      have nb : b < 0 := by omega
      go_enter Try.func21, Try.ntmps21
      go_wp2_with (first | (go_at_call 28; refine (in_spec _ _ _ _).mono ?_; rintro e w' ⟨rfl, rfl⟩) | (go_at_call 27; refine (is_year _ _).mono ?_; rintro e w' ⟨rfl, rfl⟩) | go_in)
      go_ret2
      exact ⟨ret_ib O.out.1 O.out.2, rfl⟩
    · have oa : eraOk a = true := eraOk_iff.2 (by omega)
      have ob : eraOk b = true := eraOk_iff.2 (by omega)
      have O := Lib.hid (sp_yes oa ob)
      have E := Lib.hid (and_true oa ob)
      clear oa ob
      have za : (a == 0) = false := by simp; omega
      have ia : inB a (-200001) 200000 = true := inB_yes (by omega) (by omega)
      have ja : inB a (-200000) 200000 = true := inB_yes (by omega) (by omega)
      have na : ¬ a < 0 := by omega
      have zb : (b == 0) = false := by simp; omega
      have ib : inB b (-200001) 200000 = true := inB_yes (by omega) (by omega)
      have jb : inB (b + 1) (-200000) 200000 = true := inB_yes (by omega) (by omega)
      have nb : b < 0 := by omega
      go_enter Try.func21, Try.ntmps21
      go_wp2_with (first | (go_at_call 28; refine (in_spec _ _ _ _).mono ?_; rintro e w' ⟨rfl, rfl⟩) | (go_at_call 27; refine (is_year _ _).mono ?_; rintro e w' ⟨rfl, rfl⟩) | go_in)
      go_ret2
      exact ⟨ret_ib (O.out.trans (by unfold era; omega)) E.out, rfl⟩
    · have O := Lib.hid (sp_no (a := a) (b := b) (.inr (eraOk_no.2 (by omega))))
      subst cb
      have za : (a == 0) = false := by simp; omega
      have ia : inB a (-200001) 200000 = true := inB_yes (by omega) (by omega)
      have ja : inB a (-200000) 200000 = true := inB_yes (by omega) (by omega)
      have na : ¬ a < 0 := by omega
      have ib : inB 0 (-200001) 200000 = true := inB_yes (by omega) (by omega)
      have jb : inB 0 (-200000) 200000 = true := inB_yes (by omega) (by omega)
      go_enter Try.func21, Try.ntmps21
      go_wp2_with (first | (go_at_call 28; refine (in_spec _ _ _ _).mono ?_; rintro e w' ⟨rfl, rfl⟩) | (go_at_call 27; refine (is_year _ _).mono ?_; rintro e w' ⟨rfl, rfl⟩) | go_in)
      go_ret2
      exact ⟨ret_ib O.out.1 O.out.2, rfl⟩
    · have oa : eraOk a = true := eraOk_iff.2 (by omega)
      have ob : eraOk b = true := eraOk_iff.2 (by omega)
      have O := Lib.hid (sp_yes oa ob)
      have E := Lib.hid (and_true oa ob)
      clear oa ob
      have za : (a == 0) = false := by simp; omega
      have ia : inB a (-200001) 200000 = true := inB_yes (by omega) (by omega)
      have ja : inB a (-200000) 200000 = true := inB_yes (by omega) (by omega)
      have na : ¬ a < 0 := by omega
      have zb : (b == 0) = false := by simp; omega
      have ib : inB b (-200001) 200000 = true := inB_yes (by omega) (by omega)
      have jb : inB b (-200000) 200000 = true := inB_yes (by omega) (by omega)
      have nb : ¬ b < 0 := by omega
      go_enter Try.func21, Try.ntmps21
      go_wp2_with (first | (go_at_call 28; refine (in_spec _ _ _ _).mono ?_; rintro e w' ⟨rfl, rfl⟩) | (go_at_call 27; refine (is_year _ _).mono ?_; rintro e w' ⟨rfl, rfl⟩) | go_in)
      go_ret2
      exact ⟨ret_ib (O.out.trans (by unfold era; omega)) E.out, rfl⟩
    · have O := Lib.hid (sp_no (a := a) (b := b) (.inr (eraOk_no.2 (by omega))))
      have za : (a == 0) = false := by simp; omega
      have ia : inB a (-200001) 200000 = true := inB_yes (by omega) (by omega)
      have ja : inB a (-200000) 200000 = true := inB_yes (by omega) (by omega)
      have na : ¬ a < 0 := by omega
      have zb : (b == 0) = false := by simp; omega
      have ib : inB b (-200001) 200000 = false := inB_no (by omega)
      have jb : inB b (-200000) 200000 = false := inB_no (by omega)
      have nb : ¬ b < 0 := by omega
      go_enter Try.func21, Try.ntmps21
      go_wp2_with (first | (go_at_call 28; refine (in_spec _ _ _ _).mono ?_; rintro e w' ⟨rfl, rfl⟩) | (go_at_call 27; refine (is_year _ _).mono ?_; rintro e w' ⟨rfl, rfl⟩) | go_in)
      go_ret2
      exact ⟨ret_ib O.out.1 O.out.2, rfl⟩
  · rcases era_where b with cb | cb | cb | cb | cb
    · have O := Lib.hid (sp_no (a := a) (b := b) (.inl (eraOk_no.2 (by omega))))
      have za : (a == 0) = false := by simp; omega
      have ia : inB a (-200001) 200000 = false := inB_no (by omega)
      have ja : inB a (-200000) 200000 = false := inB_no (by omega)
      have na : ¬ a < 0 := by omega
      have zb : (b == 0) = false := by simp; omega
      have ib : inB b (-200001) 200000 = false := inB_no (by omega)
      have jb : inB (b + 1) (-200000) 200000 = false := inB_no (by omega)
      have nb : b < 0 := by omega
      go_enter Try.func21, Try.ntmps21
      go_wp2_with (first | (go_at_call 28; refine (in_spec _ _ _ _).mono ?_; rintro e w' ⟨rfl, rfl⟩) | (go_at_call 27; refine (is_year _ _).mono ?_; rintro e w' ⟨rfl, rfl⟩) | go_in)
      go_ret2
      exact ⟨ret_ib O.out.1 O.out.2, rfl⟩
    · have O := Lib.hid (sp_no (a := a) (b := b) (.inl (eraOk_no.2 (by omega))))
      have za : (a == 0) = false := by simp; omega
      have ia : inB a (-200001) 200000 = false := inB_no (by omega)
      have ja : inB a (-200000) 200000 = false := inB_no (by omega)
      have na : ¬ a < 0 := by omega
      have zb : (b == 0) = false := by simp; omega
      have ib : inB b (-200001) 200000 = true := inB_yes (by omega) (by omega)
      have jb : inB (b + 1) (-200000) 200000 = true := inB_yes (by omega) (by omega)
      have nb : b < 0 := by omega
      go_enter Try.func21, Try.ntmps21
      go_wp2_with (first | (go_at_call 28; refine (in_spec _ _ _ _).mono ?_; rintro e w' ⟨rfl, rfl⟩) | (go_at_call 27; refine (is_year _ _).mono ?_; rintro e w' ⟨rfl, rfl⟩) | go_in)
      go_ret2
      exact ⟨ret_ib O.out.1 O.out.2, rfl⟩
    · have O := Lib.hid (sp_no (a := a) (b := b) (.inl (eraOk_no.2 (by omega))))
      subst cb
      have za : (a == 0) = false := by simp; omega
      have ia : inB a (-200001) 200000 = false := inB_no (by omega)
      have ja : inB a (-200000) 200000 = false := inB_no (by omega)
      have na : ¬ a < 0 := by omega
      have ib : inB 0 (-200001) 200000 = true := inB_yes (by omega) (by omega)
      have jb : inB 0 (-200000) 200000 = true := inB_yes (by omega) (by omega)
      go_enter Try.func21, Try.ntmps21
      go_wp2_with (first | (go_at_call 28; refine (in_spec _ _ _ _).mono ?_; rintro e w' ⟨rfl, rfl⟩) | (go_at_call 27; refine (is_year _ _).mono ?_; rintro e w' ⟨rfl, rfl⟩) | go_in)
      go_ret2
      exact ⟨ret_ib O.out.1 O.out.2, rfl⟩
    · have O := Lib.hid (sp_no (a := a) (b := b) (.inl (eraOk_no.2 (by omega))))
      have za : (a == 0) = false := by simp; omega
      have ia : inB a (-200001) 200000 = false := inB_no (by omega)
      have ja : inB a (-200000) 200000 = false := inB_no (by omega)
      have na : ¬ a < 0 := by omega
      have zb : (b == 0) = false := by simp; omega
      have ib : inB b (-200001) 200000 = true := inB_yes (by omega) (by omega)
      have jb : inB b (-200000) 200000 = true := inB_yes (by omega) (by omega)
      have nb : ¬ b < 0 := by omega
      go_enter Try.func21, Try.ntmps21
      go_wp2_with (first | (go_at_call 28; refine (in_spec _ _ _ _).mono ?_; rintro e w' ⟨rfl, rfl⟩) | (go_at_call 27; refine (is_year _ _).mono ?_; rintro e w' ⟨rfl, rfl⟩) | go_in)
      go_ret2
      exact ⟨ret_ib O.out.1 O.out.2, rfl⟩
    · have O := Lib.hid (sp_no (a := a) (b := b) (.inl (eraOk_no.2 (by omega))))
      have za : (a == 0) = false := by simp; omega
      have ia : inB a (-200001) 200000 = false := inB_no (by omega)
      have ja : inB a (-200000) 200000 = false := inB_no (by omega)
      have na : ¬ a < 0 := by omega
      have zb : (b == 0) = false := by simp; omega
      have ib : inB b (-200001) 200000 = false := inB_no (by omega)
      have jb : inB b (-200000) 200000 = false := inB_no (by omega)
      have nb : ¬ b < 0 := by omega
      go_enter Try.func21, Try.ntmps21
      go_wp2_with (first | (go_at_call 28; refine (in_spec _ _ _ _).mono ?_; rintro e w' ⟨rfl, rfl⟩) | (go_at_call 27; refine (is_year _ _).mono ?_; rintro e w' ⟨rfl, rfl⟩) | go_in)
      go_ret2
      exact ⟨ret_ib O.out.1 O.out.2, rfl⟩

set_option maxHeartbeats 8000000 in
theorem span_spec (a b : Int) (w : World) (ha : I64 a) (hb : I64 b) : Calls Try.prog 20 #[.int .i64 a, .int .i64 b] w fun e w' => e = .returned (.tuple #[.int .i64 (spN a b), .bool (eraOk a && eraOk b)]) ∧ w = w' := by
  obtain ⟨ha1, ha2⟩ := ha
  obtain ⟨hb1, hb2⟩ := hb
  rcases era_where a with ca | ca | ca | ca | ca
  · rcases era_where b with cb | cb | cb | cb | cb
    · have O := Lib.hid (sp_no (a := a) (b := b) (.inl (eraOk_no.2 (by omega))))
      have za : (a == 0) = false := by simp; omega
      have ia : inB a (-200001) 200000 = false := inB_no (by omega)
      have ja : inB (a + 1) (-200000) 200000 = false := inB_no (by omega)
      have na : a < 0 := by omega
      have zb : (b == 0) = false := by simp; omega
      have ib : inB b (-200001) 200000 = false := inB_no (by omega)
      have jb : inB (b + 1) (-200000) 200000 = false := inB_no (by omega)
      have nb : b < 0 := by omega
      go_enter Try.func20, Try.ntmps20
      go_wp2_with (first | (go_at_call 28; refine (in_spec _ _ _ _).mono ?_; rintro e w' ⟨rfl, rfl⟩) | (go_at_call 27; refine (is_year _ _).mono ?_; rintro e w' ⟨rfl, rfl⟩) | go_in)
      go_ret2
      exact ⟨ret_ib O.out.1 O.out.2, rfl⟩
    · have O := Lib.hid (sp_no (a := a) (b := b) (.inl (eraOk_no.2 (by omega))))
      have za : (a == 0) = false := by simp; omega
      have ia : inB a (-200001) 200000 = false := inB_no (by omega)
      have ja : inB (a + 1) (-200000) 200000 = false := inB_no (by omega)
      have na : a < 0 := by omega
      have zb : (b == 0) = false := by simp; omega
      have ib : inB b (-200001) 200000 = true := inB_yes (by omega) (by omega)
      have jb : inB (b + 1) (-200000) 200000 = true := inB_yes (by omega) (by omega)
      have nb : b < 0 := by omega
      go_enter Try.func20, Try.ntmps20
      go_wp2_with (first | (go_at_call 28; refine (in_spec _ _ _ _).mono ?_; rintro e w' ⟨rfl, rfl⟩) | (go_at_call 27; refine (is_year _ _).mono ?_; rintro e w' ⟨rfl, rfl⟩) | go_in)
      go_ret2
      exact ⟨ret_ib O.out.1 O.out.2, rfl⟩
    · have O := Lib.hid (sp_no (a := a) (b := b) (.inl (eraOk_no.2 (by omega))))
      subst cb
      have za : (a == 0) = false := by simp; omega
      have ia : inB a (-200001) 200000 = false := inB_no (by omega)
      have ja : inB (a + 1) (-200000) 200000 = false := inB_no (by omega)
      have na : a < 0 := by omega
      have ib : inB 0 (-200001) 200000 = true := inB_yes (by omega) (by omega)
      have jb : inB 0 (-200000) 200000 = true := inB_yes (by omega) (by omega)
      go_enter Try.func20, Try.ntmps20
      go_wp2_with (first | (go_at_call 28; refine (in_spec _ _ _ _).mono ?_; rintro e w' ⟨rfl, rfl⟩) | (go_at_call 27; refine (is_year _ _).mono ?_; rintro e w' ⟨rfl, rfl⟩) | go_in)
      go_ret2
      exact ⟨ret_ib O.out.1 O.out.2, rfl⟩
    · have O := Lib.hid (sp_no (a := a) (b := b) (.inl (eraOk_no.2 (by omega))))
      have za : (a == 0) = false := by simp; omega
      have ia : inB a (-200001) 200000 = false := inB_no (by omega)
      have ja : inB (a + 1) (-200000) 200000 = false := inB_no (by omega)
      have na : a < 0 := by omega
      have zb : (b == 0) = false := by simp; omega
      have ib : inB b (-200001) 200000 = true := inB_yes (by omega) (by omega)
      have jb : inB b (-200000) 200000 = true := inB_yes (by omega) (by omega)
      have nb : ¬ b < 0 := by omega
      go_enter Try.func20, Try.ntmps20
      go_wp2_with (first | (go_at_call 28; refine (in_spec _ _ _ _).mono ?_; rintro e w' ⟨rfl, rfl⟩) | (go_at_call 27; refine (is_year _ _).mono ?_; rintro e w' ⟨rfl, rfl⟩) | go_in)
      go_ret2
      exact ⟨ret_ib O.out.1 O.out.2, rfl⟩
    · have O := Lib.hid (sp_no (a := a) (b := b) (.inl (eraOk_no.2 (by omega))))
      have za : (a == 0) = false := by simp; omega
      have ia : inB a (-200001) 200000 = false := inB_no (by omega)
      have ja : inB (a + 1) (-200000) 200000 = false := inB_no (by omega)
      have na : a < 0 := by omega
      have zb : (b == 0) = false := by simp; omega
      have ib : inB b (-200001) 200000 = false := inB_no (by omega)
      have jb : inB b (-200000) 200000 = false := inB_no (by omega)
      have nb : ¬ b < 0 := by omega
      go_enter Try.func20, Try.ntmps20
      go_wp2_with (first | (go_at_call 28; refine (in_spec _ _ _ _).mono ?_; rintro e w' ⟨rfl, rfl⟩) | (go_at_call 27; refine (is_year _ _).mono ?_; rintro e w' ⟨rfl, rfl⟩) | go_in)
      go_ret2
      exact ⟨ret_ib O.out.1 O.out.2, rfl⟩
  · rcases era_where b with cb | cb | cb | cb | cb
    · have O := Lib.hid (sp_no (a := a) (b := b) (.inr (eraOk_no.2 (by omega))))
      have za : (a == 0) = false := by simp; omega
      have ia : inB a (-200001) 200000 = true := inB_yes (by omega) (by omega)
      have ja : inB (a + 1) (-200000) 200000 = true := inB_yes (by omega) (by omega)
      have na : a < 0 := by omega
      have zb : (b == 0) = false := by simp; omega
      have ib : inB b (-200001) 200000 = false := inB_no (by omega)
      have jb : inB (b + 1) (-200000) 200000 = false := inB_no (by omega)
      have nb : b < 0 := by omega
      go_enter Try.func20, Try.ntmps20
      go_wp2_with (first | (go_at_call 28; refine (in_spec _ _ _ _).mono ?_; rintro e w' ⟨rfl, rfl⟩) | (go_at_call 27; refine (is_year _ _).mono ?_; rintro e w' ⟨rfl, rfl⟩) | go_in)
      go_ret2
      exact ⟨ret_ib O.out.1 O.out.2, rfl⟩
    · have oa : eraOk a = true := eraOk_iff.2 (by omega)
      have ob : eraOk b = true := eraOk_iff.2 (by omega)
      have O := Lib.hid (sp_yes oa ob)
      have E := Lib.hid (and_true oa ob)
      clear oa ob
      have za : (a == 0) = false := by simp; omega
      have ia : inB a (-200001) 200000 = true := inB_yes (by omega) (by omega)
      have ja : inB (a + 1) (-200000) 200000 = true := inB_yes (by omega) (by omega)
      have na : a < 0 := by omega
      have zb : (b == 0) = false := by simp; omega
      have ib : inB b (-200001) 200000 = true := inB_yes (by omega) (by omega)
      have jb : inB (b + 1) (-200000) 200000 = true := inB_yes (by omega) (by omega)
      have nb : b < 0 := by omega
      go_enter Try.func20, Try.ntmps20
      go_wp2_with (first | (go_at_call 28; refine (in_spec _ _ _ _).mono ?_; rintro e w' ⟨rfl, rfl⟩) | (go_at_call 27; refine (is_year _ _).mono ?_; rintro e w' ⟨rfl, rfl⟩) | go_in)
      go_ret2
      exact ⟨ret_ib (O.out.trans (by unfold era; omega)) E.out, rfl⟩
    · have O := Lib.hid (sp_no (a := a) (b := b) (.inr (eraOk_no.2 (by omega))))
      subst cb
      have za : (a == 0) = false := by simp; omega
      have ia : inB a (-200001) 200000 = true := inB_yes (by omega) (by omega)
      have ja : inB (a + 1) (-200000) 200000 = true := inB_yes (by omega) (by omega)
      have na : a < 0 := by omega
      have ib : inB 0 (-200001) 200000 = true := inB_yes (by omega) (by omega)
      have jb : inB 0 (-200000) 200000 = true := inB_yes (by omega) (by omega)
      go_enter Try.func20, Try.ntmps20
      go_wp2_with (first | (go_at_call 28; refine (in_spec _ _ _ _).mono ?_; rintro e w' ⟨rfl, rfl⟩) | (go_at_call 27; refine (is_year _ _).mono ?_; rintro e w' ⟨rfl, rfl⟩) | go_in)
      go_ret2
      exact ⟨ret_ib O.out.1 O.out.2, rfl⟩
    · have oa : eraOk a = true := eraOk_iff.2 (by omega)
      have ob : eraOk b = true := eraOk_iff.2 (by omega)
      have O := Lib.hid (sp_yes oa ob)
      have E := Lib.hid (and_true oa ob)
      clear oa ob
      have za : (a == 0) = false := by simp; omega
      have ia : inB a (-200001) 200000 = true := inB_yes (by omega) (by omega)
      have ja : inB (a + 1) (-200000) 200000 = true := inB_yes (by omega) (by omega)
      have na : a < 0 := by omega
      have zb : (b == 0) = false := by simp; omega
      have ib : inB b (-200001) 200000 = true := inB_yes (by omega) (by omega)
      have jb : inB b (-200000) 200000 = true := inB_yes (by omega) (by omega)
      have nb : ¬ b < 0 := by omega
      go_enter Try.func20, Try.ntmps20
      go_wp2_with (first | (go_at_call 28; refine (in_spec _ _ _ _).mono ?_; rintro e w' ⟨rfl, rfl⟩) | (go_at_call 27; refine (is_year _ _).mono ?_; rintro e w' ⟨rfl, rfl⟩) | go_in)
      go_ret2
      exact ⟨ret_ib (O.out.trans (by unfold era; omega)) E.out, rfl⟩
    · have O := Lib.hid (sp_no (a := a) (b := b) (.inr (eraOk_no.2 (by omega))))
      have za : (a == 0) = false := by simp; omega
      have ia : inB a (-200001) 200000 = true := inB_yes (by omega) (by omega)
      have ja : inB (a + 1) (-200000) 200000 = true := inB_yes (by omega) (by omega)
      have na : a < 0 := by omega
      have zb : (b == 0) = false := by simp; omega
      have ib : inB b (-200001) 200000 = false := inB_no (by omega)
      have jb : inB b (-200000) 200000 = false := inB_no (by omega)
      have nb : ¬ b < 0 := by omega
      go_enter Try.func20, Try.ntmps20
      go_wp2_with (first | (go_at_call 28; refine (in_spec _ _ _ _).mono ?_; rintro e w' ⟨rfl, rfl⟩) | (go_at_call 27; refine (is_year _ _).mono ?_; rintro e w' ⟨rfl, rfl⟩) | go_in)
      go_ret2
      exact ⟨ret_ib O.out.1 O.out.2, rfl⟩
  · rcases era_where b with cb | cb | cb | cb | cb
    · have O := Lib.hid (sp_no (a := a) (b := b) (.inl (eraOk_no.2 (by omega))))
      subst ca
      have ia : inB 0 (-200001) 200000 = true := inB_yes (by omega) (by omega)
      have ja : inB 0 (-200000) 200000 = true := inB_yes (by omega) (by omega)
      have zb : (b == 0) = false := by simp; omega
      have ib : inB b (-200001) 200000 = false := inB_no (by omega)
      have jb : inB (b + 1) (-200000) 200000 = false := inB_no (by omega)
      have nb : b < 0 := by omega
      go_enter Try.func20, Try.ntmps20
      go_wp2_with (first | (go_at_call 28; refine (in_spec _ _ _ _).mono ?_; rintro e w' ⟨rfl, rfl⟩) | (go_at_call 27; refine (is_year _ _).mono ?_; rintro e w' ⟨rfl, rfl⟩) | go_in)
      go_ret2
      exact ⟨ret_ib O.out.1 O.out.2, rfl⟩
    · have O := Lib.hid (sp_no (a := a) (b := b) (.inl (eraOk_no.2 (by omega))))
      subst ca
      have ia : inB 0 (-200001) 200000 = true := inB_yes (by omega) (by omega)
      have ja : inB 0 (-200000) 200000 = true := inB_yes (by omega) (by omega)
      have zb : (b == 0) = false := by simp; omega
      have ib : inB b (-200001) 200000 = true := inB_yes (by omega) (by omega)
      have jb : inB (b + 1) (-200000) 200000 = true := inB_yes (by omega) (by omega)
      have nb : b < 0 := by omega
      go_enter Try.func20, Try.ntmps20
      go_wp2_with (first | (go_at_call 28; refine (in_spec _ _ _ _).mono ?_; rintro e w' ⟨rfl, rfl⟩) | (go_at_call 27; refine (is_year _ _).mono ?_; rintro e w' ⟨rfl, rfl⟩) | go_in)
      go_ret2
      exact ⟨ret_ib O.out.1 O.out.2, rfl⟩
    · have O := Lib.hid (sp_no (a := a) (b := b) (.inl (eraOk_no.2 (by omega))))
      subst ca
      subst cb
      have ia : inB 0 (-200001) 200000 = true := inB_yes (by omega) (by omega)
      have ja : inB 0 (-200000) 200000 = true := inB_yes (by omega) (by omega)
      go_enter Try.func20, Try.ntmps20
      go_wp2_with (first | (go_at_call 28; refine (in_spec _ _ _ _).mono ?_; rintro e w' ⟨rfl, rfl⟩) | (go_at_call 27; refine (is_year _ _).mono ?_; rintro e w' ⟨rfl, rfl⟩) | go_in)
      go_ret2
      exact ⟨ret_ib O.out.1 O.out.2, rfl⟩
    · have O := Lib.hid (sp_no (a := a) (b := b) (.inl (eraOk_no.2 (by omega))))
      subst ca
      have ia : inB 0 (-200001) 200000 = true := inB_yes (by omega) (by omega)
      have ja : inB 0 (-200000) 200000 = true := inB_yes (by omega) (by omega)
      have zb : (b == 0) = false := by simp; omega
      have ib : inB b (-200001) 200000 = true := inB_yes (by omega) (by omega)
      have jb : inB b (-200000) 200000 = true := inB_yes (by omega) (by omega)
      have nb : ¬ b < 0 := by omega
      go_enter Try.func20, Try.ntmps20
      go_wp2_with (first | (go_at_call 28; refine (in_spec _ _ _ _).mono ?_; rintro e w' ⟨rfl, rfl⟩) | (go_at_call 27; refine (is_year _ _).mono ?_; rintro e w' ⟨rfl, rfl⟩) | go_in)
      go_ret2
      exact ⟨ret_ib O.out.1 O.out.2, rfl⟩
    · have O := Lib.hid (sp_no (a := a) (b := b) (.inl (eraOk_no.2 (by omega))))
      subst ca
      have ia : inB 0 (-200001) 200000 = true := inB_yes (by omega) (by omega)
      have ja : inB 0 (-200000) 200000 = true := inB_yes (by omega) (by omega)
      have zb : (b == 0) = false := by simp; omega
      have ib : inB b (-200001) 200000 = false := inB_no (by omega)
      have jb : inB b (-200000) 200000 = false := inB_no (by omega)
      have nb : ¬ b < 0 := by omega
      go_enter Try.func20, Try.ntmps20
      go_wp2_with (first | (go_at_call 28; refine (in_spec _ _ _ _).mono ?_; rintro e w' ⟨rfl, rfl⟩) | (go_at_call 27; refine (is_year _ _).mono ?_; rintro e w' ⟨rfl, rfl⟩) | go_in)
      go_ret2
      exact ⟨ret_ib O.out.1 O.out.2, rfl⟩
  · rcases era_where b with cb | cb | cb | cb | cb
    · have O := Lib.hid (sp_no (a := a) (b := b) (.inr (eraOk_no.2 (by omega))))
      have za : (a == 0) = false := by simp; omega
      have ia : inB a (-200001) 200000 = true := inB_yes (by omega) (by omega)
      have ja : inB a (-200000) 200000 = true := inB_yes (by omega) (by omega)
      have na : ¬ a < 0 := by omega
      have zb : (b == 0) = false := by simp; omega
      have ib : inB b (-200001) 200000 = false := inB_no (by omega)
      have jb : inB (b + 1) (-200000) 200000 = false := inB_no (by omega)
      have nb : b < 0 := by omega
      go_enter Try.func20, Try.ntmps20
      go_wp2_with (first | (go_at_call 28; refine (in_spec _ _ _ _).mono ?_; rintro e w' ⟨rfl, rfl⟩) | (go_at_call 27; refine (is_year _ _).mono ?_; rintro e w' ⟨rfl, rfl⟩) | go_in)
      go_ret2
      exact ⟨ret_ib O.out.1 O.out.2, rfl⟩
    · have oa : eraOk a = true := eraOk_iff.2 (by omega)
      have ob : eraOk b = true := eraOk_iff.2 (by omega)
      have O := Lib.hid (sp_yes oa ob)
      have E := Lib.hid (and_true oa ob)
      clear oa ob
      have za : (a == 0) = false := by simp; omega
      have ia : inB a (-200001) 200000 = true := inB_yes (by omega) (by omega)
      have ja : inB a (-200000) 200000 = true := inB_yes (by omega) (by omega)
      have na : ¬ a < 0 := by omega
      have zb : (b == 0) = false := by simp; omega
      have ib : inB b (-200001) 200000 = true := inB_yes (by omega) (by omega)
      have jb : inB (b + 1) (-200000) 200000 = true := inB_yes (by omega) (by omega)
      have nb : b < 0 := by omega
      go_enter Try.func20, Try.ntmps20
      go_wp2_with (first | (go_at_call 28; refine (in_spec _ _ _ _).mono ?_; rintro e w' ⟨rfl, rfl⟩) | (go_at_call 27; refine (is_year _ _).mono ?_; rintro e w' ⟨rfl, rfl⟩) | go_in)
      go_ret2
      exact ⟨ret_ib (O.out.trans (by unfold era; omega)) E.out, rfl⟩
    · have O := Lib.hid (sp_no (a := a) (b := b) (.inr (eraOk_no.2 (by omega))))
      subst cb
      have za : (a == 0) = false := by simp; omega
      have ia : inB a (-200001) 200000 = true := inB_yes (by omega) (by omega)
      have ja : inB a (-200000) 200000 = true := inB_yes (by omega) (by omega)
      have na : ¬ a < 0 := by omega
      have ib : inB 0 (-200001) 200000 = true := inB_yes (by omega) (by omega)
      have jb : inB 0 (-200000) 200000 = true := inB_yes (by omega) (by omega)
      go_enter Try.func20, Try.ntmps20
      go_wp2_with (first | (go_at_call 28; refine (in_spec _ _ _ _).mono ?_; rintro e w' ⟨rfl, rfl⟩) | (go_at_call 27; refine (is_year _ _).mono ?_; rintro e w' ⟨rfl, rfl⟩) | go_in)
      go_ret2
      exact ⟨ret_ib O.out.1 O.out.2, rfl⟩
    · have oa : eraOk a = true := eraOk_iff.2 (by omega)
      have ob : eraOk b = true := eraOk_iff.2 (by omega)
      have O := Lib.hid (sp_yes oa ob)
      have E := Lib.hid (and_true oa ob)
      clear oa ob
      have za : (a == 0) = false := by simp; omega
      have ia : inB a (-200001) 200000 = true := inB_yes (by omega) (by omega)
      have ja : inB a (-200000) 200000 = true := inB_yes (by omega) (by omega)
      have na : ¬ a < 0 := by omega
      have zb : (b == 0) = false := by simp; omega
      have ib : inB b (-200001) 200000 = true := inB_yes (by omega) (by omega)
      have jb : inB b (-200000) 200000 = true := inB_yes (by omega) (by omega)
      have nb : ¬ b < 0 := by omega
      go_enter Try.func20, Try.ntmps20
      go_wp2_with (first | (go_at_call 28; refine (in_spec _ _ _ _).mono ?_; rintro e w' ⟨rfl, rfl⟩) | (go_at_call 27; refine (is_year _ _).mono ?_; rintro e w' ⟨rfl, rfl⟩) | go_in)
      go_ret2
      exact ⟨ret_ib (O.out.trans (by unfold era; omega)) E.out, rfl⟩
    · have O := Lib.hid (sp_no (a := a) (b := b) (.inr (eraOk_no.2 (by omega))))
      have za : (a == 0) = false := by simp; omega
      have ia : inB a (-200001) 200000 = true := inB_yes (by omega) (by omega)
      have ja : inB a (-200000) 200000 = true := inB_yes (by omega) (by omega)
      have na : ¬ a < 0 := by omega
      have zb : (b == 0) = false := by simp; omega
      have ib : inB b (-200001) 200000 = false := inB_no (by omega)
      have jb : inB b (-200000) 200000 = false := inB_no (by omega)
      have nb : ¬ b < 0 := by omega
      go_enter Try.func20, Try.ntmps20
      go_wp2_with (first | (go_at_call 28; refine (in_spec _ _ _ _).mono ?_; rintro e w' ⟨rfl, rfl⟩) | (go_at_call 27; refine (is_year _ _).mono ?_; rintro e w' ⟨rfl, rfl⟩) | go_in)
      go_ret2
      exact ⟨ret_ib O.out.1 O.out.2, rfl⟩
  · rcases era_where b with cb | cb | cb | cb | cb
    · have O := Lib.hid (sp_no (a := a) (b := b) (.inl (eraOk_no.2 (by omega))))
      have za : (a == 0) = false := by simp; omega
      have ia : inB a (-200001) 200000 = false := inB_no (by omega)
      have ja : inB a (-200000) 200000 = false := inB_no (by omega)
      have na : ¬ a < 0 := by omega
      have zb : (b == 0) = false := by simp; omega
      have ib : inB b (-200001) 200000 = false := inB_no (by omega)
      have jb : inB (b + 1) (-200000) 200000 = false := inB_no (by omega)
      have nb : b < 0 := by omega
      go_enter Try.func20, Try.ntmps20
      go_wp2_with (first | (go_at_call 28; refine (in_spec _ _ _ _).mono ?_; rintro e w' ⟨rfl, rfl⟩) | (go_at_call 27; refine (is_year _ _).mono ?_; rintro e w' ⟨rfl, rfl⟩) | go_in)
      go_ret2
      exact ⟨ret_ib O.out.1 O.out.2, rfl⟩
    · have O := Lib.hid (sp_no (a := a) (b := b) (.inl (eraOk_no.2 (by omega))))
      have za : (a == 0) = false := by simp; omega
      have ia : inB a (-200001) 200000 = false := inB_no (by omega)
      have ja : inB a (-200000) 200000 = false := inB_no (by omega)
      have na : ¬ a < 0 := by omega
      have zb : (b == 0) = false := by simp; omega
      have ib : inB b (-200001) 200000 = true := inB_yes (by omega) (by omega)
      have jb : inB (b + 1) (-200000) 200000 = true := inB_yes (by omega) (by omega)
      have nb : b < 0 := by omega
      go_enter Try.func20, Try.ntmps20
      go_wp2_with (first | (go_at_call 28; refine (in_spec _ _ _ _).mono ?_; rintro e w' ⟨rfl, rfl⟩) | (go_at_call 27; refine (is_year _ _).mono ?_; rintro e w' ⟨rfl, rfl⟩) | go_in)
      go_ret2
      exact ⟨ret_ib O.out.1 O.out.2, rfl⟩
    · have O := Lib.hid (sp_no (a := a) (b := b) (.inl (eraOk_no.2 (by omega))))
      subst cb
      have za : (a == 0) = false := by simp; omega
      have ia : inB a (-200001) 200000 = false := inB_no (by omega)
      have ja : inB a (-200000) 200000 = false := inB_no (by omega)
      have na : ¬ a < 0 := by omega
      have ib : inB 0 (-200001) 200000 = true := inB_yes (by omega) (by omega)
      have jb : inB 0 (-200000) 200000 = true := inB_yes (by omega) (by omega)
      go_enter Try.func20, Try.ntmps20
      go_wp2_with (first | (go_at_call 28; refine (in_spec _ _ _ _).mono ?_; rintro e w' ⟨rfl, rfl⟩) | (go_at_call 27; refine (is_year _ _).mono ?_; rintro e w' ⟨rfl, rfl⟩) | go_in)
      go_ret2
      exact ⟨ret_ib O.out.1 O.out.2, rfl⟩
    · have O := Lib.hid (sp_no (a := a) (b := b) (.inl (eraOk_no.2 (by omega))))
      have za : (a == 0) = false := by simp; omega
      have ia : inB a (-200001) 200000 = false := inB_no (by omega)
      have ja : inB a (-200000) 200000 = false := inB_no (by omega)
      have na : ¬ a < 0 := by omega
      have zb : (b == 0) = false := by simp; omega
      have ib : inB b (-200001) 200000 = true := inB_yes (by omega) (by omega)
      have jb : inB b (-200000) 200000 = true := inB_yes (by omega) (by omega)
      have nb : ¬ b < 0 := by omega
      go_enter Try.func20, Try.ntmps20
      go_wp2_with (first | (go_at_call 28; refine (in_spec _ _ _ _).mono ?_; rintro e w' ⟨rfl, rfl⟩) | (go_at_call 27; refine (is_year _ _).mono ?_; rintro e w' ⟨rfl, rfl⟩) | go_in)
      go_ret2
      exact ⟨ret_ib O.out.1 O.out.2, rfl⟩
    · have O := Lib.hid (sp_no (a := a) (b := b) (.inl (eraOk_no.2 (by omega))))
      have za : (a == 0) = false := by simp; omega
      have ia : inB a (-200001) 200000 = false := inB_no (by omega)
      have ja : inB a (-200000) 200000 = false := inB_no (by omega)
      have na : ¬ a < 0 := by omega
      have zb : (b == 0) = false := by simp; omega
      have ib : inB b (-200001) 200000 = false := inB_no (by omega)
      have jb : inB b (-200000) 200000 = false := inB_no (by omega)
      have nb : ¬ b < 0 := by omega
      go_enter Try.func20, Try.ntmps20
      go_wp2_with (first | (go_at_call 28; refine (in_spec _ _ _ _).mono ?_; rintro e w' ⟨rfl, rfl⟩) | (go_at_call 27; refine (is_year _ _).mono ?_; rintro e w' ⟨rfl, rfl⟩) | go_in)
      go_ret2
      exact ⟨ret_ib O.out.1 O.out.2, rfl⟩

end Go.Proofs.Ytpebdligpdlmlaa
