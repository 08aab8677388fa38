/-
  The walks of the laws on years: drawn years, ages, numbers of eras.
  Conditions: the bytes can be read.
-/
import Derived.Test.YtpebdligpdlmlaaYw
namespace Go.Proofs.Ytpebdligpdlmlaa
open Go.RowKit

set_option maxHeartbeats 1000000 in
theorem walk_fnExactYearSpan (a b : Int) (w : World) (ha : I64 a) (hb : I64 b) : Calls Try.prog 7 #[.int .i64 a, .int .i64 b] w fun e w' => e = .returned (.bool true) ∧ Below w.heap.size w w' := by
  go_enter Try.func7, Try.ntmps7
  go_wp2_with (first | (go_at_call 21; refine (span_impl _ _ _ ha hb).mono ?_; rintro e w' ⟨rfl, rfl⟩) | (go_at_call 20; refine (span_spec _ _ _ ha hb).mono ?_; rintro e w' ⟨rfl, rfl⟩))
  go_ret
  exact ⟨rfl, Below.refl _ _⟩

set_option maxHeartbeats 4000000 in
theorem walk_fnYearOld (a : Option Addr) (len cap : Nat) (w : World) (h : Code w a len cap) : Calls Try.prog 8 #[.slice a len cap] w fun e w' => e = .returned (.bool true) ∧ Below w.heap.size w w' := by
  have hm : len ≤ 9223372036854775807 := by have h1 := h.1; have h2 := h.2.1; unfold maxLen at h2; omega
  have H := Lib.hid h
  clear h
  by_cases hl : 1048576 < len
  · go_enter Try.func8, Try.ntmps8
    go_wp2
    go_ret
    exact ⟨rfl, Below.refl _ _⟩
  go_enter Try.func8, Try.ntmps8
  go_wp2_with fail
  refine (dDrawYearOld a len cap _ H.out).mono ?_
  rintro e w1 ⟨y, rfl, y1, y2, hB⟩
  have B := Lib.hid hB
  clear hB
  have k0 : inB 1950 (-200000) 200000 = true := inB_yes (by omega) (by omega)
  have e0 : (1950 - (y - 1) == 1950 - y + 1) = true := by simp; omega
  cases c : inB y (-200000) 200000
  · go_wp2_with (first | (go_at_call 28; refine (in_spec _ _ _ _).mono ?_; rintro e w' ⟨rfl, rfl⟩) | (go_at_call 27; refine (is_year _ _).mono ?_; rintro e w' ⟨rfl, rfl⟩) | go_in)
    go_ret
    exact ⟨rfl, B.out⟩
  · obtain ⟨c1, c2⟩ := inB_iff.1 c
    by_cases d : y = -200000
    · subst d
      have c' : inB (-200001) (-200000) 200000 = false := inB_no (by omega)
      go_wp2_with (first | (go_at_call 28; refine (in_spec _ _ _ _).mono ?_; rintro e w' ⟨rfl, rfl⟩) | (go_at_call 27; refine (is_year _ _).mono ?_; rintro e w' ⟨rfl, rfl⟩) | go_in)
      go_ret
      exact ⟨rfl, B.out⟩
    · have c' : inB (y - 1) (-200000) 200000 = true := inB_yes (by omega) (by omega)
      go_wp2_with (first | (go_at_call 28; refine (in_spec _ _ _ _).mono ?_; rintro e w' ⟨rfl, rfl⟩) | (go_at_call 27; refine (is_year _ _).mono ?_; rintro e w' ⟨rfl, rfl⟩) | go_in)
      go_ret
      exact ⟨rfl, B.out⟩

set_option maxHeartbeats 4000000 in
theorem walk_fnYearOfRange (a : Option Addr) (len cap : Nat) (w : World) (h : Code w a len cap) : Calls Try.prog 9 #[.slice a len cap] w fun e w' => e = .returned (.bool true) ∧ Below w.heap.size w w' := by
  have hm : len ≤ 9223372036854775807 := by have h1 := h.1; have h2 := h.2.1; unfold maxLen at h2; omega
  have H := Lib.hid h
  clear h
  by_cases hl : 1048576 < len
  · go_enter Try.func9, Try.ntmps9
    go_wp2
    go_ret
    exact ⟨rfl, Below.refl _ _⟩
  go_enter Try.func9, Try.ntmps9
  go_wp2_with fail
  refine (dDrawYearOf a len cap _ H.out).mono ?_
  rintro e w1 ⟨y, rfl, y1, y2, hB⟩
  have B := Lib.hid hB
  clear hB
  have k0 : inB (-200001) (-200000) 200000 = false := inB_no (by omega)
  have k1 : inB 200001 (-200000) 200000 = false := inB_no (by omega)
  have k2 : inB 202001 (-400000) 400000 = true := inB_yes (by omega) (by omega)
  have k3 : inB (-198001) (-400000) 400000 = true := inB_yes (by omega) (by omega)
  by_cases c1 : y < -400000
  · have i1 : inB y (-400000) 400000 = false := inB_no (by omega)
    go_wp2_with (first | (go_at_call 28; refine (in_spec _ _ _ _).mono ?_; rintro e w' ⟨rfl, rfl⟩) | (go_at_call 27; refine (is_year _ _).mono ?_; rintro e w' ⟨rfl, rfl⟩) | go_in)
    go_ret
    exact ⟨rfl, B.out⟩
  · by_cases c2 : 400000 < y
    · have i1 : inB y (-400000) 400000 = false := inB_no (by omega)
      go_wp2_with (first | (go_at_call 28; refine (in_spec _ _ _ _).mono ?_; rintro e w' ⟨rfl, rfl⟩) | (go_at_call 27; refine (is_year _ _).mono ?_; rintro e w' ⟨rfl, rfl⟩) | go_in)
      go_ret
      exact ⟨rfl, B.out⟩
    · have i1 : inB y (-400000) 400000 = true := inB_yes (by omega) (by omega)
      cases c : inB (2000 - y) (-200000) 200000
      · go_wp2_with (first | (go_at_call 28; refine (in_spec _ _ _ _).mono ?_; rintro e w' ⟨rfl, rfl⟩) | (go_at_call 27; refine (is_year _ _).mono ?_; rintro e w' ⟨rfl, rfl⟩) | go_in)
        go_ret
        exact ⟨rfl, B.out⟩
      · obtain ⟨d1, d2⟩ := inB_iff.1 c
        go_wp2_with (first | (go_at_call 28; refine (in_spec _ _ _ _).mono ?_; rintro e w' ⟨rfl, rfl⟩) | (go_at_call 27; refine (is_year _ _).mono ?_; rintro e w' ⟨rfl, rfl⟩) | go_in)
        go_ret
        exact ⟨rfl, B.out⟩

set_option maxHeartbeats 4000000 in
theorem walk_fnYearAge (a : Option Addr) (len cap : Nat) (w : World) (h : Code w a len cap) : Calls Try.prog 10 #[.slice a len cap] w fun e w' => e = .returned (.bool true) ∧ Below w.heap.size w w' := by
  have hm : len ≤ 9223372036854775807 := by have h1 := h.1; have h2 := h.2.1; unfold maxLen at h2; omega
  have H := Lib.hid h
  clear h
  by_cases hl : 1048576 < len
  · go_enter Try.func10, Try.ntmps10
    go_wp2
    go_ret
    exact ⟨rfl, Below.refl _ _⟩
  go_enter Try.func10, Try.ntmps10
  go_wp2_with fail
  refine (dDrawYearAge a len cap _ H.out).mono ?_
  rintro e w1 ⟨y, rfl, y1, y2, hB⟩
  have B := Lib.hid hB
  clear hB
  have e0 : (2000 - (2000 - y) == y) = true := by simp; omega
  have e1 : (2000 - y == 1950 - y + 50) = true := by simp; omega
  cases c : inB y (-200000) 200000
  · go_wp2_with (first | (go_at_call 28; refine (in_spec _ _ _ _).mono ?_; rintro e w' ⟨rfl, rfl⟩) | (go_at_call 27; refine (is_year _ _).mono ?_; rintro e w' ⟨rfl, rfl⟩) | go_in)
    go_ret
    exact ⟨rfl, B.out⟩
  · obtain ⟨c1, c2⟩ := inB_iff.1 c
    have c' : inB (2000 - (2000 - y)) (-200000) 200000 = true := inB_yes (by omega) (by omega)
    go_wp2_with (first | (go_at_call 28; refine (in_spec _ _ _ _).mono ?_; rintro e w' ⟨rfl, rfl⟩) | (go_at_call 27; refine (is_year _ _).mono ?_; rintro e w' ⟨rfl, rfl⟩) | go_in)
    go_ret
    exact ⟨rfl, B.out⟩

theorem sp_bd {a b : Int} (ha : -300000 ≤ a ∧ a ≤ 300000) (hb : -300000 ≤ b ∧ b ≤ 300000) : -600001 ≤ spN a b ∧ spN a b ≤ 600001 := by
  unfold spN era
  split <;> omega
theorem and_split {p q : Bool} (h : (p && q) = true) : p = true ∧ q = true := by
  rw [Bool.and_eq_true] at h; exact h
theorem sp_swap (a b : Int) : spN b a = 0 - spN a b := by
  unfold spN
  rw [Bool.and_comm]
  split <;> omega
theorem sp_self {a : Int} : spN a a = 0 := by unfold spN; split <;> omega
theorem sp_three {a b c : Int} (ha : eraOk a = true) (hb : eraOk b = true) (hc : eraOk c = true) : spN a c + spN c b = spN a b := by
  rw [sp_yes ha hb, sp_yes ha hc, sp_yes hc hb]; omega
theorem sp_era {a b : Int} (ha : eraOk a = true) (hb : eraOk b = true) : (decide (a > 0) = decide (b > 0) → spN a b = b - a) ∧ (decide (a > 0) ≠ decide (b > 0) → (0 < b - a ∧ spN a b = b - a - 1) ∨ (b - a < 0 ∧ spN a b = b - a + 1)) := by
  rw [eraOk_iff] at ha hb
  rw [sp_yes (eraOk_iff.2 ha) (eraOk_iff.2 hb)]
  unfold era
  constructor
  · intro h
    rw [decide_eq_decide] at h
    omega
  · intro h
    have h2 : ¬ (a > 0 ↔ b > 0) := fun e => h (decide_eq_decide.2 e)
    omega

set_option maxHeartbeats 4000000 in
theorem walk_fnYearSpan (a : Option Addr) (len cap : Nat) (w : World) (h : Code w a len cap) : Calls Try.prog 11 #[.slice a len cap] w fun e w' => e = .returned (.bool true) ∧ Below w.heap.size w w' := by
  have hm : len ≤ 9223372036854775807 := by have h1 := h.1; have h2 := h.2.1; unfold maxLen at h2; omega
  have H := Lib.hid h
  clear h
  by_cases hl : 1048576 < len
  · go_enter Try.func11, Try.ntmps11
    go_wp2
    go_ret
    exact ⟨rfl, Below.refl _ _⟩
  go_enter Try.func11, Try.ntmps11
  go_wp2_with fail
  refine (dDrawYearSpan a len cap _ H.out).mono ?_
  rintro e w1 ⟨x, y, rfl, x1, x2, y1, y2, hB⟩
  have B := Lib.hid hB
  clear hB
  have bd := sp_bd ⟨x1, x2⟩ ⟨y1, y2⟩
  cases c : (eraOk x && eraOk y)
  · go_wp2_with (first | (go_at_call 21; refine (span_impl _ _ _ (by unfold I64; omega) (by unfold I64; omega)).mono ?_; rintro e w' ⟨rfl, rfl⟩) | (go_at_call 20; refine (span_spec _ _ _ (by unfold I64; omega) (by unfold I64; omega)).mono ?_; rintro e w' ⟨rfl, rfl⟩))
    go_ret
    exact ⟨rfl, B.out⟩
  · obtain ⟨c1, c2⟩ := and_split c
    have S1 : (spN y x == -spN x y) = true := by rw [sp_swap x y]; simp
    have S2 : (spN x x == 0) = true := by rw [sp_self]; rfl
    have S3 : (spN (-1) 1 == 1) = true := by decide
    have m1 : eraOk (-1) = true := by decide
    have m2 : eraOk 1 = true := by decide
    go_wp2_with (first | (go_at_call 21; refine (span_impl _ _ _ (by unfold I64; omega) (by unfold I64; omega)).mono ?_; rintro e w' ⟨rfl, rfl⟩) | (go_at_call 20; refine (span_spec _ _ _ (by unfold I64; omega) (by unfold I64; omega)).mono ?_; rintro e w' ⟨rfl, rfl⟩))
    go_ret
    exact ⟨rfl, B.out⟩

set_option maxHeartbeats 4000000 in
theorem walk_fnYearSpanEra (a : Option Addr) (len cap : Nat) (w : World) (h : Code w a len cap) : Calls Try.prog 12 #[.slice a len cap] w fun e w' => e = .returned (.bool true) ∧ Below w.heap.size w w' := by
  have hm : len ≤ 9223372036854775807 := by have h1 := h.1; have h2 := h.2.1; unfold maxLen at h2; omega
  have H := Lib.hid h
  clear h
  by_cases hl : 1048576 < len
  · go_enter Try.func12, Try.ntmps12
    go_wp2
    go_ret
    exact ⟨rfl, Below.refl _ _⟩
  go_enter Try.func12, Try.ntmps12
  go_wp2_with fail
  refine (dDrawYearSpan a len cap _ H.out).mono ?_
  rintro e w1 ⟨x, y, rfl, x1, x2, y1, y2, hB⟩
  have B := Lib.hid hB
  clear hB
  have bd := sp_bd ⟨x1, x2⟩ ⟨y1, y2⟩
  cases c : (eraOk x && eraOk y)
  · go_wp2_with (first | (go_at_call 21; refine (span_impl _ _ _ (by unfold I64; omega) (by unfold I64; omega)).mono ?_; rintro e w' ⟨rfl, rfl⟩) | (go_at_call 20; refine (span_spec _ _ _ (by unfold I64; omega) (by unfold I64; omega)).mono ?_; rintro e w' ⟨rfl, rfl⟩))
    go_ret
    exact ⟨rfl, B.out⟩
  · obtain ⟨c1, c2⟩ := and_split c
    have S := Lib.hid (sp_era c1 c2)
    by_cases px : 0 < x
    · have nx : ¬ x ≤ 0 := by omega
      by_cases py : 0 < y
      · have v : (spN x y == y - x) = true := by rw [S.out.1 (by simp [px, py])]; simp
        go_wp2_with (first | (go_at_call 21; refine (span_impl _ _ _ (by unfold I64; omega) (by unfold I64; omega)).mono ?_; rintro e w' ⟨rfl, rfl⟩) | (go_at_call 20; refine (span_spec _ _ _ (by unfold I64; omega) (by unfold I64; omega)).mono ?_; rintro e w' ⟨rfl, rfl⟩))
        go_ret
        exact ⟨rfl, B.out⟩
      · have v := Lib.hid (S.out.2 (by simp [px]; omega))
        rcases v.out with ⟨v1, v2⟩ | ⟨v1, v2⟩
        · exfalso; omega
        · have v' : (spN x y == y - x + 1) = true := by rw [v2]; simp
          clear v2
          go_wp2_with (first | (go_at_call 21; refine (span_impl _ _ _ (by unfold I64; omega) (by unfold I64; omega)).mono ?_; rintro e w' ⟨rfl, rfl⟩) | (go_at_call 20; refine (span_spec _ _ _ (by unfold I64; omega) (by unfold I64; omega)).mono ?_; rintro e w' ⟨rfl, rfl⟩))
          go_ret
          exact ⟨rfl, B.out⟩
    · by_cases py : 0 < y
      · have v := Lib.hid (S.out.2 (by simp [py]; omega))
        rcases v.out with ⟨v1, v2⟩ | ⟨v1, v2⟩
        · have v' : (spN x y == y - x - 1) = true := by rw [v2]; simp
          clear v2
          go_wp2_with (first | (go_at_call 21; refine (span_impl _ _ _ (by unfold I64; omega) (by unfold I64; omega)).mono ?_; rintro e w' ⟨rfl, rfl⟩) | (go_at_call 20; refine (span_spec _ _ _ (by unfold I64; omega) (by unfold I64; omega)).mono ?_; rintro e w' ⟨rfl, rfl⟩))
          go_ret
          exact ⟨rfl, B.out⟩
        · exfalso; omega
      · have v : (spN x y == y - x) = true := by rw [S.out.1 (by simp; omega)]; simp
        have dx : decide (0 < x) = false := by simp; omega
        have dy : decide (0 < y) = false := by simp; omega
        go_wp2_with (first | (go_at_call 21; refine (span_impl _ _ _ (by unfold I64; omega) (by unfold I64; omega)).mono ?_; rintro e w' ⟨rfl, rfl⟩) | (go_at_call 20; refine (span_spec _ _ _ (by unfold I64; omega) (by unfold I64; omega)).mono ?_; rintro e w' ⟨rfl, rfl⟩))
        go_ret
        exact ⟨rfl, B.out⟩

set_option maxHeartbeats 4000000 in
theorem walk_fnYearSpanThree (a : Option Addr) (len cap : Nat) (a' : Option Addr) (len' cap' : Nat) (w : World) (h : Code w a len cap) (h' : Code w a' len' cap') : Calls Try.prog 13 #[.slice a len cap, .slice a' len' cap'] w fun e w' => e = .returned (.bool true) ∧ Below w.heap.size w w' := by
  have hm : len ≤ 9223372036854775807 := by have h1 := h.1; have h2 := h.2.1; unfold maxLen at h2; omega
  have hm' : len' ≤ 9223372036854775807 := by have h1 := h'.1; have h2 := h'.2.1; unfold maxLen at h2; omega
  have H := Lib.hid h
  clear h
  by_cases hl : 1048576 < len
  · go_enter Try.func13, Try.ntmps13
    go_wp2
    go_ret
    exact ⟨rfl, Below.refl _ _⟩
  by_cases hl' : 1048576 < len'
  · go_enter Try.func13, Try.ntmps13
    go_wp2
    go_ret
    exact ⟨rfl, Below.refl _ _⟩
  go_enter Try.func13, Try.ntmps13
  go_wp2_with fail
  refine (dDrawYearSpan a len cap _ H.out).mono ?_
  rintro e w1 ⟨x, y, rfl, x1, x2, y1, y2, hB⟩
  have B := Lib.hid hB
  clear hB
  have bd := sp_bd ⟨x1, x2⟩ ⟨y1, y2⟩
  cases c : (eraOk x && eraOk y)
  · go_wp2_with (first | (go_at_call 21; refine (span_impl _ _ _ (by unfold I64; omega) (by unfold I64; omega)).mono ?_; rintro e w' ⟨rfl, rfl⟩) | (go_at_call 20; refine (span_spec _ _ _ (by unfold I64; omega) (by unfold I64; omega)).mono ?_; rintro e w' ⟨rfl, rfl⟩))
    go_ret
    exact ⟨rfl, B.out⟩
  · obtain ⟨c1, c2⟩ := and_split c
    have q1 : 0 ≤ (len' : Int) % 400 := by omega
    have q2 : (len' : Int) % 400 < 400 := by omega
    by_cases z : (len' : Int) % 400 = 200
    · have z' : ((len' : Int) % 400 - 200 == 0) = true := by simp; omega
      have oc : eraOk 7 = true := by decide
      have b1 := sp_bd (a := x) (b := 7) ⟨x1, x2⟩ ⟨by omega, by omega⟩
      have b2 := sp_bd (a := 7) (b := y) ⟨by omega, by omega⟩ ⟨y1, y2⟩
      have S : (spN x 7 + spN 7 y == spN x y) = true := by rw [sp_three c1 c2 oc]; simp
      go_wp2_with (first | (go_at_call 21; refine (span_impl _ _ _ (by unfold I64; omega) (by unfold I64; omega)).mono ?_; rintro e w' ⟨rfl, rfl⟩) | (go_at_call 20; refine (span_spec _ _ _ (by unfold I64; omega) (by unfold I64; omega)).mono ?_; rintro e w' ⟨rfl, rfl⟩))
      go_ret
      exact ⟨rfl, B.out⟩
    · have z' : ((len' : Int) % 400 - 200 == 0) = false := by simp; omega
      have oc : eraOk ((len' : Int) % 400 - 200) = true := eraOk_iff.2 (by omega)
      have b1 := sp_bd (a := x) (b := (len' : Int) % 400 - 200) ⟨x1, x2⟩ ⟨by omega, by omega⟩
      have b2 := sp_bd (a := (len' : Int) % 400 - 200) (b := y) ⟨by omega, by omega⟩ ⟨y1, y2⟩
      have S : (spN x ((len' : Int) % 400 - 200) + spN ((len' : Int) % 400 - 200) y == spN x y) = true := by rw [sp_three c1 c2 oc]; simp
      go_wp2_with (first | (go_at_call 21; refine (span_impl _ _ _ (by unfold I64; omega) (by unfold I64; omega)).mono ?_; rintro e w' ⟨rfl, rfl⟩) | (go_at_call 20; refine (span_spec _ _ _ (by unfold I64; omega) (by unfold I64; omega)).mono ?_; rintro e w' ⟨rfl, rfl⟩))
      go_ret
      exact ⟨rfl, B.out⟩

end Go.Proofs.Ytpebdligpdlmlaa
