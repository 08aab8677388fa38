/-
  The reference's reading of a text.
  Conditions: none.
-/
import Derived.Test.YtaikebigaiimaaaDoorVd
namespace Go.Proofs.YtaikebigaiimaaaDoor
open Go.RowKit

/-- what lies ahead of the first blank, and the rest -/
def pre : List UInt8 → List UInt8
  | [] => []
  | c :: r => if c == 32 then [] else c :: pre r
def post : List UInt8 → List UInt8
  | [] => []
  | c :: r => if c == 32 then c :: r else post r
theorem pre_post (l : List UInt8) : pre l ++ post l = l := by
  induction l with
  | nil => rfl
  | cons c r ih =>
    unfold pre post
    cases c == 32
    · show c :: (pre r ++ post r) = _
      rw [ih]
    · rfl
theorem pre_at : ∀ {l : List UInt8} {k : Nat} (_ : k ≤ l.length), (∀ j (h : j < l.length), j < k → l[j] ≠ 32) → (∀ h : k < l.length, l[k] = 32) → pre l = l.take k ∧ post l = l.drop k := by
  intro l
  induction l with
  | nil => intro k _ _ _; simp [pre, post]
  | cons c r ih =>
    intro k hk h1 h2
    cases k with
    | zero =>
      have : c = 32 := h2 (by simp)
      subst this
      exact ⟨rfl, rfl⟩
    | succ k =>
      have hc : (c == 32) = false := beq_eq_false_iff_ne.2 (h1 0 (by simp) (by omega))
      have h3 := ih (k := k) (by simpa using hk) (fun j h hj => h1 (j + 1) (by simpa using h) (by omega)) (fun h => h2 (by simpa using h))
      unfold pre post
      rw [hc]
      exact ⟨by show c :: pre r = _; rw [h3.1]; rfl, h3.2⟩
/-- the year that a text would name -/
def yv (l : List UInt8) : Int := if post l = [32, 66, 67, 69] then 1 - dv (pre l) else dv (pre l)
def fb (l : List UInt8) : Bool := decide (0 ≤ dv (pre l) ∧ yL (yv l) = l)
def fv (l : List UInt8) : Int := if fb l then yv l else 0
theorem fv_yes {l : List UInt8} (h : fb l = true) : fv l = yv l := by unfold fv; rw [h]; rfl
theorem fv_no {l : List UInt8} (h : fb l = false) : fv l = 0 := by unfold fv; rw [h]; rfl
theorem ret_ib {a b : Int} {o q : Bool} (h : a = b) (k : o = q) : Ending.returned (.tuple #[.int .i64 a, .bool o]) = .returned (.tuple #[.int .i64 b, .bool q]) := by rw [h, k]
set_option maxRecDepth 100000 in
set_option maxHeartbeats 1000000 in
theorem from_spec (l : List UInt8) (w : World) (hl : l.length ≤ 2000000) :
    Calls Tryd.prog 12 #[.string (tx l)] w fun e w' => e = .returned (.tuple #[.int .i64 (fv l), .bool (fb l)]) ∧ Below w.heap.size w w' := by
  have hsz : (tx l).size = l.length := tx_size l
  have TL := hide (tx_list l)
  go_enter Tryd.func12, Tryd.ntmps12
  go_wp2_with fail
  go_loopw [4] (fun i wr => ∃ k : Nat, i = .int .i64 k ∧ k ≤ l.length ∧ (∀ j (h : j < l.length), j < k → l[j] ≠ 32) ∧ Below w.heap.size w wr) (fun i _ => l.length - (intOf i).toNat)
  case atStart => exact ⟨0, rfl, Nat.zero_le _, fun j _ h => absurd h (Nat.not_lt_zero _), st_refl w⟩
  case round =>
    obtain ⟨k, rfl, hk, ha, hb⟩ := hrel
    have Bk := hide hb
    have HA := hide ha
    clear hb ha
    by_cases go : ∃ h : k < l.length, l[k] ≠ 32
    · obtain ⟨hkl, hne⟩ := go
      have hkz : (k : Int) < (l.length : Int) := by omega
      have e1 : ((((tx l)[k]'(by omega)).toNat : Int) == 32) = false := by
        rw [beq_eq_false_iff_ne]
        intro e
        exact hne (UInt8.toNat_inj.1 (by show l[k].toNat = 32; have : (((tx l)[k]'(by omega)).toNat) = l[k].toNat := rfl; omega))
      have e2 : ¬ (((tx l)[k]'(by omega)).toNat : Int) = 32 := by simpa using e1
      have HN := hide hne
      clear hne
      go_wp2
      go_roundw
      case rel => exact ⟨k + 1, by simp, by omega, fun j h hj => by
        by_cases e : j = k
        · subst e; exact HN.out
        · exact HA.out j h (by omega), Bk.out⟩
      case measure => simp [intOf]; omega
    · have hp := pre_at hk HA.out (fun h => Classical.byContradiction fun e => go ⟨h, e⟩)
      have HK : Hid (∀ h : k < l.length, l[k] = 32) := fun h => Classical.byContradiction fun e => go ⟨h, e⟩
      have E0 : (tx l).extract 0 k = tx (pre l) := by
        rw [hp.1]
        have := tx_cut0 (l.take k) (l.drop k)
        rw [List.take_append_drop, List.length_take, Nat.min_eq_left hk] at this
        exact this
      have E1 : (tx l).extract k l.length = tx (post l) := by
        rw [hp.2]
        have := tx_cut1 (l.take k) (l.drop k)
        rw [List.take_append_drop, List.length_take, Nat.min_eq_left hk] at this
        exact this
      have DP := hide (fun w => digits_any (pre l) w (by rw [hp.1, List.length_take]; omega))
      have db := dv_bd (pre l)
      have YV : Hid (yv l = if post l = [32, 66, 67, 69] then 1 - dv (pre l) else dv (pre l)) := rfl
      have FB : Hid (fb l = decide (0 ≤ dv (pre l) ∧ yL (yv l) = l)) := rfl
      have E2 : Hid ((tx (post l)).toList = post l) := tx_list _
      clear hp go
      generalize dv (pre l) = n at *
      generalize pre l = p at *
      generalize post l = q at *
      by_cases hkl : k < l.length
      · have hkz : (k : Int) < (l.length : Int) := by omega
        have e1 : ((((tx l)[k]'(by omega)).toNat : Int) == 32) = true := by
          rw [beq_iff_eq]
          have : (((tx l)[k]'(by omega)).toNat) = l[k].toNat := rfl
          rw [this, HK.out hkl]; rfl
        have e2 : (((tx l)[k]'(by omega)).toNat : Int) = 32 := by simpa using e1
        go_wp2_with fail
        refine (DP.out _).mono ?_
        rintro e w2 ⟨rfl, hb⟩
        have B2 := hide (st_trans Bk.out hb)
        clear hb
        by_cases hq : q = [32, 66, 67, 69]
        · have EQ : ((tx q).toList == [32, 66, 67, 69]) = true := by rw [E2.out, hq]; exact beq_self_eq_true _
          have Y : Hid (yv l = 1 - n) := by show _ = _; rw [YV.out, if_pos hq]
          clear hq
          by_cases hn : n < 0
          · have F : Hid (fb l = false) := by show _ = _; rw [FB.out]; exact decide_eq_false (fun h => by omega)
            go_wp2
            go_ret2
            exact ⟨ret_ib (fv_no F.out).symm F.out.symm, B2.out⟩
          · go_wp2_with fail
            refine (text_spec (1 - n) _).mono ?_
            rintro e w3 ⟨rfl, hb⟩
            have B3 := hide (st_trans B2.out hb)
            clear hb
            by_cases he : yL (1 - n) = l
            · have F : Hid (fb l = true) := by show _ = _; rw [FB.out]; exact decide_eq_true ⟨by omega, by rw [Y.out]; exact he⟩
              have e5 : ((tx (yL (1 - n))).toList == (tx l).toList) = true := by rw [he]; exact beq_self_eq_true _
              have e6 : (tx (yL (1 - n))).toList = (tx l).toList := by rw [he]
              clear he
              go_wp2
              go_ret2
              exact ⟨ret_ib ((fv_yes F.out).trans Y.out).symm F.out.symm, B3.out⟩
            · have F : Hid (fb l = false) := by show _ = _; rw [FB.out]; exact decide_eq_false (fun h => he (by have h2 := h.2; rw [Y.out] at h2; exact h2))
              have e6 : ¬ (tx (yL (1 - n))).toList = (tx l).toList := by rw [tx_list, tx_list]; exact he
              have e5 : ((tx (yL (1 - n))).toList == (tx l).toList) = false := beq_eq_false_iff_ne.2 e6
              clear he
              go_wp2
              go_ret2
              exact ⟨ret_ib (fv_no F.out).symm F.out.symm, B3.out⟩
        · have EQ : ((tx q).toList == [32, 66, 67, 69]) = false := by rw [E2.out]; exact beq_eq_false_iff_ne.2 hq
          have Y : Hid (yv l = n) := by show _ = _; rw [YV.out, if_neg hq]
          clear hq
          by_cases hn : n < 0
          · have F : Hid (fb l = false) := by show _ = _; rw [FB.out]; exact decide_eq_false (fun h => by omega)
            go_wp2
            go_ret2
            exact ⟨ret_ib (fv_no F.out).symm F.out.symm, B2.out⟩
          · go_wp2_with fail
            refine (text_spec (n) _).mono ?_
            rintro e w3 ⟨rfl, hb⟩
            have B3 := hide (st_trans B2.out hb)
            clear hb
            by_cases he : yL (n) = l
            · have F : Hid (fb l = true) := by show _ = _; rw [FB.out]; exact decide_eq_true ⟨by omega, by rw [Y.out]; exact he⟩
              have e5 : ((tx (yL (n))).toList == (tx l).toList) = true := by rw [he]; exact beq_self_eq_true _
              have e6 : (tx (yL (n))).toList = (tx l).toList := by rw [he]
              clear he
              go_wp2
              go_ret2
              exact ⟨ret_ib ((fv_yes F.out).trans Y.out).symm F.out.symm, B3.out⟩
            · have F : Hid (fb l = false) := by show _ = _; rw [FB.out]; exact decide_eq_false (fun h => he (by have h2 := h.2; rw [Y.out] at h2; exact h2))
              have e6 : ¬ (tx (yL (n))).toList = (tx l).toList := by rw [tx_list, tx_list]; exact he
              have e5 : ((tx (yL (n))).toList == (tx l).toList) = false := beq_eq_false_iff_ne.2 e6
              clear he
              go_wp2
              go_ret2
              exact ⟨ret_ib (fv_no F.out).symm F.out.symm, B3.out⟩
      · go_wp2_with fail
        refine (DP.out _).mono ?_
        rintro e w2 ⟨rfl, hb⟩
        have B2 := hide (st_trans Bk.out hb)
        clear hb
        by_cases hq : q = [32, 66, 67, 69]
        · have EQ : ((tx q).toList == [32, 66, 67, 69]) = true := by rw [E2.out, hq]; exact beq_self_eq_true _
          have Y : Hid (yv l = 1 - n) := by show _ = _; rw [YV.out, if_pos hq]
          clear hq
          by_cases hn : n < 0
          · have F : Hid (fb l = false) := by show _ = _; rw [FB.out]; exact decide_eq_false (fun h => by omega)
            go_wp2
            go_ret2
            exact ⟨ret_ib (fv_no F.out).symm F.out.symm, B2.out⟩
          · go_wp2_with fail
            refine (text_spec (1 - n) _).mono ?_
            rintro e w3 ⟨rfl, hb⟩
            have B3 := hide (st_trans B2.out hb)
            clear hb
            by_cases he : yL (1 - n) = l
            · have F : Hid (fb l = true) := by show _ = _; rw [FB.out]; exact decide_eq_true ⟨by omega, by rw [Y.out]; exact he⟩
              have e5 : ((tx (yL (1 - n))).toList == (tx l).toList) = true := by rw [he]; exact beq_self_eq_true _
              have e6 : (tx (yL (1 - n))).toList = (tx l).toList := by rw [he]
              clear he
              go_wp2
              go_ret2
              exact ⟨ret_ib ((fv_yes F.out).trans Y.out).symm F.out.symm, B3.out⟩
            · have F : Hid (fb l = false) := by show _ = _; rw [FB.out]; exact decide_eq_false (fun h => he (by have h2 := h.2; rw [Y.out] at h2; exact h2))
              have e6 : ¬ (tx (yL (1 - n))).toList = (tx l).toList := by rw [tx_list, tx_list]; exact he
              have e5 : ((tx (yL (1 - n))).toList == (tx l).toList) = false := beq_eq_false_iff_ne.2 e6
              clear he
              go_wp2
              go_ret2
              exact ⟨ret_ib (fv_no F.out).symm F.out.symm, B3.out⟩
        · have EQ : ((tx q).toList == [32, 66, 67, 69]) = false := by rw [E2.out]; exact beq_eq_false_iff_ne.2 hq
          have Y : Hid (yv l = n) := by show _ = _; rw [YV.out, if_neg hq]
          clear hq
          by_cases hn : n < 0
          · have F : Hid (fb l = false) := by show _ = _; rw [FB.out]; exact decide_eq_false (fun h => by omega)
            go_wp2
            go_ret2
            exact ⟨ret_ib (fv_no F.out).symm F.out.symm, B2.out⟩
          · go_wp2_with fail
            refine (text_spec (n) _).mono ?_
            rintro e w3 ⟨rfl, hb⟩
            have B3 := hide (st_trans B2.out hb)
            clear hb
            by_cases he : yL (n) = l
            · have F : Hid (fb l = true) := by show _ = _; rw [FB.out]; exact decide_eq_true ⟨by omega, by rw [Y.out]; exact he⟩
              have e5 : ((tx (yL (n))).toList == (tx l).toList) = true := by rw [he]; exact beq_self_eq_true _
              have e6 : (tx (yL (n))).toList = (tx l).toList := by rw [he]
              clear he
              go_wp2
              go_ret2
              exact ⟨ret_ib ((fv_yes F.out).trans Y.out).symm F.out.symm, B3.out⟩
            · have F : Hid (fb l = false) := by show _ = _; rw [FB.out]; exact decide_eq_false (fun h => he (by have h2 := h.2; rw [Y.out] at h2; exact h2))
              have e6 : ¬ (tx (yL (n))).toList = (tx l).toList := by rw [tx_list, tx_list]; exact he
              have e5 : ((tx (yL (n))).toList == (tx l).toList) = false := beq_eq_false_iff_ne.2 e6
              clear he
              go_wp2
              go_ret2
              exact ⟨ret_ib (fv_no F.out).symm F.out.symm, B3.out⟩
end Go.Proofs.YtaikebigaiimaaaDoor
