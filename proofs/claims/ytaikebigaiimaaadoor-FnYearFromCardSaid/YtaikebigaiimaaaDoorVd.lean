/-
  The reference's reading of a text: its digits.
  Conditions: none.
-/
import Derived.Test.YtaikebigaiimaaaDoorVb
namespace Go.Proofs.YtaikebigaiimaaaDoor
open Go.RowKit

def isD (c : UInt8) : Bool := decide (48 ≤ c.toNat ∧ c.toNat ≤ 57)
/-- the number that a text spells, or -1 -/
def dv (l : List UInt8) : Int := if 1 ≤ l.length ∧ l.length ≤ 6 ∧ l.all isD = true then (valD l : Int) else -1
theorem valD_snoc (l : List UInt8) (c : UInt8) : valD (l ++ [c]) = valD l * 10 + (c.toNat - 48) := by
  unfold valD
  rw [List.foldl_append]
  rfl
theorem valD_lt : ∀ (n : Nat) (l : List UInt8), l.length = n → l.all isD = true → valD l < 10 ^ n := by
  intro n
  induction n with
  | zero =>
    intro l h _
    rw [List.eq_nil_of_length_eq_zero h]
    decide
  | succ n ih =>
    intro l h ha
    have h0 : l ≠ [] := by intro e; rw [e] at h; cases h
    rw [← List.dropLast_concat_getLast h0] at ha h ⊢
    generalize l.dropLast = r at *
    generalize l.getLast h0 = c at *
    rw [List.all_append, Bool.and_eq_true] at ha
    rw [List.length_append] at h
    have h1 := ih r (by simpa using h) ha.1
    have h2 : isD c = true := by simpa using ha.2
    unfold isD at h2
    rw [decide_eq_true_iff] at h2
    rw [valD_snoc, Nat.pow_succ]
    omega
theorem dv_bd (l : List UInt8) : -1 ≤ dv l ∧ dv l ≤ 999999 := by
  unfold dv
  split
  · rename_i h
    obtain ⟨_, h2, h3⟩ := h
    have h4 := valD_lt _ l rfl h3
    have h5 : 10 ^ l.length ≤ 10 ^ 6 := Nat.pow_le_pow_right (by omega) h2
    omega
  · omega
theorem dv_dec (m : Nat) (hm : m < 1000000) : dv (Lib.decDigits m) = m := by
  unfold dv
  rw [if_pos ⟨List.length_pos_iff.2 (dec_ne m), dec_len_pow 5 m hm, List.all_eq_true.2 fun c hc => decide_eq_true (dec_digit m c hc)⟩, valD_dec]
theorem isD_take (l : List UInt8) (k : Nat) (h : k < l.length) (hc : isD l[k] = false) : l.all isD = false := by
  rw [Bool.eq_false_iff]
  intro e
  have := List.all_eq_true.1 e l[k] (List.getElem_mem h)
  rw [hc] at this
  cases this
theorem dv_no {l : List UInt8} (h : ¬ (1 ≤ l.length ∧ l.length ≤ 6 ∧ l.all isD = true)) : dv l = -1 := by unfold dv; rw [if_neg h]
theorem int_step {v x t : Nat} (h : t = v * 10 + (x - 48)) (h3 : 48 ≤ x) : Value.int .i64 (10 * (v : Int) + ((x : Int) - 48)) = Value.int .i64 (t : Int) := by
  have e : 10 * (v : Int) + ((x : Int) - 48) = (t : Int) := by omega
  rw [e]
set_option maxRecDepth 100000 in
set_option maxHeartbeats 1000000 in
theorem digits_any (l : List UInt8) (w : World) (hl : l.length ≤ 2000000) :
    Calls Tryd.prog 26 #[.string (tx l)] w fun e w' => e = .returned (.int .i64 (dv l)) ∧ Below w.heap.size w w' := by
  have hsz : (tx l).size = l.length := tx_size l
  by_cases h0 : 1 ≤ l.length ∧ l.length ≤ 6
  · have G : Hid (decide ((1 : Int) ≤ (l.length : Int) ∧ (l.length : Int) ≤ 6) = true) := hide (decide_eq_true (by omega))
    go_enter Tryd.func26, Tryd.ntmps26
    go_wp2_with fail
    refine (l6In_as G.out _).mono ?_
    rintro e w1 ⟨rfl, hb⟩
    have B1 := hide hb
    clear hb
    go_wp2_with fail
    go_loopw [3, 4] (fun v i wr => ∃ k : Nat, v = .int .i64 (valD (l.take k)) ∧ i = .int .i64 k ∧ k ≤ l.length ∧ (l.take k).all isD = true ∧ Below w1.heap.size w1 wr) (fun _ i _ => l.length - (intOf i).toNat)
    case atStart => exact ⟨0, rfl, rfl, Nat.zero_le _, rfl, st_refl w1⟩
    case round =>
      obtain ⟨k, rfl, rfl, hk, ha, hb⟩ := hrel
      have Bk := hide hb
      clear hb
      by_cases hkl : k < l.length
      · have hkz : (k : Int) < (l.length : Int) := by omega
        have hcc : (tx l)[k]'(by omega) = l[k] := rfl
        have hv := valD_lt k (l.take k) (by rw [List.length_take]; omega) ha
        have hp : 10 ^ k ≤ 10 ^ 5 := Nat.pow_le_pow_right (by omega) (by omega)
        have V1 : valD (l.take (k + 1)) = valD (l.take k) * 10 + (l[k].toNat - 48) := by rw [List.take_succ_eq_append_getElem hkl, valD_snoc]
        have A1 : (l.take (k + 1)).all isD = isD l[k] := by rw [List.take_succ_eq_append_getElem hkl, List.all_append, ha]; simp
        have hv5 : valD (l.take k) < 100000 := by omega
        generalize hv0 : valD (l.take k) = v at *
        have NO := hide (fun h : isD l[k] = false => dv_no (l := l) fun e => by rw [isD_take l k hkl h] at e; exact absurd e.2.2 (by decide))
        have V1' := hide V1
        have A1' := hide A1
        clear V1 A1 ha hv0
        obtain ⟨c, hc⟩ : ∃ c : UInt8, l[k] = c := ⟨_, rfl⟩
        have hc3 := c.toNat_lt
        obtain ⟨x, hx⟩ : ∃ x : Nat, c.toNat = x := ⟨_, rfl⟩
        rw [hc] at hcc
        rw [hc, hx] at V1'
        rw [hc] at A1' NO
        rw [hx] at hc3
        have CX := hide hx
        have hxx : ((tx l)[k]'(by omega)).toNat = x := by rw [hcc, hx]
        clear hcc hc hx hp hv
        by_cases d1 : x < 48
        · have D1 : (x : Int) < 48 := by omega
          go_wp2
          go_ret
          exact ⟨ret_int (NO.out (decide_eq_false (by rw [CX.out]; omega))).symm, st_trans B1.out Bk.out⟩
        · have D1 : ¬ (x : Int) < 48 := by omega
          by_cases d2 : 57 < x
          · have D2 : (57 : Int) < (x : Int) := by omega
            go_wp2
            go_ret
            exact ⟨ret_int (NO.out (decide_eq_false (by rw [CX.out]; omega))).symm, st_trans B1.out Bk.out⟩
          · have D2 : ¬ (57 : Int) < (x : Int) := by omega
            go_wp2
            go_roundw
            case rel => exact ⟨k + 1, int_step V1'.out (by omega), by simp, by omega, by rw [A1'.out]; exact decide_eq_true (by rw [CX.out]; omega), Bk.out⟩
            case measure => simp [intOf]; omega
      · have hd : l.take k = l := List.take_of_length_le (by omega)
        rw [hd] at ha ⊢
        have V : Hid (dv l = (valD l : Int)) := by show _ = _; unfold dv; rw [if_pos ⟨h0.1, h0.2, ha⟩]
        clear hd ha
        go_wp2
        go_ret
        exact ⟨ret_int V.out.symm, st_trans B1.out Bk.out⟩
  · have G : Hid (decide ((1 : Int) ≤ (l.length : Int) ∧ (l.length : Int) ≤ 6) = false) := hide (decide_eq_false (by omega))
    have V := hide (dv_no (l := l) (fun e => h0 ⟨e.1, e.2.1⟩))
    clear h0
    go_enter Tryd.func26, Tryd.ntmps26
    go_wp2_with fail
    refine (l6In_as G.out _).mono ?_
    rintro e w1 ⟨rfl, hb⟩
    have B1 := hide hb
    clear hb
    go_wp2
    go_ret
    exact ⟨ret_int V.out.symm, B1.out⟩
end Go.Proofs.YtaikebigaiimaaaDoor
