/-
  The walk of the law FnYearText.
  Conditions: the bytes can be read; the library's table of powers of ten holds what start-up lays.
-/
import Derived.Test.YtaikebigaiimaaaDoorVb
import Derived.Test.YtaikebigaiimaaaDoorYe
namespace Go.Proofs.YtaikebigaiimaaaDoor
open Go.RowKit

theorem yL_tail {y : Int} (h : yOk y = true) : ∃ (p : List UInt8) (b : UInt8), yL y = p ++ [b, 67, 69] ∧ 1 ≤ p.length ∧ p.length ≤ 12 ∧ ((0 < y ∧ b = 32) ∨ (y ≤ 0 ∧ b = 66)) := by
  obtain ⟨m, q, hc, hm1, hm2, hy⟩ := yL_cut h
  have hlen : (Lib.decDigits m).length ≤ 9 := dec_len_pow 8 m (by omega)
  have hpos : 1 ≤ (Lib.decDigits m).length := List.length_pos_iff.2 (dec_ne m)
  rcases hy with ⟨h1, _, rfl⟩ | ⟨h1, _, rfl⟩
  · exact ⟨Lib.decDigits m, 32, hc, hpos, by omega, .inl ⟨h1, rfl⟩⟩
  · exact ⟨Lib.decDigits m ++ [32], 66, by rw [hc, List.append_assoc]; rfl, by simp, by simp; omega, .inr ⟨h1, rfl⟩⟩
theorem idx_b (p : List UInt8) (b : UInt8) (c : Nat) (k : Nat) (hk : p.length = k) (h : k < (tx (p ++ [b, 67, 69])).size) : ((((tx (p ++ [b, 67, 69]))[k]'h).toNat : Int) == (c : Int)) = (b.toNat == c) := by
  subst hk
  have e : (tx (p ++ [b, 67, 69]))[p.length]'h = b := by
    show (p ++ [b, 67, 69])[p.length]'(by rw [tx_size] at h; exact h) = b
    simp
  rw [e]
  by_cases x : b.toNat = c
  · rw [x]; simp
  · rw [beq_eq_false_iff_ne.2 x, beq_eq_false_iff_ne]; omega

theorem eq_same {u v : Bool} (h : u = v) : (u == v) = true := by rw [h]; simp
set_option maxRecDepth 100000 in
set_option maxHeartbeats 2000000 in
theorem walk_fnYearText (a : Option Addr) (len cap : Nat) (w : World) (h : Code w a len cap) (hT : Tab w) : Calls Tryd.prog 4 #[.slice a len cap] w fun e w' => e = .returned (.bool true) ∧ Below w.heap.size w w' := by
  have hm : len ≤ 9223372036854775807 := by have h1 := h.1; have h2 := h.2.1; unfold maxLen at h2; omega
  have H := hide h
  have T := hide hT
  clear h hT
  by_cases hl : 1048576 < len
  · go_enter Tryd.func4, Tryd.ntmps4
    go_wp2
    go_ret
    exact ⟨rfl, Below.refl _ _⟩
  go_enter Tryd.func4, Tryd.ntmps4
  go_wp2_with fail
  refine (dDrawYearText a len cap _ H.out).mono ?_
  rintro e w1 ⟨y, rfl, hy1, hy2, hB⟩
  have B1 := hide hB
  clear hB
  go_wp2_with fail
  refine (text_impl y _ (T.out.keep B1.out)).mono ?_
  rintro e w2 ⟨rfl, hb⟩
  have B2 := hide (st_trans B1.out hb)
  clear hb
  go_wp2_with fail
  refine (text_spec y _).mono ?_
  rintro e w3 ⟨rfl, hb⟩
  have B3 := hide (st_trans B2.out hb)
  clear hb
  cases ho : yOk y
  · have V := yL_no ho
    rw [V]
    have E0 := tx_none
    go_wp2
    go_ret
    exact ⟨rfl, B3.out⟩
  · have hy := yOk_iff.1 ho
    have E1 : (tx (yL y)).toList.isEmpty = false := tx_full (yL_ne ho)
    have FR := hide (fun w => from_impl_yes ho w)
    obtain ⟨p, b, hL, hp1, hp2, hb⟩ := yL_tail ho
    have HB := hide hb
    obtain ⟨L, hX⟩ : ∃ L, yL y = L := ⟨_, rfl⟩
    rw [hX] at hL FR E1 ⊢
    obtain ⟨k, hk⟩ : ∃ k, p.length = k := ⟨_, rfl⟩
    have hz : (tx L).size = k + 3 := by rw [tx_size, hL, ← hk]; simp
    have C0 : (tx L).extract (k + 1) (k + 3) = tx [67, 69] := by
      have := tx_cut1 (p ++ [b]) [67, 69]
      rw [List.append_assoc] at this
      rw [hL, ← hk]
      simpa using this
    have C1 : (tx [67, 69]).toList = [67, 69] := tx_list _
    rw [hk] at hp1 hp2
    have IX : Hid (∀ h : k < (tx L).size, ((((tx L)[k]'h).toNat : Int) == ((66 : Nat) : Int)) = (b.toNat == 66)) := by
      subst hL
      exact fun h => idx_b p b 66 k hk h
    clear ho hX hL hb hk
    go_wp2_with fail
    refine (FR.out _ (T.out.keep B3.out)).mono ?_
    rintro e w4 ⟨rfl, hb⟩
    have B4 := hide (st_trans B3.out hb)
    clear hb
    rcases HB.out with ⟨hs, rfl⟩ | ⟨hs, rfl⟩
    · go_wp2
      go_ret
      exact ⟨congrArg (fun b => Ending.returned (.bool b)) (eq_same ((IX.out _).trans ((rfl : ((32 : UInt8).toNat == 66) = false).trans (decide_eq_false (by omega)).symm))), B4.out⟩
    · go_wp2
      go_ret
      exact ⟨congrArg (fun b => Ending.returned (.bool b)) ((IX.out _).trans rfl), B4.out⟩
end Go.Proofs.YtaikebigaiimaaaDoor
