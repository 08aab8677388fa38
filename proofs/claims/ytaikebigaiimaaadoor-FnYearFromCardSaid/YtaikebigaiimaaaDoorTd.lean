/-
  The walk of the law FnYearTextNext.
  Conditions: the bytes can be read; the library's table of powers of ten holds what start-up lays.
-/
import Derived.Test.YtaikebigaiimaaaDoorTc
import Derived.Test.YtaikebigaiimaaaDoorYe
namespace Go.Proofs.YtaikebigaiimaaaDoor
open Go.RowKit

theorem tx_list (l : List UInt8) : (tx l).toList = l := by
  have h : (tx l).toList = (tx l).data.toList := by first | exact ByteArray.toList_eq _ | simp [tx] | rfl
  exact h
theorem tx_full {l : List UInt8} (h : l ≠ []) : (tx l).toList.isEmpty = false := by
  rw [tx_list]
  cases l with
  | nil => exact absurd rfl h
  | cons a t => rfl
theorem tx_none : (tx []).toList.isEmpty = true := by rw [tx_list]; rfl
set_option maxRecDepth 100000 in
set_option maxHeartbeats 1000000 in
theorem walk_fnYearTextNext (a : Option Addr) (len cap : Nat) (w : World) (h : Code w a len cap) (hT : Tab w) : Calls Tryd.prog 8 #[.slice a len cap] w fun e w' => e = .returned (.bool true) ∧ Below w.heap.size w w' := by
  have hm : len ≤ 9223372036854775807 := by have h1 := h.1; have h2 := h.2.1; unfold maxLen at h2; omega
  have H := hide h
  have T := hide hT
  clear h hT
  by_cases hl : 1048576 < len
  · go_enter Tryd.func8, Tryd.ntmps8
    go_wp2
    go_ret
    exact ⟨rfl, Below.refl _ _⟩
  go_enter Tryd.func8, Tryd.ntmps8
  go_wp2_with fail
  refine (dDrawYearText a len cap _ H.out).mono ?_
  rintro e w1 ⟨y, rfl, hy1, hy2, hB⟩
  have B1 := hide hB
  clear hB
  go_wp2_with fail
  refine (text_impl y _ (T.out.keep B1.out)).mono ?_
  rintro e w2 ⟨rfl, hb⟩
  have B2 := hide (st_trans B1.out hb)
  clear hb
  go_wp2_with fail
  refine (text_spec y _).mono ?_
  rintro e w3 ⟨rfl, hb⟩
  have B3 := hide (st_trans B2.out hb)
  clear hb
  cases ho : yOk y
  · have V := yL_no ho
    rw [V]
    have E0 := tx_none
    go_wp2
    go_ret
    exact ⟨rfl, B3.out⟩
  · have HO := hide ho
    have E1 : (tx (yL y)).toList.isEmpty = false := tx_full (yL_ne ho)
    have N1 : ¬(tx (yL (y + 1))).toList = (tx (yL y)).toList := by rw [tx_list, tx_list]; exact fun e => absurd (yL_inj ho e) (by omega)
    have N2 : ¬(tx (yL (y + 1000))).toList = (tx (yL y)).toList := by rw [tx_list, tx_list]; exact fun e => absurd (yL_inj ho e) (by omega)
    have N3 : ¬(tx (yL (y - 1))).toList = (tx (yL y)).toList := by rw [tx_list, tx_list]; exact fun e => absurd (yL_inj ho e) (by omega)
    clear ho
    go_wp2_with fail
    refine (text_impl (y + 1) _ (T.out.keep B3.out)).mono ?_
    rintro e w4 ⟨rfl, hb⟩
    have B4 := hide (st_trans B3.out hb)
    clear hb
    go_wp2_with fail
    refine (text_impl (y + 1000) _ (T.out.keep B4.out)).mono ?_
    rintro e w5 ⟨rfl, hb⟩
    have B5 := hide (st_trans B4.out hb)
    clear hb
    go_wp2_with fail
    refine (text_impl (y - 1) _ (T.out.keep B5.out)).mono ?_
    rintro e w6 ⟨rfl, hb⟩
    have B6 := hide (st_trans B5.out hb)
    clear hb
    go_wp2
    go_ret
    have M : (!((tx (yL (y + 1))).toList == (tx (yL y)).toList) && !((tx (yL (y + 1000))).toList == (tx (yL y)).toList) && !((tx (yL (y - 1))).toList == (tx (yL y)).toList)) = true := by
      rw [beq_eq_false_iff_ne.2 N1, beq_eq_false_iff_ne.2 N2, beq_eq_false_iff_ne.2 N3]; rfl
    exact ⟨congrArg (fun b => Ending.returned (.bool b)) M, B6.out⟩
end Go.Proofs.YtaikebigaiimaaaDoor
