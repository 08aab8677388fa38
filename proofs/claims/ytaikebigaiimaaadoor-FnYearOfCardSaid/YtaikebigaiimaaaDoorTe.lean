/-
  The walk of the law FnYearTextEra.
  Conditions: the bytes can be read; the library's table of powers of ten holds what start-up lays.
-/
import Derived.Test.YtaikebigaiimaaaDoorTd
namespace Go.Proofs.YtaikebigaiimaaaDoor
open Go.RowKit

theorem tx_cut (p q : List UInt8) : (tx (p ++ q)).extract 0 p.length = tx p := by
  apply ByteArray.ext
  simp [tx, ByteArray.data_extract]
theorem tx_three (y : List UInt8) {x l q t : List UInt8} {n : Nat} (hn : y.length = n) (h1 : l = y ++ [32] ++ q) (h2 : x = y ++ [32] ++ t) : ((tx x).toList == ((tx l).extract 0 (n + 1) ++ tx t).toList) = true := by
  have hz : n + 1 = (y ++ [32]).length := by rw [← hn]; simp
  rw [h1, h2, hz, tx_cut, tx_append]
  exact beq_self_eq_true _
set_option maxRecDepth 100000 in
set_option maxHeartbeats 1000000 in
theorem walk_fnYearTextEra (a : Option Addr) (len cap : Nat) (w : World) (h : Code w a len cap) (hT : Tab w) : Calls Tryd.prog 7 #[.slice a len cap] w fun e w' => e = .returned (.bool true) ∧ Below w.heap.size w w' := by
  have hm : len ≤ 9223372036854775807 := by have h1 := h.1; have h2 := h.2.1; unfold maxLen at h2; omega
  have H := hide h
  have T := hide hT
  clear h hT
  by_cases hl : 1048576 < len
  · go_enter Tryd.func7, Tryd.ntmps7
    go_wp2
    go_ret
    exact ⟨rfl, Below.refl _ _⟩
  go_enter Tryd.func7, Tryd.ntmps7
  go_wp2_with fail
  refine (dDrawYearText a len cap _ H.out).mono ?_
  rintro e w1 ⟨y, rfl, hy1, hy2, hB⟩
  have B1 := hide hB
  clear hB
  go_wp2_with fail
  refine (text_impl y _ (T.out.keep B1.out)).mono ?_
  rintro e w2 ⟨rfl, hb⟩
  have B2 := hide (st_trans B1.out hb)
  clear hb
  go_wp2_with fail
  refine (text_spec y _).mono ?_
  rintro e w3 ⟨rfl, hb⟩
  have B3 := hide (st_trans B2.out hb)
  clear hb
  cases ho : yOk y
  · have V := yL_no ho
    rw [V]
    have E0 := tx_none
    go_wp2
    go_ret
    exact ⟨rfl, B3.out⟩
  · have hy := yOk_iff.1 ho
    have E1 : (tx (yL y)).toList.isEmpty = false := tx_full (yL_ne ho)
    go_wp2_with fail
    refine (text_impl (1 - y) _ (T.out.keep B3.out)).mono ?_
    rintro e w4 ⟨rfl, hb⟩
    have B4 := hide (st_trans B3.out hb)
    clear hb
    cases hp : yOk (1 - y)
    · have V := yL_no hp
      have hx : y = -200000 := by
        have hn := mt yOk_iff.2 (by rw [hp]; simp)
        omega
      rw [V]
      have E0 := tx_none
      clear ho hp
      go_wp2
      go_ret
      exact ⟨rfl, B4.out⟩
    · have hq := yOk_iff.1 hp
      have E2 : (tx (yL (1 - y))).toList.isEmpty = false := tx_full (yL_ne hp)
      by_cases hs : 0 < y
      · have V1 : yL y = Lib.itoa y ++ [32, 67, 69] := by unfold yL; rw [ho, if_pos rfl, if_pos hs]
        have V2 : yL (1 - y) = Lib.itoa y ++ [32, 66, 67, 69] := by unfold yL; rw [hp, if_pos rfl, if_neg (by omega), show 1 - (1 - y) = y by omega]
        have hz2 := itoa_len y (by omega) (by omega)
        rw [tx_size] at hz2
        obtain ⟨n, hn⟩ : ∃ n, (Lib.itoa y).length = n := ⟨_, rfl⟩
        rw [hn] at hz2
        have hz : (tx (yL y)).size = n + 3 := by rw [tx_size, V1, ← hn]; simp
        have K1 := hide V1
        have K2 := hide V2
        have K3 := hide hn
        clear ho hp V1 V2 hn
        go_wp2
        go_ret
        exact ⟨congrArg (fun b => Ending.returned (.bool b)) (tx_three (Lib.itoa y) (t := [66, 67, 69]) (q := [67, 69]) K3.out (by rw [K1.out, List.append_assoc]; rfl) (by rw [K2.out, List.append_assoc]; rfl)), B4.out⟩
      · have V1 : yL y = Lib.itoa (1 - y) ++ [32, 66, 67, 69] := by unfold yL; rw [ho, if_pos rfl, if_neg hs]
        have V2 : yL (1 - y) = Lib.itoa (1 - y) ++ [32, 67, 69] := by unfold yL; rw [hp, if_pos rfl, if_pos (by omega)]
        have hz2 := itoa_len (1 - y) (by omega) (by omega)
        rw [tx_size] at hz2
        obtain ⟨n, hn⟩ : ∃ n, (Lib.itoa (1 - y)).length = n := ⟨_, rfl⟩
        rw [hn] at hz2
        have hz : (tx (yL y)).size = n + 4 := by rw [tx_size, V1, ← hn]; simp
        have K1 := hide V1
        have K2 := hide V2
        have K3 := hide hn
        clear ho hp V1 V2 hn
        go_wp2
        go_ret
        exact ⟨congrArg (fun b => Ending.returned (.bool b)) (tx_three (Lib.itoa (1 - y)) (t := [67, 69]) (q := [66, 67, 69]) K3.out (by rw [K1.out, List.append_assoc]; rfl) (by rw [K2.out, List.append_assoc]; rfl)), B4.out⟩
end Go.Proofs.YtaikebigaiimaaaDoor
