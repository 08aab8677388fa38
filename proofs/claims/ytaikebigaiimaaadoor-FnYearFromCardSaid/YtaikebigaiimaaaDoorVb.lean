/-
  The library's reading of a year's text.
  Conditions: the text is a year's; the library's table of powers of ten holds what start-up lays.
-/
import Derived.Test.YtaikebigaiimaaaDoorVa
namespace Go.Proofs.YtaikebigaiimaaaDoor
open Go.RowKit

set_option maxRecDepth 100000 in
set_option maxHeartbeats 600000 in
/-- the library's reading of a year's text -/
theorem from_impl_yes {y : Int} (h : yOk y = true) (w : World) (hT : Tab w) :
    Calls Tryd.prog 13 #[.string (tx (yL y))] w fun e w' => e = .returned (.tuple #[.int .i64 y, .bool true]) ∧ Below w.heap.size w w' := by
  obtain ⟨m, q, hc, hm1, hm2, hy⟩ := yL_cut h
  have T := hide hT
  have hlen : (Lib.decDigits m).length ≤ 9 := dec_len_pow 8 m (by omega)
  have N1 := tx_full (yL_ne h)
  have TI := hide (text_impl y)
  have hyb := yOk_iff.1 h
  have CU : Hid (∀ w, Calls Tryd.prog 27 #[.string (tx (yL y)), .string ⟨#[32]⟩] w fun e w' => e = .returned (.tuple #[.string (tx (Lib.decDigits m)), .string (tx q), .bool true]) ∧ Below w.heap.size w w') := fun w => by
    rw [hc]
    exact cut_yes _ q (dec_no32 m) (by rcases hy with ⟨_, _, rfl⟩ | ⟨_, _, rfl⟩ <;> simp <;> omega) w
  have AT := hide (atoi_yes m (by omega))
  obtain ⟨l, hl⟩ : ∃ l, yL y = l := ⟨_, rfl⟩
  obtain ⟨D, hD⟩ : ∃ D, tx (Lib.decDigits m) = D := ⟨_, rfl⟩
  rw [hl] at TI CU N1 ⊢
  rw [hD] at CU AT
  have HY := hide hy
  clear hT h hc hlen hl hD hy
  go_enter Tryd.func13, Tryd.ntmps13
  go_wp2_with fail
  refine (CU.out _).mono ?_
  rintro e w1 ⟨rfl, hb⟩
  have B1 := hide hb
  clear hb CU
  go_wp2_with fail
  refine (AT.out _).mono ?_
  rintro e w2 ⟨rfl, hb⟩
  have B2 := hide (st_trans B1.out hb)
  clear hb AT
  rcases HY.out with ⟨hy1, hy2, rfl⟩ | ⟨hy1, hy2, rfl⟩
  · have e3 : ((tx [67, 69]).toList == [66, 67, 69]) = false := by rw [tx_list]; rfl
    have e4 : (tx [67, 69]).toList = [67, 69] := tx_list _
    go_wp2_with fail
    refine (TI.out _ (T.out.keep B2.out)).mono ?_
    rintro e w3 ⟨rfl, hb⟩
    have B3 := hide (st_trans B2.out hb)
    clear hb
    go_wp2
    go_ret2
    exact ⟨rfl, B3.out⟩
  · have e4 : (tx [66, 67, 69]).toList = [66, 67, 69] := tx_list _
    have e5 : 1 - (1 - y) = y := by omega
    go_wp2_with fail
    refine (TI.out _ (T.out.keep B2.out)).mono ?_
    rintro e w3 ⟨rfl, hb⟩
    have B3 := hide (st_trans B2.out hb)
    clear hb
    go_wp2
    go_ret2
    exact ⟨rfl, B3.out⟩
end Go.Proofs.YtaikebigaiimaaaDoor
