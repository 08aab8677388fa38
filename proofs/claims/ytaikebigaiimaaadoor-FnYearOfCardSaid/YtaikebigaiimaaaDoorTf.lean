/-
  The walk of the law FnYearOf.
  Conditions: the bytes can be read; the library's table of powers of ten holds what start-up lays.
-/
import Derived.Test.YtaikebigaiimaaaDoorTe
namespace Go.Proofs.YtaikebigaiimaaaDoor
open Go.RowKit

set_option maxHeartbeats 1000000 in
theorem yearOf_impl_yes {y : Int} (h : yOk (2000 - y) = true) (w : World) :
    Calls Tryd.prog 19 #[.int .i64 y] w fun e w' => e = .returned (.tuple #[.int .i64 (2000 - y), .bool true]) ∧ Below w.heap.size w w' := by
  have hy := yOk_iff.1 h
  have H := hide h
  clear h
  go_enter Tryd.func19, Tryd.ntmps19
  go_wp2_with fail
  refine (isYear_as H.out _).mono ?_
  rintro e w1 ⟨rfl, hb⟩
  have B1 := hide hb
  clear hb
  go_wp2
  go_ret2
  exact ⟨rfl, B1.out⟩
set_option maxHeartbeats 1000000 in
theorem yearOf_impl_no {y : Int} (h : yOk (2000 - y) = false) (w : World) :
    Calls Tryd.prog 19 #[.int .i64 y] w fun e w' => e = .returned (.tuple #[.int .i64 0, .bool false]) ∧ Below w.heap.size w w' := by
  have hy := yOk_no.1 h
  have H := hide h
  clear h
  by_cases h1 : y < -400000
  · go_enter Tryd.func19, Tryd.ntmps19
    go_wp2
    go_ret2
    exact ⟨rfl, st_refl _⟩
  by_cases h2 : 400000 < y
  · go_enter Tryd.func19, Tryd.ntmps19
    go_wp2
    go_ret2
    exact ⟨rfl, st_refl _⟩
  clear hy
  go_enter Tryd.func19, Tryd.ntmps19
  go_wp2_with fail
  refine (isYear_as H.out _).mono ?_
  rintro e w1 ⟨rfl, hb⟩
  have B1 := hide hb
  clear hb
  go_wp2
  go_ret2
  exact ⟨rfl, B1.out⟩
set_option maxHeartbeats 1000000 in
theorem yearOf_spec_yes {y : Int} (h : yOk (2000 - y) = true) (w : World) :
    Calls Tryd.prog 20 #[.int .i64 y] w fun e w' => e = .returned (.tuple #[.int .i64 (2000 - y), .bool true]) ∧ Below w.heap.size w w' := by
  have hy := yOk_iff.1 h
  have H := hide h
  have G : Hid (decide (-400000 ≤ y ∧ y ≤ 400000) = true) := hide (decide_eq_true (by omega))
  clear h
  go_enter Tryd.func20, Tryd.ntmps20
  go_wp2_with fail
  refine (l6In_as G.out _).mono ?_
  rintro e w1 ⟨rfl, hb⟩
  have B1 := hide hb
  clear hb
  go_wp2_with fail
  refine (l1Year_as H.out _).mono ?_
  rintro e w2 ⟨rfl, hb⟩
  have B2 := hide (st_trans B1.out hb)
  clear hb
  go_wp2
  go_ret2
  exact ⟨rfl, B2.out⟩
set_option maxHeartbeats 1000000 in
theorem yearOf_spec_no {y : Int} (h : yOk (2000 - y) = false) (w : World) (hr : -1000000 ≤ y ∧ y ≤ 1000000) :
    Calls Tryd.prog 20 #[.int .i64 y] w fun e w' => e = .returned (.tuple #[.int .i64 0, .bool false]) ∧ Below w.heap.size w w' := by
  obtain ⟨hr1, hr2⟩ := hr
  have H := hide h
  clear h
  by_cases hz : -400000 ≤ y ∧ y ≤ 400000
  · have G : Hid (decide (-400000 ≤ y ∧ y ≤ 400000) = true) := hide (decide_eq_true hz)
    clear hz
    go_enter Tryd.func20, Tryd.ntmps20
    go_wp2_with fail
    refine (l6In_as G.out _).mono ?_
    rintro e w1 ⟨rfl, hb⟩
    have B1 := hide hb
    clear hb
    go_wp2_with fail
    refine (l1Year_as H.out _).mono ?_
    rintro e w2 ⟨rfl, hb⟩
    have B2 := hide (st_trans B1.out hb)
    clear hb
    go_wp2
    go_ret2
    exact ⟨rfl, B2.out⟩
  · have G : Hid (decide (-400000 ≤ y ∧ y ≤ 400000) = false) := hide (decide_eq_false hz)
    clear hz
    go_enter Tryd.func20, Tryd.ntmps20
    go_wp2_with fail
    refine (l6In_as G.out _).mono ?_
    rintro e w1 ⟨rfl, hb⟩
    have B1 := hide hb
    clear hb
    go_wp2
    go_ret2
    exact ⟨rfl, B1.out⟩
set_option maxHeartbeats 1000000 in
theorem yearAge_impl {y : Int} (h : yOk y = true) (w : World) :
    Calls Tryd.prog 21 #[.int .i64 y] w fun e w' => e = .returned (.tuple #[.int .i64 (2000 - y), .bool true]) ∧ Below w.heap.size w w' := by
  have hy := yOk_iff.1 h
  have H := hide h
  clear h
  go_enter Tryd.func21, Tryd.ntmps21
  go_wp2_with fail
  refine (isYear_as H.out _).mono ?_
  rintro e w1 ⟨rfl, hb⟩
  have B1 := hide hb
  clear hb
  go_wp2
  go_ret2
  exact ⟨rfl, B1.out⟩

set_option maxRecDepth 100000 in
set_option maxHeartbeats 1000000 in
theorem walk_fnYearOf (a : Option Addr) (len cap : Nat) (w : World) (h : Code w a len cap) (hT : Tab w) : Calls Tryd.prog 9 #[.slice a len cap] w fun e w' => e = .returned (.bool true) ∧ Below w.heap.size w w' := by
  have hm : len ≤ 9223372036854775807 := by have h1 := h.1; have h2 := h.2.1; unfold maxLen at h2; omega
  have H := hide h
  have T := hide hT
  clear h hT
  by_cases hl : 1048576 < len
  · go_enter Tryd.func9, Tryd.ntmps9
    go_wp2
    go_ret
    exact ⟨rfl, Below.refl _ _⟩
  go_enter Tryd.func9, Tryd.ntmps9
  go_wp2_with fail
  refine (dDrawYearOf a len cap _ H.out).mono ?_
  rintro e w1 ⟨y, rfl, hy1, hy2, hB⟩
  have B1 := hide hB
  clear hB
  cases ho : yOk (2000 - y)
  · have HO := hide ho
    clear ho
    go_wp2_with fail
    refine (yearOf_impl_no HO.out _).mono ?_
    rintro e w2 ⟨rfl, hb⟩
    have B2 := hide (st_trans B1.out hb)
    clear hb
    go_wp2_with fail
    refine (yearOf_spec_no HO.out _ ⟨by omega, by omega⟩).mono ?_
    rintro e w3 ⟨rfl, hb⟩
    have B3 := hide (st_trans B2.out hb)
    clear hb
    go_wp2
    go_ret
    exact ⟨rfl, B3.out⟩
  · have hy := yOk_iff.1 ho
    have HO := hide ho
    have hn : 2000 - (2000 - y) = y := by omega
    have E1 : (tx (yL (2000 - y))).toList.isEmpty = false := tx_full (yL_ne ho)
    clear ho
    go_wp2_with fail
    refine (yearOf_impl_yes HO.out _).mono ?_
    rintro e w2 ⟨rfl, hb⟩
    have B2 := hide (st_trans B1.out hb)
    clear hb
    go_wp2_with fail
    refine (yearOf_spec_yes HO.out _).mono ?_
    rintro e w3 ⟨rfl, hb⟩
    have B3 := hide (st_trans B2.out hb)
    clear hb
    go_wp2_with fail
    refine (yearAge_impl HO.out _).mono ?_
    rintro e w4 ⟨rfl, hb⟩
    have B4 := hide (st_trans B3.out hb)
    clear hb
    cases hp : yOk (2000 - (y + 1))
    · have HP := hide hp
      clear hp
      go_wp2_with fail
      refine (yearOf_impl_no HP.out _).mono ?_
      rintro e w5 ⟨rfl, hb⟩
      have B5 := hide (st_trans B4.out hb)
      clear hb
      go_wp2_with fail
      refine (text_impl (2000 - y) _ (T.out.keep B5.out)).mono ?_
      rintro e w6 ⟨rfl, hb⟩
      have B6 := hide (st_trans B5.out hb)
      clear hb
      go_wp2
      go_ret
      exact ⟨rfl, B6.out⟩
    · have HP := hide hp
      have hq : (2000 - (y + 1) == 2000 - y - 1) = true := by rw [beq_iff_eq]; omega
      clear hp
      go_wp2_with fail
      refine (yearOf_impl_yes HP.out _).mono ?_
      rintro e w5 ⟨rfl, hb⟩
      have B5 := hide (st_trans B4.out hb)
      clear hb
      go_wp2_with fail
      refine (text_impl (2000 - y) _ (T.out.keep B5.out)).mono ?_
      rintro e w6 ⟨rfl, hb⟩
      have B6 := hide (st_trans B5.out hb)
      clear hb
      go_wp2
      go_ret
      exact ⟨rfl, B6.out⟩
end Go.Proofs.YtaikebigaiimaaaDoor
