/-
  The texts of years: the program's and the reference's are one.
  Conditions: the library's table of powers of ten holds what start-up lays.
-/
import Derived.Test.YtaikebigaiimaaaDoorTa
namespace Go.Proofs.YtaikebigaiimaaaDoor
open Go.RowKit

/-- a year in its range -/
def yOk (y : Int) : Bool := decide (-200000 ≤ y ∧ y ≤ 200000)
/-- the text of a year -/
def yL (y : Int) : List UInt8 := if yOk y then (if 0 < y then Lib.itoa y ++ [32, 67, 69] else Lib.itoa (1 - y) ++ [32, 66, 67, 69]) else []
theorem yOk_iff {y : Int} : yOk y = true ↔ -200000 ≤ y ∧ y ≤ 200000 := by unfold yOk; rw [decide_eq_true_iff]
theorem yOk_no {y : Int} : yOk y = false ↔ ¬ (-200000 ≤ y ∧ y ≤ 200000) := by unfold yOk; rw [decide_eq_false_iff_not]
theorem l6In_as {n a b : Int} {o : Bool} (h : decide (a ≤ n ∧ n ≤ b) = o) (w : World) :
    Calls Tryd.prog 37 #[.int .i64 n, .int .i64 a, .int .i64 b] w fun e w' => e = .returned (.bool o) ∧ Below w.heap.size w w' := by
  subst h
  go_enter Tryd.func37, Tryd.ntmps37
  by_cases h1 : a ≤ n
  · by_cases h2 : n ≤ b
    · go_wp2
      go_ret
      exact ⟨ret_bool (by rw [decide_eq_true (by omega)]), st_refl _⟩
    · go_wp2
      go_ret
      exact ⟨ret_bool (by rw [decide_eq_false (by omega)]), st_refl _⟩
  · have e : decide (a ≤ n ∧ n ≤ b) = false := decide_eq_false (by omega)
    rw [e]
    go_wp2
    go_ret
    exact ⟨rfl, st_refl _⟩
theorem l1Year_as {y : Int} {o : Bool} (h : yOk y = o) (w : World) :
    Calls Tryd.prog 33 #[.int .i64 y] w fun e w' => e = .returned (.bool o) ∧ Below w.heap.size w w' := by
  have H := hide (show decide (-200000 ≤ y ∧ y ≤ 200000) = o from h)
  clear h
  go_enter Tryd.func33, Tryd.ntmps33
  go_wp2_with fail
  refine (l6In_as H.out _).mono ?_
  rintro e w1 ⟨rfl, hb⟩
  have B1 := hide hb
  clear hb
  go_wp2
  go_ret
  exact ⟨rfl, B1.out⟩
theorem isYear_as {y : Int} {o : Bool} (h : yOk y = o) (w : World) :
    Calls Tryd.prog 31 #[.int .i64 y] w fun e w' => e = .returned (.bool o) ∧ Below w.heap.size w w' := by
  subst h
  go_enter Tryd.func31, Tryd.ntmps31
  by_cases h1 : -200000 ≤ y
  · by_cases h2 : y ≤ 200000
    · have e := hide (yOk_iff.2 ⟨h1, h2⟩)
      go_wp2
      go_ret
      exact ⟨ret_bool e.out.symm, st_refl _⟩
    · have e := hide (yOk_no (y := y)|>.2 (fun h => h2 h.2))
      go_wp2
      go_ret
      exact ⟨ret_bool e.out.symm, st_refl _⟩
  · have e := hide (yOk_no (y := y)|>.2 (fun h => h1 h.1))
    go_wp2
    go_ret
    exact ⟨ret_bool e.out.symm, st_refl _⟩

theorem itoa_len (n : Int) (h0 : -2000000000 ≤ n) (h1 : n ≤ 2000000000) : (tx (Lib.itoa n)).size ≤ 11 := by
  rw [tx_size]
  by_cases hn : 0 ≤ n
  · obtain ⟨m, rfl⟩ := Int.eq_ofNat_of_zero_le hn
    rw [itoa_nat]
    have := dec_len m (by omega)
    omega
  · obtain ⟨m, hm⟩ := Int.eq_ofNat_of_zero_le (show 0 ≤ -n by omega)
    obtain rfl : n = -(m : Int) := by omega
    rw [itoa_neg m (by omega), List.length_cons]
    have := dec_len m (by omega)
    omega
def YText (l : List UInt8) (w : World) (e : Ending) (w' : World) : Prop := e = .returned (.string (tx l)) ∧ Below w.heap.size w w'
set_option maxHeartbeats 1000000 in
theorem text_impl (y : Int) (w : World) (h : Tab w) :
    Calls Tryd.prog 15 #[.int .i64 y] w (YText (yL y) w) := by
  have H := hide h
  clear h
  cases ho : yOk y
  · have V : Hid (yL y = []) := by show _ = _; unfold yL; rw [ho]; rfl
    have HO := hide ho
    clear ho
    go_enter Tryd.func15, Tryd.ntmps15
    go_wp2_with fail
    refine (isYear_as HO.out _).mono ?_
    rintro e w1 ⟨rfl, hb⟩
    have B1 := hide hb
    clear hb
    go_wp2
    go_ret
    exact ⟨ret_str (by rw [V.out]; rfl), B1.out⟩
  · have hy := yOk_iff.1 ho
    by_cases hp : 0 < y
    · have V : Hid (yL y = Lib.itoa y ++ [32, 67, 69]) := by show _ = _; unfold yL; rw [ho, if_pos rfl, if_pos hp]
      have HO := hide ho
      have z1 := itoa_len y (by omega) (by omega)
      clear ho
      go_enter Tryd.func15, Tryd.ntmps15
      go_wp2_with fail
      refine (isYear_as HO.out _).mono ?_
      rintro e w1 ⟨rfl, hb⟩
      have B1 := hide hb
      clear hb
      go_wp2_with fail
      refine (itoa_any y w1 (H.out.keep B1.out) (by omega) (by omega)).mono ?_
      rintro e w2 ⟨rfl, hb⟩
      have B2 := hide (st_trans B1.out hb)
      clear hb
      go_wp2
      go_ret
      exact ⟨ret_str (by rw [V.out]; exact tx_append _ [32, 67, 69]), B2.out⟩
    · have V : Hid (yL y = Lib.itoa (1 - y) ++ [32, 66, 67, 69]) := by show _ = _; unfold yL; rw [ho, if_pos rfl, if_neg hp]
      have HO := hide ho
      have z1 := itoa_len (1 - y) (by omega) (by omega)
      clear ho
      go_enter Tryd.func15, Tryd.ntmps15
      go_wp2_with fail
      refine (isYear_as HO.out _).mono ?_
      rintro e w1 ⟨rfl, hb⟩
      have B1 := hide hb
      clear hb
      go_wp2_with fail
      refine (itoa_any (1 - y) w1 (H.out.keep B1.out) (by omega) (by omega)).mono ?_
      rintro e w2 ⟨rfl, hb⟩
      have B2 := hide (st_trans B1.out hb)
      clear hb
      go_wp2
      go_ret
      exact ⟨ret_str (by rw [V.out]; exact tx_append _ [32, 66, 67, 69]), B2.out⟩
set_option maxHeartbeats 1000000 in
theorem text_spec (y : Int) (w : World) :
    Calls Tryd.prog 16 #[.int .i64 y] w (YText (yL y) w) := by
  cases ho : yOk y
  · have V : Hid (yL y = []) := by show _ = _; unfold yL; rw [ho]; rfl
    have HO := hide ho
    clear ho
    go_enter Tryd.func16, Tryd.ntmps16
    go_wp2_with fail
    refine (l1Year_as HO.out _).mono ?_
    rintro e w1 ⟨rfl, hb⟩
    have B1 := hide hb
    clear hb
    go_wp2
    go_ret
    exact ⟨ret_str (by rw [V.out]; rfl), B1.out⟩
  · have hy := yOk_iff.1 ho
    by_cases hp : 0 < y
    · have V : Hid (yL y = Lib.itoa y ++ [32, 67, 69]) := by show _ = _; unfold yL; rw [ho, if_pos rfl, if_pos hp]
      have HO := hide ho
      have z1 := itoa_len y (by omega) (by omega)
      clear ho
      go_enter Tryd.func16, Tryd.ntmps16
      go_wp2_with fail
      refine (l1Year_as HO.out _).mono ?_
      rintro e w1 ⟨rfl, hb⟩
      have B1 := hide hb
      clear hb
      go_wp2_with fail
      refine (dec_any y w1 (by omega) (by omega)).mono ?_
      rintro e w2 ⟨rfl, hb⟩
      have B2 := hide (st_trans B1.out hb)
      clear hb
      go_wp2
      go_ret
      exact ⟨ret_str (by rw [V.out]; exact tx_append _ [32, 67, 69]), B2.out⟩
    · have V : Hid (yL y = Lib.itoa (1 - y) ++ [32, 66, 67, 69]) := by show _ = _; unfold yL; rw [ho, if_pos rfl, if_neg hp]
      have HO := hide ho
      have z1 := itoa_len (1 - y) (by omega) (by omega)
      clear ho
      go_enter Tryd.func16, Tryd.ntmps16
      go_wp2_with fail
      refine (l1Year_as HO.out _).mono ?_
      rintro e w1 ⟨rfl, hb⟩
      have B1 := hide hb
      clear hb
      go_wp2_with fail
      refine (dec_any (1 - y) w1 (by omega) (by omega)).mono ?_
      rintro e w2 ⟨rfl, hb⟩
      have B2 := hide (st_trans B1.out hb)
      clear hb
      go_wp2
      go_ret
      exact ⟨ret_str (by rw [V.out]; exact tx_append _ [32, 66, 67, 69]), B2.out⟩
set_option maxHeartbeats 1000000 in
theorem walk_fnExactYearText (y : Int) (w : World) (_ : -9223372036854775808 ≤ y ∧ y ≤ 9223372036854775807) (h : Tab w) :
    Calls Tryd.prog 6 #[.int .i64 y] w fun e w' => e = .returned (.bool true) ∧ Below w.heap.size w w' := by
  have H := hide h
  clear h
  go_enter Tryd.func6, Tryd.ntmps6
  go_wp2_with fail
  refine (text_spec y _).mono ?_
  rintro e w1 ⟨rfl, hb⟩
  have B1 := hide hb
  clear hb
  go_wp2_with fail
  refine (text_impl y _ (H.out.keep B1.out)).mono ?_
  rintro e w2 ⟨rfl, hb⟩
  have B2 := hide (st_trans B1.out hb)
  clear hb
  go_wp2
  go_ret
  exact ⟨rfl, B2.out⟩
end Go.Proofs.YtaikebigaiimaaaDoor
