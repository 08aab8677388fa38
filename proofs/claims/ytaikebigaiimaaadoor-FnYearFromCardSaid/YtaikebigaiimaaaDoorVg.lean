/-
  The library's reading of any text, and the walk of the law FnExactYearFrom.
  Conditions: the library's table of powers of ten and its two error variables hold what start-up lays.
-/
import Derived.Test.YtaikebigaiimaaaDoorVf
namespace Go.Proofs.YtaikebigaiimaaaDoor
open Go.RowKit

set_option maxRecDepth 100000 in
set_option maxHeartbeats 2000000 in
/-- the library's reading of a text that is no year's -/
theorem from_impl_no {l : List UInt8} (hn : ∀ z, yOk z = true → yL z ≠ l) (hl : l.length ≤ 2000000) (w : World) (hT : Tab w) (hE : Errs w) :
    Calls Tryd.prog 13 #[.string (tx l)] w fun e w' => e = .returned (.tuple #[.int .i64 0, .bool false]) ∧ Below w.heap.size w w' := by
  obtain ⟨p, q, f, hp, hc⟩ := cut_any l hl
  have T := hide hT
  have E := hide hE
  have CU := hide hc
  have AT := hide (fun w h => atoi_any p w (by omega) h)
  have TI := hide text_impl
  have HN := hide hn
  clear hT hE hc hn
  by_cases h0 : l = []
  · have E0 : (tx l).toList.isEmpty = true := by rw [h0]; exact tx_none
    clear h0 HN TI
    go_enter Tryd.func13, Tryd.ntmps13
    go_wp2_with fail
    refine (CU.out _).mono ?_
    rintro e w1 ⟨rfl, hb⟩
    have B1 := hide hb
    clear hb CU
    go_wp2_with fail
    refine (AT.out _ (E.out.keep B1.out)).mono ?_
    rintro e w2 ⟨⟨v, rfl⟩ | ⟨v, t, N, rfl⟩, hb⟩
    · have B2 := hide (st_trans B1.out hb)
      clear hb AT
      by_cases hq : q = [66, 67, 69]
      · have EQ : ((tx q).toList == [66, 67, 69]) = true := by rw [tx_list, hq]; exact beq_self_eq_true _
        clear hq
        go_wp2
        go_ret2
        exact ⟨rfl, B2.out⟩
      · have EQ : ((tx q).toList == [66, 67, 69]) = false := by rw [tx_list]; exact beq_eq_false_iff_ne.2 hq
        clear hq
        go_wp2
        go_ret2
        exact ⟨rfl, B2.out⟩
    · have B2 := hide (st_trans B1.out hb)
      clear hb AT
      go_wp2
      go_ret2
      exact ⟨rfl, B2.out⟩
  · have E0 : (tx l).toList.isEmpty = false := tx_full h0
    have NE : ∀ z, ¬ yL z = l := fun z e => by
      cases ho : yOk z with
      | true => exact HN.out z ho e
      | false => rw [yL_no ho] at e; exact h0 e.symm
    have NP : ∀ z, ¬ (tx (yL z)).toList = (tx l).toList := fun z => by rw [tx_list, tx_list]; exact NE z
    have NB : ∀ z, ((tx (yL z)).toList == (tx l).toList) = false := fun z => beq_eq_false_iff_ne.2 (NP z)
    clear h0 HN NE
    go_enter Tryd.func13, Tryd.ntmps13
    go_wp2_with fail
    refine (CU.out _).mono ?_
    rintro e w1 ⟨rfl, hb⟩
    have B1 := hide hb
    clear hb CU
    go_wp2_with fail
    refine (AT.out _ (E.out.keep B1.out)).mono ?_
    rintro e w2 ⟨⟨v, rfl⟩ | ⟨v, t, N, rfl⟩, hb⟩
    · have B2 := hide (st_trans B1.out hb)
      clear hb AT
      by_cases hq : q = [66, 67, 69]
      · have EQ : ((tx q).toList == [66, 67, 69]) = true := by rw [tx_list, hq]; exact beq_self_eq_true _
        clear hq
        go_wp2_with fail
        refine (TI.out _ _ (T.out.keep B2.out)).mono ?_
        rintro e w3 ⟨rfl, hb⟩
        have B3 := hide (st_trans B2.out hb)
        clear hb
        go_wp2
        go_ret2
        exact ⟨rfl, B3.out⟩
      · have EQ : ((tx q).toList == [66, 67, 69]) = false := by rw [tx_list]; exact beq_eq_false_iff_ne.2 hq
        clear hq
        go_wp2_with fail
        refine (TI.out _ _ (T.out.keep B2.out)).mono ?_
        rintro e w3 ⟨rfl, hb⟩
        have B3 := hide (st_trans B2.out hb)
        clear hb
        go_wp2
        go_ret2
        exact ⟨rfl, B3.out⟩
    · have B2 := hide (st_trans B1.out hb)
      clear hb AT
      go_wp2
      go_ret2
      exact ⟨rfl, B2.out⟩
/-- the library's reading of any text: the reference's -/
theorem from_impl (l : List UInt8) (hl : l.length ≤ 2000000) (w : World) (hT : Tab w) (hE : Errs w) :
    Calls Tryd.prog 13 #[.string (tx l)] w fun e w' => e = .returned (.tuple #[.int .i64 (fv l), .bool (fb l)]) ∧ Below w.heap.size w w' := by
  cases h : fb l with
  | true =>
    obtain ⟨z, h1, h2, h3⟩ := fb_is h
    rw [h3, ← h2]
    exact from_impl_yes h1 w hT
  | false =>
    rw [fv_no h]
    exact from_impl_no (fun z hz e => by
      have := (fb_year hz).1
      rw [e, h] at this
      cases this) hl w hT hE
set_option maxRecDepth 100000 in
set_option maxHeartbeats 2000000 in
theorem walk_fnExactYearFrom (s : ByteArray) (w : World) (_ : s.size ≤ maxLen) (hT : Tab w) (hE : Errs w) : Calls Tryd.prog 3 #[.string s] w fun e w' => e = .returned (.bool true) ∧ Below w.heap.size w w' := by
  obtain ⟨l, rfl⟩ : ∃ l, s = tx l := ⟨s.data.toList, by apply ByteArray.ext; simp [tx]⟩
  have T := hide hT
  have E := hide hE
  clear hT hE
  have hsz : (tx l).size = l.length := tx_size l
  by_cases hl : 1048576 < l.length
  · go_enter Tryd.func3, Tryd.ntmps3
    go_wp2
    go_ret
    exact ⟨rfl, Below.refl _ _⟩
  go_enter Tryd.func3, Tryd.ntmps3
  go_wp2_with fail
  refine (from_spec l _ (by omega)).mono ?_
  rintro e w1 ⟨rfl, hb⟩
  have B1 := hide hb
  clear hb
  go_wp2_with fail
  refine (from_impl l (by omega) _ (T.out.keep B1.out) (E.out.keep B1.out)).mono ?_
  rintro e w2 ⟨rfl, hb⟩
  have B2 := hide (st_trans B1.out hb)
  clear hb
  go_wp2
  go_ret
  exact ⟨rfl, B2.out⟩
end Go.Proofs.YtaikebigaiimaaaDoor
