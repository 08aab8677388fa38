/-
  The texts of fractions, and the walk of the law FnExactFracText.
  Conditions: int64; the library's table of powers of ten holds what start-up lays.
-/
import Derived.Test.YtaikebigaiimaaaDoorTd
import Derived.Test.YtaikebigaiimaaaDoorGe
namespace Go.Proofs.YtaikebigaiimaaaDoor
open Go.RowKit Fr

/-- the text of a fraction -/
def fL (n d : Int) : List UInt8 := if okB n d then (if d = 1 then Lib.itoa n else Lib.itoa n ++ [47] ++ Lib.itoa d) else []
theorem fL_no {n d : Int} (h : okB n d = false) : fL n d = [] := by unfold fL; rw [h]; rfl
theorem fL_one {n : Int} (h : okB n 1 = true) : fL n 1 = Lib.itoa n := by unfold fL; rw [h, if_pos rfl, if_pos rfl]
theorem fL_two {n d : Int} (h : okB n d = true) (hd : d ≠ 1) : fL n d = Lib.itoa n ++ [47] ++ Lib.itoa d := by unfold fL; rw [h, if_pos rfl, if_neg hd]

set_option maxRecDepth 100000 in
set_option maxHeartbeats 4000000 in
theorem frac_impl (n d : Int) (w : World) (hT : Tab w) (h1 : -9223372036854775808 ≤ n) (h2 : n ≤ 9223372036854775807) (h3 : -9223372036854775808 ≤ d) (h4 : d ≤ 9223372036854775807) :
    Calls Tryd.prog 24 #[.agg #[.int .i64 n, .int .i64 d]] w fun e w' => e = .returned (.string (tx (fL n d))) ∧ Below w.heap.size w w' := by
  have T0 := hide hT
  clear hT
  have V : Hid (∀ w, Calls Tryd.prog 39 #[.agg #[.int .i64 n, .int .i64 d]] w fun e w' => e = .returned (.bool (okB n d)) ∧ Below w.heap.size w w') := fun w => Fx.fv_impl n d w h1 h2 h3 h4
  have C0 := hide (Fx.FrAt.new w n d 35)
  go_enter Tryd.func24, Tryd.ntmps24
  go_wp2_with fail
  refine (V.out _).mono ?_
  rintro e w1 ⟨rfl, hb⟩
  have B1 := hide (st_trans (st_alloc (st_refl w) _) hb)
  have C1 := hide (C0.out.below hb)
  obtain ⟨c0, c1⟩ := C1.out.cells
  clear hb C0 V
  cases ho : okB n d
  · have E := hide (fL_no ho)
    clear ho
    go_wp2
    go_ret
    exact ⟨ret_str (by rw [E.out]; rfl), B1.out⟩
  · have hk := okB_iff.1 ho
    have hn1 := hk.n1
    have hn2 := hk.n2
    have hd1 := hk.d1
    have hd2 := hk.d2
    clear hk
    by_cases hd : d = 1
    · subst hd
      have E := hide (fL_one ho)
      clear ho
      go_wp2_with fail
      refine (itoa_any n _ (T0.out.keep B1.out) (by omega) (by omega)).mono ?_
      rintro e w2 ⟨rfl, hb⟩
      have B2 := hide (st_trans B1.out hb)
      clear hb
      go_wp2
      go_ret
      exact ⟨ret_str (by rw [E.out]), B2.out⟩
    · have E := hide (fL_two ho hd)
      have z1 := itoa_len n (by omega) (by omega)
      have z2 := itoa_len d (by omega) (by omega)
      have e1 : (d == 1) = false := by rw [beq_eq_false_iff_ne]; exact hd
      clear ho
      have HK0 := hide (st_refl w1)
      have T1 := hide (T0.out.keep B1.out)
      go_wp2_with fail
      go_region_with ((go_at_call 32; refine (itoa_any _ _ (T1.out.keep (by first | exact Hid.out (by assumption) | exact st_drew (Hid.out (by assumption)) | exact st_drew (st_drew (Hid.out (by assumption))))) (by omega) (by omega)).mono ?_; rintro e wx ⟨rfl, hbx⟩; have HK := hide (st_trans (a := w1) (by first | exact Hid.out (by assumption) | exact st_drew (Hid.out (by assumption)) | exact st_drew (st_drew (Hid.out (by assumption)))) hbx); obtain ⟨cx0, cx1⟩ := (C1.out.below HK.out).cells))
      all_goals
        go_wp2
        go_ret
        exact ⟨ret_str (by rw [E.out, ← tx_append, ← tx_append]; rfl), st_trans B1.out (by first | exact Hid.out (by assumption) | exact st_drew (Hid.out (by assumption)) | exact st_drew (st_drew (Hid.out (by assumption))))⟩

set_option maxRecDepth 100000 in
set_option maxHeartbeats 4000000 in
theorem frac_spec (n d : Int) (w : World) (h1 : -9223372036854775808 ≤ n) (h2 : n ≤ 9223372036854775807) (h3 : -9223372036854775808 ≤ d) (h4 : d ≤ 9223372036854775807) :
    Calls Tryd.prog 22 #[.agg #[.int .i64 n, .int .i64 d]] w fun e w' => e = .returned (.string (tx (fL n d))) ∧ Below w.heap.size w w' := by
  have V : Hid (∀ w, Calls Tryd.prog 38 #[.agg #[.int .i64 n, .int .i64 d]] w fun e w' => e = .returned (.bool (okB n d)) ∧ Below w.heap.size w w') := fun w => Fx.fv_spec n d w h1 h2 h3 h4
  have C0 := hide (Fx.FrAt.new w n d 35)
  go_enter Tryd.func22, Tryd.ntmps22
  go_wp2_with fail
  refine (V.out _).mono ?_
  rintro e w1 ⟨rfl, hb⟩
  have B1 := hide (st_trans (st_alloc (st_refl w) _) hb)
  have C1 := hide (C0.out.below hb)
  obtain ⟨c0, c1⟩ := C1.out.cells
  clear hb C0 V
  cases ho : okB n d
  · have E := hide (fL_no ho)
    clear ho
    go_wp2
    go_ret
    exact ⟨ret_str (by rw [E.out]; rfl), B1.out⟩
  · have hk := okB_iff.1 ho
    have hn1 := hk.n1
    have hn2 := hk.n2
    have hd1 := hk.d1
    have hd2 := hk.d2
    clear hk
    by_cases hd : d = 1
    · subst hd
      have E := hide (fL_one ho)
      clear ho
      go_wp2_with fail
      refine (dec_any n _ (by omega) (by omega)).mono ?_
      rintro e w2 ⟨rfl, hb⟩
      have B2 := hide (st_trans B1.out hb)
      clear hb
      go_wp2
      go_ret
      exact ⟨ret_str (by rw [E.out]), B2.out⟩
    · have E := hide (fL_two ho hd)
      have z1 := itoa_len n (by omega) (by omega)
      have z2 := itoa_len d (by omega) (by omega)
      have e1 : (d == 1) = false := by rw [beq_eq_false_iff_ne]; exact hd
      clear ho
      have HK0 := hide (st_refl w1)
      go_wp2_with fail
      go_region_with ((go_at_call 34; refine (dec_any _ _ (by omega) (by omega)).mono ?_; rintro e wx ⟨rfl, hbx⟩; have HK := hide (st_trans (a := w1) (by first | exact Hid.out (by assumption) | exact st_drew (Hid.out (by assumption)) | exact st_drew (st_drew (Hid.out (by assumption)))) hbx); obtain ⟨cx0, cx1⟩ := (C1.out.below HK.out).cells))
      all_goals
        go_wp2
        go_ret
        exact ⟨ret_str (by rw [E.out, ← tx_append, ← tx_append]; rfl), st_trans B1.out (by first | exact Hid.out (by assumption) | exact st_drew (Hid.out (by assumption)) | exact st_drew (st_drew (Hid.out (by assumption))))⟩

theorem to_frac (n d : Int) (w : World) : Calls Tryd.prog 23 #[.agg #[.int .i64 n, .int .i64 d]] w fun e w' => e = .returned (.agg #[.int .i64 n, .int .i64 d]) ∧ Below w.heap.size w w' := by
  go_enter Tryd.func23, Tryd.ntmps23
  go_wp2
  refine bodyPost_ret (v := .agg #[.int .i64 n, .int .i64 d]) (by simp [results, Tryd.results23, go_sem]) rfl ⟨rfl, ?_⟩
  go_grown
set_option maxHeartbeats 2000000 in
theorem walk_fnExactFracText (n d : Int) (w : World) (h1 : -9223372036854775808 ≤ n ∧ n ≤ 9223372036854775807) (h2 : -9223372036854775808 ≤ d ∧ d ≤ 9223372036854775807) (hT : Tab w) :
    Calls Tryd.prog 10 #[.agg #[.int .i64 n, .int .i64 d]] w fun e w' => e = .returned (.bool true) ∧ Below w.heap.size w w' := by
  have T := hide hT
  have I1 := hide h1
  have I2 := hide h2
  clear hT h1 h2
  have C0 := hide (Fx.FrAt.new w n d 33)
  go_enter Tryd.func10, Tryd.ntmps10
  go_wp2_with fail
  refine (to_frac n d _).mono ?_
  rintro e w1 ⟨rfl, hb⟩
  have B1 := hide (st_trans (st_alloc (st_refl w) _) hb)
  have C1 := hide (C0.out.below hb)
  clear hb C0
  go_wp2_with fail
  refine (frac_spec n d _ I1.out.1 I1.out.2 I2.out.1 I2.out.2).mono ?_
  rintro e w2 ⟨rfl, hb⟩
  have B2 := hide (st_trans B1.out hb)
  have C2 := hide (C1.out.below hb)
  obtain ⟨c0, c1⟩ := C2.out.cells
  clear hb C1
  go_wp2_with fail
  refine (to_frac n d _).mono ?_
  rintro e w3 ⟨rfl, hb⟩
  have B3 := hide (st_trans B2.out hb)
  clear hb
  go_wp2_with fail
  refine (frac_impl n d _ (T.out.keep B3.out) I1.out.1 I1.out.2 I2.out.1 I2.out.2).mono ?_
  rintro e w4 ⟨rfl, hb⟩
  have B4 := hide (st_trans B3.out hb)
  clear hb
  go_wp2
  go_ret
  exact ⟨rfl, B4.out⟩
end Go.Proofs.YtaikebigaiimaaaDoor
