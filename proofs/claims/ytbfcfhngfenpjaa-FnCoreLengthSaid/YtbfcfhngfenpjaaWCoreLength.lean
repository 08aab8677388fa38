/-
  The walk of the law FnCoreLength.
  Conditions: the bytes can be read.
-/
import Derived.Test.YtbfcfhngfenpjaaCk
namespace Go.Proofs.Ytbfcfhngfenpjaa
open Go.RowKit Co

set_option maxRecDepth 100000 in
set_option maxHeartbeats 8000000 in
theorem walk_fnCoreLength (a : Option Addr) (len cap : Nat) (a' : Option Addr) (len' cap' : Nat) (w : World) (h : Code w a len cap) (h' : Code w a' len' cap') : Calls Try.prog 9 #[.slice a len cap, .slice a' len' cap'] w fun e w' => e = .returned (.bool true) ∧ Below w.heap.size w w' := by
  have hm : len ≤ 9223372036854775807 := by have h1 := h.1; have h2 := h.2.1; unfold maxLen at h2; omega
  have hm' : len' ≤ 9223372036854775807 := by have h1 := h'.1; have h2 := h'.2.1; unfold maxLen at h2; omega
  have H := hide h
  clear h
  by_cases hl : 1048576 < len
  · go_enter Try.func9, Try.ntmps9
    go_wp2
    go_ret
    exact ⟨rfl, Below.refl _ _⟩
  by_cases hl' : 1048576 < len'
  · go_enter Try.func9, Try.ntmps9
    go_wp2
    go_ret
    exact ⟨rfl, Below.refl _ _⟩
  go_enter Try.func9, Try.ntmps9
  go_wp2_with fail
  refine (dDrawCoreLength a len cap _ H.out).mono ?_
  rintro e w1 ⟨v, l, rfl, hO, hS, hL, hB⟩
  obtain ⟨ao, cp, rfl⟩ := hO.shape
  have O1 := hide hO
  have I1 := hide hS.in64
  have B1 := hide hB
  have Q1 := hide (hO.rs' hS.in64)
  have hcp := Q1.out.hcap
  have hcm := Q1.out.hmax
  unfold maxLen at hcm
  clear hO hS hB
  rcases len_cases l with ⟨hvb, ho⟩ | ⟨hvb, ho, hn0, hn1, hn2⟩
  · have HO := hide ho
    clear ho hvb
    go_wp2_with fail
    refine (length_impl_as ao _ cp l (-1) _ Q1.out HO.out).mono ?_
    rintro e w2 ⟨rfl, hb⟩
    have B2 := hide (st_trans B1.out hb)
    have Q2 := hide (Q1.out.keep hb)
    clear hb
    go_wp2_with fail
    refine (length_spec_as ao _ cp l (-1) _ Q2.out HO.out).mono ?_
    rintro e w3 ⟨rfl, hb⟩
    have B3 := hide (st_trans B2.out hb)
    clear hb
    go_wp2
    go_ret
    exact ⟨rfl, B3.out⟩
  · have HO := hide ho
    have VB := hide hvb
    clear ho
    have hne : ¬ ln l < 0 := by omega
    obtain ⟨N, hK⟩ : ∃ N : Nat, len' % (l.length + 1) = N := ⟨_, rfl⟩
    have hKl : N ≤ l.length := by have := Nat.mod_lt len' (show 0 < l.length + 1 by omega); omega
    have hKz : (len' : Int) % ((l.length : Int) + 1) = (N : Int) := by rw [← hK]; simp
    have vt := vB_take N hvb
    have vd := vB_drop N hvb
    have e1 : Hid (lenV (l.take N) = ln (l.take N)) := by show _ = _; unfold lenV; rw [vt, if_pos rfl]
    have e2 : Hid (lenV (l.drop N) = ln (l.drop N)) := by show _ = _; unfold lenV; rw [vd, if_pos rfl]
    have t1 := ln_ge (vB_iff.1 vt).1
    have t2 := ln_ge (vB_iff.1 vd).1
    have ES := hide (ln_split l N)
    have es := ES.out
    have s1 : 0 ≤ ln (l.take N) ∧ ln (l.take N) ≤ 30000 := by omega
    have s2 : 0 ≤ ln (l.drop N) ∧ ln (l.drop N) ≤ 30000 := by omega
    clear vt vd t1 t2 es hK
    have HKZ := hide hKz
    go_wp2_with fail
    refine (length_impl_as ao _ cp l (ln l) _ Q1.out HO.out).mono ?_
    rintro e w2 ⟨rfl, hb⟩
    have B2 := hide (st_trans B1.out hb)
    have Q2 := hide (Q1.out.keep hb)
    clear hb
    go_wp2_with fail
    refine (length_spec_as ao _ cp l (ln l) _ Q2.out HO.out).mono ?_
    rintro e w3 ⟨rfl, hb⟩
    have B3 := hide (st_trans B2.out hb)
    have Q3 := hide (Q2.out.keep hb)
    clear hb
    have RA := hide (Q3.out.take hKl)
    have RB := hide (Q3.out.drop hKl)
    have hKc : N ≤ cp := by omega
    generalize hX : ln (l.take N) = x at *
    generalize hY : ln (l.drop N) = y at *
    have HXY : Hid (x + y = ln l) := ES.out
    clear hX hY
    go_wp2_with fail
    rw [hKz]
    have hK1 : (0 : Int) ≤ (N : Int) := by omega
    have hK2 : (N : Int) ≤ (l.length : Int) := by omega
    have hK3 : (N : Int) ≤ (cp : Int) := by omega
    have hK4 : (l.length : Int) ≤ (cp : Int) := by omega
    have hK5 : (0 : Int) ≤ (l.length : Int) := by omega
    have e3 : IntKind.i64.wrap (x + y) = x + y := IntWalk.i64_in _ (by omega)
    have e4 : IntKind.i64.wrap (y + x) = x + y := by rw [Int.add_comm]; exact e3
    have HK0 := hide (st_refl w3)
    have HKd := hide (st_drew HK0.out)
    clear hKz
    go_cut [9] (fun s wx => s = .int .i64 (ln l) ∧ Below w.heap.size w wx ∧ Rs wx ao l.length cp l)
    case first =>
      refine wp_region_any (by kernel_rfl) ?_
      try (change wpAny _ _ _ _ _ _ _ (World.drew _))
      refine wpAny_take (i := 0) (v := ?_) rfl (by kernel_rfl) (by kernel_rfl) (by kernel_rfl) (fun _ _ _ h => h) (Or.inl ⟨by kernel_rfl, ?_⟩) ?_
      rotate_left 1
      · intro w; go_simp; try with_reducible rfl
      refine wpAny_take (i := 1) (v := ?_) rfl (by kernel_rfl) (by kernel_rfl) (by kernel_rfl) (fun _ _ _ h => h) (Or.inl ⟨by kernel_rfl, ?_⟩) ?_
      rotate_left 1
      · intro w; go_simp; try with_reducible rfl
      refine wpAny_take (i := 2) (v := ?_) rfl (by kernel_rfl) (by kernel_rfl) (by kernel_rfl) (fun _ _ _ h => h) (Or.inl ⟨by kernel_rfl, ?_⟩) ?_
      rotate_left 1
      · intro w; go_simp; try with_reducible rfl
      refine wpAny_take (i := 4) (v := ?_) rfl (by kernel_rfl) (by kernel_rfl) (by kernel_rfl) (fun _ _ _ h => h) (Or.inl ⟨by kernel_rfl, ?_⟩) ?_
      rotate_left 1
      · intro w; go_simp; try with_reducible rfl
      refine wpAny_take (i := 5) (v := ?_) rfl (by kernel_rfl) (by kernel_rfl) (by kernel_rfl) (fun _ _ _ h => h) (Or.inl ⟨by kernel_rfl, ?_⟩) ?_
      rotate_left 1
      · intro w; go_simp; try with_reducible rfl
      refine wpAny_take (i := 6) (v := .slice (cutA ao cp N) (l.length - N) (cp - N)) rfl (by kernel_rfl) (by kernel_rfl) (by kernel_rfl) (fun _ _ _ h => h) (Or.inl ⟨by kernel_rfl, ?_⟩) ?_
      · intro w
        go_simp
        rfl
      refine wpAny_ready (rs := [3]) (by kernel_rfl) (by simp) ?_
      refine AllReady.cons rfl (fun K hK => ?_) AllReady.nil
      go_simp
      refine (length_impl_as _ _ _ _ x _ (RA.out.keep HKd.out) e1.out).mono ?_
      rintro e wx ⟨rfl, hbx⟩
      have HKx := hide (st_trans HKd.out hbx)
      refine hK _ _ ?_
      clear hK K hbx
      refine wpAny_ready (rs := [7]) (by kernel_rfl) (by simp) ?_
      refine AllReady.cons rfl (fun K hK => ?_) AllReady.nil
      go_simp
      refine (length_impl_as _ _ _ _ y _ (RB.out.keep HKx.out) e2.out).mono ?_
      rintro e wy ⟨rfl, hbx⟩
      have HK := hide (st_trans HKx.out hbx)
      refine hK _ _ ?_
      clear hK K hbx
      refine wpAny_take (i := 8) (v := ?_) rfl (by kernel_rfl) (by kernel_rfl) (by kernel_rfl) (fun _ _ _ h => h) (Or.inl ⟨by kernel_rfl, ?_⟩) ?_
      rotate_left 1
      · intro w; go_simp; try with_reducible rfl
      refine wpAny_take (i := 9) (v := ?_) rfl (by kernel_rfl) (by kernel_rfl) (by kernel_rfl) (fun _ _ _ h => h) (Or.inl ⟨by kernel_rfl, ?_⟩) ?_
      rotate_left 1
      · intro w; go_simp; try with_reducible rfl
      go_simp
      refine wpAny_done (by kernel_rfl) ?_ _
      clear e3 e4
      go_wp2_with fail
      go_meet
      exact ⟨by rw [HXY.out], st_trans B3.out HK.out, Q3.out.keep HK.out⟩
    case rest =>
      obtain ⟨rfl, hb, hq⟩ := hcut
      have B4 := hide hb
      have Q4 := hide hq
      clear hb hq e3 e4
      by_cases hl0 : l.length = 0
      · have hl1 : l = [] := List.eq_nil_of_length_eq_zero hl0
        subst hl1
        have hln : ln ([] : List (Int × Int)) = 0 := rfl
        rw [hln]
        go_wp2
        go_ret
        exact ⟨rfl, B4.out⟩
      · have hl0z : ((l.length : Int) == 0) = false := by rw [beq_eq_false_iff_ne]; omega
        have hgv : gapsV l = gaps l := by unfold gapsV; rw [VB.out]; rfl
        have hgs := gaps_valid VB.out
        have hgl := gaps_sum VB.out (by omega)
        have hlg : Hid (lenV (gapsV l) = ln (gaps l)) := by show _ = _; rw [hgv]; unfold lenV; rw [hgs.1, if_pos rfl]
        have g1 := ln_ge (vB_iff.1 hgs.1).1
        obtain ⟨f1, f2, f3⟩ := first_last VB.out (show 0 < l.length by omega)
        clear hgv hgs
        go_wp2_with fail
        refine (gaps_impl ao _ cp l _ Q4.out).mono ?_
        rintro e w5 ⟨v5, rfl, ho, hb⟩
        obtain ⟨ga, gc, rfl⟩ := ho.shape
        have B5 := hide (st_trans B4.out hb)
        have Og5 := hide ho
        have Q5 := hide (Q4.out.keep hb)
        clear ho hb
        have I5 := hide (gapsV_in64 l).1
        have Qg5 := hide (Og5.out.rs' I5.out)
        go_wp2_with fail
        refine (length_impl_as _ _ _ _ (ln (gaps l)) _ Qg5.out hlg.out).mono ?_
        rintro e w6 ⟨rfl, hb⟩
        have B6 := hide (st_trans B5.out hb)
        have Q6 := hide (Q5.out.keep hb)
        clear hb
        obtain ⟨b, off, rfl, hbs, hc⟩ := Q6.out.cell (by omega)
        have d0 := (hc 0 (by omega)).1
        have d1 := (hc (l.length - 1) (by omega)).2
        simp only [Nat.zero_mul, Nat.add_zero] at d0
        clear hc
        generalize l[0].1 = lo at *
        generalize l[l.length - 1].2 = hi at *
        generalize ln (gaps l) = gl at *
        have E7 := hide hgl
        have hlz : ((l.length : Int) - 1).toNat = l.length - 1 := by omega
        have hlz2 : (0 : Int) ≤ (l.length : Int) - 1 := by omega
        have hlz3 : (l.length : Int) - 1 < (l.length : Int) := by omega
        have hlz4 : (0 : Int) < (l.length : Int) := by omega
        have hlz5 : (l.length : Int) ≤ ln l := hn1
        generalize ln l = lnl at *
        have w1' : IntKind.i64.wrap (lnl + gl) = lnl + gl := IntWalk.i64_in _ (by omega)
        have w2' : IntKind.i64.wrap ((l.length : Int) - 1) = (l.length : Int) - 1 := IntWalk.i64_in _ (by omega)
        have w3' : IntKind.i64.wrap (hi - lo) = hi - lo := IntWalk.i64_in _ (by omega)
        have w4' : (lnl + gl == hi - lo) = true := by rw [hgl]; simp
        clear hgl
        go_wp2_with fail
        go_quiet (fail)
        clear w1' w2' w3' w4'
        go_wp2
        go_ret
        exact ⟨rfl, st_dN B6.out _⟩
end Go.Proofs.Ytbfcfhngfenpjaa
