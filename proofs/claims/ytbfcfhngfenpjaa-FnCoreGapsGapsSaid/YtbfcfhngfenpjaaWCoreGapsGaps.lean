/-
  The walk of the law FnCoreGapsGaps.
  Conditions: the bytes can be read.
-/
import Derived.Test.YtbfcfhngfenpjaaCk
namespace Go.Proofs.Ytbfcfhngfenpjaa
open Go.RowKit Co

set_option maxRecDepth 100000 in
set_option maxHeartbeats 8000000 in
theorem walk_fnCoreGapsGaps (a : Option Addr) (len cap : Nat) (w : World) (h : Code w a len cap) : Calls Try.prog 13 #[.slice a len cap] w fun e w' => e = .returned (.bool true) ∧ Below w.heap.size w w' := by
  have hm : len ≤ 9223372036854775807 := by have h1 := h.1; have h2 := h.2.1; unfold maxLen at h2; omega
  have H := hide h
  clear h
  by_cases hl : 1048576 < len
  · go_enter Try.func13, Try.ntmps13
    go_wp2
    go_ret
    exact ⟨rfl, Below.refl _ _⟩
  go_enter Try.func13, Try.ntmps13
  go_wp2_with fail
  refine (dDrawCoreGaps a len cap _ H.out).mono ?_
  rintro e w1 ⟨v, l, rfl, hO, hS, hL, hB⟩
  obtain ⟨ao, cp, rfl⟩ := hO.shape
  have O1 := hide hO
  have I1 := hide hS.in64
  have B1 := hide hB
  have Q1 := hide (hO.rs' hS.in64)
  have hcp := Q1.out.hcap
  have hcm := Q1.out.hmax
  unfold maxLen at hcm
  clear hO hS hB
  go_wp2_with fail
  refine (gaps_impl ao _ cp l _ Q1.out).mono ?_
  rintro e w2 ⟨v2, rfl, ho, hb⟩
  obtain ⟨ga, gc, rfl⟩ := ho.shape
  have B2 := hide (st_trans B1.out hb)
  have Og2 := hide ho
  have Q2 := hide (Q1.out.keep hb)
  clear ho hb
  go_wp2_with fail
  refine (gaps_spec ao _ cp l _ Q2.out).mono ?_
  rintro e w3 ⟨v3, rfl, ho, hb⟩
  obtain ⟨sa, sc, rfl⟩ := ho.shape
  have B3 := hide (st_trans B2.out hb)
  have Os3 := hide ho
  have Q3 := hide (Q2.out.keep hb)
  have Og3 := hide (Og2.out.below hb)
  clear ho hb
  have GI := gapsV_in64 l
  have I2 := hide GI.1
  have hgl := GI.2
  clear GI
  have Qg3 := hide (Og3.out.rs' I2.out)
  have Qs3 := hide (Os3.out.rs' I2.out)
  go_wp2_with fail
  refine (same_cores _ _ _ _ _ _ _ _ Qg3.out Qs3.out).mono ?_
  rintro e w4 ⟨rfl, hb⟩
  have B4 := hide (st_trans B3.out hb)
  have Q4 := hide (Q3.out.keep hb)
  have Qg4 := hide (Qg3.out.keep hb)
  have Qs4 := hide (Qs3.out.keep hb)
  have Og4 := hide (Og3.out.below hb)
  clear hb
  by_cases hg0 : (gapsV l).length = 0
  · have hgz : (((gapsV l).length : Int) == 0) = true := by rw [hg0]; rfl
    have h0 := hide hg0
    clear hg0
    go_wp2_with fail
    refine (same_cores _ _ _ _ _ _ _ _ Qg4.out Qs4.out).mono ?_
    rintro e w5 ⟨rfl, hb⟩
    have B5 := hide (st_trans B4.out hb)
    clear hb
    go_wp2
    go_ret
    exact ⟨rfl, B5.out⟩
  have hgz : (((gapsV l).length : Int) == 0) = false := by rw [beq_eq_false_iff_ne]; omega
  have hvb : vB l = true := by
    cases hv : vB l with
    | true => rfl
    | false => exfalso; apply hg0; unfold gapsV; rw [hv]; rfl
  have hgv : gapsV l = gaps l := by unfold gapsV; rw [hvb]; rfl
  have hlt : (gapsV l).length < l.length := by rw [hgv]; rcases (gaps_valid hvb).2 with h | h; · rw [hgv, h] at hg0; exact absurd rfl hg0
                                               · exact h
  have VB := hide hvb
  have GV := hide hgv
  clear hvb hgv
  have hj := gaps_gaps (vB_iff.1 VB.out).1 (by rw [← GV.out]; intro h; rw [h] at hg0; exact hg0 rfl)
  rw [← GV.out] at hj
  have hjv : joinV l = join l := by unfold joinV; rw [VB.out]; rfl
  have JI := hide (joinV_in64 l).1
  have hjl : (joinV l).length = (gapsV l).length + 1 := by rw [hjv]; exact hj.1
  have hgg : Hid (vB (gapsV l) = true) := by show _ = _; rw [GV.out]; exact (gaps_valid VB.out).1
  have HGG : Hid (gapsV (gapsV l) = ((joinV l).drop 1).take ((gapsV l).length - 1)) := by
    show gapsV (gapsV l) = _
    have e1 : ∀ x, vB x = true → gapsV x = gaps x := fun x hx => by unfold gapsV; rw [hx]; rfl
    rw [e1 _ hgg.out, hj.2, ← hjv, List.dropLast_eq_take, List.length_drop, hjl]
    rfl
  clear hj hjv
  have VB' := VB.out
  go_wp2_with fail
  refine (join_impl ao _ cp l _ Q4.out).mono ?_
  rw [VB.out]
  rintro e w5 ⟨v5, rfl, ho, hb⟩
  obtain ⟨ja, jc, rfl⟩ := ho.shape
  have B5 := hide (st_trans B4.out hb)
  have Oj5 := hide ho
  have Qj5 := hide (ho.rs' JI.out)
  have Qg5 := hide (Qg4.out.keep hb)
  clear ho hb VB'
  go_wp2_with fail
  refine (gaps_impl ga _ gc (gapsV l) _ Qg5.out).mono ?_
  rintro e w6 ⟨v6, rfl, ho, hb⟩
  obtain ⟨ha, hc, rfl⟩ := ho.shape
  have B6 := hide (st_trans B5.out hb)
  have Oh6 := hide ho
  have Qj6 := hide (Qj5.out.keep hb)
  clear ho hb
  have I6 := hide (gapsV_in64 (gapsV l)).1
  have Qh6 := hide (Oh6.out.rs' I6.out)
  obtain ⟨b, off, rfl, hbs, _⟩ := Qj6.out.cell (by omega)
  have hjc := Qj6.out.hcap
  have hjm := Qj6.out.hmax
  unfold maxLen at hjm
  have hjr : ((joinV l).length : Int) = ((gapsV l).length : Int) + 1 := by omega
  have QX := hide ((Qj6.out.drop (k := 1) (by omega)).take (k := (gapsV l).length - 1) (by rw [List.length_drop]; omega))
  obtain ⟨gz, hgz2⟩ : ∃ gz, (gapsV l).length = gz + 1 := ⟨(gapsV l).length - 1, by omega⟩
  have hjc1 : ¬ jc = 1 := by omega
  have QY : Hid (Rs w6 (some ⟨b, off + 2, none⟩) gz (jc - 1) (gapsV (gapsV l))) := by
    have hx := (Qj6.out.drop (k := 1) (by omega)).take (k := gz) (by rw [List.length_drop]; omega)
    have e : cutA (some ⟨b, off, none⟩) jc 1 = some ⟨b, off + 2, none⟩ := by unfold cutA; rw [if_neg hjc1]; show some (Addr.add ⟨b, off, none⟩ (1 * 2)) = _; unfold Addr.add; simp
    rw [e] at hx
    show Rs _ _ _ _ _
    rw [HGG.out, hgz2, Nat.add_sub_cancel]
    exact hx
  clear QX
  go_wp2_with fail
  refine (same_cores _ _ _ _ _ _ _ _ Qh6.out QY.out).mono ?_
  rintro e w7 ⟨rfl, hb⟩
  have B7 := hide (st_trans B6.out hb)
  clear hb
  go_wp2
  go_ret
  exact ⟨rfl, B7.out⟩
end Go.Proofs.Ytbfcfhngfenpjaa
