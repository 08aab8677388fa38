/-
  The walk of the law FnCoreGaps.
  Conditions: the bytes can be read.
-/
import Derived.Test.YtbfcfhngfenpjaaCk
namespace Go.Proofs.Ytbfcfhngfenpjaa
open Go.RowKit Co

set_option maxHeartbeats 8000000 in
theorem walk_fnCoreGaps (a : Option Addr) (len cap : Nat) (w : World) (h : Code w a len cap) : Calls Try.prog 11 #[.slice a len cap] w fun e w' => e = .returned (.bool true) ∧ Below w.heap.size w w' := by
  have hm : len ≤ 9223372036854775807 := by have h1 := h.1; have h2 := h.2.1; unfold maxLen at h2; omega
  have H := hide h
  clear h
  by_cases hl : 1048576 < len
  · go_enter Try.func11, Try.ntmps11
    go_wp2
    go_ret
    exact ⟨rfl, Below.refl _ _⟩
  go_enter Try.func11, Try.ntmps11
  go_wp2_with fail
  refine (dDrawCoreGaps a len cap _ H.out).mono ?_
  rintro e w1 ⟨v, l, rfl, hO, hS, hL, hB⟩
  obtain ⟨ao, cp, rfl⟩ := hO.shape
  have O1 := hide hO
  have I1 := hide hS.in64
  have B1 := hide hB
  have Q1 := hide (hO.rs' hS.in64)
  have hcp := Q1.out.hcap
  have hcm := Q1.out.hmax
  unfold maxLen at hcm
  clear hO hS hB
  go_wp2_with fail
  refine (gaps_impl ao _ cp l _ Q1.out).mono ?_
  rintro e w2 ⟨v2, rfl, ho, hb⟩
  obtain ⟨ga, gc, rfl⟩ := ho.shape
  have B2 := hide (st_trans B1.out hb)
  have Og2 := hide ho
  have Q2 := hide (Q1.out.keep hb)
  clear ho hb
  go_wp2_with fail
  refine (gaps_spec ao _ cp l _ Q2.out).mono ?_
  rintro e w3 ⟨v3, rfl, ho, hb⟩
  obtain ⟨sa, sc, rfl⟩ := ho.shape
  have B3 := hide (st_trans B2.out hb)
  have Os3 := hide ho
  have Q3 := hide (Q2.out.keep hb)
  have Og3 := hide (Og2.out.below hb)
  clear ho hb
  have GI := gapsV_in64 l
  have I2 := hide GI.1
  have hgl := GI.2
  clear GI
  have Qg3 := hide (Og3.out.rs' I2.out)
  have Qs3 := hide (Os3.out.rs' I2.out)
  go_wp2_with fail
  refine (same_cores _ _ _ _ _ _ _ _ Qg3.out Qs3.out).mono ?_
  rintro e w4 ⟨rfl, hb⟩
  have B4 := hide (st_trans B3.out hb)
  have Q4 := hide (Q3.out.keep hb)
  have Qg4 := hide (Qg3.out.keep hb)
  have Qs4 := hide (Qs3.out.keep hb)
  have Og4 := hide (Og3.out.below hb)
  clear hb
  by_cases hg0 : (gapsV l).length = 0
  · have hgz : (((gapsV l).length : Int) == 0) = true := by rw [hg0]; rfl
    have h0 := hide hg0
    clear hg0
    go_wp2_with fail
    refine (same_cores _ _ _ _ _ _ _ _ Qg4.out Qs4.out).mono ?_
    rintro e w5 ⟨rfl, hb⟩
    have B5 := hide (st_trans B4.out hb)
    clear hb
    go_wp2
    go_ret
    exact ⟨rfl, B5.out⟩
  have hgz : (((gapsV l).length : Int) == 0) = false := by rw [beq_eq_false_iff_ne]; omega
  have hvb : vB l = true := by
    cases hv : vB l with
    | true => rfl
    | false => exfalso; apply hg0; unfold gapsV; rw [hv]; rfl
  have hgv : gapsV l = gaps l := by unfold gapsV; rw [hvb]; rfl
  have hlt : (gapsV l).length < l.length := by rw [hgv]; rcases (gaps_valid hvb).2 with h | h; · rw [hgv, h] at hg0; exact absurd rfl hg0
                                               · exact h
  have VB := hide hvb
  have GV := hide hgv
  clear hvb hgv
  have hl0 : 0 < l.length := by omega
  have hl0z : (0 : Int) < (l.length : Int) := by omega
  obtain ⟨f1, f2, f3⟩ := first_last VB.out hl0
  obtain ⟨b, off, rfl, hbs, hc⟩ := Q4.out.cell (by omega)
  have d0 := (hc 0 hl0).1
  have d1 := (hc (l.length - 1) (by omega)).2
  obtain ⟨lo, hlo⟩ : ∃ x, (l[0]).1 = x := ⟨_, rfl⟩
  obtain ⟨hi, hhi⟩ : ∃ x, (l[l.length - 1]'(by omega)).2 = x := ⟨_, rfl⟩
  have CA : Hid (∀ d, lo ≤ d → d < hi → anyB d l = !anyB d (gaps l)) := fun d h1 h2 => gaps_any VB.out hl0 (by rw [hlo]; exact h1) (by rw [hhi]; exact h2)
  simp only [Nat.zero_mul, Nat.add_zero] at d0
  rw [hlo] at d0 f1 f3
  rw [hhi] at d1 f2 f3
  clear hc hlo hhi
  have D1 := hide d1
  clear d1
  go_wp2
  have hlz : ((l.length : Int) - 1).toNat = l.length - 1 := by omega
  have hlz2 : (0 : Int) ≤ (l.length : Int) - 1 := by omega
  go_loopw [6] (fun i wr => ∃ t : Int, i = .int .i64 t ∧ lo ≤ t ∧ t ≤ hi ∧ Below w.heap.size w wr ∧ Rs wr (some ⟨b, off, none⟩) l.length cp l ∧ Rs wr ga (gapsV l).length gc (gapsV l) ∧ wr.cell? ⟨b, off + (l.length - 1) * 2 + 1, none⟩ = some (.int .i64 hi)) (fun i _ => (hi - intOf i).toNat)
  case atStart => exact ⟨lo, rfl, by omega, by omega, B4.out, Q4.out, Qg4.out, D1.out⟩
  case round =>
    obtain ⟨t, rfl, ht1, ht2, hb, hq, hqg, hd1⟩ := hrel
    have B5 := hide hb
    have Q5 := hide hq
    have Qg5 := hide hqg
    clear hb hq hqg
    by_cases htl : t < hi
    · have ca := CA.out t ht1 htl
      rw [← GV.out] at ca
      obtain ⟨o, ho⟩ : ∃ o, anyB t (gapsV l) = o := ⟨_, rfl⟩
      rw [ho] at ca
      have HO := hide ho
      have HC := hide ca
      have K1 := hide hd1
      clear ho ca
      go_wp2_with fail
      refine (hasDepth_any _ _ cp l t (!o) _ Q5.out HC.out).mono ?_
      rintro e w6 ⟨rfl, hb⟩
      have B6 := hide (st_trans B5.out hb)
      have Q6 := hide (Q5.out.keep hb)
      have Qg6 := hide (Qg5.out.keep hb)
      have k1 := hide (keepc hb K1.out)
      clear hb hd1
      go_wp2_with fail
      refine (hasDepth_any _ _ gc (gapsV l) t o _ Qg6.out HO.out).mono ?_
      rintro e w7 ⟨rfl, hb⟩
      have B7 := hide (st_trans B6.out hb)
      have Q7 := hide (Q6.out.keep hb)
      have Qg7 := hide (Qg6.out.keep hb)
      have k2 := hide (keepc hb k1.out)
      clear hb
      cases o
      · go_wp2
        go_roundw
        case rel => exact ⟨t + 1, rfl, by omega, by omega, B7.out, Q7.out, Qg7.out, k2.out⟩
        case measure => simp [intOf]; omega
      · go_wp2
        go_roundw
        case rel => exact ⟨t + 1, rfl, by omega, by omega, B7.out, Q7.out, Qg7.out, k2.out⟩
        case measure => simp [intOf]; omega
    · have hgg : Hid (vB (gapsV l) = true) := by show _ = _; rw [GV.out]; exact (gaps_valid VB.out).1
      have hltz : ((gapsV l).length : Int) < (l.length : Int) := by omega
      go_wp2_with fail
      refine (valid_impl_as _ _ _ _ _ _ Qg5.out hgg.out).mono ?_
      rintro e w6 ⟨rfl, hb⟩
      have B6 := hide (st_trans B5.out hb)
      clear hb
      go_wp2
      go_ret
      exact ⟨rfl, B6.out⟩
end Go.Proofs.Ytbfcfhngfenpjaa
