/-
  The walk of the law FnCoreLengthHas.
  Conditions: the bytes can be read.
-/
import Derived.Test.YtbfcfhngfenpjaaCk
namespace Go.Proofs.Ytbfcfhngfenpjaa
open Go.RowKit Co

set_option maxHeartbeats 8000000 in
theorem walk_fnCoreLengthHas (a : Option Addr) (len cap : Nat) (w : World) (h : Code w a len cap) : Calls Try.prog 10 #[.slice a len cap] w fun e w' => e = .returned (.bool true) ∧ Below w.heap.size w w' := by
  have hm : len ≤ 9223372036854775807 := by have h1 := h.1; have h2 := h.2.1; unfold maxLen at h2; omega
  have H := hide h
  clear h
  by_cases hl : 1048576 < len
  · go_enter Try.func10, Try.ntmps10
    go_wp2
    go_ret
    exact ⟨rfl, Below.refl _ _⟩
  go_enter Try.func10, Try.ntmps10
  go_wp2_with fail
  refine (dDrawCoreLength a len cap _ H.out).mono ?_
  rintro e w1 ⟨v, l, rfl, hO, hS, hL, hB⟩
  obtain ⟨ao, cp, rfl⟩ := hO.shape
  have O1 := hide hO
  have I1 := hide hS.in64
  have B1 := hide hB
  have Q1 := hide (hO.rs' hS.in64)
  have hcp := Q1.out.hcap
  have hcm := Q1.out.hmax
  unfold maxLen at hcm
  clear hO hS hB
  rcases len_cases l with ⟨hvb, ho⟩ | ⟨hvb, ho, hn0, hn1, hn2⟩
  · have HO := hide ho
    clear ho hvb
    go_wp2_with fail
    refine (length_impl_as ao _ cp l (-1) _ Q1.out HO.out).mono ?_
    rintro e w2 ⟨rfl, hb⟩
    have B2 := hide (st_trans B1.out hb)
    have Q2 := hide (Q1.out.keep hb)
    clear hb
    go_wp2_with fail
    refine (length_spec_as ao _ cp l (-1) _ Q2.out HO.out).mono ?_
    rintro e w3 ⟨rfl, hb⟩
    have B3 := hide (st_trans B2.out hb)
    clear hb
    go_wp2
    go_ret
    exact ⟨rfl, B3.out⟩
  · have HO := hide ho
    have VB := hide hvb
    clear ho hvb
    have hne : ¬ ln l < 0 := by omega
    go_wp2_with fail
    refine (length_impl_as ao _ cp l (ln l) _ Q1.out HO.out).mono ?_
    rintro e w2 ⟨rfl, hb⟩
    have B2 := hide (st_trans B1.out hb)
    have Q2 := hide (Q1.out.keep hb)
    clear hb
    go_wp2_with fail
    refine (length_spec_as ao _ cp l (ln l) _ Q2.out HO.out).mono ?_
    rintro e w3 ⟨rfl, hb⟩
    have B3 := hide (st_trans B2.out hb)
    have Q3 := hide (Q2.out.keep hb)
    clear hb
    by_cases hl0 : 0 < l.length
    · have hl0z : (0 : Int) < (l.length : Int) := by omega
      obtain ⟨f1, f2, f3⟩ := first_last VB.out hl0
      obtain ⟨b, off, rfl, hbs, hc⟩ := Q3.out.cell (by omega)
      have d0 := (hc 0 hl0).1
      have d1 := (hc (l.length - 1) (by omega)).2
      have CF := hide (cov_first VB.out hl0)
      have CL := hide (fun d hd => cov_last (d := d) VB.out hl0 hd)
      have CS := hide (fun d => cov_step (d := d) (vB_iff.1 VB.out).1)
      have CB := hide (fun d => cov_le d (vB_iff.1 VB.out).1)
      have CA := hide (fun d => has_any VB.out d)
      simp only [Nat.zero_mul, Nat.add_zero] at d0
      clear hc
      generalize l[0].1 = lo at *
      generalize l[l.length - 1].2 = hi at *
      have D1 := hide d1
      clear d1
      go_wp2
      have hlz : ((l.length : Int) - 1).toNat = l.length - 1 := by omega
      have hlz2 : (0 : Int) ≤ (l.length : Int) - 1 := by omega
      go_loopw [6, 7] (fun s i wr => ∃ t : Int, i = .int .i64 t ∧ s = .int .i64 (cov t l) ∧ lo ≤ t ∧ t ≤ hi ∧ Below w.heap.size w wr ∧ Rs wr (some ⟨b, off, none⟩) l.length cp l ∧ wr.cell? ⟨b, off + (l.length - 1) * 2 + 1, none⟩ = some (.int .i64 hi)) (fun _ i _ => (hi - intOf i).toNat)
      case atStart => exact ⟨lo, rfl, by rw [CF.out], by omega, by omega, B3.out, Q3.out, D1.out⟩
      case round =>
        obtain ⟨t, rfl, rfl, ht1, ht2, hb, hq, hd1⟩ := hrel
        have B4 := hide hb
        have Q4 := hide hq
        have cb := CB.out t
        clear hb hq
        by_cases hlt : t < hi
        · have st := CS.out t
          have ca := CA.out t
          obtain ⟨o, ho⟩ : ∃ o, hasV t l = o := ⟨_, rfl⟩
          rw [ho] at ca
          have HO2 := hide ho
          have K1 := hide hd1
          generalize cov t l = c at *
          generalize hc2 : cov (t + 1) l = c2 at *
          have C2 := hide hc2
          clear ho hc2
          cases ha : anyB t l
          · rw [ha] at ca st
            have hneg : ¬ (0 : Int) ≤ o := of_decide_eq_false ca
            have ST : Hid (c2 = c) := by show _ = _; simpa using st
            clear ca st ha
            go_wp2_with fail
            refine (has_impl_as _ _ cp l t o _ Q4.out HO2.out).mono ?_
            rintro e w5 ⟨rfl, hb⟩
            have B5 := hide (st_trans B4.out hb)
            have Q5 := hide (Q4.out.keep hb)
            have k1 := hide (keepc hb K1.out)
            clear hb hd1
            go_wp2
            go_roundw
            case rel => exact ⟨t + 1, rfl, by rw [C2.out, ST.out], by omega, by omega, B5.out, Q5.out, k1.out⟩
            case measure => simp [intOf]; omega
          · rw [ha] at ca st
            have hneg : (0 : Int) ≤ o := of_decide_eq_true ca
            have ST : Hid (c2 = c + 1) := by show _ = _; simpa using st
            clear ca st ha
            go_wp2_with fail
            refine (has_impl_as _ _ cp l t o _ Q4.out HO2.out).mono ?_
            rintro e w5 ⟨rfl, hb⟩
            have B5 := hide (st_trans B4.out hb)
            have Q5 := hide (Q4.out.keep hb)
            have k1 := hide (keepc hb K1.out)
            clear hb hd1
            go_wp2
            go_roundw
            case rel => exact ⟨t + 1, rfl, by rw [C2.out, ST.out], by omega, by omega, B5.out, Q5.out, k1.out⟩
            case measure => simp [intOf]; omega
        · have hc := CL.out t (by omega)
          rw [hc]
          clear hc cb
          go_wp2
          go_ret
          exact ⟨rfl, B4.out⟩
    · have hl1 : l = [] := List.eq_nil_of_length_eq_zero (by omega)
      subst hl1
      have hln : ln ([] : List (Int × Int)) = 0 := rfl
      go_wp2
      go_ret
      exact ⟨rfl, B3.out⟩
end Go.Proofs.Ytbfcfhngfenpjaa
