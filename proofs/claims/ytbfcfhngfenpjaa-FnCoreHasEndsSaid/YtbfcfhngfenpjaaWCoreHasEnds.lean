/-
  The walk of the law FnCoreHasEnds.
  Conditions: the bytes can be read.
-/
import Derived.Test.YtbfcfhngfenpjaaCk
namespace Go.Proofs.Ytbfcfhngfenpjaa
open Go.RowKit Co

set_option maxHeartbeats 8000000 in
theorem walk_fnCoreHasEnds (a : Option Addr) (len cap : Nat) (w : World) (h : Code w a len cap) : Calls Try.prog 8 #[.slice a len cap] w fun e w' => e = .returned (.bool true) ∧ Below w.heap.size w w' := by
  have hm : len ≤ 9223372036854775807 := by have h1 := h.1; have h2 := h.2.1; unfold maxLen at h2; omega
  have H := hide h
  clear h
  by_cases hl : 1048576 < len
  · go_enter Try.func8, Try.ntmps8
    go_wp2
    go_ret
    exact ⟨rfl, Below.refl _ _⟩
  go_enter Try.func8, Try.ntmps8
  go_wp2_with fail
  refine (dDrawCoreHas a len cap _ H.out).mono ?_
  rintro e w1 ⟨v, l, d, rfl, hO, hS, hL, hd, hB⟩
  obtain ⟨ao, cp, rfl⟩ := hO.shape
  have O1 := hide hO
  have I1 := hide hS.in64
  have B1 := hide hB
  have Q1 := hide (hO.rs' hS.in64)
  have hcp := Q1.out.hcap
  have hcm := Q1.out.hmax
  unfold maxLen at hcm
  clear hO hS hB
  rcases has_cases d l with ho | ⟨hvb, j0, ho, hix, hjl⟩
  · have HO := hide ho
    clear ho
    go_wp2_with fail
    refine (has_impl_as ao _ cp l d (-1) _ Q1.out HO.out).mono ?_
    rintro e w2 ⟨rfl, hb⟩
    have B2 := hide (st_trans B1.out hb)
    have Q2 := hide (Q1.out.keep hb)
    clear hb
    go_wp2_with fail
    refine (has_spec_as ao _ cp l d (-1) _ Q2.out HO.out).mono ?_
    rintro e w3 ⟨rfl, hb⟩
    have B3 := hide (st_trans B2.out hb)
    clear hb
    go_wp2
    go_ret
    exact ⟨rfl, B3.out⟩
  · obtain ⟨j, p, e1, hp, h1, h2, h3, t1, t2, t3⟩ := ix_ends (vB_iff.1 hvb).1 (d := d) (by rw [hix]; omega)
    obtain rfl : j0 = j := by rw [hix] at e1; omega
    have hv : ∀ d', hasV d' l = ix d' 0 l := fun d' => by unfold hasV; rw [hvb, if_pos rfl]
    have HO := hide ho
    have T1 := hide ((hv p.1).trans t1)
    have T2 := hide ((hv (p.2 - 1)).trans t2)
    have T3 : Hid (hasV p.2 l = (j0 : Int) + 1 ∨ hasV p.2 l = -1) := by show _ ∨ _; rw [hv]; exact t3
    obtain ⟨hpl, hpe⟩ := List.getElem?_eq_some_iff.1 hp
    have PE := hide hpe
    clear e1 t1 t2 t3 hv ho hix hp hpe
    obtain ⟨x, y⟩ := p
    dsimp only at h1 h2 h3
    have hj0 : ¬ (j0 : Int) < 0 := by omega
    have hjl' : (j0 : Int) < (l.length : Int) := by omega
    go_wp2_with fail
    refine (has_impl_as ao _ cp l d (j0 : Int) _ Q1.out HO.out).mono ?_
    rintro e w2 ⟨rfl, hb⟩
    have B2 := hide (st_trans B1.out hb)
    have Q2 := hide (Q1.out.keep hb)
    clear hb
    go_wp2_with fail
    refine (has_spec_as ao _ cp l d (j0 : Int) _ Q2.out HO.out).mono ?_
    rintro e w3 ⟨rfl, hb⟩
    have B3 := hide (st_trans B2.out hb)
    have Q3 := hide (Q2.out.keep hb)
    clear hb
    obtain ⟨b, off, rfl, hbs, hc⟩ := Q3.out.cell (by omega)
    obtain ⟨d0, d1⟩ := hc j0 hjl
    rw [PE.out] at d0 d1
    dsimp only at d0 d1
    clear hc PE
    obtain ⟨t, ht⟩ : ∃ t, hasV y l = t := ⟨_, rfl⟩
    have HT := hide ht
    have ht3 := T3.out
    rw [show hasV y l = t from ht] at ht3
    clear ht T3
    go_wp2_with fail
    refine (has_impl_as _ _ cp l y t _ Q3.out HT.out).mono ?_
    rintro e w4 ⟨rfl, hb⟩
    have B4 := hide (st_trans B3.out hb)
    have Q4 := hide (Q3.out.keep hb)
    have e0 := keepc hb d0
    have e1 := keepc hb d1
    clear hb d0 d1
    have d0 := e0
    have d1 := e1
    clear e0 e1
    go_wp2_with fail
    refine (has_impl_as _ _ cp l x (j0 : Int) _ Q4.out T1.out).mono ?_
    rintro e w5 ⟨rfl, hb⟩
    have B5 := hide (st_trans B4.out hb)
    have Q5 := hide (Q4.out.keep hb)
    have e0 := keepc hb d0
    have e1 := keepc hb d1
    clear hb d0 d1
    have d0 := e0
    have d1 := e1
    clear e0 e1
    go_wp2_with fail
    refine (has_impl_as _ _ cp l (y - 1) (j0 : Int) _ Q5.out T2.out).mono ?_
    rintro e w6 ⟨rfl, hb⟩
    have B6 := hide (st_trans B5.out hb)
    have Q6 := hide (Q5.out.keep hb)
    have e0 := keepc hb d0
    have e1 := keepc hb d1
    clear hb d0 d1
    have d0 := e0
    have d1 := e1
    clear e0 e1
    rcases ht3 with rfl | rfl
    · go_wp2
      go_ret
      exact ⟨rfl, B6.out⟩
    · have hne : ((-1 : Int) == (j0 : Int) + 1) = false := by rw [beq_eq_false_iff_ne]; omega
      go_wp2
      go_ret
      exact ⟨rfl, B6.out⟩
end Go.Proofs.Ytbfcfhngfenpjaa
