/-
  The walk of the law FnCoreHas.
  Conditions: the bytes can be read.
-/
import Derived.Test.YtbfcfhngfenpjaaCk
namespace Go.Proofs.Ytbfcfhngfenpjaa
open Go.RowKit Co

set_option maxHeartbeats 8000000 in
theorem walk_fnCoreHas (a : Option Addr) (len cap : Nat) (w : World) (h : Code w a len cap) : Calls Try.prog 7 #[.slice a len cap] w fun e w' => e = .returned (.bool true) ∧ Below w.heap.size w w' := by
  have hm : len ≤ 9223372036854775807 := by have h1 := h.1; have h2 := h.2.1; unfold maxLen at h2; omega
  have H := hide h
  clear h
  by_cases hl : 1048576 < len
  · go_enter Try.func7, Try.ntmps7
    go_wp2
    go_ret
    exact ⟨rfl, Below.refl _ _⟩
  go_enter Try.func7, Try.ntmps7
  go_wp2_with fail
  refine (dDrawCoreHas a len cap _ H.out).mono ?_
  rintro e w1 ⟨v, l, d, rfl, hO, hS, hL, hd, hB⟩
  obtain ⟨ao, cp, rfl⟩ := hO.shape
  have O1 := hide hO
  have I1 := hide hS.in64
  have B1 := hide hB
  have Q1 := hide (hO.rs' hS.in64)
  have hcp := Q1.out.hcap
  have hcm := Q1.out.hmax
  unfold maxLen at hcm
  clear hO hS hB
  rcases has_cases d l with ho | ⟨hvb, j, ho, hix, hjl⟩
  · have HO := hide ho
    clear ho
    go_wp2_with fail
    refine (has_impl_as ao _ cp l d (-1) _ Q1.out HO.out).mono ?_
    rintro e w2 ⟨rfl, hb⟩
    have B2 := hide (st_trans B1.out hb)
    have Q2 := hide (Q1.out.keep hb)
    clear hb
    go_wp2_with fail
    refine (has_spec_as ao _ cp l d (-1) _ Q2.out HO.out).mono ?_
    rintro e w3 ⟨rfl, hb⟩
    have B3 := hide (st_trans B2.out hb)
    clear hb
    go_wp2
    go_ret
    exact ⟨rfl, B3.out⟩
  · have HO := hide ho
    have HX := hide hix
    have VB := hide hvb
    clear ho hix hvb
    go_wp2_with fail
    refine (has_impl_as ao _ cp l d (j : Int) _ Q1.out HO.out).mono ?_
    rintro e w2 ⟨rfl, hb⟩
    have B2 := hide (st_trans B1.out hb)
    have Q2 := hide (Q1.out.keep hb)
    clear hb
    go_wp2_with fail
    refine (has_spec_as ao _ cp l d (j : Int) _ Q2.out HO.out).mono ?_
    rintro e w3 ⟨rfl, hb⟩
    have B3 := hide (st_trans B2.out hb)
    have Q3 := hide (Q2.out.keep hb)
    clear hb
    have ONE := hide (fun k p => ix_one (i := 0) (d := d) (vB_iff.1 VB.out).1 (by rw [HX.out]; omega) k p)
    have hj0 : ¬ (j : Int) < 0 := by omega
    go_wp2
    go_loopw [7] (fun i wr => ∃ (k : Nat), i = .int .i64 k ∧ k ≤ l.length ∧ Below w.heap.size w wr ∧ Rs wr ao l.length cp l) (fun i _ => l.length - (intOf i).toNat)
    case atStart => exact ⟨0, rfl, Nat.zero_le _, B3.out, Q3.out⟩
    case round =>
      obtain ⟨k, rfl, hk, hb, hq⟩ := hrel
      have B4 := hide hb
      have Q4 := hide hq
      by_cases hkl : k < l.length
      · obtain ⟨b, off, rfl, hbs, hc⟩ := hq.cell (by omega)
        obtain ⟨d0, d1⟩ := hc k hkl
        have hone := ONE.out k l[k] (List.getElem?_eq_getElem hkl)
        rw [HX.out, Nat.zero_add] at hone
        clear hc hb hq
        generalize l[k] = p at *
        obtain ⟨x, y⟩ := p
        dsimp only at d0 d1
        by_cases h1 : x ≤ d
        · by_cases h2 : d < y
          · have e : k = j := by rw [hasB_iff.2 ⟨h1, h2⟩] at hone; have := of_decide_eq_true hone.symm; omega
            subst e
            clear hone
            go_wp2
            go_roundw
            case rel => exact ⟨k + 1, by go_num, by omega, B4.out, Q4.out⟩
            case measure => simp [intOf]; omega
          · have e : ((k : Int) == (j : Int)) = false := by rw [hasB_no.2 (fun h => h2 h.2)] at hone; have := of_decide_eq_false hone.symm; rw [beq_eq_false_iff_ne]; omega
            clear hone
            go_wp2
            go_roundw
            case rel => exact ⟨k + 1, by go_num, by omega, B4.out, Q4.out⟩
            case measure => simp [intOf]; omega
        · have e : ((k : Int) == (j : Int)) = false := by rw [hasB_no.2 (fun h => h1 h.1)] at hone; have := of_decide_eq_false hone.symm; rw [beq_eq_false_iff_ne]; omega
          clear hone
          go_wp2
          go_roundw
          case rel => exact ⟨k + 1, by go_num, by omega, B4.out, Q4.out⟩
          case measure => simp [intOf]; omega
      · clear hb hq
        have hjz : (j : Int) < (l.length : Int) := by omega
        go_wp2
        go_ret
        exact ⟨rfl, B4.out⟩
end Go.Proofs.Ytbfcfhngfenpjaa
