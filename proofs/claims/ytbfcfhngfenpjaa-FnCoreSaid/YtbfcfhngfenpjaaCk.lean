/-
  What the laws on cores use beside the contracts: plain laws, parts of a slice, sameCore, hasDepth.
  Conditions: the slices read as lists of pieces.
-/
import Derived.Test.YtbfcfhngfenpjaaCh
import Derived.Test.YtbfcfhngfenpjaaCg
namespace Go.Proofs.Ytbfcfhngfenpjaa
open Go.RowKit Co

theorem has_impl_as (ao : Option Addr) (len cap : Nat) (l : List (Int × Int)) (d o : Int) (w : World) (h : Rs w ao len cap l) (ho : hasV d l = o) :
    Calls Try.prog 25 #[.slice ao len cap, .int .i64 d] w fun e w' => e = .returned (.int .i64 o) ∧ Below w.heap.size w w' := by
  subst ho
  exact has_impl ao len cap l d w h
theorem has_spec_as (ao : Option Addr) (len cap : Nat) (l : List (Int × Int)) (d o : Int) (w : World) (h : Rs w ao len cap l) (ho : hasV d l = o) :
    Calls Try.prog 24 #[.slice ao len cap, .int .i64 d] w fun e w' => e = .returned (.int .i64 o) ∧ Below w.heap.size w w' := by
  subst ho
  exact has_spec ao len cap l d w h
theorem length_impl_as (ao : Option Addr) (len cap : Nat) (l : List (Int × Int)) (o : Int) (w : World) (h : Rs w ao len cap l) (ho : lenV l = o) :
    Calls Try.prog 23 #[.slice ao len cap] w fun e w' => e = .returned (.int .i64 o) ∧ Below w.heap.size w w' := by
  subst ho
  exact length_impl ao len cap l w h
theorem length_spec_as (ao : Option Addr) (len cap : Nat) (l : List (Int × Int)) (o : Int) (w : World) (h : Rs w ao len cap l) (ho : lenV l = o) :
    Calls Try.prog 22 #[.slice ao len cap] w fun e w' => e = .returned (.int .i64 o) ∧ Below w.heap.size w w' := by
  subst ho
  exact length_spec ao len cap l w h
theorem valid_impl_as (ao : Option Addr) (len cap : Nat) (l : List (Int × Int)) (o : Bool) (w : World) (h : Rs w ao len cap l) (ho : vB l = o) :
    Calls Try.prog 19 #[.slice ao len cap] w fun e w' => e = .returned (.bool o) ∧ Below w.heap.size w w' := by
  subst ho
  exact valid_impl ao len cap l w h
theorem valid_spec_as (ao : Option Addr) (len cap : Nat) (l : List (Int × Int)) (o : Bool) (w : World) (h : Rs w ao len cap l) (ho : vB l = o) :
    Calls Try.prog 17 #[.slice ao len cap] w fun e w' => e = .returned (.bool o) ∧ Below w.heap.size w w' := by
  subst ho
  exact valid_spec ao len cap l w h
theorem has_cases (d : Int) (l : List (Int × Int)) : hasV d l = -1 ∨ (vB l = true ∧ ∃ j : Nat, hasV d l = (j : Int) ∧ ix d 0 l = (j : Int) ∧ j < l.length) := by
  unfold hasV
  cases hv : vB l with
  | false => exact .inl rfl
  | true =>
    simp only [if_true]
    rcases ix_ge l d 0 with h | h
    · exact .inl h
    · right
      obtain ⟨j, hj⟩ := Int.eq_ofNat_of_zero_le (by simpa using h)
      have h2 := ix_lt l d 0
      exact ⟨trivial, j, hj, hj, by omega⟩
theorem len_cases (l : List (Int × Int)) : (vB l = false ∧ lenV l = -1) ∨ (vB l = true ∧ lenV l = ln l ∧ 0 ≤ ln l ∧ (l.length : Int) ≤ ln l ∧ ln l ≤ 30000) := by
  unfold lenV
  cases hv : vB l with
  | false => exact .inl ⟨rfl, rfl⟩
  | true =>
    have h1 := ln_ge (vB_iff.1 hv).1
    have h2 := ln_le (vB_iff.1 hv).1
    refine .inr ⟨rfl, rfl, by omega, h1, ?_⟩
    rcases h2 with h2 | rfl
    · omega
    · simp [ln]

/-! ### parts of a slice -/
theorem Rs.take {w : World} {ao : Option Addr} {len cap : Nat} {l : List (Int × Int)} (h : Rs w ao len cap l) {k : Nat} (hk : k ≤ l.length) : Rs w ao k cap (l.take k) := by
  have hl := h.hlen
  have hc := h.hcap
  refine ⟨by rw [List.length_take]; omega, by omega, h.hmax, fun i hi => ?_, fun h0 => ?_⟩
  · rw [List.getElem_take]
    exact h.int i (by rw [List.length_take] at hi; omega)
  · obtain ⟨b, off, e, hb, hcell⟩ := h.cell (by omega)
    refine ⟨b, off, e, hb, fun i hi => ?_⟩
    rw [List.getElem_take]
    exact hcell i (by rw [List.length_take] at hi; omega)
/-- where 'x[k:]' begins -/
def cutA (ao : Option Addr) (cap k : Nat) : Option Addr := if cap = k then ao else ao.map (·.add (k * 2))
theorem Rs.drop {w : World} {ao : Option Addr} {len cap : Nat} {l : List (Int × Int)} (h : Rs w ao len cap l) {k : Nat} (hk : k ≤ l.length) : Rs w (cutA ao cap k) (len - k) (cap - k) (l.drop k) := by
  have hl := h.hlen
  have hc := h.hcap
  have hm := h.hmax
  refine ⟨by rw [List.length_drop]; omega, by omega, by omega, fun i hi => ?_, fun h0 => ?_⟩
  · rw [List.getElem_drop]
    exact h.int (k + i) (by rw [List.length_drop] at hi; omega)
  · obtain ⟨b, off, rfl, hb, hcell⟩ := h.cell (by omega)
    refine ⟨b, off + k * 2, ?_, hb, fun i hi => ?_⟩
    · unfold cutA
      rw [if_neg (by omega)]
      show some (Addr.add ⟨b, off, none⟩ (k * 2)) = _
      unfold Addr.add
      split
      · rename_i h0; simp [h0]
      · rfl
    · rw [List.getElem_drop]
      have := hcell (k + i) (by rw [List.length_drop] at hi; omega)
      rw [show off + (k + i) * 2 = off + k * 2 + i * 2 from by omega] at this
      exact this

set_option maxHeartbeats 1600000 in
/-- sameCore, of two slices that read as one list -/
theorem same_cores (ao bo : Option Addr) (len cap len' cap' : Nat) (l : List (Int × Int)) (w : World) (h : Rs w ao len cap l) (h' : Rs w bo len' cap' l) :
    Calls Try.prog 31 #[.slice ao len cap, .slice bo len' cap'] w fun e w' => e = .returned (.bool true) ∧ Below w.heap.size w w' := by
  have hl := h.hlen
  subst hl
  have hl' := h'.hlen
  subst hl'
  have hc := h.hcap
  have hm := h.hmax
  unfold maxLen at hm
  have hc' := h'.hcap
  have hm' := h'.hmax
  unfold maxLen at hm'
  have H := hide h
  have H' := hide h'
  clear h h'
  go_enter Try.func31, Try.ntmps31
  go_wp2
  go_loopw [5] (fun i wr => ∃ k : Nat, i = .int .i64 k ∧ k ≤ l.length ∧ Below w.heap.size w wr) (fun i _ => l.length - (intOf i).toNat)
  case atStart => exact ⟨0, rfl, Nat.zero_le _, st_refl w⟩
  case round =>
    obtain ⟨k, rfl, hk, hb⟩ := hrel
    have B2 := hide hb
    by_cases hkl : k < l.length
    · obtain ⟨ba, oa, rfl, hba, hca⟩ := H.out.cell (by omega)
      obtain ⟨bb, ob, rfl, hbb, hcb⟩ := H'.out.cell (by omega)
      have d0 := keepc hb (hca k hkl).1
      have d1 := keepc hb (hca k hkl).2
      have e0 := keepc hb (hcb k hkl).1
      have e1 := keepc hb (hcb k hkl).2
      generalize l[k].1 = x at *
      generalize l[k].2 = y at *
      have hkz : (k : Int) < l.length := by omega
      have hk0 : (0 : Int) ≤ (k : Int) := by omega
      clear hca hcb hb
      go_wp2_with fail
      go_quiet (fail)
      go_wp2
      go_roundw
      case rel => exact ⟨k + 1, by go_num, by omega, st_dN B2.out _⟩
      case measure => simp [intOf]; omega
    · clear hb
      go_wp2
      go_ret
      exact ⟨rfl, B2.out⟩

set_option maxHeartbeats 1600000 in
theorem hasDepth_any (ao : Option Addr) (len cap : Nat) (l : List (Int × Int)) (d : Int) (o : Bool) (w : World) (h : Rs w ao len cap l) (ho : anyB d l = o) :
    Calls Try.prog 32 #[.slice ao len cap, .int .i64 d] w fun e w' => e = .returned (.bool o) ∧ Below w.heap.size w w' := by
  subst ho
  have hl := h.hlen
  subst hl
  have hc := h.hcap
  have hm := h.hmax
  unfold maxLen at hm
  have H := hide h
  clear h
  go_enter Try.func32, Try.ntmps32
  go_wp2
  go_loopw [5] (fun i wr => ∃ (k : Nat), i = .int .i64 k ∧ k ≤ l.length ∧ anyB d l = anyB d (l.drop k) ∧ Below w.heap.size w wr) (fun i _ => l.length - (intOf i).toNat)
  case atStart => exact ⟨0, rfl, Nat.zero_le _, rfl, st_refl w⟩
  case round =>
    obtain ⟨k, rfl, hk, hv, hb⟩ := hrel
    have B1 := hide hb
    by_cases hkl : k < l.length
    · obtain ⟨b, off, rfl, hbs, hc⟩ := H.out.cell (by omega)
      obtain ⟨c0, c1⟩ := hc k hkl
      have d0 := keepc hb c0
      have d1 := keepc hb c1
      clear hc c0 c1 hb
      rw [List.drop_eq_getElem_cons hkl, anyB_cons] at hv
      generalize hx : l[k] = p at *
      obtain ⟨x, y⟩ := p
      dsimp only at d0 d1
      by_cases h1 : x ≤ d
      · by_cases h2 : d < y
        · have V : Hid (anyB d l = true) := by show _ = _; rw [hv, hasB_iff.2 ⟨h1, h2⟩]; rfl
          clear hv hx
          go_wp2
          go_ret
          exact ⟨ret_bool V.out.symm, B1.out⟩
        · have V : Hid (anyB d l = anyB d (l.drop (k + 1))) := by show _ = _; rw [hv, hasB_no.2 (fun h => h2 h.2), Bool.false_or]
          clear hv hx
          go_wp2
          go_roundw
          case rel => exact ⟨k + 1, by simp, by omega, V.out, B1.out⟩
          case measure => simp [intOf]; omega
      · have V : Hid (anyB d l = anyB d (l.drop (k + 1))) := by show _ = _; rw [hv, hasB_no.2 (fun h => h1 h.1), Bool.false_or]
        clear hv hx
        go_wp2
        go_roundw
        case rel => exact ⟨k + 1, by simp, by omega, V.out, B1.out⟩
        case measure => simp [intOf]; omega
    · have hd : l.drop k = [] := List.drop_eq_nil_of_le (by omega)
      have V : Hid (anyB d l = false) := by show _ = _; rw [hv, hd]; rfl
      clear hv hd
      go_wp2
      go_ret
      exact ⟨ret_bool V.out.symm, B1.out⟩

/-! ### the last piece -/
theorem lastB_at : ∀ (l : List (Int × Int)) (a : Int) (h : 0 < l.length), lastB a l = (l[l.length - 1]'(by omega)).2 := by
  intro l
  induction l with
  | nil => intro a h; simp at h
  | cons p r ih =>
    intro a h
    cases r with
    | nil => rfl
    | cons q s =>
      show lastB p.2 (q :: s) = _
      rw [ih p.2 (by simp)]
      simp
theorem gaps_sum {l : List (Int × Int)} (hv : vB l = true) (h : 0 < l.length) : ln l + ln (gaps l) = (l[l.length - 1]'(by omega)).2 - (l[0]).1 := by
  rw [← lastB_at l 0 h]
  cases l with
  | nil => simp at h
  | cons p r =>
    have h1 := (vF_cons.1 (vB_iff.1 hv).1).2.2.2
    have h2 := gF_ln h1
    show ln (p :: r) + ln (gF p.2 r) = lastB p.2 r - p.1
    simp only [ln]
    omega
theorem gaps_any {l : List (Int × Int)} (hv : vB l = true) (h : 0 < l.length) {d : Int} (h1 : (l[0]).1 ≤ d) (h2 : d < (l[l.length - 1]'(by omega)).2) : anyB d l = !anyB d (gaps l) := by
  rw [← lastB_at l 0 h] at h2
  cases l with
  | nil => simp at h
  | cons p r =>
    have h3 := vF_cons.1 (vB_iff.1 hv).1
    exact gF_any h3.2.1 h3.2.2.2 h1 h2
theorem cov_first {l : List (Int × Int)} (hv : vB l = true) (h : 0 < l.length) : cov (l[0]).1 l = 0 := by
  cases l with
  | nil => simp at h
  | cons p r =>
    have h3 := vF_cons.1 (vB_iff.1 hv).1
    show max 0 (min p.1 p.2 - p.1) + cov p.1 r = 0
    rw [cov_top h3.2.2.2 (by omega)]
    omega
theorem cov_last {l : List (Int × Int)} (hv : vB l = true) (h : 0 < l.length) {d : Int} (hd : (l[l.length - 1]'(by omega)).2 ≤ d) : cov d l = ln l :=
  cov_all (vB_iff.1 hv).1 (by rw [lastB_at l 0 h]; exact hd)
theorem has_any {l : List (Int × Int)} (hv : vB l = true) (d : Int) : decide (0 ≤ hasV d l) = anyB d l := by
  unfold hasV
  rw [hv, if_pos rfl]
  exact ix_any l d 0
theorem first_last {l : List (Int × Int)} (hv : vB l = true) (h : 0 < l.length) : 0 ≤ (l[0]).1 ∧ (l[l.length - 1]'(by omega)).2 ≤ 30000 ∧ (l[0]).1 < (l[l.length - 1]'(by omega)).2 := by
  have h1 := vB_top hv 0 h
  have h2 := vB_top hv (l.length - 1) (by omega)
  refine ⟨h1.1, h2.2.2, ?_⟩
  have h3 := gaps_sum hv h
  have h4 := ln_ge (vB_iff.1 hv).1
  have h5 := ln_ge (vB_iff.1 (gaps_valid hv).1).1
  omega
end Go.Proofs.Ytbfcfhngfenpjaa
