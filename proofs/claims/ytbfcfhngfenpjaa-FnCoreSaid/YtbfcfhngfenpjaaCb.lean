/-
  Contracts on cores: lengths, indexes.
  Conditions: the slice reads as a list of pieces.
-/
import Derived.Test.YtbfcfhngfenpjaaCf
import Derived.Test.YtbfcfhngfenpjaaCv
import Derived.Shelf.Abstract
namespace Go.Proofs.Ytbfcfhngfenpjaa
open Go.RowKit Co

theorem vB_len {l : List (Int × Int)} (h : vB l = true) : l.length ≤ 20 := (vB_iff.1 h).2
theorem vB_top {l : List (Int × Int)} (h : vB l = true) (i : Nat) (hi : i < l.length) : 0 ≤ l[i].1 ∧ l[i].1 < l[i].2 ∧ l[i].2 ≤ 30000 := vF_top (vB_iff.1 h).1 _ (List.getElem_mem hi)
/-- what CoreLength answers -/
def lenV (l : List (Int × Int)) : Int := if vB l then ln l else -1
set_option maxHeartbeats 1000000 in
theorem length_impl (ao : Option Addr) (len cap : Nat) (l : List (Int × Int)) (w : World) (h : Rs w ao len cap l) :
    Calls Try.prog 23 #[.slice ao len cap] w fun e w' => e = .returned (.int .i64 (lenV l)) ∧ Below w.heap.size w w' := by
  have hl := h.hlen
  subst hl
  have hc := h.hcap
  have hm := h.hmax
  unfold maxLen at hm
  have H := hide h
  clear h
  go_enter Try.func23, Try.ntmps23
  go_wp2_with fail
  refine (valid_impl ao _ cap l w H.out).mono ?_
  rintro e w1 ⟨rfl, hb⟩
  have B0 := hide hb
  clear hb
  cases hv : vB l
  · have V : Hid (lenV l = -1) := by show _ = _; unfold lenV; rw [hv]; rfl
    clear hv
    go_wp2
    go_ret
    exact ⟨ret_int V.out.symm, B0.out⟩
  · have V : Hid (lenV l = ln l) := by show _ = _; unfold lenV; rw [hv]; rfl
    have VL := hide hv
    have h20 := vB_len hv
    clear hv
    go_wp2
    go_loopw [3, 11] (fun s i wr => ∃ (k : Nat) (t : Int), s = .int .i64 t ∧ i = .int .i64 k ∧ k ≤ l.length ∧ ln l = t + ln (l.drop k) ∧ 0 ≤ t ∧ t ≤ 30000 * k ∧ Below w.heap.size w wr) (fun _ i _ => l.length - (intOf i).toNat)
    case atStart => exact ⟨0, 0, rfl, rfl, Nat.zero_le _, by simp, by omega, by omega, B0.out⟩
    case round =>
      obtain ⟨k, t, rfl, rfl, hk, hv, ht0, ht1, hb⟩ := hrel
      have B1 := hide hb
      have hs : w.heap.size ≤ wr.heap.size := B1.out.size
      by_cases hkl : k < l.length
      · obtain ⟨b, off, rfl, hbs, hc⟩ := H.out.cell (by omega)
        obtain ⟨c0, c1⟩ := hc k hkl
        have d0 := keepc hb c0
        have d1 := keepc hb c1
        clear hc c0 c1 hb
        rw [List.drop_eq_getElem_cons hkl] at hv
        have HI := vB_top VL.out k hkl
        generalize hx : l[k] = p at *
        obtain ⟨x, y⟩ := p
        dsimp only at d0 d1 HI
        have V2 : Hid (ln l = t + (y - x) + ln (l.drop (k + 1))) := by
          show ln l = _
          rw [hv]; simp only [ln]; omega
        clear hv hx
        go_wp2
        go_roundw
        case rel =>
          exact ⟨k + 1, t + (y - x), by go_num, by simp, by omega, V2.out, by omega, by omega, st_alloc B1.out _⟩
        case measure => simp [intOf]; omega
      · have hd : l.drop k = [] := List.drop_eq_nil_of_le (by omega)
        have V2 : Hid (lenV l = t) := by
          show lenV l = t
          rw [V.out, hv, hd]; simp [ln]
        clear hv hd
        go_wp2
        go_ret
        exact ⟨ret_int V2.out.symm, B1.out⟩

set_option maxHeartbeats 1000000 in
theorem length_spec (ao : Option Addr) (len cap : Nat) (l : List (Int × Int)) (w : World) (h : Rs w ao len cap l) :
    Calls Try.prog 22 #[.slice ao len cap] w fun e w' => e = .returned (.int .i64 (lenV l)) ∧ Below w.heap.size w w' := by
  have hl := h.hlen
  subst hl
  have hc := h.hcap
  have hm := h.hmax
  unfold maxLen at hm
  have H := hide h
  clear h
  go_enter Try.func22, Try.ntmps22
  go_wp2_with fail
  refine (valid_spec ao _ cap l w H.out).mono ?_
  rintro e w1 ⟨rfl, hb⟩
  have B0 := hide hb
  clear hb
  cases hv : vB l
  · have V : Hid (lenV l = -1) := by show _ = _; unfold lenV; rw [hv]; rfl
    clear hv
    go_wp2
    go_ret
    exact ⟨ret_int V.out.symm, B0.out⟩
  · have V : Hid (lenV l = ln l) := by show _ = _; unfold lenV; rw [hv]; rfl
    have VL := hide hv
    have h20 := vB_len hv
    clear hv
    go_wp2
    go_loopw [3, 4] (fun s i wr => ∃ (k : Nat) (t : Int), s = .int .i64 t ∧ i = .int .i64 k ∧ k ≤ l.length ∧ ln l = t + ln (l.drop k) ∧ 0 ≤ t ∧ t ≤ 30000 * k ∧ Below w.heap.size w wr) (fun _ i _ => l.length - (intOf i).toNat)
    case atStart => exact ⟨0, 0, rfl, rfl, Nat.zero_le _, by simp, by omega, by omega, B0.out⟩
    case round =>
      obtain ⟨k, t, rfl, rfl, hk, hv, ht0, ht1, hb⟩ := hrel
      have B1 := hide hb
      have hs : w.heap.size ≤ wr.heap.size := B1.out.size
      by_cases hkl : k < l.length
      · obtain ⟨b, off, rfl, hbs, hc⟩ := H.out.cell (by omega)
        obtain ⟨c0, c1⟩ := hc k hkl
        have d0 := keepc hb c0
        have d1 := keepc hb c1
        clear hc c0 c1 hb
        rw [List.drop_eq_getElem_cons hkl] at hv
        have HI := vB_top VL.out k hkl
        generalize hx : l[k] = p at *
        obtain ⟨x, y⟩ := p
        dsimp only at d0 d1 HI
        have V2 : Hid (ln l = t + y - x + ln (l.drop (k + 1))) := by
          show ln l = _
          rw [hv]; simp only [ln]; omega
        have e1 : IntKind.i64.wrap (t + y) = t + y := IntWalk.i64_in _ (by omega)
        have e2 : IntKind.i64.wrap (t + y - x) = t + y - x := IntWalk.i64_in _ (by omega)
        have T2 : Hid (0 ≤ t + y - x ∧ t + y - x ≤ 30000 * (k + 1 : Nat)) := by show _ ∧ _; omega
        have hkz : (k : Int) < l.length := by omega
        clear hv hx
        go_wp2_with fail
        go_quiet (fail)
        clear e1 e2
        go_wp2
        go_roundw
        case rel =>
          exact ⟨k + 1, t + y - x, by go_num, by simp, by omega, V2.out, T2.out.1, T2.out.2, st_dN B1.out _⟩
        case measure => simp [intOf]; omega
      · have hd : l.drop k = [] := List.drop_eq_nil_of_le (by omega)
        have V2 : Hid (lenV l = t) := by
          show lenV l = t
          rw [V.out, hv, hd]; simp [ln]
        clear hv hd
        go_wp2
        go_ret
        exact ⟨ret_int V2.out.symm, B1.out⟩

/-- what CoreHas answers -/
def hasV (d : Int) (l : List (Int × Int)) : Int := if vB l then ix d 0 l else -1
set_option maxHeartbeats 1000000 in
theorem closure_any {x y d : Int} {B : Nat} {o : Bool} (w : World) (hc : w.cell? ⟨B, 0, none⟩ = some (.int .i64 d)) (ho : hasB d (x, y) = o) :
    Calls Try.prog 46 #[.agg #[.int .i64 x, .int .i64 y], .pointer (some ⟨B, 0, none⟩)] w fun e w' => e = .returned (.bool o) ∧ Below w.heap.size w w' := by
  have hlt := World.block_lt_of_cell? w _ hc
  have hne : ¬ B = w.heap.size := by dsimp only at hlt; omega
  have HO := hide ho
  clear ho
  by_cases h1 : x ≤ d
  · by_cases h2 : d < y
    · have V : Hid (o = true) := by show o = true; rw [← HO.out, hasB_iff]; exact ⟨h1, h2⟩
      go_enter Try.func46, Try.ntmps46
      go_wp2
      go_ret
      exact ⟨ret_bool V.out.symm, st_alloc (st_refl w) _⟩
    · have V : Hid (o = false) := by show o = false; rw [← HO.out, hasB_no]; exact fun h => h2 h.2
      go_enter Try.func46, Try.ntmps46
      go_wp2
      go_ret
      exact ⟨ret_bool V.out.symm, st_alloc (st_refl w) _⟩
  · have V : Hid (o = false) := by show o = false; rw [← HO.out, hasB_no]; exact fun h => h1 h.1
    go_enter Try.func46, Try.ntmps46
    go_wp2
    go_ret
    exact ⟨ret_bool V.out.symm, st_alloc (st_refl w) _⟩

set_option maxHeartbeats 1000000 in
theorem index_any (ao : Option Addr) (len cap : Nat) (l : List (Int × Int)) (d : Int) (B : Nat) (w : World) (h : Rs w ao len cap l) (hB : w.cell? ⟨B, 0, none⟩ = some (.int .i64 d)) :
    Calls Try.prog 45 #[.slice ao len cap, .func (.func 46) #[] #[.pointer (some ⟨B, 0, none⟩)]] w fun e w' => e = .returned (.int .i64 (ix d 0 l)) ∧ Below w.heap.size w w' := by
  have eg : ∀ args w, (callFunc 46 args).run Try.prog w = .ok (.enter 46 args) w := enters_of Try.func46 (by kernel_rfl) rfl
  have hl := h.hlen
  subst hl
  have hc := h.hcap
  have hm := h.hmax
  unfold maxLen at hm
  have H := hide h
  have HB := hide hB
  clear h hB
  go_enter Try.func45, Try.ntmps45
  go_wp2
  go_loopw [8] (fun i wr => ∃ (k : Nat), i = .int .i64 k ∧ k ≤ l.length ∧ ix d 0 l = ix d k (l.drop k) ∧ Below w.heap.size w wr) (fun i _ => l.length - (intOf i).toNat)
  case atStart => exact ⟨0, rfl, Nat.zero_le _, rfl, st_refl w⟩
  case round =>
    obtain ⟨k, rfl, hk, hv, hb⟩ := hrel
    have B1 := hide hb
    by_cases hkl : k < l.length
    · obtain ⟨b, off, rfl, hbs, hc⟩ := H.out.cell (by omega)
      obtain ⟨c0, c1⟩ := hc k hkl
      have d0 := keepc hb c0
      have d1 := keepc hb c1
      have d2 := keepc hb HB.out
      clear hc c0 c1 hb
      rw [List.drop_eq_getElem_cons hkl] at hv
      generalize hx : l[k] = p at *
      obtain ⟨x, y⟩ := p
      dsimp only at d0 d1
      cases hh : hasB d (x, y)
      · have V : Hid (ix d 0 l = ix d (k + 1) (l.drop (k + 1))) := by
          show _ = _
          rw [hv]; conv => lhs; unfold ix
          rw [hh]; rfl
        have HH := hide hh
        clear hv hx hh
        go_wp2_with fail
        refine (closure_any _ d2 HH.out).mono ?_
        rintro e w1 ⟨rfl, hb1⟩
        have B2 := hide (st_trans B1.out hb1)
        clear hb1
        go_wp2
        go_roundw
        case rel => exact ⟨k + 1, by simp, by omega, V.out, B2.out⟩
        case measure => simp [intOf]; omega
      · have V : Hid (ix d 0 l = k) := by
          show _ = _
          rw [hv]; unfold ix
          rw [hh]; rfl
        have HH := hide hh
        clear hv hx hh
        go_wp2_with fail
        refine (closure_any _ d2 HH.out).mono ?_
        rintro e w1 ⟨rfl, hb1⟩
        have B2 := hide (st_trans B1.out hb1)
        clear hb1
        go_wp2
        go_ret
        exact ⟨ret_int V.out.symm, B2.out⟩
    · have hd : l.drop k = [] := List.drop_eq_nil_of_le (by omega)
      have V : Hid (ix d 0 l = -1) := by show _ = _; rw [hv, hd]; rfl
      clear hv hd
      go_wp2
      go_ret
      exact ⟨ret_int V.out.symm, B1.out⟩

set_option maxHeartbeats 1000000 in
theorem has_impl (ao : Option Addr) (len cap : Nat) (l : List (Int × Int)) (d : Int) (w : World) (h : Rs w ao len cap l) :
    Calls Try.prog 25 #[.slice ao len cap, .int .i64 d] w fun e w' => e = .returned (.int .i64 (hasV d l)) ∧ Below w.heap.size w w' := by
  have H := hide h
  clear h
  go_enter Try.func25, Try.ntmps25
  go_wp2_with fail
  refine (valid_impl ao _ cap l _ (H.out.keep (st_alloc (st_refl _) _))).mono ?_
  rintro e w1 ⟨rfl, hb⟩
  have B0 := hide (st_trans (st_alloc (st_refl w) _) hb)
  have c0 := keepc hb (v := .int .i64 d) (a := ⟨w.heap.size, 0, none⟩) (by go_simp)
  clear hb
  cases hv : vB l
  · have V : Hid (hasV d l = -1) := by show _ = _; unfold hasV; rw [hv]; rfl
    clear hv
    go_wp2
    go_ret
    exact ⟨ret_int V.out.symm, B0.out⟩
  · have V : Hid (hasV d l = ix d 0 l) := by show _ = _; unfold hasV; rw [hv]; rfl
    clear hv
    go_wp2_with fail
    refine (index_any ao _ cap l d w.heap.size _ (H.out.keep B0.out) c0).mono ?_
    rintro e w2 ⟨rfl, hb⟩
    have B1 := hide (st_trans B0.out hb)
    clear hb
    go_wp2
    go_ret
    exact ⟨ret_int V.out.symm, B1.out⟩

set_option maxHeartbeats 1000000 in
theorem has_spec (ao : Option Addr) (len cap : Nat) (l : List (Int × Int)) (d : Int) (w : World) (h : Rs w ao len cap l) :
    Calls Try.prog 24 #[.slice ao len cap, .int .i64 d] w fun e w' => e = .returned (.int .i64 (hasV d l)) ∧ Below w.heap.size w w' := by
  have hl := h.hlen
  subst hl
  have hc := h.hcap
  have hm := h.hmax
  unfold maxLen at hm
  have H := hide h
  clear h
  go_enter Try.func24, Try.ntmps24
  go_wp2
  go_loopw [5] (fun i wr => ∃ (k : Nat), i = .int .i64 k ∧ k ≤ l.length ∧ hasV d l = (if vB l then ix d k (l.drop k) else -1) ∧ Below w.heap.size w wr) (fun i _ => l.length - (intOf i).toNat)
  case atStart => exact ⟨0, rfl, Nat.zero_le _, rfl, st_refl w⟩
  case round =>
    obtain ⟨k, rfl, hk, hv, hb⟩ := hrel
    have B1 := hide hb
    by_cases hkl : k < l.length
    · obtain ⟨b, off, rfl, hbs, hc⟩ := H.out.cell (by omega)
      obtain ⟨c0, c1⟩ := hc k hkl
      have d0 := keepc hb c0
      have d1 := keepc hb c1
      clear hc c0 c1 hb
      rw [List.drop_eq_getElem_cons hkl] at hv
      have HV := hide hv
      clear hv
      go_wp2_with fail
      refine (valid_spec _ _ cap l _ (H.out.keep B1.out)).mono ?_
      rintro e w1 ⟨rfl, hb1⟩
      have e0 := keepc hb1 d0
      have e1 := keepc hb1 d1
      have B2 := hide (st_trans B1.out hb1)
      clear hb1 d0 d1
      generalize hx : l[k] = p at *
      obtain ⟨x, y⟩ := p
      dsimp only at e0 e1
      cases hvb : vB l
      · have V : Hid (hasV d l = -1) := by show _ = _; rw [HV.out, hvb]; rfl
        clear HV hx hvb
        go_wp2
        go_ret
        exact ⟨ret_int V.out.symm, B2.out⟩
      · have W : Hid (hasV d l = ix d k ((x, y) :: l.drop (k + 1))) := by show _ = _; rw [HV.out, hvb]; rfl
        have HVB := hide hvb
        clear HV hx hvb
        by_cases h1 : x ≤ d
        · by_cases h2 : d < y
          · have V : Hid (hasV d l = k) := by
              show _ = _
              rw [W.out]; unfold ix
              rw [if_pos (hasB_iff.2 ⟨h1, h2⟩)]
            clear W
            go_wp2
            go_ret
            exact ⟨ret_int V.out.symm, B2.out⟩
          · have V : Hid (hasV d l = (if vB l then ix d (k + 1) (l.drop (k + 1)) else -1)) := by
              show _ = _
              rw [W.out, HVB.out]; conv => lhs; unfold ix
              rw [if_neg (by rw [hasB_iff]; exact fun h => h2 h.2)]; rfl
            clear W HVB
            go_wp2
            go_roundw
            case rel => exact ⟨k + 1, by simp, by omega, V.out, B2.out⟩
            case measure => simp [intOf]; omega
        · have V : Hid (hasV d l = (if vB l then ix d (k + 1) (l.drop (k + 1)) else -1)) := by
            show _ = _
            rw [W.out, HVB.out]; conv => lhs; unfold ix
            rw [if_neg (by rw [hasB_iff]; exact fun h => h1 h.1)]; rfl
          clear W HVB
          go_wp2
          go_roundw
          case rel => exact ⟨k + 1, by simp, by omega, V.out, B2.out⟩
          case measure => simp [intOf]; omega
    · have hd : l.drop k = [] := List.drop_eq_nil_of_le (by omega)
      have V : Hid (hasV d l = -1) := by show _ = _; rw [hv, hd]; split <;> rfl
      clear hv hd
      go_wp2
      go_ret
      exact ⟨ret_int V.out.symm, B1.out⟩
end Go.Proofs.Ytbfcfhngfenpjaa
