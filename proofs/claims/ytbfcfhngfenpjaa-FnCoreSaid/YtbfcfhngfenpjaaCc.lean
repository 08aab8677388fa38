/-
  Contracts on cores: gaps.
  Conditions: the slice reads as a list of pieces.
-/
import Derived.Test.YtbfcfhngfenpjaaCb
import Derived.Deep.RegionHeld3
import Derived.Deep.AppendLies
namespace Go.Proofs.Ytbfcfhngfenpjaa
open Go.RowKit Co

/-- a slice of the call's own was handed back, which holds l -/
def Gives (l : List (Int × Int)) (w : World) (e : Ending) (w' : World) : Prop := ∃ v, e = .returned v ∧ Ow w' w.heap.size v l ∧ Below w.heap.size w w'
/-- the same, with a bool beside it -/
def Gives2 (l : List (Int × Int)) (o : Bool) (w : World) (e : Ending) (w' : World) : Prop := ∃ v, e = .returned (.tuple #[v, .bool o]) ∧ Ow w' w.heap.size v l ∧ Below w.heap.size w w'
theorem Ow.app {w : World} {base : Nat} {v : Value} {acc : List (Int × Int)} {x y : Int} (h : w.ownsRow base 32 2 v (acc.length + 1) (fl acc ++ [.int .i64 x, .int .i64 y])) : Ow w base v (acc ++ [(x, y)]) := by
  unfold Ow
  rw [fl_append, List.length_append]
  exact h
theorem Ow.ne_old {w w0 : World} {v : Value} {l : List (Int × Int)} {b : Nat} (h : Ow w w0.heap.size v l) (hb : b < w0.heap.size) : v.ownBlock ≠ some b := fun e => by
  have := (h.lt b e).1
  omega
/-- behind an append: what was there ahead of the call is as it was -/
theorem below_app {w wq wp w1 : World} {v : Value} {l : List (Int × Int)} (h : Ow wq w.heap.size v l) (hb : Below w.heap.size w wq) (hq : Below wq.heap.size wq wp) (hg : wp.grownBy w1 v.ownBlock) : Below w.heap.size w w1 :=
  below_grown (st_trans hb hq) hg (Nat.le_trans hb.size hq.size) (fun k hk => (h.lt k hk).1)

theorem bef_succ (l : List (Int × Int)) (k : Nat) (h : k < l.length) : bef l (k + 1) = l[k].2 := by
  unfold bef
  rw [if_neg (by omega)]
  simp [List.getD_eq_getElem?_getD, h]
/-- the gaps so far -/
def GapsSo (l : List (Int × Int)) (k : Nat) (acc : List (Int × Int)) : Prop := gaps l = acc ++ gF (bef l k) (l.drop k)
theorem GapsSo.start (l : List (Int × Int)) : GapsSo l 1 [] := by
  cases l with
  | nil => rfl
  | cons p r => rfl
theorem GapsSo.yes {l acc : List (Int × Int)} {k : Nat} {x y : Int} (h : GapsSo l k acc) (hk : k < l.length) (hx : bef l k = x) (hy : l[k].1 = y) (hlt : x < y) : GapsSo l (k + 1) (acc ++ [(x, y)]) := by
  unfold GapsSo at h ⊢
  rw [h, List.drop_eq_getElem_cons hk, bef_succ l k hk, hx]
  conv => lhs; unfold gF
  rw [if_pos (by rw [hy]; exact hlt), hy]
  simp
theorem GapsSo.no {l acc : List (Int × Int)} {k : Nat} {x y : Int} (h : GapsSo l k acc) (hk : k < l.length) (hx : bef l k = x) (hy : l[k].1 = y) (hlt : ¬ x < y) : GapsSo l (k + 1) acc := by
  unfold GapsSo at h ⊢
  rw [h, List.drop_eq_getElem_cons hk, bef_succ l k hk, hx]
  conv => lhs; unfold gF
  rw [if_neg (by rw [hy]; exact hlt)]
theorem GapsSo.done {l acc : List (Int × Int)} {k : Nat} (h : GapsSo l k acc) (hk : l.length ≤ k) : acc = gaps l := by
  unfold GapsSo at h
  rw [h, List.drop_eq_nil_of_le hk, gF, List.append_nil]
theorem GapsSo.len {l acc : List (Int × Int)} {k : Nat} (h : GapsSo l k acc) : acc.length ≤ l.length := by
  unfold GapsSo at h
  have h1 : (gaps l).length ≤ l.length := by
    cases l with
    | nil => exact Nat.le_refl _
    | cons p r => have := gF_length r p.2; show (gF p.2 r).length ≤ (p :: r).length; simp; omega
  rw [h, List.length_append] at h1
  omega
/-- what CoreGaps answers -/
def gapsV (l : List (Int × Int)) : List (Int × Int) := if vB l then gaps l else []

set_option maxHeartbeats 3200000 in
theorem gaps_impl (ao : Option Addr) (len cap : Nat) (l : List (Int × Int)) (w : World) (h : Rs w ao len cap l) :
    Calls Try.prog 28 #[.slice ao len cap] w (Gives (gapsV l) w) := by
  obtain ⟨i0, hi0, hz0, hz1, hz2⟩ := info_parts info_piece
  have hl := h.hlen
  subst hl
  have hc := h.hcap
  have hm := h.hmax
  unfold maxLen at hm
  have H := hide h
  clear h
  go_enter Try.func28, Try.ntmps28
  go_wp2_with fail
  refine (valid_impl ao _ cap l w H.out).mono ?_
  rintro e w0 ⟨rfl, hb⟩
  have B0 := hide hb
  clear hb
  cases hv : vB l
  · have V : Hid (gapsV l = []) := by show _ = _; unfold gapsV; rw [hv]; rfl
    clear hv
    go_wp2
    go_ret
    exact ⟨_, rfl, by rw [V.out]; exact Ow.nil _ _, B0.out⟩
  · have V : Hid (gapsV l = gaps l) := by show _ = _; unfold gapsV; rw [hv]; rfl
    have VL := hide hv
    have h20 := vB_len hv
    clear hv
    go_wp2
    go_loopw [3, 4] (fun v i wr => ∃ (k : Nat) (acc : List (Int × Int)), i = .int .i64 k ∧ 1 ≤ k ∧ GapsSo l k acc ∧ Ow wr w.heap.size v acc ∧ Below w.heap.size w wr) (fun _ i _ => l.length - (intOf i).toNat)
    case atStart => exact ⟨1, [], rfl, Nat.le_refl _, GapsSo.start l, Ow.nil _ _, B0.out⟩
    case round =>
      obtain ⟨k, acc, rfl, h1, hG, hown, hb⟩ := hrel
      have hal := hG.len
      have B1 := hide hb
      have OW := hide hown
      have hsz : w.heap.size ≤ wr.heap.size := B1.out.size
      clear hown
      by_cases hkl : k < l.length
      · obtain ⟨j, rfl⟩ : ∃ j, k = j + 1 := ⟨k - 1, by omega⟩
        obtain ⟨b, off, rfl, hbs, hc⟩ := H.out.cell (by omega)
        have c0 := hide (keepc hb (hc j (by omega)).2)
        have c1 := hide (keepc hb (hc (j + 1) hkl).1)
        have hx := bef_succ l j (by omega)
        have hy : l[j + 1].1 = l[j + 1].1 := rfl
        have T1 := vB_top VL.out j (by omega)
        have T2 := vB_top VL.out (j + 1) hkl
        have GY := fun hlt => GapsSo.yes hG hkl hx hy hlt
        have GN := fun hlt => GapsSo.no hG hkl hx hy hlt
        clear hc hb hG hx hy
        generalize l[j].2 = x at *
        generalize l[j + 1].1 = y at *
        have hj1 : IntKind.i64.wrap (j : Int) = j := IntWalk.i64_in _ (by omega)
        have hj2 : IntKind.i64.wrap ((j : Int) + 1 - 1) = j := by rw [show (j : Int) + 1 - 1 = j from by omega]; exact hj1
        have hjl : (j : Int) + 1 < l.length := by omega
        have hjl2 : (j : Int) < l.length := by omega
        have hj3 : (0 : Int) ≤ (j : Int) + 1 := by omega
        have hj4 : (0 : Int) ≤ (j : Int) := by omega
        have hj5 : ((j : Int) + 1).toNat = j + 1 := by omega
        have d0 := c0.out
        have d1 := c1.out
        have B2 := hide B1.out
        have O2 := hide OW.out
        clear c0 c1 OW B1
        by_cases hlt : x < y
        · have G2 := hide (GY (by omega))
          clear GY GN
          go_wp2_with fail
          go_quiet (fail)
          go_wp2_with fail
          generalize hwq : wr.drewN _ = wq
          have O3 : Hid (Ow wq w.heap.size u3 acc) := by show Ow _ _ _ _; rw [← hwq]; exact O2.out.dN _
          have B3 : Hid (Below w.heap.size w wq) := by show Below _ _ _; rw [← hwq]; exact st_dN B2.out _
          have f0 : wq.cell? ⟨b, off + j * 2 + 1, none⟩ = some (.int .i64 x) := by rw [← hwq]; exact d0
          have f1 : wq.cell? ⟨b, off + (j + 1) * 2, none⟩ = some (.int .i64 y) := by rw [← hwq]; exact d1
          have ag := O3.out.ne_old hbs
          have hsq : w.heap.size ≤ wq.heap.size := B3.out.size
          clear hwq d0 d1 O2 B2
          go_region_held3 (fun w' => w'.cell? ⟨b, off + j * 2 + 1, none⟩ = some (.int .i64 x) ∧ w'.cell? ⟨b, off + (j + 1) * 2, none⟩ = some (.int .i64 y))
            (first
              | go_keep
              | (go_split_ands
                 refine ⟨?_, ?_⟩
                 · (rw [hgrow.cell_far _ (by simp; omega) (Ne.symm ag)]; assumption)
                 · (rw [hgrow.cell_far _ (by simp; omega) (Ne.symm ag)]; assumption)))
            ((refine step_append_lies _ (by rfl) _ _ _ (by rfl) w.heap.size 32 i0 _ 2 16 Try.underlying25 hi0 hz0 hz1 hz2 rfl (by omega) _ acc.length (fl acc) (by rfl) ((World.ownsRow.alloc O3.out _).drew) ⟨wq.heap.size, 0, none⟩ 1 1 [.int .i64 x, .int .i64 y] (by rfl) (by rfl) (World.news_of_block (cs := #[.int .i64 x, .int .i64 y]) (t := 32) (fr := (0, 0)) (heap_alloc_new wq _)) (by simp [Value.oneCell']) (by omega) (by unfold maxLen; omega) (by omega) (by simp; omega) (wq.heap.size + 1) (by simp) ?_; intro gg cap w1 hown1 hgrow hat hltg))
          have O4 := hide (Ow.app hown1)
          have B4 := hide (below_app O3.out B3.out (st_drew (st_alloc (st_refl wq) _)) hgrow)
          clear hown1 hgrow hat hltg hj1 hj2
          go_wp2
          go_roundw
          case rel => exact ⟨j + 1 + 1, acc ++ [(x, y)], by go_num, by omega, G2.out, O4.out, B4.out⟩
          case measure => simp [intOf]; omega
        · have G2 := hide (GN (by omega))
          clear GY GN
          go_wp2_with fail
          go_quiet (fail)
          clear hj1 hj2
          go_wp2
          go_roundw
          case rel => exact ⟨j + 1 + 1, acc, by go_num, by omega, G2.out, O2.out.dN _, st_dN B2.out _⟩
          case measure => simp [intOf]; omega
      · have V2 := hide (hG.done (by omega))
        clear hG hb
        go_wp2
        go_ret
        exact ⟨_, rfl, by rw [V.out, ← V2.out]; exact OW.out, B1.out⟩

set_option maxHeartbeats 3200000 in
theorem gaps_spec (ao : Option Addr) (len cap : Nat) (l : List (Int × Int)) (w : World) (h : Rs w ao len cap l) :
    Calls Try.prog 30 #[.slice ao len cap] w (Gives (gapsV l) w) := by
  obtain ⟨i0, hi0, hz0, hz1, hz2⟩ := info_parts info_piece
  have hl := h.hlen
  subst hl
  have hc := h.hcap
  have hm := h.hmax
  unfold maxLen at hm
  have H := hide h
  clear h
  cases hv : vB l
  · have V : Hid (gapsV l = []) := by show _ = _; unfold gapsV; rw [hv]; rfl
    have VL := hide hv
    clear hv
    go_enter Try.func30, Try.ntmps30
    go_wp2
    by_cases h1 : 1 < l.length
    · refine wp_loop_rounds 1 ?_
      rw [rounds_succ]
      go_wp2_with fail
      refine (valid_spec ao _ cap l _ (H.out.keep (st_alloc (st_refl w) _))).mono ?_
      rintro e w0 ⟨rfl, hb⟩
      have hv := VL.out
      have B0 := hide (st_trans (st_alloc (st_refl w) _) hb)
      have O0 := hide (Ow.below (base := w.heap.size) (w := w.alloc (.cells #[] 32)) (v := .slice (some ⟨w.heap.size, 0, none⟩) 0 0) (l := []) (World.ownsRow_made w #[] 0 (Nat.le_refl _) (Nat.zero_le _) rfl) hb)
      clear hb
      go_wp2
      go_ret
      exact ⟨_, rfl, by rw [V.out]; exact O0.out, B0.out⟩
    · refine wp_loop_rounds 1 ?_
      rw [rounds_succ]
      go_wp2
      go_ret
      exact ⟨_, rfl, by rw [V.out]; exact World.ownsRow_made w #[] 0 (Nat.le_refl _) (Nat.zero_le _) rfl, st_alloc (st_refl w) _⟩
  · have V : Hid (gapsV l = gaps l) := by show _ = _; unfold gapsV; rw [hv]; rfl
    have VL := hide hv
    have h20 := vB_len hv
    clear hv
    go_enter Try.func30, Try.ntmps30
    go_wp2
    go_loopw [3, 4] (fun v i wr => ∃ (k : Nat) (acc : List (Int × Int)), i = .int .i64 k ∧ 1 ≤ k ∧ GapsSo l k acc ∧ Ow wr w.heap.size v acc ∧ Below w.heap.size w wr) (fun _ i _ => l.length - (intOf i).toNat)
    case atStart => exact ⟨1, [], rfl, Nat.le_refl _, GapsSo.start l, World.ownsRow_made w #[] 0 (Nat.le_refl _) (Nat.zero_le _) rfl, st_alloc (st_refl w) _⟩
    case round =>
      obtain ⟨k, acc, rfl, h1, hG, hown, hb⟩ := hrel
      have hal := hG.len
      have B1 := hide hb
      have OW := hide hown
      have hsz : w.heap.size ≤ wr.heap.size := B1.out.size
      clear hown
      by_cases hkl : k < l.length
      · obtain ⟨j, rfl⟩ : ∃ j, k = j + 1 := ⟨k - 1, by omega⟩
        obtain ⟨b, off, rfl, hbs, hc⟩ := H.out.cell (by omega)
        have c0 := hide (keepc hb (hc j (by omega)).2)
        have c1 := hide (keepc hb (hc (j + 1) hkl).1)
        have hx := bef_succ l j (by omega)
        have hy : l[j + 1].1 = l[j + 1].1 := rfl
        have T1 := vB_top VL.out j (by omega)
        have T2 := vB_top VL.out (j + 1) hkl
        have GY := fun hlt => GapsSo.yes hG hkl hx hy hlt
        have GN := fun hlt => GapsSo.no hG hkl hx hy hlt
        clear hc hb hG hx hy
        generalize l[j].2 = x at *
        generalize l[j + 1].1 = y at *
        have hj1 : IntKind.i64.wrap (j : Int) = j := IntWalk.i64_in _ (by omega)
        have hj2 : IntKind.i64.wrap ((j : Int) + 1 - 1) = j := by rw [show (j : Int) + 1 - 1 = j from by omega]; exact hj1
        have hjl : (j : Int) + 1 < l.length := by omega
        have hjl2 : (j : Int) < l.length := by omega
        have hj3 : (0 : Int) ≤ (j : Int) + 1 := by omega
        have hj4 : (0 : Int) ≤ (j : Int) := by omega
        have hj5 : ((j : Int) + 1).toNat = j + 1 := by omega
        go_wp2_with fail
        refine (valid_spec _ _ cap l _ (H.out.keep B1.out)).mono ?_
        rintro e w2 ⟨rfl, hb2⟩
        have hv := VL.out
        have d0 := keepc hb2 c0.out
        have d1 := keepc hb2 c1.out
        have B2 := hide (st_trans B1.out hb2)
        have O2 := hide (OW.out.below hb2)
        clear hb2
        clear c0 c1 OW B1
        by_cases hlt : x < y
        · have G2 := hide (GY (by omega))
          clear GY GN
          go_wp2_with fail
          go_quiet (fail)
          go_wp2_with fail
          generalize hwq : w2.drewN _ = wq
          have O3 : Hid (Ow wq w.heap.size u3 acc) := by show Ow _ _ _ _; rw [← hwq]; exact O2.out.dN _
          have B3 : Hid (Below w.heap.size w wq) := by show Below _ _ _; rw [← hwq]; exact st_dN B2.out _
          have f0 : wq.cell? ⟨b, off + j * 2 + 1, none⟩ = some (.int .i64 x) := by rw [← hwq]; exact d0
          have f1 : wq.cell? ⟨b, off + (j + 1) * 2, none⟩ = some (.int .i64 y) := by rw [← hwq]; exact d1
          have ag := O3.out.ne_old hbs
          have hsq : w.heap.size ≤ wq.heap.size := B3.out.size
          clear hwq d0 d1 O2 B2
          go_region_held3 (fun w' => w'.cell? ⟨b, off + j * 2 + 1, none⟩ = some (.int .i64 x) ∧ w'.cell? ⟨b, off + (j + 1) * 2, none⟩ = some (.int .i64 y))
            (first
              | go_keep
              | (go_split_ands
                 refine ⟨?_, ?_⟩
                 · (rw [hgrow.cell_far _ (by simp; omega) (Ne.symm ag)]; assumption)
                 · (rw [hgrow.cell_far _ (by simp; omega) (Ne.symm ag)]; assumption)))
            ((refine step_append_lies _ (by rfl) _ _ _ (by rfl) w.heap.size 32 i0 _ 2 16 Try.underlying25 hi0 hz0 hz1 hz2 rfl (by omega) _ acc.length (fl acc) (by rfl) ((World.ownsRow.alloc O3.out _).drew) ⟨wq.heap.size, 0, none⟩ 1 1 [.int .i64 x, .int .i64 y] (by rfl) (by rfl) (World.news_of_block (cs := #[.int .i64 x, .int .i64 y]) (t := 32) (fr := (0, 0)) (heap_alloc_new wq _)) (by simp [Value.oneCell']) (by omega) (by unfold maxLen; omega) (by omega) (by simp; omega) (wq.heap.size + 1) (by simp) ?_; intro gg cap w1 hown1 hgrow hat hltg))
          have O4 := hide (Ow.app hown1)
          have B4 := hide (below_app O3.out B3.out (st_drew (st_alloc (st_refl wq) _)) hgrow)
          clear hown1 hgrow hat hltg hj1 hj2
          go_wp2
          go_roundw
          case rel => exact ⟨j + 1 + 1, acc ++ [(x, y)], by go_num, by omega, G2.out, O4.out, B4.out⟩
          case measure => simp [intOf]; omega
        · have G2 := hide (GN (by omega))
          clear GY GN
          go_wp2_with fail
          go_quiet (fail)
          clear hj1 hj2
          go_wp2
          go_roundw
          case rel => exact ⟨j + 1 + 1, acc, by go_num, by omega, G2.out, O2.out.dN _, st_dN B2.out _⟩
          case measure => simp [intOf]; omega
      · have V2 := hide (hG.done (by omega))
        clear hG hb
        go_wp2
        go_ret
        exact ⟨_, rfl, by rw [V.out, ← V2.out]; exact OW.out, B1.out⟩

end Go.Proofs.Ytbfcfhngfenpjaa
