/-
  Contracts on cores: joins.
  Conditions: the slice reads as a list of pieces.
-/
import Derived.Test.YtbfcfhngfenpjaaCc
namespace Go.Proofs.Ytbfcfhngfenpjaa
open Go.RowKit Co

theorem Ow.form_snoc {w : World} {base : Nat} {v : Value} {qs : List (Int × Int)} {q : Int × Int} (h : Ow w base v (qs ++ [q])) :
    ∃ g cap, v = .slice (some ⟨g, 0, none⟩) (qs.length + 1) cap ∧ base ≤ g ∧ g < w.heap.size ∧ w.cell? ⟨g, qs.length * 2 + 1, none⟩ = some (.int .i64 q.2) ∧ w.frozen? ⟨g, qs.length * 2 + 1, none⟩ = false := by
  rcases h.form with ⟨_, h0⟩ | ⟨g, cap, rfl, hb, hg, _, _⟩
  · simp at h0
  · obtain ⟨_, c1, _, f1⟩ := Ow.cells h qs.length (by simp)
    refine ⟨g, cap, by simp, hb, hg, ?_, f1⟩
    rw [c1]
    simp
theorem Ow.last {w : World} {base g cap : Nat} {qs : List (Int × Int)} {q : Int × Int} (h : Ow w base (.slice (some ⟨g, 0, none⟩) (qs.length + 1) cap) (qs ++ [q])) (y : Int) :
    Ow (w.setCell ⟨g, qs.length * 2 + 1, none⟩ (.int .i64 y)) base (.slice (some ⟨g, 0, none⟩) (qs.length + 1) cap) (qs ++ [(q.1, y)]) := by
  have e : (qs ++ [q]).length = qs.length + 1 := by simp
  rw [← e] at h ⊢
  have h2 := Ow.set1 h qs.length (by simp) y
  have e2 : (qs ++ [q]).set qs.length ((qs ++ [q])[qs.length]'(by simp) |>.1, y) = qs ++ [(q.1, y)] := by
    rw [List.set_append_right _ _ (Nat.le_refl _)]
    simp
  rw [e2] at h2
  exact h2
theorem jF_len : ∀ (r : List (Int × Int)) (q : Int × Int), (jF q r).length ≤ r.length + 1 := by
  intro r
  induction r with
  | nil => intro q; simp [jF]
  | cons p r ih =>
    intro q
    unfold jF
    split
    · have := ih (q.1, p.2); simp; omega
    · have := ih p; simp; omega
/-- the joined pieces so far -/
def JoinSo (l : List (Int × Int)) (k : Nat) (acc : List (Int × Int)) : Prop :=
  (k = 0 ∧ acc = []) ∨ ∃ qs q, acc = qs ++ [q] ∧ join l = qs ++ jF q (l.drop k) ∧ q.2 = bef l k ∧ 0 < k
theorem JoinSo.start (l : List (Int × Int)) : JoinSo l 0 [] := .inl ⟨rfl, rfl⟩
theorem JoinSo.zero {l acc : List (Int × Int)} (h : JoinSo l 0 acc) : acc = [] := by
  rcases h with ⟨_, h⟩ | ⟨_, _, _, _, _, h⟩
  · exact h
  · omega
theorem JoinSo.snoc {l acc : List (Int × Int)} {j : Nat} (h : JoinSo l (j + 1) acc) : ∃ qs q, acc = qs ++ [q] ∧ q.2 = bef l (j + 1) := by
  rcases h with ⟨h, _⟩ | ⟨qs, q, h1, _, h3, _⟩
  · omega
  · exact ⟨qs, q, h1, h3⟩
theorem JoinSo.first {l : List (Int × Int)} {x y : Int} (hk : 0 < l.length) (hp : l[0] = (x, y)) : JoinSo l 1 ([] ++ [(x, y)]) := by
  cases l with
  | nil => simp at hk
  | cons p r =>
    simp at hp
    subst hp
    exact .inr ⟨[], _, rfl, rfl, rfl, by omega⟩
theorem JoinSo.touch {l qs : List (Int × Int)} {q : Int × Int} {k : Nat} {x y : Int} (h : JoinSo l (k + 1) (qs ++ [q])) (hk : k + 1 < l.length) (hp : l[k + 1] = (x, y)) (he : q.2 = x) : JoinSo l (k + 1 + 1) (qs ++ [(q.1, y)]) := by
  rcases h with ⟨h, _⟩ | ⟨qs', q', h1, h2, h3, _⟩
  · omega
  · obtain ⟨rfl, h1⟩ := List.append_inj' h1 rfl
    simp at h1
    subst h1
    refine .inr ⟨qs, (q.1, y), rfl, ?_, ?_, by omega⟩
    · rw [h2, List.drop_eq_getElem_cons hk, hp]
      conv => lhs; unfold jF
      rw [if_pos he]
    · rw [bef_succ l (k + 1) hk, hp]
theorem JoinSo.new {l qs : List (Int × Int)} {q : Int × Int} {k : Nat} {x y : Int} (h : JoinSo l (k + 1) (qs ++ [q])) (hk : k + 1 < l.length) (hp : l[k + 1] = (x, y)) (he : ¬ q.2 = x) : JoinSo l (k + 1 + 1) ((qs ++ [q]) ++ [(x, y)]) := by
  rcases h with ⟨h, _⟩ | ⟨qs', q', h1, h2, h3, _⟩
  · omega
  · obtain ⟨rfl, h1⟩ := List.append_inj' h1 rfl
    simp at h1
    subst h1
    refine .inr ⟨qs ++ [q], (x, y), rfl, ?_, ?_, by omega⟩
    · rw [h2, List.drop_eq_getElem_cons hk, hp]
      conv => lhs; unfold jF
      rw [if_neg he]
      simp
    · rw [bef_succ l (k + 1) hk, hp]
theorem JoinSo.done {l acc : List (Int × Int)} {k : Nat} (h : JoinSo l k acc) (hk : l.length ≤ k) : acc = join l := by
  rcases h with ⟨rfl, rfl⟩ | ⟨qs, q, rfl, h2, _, _⟩
  · have : l = [] := List.eq_nil_of_length_eq_zero (by omega)
    subst this
    rfl
  · rw [h2, List.drop_eq_nil_of_le hk, jF]
theorem join_len (l : List (Int × Int)) : (join l).length ≤ l.length := by
  cases l with
  | nil => exact Nat.le_refl _
  | cons p r => have := jF_len r p; show (jF p r).length ≤ (p :: r).length; simp; omega
theorem JoinSo.len {l acc : List (Int × Int)} {k : Nat} (h : JoinSo l k acc) : acc.length ≤ l.length := by
  rcases h with ⟨rfl, rfl⟩ | ⟨qs, q, rfl, h2, _, _⟩
  · simp
  · have h1 := join_len l
    have h3 : 0 < (jF q (l.drop k)).length := List.length_pos_iff.2 (jF_ne _ _)
    rw [h2, List.length_append] at h1
    simp
    omega
theorem Ow.shape {w : World} {base : Nat} {v : Value} {l : List (Int × Int)} (h : Ow w base v l) : ∃ a c, v = .slice a l.length c := by
  rcases h.form with ⟨rfl, rfl⟩ | ⟨g, cap, rfl, _⟩
  · exact ⟨none, 0, rfl⟩
  · exact ⟨_, cap, rfl⟩
theorem Gives2.of {l L : List (Int × Int)} {o : Bool} {w w' : World} {e : Ending} (h : vB l = o) (k : Gives2 L o w e w') : Gives2 L (vB l) w e w' := by rw [h]; exact k
/-- what CoreJoin answers -/
def joinV (l : List (Int × Int)) : List (Int × Int) := if vB l then join l else []

set_option maxHeartbeats 3200000 in
theorem join_impl (ao : Option Addr) (len cap : Nat) (l : List (Int × Int)) (w : World) (h : Rs w ao len cap l) :
    Calls Try.prog 35 #[.slice ao len cap] w (Gives2 (joinV l) (vB l) w) := by
  obtain ⟨i0, hi0, hz0, hz1, hz2⟩ := info_parts info_piece
  have hl := h.hlen
  subst hl
  have hc := h.hcap
  have hm := h.hmax
  unfold maxLen at hm
  have H := hide h
  clear h
  go_enter Try.func35, Try.ntmps35
  go_wp2_with fail
  refine (valid_impl ao _ cap l w H.out).mono ?_
  rintro e w0 ⟨rfl, hb⟩
  have B0 := hide hb
  have O0 := hide (Ow.nil w0 w.heap.size)
  clear hb
  cases hv : vB l
  · have V : Hid (joinV l = []) := by show _ = _; unfold joinV; rw [hv]; rfl
    have VF := hide hv
    clear hv
    have hv := VF.out
    go_wp2
    go_ret2
    exact Gives2.of VF.out ⟨_, rfl, by rw [V.out]; exact O0.out, B0.out⟩
  · have V : Hid (joinV l = join l) := by show _ = _; unfold joinV; rw [hv]; rfl
    have VL := hide hv
    have h20 := vB_len hv
    go_wp2
    clear hv
    go_loopw [4, 13] (fun v i wr => ∃ (k : Nat) (acc : List (Int × Int)), i = .int .i64 k ∧ JoinSo l k acc ∧ Ow wr w.heap.size v acc ∧ Below w.heap.size w wr) (fun _ i _ => l.length - (intOf i).toNat)
    case atStart => exact ⟨0, [], rfl, JoinSo.start l, O0.out, B0.out⟩
    case round =>
      obtain ⟨k, acc, rfl, hG, hown, hb⟩ := hrel
      have hal := hG.len
      have B1 := hide hb
      have hsz : w.heap.size ≤ wr.heap.size := B1.out.size
      by_cases hkl : k < l.length
      · obtain ⟨b, off, rfl, hbs, hc⟩ := H.out.cell (by omega)
        have d0 := keepc hb (hc k hkl).1
        have d1 := keepc hb (hc k hkl).2
        have T2 := vB_top VL.out k hkl
        clear hc hb
        rcases k with _ | j
        · obtain rfl := hG.zero
          obtain ⟨a0, c0, rfl⟩ := hown.shape
          have OW := hide hown
          obtain ⟨p, hp⟩ : ∃ p, l[0] = p := ⟨_, rfl⟩
          obtain ⟨x, y⟩ := p
          rw [hp] at d0 d1 T2
          have G2 := hide (JoinSo.first hkl hp)
          simp only [Nat.zero_mul, Nat.add_zero] at d0 d1
          dsimp only at d0 d1 T2
          clear hp hG hown
          have F0 : Hid ((wr.alloc (.cells #[.int .i64 x, .int .i64 y] 32)).cell? ⟨wr.heap.size, 0, none⟩ = some (.int .i64 x)) := by show _ = _; go_simp
          have F1 : Hid ((wr.alloc (.cells #[.int .i64 x, .int .i64 y] 32)).cell? ⟨wr.heap.size, 1, none⟩ = some (.int .i64 y)) := by show _ = _; go_simp
          go_wp2_with fail
          go_quiet (fail)
          generalize hwq : World.drewN (World.alloc wr _) _ = wq
          have O3 : Hid (Ow wq w.heap.size (.slice a0 0 c0) []) := by show Ow _ _ _ _; rw [← hwq]; exact (OW.out.alloc _).dN _
          have B3 : Hid (Below w.heap.size w wq) := by show Below _ _ _; rw [← hwq]; exact st_dN (st_alloc B1.out _) _
          have f0 : wq.cell? ⟨wr.heap.size, 0, none⟩ = some (.int .i64 x) := by rw [← hwq]; exact F0.out
          have f1 : wq.cell? ⟨wr.heap.size, 1, none⟩ = some (.int .i64 y) := by rw [← hwq]; exact F1.out
          have hsq : w.heap.size ≤ wq.heap.size := B3.out.size
          clear hwq d0 d1 OW B1
          go_wp2_with (at_builtin; refine wpList_append_lies _ rfl (.tmp 38) (.tmp 40) 25 rfl w.heap.size 32 i0 _ 2 16 Try.underlying25 hi0 hz0 hz1 hz2 rfl (by omega) _ (0) ([]) rfl (World.ownsRow.alloc O3.out _) ⟨wq.heap.size, 0, none⟩ 1 1 [.int .i64 x, .int .i64 y] rfl rfl (World.news_of_block (cs := #[.int .i64 x, .int .i64 y]) (t := 32) (fr := (0, 0)) (heap_alloc_new wq _)) (by simp [Value.oneCell']) (by omega) (by unfold maxLen; omega) (by omega) (by simp; omega) ((World.alloc wq _).heap.size) rfl ?_; intro gg cap' w1 hown1 hgrow hat hltg)
          have O4 := hide (Ow.app (acc := []) hown1)
          have B4 := hide (below_app O3.out B3.out (st_alloc (st_refl wq) _) hgrow)
          clear hown1 hgrow hat hltg
          go_wp2
          go_roundw
          case rel => exact ⟨0 + 1, _, rfl, G2.out, O4.out, B4.out⟩
          case measure => simp [intOf]; omega
        · obtain ⟨qs, q, rfl, hq⟩ := hG.snoc
          have HF := hide hown
          obtain ⟨g, cap2, rfl, hg1, hg2, hgc, hgf⟩ := hown.form_snoc
          have hgne : ¬ g = wr.heap.size := by omega
          have hgb : ¬ g = b := by omega
          have hbg : ¬ b = g := by omega
          have hbw : ¬ b = wr.heap.size := by omega
          have hwb : ¬ wr.heap.size = b := by omega
          have hwg : ¬ wr.heap.size = g := by omega
          have hqb := bef_succ l j (by omega)
          obtain ⟨p, hp⟩ : ∃ p, l[j + 1] = p := ⟨_, rfl⟩
          obtain ⟨x, y⟩ := p
          rw [hp] at d0 d1 T2
          dsimp only at d0 d1 T2
          have hql : qs.length + 1 ≤ l.length := by simpa using hal
          have GT := hide (fun he => JoinSo.touch hG hkl hp he)
          have GN := hide (fun he => JoinSo.new hG hkl hp he)
          obtain ⟨qa, qz⟩ := q
          dsimp only at hgc GT GN
          clear hq hqb hp hG hown hal
          have hj1 : IntKind.i64.wrap (j : Int) = j := IntWalk.i64_in _ (by omega)
          have hj2 : IntKind.i64.wrap ((j : Int) + 1 - 1) = j := by rw [show (j : Int) + 1 - 1 = j from by omega]; exact hj1
          have hjl : (j : Int) + 1 < l.length := by omega
          have hjl2 : (j : Int) < l.length := by omega
          have hj3 : (0 : Int) ≤ (j : Int) + 1 := by omega
          have hj6 : (0 : Int) < (j : Int) + 1 := by omega
          have hj4 : (0 : Int) ≤ (j : Int) := by omega
          have hj5 : ((j : Int) + 1).toNat = j + 1 := by omega
          have hq4 : (0 : Int) ≤ (qs.length : Int) := by omega
          by_cases he : qz = x
          · have G2 := hide (GT.out he)
            subst he
            clear GT GN
            go_wp2_with fail
            go_quiet (fail)
            clear hj1 hj2
            go_wp2
            go_roundw
            case rel => exact ⟨j + 1 + 1, _, by go_num, G2.out, Ow.last ((HF.out.alloc _).dN _) y, st_set (st_dN (st_alloc B1.out _) _) hg1 _⟩
            case measure => simp [intOf]; omega
          · have G2 := hide (GN.out he)
            have hne : (qz == x) = false := by simpa using he
            clear GT GN
            have F0 : Hid ((wr.alloc (.cells #[.int .i64 x, .int .i64 y] 32)).cell? ⟨wr.heap.size, 0, none⟩ = some (.int .i64 x)) := by show _ = _; go_simp
            have F1 : Hid ((wr.alloc (.cells #[.int .i64 x, .int .i64 y] 32)).cell? ⟨wr.heap.size, 1, none⟩ = some (.int .i64 y)) := by show _ = _; go_simp
            go_wp2_with fail
            go_quiet (fail)
            generalize hwq : World.drewN (World.alloc wr _) _ = wq
            have O3 : Hid (Ow wq w.heap.size (.slice (some ⟨g, 0, none⟩) (qs.length + 1) cap2) (qs ++ [(qa, qz)])) := by show Ow _ _ _ _; rw [← hwq]; exact (HF.out.alloc _).dN _
            have B3 : Hid (Below w.heap.size w wq) := by show Below _ _ _; rw [← hwq]; exact (st_dN (st_alloc B1.out _) _)
            have f0 : wq.cell? ⟨wr.heap.size, 0, none⟩ = some (.int .i64 x) := by rw [← hwq]; exact F0.out
            have f1 : wq.cell? ⟨wr.heap.size, 1, none⟩ = some (.int .i64 y) := by rw [← hwq]; exact F1.out
            have hsq : w.heap.size ≤ wq.heap.size := B3.out.size
            have e1 : (qs ++ [(qa, qz)]).length = qs.length + 1 := by simp
            have O5 : Hid (wq.ownsRow w.heap.size 32 2 (.slice (some ⟨g, 0, none⟩) (qs.length + 1) cap2) (qs.length + 1) (fl (qs ++ [(qa, qz)]))) := by have := O3.out; unfold Ow at this; rw [e1] at this; exact this
            clear hwq d0 d1 e1
            go_wp2_with (at_builtin; refine wpList_append_lies _ rfl (.tmp 38) (.tmp 40) 25 rfl w.heap.size 32 i0 _ 2 16 Try.underlying25 hi0 hz0 hz1 hz2 rfl (by omega) _ (qs.length + 1) (fl (qs ++ [(qa, qz)])) rfl (World.ownsRow.alloc O5.out _) ⟨wq.heap.size, 0, none⟩ 1 1 [.int .i64 x, .int .i64 y] rfl rfl (World.news_of_block (cs := #[.int .i64 x, .int .i64 y]) (t := 32) (fr := (0, 0)) (heap_alloc_new wq _)) (by simp [Value.oneCell']) (by omega) (by unfold maxLen; omega) (by omega) (by simp; omega) ((World.alloc wq _).heap.size) rfl ?_; intro gg cap' w1 hown1 hgrow hat hltg)
            have O4 : Hid (Ow w1 w.heap.size (.slice (some ⟨gg, 0, none⟩) (qs.length + 1 + 1) cap') ((qs ++ [(qa, qz)]) ++ [(x, y)])) := Ow.app (acc := qs ++ [(qa, qz)]) (by rw [show (qs ++ [(qa, qz)]).length = qs.length + 1 from by simp]; exact hown1)
            have B4 := hide (below_app O3.out B3.out (st_alloc (st_refl wq) _) hgrow)
            clear hown1 hgrow hat hltg hj1 hj2
            go_wp2
            go_roundw
            case rel => exact ⟨j + 1 + 1, _, by go_num, G2.out, O4.out, B4.out⟩
            case measure => simp [intOf]; omega
      · have V2 := hide (hG.done (by omega))
        have OW := hide hown
        clear hG hb hown
        go_wp2
        go_ret2
        exact Gives2.of VL.out ⟨_, rfl, by rw [V.out, ← V2.out]; exact OW.out, B1.out⟩

set_option maxHeartbeats 3200000 in
theorem join_spec (ao : Option Addr) (len cap : Nat) (l : List (Int × Int)) (w : World) (h : Rs w ao len cap l) :
    Calls Try.prog 36 #[.slice ao len cap] w (Gives2 (joinV l) (vB l) w) := by
  obtain ⟨i0, hi0, hz0, hz1, hz2⟩ := info_parts info_piece
  have hl := h.hlen
  subst hl
  have hc := h.hcap
  have hm := h.hmax
  unfold maxLen at hm
  have H := hide h
  clear h
  go_enter Try.func36, Try.ntmps36
  go_wp2_with fail
  refine (valid_spec ao _ cap l _ (H.out.keep (st_alloc (st_refl w) _))).mono ?_
  rintro e w0 ⟨rfl, hb⟩
  have B0 := hide (st_trans (st_alloc (st_refl w) _) hb)
  have O0 := hide (Ow.below (base := w.heap.size) (w := w.alloc (.cells #[] 32)) (v := .slice (some ⟨w.heap.size, 0, none⟩) 0 0) (l := []) (World.ownsRow_made w #[] 0 (Nat.le_refl _) (Nat.zero_le _) rfl) hb)
  clear hb
  cases hv : vB l
  · have V : Hid (joinV l = []) := by show _ = _; unfold joinV; rw [hv]; rfl
    have VF := hide hv
    clear hv
    have hv := VF.out
    go_wp2
    go_ret2
    exact Gives2.of VF.out ⟨_, rfl, by rw [V.out]; exact O0.out, B0.out⟩
  · have V : Hid (joinV l = join l) := by show _ = _; unfold joinV; rw [hv]; rfl
    have VL := hide hv
    have h20 := vB_len hv
    go_wp2
    clear hv
    go_loopw [4, 5] (fun v i wr => ∃ (k : Nat) (acc : List (Int × Int)), i = .int .i64 k ∧ JoinSo l k acc ∧ Ow wr w.heap.size v acc ∧ Below w.heap.size w wr) (fun _ i _ => l.length - (intOf i).toNat)
    case atStart => exact ⟨0, [], rfl, JoinSo.start l, O0.out, B0.out⟩
    case round =>
      obtain ⟨k, acc, rfl, hG, hown, hb⟩ := hrel
      have hal := hG.len
      have B1 := hide hb
      have hsz : w.heap.size ≤ wr.heap.size := B1.out.size
      by_cases hkl : k < l.length
      · obtain ⟨b, off, rfl, hbs, hc⟩ := H.out.cell (by omega)
        have d0 := keepc hb (hc k hkl).1
        have d1 := keepc hb (hc k hkl).2
        have dp : Hid (∀ j (hj : j < l.length), wr.cell? ⟨b, off + j * 2 + 1, none⟩ = some (.int .i64 l[j].2)) := fun j hj => keepc hb (hc j hj).2
        have T2 := vB_top VL.out k hkl
        clear hc hb
        rcases k with _ | j
        · obtain rfl := hG.zero
          obtain ⟨a0, c0, rfl⟩ := hown.shape
          have OW := hide hown
          obtain ⟨p, hp⟩ : ∃ p, l[0] = p := ⟨_, rfl⟩
          obtain ⟨x, y⟩ := p
          rw [hp] at d0 d1 T2
          have G2 := hide (JoinSo.first hkl hp)
          simp only [Nat.zero_mul, Nat.add_zero] at d0 d1
          dsimp only at d0 d1 T2
          clear hp hG hown dp
          go_wp2_with fail
          go_quiet (fail)
          generalize hwq : World.drewN wr _ = wq
          have O3 : Hid (Ow wq w.heap.size (.slice a0 0 c0) []) := by show Ow _ _ _ _; rw [← hwq]; exact OW.out.dN _
          have B3 : Hid (Below w.heap.size w wq) := by show Below _ _ _; rw [← hwq]; exact st_dN B1.out _
          have f0 : wq.cell? ⟨b, off, none⟩ = some (.int .i64 x) := by rw [← hwq]; exact d0
          have f1 : wq.cell? ⟨b, off + 1, none⟩ = some (.int .i64 y) := by rw [← hwq]; exact d1
          have hsq : w.heap.size ≤ wq.heap.size := B3.out.size
          clear hwq d0 d1 OW B1
          go_wp2_with (at_builtin; refine wpList_append_lies _ rfl (.tmp 44) (.tmp 49) 25 rfl w.heap.size 32 i0 _ 2 16 Try.underlying25 hi0 hz0 hz1 hz2 rfl (by omega) _ (0) ([]) rfl (World.ownsRow.alloc O3.out _) ⟨wq.heap.size, 0, none⟩ 1 1 [.int .i64 x, .int .i64 y] rfl rfl (World.news_of_block (cs := #[.int .i64 x, .int .i64 y]) (t := 32) (fr := (0, 0)) (heap_alloc_new wq _)) (by simp [Value.oneCell']) (by omega) (by unfold maxLen; omega) (by omega) (by simp; omega) ((World.alloc wq _).heap.size) rfl ?_; intro gg cap' w1 hown1 hgrow hat hltg)
          have O4 := hide (Ow.app (acc := []) hown1)
          have B4 := hide (below_app O3.out B3.out (st_alloc (st_refl wq) _) hgrow)
          clear hown1 hgrow hat hltg
          go_wp2
          go_roundw
          case rel => exact ⟨0 + 1, _, rfl, G2.out, O4.out, B4.out⟩
          case measure => simp [intOf]; omega
        · obtain ⟨qs, q, rfl, hq⟩ := hG.snoc
          have HF := hide hown
          obtain ⟨g, cap2, rfl, hg1, hg2, hgc, hgf⟩ := hown.form_snoc
          have hgne : ¬ g = wr.heap.size := by omega
          have hgb : ¬ g = b := by omega
          have hbg : ¬ b = g := by omega
          have hbw : ¬ b = wr.heap.size := by omega
          have hwb : ¬ wr.heap.size = b := by omega
          have hwg : ¬ wr.heap.size = g := by omega
          have hqb := bef_succ l j (by omega)
          obtain ⟨p, hp⟩ : ∃ p, l[j + 1] = p := ⟨_, rfl⟩
          obtain ⟨x, y⟩ := p
          rw [hp] at d0 d1 T2
          dsimp only at d0 d1 T2
          have hql : qs.length + 1 ≤ l.length := by simpa using hal
          have GT := hide (fun he => JoinSo.touch hG hkl hp he)
          have GN := hide (fun he => JoinSo.new hG hkl hp he)
          have d2 := dp.out j (by omega)
          rw [← hqb, ← hq] at d2
          obtain ⟨qa, qz⟩ := q
          dsimp only at d2 hgc GT GN
          clear hq hqb hp hG hown hal dp
          have hj1 : IntKind.i64.wrap (j : Int) = j := IntWalk.i64_in _ (by omega)
          have hj2 : IntKind.i64.wrap ((j : Int) + 1 - 1) = j := by rw [show (j : Int) + 1 - 1 = j from by omega]; exact hj1
          have hjl : (j : Int) + 1 < l.length := by omega
          have hjl2 : (j : Int) < l.length := by omega
          have hj3 : (0 : Int) ≤ (j : Int) + 1 := by omega
          have hj6 : (0 : Int) < (j : Int) + 1 := by omega
          have hj4 : (0 : Int) ≤ (j : Int) := by omega
          have hj5 : ((j : Int) + 1).toNat = j + 1 := by omega
          have hq4 : (0 : Int) ≤ (qs.length : Int) := by omega
          by_cases he : qz = x
          · have G2 := hide (GT.out he)
            subst he
            clear GT GN
            go_wp2_with fail
            go_quiet (fail)
            clear hj1 hj2
            go_wp2
            go_roundw
            case rel => exact ⟨j + 1 + 1, _, by go_num, G2.out, Ow.last (HF.out.dN _) y, st_set (st_dN B1.out _) hg1 _⟩
            case measure => simp [intOf]; omega
          · have G2 := hide (GN.out he)
            have hne : (qz == x) = false := by simpa using he
            clear GT GN
            go_wp2_with fail
            go_quiet (fail)
            generalize hwq : World.drewN wr _ = wq
            have O3 : Hid (Ow wq w.heap.size (.slice (some ⟨g, 0, none⟩) (qs.length + 1) cap2) (qs ++ [(qa, qz)])) := by show Ow _ _ _ _; rw [← hwq]; exact HF.out.dN _
            have B3 : Hid (Below w.heap.size w wq) := by show Below _ _ _; rw [← hwq]; exact (st_dN B1.out _)
            have f0 : wq.cell? ⟨b, off + (j + 1) * 2, none⟩ = some (.int .i64 x) := by rw [← hwq]; exact d0
            have f1 : wq.cell? ⟨b, off + (j + 1) * 2 + 1, none⟩ = some (.int .i64 y) := by rw [← hwq]; exact d1
            have hsq : w.heap.size ≤ wq.heap.size := B3.out.size
            have e1 : (qs ++ [(qa, qz)]).length = qs.length + 1 := by simp
            have O5 : Hid (wq.ownsRow w.heap.size 32 2 (.slice (some ⟨g, 0, none⟩) (qs.length + 1) cap2) (qs.length + 1) (fl (qs ++ [(qa, qz)]))) := by have := O3.out; unfold Ow at this; rw [e1] at this; exact this
            clear hwq d0 d1 e1
            go_wp2_with (at_builtin; refine wpList_append_lies _ rfl (.tmp 44) (.tmp 49) 25 rfl w.heap.size 32 i0 _ 2 16 Try.underlying25 hi0 hz0 hz1 hz2 rfl (by omega) _ (qs.length + 1) (fl (qs ++ [(qa, qz)])) rfl (World.ownsRow.alloc O5.out _) ⟨wq.heap.size, 0, none⟩ 1 1 [.int .i64 x, .int .i64 y] rfl rfl (World.news_of_block (cs := #[.int .i64 x, .int .i64 y]) (t := 32) (fr := (0, 0)) (heap_alloc_new wq _)) (by simp [Value.oneCell']) (by omega) (by unfold maxLen; omega) (by omega) (by simp; omega) ((World.alloc wq _).heap.size) rfl ?_; intro gg cap' w1 hown1 hgrow hat hltg)
            have O4 : Hid (Ow w1 w.heap.size (.slice (some ⟨gg, 0, none⟩) (qs.length + 1 + 1) cap') ((qs ++ [(qa, qz)]) ++ [(x, y)])) := Ow.app (acc := qs ++ [(qa, qz)]) (by rw [show (qs ++ [(qa, qz)]).length = qs.length + 1 from by simp]; exact hown1)
            have B4 := hide (below_app O3.out B3.out (st_alloc (st_refl wq) _) hgrow)
            clear hown1 hgrow hat hltg hj1 hj2
            go_wp2
            go_roundw
            case rel => exact ⟨j + 1 + 1, _, by go_num, G2.out, O4.out, B4.out⟩
            case measure => simp [intOf]; omega
      · have V2 := hide (hG.done (by omega))
        have OW := hide hown
        clear hG hb hown
        go_wp2
        go_ret2
        exact Gives2.of VL.out ⟨_, rfl, by rw [V.out, ← V2.out]; exact OW.out, B1.out⟩

end Go.Proofs.Ytbfcfhngfenpjaa
