/-
  The walk of the law FnCore.
  Conditions: the bytes can be read.
-/
import Derived.Test.YtbfcfhngfenpjaaCk
import Derived.Laws.AppendOwnNone
namespace Go.Proofs.Ytbfcfhngfenpjaa
open Go.RowKit Co

theorem wpList_val {P : Program} {ops : Array Oper} {Q : Exit → Act → World → Prop} {a : Act} {w : World} {rest : List Oper} {o : Oper} {v : Value}
    (hw : Region.wanted o (yielded ops a.tmps) = true) (hr : ∀ K : Act → World → Prop, (∀ a', a.put o.dst v = a' → K a' w) → o.wp P a w K Q) (h : wpList P ops Q rest (a.put o.dst v) w) : wpList P ops Q (o :: rest) a w := by
  unfold wpList
  rw [if_pos hw]
  exact .inl (hr _ fun _ e => e ▸ h)
def cutB (g cp N : Nat) : Option Addr := if cp = N then some ⟨g, 0, none⟩ else some ⟨g, N * 2, none⟩
theorem cutB_def (g cp N : Nat) : cutB g cp N = if cp = N then some ⟨g, 0, none⟩ else some ⟨g, N * 2, none⟩ := rfl
theorem cutB_eq (g cp N : Nat) : cutA (some ⟨g, 0, none⟩) cp N = cutB g cp N := by
  unfold cutA cutB
  split
  · rfl
  · have e : (⟨g, 0, none⟩ : Addr).add (N * 2) = ⟨g, N * 2, none⟩ := by
      unfold Addr.add
      by_cases h : N * 2 = 0
      · rw [if_pos h, h]
      · rw [if_neg h]; simp
    show some ((⟨g, 0, none⟩ : Addr).add (N * 2)) = _
    rw [e]
theorem vB_twice {l : List (Int × Int)} {p : Int × Int} (h : l.length - 1 < l.length) (hp : l[l.length - 1] = p) : vB (l ++ [p]) = false := by
  have e : l = l.dropLast ++ [p] := by
    have h0 : l ≠ [] := by intro e; rw [e] at h; simp at h
    have h1 := List.dropLast_concat_getLast h0
    rw [List.getLast_eq_getElem, hp] at h1
    exact h1.symm
  have h2 : l ++ [p] = l.dropLast ++ [p, p] := by
    conv => lhs; rw [e]
    simp
  rw [h2]
  unfold vB
  rw [vF_twice]
  simp
set_option maxRecDepth 100000 in
set_option maxHeartbeats 8000000 in
theorem walk_fnCore (a : Option Addr) (len cap : Nat) (a' : Option Addr) (len' cap' : Nat) (w : World) (h : Code w a len cap) (h' : Code w a' len' cap') : Calls Try.prog 4 #[.slice a len cap, .slice a' len' cap'] w fun e w' => e = .returned (.bool true) ∧ Below w.heap.size w w' := by
  have hm : len ≤ 9223372036854775807 := by have h1 := h.1; have h2 := h.2.1; unfold maxLen at h2; omega
  have hm' : len' ≤ 9223372036854775807 := by have h1 := h'.1; have h2 := h'.2.1; unfold maxLen at h2; omega
  have H := hide h
  clear h
  by_cases hl : 1048576 < len
  · go_enter Try.func4, Try.ntmps4
    go_wp2
    go_ret
    exact ⟨rfl, Below.refl _ _⟩
  by_cases hl' : 1048576 < len'
  · go_enter Try.func4, Try.ntmps4
    go_wp2
    go_ret
    exact ⟨rfl, Below.refl _ _⟩
  go_enter Try.func4, Try.ntmps4
  go_wp2_with fail
  refine (dDrawCoreValid a len cap _ H.out).mono ?_
  rintro e w1 ⟨v, l, rfl, hO, hS, hL, hB⟩
  obtain ⟨ao, cp, rfl⟩ := hO.shape
  have O1 := hide hO
  have I1 := hide hS.in64
  have B1 := hide hB
  have Q1 := hide (hO.rs' hS.in64)
  have hcp := Q1.out.hcap
  have hcm := Q1.out.hmax
  unfold maxLen at hcm
  clear hS hB
  obtain ⟨i0, hi0, hz0, hz1, hz2⟩ := info_parts info_piece
  cases hvb : vB l
  · have HV := hide hvb
    clear hvb
    clear hO
    go_wp2_with fail
    refine (valid_impl_as ao _ cp l false _ Q1.out HV.out).mono ?_
    rintro e w2 ⟨rfl, hb⟩
    have B2 := hide (st_trans B1.out hb)
    have Q2 := hide (Q1.out.keep hb)
    clear hb
    go_wp2_with fail
    refine (valid_spec_as ao _ cp l false _ Q2.out HV.out).mono ?_
    rintro e w3 ⟨rfl, hb⟩
    have B3 := hide (st_trans B2.out hb)
    clear hb
    go_wp2
    go_ret
    exact ⟨rfl, B3.out⟩
  · obtain ⟨N, hK⟩ : ∃ N : Nat, len' % (l.length + 1) = N := ⟨_, rfl⟩
    have hKl : N ≤ l.length := by have := Nat.mod_lt len' (show 0 < l.length + 1 by omega); omega
    have hKz : (len' : Int) % ((l.length : Int) + 1) = (N : Int) := by rw [← hK]; simp
    have vt := hide (vB_take N hvb)
    have vd := hide (vB_drop N hvb)
    have HKZ := hide hKz
    have VB := hide hvb
    clear hK hvb
    go_wp2_with fail
    refine (valid_impl_as ao _ cp l true _ Q1.out VB.out).mono ?_
    rintro e w2 ⟨rfl, hb⟩
    have B2 := hide (st_trans B1.out hb)
    have Q2 := hide (Q1.out.keep hb)
    have O2 := hide (O1.out.below hb)
    clear hb
    go_wp2_with fail
    refine (valid_spec_as ao _ cp l true _ Q2.out VB.out).mono ?_
    rintro e w3 ⟨rfl, hb⟩
    have B3 := hide (st_trans B2.out hb)
    have Q3 := hide (Q2.out.keep hb)
    have O3 := hide (O2.out.below hb)
    clear hb
    have hK1 : (0 : Int) ≤ (N : Int) := by omega
    have hK2 : (N : Int) ≤ (l.length : Int) := by omega
    have hK3 : (N : Int) ≤ (cp : Int) := by omega
    have hK4 : (l.length : Int) ≤ (cp : Int) := by omega
    have hK5 : (0 : Int) ≤ (l.length : Int) := by omega
    have h20 := vB_len VB.out
    have hsz3 : w.heap.size ≤ w3.heap.size := B3.out.size
    have B4 := hide (st_alloc B3.out (.cells #[] 32))
    have Q4 := hide (Q3.out.keep (st_alloc (st_refl w3) (.cells #[] 32)))
    have O4 := hide (O3.out.alloc (.cells #[] 32))
    have T4 : Hid (Ow (w3.alloc (.cells #[] 32)) w3.heap.size (.slice (some ⟨w3.heap.size, 0, none⟩) 0 0) []) := World.ownsRow_made w3 #[] 0 (Nat.le_refl _) (Nat.zero_le _) rfl
    rcases hO.form with ⟨he, rfl⟩ | ⟨g, cap0, he, hg1, hg2, _, _⟩
    · simp only [Value.slice.injEq] at he
      obtain ⟨rfl, _, rfl⟩ := he
      clear hO
      obtain rfl : N = 0 := by simpa using hKl
      go_wp2_with (at_builtin; refine wpList_append_own_none rfl (.tmp 40) (.tmp 41) 25 rfl w3.heap.size 32 i0 2 Try.underlying25 hi0 _ 0 [] rfl T4.out rfl ?_)
      have RA := hide (Q4.out.take hKl)
      have RB := hide (Q4.out.drop hKl)
      go_wp2_with fail
      try rw [hKz]
      refine (valid_impl_as _ _ _ _ true _ RA.out vt.out).mono ?_
      rintro e wa ⟨rfl, hb⟩
      have Ba := hide (st_trans B4.out hb)
      have RBa := hide (RB.out.keep hb)
      have Ta := hide (T4.out.below hb)
      clear hb
      go_wp2_with fail
      refine (valid_impl_as _ _ _ _ true _ RBa.out vd.out).mono ?_
      rintro e wb ⟨rfl, hb⟩
      have Bb := hide (st_trans Ba.out hb)
      have Tb := hide (Ta.out.below hb)
      clear hb
      go_wp2_with fail
      refine (valid_impl_as _ _ _ _ true _ (Tb.out.rs' In64.nil) rfl).mono ?_
      rintro e wz ⟨rfl, hb⟩
      have Bz := hide (st_trans Bb.out hb)
      clear hb
      go_wp2
      all_goals
        go_ret
        exact ⟨rfl, Bz.out⟩
    · simp only [Value.slice.injEq] at he
      obtain ⟨rfl, _, rfl⟩ := he
      have CELL := hide (fun j u hu => World.ownsRow.cells O4.out (g := g) rfl j u hu)
      have hgw : g < w3.heap.size := by have := (B3.out.size); have h2 := (hO.lt g rfl).2; have h3 := (st_trans B1.out (st_refl w1)).size; have := O3.out.lt g rfl; omega
      clear hO
      by_cases hl0 : l.length = 0
      · have hl1 : l = [] := List.eq_nil_of_length_eq_zero hl0
        subst hl1
        obtain rfl : N = 0 := by simpa using hKl
        go_wp2_with (at_builtin; refine wpList_append_own _ rfl (.tmp 40) (.tmp 41) 25 rfl w3.heap.size 32 i0 _ 2 16 Try.underlying25 hi0 hz0 hz1 hz2 rfl (by omega) _ 0 [] rfl T4.out ⟨g, 0, none⟩ 0 cp [] rfl rfl (by intro j u hu; simp at hu) (by intro u hu; cases hu) (by unfold maxLen; omega) (by omega) (by simp) ?_; intro tv w5 hown5 hgr5 _)
        have T5 : Hid (Ow w5 w3.heap.size tv []) := hown5
        have B5 := hide (below_app (w := w3) (v := .slice (some ⟨w3.heap.size, 0, none⟩) 0 0) (l := []) T4.out (st_alloc (st_refl w3) _) (st_refl _) hgr5)
        have B6 := hide (st_trans B3.out B5.out)
        have Q6 := hide (Q3.out.keep B5.out)
        obtain ⟨ta, tc, rfl⟩ := T5.out.shape
        have T6 : Hid (Ow w5 w3.heap.size (.slice ta 0 tc) []) := T5.out
        clear hown5 hgr5 T5
        have RA := hide (Q6.out.take hKl)
        have RB : Hid (Rs w5 (some ⟨g, 0, none⟩) 0 cp []) := Q6.out
        go_wp2_with fail
        try rw [hKz]
        refine (valid_impl_as _ _ _ _ true _ RA.out vt.out).mono ?_
        rintro e wa ⟨rfl, hb⟩
        have Ba := hide (st_trans B6.out hb)
        have RBa := hide (RB.out.keep hb)
        have Ta := hide (T6.out.below hb)
        clear hb
        go_wp2_with fail
        refine (valid_impl_as (some ⟨g, 0, none⟩) 0 cp [] true _ RBa.out vd.out).mono ?_
        rintro e wb ⟨rfl, hb⟩
        have Bb := hide (st_trans Ba.out hb)
        have Tb := hide (Ta.out.below hb)
        clear hb
        go_wp2_with fail
        refine (valid_impl_as _ _ _ _ true _ (Tb.out.rs' In64.nil) rfl).mono ?_
        rintro e wz ⟨rfl, hb⟩
        have Bz := hide (st_trans Bb.out hb)
        clear hb
        go_wp2
        all_goals
          go_ret
          exact ⟨rfl, Bz.out⟩
      · have hlb : ((l.length : Int) == 0) = false := by rw [beq_eq_false_iff_ne]; omega
        have hlp : (0 : Int) < (l.length : Int) := by omega
        have hlz : ((l.length : Int) - 1).toNat = l.length - 1 := by omega
        have hlz2 : (0 : Int) ≤ (l.length : Int) - 1 := by omega
        have hlz3 : (l.length : Int) - 1 < (l.length : Int) := by omega
        go_wp2_with (first | (at_builtin; refine wpList_append_lies _ rfl (.tmp 40) (.tmp 41) 25 rfl w3.heap.size 32 i0 _ 2 16 Try.underlying25 hi0 hz0 hz1 hz2 rfl (by omega) _ 0 [] rfl T4.out ⟨g, 0, none⟩ l.length cp (fl l) rfl (fl_length l) CELL.out (fl_one l) (by omega) (by unfold maxLen; omega) (by omega) (by simp) (w3.alloc (.cells #[] 32)).heap.size rfl ?_; intro tg tcap w5 hown5 hgr5 hat5 hlt5; have T5 : Hid (Ow w5 w3.heap.size (.slice (some ⟨tg, 0, none⟩) l.length tcap) l) := (by (have := hown5); (rw [Nat.zero_add, List.nil_append] at this); (exact this)); have B5 := hide (below_app (w := w3) (v := .slice (some ⟨w3.heap.size, 0, none⟩) 0 0) (l := []) T4.out (st_alloc (st_refl w3) _) (st_refl _) hgr5); have B6 := hide (st_trans B3.out B5.out); have Q6 := hide (Q3.out.keep B5.out); have O6 := hide (O3.out.below B5.out); clear hown5 hgr5 hat5 hlt5; obtain ⟨d0, d1, _, _⟩ := Ow.cells O6.out (l.length - 1) (by omega); obtain ⟨p, hp⟩ : ∃ p, l[l.length - 1]'(by omega) = p := ⟨_, rfl⟩; rw [hp] at d0 d1; obtain ⟨x, y⟩ := p; dsimp only at d0 d1; have HP := hide hp; clear hp; have T5' : Hid (w5.ownsRow w3.heap.size 32 2 (.slice (some ⟨tg, 0, none⟩) l.length tcap) l.length (fl l)) := T5.out; have hs5 : w3.heap.size ≤ w5.heap.size := B5.out.size) | (at_builtin; refine wpList_append_lies _ rfl (.tmp 46) (.tmp 53) 25 rfl w3.heap.size 32 i0 _ 2 16 Try.underlying25 hi0 hz0 hz1 hz2 rfl (by omega) _ l.length (fl l) rfl (World.ownsRow.alloc T5'.out _) ⟨w5.heap.size, 0, none⟩ 1 1 [.int .i64 x, .int .i64 y] rfl rfl (World.news_of_block (cs := #[.int .i64 x, .int .i64 y]) (t := 32) (fr := (0, 0)) (heap_alloc_new w5 _)) (by simp [Value.oneCell']) (by omega) (by unfold maxLen; omega) (by omega) (by simp; omega) ((World.alloc w5 _).heap.size) rfl ?_; intro gg cap' w6 hown6 hgr6 hat6 hlt6))
        have T6 : Hid (Ow w6 w3.heap.size (.slice (some ⟨gg, 0, none⟩) (l.length + 1) cap') (l ++ [(x, y)])) := Ow.app hown6
        have B7 := hide (below_app (w := w3) (v := .slice (some ⟨tg, 0, none⟩) l.length tcap) (l := l) T5.out B5.out (st_alloc (st_refl w5) _) hgr6)
        have B8 := hide (st_trans B3.out B7.out)
        have Q8 := hide (Q3.out.keep B7.out)
        have I6 : Hid (In64 (l ++ [(x, y)])) := hide (by
          have he : l ++ [(x, y)] = l ++ [l[l.length - 1]'(by omega)] := by rw [HP.out]
          rw [he]
          exact In64.of_mem fun p hp => by
            rcases List.mem_append.1 hp with h | h
            · exact In64.mem I1.out p h
            · rw [List.mem_singleton.1 h]; exact I1.out _ (by omega))
        have TW : Hid (vB (l ++ [(x, y)]) = false) := hide (vB_twice (by omega) HP.out)
        clear hown6 hgr6 hat6 hlt6 CELL d0 d1
        have RA := hide (Q8.out.take hKl)
        have RB0 := Q8.out.drop hKl
        rw [cutB_eq] at RB0
        have RB := hide RB0
        clear RB0
        try rw [hKz]
        refine (valid_impl_as _ _ _ _ true _ RA.out vt.out).mono ?_
        rintro e wa ⟨rfl, hb⟩
        have Ba := hide (st_trans B8.out hb)
        have RBa := hide (RB.out.keep hb)
        have Ta := hide (T6.out.below hb)
        clear hb
        go_wp2_with (with_reducible refine wpList_val (o := ⟨some 62, _, _, _, _, _⟩) (v := .slice (cutB g cp N) (l.length - N) (cp - N)) rfl (fun K hK => ?_) ?_; (· go_simp; refine hK _ ?_; go_simp; exact cutB_def _ _ _))
        refine (valid_impl_as _ _ _ _ true _ RBa.out vd.out).mono ?_
        rintro e wb ⟨rfl, hb⟩
        have Bb := hide (st_trans Ba.out hb)
        have Tb := hide (Ta.out.below hb)
        clear hb
        go_wp2_with fail
        refine (valid_impl_as _ _ _ (l ++ [(x, y)]) false _ (Ow.rs' (by simpa using Tb.out) I6.out) TW.out).mono ?_
        rintro e wz ⟨rfl, hb⟩
        have Bz := hide (st_trans Bb.out hb)
        clear hb
        go_wp2
        all_goals
          go_ret
          exact ⟨rfl, Bz.out⟩
end Go.Proofs.Ytbfcfhngfenpjaa
