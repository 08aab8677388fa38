/-
  The walks of the exact laws on cores.
  Conditions: the argument reads as a list of pieces.
-/
import Derived.Test.YtbfcfhngfenpjaaCh
namespace Go.Proofs.Ytbfcfhngfenpjaa
open Go.RowKit Co
set_option linter.unusedVariables false

set_option maxHeartbeats 6400000 in
theorem walk_fnExactCoreValid (ao : Option Addr) (len cap : Nat) (l : List (Int × Int)) (w : World) (h : Rs w ao len cap l) :
    Calls Try.prog 3 #[.slice ao len cap] w fun e w' => e = .returned (.bool true) ∧ Below w.heap.size w w' := by
  have hl := h.hlen
  subst hl
  have hc := h.hcap
  have hm := h.hmax
  unfold maxLen at hm
  have H := hide h
  clear h
  have B0 := hide (st_refl w)
  by_cases hle : l.length ≤ 1048576
  case neg =>
    go_enter Try.func3, Try.ntmps3
    go_wp2_with fail
    refine (size_over _ _ _ _ (by omega) (by omega)).mono ?_
    rintro e w1 ⟨rfl, hb1⟩
    go_wp2
    go_ret
    exact ⟨rfl, hb1⟩
  have hle2 : ¬ (1048576 - (l.length : Int)) < 0 := by omega
  go_enter Try.func3, Try.ntmps3
  go_wp2_with fail
  refine (size_any _ _ _ _ (by omega) hle).mono ?_
  rintro e w1 ⟨rfl, hb1⟩
  have B1 := hide (st_trans B0.out hb1)
  clear hb1
  go_wp2_with fail
  refine (to_pieces _ _ _ l _ (H.out.keep B1.out) hle).mono ?_
  rintro e w2 ⟨v2, rfl, ho2, hb2⟩
  obtain ⟨oaa, oac, rfl⟩ := ho2.shape'
  have oa2 := hide ho2
  have oaL := hide ho2.lt
  have B2 := hide (st_trans B1.out hb2)
  have oaS : Hid (w1.heap.size ≤ w2.heap.size) := hb2.size
  clear ho2 hb2
  go_wp2_with fail
  refine (valid_spec _ _ _ l _ (oa2.out.rs' H.out.i64)).mono ?_
  rintro e w3 ⟨rfl, hb3⟩
  have B3 := hide (st_trans B2.out hb3)
  have oa3 := hide (oa2.out.below hb3)
  clear hb3
  go_wp2_with fail
  refine (to_pieces _ _ _ l _ (H.out.keep B3.out) hle).mono ?_
  rintro e w4 ⟨v4, rfl, ho4, hb4⟩
  obtain ⟨oxa, oxc, rfl⟩ := ho4.shape'
  have ox4 := hide ho4
  have oxL := hide ho4.lt
  have B4 := hide (st_trans B3.out hb4)
  have oa4 := hide (oa3.out.below hb4)
  have oxS : Hid (w3.heap.size ≤ w4.heap.size) := hb4.size
  clear ho4 hb4
  go_wp2_with fail
  refine (valid_impl _ _ _ l _ (ox4.out.rs' H.out.i64)).mono ?_
  rintro e w5 ⟨rfl, hb5⟩
  have B5 := hide (st_trans B4.out hb5)
  have oa5 := hide (oa4.out.below hb5)
  have ox5 := hide (ox4.out.below hb5)
  clear hb5
  go_wp2_with fail
  refine (to_pieces _ _ _ l _ (H.out.keep B5.out) hle).mono ?_
  rintro e w6 ⟨v6, rfl, ho6, hb6⟩
  obtain ⟨oba, obc, rfl⟩ := ho6.shape'
  have ob6 := hide ho6
  have obL := hide ho6.lt
  have B6 := hide (st_trans B5.out hb6)
  have oa6 := hide (oa5.out.below hb6)
  have ox6 := hide (ox5.out.below hb6)
  have obS : Hid (w5.heap.size ≤ w6.heap.size) := hb6.size
  clear ho6 hb6
  go_wp2_with fail
  refine (eq_pieces _ _ _ _ _ _ l _ (ox6.out.rs' H.out.i64) (ob6.out.rs' H.out.i64)).mono ?_
  rintro e w7 ⟨rfl, hb7⟩
  have B7 := hide (st_trans B6.out hb7)
  have oa7 := hide (oa6.out.below hb7)
  have ox7 := hide (ox6.out.below hb7)
  have ob7 := hide (ob6.out.below hb7)
  clear hb7
  go_wp2
  go_ret
  exact ⟨rfl, B7.out⟩

set_option maxHeartbeats 6400000 in
theorem walk_fnExactCoreLength (ao : Option Addr) (len cap : Nat) (l : List (Int × Int)) (w : World) (h : Rs w ao len cap l) :
    Calls Try.prog 5 #[.slice ao len cap] w fun e w' => e = .returned (.bool true) ∧ Below w.heap.size w w' := by
  have hl := h.hlen
  subst hl
  have hc := h.hcap
  have hm := h.hmax
  unfold maxLen at hm
  have H := hide h
  clear h
  have B0 := hide (st_refl w)
  by_cases hle : l.length ≤ 1048576
  case neg =>
    go_enter Try.func5, Try.ntmps5
    go_wp2_with fail
    refine (size_over _ _ _ _ (by omega) (by omega)).mono ?_
    rintro e w1 ⟨rfl, hb1⟩
    go_wp2
    go_ret
    exact ⟨rfl, hb1⟩
  have hle2 : ¬ (1048576 - (l.length : Int)) < 0 := by omega
  go_enter Try.func5, Try.ntmps5
  go_wp2_with fail
  refine (size_any _ _ _ _ (by omega) hle).mono ?_
  rintro e w1 ⟨rfl, hb1⟩
  have B1 := hide (st_trans B0.out hb1)
  clear hb1
  go_wp2_with fail
  refine (to_pieces _ _ _ l _ (H.out.keep B1.out) hle).mono ?_
  rintro e w2 ⟨v2, rfl, ho2, hb2⟩
  obtain ⟨oaa, oac, rfl⟩ := ho2.shape'
  have oa2 := hide ho2
  have oaL := hide ho2.lt
  have B2 := hide (st_trans B1.out hb2)
  have oaS : Hid (w1.heap.size ≤ w2.heap.size) := hb2.size
  clear ho2 hb2
  go_wp2_with fail
  refine (length_spec _ _ _ l _ (oa2.out.rs' H.out.i64)).mono ?_
  rintro e w3 ⟨rfl, hb3⟩
  have B3 := hide (st_trans B2.out hb3)
  have oa3 := hide (oa2.out.below hb3)
  clear hb3
  go_wp2_with fail
  refine (to_pieces _ _ _ l _ (H.out.keep B3.out) hle).mono ?_
  rintro e w4 ⟨v4, rfl, ho4, hb4⟩
  obtain ⟨oxa, oxc, rfl⟩ := ho4.shape'
  have ox4 := hide ho4
  have oxL := hide ho4.lt
  have B4 := hide (st_trans B3.out hb4)
  have oa4 := hide (oa3.out.below hb4)
  have oxS : Hid (w3.heap.size ≤ w4.heap.size) := hb4.size
  clear ho4 hb4
  go_wp2_with fail
  refine (length_impl _ _ _ l _ (ox4.out.rs' H.out.i64)).mono ?_
  rintro e w5 ⟨rfl, hb5⟩
  have B5 := hide (st_trans B4.out hb5)
  have oa5 := hide (oa4.out.below hb5)
  have ox5 := hide (ox4.out.below hb5)
  clear hb5
  go_wp2_with fail
  refine (to_pieces _ _ _ l _ (H.out.keep B5.out) hle).mono ?_
  rintro e w6 ⟨v6, rfl, ho6, hb6⟩
  obtain ⟨oba, obc, rfl⟩ := ho6.shape'
  have ob6 := hide ho6
  have obL := hide ho6.lt
  have B6 := hide (st_trans B5.out hb6)
  have oa6 := hide (oa5.out.below hb6)
  have ox6 := hide (ox5.out.below hb6)
  have obS : Hid (w5.heap.size ≤ w6.heap.size) := hb6.size
  clear ho6 hb6
  go_wp2_with fail
  refine (eq_pieces _ _ _ _ _ _ l _ (ox6.out.rs' H.out.i64) (ob6.out.rs' H.out.i64)).mono ?_
  rintro e w7 ⟨rfl, hb7⟩
  have B7 := hide (st_trans B6.out hb7)
  have oa7 := hide (oa6.out.below hb7)
  have ox7 := hide (ox6.out.below hb7)
  have ob7 := hide (ob6.out.below hb7)
  clear hb7
  go_wp2
  go_ret
  exact ⟨rfl, B7.out⟩

set_option maxHeartbeats 6400000 in
theorem walk_fnExactCoreHas (ao : Option Addr) (len cap : Nat) (l : List (Int × Int)) (d : Int) (w : World) (h : Rs w ao len cap l) (_ : I64 d) :
    Calls Try.prog 6 #[.slice ao len cap, .int .i64 d] w fun e w' => e = .returned (.bool true) ∧ Below w.heap.size w w' := by
  have hl := h.hlen
  subst hl
  have hc := h.hcap
  have hm := h.hmax
  unfold maxLen at hm
  have H := hide h
  clear h
  have B0 := hide (st_refl w)
  by_cases hle : l.length ≤ 1048576
  case neg =>
    go_enter Try.func6, Try.ntmps6
    go_wp2_with fail
    refine (size_over _ _ _ _ (by omega) (by omega)).mono ?_
    rintro e w1 ⟨rfl, hb1⟩
    go_wp2
    go_ret
    exact ⟨rfl, hb1⟩
  have hle2 : ¬ (1048576 - (l.length : Int)) < 0 := by omega
  go_enter Try.func6, Try.ntmps6
  go_wp2_with fail
  refine (size_any _ _ _ _ (by omega) hle).mono ?_
  rintro e w1 ⟨rfl, hb1⟩
  have B1 := hide (st_trans B0.out hb1)
  clear hb1
  go_wp2_with fail
  refine (to_pieces _ _ _ l _ (H.out.keep B1.out) hle).mono ?_
  rintro e w2 ⟨v2, rfl, ho2, hb2⟩
  obtain ⟨oaa, oac, rfl⟩ := ho2.shape'
  have oa2 := hide ho2
  have oaL := hide ho2.lt
  have B2 := hide (st_trans B1.out hb2)
  have oaS : Hid (w1.heap.size ≤ w2.heap.size) := hb2.size
  clear ho2 hb2
  go_wp2_with fail
  refine (has_spec _ _ _ l d _ (oa2.out.rs' H.out.i64)).mono ?_
  rintro e w3 ⟨rfl, hb3⟩
  have B3 := hide (st_trans B2.out hb3)
  have oa3 := hide (oa2.out.below hb3)
  clear hb3
  go_wp2_with fail
  refine (to_pieces _ _ _ l _ (H.out.keep B3.out) hle).mono ?_
  rintro e w4 ⟨v4, rfl, ho4, hb4⟩
  obtain ⟨oxa, oxc, rfl⟩ := ho4.shape'
  have ox4 := hide ho4
  have oxL := hide ho4.lt
  have B4 := hide (st_trans B3.out hb4)
  have oa4 := hide (oa3.out.below hb4)
  have oxS : Hid (w3.heap.size ≤ w4.heap.size) := hb4.size
  clear ho4 hb4
  go_wp2_with fail
  refine (has_impl _ _ _ l d _ (ox4.out.rs' H.out.i64)).mono ?_
  rintro e w5 ⟨rfl, hb5⟩
  have B5 := hide (st_trans B4.out hb5)
  have oa5 := hide (oa4.out.below hb5)
  have ox5 := hide (ox4.out.below hb5)
  clear hb5
  go_wp2_with fail
  refine (to_pieces _ _ _ l _ (H.out.keep B5.out) hle).mono ?_
  rintro e w6 ⟨v6, rfl, ho6, hb6⟩
  obtain ⟨oba, obc, rfl⟩ := ho6.shape'
  have ob6 := hide ho6
  have obL := hide ho6.lt
  have B6 := hide (st_trans B5.out hb6)
  have oa6 := hide (oa5.out.below hb6)
  have ox6 := hide (ox5.out.below hb6)
  have obS : Hid (w5.heap.size ≤ w6.heap.size) := hb6.size
  clear ho6 hb6
  go_wp2_with fail
  refine (eq_pieces _ _ _ _ _ _ l _ (ox6.out.rs' H.out.i64) (ob6.out.rs' H.out.i64)).mono ?_
  rintro e w7 ⟨rfl, hb7⟩
  have B7 := hide (st_trans B6.out hb7)
  have oa7 := hide (oa6.out.below hb7)
  have ox7 := hide (ox6.out.below hb7)
  have ob7 := hide (ob6.out.below hb7)
  clear hb7
  go_wp2
  go_ret
  exact ⟨rfl, B7.out⟩

set_option maxHeartbeats 6400000 in
theorem walk_fnExactCoreGaps (ao : Option Addr) (len cap : Nat) (l : List (Int × Int)) (w : World) (h : Rs w ao len cap l) :
    Calls Try.prog 12 #[.slice ao len cap] w fun e w' => e = .returned (.bool true) ∧ Below w.heap.size w w' := by
  have hl := h.hlen
  subst hl
  have hc := h.hcap
  have hm := h.hmax
  unfold maxLen at hm
  have H := hide h
  clear h
  have B0 := hide (st_refl w)
  by_cases hle : l.length ≤ 1048576
  case neg =>
    go_enter Try.func12, Try.ntmps12
    go_wp2_with fail
    refine (size_over _ _ _ _ (by omega) (by omega)).mono ?_
    rintro e w1 ⟨rfl, hb1⟩
    go_wp2
    go_ret
    exact ⟨rfl, hb1⟩
  have hle2 : ¬ (1048576 - (l.length : Int)) < 0 := by omega
  go_enter Try.func12, Try.ntmps12
  go_wp2_with fail
  refine (size_any _ _ _ _ (by omega) hle).mono ?_
  rintro e w1 ⟨rfl, hb1⟩
  have B1 := hide (st_trans B0.out hb1)
  clear hb1
  go_wp2_with fail
  refine (to_pieces _ _ _ l _ (H.out.keep B1.out) hle).mono ?_
  rintro e w2 ⟨v2, rfl, ho2, hb2⟩
  obtain ⟨oaa, oac, rfl⟩ := ho2.shape'
  have oa2 := hide ho2
  have oaL := hide ho2.lt
  have B2 := hide (st_trans B1.out hb2)
  have oaS : Hid (w1.heap.size ≤ w2.heap.size) := hb2.size
  clear ho2 hb2
  go_wp2_with fail
  refine (gaps_spec _ _ _ l _ (oa2.out.rs' H.out.i64)).mono ?_
  rintro e w3 ⟨v3, rfl, ho3, hb3⟩
  obtain ⟨owa, owc, rfl⟩ := ho3.shape'
  have ow3 := hide ho3
  have owL := hide ho3.lt
  have B3 := hide (st_trans B2.out hb3)
  have oa3 := hide (oa2.out.below hb3)
  have owS : Hid (w2.heap.size ≤ w3.heap.size) := hb3.size
  clear ho3 hb3
  go_wp2_with fail
  refine (to_pieces _ _ _ l _ (H.out.keep B3.out) hle).mono ?_
  rintro e w4 ⟨v4, rfl, ho4, hb4⟩
  obtain ⟨oxa, oxc, rfl⟩ := ho4.shape'
  have ox4 := hide ho4
  have oxL := hide ho4.lt
  have B4 := hide (st_trans B3.out hb4)
  have oa4 := hide (oa3.out.below hb4)
  have ow4 := hide (ow3.out.below hb4)
  have oxS : Hid (w3.heap.size ≤ w4.heap.size) := hb4.size
  clear ho4 hb4
  go_wp2_with fail
  refine (gaps_impl _ _ _ l _ (ox4.out.rs' H.out.i64)).mono ?_
  rintro e w5 ⟨v5, rfl, ho5, hb5⟩
  obtain ⟨oga, ogc, rfl⟩ := ho5.shape'
  have og5 := hide ho5
  have ogL := hide ho5.lt
  have B5 := hide (st_trans B4.out hb5)
  have oa5 := hide (oa4.out.below hb5)
  have ow5 := hide (ow4.out.below hb5)
  have ox5 := hide (ox4.out.below hb5)
  have ogS : Hid (w4.heap.size ≤ w5.heap.size) := hb5.size
  clear ho5 hb5
  go_wp2_with fail
  refine (eq_pieces _ _ _ _ _ _ _ _ (og5.out.rs' (gapsV_in64 l).1) (ow5.out.rs' (gapsV_in64 l).1)).mono ?_
  rintro e w6 ⟨rfl, hb6⟩
  have B6 := hide (st_trans B5.out hb6)
  have oa6 := hide (oa5.out.below hb6)
  have ow6 := hide (ow5.out.below hb6)
  have ox6 := hide (ox5.out.below hb6)
  have og6 := hide (og5.out.below hb6)
  clear hb6
  go_wp2_with fail
  refine (to_pieces _ _ _ l _ (H.out.keep B6.out) hle).mono ?_
  rintro e w7 ⟨v7, rfl, ho7, hb7⟩
  obtain ⟨oba, obc, rfl⟩ := ho7.shape'
  have ob7 := hide ho7
  have obL := hide ho7.lt
  have B7 := hide (st_trans B6.out hb7)
  have oa7 := hide (oa6.out.below hb7)
  have ow7 := hide (ow6.out.below hb7)
  have ox7 := hide (ox6.out.below hb7)
  have og7 := hide (og6.out.below hb7)
  have obS : Hid (w6.heap.size ≤ w7.heap.size) := hb7.size
  clear ho7 hb7
  go_wp2_with fail
  refine (eq_pieces _ _ _ _ _ _ l _ (ox7.out.rs' H.out.i64) (ob7.out.rs' H.out.i64)).mono ?_
  rintro e w8 ⟨rfl, hb8⟩
  have B8 := hide (st_trans B7.out hb8)
  have oa8 := hide (oa7.out.below hb8)
  have ow8 := hide (ow7.out.below hb8)
  have ox8 := hide (ox7.out.below hb8)
  have og8 := hide (og7.out.below hb8)
  have ob8 := hide (ob7.out.below hb8)
  clear hb8
  have owox : Hid (w3.heap.size ≤ w3.heap.size) := Nat.le_refl _
  have oxog : Hid (w4.heap.size ≤ w4.heap.size) := Nat.le_refl _
  have owog : Hid (w3.heap.size ≤ w4.heap.size) := Nat.le_trans owox.out oxS.out
  go_wp2_with fail
  refine (mark_pieces _ _ _ 1 _ ox8.out hle (by decide) (by decide)).mono ?_
  rintro e w9 ⟨rfl, ho9, hg9⟩
  have B9 := hide (below_grown B8.out hg9 B8.out.size (fun k hk => Nat.le_trans B3.out.size (oxL.out k hk).1))
  have ow9 := hide (ow8.out.far hg9 (fun k hk e => by have h1 := owL.out k hk; have h2 := oxL.out k e; exact Nat.lt_irrefl _ (Nat.lt_of_lt_of_le h1.2 (Nat.le_trans owox.out h2.1))))
  have og9 := hide (og8.out.far hg9 (fun k hk e => by have h1 := ogL.out k hk; have h2 := oxL.out k e; exact Nat.lt_irrefl _ (Nat.lt_of_lt_of_le h2.2 (Nat.le_trans oxog.out h1.1))))
  have ox9 := hide ho9
  clear ho9 hg9
  have hk0 : ¬ (1 + 2 * (l.length : Int)) < 0 := by omega
  go_wp2_with fail
  refine (eq_pieces _ _ _ _ _ _ _ _ (og9.out.rs' (gapsV_in64 l).1) (ow9.out.rs' (gapsV_in64 l).1)).mono ?_
  rintro e w10 ⟨rfl, hb10⟩
  have B10 := hide (st_trans B9.out hb10)
  have ow10 := hide (ow9.out.below hb10)
  have ox10 := hide (ox9.out.below hb10)
  have og10 := hide (og9.out.below hb10)
  clear hb10
  go_wp2_with fail
  refine (mark_pieces _ _ _ 1 _ og10.out (Nat.le_trans (gapsV_in64 l).2 (by decide)) (by decide) (by decide)).mono ?_
  rintro e w11 ⟨rfl, ho11, hg11⟩
  have B11 := hide (below_grown B10.out hg11 B10.out.size (fun k hk => Nat.le_trans B4.out.size (ogL.out k hk).1))
  have ow11 := hide (ow10.out.far hg11 (fun k hk e => by have h1 := owL.out k hk; have h2 := ogL.out k e; exact Nat.lt_irrefl _ (Nat.lt_of_lt_of_le h1.2 (Nat.le_trans owog.out h2.1))))
  have og11 := hide ho11
  clear ho11 hg11
  have hk1 : ¬ (1 + 2 * ((gapsV l).length : Int)) < 0 := by omega
  go_wp2_with fail
  refine (held_pieces _ _ _ (gapsV l).length 1 _ (og11.out.rs' (marks_in64 _ _ (by decide) (by decide) (Nat.le_trans (gapsV_in64 l).2 (by decide)))) (Nat.le_trans (gapsV_in64 l).2 (by decide)) (by decide) (by decide)).mono ?_
  rintro e w12 ⟨rfl, hb12⟩
  have B12 := hide (st_trans B11.out hb12)
  have ow12 := hide (ow11.out.below hb12)
  have og12 := hide (og11.out.below hb12)
  clear hb12
  go_wp2_with fail
  refine (to_pieces _ _ _ l _ (H.out.keep B12.out) hle).mono ?_
  rintro e w13 ⟨v13, rfl, ho13, hb13⟩
  obtain ⟨oza, ozc, rfl⟩ := ho13.shape'
  have oz13 := hide ho13
  have ozL := hide ho13.lt
  have B13 := hide (st_trans B12.out hb13)
  have ow13 := hide (ow12.out.below hb13)
  have og13 := hide (og12.out.below hb13)
  have ozS : Hid (w12.heap.size ≤ w13.heap.size) := hb13.size
  clear ho13 hb13
  go_wp2_with fail
  refine (gaps_impl _ _ _ l _ (oz13.out.rs' H.out.i64)).mono ?_
  rintro e w14 ⟨v14, rfl, ho14, hb14⟩
  obtain ⟨oha, ohc, rfl⟩ := ho14.shape'
  have oh14 := hide ho14
  have ohL := hide ho14.lt
  have B14 := hide (st_trans B13.out hb14)
  have ow14 := hide (ow13.out.below hb14)
  have og14 := hide (og13.out.below hb14)
  have oz14 := hide (oz13.out.below hb14)
  have ohS : Hid (w13.heap.size ≤ w14.heap.size) := hb14.size
  clear ho14 hb14
  go_wp2_with fail
  refine (eq_pieces _ _ _ _ _ _ _ _ (oh14.out.rs' (gapsV_in64 l).1) (ow14.out.rs' (gapsV_in64 l).1)).mono ?_
  rintro e w15 ⟨rfl, hb15⟩
  have B15 := hide (st_trans B14.out hb15)
  have ow15 := hide (ow14.out.below hb15)
  have og15 := hide (og14.out.below hb15)
  have oz15 := hide (oz14.out.below hb15)
  have oh15 := hide (oh14.out.below hb15)
  clear hb15
  go_wp2_with fail
  refine (held_pieces _ _ _ (gapsV l).length 1 _ (og15.out.rs' (marks_in64 _ _ (by decide) (by decide) (Nat.le_trans (gapsV_in64 l).2 (by decide)))) (Nat.le_trans (gapsV_in64 l).2 (by decide)) (by decide) (by decide)).mono ?_
  rintro e w16 ⟨rfl, hb16⟩
  have B16 := hide (st_trans B15.out hb16)
  have ow16 := hide (ow15.out.below hb16)
  have og16 := hide (og15.out.below hb16)
  have oz16 := hide (oz15.out.below hb16)
  have oh16 := hide (oh15.out.below hb16)
  clear hb16
  go_wp2
  go_ret
  exact ⟨rfl, B16.out⟩

set_option maxHeartbeats 6400000 in
theorem walk_fnExactCoreJoin (ao : Option Addr) (len cap : Nat) (l : List (Int × Int)) (w : World) (h : Rs w ao len cap l) :
    Calls Try.prog 14 #[.slice ao len cap] w fun e w' => e = .returned (.bool true) ∧ Below w.heap.size w w' := by
  have hl := h.hlen
  subst hl
  have hc := h.hcap
  have hm := h.hmax
  unfold maxLen at hm
  have H := hide h
  clear h
  have B0 := hide (st_refl w)
  by_cases hle : l.length ≤ 1048576
  case neg =>
    go_enter Try.func14, Try.ntmps14
    go_wp2_with fail
    refine (size_over _ _ _ _ (by omega) (by omega)).mono ?_
    rintro e w1 ⟨rfl, hb1⟩
    go_wp2
    go_ret
    exact ⟨rfl, hb1⟩
  have hle2 : ¬ (1048576 - (l.length : Int)) < 0 := by omega
  go_enter Try.func14, Try.ntmps14
  go_wp2_with fail
  refine (size_any _ _ _ _ (by omega) hle).mono ?_
  rintro e w1 ⟨rfl, hb1⟩
  have B1 := hide (st_trans B0.out hb1)
  clear hb1
  go_wp2_with fail
  refine (to_pieces _ _ _ l _ (H.out.keep B1.out) hle).mono ?_
  rintro e w2 ⟨v2, rfl, ho2, hb2⟩
  obtain ⟨oaa, oac, rfl⟩ := ho2.shape'
  have oa2 := hide ho2
  have oaL := hide ho2.lt
  have B2 := hide (st_trans B1.out hb2)
  have oaS : Hid (w1.heap.size ≤ w2.heap.size) := hb2.size
  clear ho2 hb2
  go_wp2_with fail
  refine (join_spec _ _ _ l _ (oa2.out.rs' H.out.i64)).mono ?_
  rintro e w3 ⟨v3, rfl, ho3, hb3⟩
  obtain ⟨owa, owc, rfl⟩ := ho3.shape'
  have ow3 := hide ho3
  have owL := hide ho3.lt
  have B3 := hide (st_trans B2.out hb3)
  have oa3 := hide (oa2.out.below hb3)
  have owS : Hid (w2.heap.size ≤ w3.heap.size) := hb3.size
  clear ho3 hb3
  go_wp2_with fail
  refine (to_pieces _ _ _ l _ (H.out.keep B3.out) hle).mono ?_
  rintro e w4 ⟨v4, rfl, ho4, hb4⟩
  obtain ⟨oxa, oxc, rfl⟩ := ho4.shape'
  have ox4 := hide ho4
  have oxL := hide ho4.lt
  have B4 := hide (st_trans B3.out hb4)
  have oa4 := hide (oa3.out.below hb4)
  have ow4 := hide (ow3.out.below hb4)
  have oxS : Hid (w3.heap.size ≤ w4.heap.size) := hb4.size
  clear ho4 hb4
  go_wp2_with fail
  refine (join_impl _ _ _ l _ (ox4.out.rs' H.out.i64)).mono ?_
  rintro e w5 ⟨v5, rfl, ho5, hb5⟩
  obtain ⟨oga, ogc, rfl⟩ := ho5.shape'
  have og5 := hide ho5
  have ogL := hide ho5.lt
  have B5 := hide (st_trans B4.out hb5)
  have oa5 := hide (oa4.out.below hb5)
  have ow5 := hide (ow4.out.below hb5)
  have ox5 := hide (ox4.out.below hb5)
  have ogS : Hid (w4.heap.size ≤ w5.heap.size) := hb5.size
  clear ho5 hb5
  go_wp2_with fail
  refine (eq_pieces _ _ _ _ _ _ _ _ (og5.out.rs' (joinV_in64 l).1) (ow5.out.rs' (joinV_in64 l).1)).mono ?_
  rintro e w6 ⟨rfl, hb6⟩
  have B6 := hide (st_trans B5.out hb6)
  have oa6 := hide (oa5.out.below hb6)
  have ow6 := hide (ow5.out.below hb6)
  have ox6 := hide (ox5.out.below hb6)
  have og6 := hide (og5.out.below hb6)
  clear hb6
  go_wp2_with fail
  refine (to_pieces _ _ _ l _ (H.out.keep B6.out) hle).mono ?_
  rintro e w7 ⟨v7, rfl, ho7, hb7⟩
  obtain ⟨oba, obc, rfl⟩ := ho7.shape'
  have ob7 := hide ho7
  have obL := hide ho7.lt
  have B7 := hide (st_trans B6.out hb7)
  have oa7 := hide (oa6.out.below hb7)
  have ow7 := hide (ow6.out.below hb7)
  have ox7 := hide (ox6.out.below hb7)
  have og7 := hide (og6.out.below hb7)
  have obS : Hid (w6.heap.size ≤ w7.heap.size) := hb7.size
  clear ho7 hb7
  go_wp2_with fail
  refine (eq_pieces _ _ _ _ _ _ l _ (ox7.out.rs' H.out.i64) (ob7.out.rs' H.out.i64)).mono ?_
  rintro e w8 ⟨rfl, hb8⟩
  have B8 := hide (st_trans B7.out hb8)
  have oa8 := hide (oa7.out.below hb8)
  have ow8 := hide (ow7.out.below hb8)
  have ox8 := hide (ox7.out.below hb8)
  have og8 := hide (og7.out.below hb8)
  have ob8 := hide (ob7.out.below hb8)
  clear hb8
  have owox : Hid (w3.heap.size ≤ w3.heap.size) := Nat.le_refl _
  have oxog : Hid (w4.heap.size ≤ w4.heap.size) := Nat.le_refl _
  have owog : Hid (w3.heap.size ≤ w4.heap.size) := Nat.le_trans owox.out oxS.out
  go_wp2_with fail
  refine (mark_pieces _ _ _ 1 _ ox8.out hle (by decide) (by decide)).mono ?_
  rintro e w9 ⟨rfl, ho9, hg9⟩
  have B9 := hide (below_grown B8.out hg9 B8.out.size (fun k hk => Nat.le_trans B3.out.size (oxL.out k hk).1))
  have ow9 := hide (ow8.out.far hg9 (fun k hk e => by have h1 := owL.out k hk; have h2 := oxL.out k e; exact Nat.lt_irrefl _ (Nat.lt_of_lt_of_le h1.2 (Nat.le_trans owox.out h2.1))))
  have og9 := hide (og8.out.far hg9 (fun k hk e => by have h1 := ogL.out k hk; have h2 := oxL.out k e; exact Nat.lt_irrefl _ (Nat.lt_of_lt_of_le h2.2 (Nat.le_trans oxog.out h1.1))))
  have ox9 := hide ho9
  clear ho9 hg9
  have hk0 : ¬ (1 + 2 * (l.length : Int)) < 0 := by omega
  go_wp2_with fail
  refine (eq_pieces _ _ _ _ _ _ _ _ (og9.out.rs' (joinV_in64 l).1) (ow9.out.rs' (joinV_in64 l).1)).mono ?_
  rintro e w10 ⟨rfl, hb10⟩
  have B10 := hide (st_trans B9.out hb10)
  have ow10 := hide (ow9.out.below hb10)
  have ox10 := hide (ox9.out.below hb10)
  have og10 := hide (og9.out.below hb10)
  clear hb10
  go_wp2_with fail
  refine (mark_pieces _ _ _ 1 _ og10.out (Nat.le_trans (joinV_in64 l).2 (by decide)) (by decide) (by decide)).mono ?_
  rintro e w11 ⟨rfl, ho11, hg11⟩
  have B11 := hide (below_grown B10.out hg11 B10.out.size (fun k hk => Nat.le_trans B4.out.size (ogL.out k hk).1))
  have ow11 := hide (ow10.out.far hg11 (fun k hk e => by have h1 := owL.out k hk; have h2 := ogL.out k e; exact Nat.lt_irrefl _ (Nat.lt_of_lt_of_le h1.2 (Nat.le_trans owog.out h2.1))))
  have og11 := hide ho11
  clear ho11 hg11
  have hk1 : ¬ (1 + 2 * ((joinV l).length : Int)) < 0 := by omega
  go_wp2_with fail
  refine (held_pieces _ _ _ (joinV l).length 1 _ (og11.out.rs' (marks_in64 _ _ (by decide) (by decide) (Nat.le_trans (joinV_in64 l).2 (by decide)))) (Nat.le_trans (joinV_in64 l).2 (by decide)) (by decide) (by decide)).mono ?_
  rintro e w12 ⟨rfl, hb12⟩
  have B12 := hide (st_trans B11.out hb12)
  have ow12 := hide (ow11.out.below hb12)
  have og12 := hide (og11.out.below hb12)
  clear hb12
  go_wp2_with fail
  refine (to_pieces _ _ _ l _ (H.out.keep B12.out) hle).mono ?_
  rintro e w13 ⟨v13, rfl, ho13, hb13⟩
  obtain ⟨oza, ozc, rfl⟩ := ho13.shape'
  have oz13 := hide ho13
  have ozL := hide ho13.lt
  have B13 := hide (st_trans B12.out hb13)
  have ow13 := hide (ow12.out.below hb13)
  have og13 := hide (og12.out.below hb13)
  have ozS : Hid (w12.heap.size ≤ w13.heap.size) := hb13.size
  clear ho13 hb13
  go_wp2_with fail
  refine (join_impl _ _ _ l _ (oz13.out.rs' H.out.i64)).mono ?_
  rintro e w14 ⟨v14, rfl, ho14, hb14⟩
  obtain ⟨oha, ohc, rfl⟩ := ho14.shape'
  have oh14 := hide ho14
  have ohL := hide ho14.lt
  have B14 := hide (st_trans B13.out hb14)
  have ow14 := hide (ow13.out.below hb14)
  have og14 := hide (og13.out.below hb14)
  have oz14 := hide (oz13.out.below hb14)
  have ohS : Hid (w13.heap.size ≤ w14.heap.size) := hb14.size
  clear ho14 hb14
  go_wp2_with fail
  refine (eq_pieces _ _ _ _ _ _ _ _ (oh14.out.rs' (joinV_in64 l).1) (ow14.out.rs' (joinV_in64 l).1)).mono ?_
  rintro e w15 ⟨rfl, hb15⟩
  have B15 := hide (st_trans B14.out hb15)
  have ow15 := hide (ow14.out.below hb15)
  have og15 := hide (og14.out.below hb15)
  have oz15 := hide (oz14.out.below hb15)
  have oh15 := hide (oh14.out.below hb15)
  clear hb15
  go_wp2_with fail
  refine (held_pieces _ _ _ (joinV l).length 1 _ (og15.out.rs' (marks_in64 _ _ (by decide) (by decide) (Nat.le_trans (joinV_in64 l).2 (by decide)))) (Nat.le_trans (joinV_in64 l).2 (by decide)) (by decide) (by decide)).mono ?_
  rintro e w16 ⟨rfl, hb16⟩
  have B16 := hide (st_trans B15.out hb16)
  have ow16 := hide (ow15.out.below hb16)
  have og16 := hide (og15.out.below hb16)
  have oz16 := hide (oz15.out.below hb16)
  have oh16 := hide (oh15.out.below hb16)
  clear hb16
  go_wp2
  go_ret
  exact ⟨rfl, B16.out⟩

set_option maxHeartbeats 6400000 in
theorem walk_fnExactCoreBetween (ao : Option Addr) (len cap : Nat) (l : List (Int × Int)) (t : Int) (b : Int) (w : World) (h : Rs w ao len cap l) (_ : I64 t) (_ : I64 b) :
    Calls Try.prog 15 #[.slice ao len cap, .int .i64 t, .int .i64 b] w fun e w' => e = .returned (.bool true) ∧ Below w.heap.size w w' := by
  have hl := h.hlen
  subst hl
  have hc := h.hcap
  have hm := h.hmax
  unfold maxLen at hm
  have H := hide h
  clear h
  have B0 := hide (st_refl w)
  by_cases hle : l.length ≤ 1048576
  case neg =>
    go_enter Try.func15, Try.ntmps15
    go_wp2_with fail
    refine (size_over _ _ _ _ (by omega) (by omega)).mono ?_
    rintro e w1 ⟨rfl, hb1⟩
    go_wp2
    go_ret
    exact ⟨rfl, hb1⟩
  have hle2 : ¬ (1048576 - (l.length : Int)) < 0 := by omega
  go_enter Try.func15, Try.ntmps15
  go_wp2_with fail
  refine (size_any _ _ _ _ (by omega) hle).mono ?_
  rintro e w1 ⟨rfl, hb1⟩
  have B1 := hide (st_trans B0.out hb1)
  clear hb1
  go_wp2_with fail
  refine (to_pieces _ _ _ l _ (H.out.keep B1.out) hle).mono ?_
  rintro e w2 ⟨v2, rfl, ho2, hb2⟩
  obtain ⟨oaa, oac, rfl⟩ := ho2.shape'
  have oa2 := hide ho2
  have oaL := hide ho2.lt
  have B2 := hide (st_trans B1.out hb2)
  have oaS : Hid (w1.heap.size ≤ w2.heap.size) := hb2.size
  clear ho2 hb2
  go_wp2_with fail
  refine (between_spec _ _ _ l t b _ (oa2.out.rs' H.out.i64)).mono ?_
  rintro e w3 ⟨v3, rfl, ho3, hb3⟩
  obtain ⟨owa, owc, rfl⟩ := ho3.shape'
  have ow3 := hide ho3
  have owL := hide ho3.lt
  have B3 := hide (st_trans B2.out hb3)
  have oa3 := hide (oa2.out.below hb3)
  have owS : Hid (w2.heap.size ≤ w3.heap.size) := hb3.size
  clear ho3 hb3
  go_wp2_with fail
  refine (to_pieces _ _ _ l _ (H.out.keep B3.out) hle).mono ?_
  rintro e w4 ⟨v4, rfl, ho4, hb4⟩
  obtain ⟨oxa, oxc, rfl⟩ := ho4.shape'
  have ox4 := hide ho4
  have oxL := hide ho4.lt
  have B4 := hide (st_trans B3.out hb4)
  have oa4 := hide (oa3.out.below hb4)
  have ow4 := hide (ow3.out.below hb4)
  have oxS : Hid (w3.heap.size ≤ w4.heap.size) := hb4.size
  clear ho4 hb4
  go_wp2_with fail
  refine (between_impl _ _ _ l t b _ (ox4.out.rs' H.out.i64)).mono ?_
  rintro e w5 ⟨v5, rfl, ho5, hb5⟩
  obtain ⟨oga, ogc, rfl⟩ := ho5.shape'
  have og5 := hide ho5
  have ogL := hide ho5.lt
  have B5 := hide (st_trans B4.out hb5)
  have oa5 := hide (oa4.out.below hb5)
  have ow5 := hide (ow4.out.below hb5)
  have ox5 := hide (ox4.out.below hb5)
  have ogS : Hid (w4.heap.size ≤ w5.heap.size) := hb5.size
  clear ho5 hb5
  go_wp2_with fail
  refine (eq_pieces _ _ _ _ _ _ _ _ (og5.out.rs' (btwV_in64 t b l).1) (ow5.out.rs' (btwV_in64 t b l).1)).mono ?_
  rintro e w6 ⟨rfl, hb6⟩
  have B6 := hide (st_trans B5.out hb6)
  have oa6 := hide (oa5.out.below hb6)
  have ow6 := hide (ow5.out.below hb6)
  have ox6 := hide (ox5.out.below hb6)
  have og6 := hide (og5.out.below hb6)
  clear hb6
  go_wp2_with fail
  refine (to_pieces _ _ _ l _ (H.out.keep B6.out) hle).mono ?_
  rintro e w7 ⟨v7, rfl, ho7, hb7⟩
  obtain ⟨oba, obc, rfl⟩ := ho7.shape'
  have ob7 := hide ho7
  have obL := hide ho7.lt
  have B7 := hide (st_trans B6.out hb7)
  have oa7 := hide (oa6.out.below hb7)
  have ow7 := hide (ow6.out.below hb7)
  have ox7 := hide (ox6.out.below hb7)
  have og7 := hide (og6.out.below hb7)
  have obS : Hid (w6.heap.size ≤ w7.heap.size) := hb7.size
  clear ho7 hb7
  go_wp2_with fail
  refine (eq_pieces _ _ _ _ _ _ l _ (ox7.out.rs' H.out.i64) (ob7.out.rs' H.out.i64)).mono ?_
  rintro e w8 ⟨rfl, hb8⟩
  have B8 := hide (st_trans B7.out hb8)
  have oa8 := hide (oa7.out.below hb8)
  have ow8 := hide (ow7.out.below hb8)
  have ox8 := hide (ox7.out.below hb8)
  have og8 := hide (og7.out.below hb8)
  have ob8 := hide (ob7.out.below hb8)
  clear hb8
  have owox : Hid (w3.heap.size ≤ w3.heap.size) := Nat.le_refl _
  have oxog : Hid (w4.heap.size ≤ w4.heap.size) := Nat.le_refl _
  have owog : Hid (w3.heap.size ≤ w4.heap.size) := Nat.le_trans owox.out oxS.out
  go_wp2_with fail
  refine (mark_pieces _ _ _ 1 _ ox8.out hle (by decide) (by decide)).mono ?_
  rintro e w9 ⟨rfl, ho9, hg9⟩
  have B9 := hide (below_grown B8.out hg9 B8.out.size (fun k hk => Nat.le_trans B3.out.size (oxL.out k hk).1))
  have ow9 := hide (ow8.out.far hg9 (fun k hk e => by have h1 := owL.out k hk; have h2 := oxL.out k e; exact Nat.lt_irrefl _ (Nat.lt_of_lt_of_le h1.2 (Nat.le_trans owox.out h2.1))))
  have og9 := hide (og8.out.far hg9 (fun k hk e => by have h1 := ogL.out k hk; have h2 := oxL.out k e; exact Nat.lt_irrefl _ (Nat.lt_of_lt_of_le h2.2 (Nat.le_trans oxog.out h1.1))))
  have ox9 := hide ho9
  clear ho9 hg9
  have hk0 : ¬ (1 + 2 * (l.length : Int)) < 0 := by omega
  go_wp2_with fail
  refine (eq_pieces _ _ _ _ _ _ _ _ (og9.out.rs' (btwV_in64 t b l).1) (ow9.out.rs' (btwV_in64 t b l).1)).mono ?_
  rintro e w10 ⟨rfl, hb10⟩
  have B10 := hide (st_trans B9.out hb10)
  have ow10 := hide (ow9.out.below hb10)
  have ox10 := hide (ox9.out.below hb10)
  have og10 := hide (og9.out.below hb10)
  clear hb10
  go_wp2_with fail
  refine (mark_pieces _ _ _ 1 _ og10.out (Nat.le_trans (btwV_in64 t b l).2 (by decide)) (by decide) (by decide)).mono ?_
  rintro e w11 ⟨rfl, ho11, hg11⟩
  have B11 := hide (below_grown B10.out hg11 B10.out.size (fun k hk => Nat.le_trans B4.out.size (ogL.out k hk).1))
  have ow11 := hide (ow10.out.far hg11 (fun k hk e => by have h1 := owL.out k hk; have h2 := ogL.out k e; exact Nat.lt_irrefl _ (Nat.lt_of_lt_of_le h1.2 (Nat.le_trans owog.out h2.1))))
  have og11 := hide ho11
  clear ho11 hg11
  have hk1 : ¬ (1 + 2 * ((btwV t b l).length : Int)) < 0 := by omega
  go_wp2_with fail
  refine (held_pieces _ _ _ (btwV t b l).length 1 _ (og11.out.rs' (marks_in64 _ _ (by decide) (by decide) (Nat.le_trans (btwV_in64 t b l).2 (by decide)))) (Nat.le_trans (btwV_in64 t b l).2 (by decide)) (by decide) (by decide)).mono ?_
  rintro e w12 ⟨rfl, hb12⟩
  have B12 := hide (st_trans B11.out hb12)
  have ow12 := hide (ow11.out.below hb12)
  have og12 := hide (og11.out.below hb12)
  clear hb12
  go_wp2_with fail
  refine (to_pieces _ _ _ l _ (H.out.keep B12.out) hle).mono ?_
  rintro e w13 ⟨v13, rfl, ho13, hb13⟩
  obtain ⟨oza, ozc, rfl⟩ := ho13.shape'
  have oz13 := hide ho13
  have ozL := hide ho13.lt
  have B13 := hide (st_trans B12.out hb13)
  have ow13 := hide (ow12.out.below hb13)
  have og13 := hide (og12.out.below hb13)
  have ozS : Hid (w12.heap.size ≤ w13.heap.size) := hb13.size
  clear ho13 hb13
  go_wp2_with fail
  refine (between_impl _ _ _ l t b _ (oz13.out.rs' H.out.i64)).mono ?_
  rintro e w14 ⟨v14, rfl, ho14, hb14⟩
  obtain ⟨oha, ohc, rfl⟩ := ho14.shape'
  have oh14 := hide ho14
  have ohL := hide ho14.lt
  have B14 := hide (st_trans B13.out hb14)
  have ow14 := hide (ow13.out.below hb14)
  have og14 := hide (og13.out.below hb14)
  have oz14 := hide (oz13.out.below hb14)
  have ohS : Hid (w13.heap.size ≤ w14.heap.size) := hb14.size
  clear ho14 hb14
  go_wp2_with fail
  refine (eq_pieces _ _ _ _ _ _ _ _ (oh14.out.rs' (btwV_in64 t b l).1) (ow14.out.rs' (btwV_in64 t b l).1)).mono ?_
  rintro e w15 ⟨rfl, hb15⟩
  have B15 := hide (st_trans B14.out hb15)
  have ow15 := hide (ow14.out.below hb15)
  have og15 := hide (og14.out.below hb15)
  have oz15 := hide (oz14.out.below hb15)
  have oh15 := hide (oh14.out.below hb15)
  clear hb15
  go_wp2_with fail
  refine (held_pieces _ _ _ (btwV t b l).length 1 _ (og15.out.rs' (marks_in64 _ _ (by decide) (by decide) (Nat.le_trans (btwV_in64 t b l).2 (by decide)))) (Nat.le_trans (btwV_in64 t b l).2 (by decide)) (by decide) (by decide)).mono ?_
  rintro e w16 ⟨rfl, hb16⟩
  have B16 := hide (st_trans B15.out hb16)
  have ow16 := hide (ow15.out.below hb16)
  have og16 := hide (og15.out.below hb16)
  have oz16 := hide (oz15.out.below hb16)
  have oh16 := hide (oh15.out.below hb16)
  clear hb16
  go_wp2
  go_ret
  exact ⟨rfl, B16.out⟩

end Go.Proofs.Ytbfcfhngfenpjaa
