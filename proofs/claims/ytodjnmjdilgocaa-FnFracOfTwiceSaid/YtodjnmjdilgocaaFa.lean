/-
  The contracts of FracAdd, FracSub, FracMul, FracDiv, of the program and of the reference: each computes the plain function of XFp.
  Conditions: int64.
-/
import Derived.Test.YtodjnmjdilgocaaFs
namespace Go.Proofs.Ytodjnmjdilgocaa
open Go.RowKit Fr

def I64 (n : Int) : Prop := -9223372036854775808 ≤ n ∧ n ≤ 9223372036854775807

/-- two fractions and a result lie in three blocks from B on -/
def F3 (B : Nat) (an ad bn bd : Int) (w1 : World) : Prop :=
  (w1.cell? ⟨B, 0, none⟩ = some (.int .i64 an) ∧ w1.cell? ⟨B, 1, none⟩ = some (.int .i64 ad) ∧ w1.cell? ⟨B + 1, 0, none⟩ = some (.int .i64 bn) ∧ w1.cell? ⟨B + 1, 1, none⟩ = some (.int .i64 bd)) ∧
  (w1.cell? ⟨B + 1 + 1, 0, none⟩ = some (.int .i64 0) ∧ w1.cell? ⟨B + 1 + 1, 1, none⟩ = some (.int .i64 0) ∧ w1.frozen? ⟨B + 1 + 1, 0, none⟩ = false ∧ w1.frozen? ⟨B + 1 + 1, 1, none⟩ = false) ∧
  (B < w1.heap.size ∧ B + 1 < w1.heap.size ∧ B + 1 + 1 < w1.heap.size)
theorem F3.keep {B : Nat} {an ad bn bd : Int} {w1 w2 : World} (h : F3 B an ad bn bd w1) (hb : Below w1.heap.size w1 w2) : F3 B an ad bn bd w2 := by
  obtain ⟨⟨a1, a2, a3, a4⟩, ⟨a5, a6, a7, a8⟩, a9, a10, a11⟩ := h
  have := hb.size
  exact ⟨⟨keepc hb a1, keepc hb a2, keepc hb a3, keepc hb a4⟩, ⟨keepc hb a5, keepc hb a6, keepf hb a5 a7, keepf hb a6 a8⟩, by omega, by omega, by omega⟩
theorem F3.start (w : World) (an ad bn bd : Int) (T : TypeId) : F3 w.heap.size an ad bn bd (((w.alloc (.cells #[.int .i64 an, .int .i64 ad] T)).alloc (.cells #[.int .i64 bn, .int .i64 bd] T)).alloc (.cells #[.int .i64 0, .int .i64 0] T)) := by
  refine ⟨⟨?_, ?_, ?_, ?_⟩, ⟨?_, ?_, ?_, ?_⟩, ?_, ?_, ?_⟩
  all_goals first | (go_simp; done) | (simp; omega)

theorem add_yes {an ad bn bd : Int} (ha : okB an ad = true) (hb : okB bn bd = true) : addOk an ad bn bd = ofOk (an * bd + bn * ad) (ad * bd) ∧ addN an ad bn bd = ofN (an * bd + bn * ad) (ad * bd) ∧ addD an ad bn bd = ofD (an * bd + bn * ad) (ad * bd) := by
  have e : addOk an ad bn bd = ofOk (an * bd + bn * ad) (ad * bd) := by unfold addOk; rw [ha, hb]; rfl
  unfold addN addD
  rw [e]
  cases h : ofOk (an * bd + bn * ad) (ad * bd)
  · obtain ⟨e1, e2⟩ := of_no h; rw [e1, e2]; exact ⟨rfl, rfl, rfl⟩
  · exact ⟨rfl, rfl, rfl⟩
theorem add_no {an ad bn bd : Int} (h : okB an ad = false ∨ okB bn bd = false) : addOk an ad bn bd = false ∧ addN an ad bn bd = 0 ∧ addD an ad bn bd = 0 := by
  have e : addOk an ad bn bd = false := by
    unfold addOk
    rcases h with h | h
    · rw [h]; rfl
    · rw [h, Bool.and_false]; rfl
  unfold addN addD
  rw [e]
  exact ⟨rfl, rfl, rfl⟩

theorem sub_yes {an ad bn bd : Int} (ha : okB an ad = true) (hb : okB bn bd = true) : subOk an ad bn bd = ofOk (an * bd - bn * ad) (ad * bd) ∧ subN an ad bn bd = ofN (an * bd - bn * ad) (ad * bd) ∧ subD an ad bn bd = ofD (an * bd - bn * ad) (ad * bd) := by
  have e : subOk an ad bn bd = ofOk (an * bd - bn * ad) (ad * bd) := by unfold subOk; rw [ha, hb]; rfl
  unfold subN subD
  rw [e]
  cases h : ofOk (an * bd - bn * ad) (ad * bd)
  · obtain ⟨e1, e2⟩ := of_no h; rw [e1, e2]; exact ⟨rfl, rfl, rfl⟩
  · exact ⟨rfl, rfl, rfl⟩
theorem sub_no {an ad bn bd : Int} (h : okB an ad = false ∨ okB bn bd = false) : subOk an ad bn bd = false ∧ subN an ad bn bd = 0 ∧ subD an ad bn bd = 0 := by
  have e : subOk an ad bn bd = false := by
    unfold subOk
    rcases h with h | h
    · rw [h]; rfl
    · rw [h, Bool.and_false]; rfl
  unfold subN subD
  rw [e]
  exact ⟨rfl, rfl, rfl⟩

theorem mul_yes {an ad bn bd : Int} (ha : okB an ad = true) (hb : okB bn bd = true) : mulOk an ad bn bd = ofOk (an * bn) (ad * bd) ∧ mulN an ad bn bd = ofN (an * bn) (ad * bd) ∧ mulD an ad bn bd = ofD (an * bn) (ad * bd) := by
  have e : mulOk an ad bn bd = ofOk (an * bn) (ad * bd) := by unfold mulOk; rw [ha, hb]; rfl
  unfold mulN mulD
  rw [e]
  cases h : ofOk (an * bn) (ad * bd)
  · obtain ⟨e1, e2⟩ := of_no h; rw [e1, e2]; exact ⟨rfl, rfl, rfl⟩
  · exact ⟨rfl, rfl, rfl⟩
theorem mul_no {an ad bn bd : Int} (h : okB an ad = false ∨ okB bn bd = false) : mulOk an ad bn bd = false ∧ mulN an ad bn bd = 0 ∧ mulD an ad bn bd = 0 := by
  have e : mulOk an ad bn bd = false := by
    unfold mulOk
    rcases h with h | h
    · rw [h]; rfl
    · rw [h, Bool.and_false]; rfl
  unfold mulN mulD
  rw [e]
  exact ⟨rfl, rfl, rfl⟩

theorem div_yes {an ad bn bd : Int} (ha : okB an ad = true) (hb : okB bn bd = true) : divOk an ad bn bd = ofOk (an * bd) (ad * bn) ∧ divN an ad bn bd = ofN (an * bd) (ad * bn) ∧ divD an ad bn bd = ofD (an * bd) (ad * bn) := by
  have e : divOk an ad bn bd = ofOk (an * bd) (ad * bn) := by unfold divOk; rw [ha, hb]; rfl
  unfold divN divD
  rw [e]
  cases h : ofOk (an * bd) (ad * bn)
  · obtain ⟨e1, e2⟩ := of_no h; rw [e1, e2]; exact ⟨rfl, rfl, rfl⟩
  · exact ⟨rfl, rfl, rfl⟩
theorem div_no {an ad bn bd : Int} (h : okB an ad = false ∨ okB bn bd = false) : divOk an ad bn bd = false ∧ divN an ad bn bd = 0 ∧ divD an ad bn bd = 0 := by
  have e : divOk an ad bn bd = false := by
    unfold divOk
    rcases h with h | h
    · rw [h]; rfl
    · rw [h, Bool.and_false]; rfl
  unfold divN divD
  rw [e]
  exact ⟨rfl, rfl, rfl⟩

theorem div_zero {an ad bd : Int} : divOk an ad 0 bd = false ∧ divN an ad 0 bd = 0 ∧ divD an ad 0 bd = 0 := by
  have e : divOk an ad 0 bd = false := by
    unfold divOk ofOk
    rw [Int.mul_zero, decide_eq_false (by simp), Bool.false_and, Bool.and_false]
  unfold divN divD
  rw [e]
  exact ⟨rfl, rfl, rfl⟩

set_option maxHeartbeats 1000000 in
/-- l2Two -/
theorem two_spec (an ad bn bd : Int) (w : World) (h1 : I64 an) (h2 : I64 ad) (h3 : I64 bn) (h4 : I64 bd) :
    Calls Try.prog 40 #[.agg #[.int .i64 an, .int .i64 ad], .agg #[.int .i64 bn, .int .i64 bd]] w fun e w' => e = .returned (.bool (okB an ad && okB bn bd)) ∧ Below w.heap.size w w' := by
  obtain ⟨h1, h1'⟩ := h1; obtain ⟨h2, h2'⟩ := h2; obtain ⟨h3, h3'⟩ := h3; obtain ⟨h4, h4'⟩ := h4
  cases ha : okB an ad
  · go_enter Try.func40, Try.ntmps40
    go_wp2_with fail
    refine (fv_spec _ _ _ (by omega) (by omega) (by omega) (by omega)).mono ?_
    rintro e w1 ⟨rfl, hb1⟩
    go_wp2
    go_ret
    exact ⟨ret_bool rfl, st_trans (st_alloc (st_alloc (st_refl _) _) _) hb1⟩
  · go_enter Try.func40, Try.ntmps40
    go_wp2_with fail
    refine (fv_spec _ _ _ (by omega) (by omega) (by omega) (by omega)).mono ?_
    rintro e w1 ⟨rfl, hb1⟩
    have c2 : w1.cell? ⟨w.heap.size + 1, 0, none⟩ = some (.int .i64 bn) := keepc hb1 (by go_simp)
    have c3 : w1.cell? ⟨w.heap.size + 1, 1, none⟩ = some (.int .i64 bd) := keepc hb1 (by go_simp)
    go_wp2_with fail
    refine (fv_spec _ _ _ (by omega) (by omega) (by omega) (by omega)).mono ?_
    rintro e w2 ⟨rfl, hb2⟩
    go_wp2
    go_ret
    exact ⟨ret_bool rfl, st_trans (st_trans (st_alloc (st_alloc (st_refl _) _) _) hb1) hb2⟩

set_option maxHeartbeats 2000000 in
theorem add_impl (an ad bn bd : Int) (w : World) (h1 : I64 an) (h2 : I64 ad) (h3 : I64 bn) (h4 : I64 bd) :
    Calls Try.prog 26 #[.agg #[.int .i64 an, .int .i64 ad], .agg #[.int .i64 bn, .int .i64 bd]] w fun e w' => e = .returned (.tuple #[.agg #[.int .i64 (addN an ad bn bd), .int .i64 (addD an ad bn bd)], .bool (addOk an ad bn bd)]) ∧ Below w.heap.size w w' := by
  have hh1 := h1; have hh2 := h2; have hh3 := h3; have hh4 := h4
  obtain ⟨h1, h1'⟩ := h1; obtain ⟨h2, h2'⟩ := h2; obtain ⟨h3, h3'⟩ := h3; obtain ⟨h4, h4'⟩ := h4
  have FS := hide (F3.start w an ad bn bd 25)
  cases ha : okB an ad
  · have O := hide (add_no (bn := bn) (bd := bd) (.inl ha))
    go_enter Try.func26, Try.ntmps26
    go_wp2_with fail
    refine (fv_impl _ _ _ (by omega) (by omega) (by omega) (by omega)).mono ?_
    rintro e w1 ⟨rfl, hb1⟩
    have F1 := hide (FS.out.keep hb1)
    obtain ⟨⟨c0, c1, c2, c3⟩, ⟨c4, c5, f4, f5⟩, s0, s1, s2⟩ := (F1.out)
    go_wp2
    refine bodyPost_ret (v := .tuple #[.agg #[.int .i64 (0), .int .i64 (0)], .bool (false)]) (by simp [results, Try.results26, go_sem, c4, c5]) rfl ⟨ret_frac O.out.2.1 O.out.2.2 O.out.1, ?_⟩
    exact st_set (st_set (st_trans (st_alloc (st_alloc (st_alloc (st_refl _) _) _) _) hb1) (by simp; omega) _) (by simp; omega) _
  · cases hb : okB bn bd
    · have O := hide (add_no (an := an) (ad := ad) (.inr hb))
      go_enter Try.func26, Try.ntmps26
      go_wp2_with fail
      refine (fv_impl _ _ _ (by omega) (by omega) (by omega) (by omega)).mono ?_
      rintro e w1 ⟨rfl, hb1⟩
      have F1 := hide (FS.out.keep hb1)
      obtain ⟨⟨c0, c1, c2, c3⟩, ⟨c4, c5, f4, f5⟩, s0, s1, s2⟩ := (F1.out)
      go_wp2_with fail
      refine (fv_impl _ _ _ (by omega) (by omega) (by omega) (by omega)).mono ?_
      rintro e w2 ⟨rfl, hb2⟩
      have F2 := hide (F1.out.keep hb2)
      clear c0 c1 c2 c3 c4 c5 f4 f5 s0 s1 s2
      obtain ⟨⟨c0, c1, c2, c3⟩, ⟨c4, c5, f4, f5⟩, s0, s1, s2⟩ := (F2.out)
      go_wp2
      refine bodyPost_ret (v := .tuple #[.agg #[.int .i64 (0), .int .i64 (0)], .bool (false)]) (by simp [results, Try.results26, go_sem, c4, c5]) rfl ⟨ret_frac O.out.2.1 O.out.2.2 O.out.1, ?_⟩
      exact st_set (st_set (st_trans (st_trans (st_alloc (st_alloc (st_alloc (st_refl _) _) _) _) hb1) hb2) (by simp; omega) _) (by simp; omega) _
    · have O := hide (add_yes ha hb)
      have hao := okB_iff.1 ha
      have hbo := okB_iff.1 hb
      have a9 := hao.b9; have b9 := hbo.b9
      have m1 := mul_9 a9.1 a9.2.1 b9.2.2.1 b9.2.2.2
      have m2 := mul_9 b9.1 b9.2.1 a9.2.2.1 a9.2.2.2
      have m3 := mul_9 a9.2.2.1 a9.2.2.2 b9.2.2.1 b9.2.2.2
      have m4 := mul_9 a9.1 a9.2.1 b9.1 b9.2.1
      have m5 := mul_9 a9.2.2.1 a9.2.2.2 b9.1 b9.2.1
      clear hao hbo
      go_enter Try.func26, Try.ntmps26
      go_wp2_with fail
      refine (fv_impl _ _ _ (by omega) (by omega) (by omega) (by omega)).mono ?_
      rintro e w1 ⟨rfl, hb1⟩
      have F1 := hide (FS.out.keep hb1)
      obtain ⟨⟨c0, c1, c2, c3⟩, ⟨c4, c5, f4, f5⟩, s0, s1, s2⟩ := (F1.out)
      go_wp2_with fail
      refine (fv_impl _ _ _ (by omega) (by omega) (by omega) (by omega)).mono ?_
      rintro e w2 ⟨rfl, hb2⟩
      have F2 := hide (F1.out.keep hb2)
      clear c0 c1 c2 c3 c4 c5 f4 f5 s0 s1 s2
      obtain ⟨⟨c0, c1, c2, c3⟩, ⟨c4, c5, f4, f5⟩, s0, s1, s2⟩ := (F2.out)
      go_wp2_with fail
      refine (of_impl _ _ _ (by omega) (by omega) (by omega) (by omega)).mono ?_
      rintro e w3 ⟨rfl, hb3⟩
      have F3' := hide (F2.out.keep hb3)
      clear c0 c1 c2 c3 c4 c5 f4 f5 s0 s1 s2
      obtain ⟨⟨c0, c1, c2, c3⟩, ⟨c4, c5, f4, f5⟩, s0, s1, s2⟩ := (F3'.out)
      go_wp2
      refine bodyPost_ret (v := .tuple #[.agg #[.int .i64 (ofN (an * bd + bn * ad) (ad * bd)), .int .i64 (ofD (an * bd + bn * ad) (ad * bd))], .bool (ofOk (an * bd + bn * ad) (ad * bd))]) (by simp [results, Try.results26, go_sem, c4, c5]) rfl ⟨ret_frac O.out.2.1 O.out.2.2 O.out.1, ?_⟩
      exact st_set (st_set (st_trans (st_trans (st_trans (st_alloc (st_alloc (st_alloc (st_refl _) _) _) _) hb1) hb2) hb3) (by simp; omega) _) (by simp; omega) _

set_option maxHeartbeats 2000000 in
theorem add_spec (an ad bn bd : Int) (w : World) (h1 : I64 an) (h2 : I64 ad) (h3 : I64 bn) (h4 : I64 bd) :
    Calls Try.prog 25 #[.agg #[.int .i64 an, .int .i64 ad], .agg #[.int .i64 bn, .int .i64 bd]] w fun e w' => e = .returned (.tuple #[.agg #[.int .i64 (addN an ad bn bd), .int .i64 (addD an ad bn bd)], .bool (addOk an ad bn bd)]) ∧ Below w.heap.size w w' := by
  have hh1 := h1; have hh2 := h2; have hh3 := h3; have hh4 := h4
  obtain ⟨h1, h1'⟩ := h1; obtain ⟨h2, h2'⟩ := h2; obtain ⟨h3, h3'⟩ := h3; obtain ⟨h4, h4'⟩ := h4
  have FS := hide (F3.start w an ad bn bd 25)
  cases ha : okB an ad
  · have O := hide (add_no (bn := bn) (bd := bd) (.inl ha))
    go_enter Try.func25, Try.ntmps25
    go_wp2_with fail
    refine (two_spec _ _ _ _ _ hh1 hh2 hh3 hh4).mono ?_
    rintro e w1 ⟨rfl, hb1⟩
    have F1 := hide (FS.out.keep hb1)
    obtain ⟨⟨c0, c1, c2, c3⟩, ⟨c4, c5, f4, f5⟩, s0, s1, s2⟩ := (F1.out)
    go_wp2
    refine bodyPost_ret (v := .tuple #[.agg #[.int .i64 (0), .int .i64 (0)], .bool (false)]) (by simp [results, Try.results25, go_sem, c4, c5]) rfl ⟨ret_frac O.out.2.1 O.out.2.2 O.out.1, ?_⟩
    exact st_set (st_set (st_trans (st_alloc (st_alloc (st_alloc (st_refl _) _) _) _) hb1) (by simp; omega) _) (by simp; omega) _
  · cases hb : okB bn bd
    · have O := hide (add_no (an := an) (ad := ad) (.inr hb))
      go_enter Try.func25, Try.ntmps25
      go_wp2_with fail
      refine (two_spec _ _ _ _ _ hh1 hh2 hh3 hh4).mono ?_
      rintro e w1 ⟨rfl, hb1⟩
      have F1 := hide (FS.out.keep hb1)
      obtain ⟨⟨c0, c1, c2, c3⟩, ⟨c4, c5, f4, f5⟩, s0, s1, s2⟩ := (F1.out)
      go_wp2
      refine bodyPost_ret (v := .tuple #[.agg #[.int .i64 (0), .int .i64 (0)], .bool (false)]) (by simp [results, Try.results25, go_sem, c4, c5]) rfl ⟨ret_frac O.out.2.1 O.out.2.2 O.out.1, ?_⟩
      exact st_set (st_set (st_trans (st_alloc (st_alloc (st_alloc (st_refl _) _) _) _) hb1) (by simp; omega) _) (by simp; omega) _
    · have O := hide (add_yes ha hb)
      have hao := okB_iff.1 ha
      have hbo := okB_iff.1 hb
      have a9 := hao.b9; have b9 := hbo.b9
      have m1 := mul_9 a9.1 a9.2.1 b9.2.2.1 b9.2.2.2
      have m2 := mul_9 b9.1 b9.2.1 a9.2.2.1 a9.2.2.2
      have m3 := mul_9 a9.2.2.1 a9.2.2.2 b9.2.2.1 b9.2.2.2
      have m4 := mul_9 a9.1 a9.2.1 b9.1 b9.2.1
      have m5 := mul_9 a9.2.2.1 a9.2.2.2 b9.1 b9.2.1
      clear hao hbo
      go_enter Try.func25, Try.ntmps25
      go_wp2_with fail
      refine (two_spec _ _ _ _ _ hh1 hh2 hh3 hh4).mono ?_
      rintro e w1 ⟨rfl, hb1⟩
      have F1 := hide (FS.out.keep hb1)
      obtain ⟨⟨c0, c1, c2, c3⟩, ⟨c4, c5, f4, f5⟩, s0, s1, s2⟩ := (F1.out)
      have F2 := F1
      go_wp2_with fail
      refine (of_spec _ _ _ (by omega) (by omega) (by omega) (by omega)).mono ?_
      rintro e w3 ⟨rfl, hb3⟩
      have F3' := hide (F2.out.keep hb3)
      clear c0 c1 c2 c3 c4 c5 f4 f5 s0 s1 s2
      obtain ⟨⟨c0, c1, c2, c3⟩, ⟨c4, c5, f4, f5⟩, s0, s1, s2⟩ := (F3'.out)
      go_wp2
      refine bodyPost_ret (v := .tuple #[.agg #[.int .i64 (ofN (an * bd + bn * ad) (ad * bd)), .int .i64 (ofD (an * bd + bn * ad) (ad * bd))], .bool (ofOk (an * bd + bn * ad) (ad * bd))]) (by simp [results, Try.results25, go_sem, c4, c5]) rfl ⟨ret_frac O.out.2.1 O.out.2.2 O.out.1, ?_⟩
      exact st_set (st_set (st_trans (st_trans (st_alloc (st_alloc (st_alloc (st_refl _) _) _) _) hb1) hb3) (by simp; omega) _) (by simp; omega) _

set_option maxHeartbeats 2000000 in
theorem sub_impl (an ad bn bd : Int) (w : World) (h1 : I64 an) (h2 : I64 ad) (h3 : I64 bn) (h4 : I64 bd) :
    Calls Try.prog 32 #[.agg #[.int .i64 an, .int .i64 ad], .agg #[.int .i64 bn, .int .i64 bd]] w fun e w' => e = .returned (.tuple #[.agg #[.int .i64 (subN an ad bn bd), .int .i64 (subD an ad bn bd)], .bool (subOk an ad bn bd)]) ∧ Below w.heap.size w w' := by
  have hh1 := h1; have hh2 := h2; have hh3 := h3; have hh4 := h4
  obtain ⟨h1, h1'⟩ := h1; obtain ⟨h2, h2'⟩ := h2; obtain ⟨h3, h3'⟩ := h3; obtain ⟨h4, h4'⟩ := h4
  have FS := hide (F3.start w an ad bn bd 25)
  cases ha : okB an ad
  · have O := hide (sub_no (bn := bn) (bd := bd) (.inl ha))
    go_enter Try.func32, Try.ntmps32
    go_wp2_with fail
    refine (fv_impl _ _ _ (by omega) (by omega) (by omega) (by omega)).mono ?_
    rintro e w1 ⟨rfl, hb1⟩
    have F1 := hide (FS.out.keep hb1)
    obtain ⟨⟨c0, c1, c2, c3⟩, ⟨c4, c5, f4, f5⟩, s0, s1, s2⟩ := (F1.out)
    go_wp2
    refine bodyPost_ret (v := .tuple #[.agg #[.int .i64 (0), .int .i64 (0)], .bool (false)]) (by simp [results, Try.results32, go_sem, c4, c5]) rfl ⟨ret_frac O.out.2.1 O.out.2.2 O.out.1, ?_⟩
    exact st_set (st_set (st_trans (st_alloc (st_alloc (st_alloc (st_refl _) _) _) _) hb1) (by simp; omega) _) (by simp; omega) _
  · cases hb : okB bn bd
    · have O := hide (sub_no (an := an) (ad := ad) (.inr hb))
      go_enter Try.func32, Try.ntmps32
      go_wp2_with fail
      refine (fv_impl _ _ _ (by omega) (by omega) (by omega) (by omega)).mono ?_
      rintro e w1 ⟨rfl, hb1⟩
      have F1 := hide (FS.out.keep hb1)
      obtain ⟨⟨c0, c1, c2, c3⟩, ⟨c4, c5, f4, f5⟩, s0, s1, s2⟩ := (F1.out)
      go_wp2_with fail
      refine (fv_impl _ _ _ (by omega) (by omega) (by omega) (by omega)).mono ?_
      rintro e w2 ⟨rfl, hb2⟩
      have F2 := hide (F1.out.keep hb2)
      clear c0 c1 c2 c3 c4 c5 f4 f5 s0 s1 s2
      obtain ⟨⟨c0, c1, c2, c3⟩, ⟨c4, c5, f4, f5⟩, s0, s1, s2⟩ := (F2.out)
      go_wp2
      refine bodyPost_ret (v := .tuple #[.agg #[.int .i64 (0), .int .i64 (0)], .bool (false)]) (by simp [results, Try.results32, go_sem, c4, c5]) rfl ⟨ret_frac O.out.2.1 O.out.2.2 O.out.1, ?_⟩
      exact st_set (st_set (st_trans (st_trans (st_alloc (st_alloc (st_alloc (st_refl _) _) _) _) hb1) hb2) (by simp; omega) _) (by simp; omega) _
    · have O := hide (sub_yes ha hb)
      have hao := okB_iff.1 ha
      have hbo := okB_iff.1 hb
      have a9 := hao.b9; have b9 := hbo.b9
      have m1 := mul_9 a9.1 a9.2.1 b9.2.2.1 b9.2.2.2
      have m2 := mul_9 b9.1 b9.2.1 a9.2.2.1 a9.2.2.2
      have m3 := mul_9 a9.2.2.1 a9.2.2.2 b9.2.2.1 b9.2.2.2
      have m4 := mul_9 a9.1 a9.2.1 b9.1 b9.2.1
      have m5 := mul_9 a9.2.2.1 a9.2.2.2 b9.1 b9.2.1
      clear hao hbo
      go_enter Try.func32, Try.ntmps32
      go_wp2_with fail
      refine (fv_impl _ _ _ (by omega) (by omega) (by omega) (by omega)).mono ?_
      rintro e w1 ⟨rfl, hb1⟩
      have F1 := hide (FS.out.keep hb1)
      obtain ⟨⟨c0, c1, c2, c3⟩, ⟨c4, c5, f4, f5⟩, s0, s1, s2⟩ := (F1.out)
      go_wp2_with fail
      refine (fv_impl _ _ _ (by omega) (by omega) (by omega) (by omega)).mono ?_
      rintro e w2 ⟨rfl, hb2⟩
      have F2 := hide (F1.out.keep hb2)
      clear c0 c1 c2 c3 c4 c5 f4 f5 s0 s1 s2
      obtain ⟨⟨c0, c1, c2, c3⟩, ⟨c4, c5, f4, f5⟩, s0, s1, s2⟩ := (F2.out)
      go_wp2_with fail
      refine (of_impl _ _ _ (by omega) (by omega) (by omega) (by omega)).mono ?_
      rintro e w3 ⟨rfl, hb3⟩
      have F3' := hide (F2.out.keep hb3)
      clear c0 c1 c2 c3 c4 c5 f4 f5 s0 s1 s2
      obtain ⟨⟨c0, c1, c2, c3⟩, ⟨c4, c5, f4, f5⟩, s0, s1, s2⟩ := (F3'.out)
      go_wp2
      refine bodyPost_ret (v := .tuple #[.agg #[.int .i64 (ofN (an * bd - bn * ad) (ad * bd)), .int .i64 (ofD (an * bd - bn * ad) (ad * bd))], .bool (ofOk (an * bd - bn * ad) (ad * bd))]) (by simp [results, Try.results32, go_sem, c4, c5]) rfl ⟨ret_frac O.out.2.1 O.out.2.2 O.out.1, ?_⟩
      exact st_set (st_set (st_trans (st_trans (st_trans (st_alloc (st_alloc (st_alloc (st_refl _) _) _) _) hb1) hb2) hb3) (by simp; omega) _) (by simp; omega) _

set_option maxHeartbeats 2000000 in
theorem sub_spec (an ad bn bd : Int) (w : World) (h1 : I64 an) (h2 : I64 ad) (h3 : I64 bn) (h4 : I64 bd) :
    Calls Try.prog 31 #[.agg #[.int .i64 an, .int .i64 ad], .agg #[.int .i64 bn, .int .i64 bd]] w fun e w' => e = .returned (.tuple #[.agg #[.int .i64 (subN an ad bn bd), .int .i64 (subD an ad bn bd)], .bool (subOk an ad bn bd)]) ∧ Below w.heap.size w w' := by
  have hh1 := h1; have hh2 := h2; have hh3 := h3; have hh4 := h4
  obtain ⟨h1, h1'⟩ := h1; obtain ⟨h2, h2'⟩ := h2; obtain ⟨h3, h3'⟩ := h3; obtain ⟨h4, h4'⟩ := h4
  have FS := hide (F3.start w an ad bn bd 25)
  cases ha : okB an ad
  · have O := hide (sub_no (bn := bn) (bd := bd) (.inl ha))
    go_enter Try.func31, Try.ntmps31
    go_wp2_with fail
    refine (two_spec _ _ _ _ _ hh1 hh2 hh3 hh4).mono ?_
    rintro e w1 ⟨rfl, hb1⟩
    have F1 := hide (FS.out.keep hb1)
    obtain ⟨⟨c0, c1, c2, c3⟩, ⟨c4, c5, f4, f5⟩, s0, s1, s2⟩ := (F1.out)
    go_wp2
    refine bodyPost_ret (v := .tuple #[.agg #[.int .i64 (0), .int .i64 (0)], .bool (false)]) (by simp [results, Try.results31, go_sem, c4, c5]) rfl ⟨ret_frac O.out.2.1 O.out.2.2 O.out.1, ?_⟩
    exact st_set (st_set (st_trans (st_alloc (st_alloc (st_alloc (st_refl _) _) _) _) hb1) (by simp; omega) _) (by simp; omega) _
  · cases hb : okB bn bd
    · have O := hide (sub_no (an := an) (ad := ad) (.inr hb))
      go_enter Try.func31, Try.ntmps31
      go_wp2_with fail
      refine (two_spec _ _ _ _ _ hh1 hh2 hh3 hh4).mono ?_
      rintro e w1 ⟨rfl, hb1⟩
      have F1 := hide (FS.out.keep hb1)
      obtain ⟨⟨c0, c1, c2, c3⟩, ⟨c4, c5, f4, f5⟩, s0, s1, s2⟩ := (F1.out)
      go_wp2
      refine bodyPost_ret (v := .tuple #[.agg #[.int .i64 (0), .int .i64 (0)], .bool (false)]) (by simp [results, Try.results31, go_sem, c4, c5]) rfl ⟨ret_frac O.out.2.1 O.out.2.2 O.out.1, ?_⟩
      exact st_set (st_set (st_trans (st_alloc (st_alloc (st_alloc (st_refl _) _) _) _) hb1) (by simp; omega) _) (by simp; omega) _
    · have O := hide (sub_yes ha hb)
      have hao := okB_iff.1 ha
      have hbo := okB_iff.1 hb
      have a9 := hao.b9; have b9 := hbo.b9
      have m1 := mul_9 a9.1 a9.2.1 b9.2.2.1 b9.2.2.2
      have m2 := mul_9 b9.1 b9.2.1 a9.2.2.1 a9.2.2.2
      have m3 := mul_9 a9.2.2.1 a9.2.2.2 b9.2.2.1 b9.2.2.2
      have m4 := mul_9 a9.1 a9.2.1 b9.1 b9.2.1
      have m5 := mul_9 a9.2.2.1 a9.2.2.2 b9.1 b9.2.1
      clear hao hbo
      go_enter Try.func31, Try.ntmps31
      go_wp2_with fail
      refine (two_spec _ _ _ _ _ hh1 hh2 hh3 hh4).mono ?_
      rintro e w1 ⟨rfl, hb1⟩
      have F1 := hide (FS.out.keep hb1)
      obtain ⟨⟨c0, c1, c2, c3⟩, ⟨c4, c5, f4, f5⟩, s0, s1, s2⟩ := (F1.out)
      have F2 := F1
      go_wp2_with fail
      refine (of_spec _ _ _ (by omega) (by omega) (by omega) (by omega)).mono ?_
      rintro e w3 ⟨rfl, hb3⟩
      have F3' := hide (F2.out.keep hb3)
      clear c0 c1 c2 c3 c4 c5 f4 f5 s0 s1 s2
      obtain ⟨⟨c0, c1, c2, c3⟩, ⟨c4, c5, f4, f5⟩, s0, s1, s2⟩ := (F3'.out)
      go_wp2
      refine bodyPost_ret (v := .tuple #[.agg #[.int .i64 (ofN (an * bd - bn * ad) (ad * bd)), .int .i64 (ofD (an * bd - bn * ad) (ad * bd))], .bool (ofOk (an * bd - bn * ad) (ad * bd))]) (by simp [results, Try.results31, go_sem, c4, c5]) rfl ⟨ret_frac O.out.2.1 O.out.2.2 O.out.1, ?_⟩
      exact st_set (st_set (st_trans (st_trans (st_alloc (st_alloc (st_alloc (st_refl _) _) _) _) hb1) hb3) (by simp; omega) _) (by simp; omega) _

set_option maxHeartbeats 2000000 in
theorem mul_impl (an ad bn bd : Int) (w : World) (h1 : I64 an) (h2 : I64 ad) (h3 : I64 bn) (h4 : I64 bd) :
    Calls Try.prog 30 #[.agg #[.int .i64 an, .int .i64 ad], .agg #[.int .i64 bn, .int .i64 bd]] w fun e w' => e = .returned (.tuple #[.agg #[.int .i64 (mulN an ad bn bd), .int .i64 (mulD an ad bn bd)], .bool (mulOk an ad bn bd)]) ∧ Below w.heap.size w w' := by
  have hh1 := h1; have hh2 := h2; have hh3 := h3; have hh4 := h4
  obtain ⟨h1, h1'⟩ := h1; obtain ⟨h2, h2'⟩ := h2; obtain ⟨h3, h3'⟩ := h3; obtain ⟨h4, h4'⟩ := h4
  have FS := hide (F3.start w an ad bn bd 25)
  cases ha : okB an ad
  · have O := hide (mul_no (bn := bn) (bd := bd) (.inl ha))
    go_enter Try.func30, Try.ntmps30
    go_wp2_with fail
    refine (fv_impl _ _ _ (by omega) (by omega) (by omega) (by omega)).mono ?_
    rintro e w1 ⟨rfl, hb1⟩
    have F1 := hide (FS.out.keep hb1)
    obtain ⟨⟨c0, c1, c2, c3⟩, ⟨c4, c5, f4, f5⟩, s0, s1, s2⟩ := (F1.out)
    go_wp2
    refine bodyPost_ret (v := .tuple #[.agg #[.int .i64 (0), .int .i64 (0)], .bool (false)]) (by simp [results, Try.results30, go_sem, c4, c5]) rfl ⟨ret_frac O.out.2.1 O.out.2.2 O.out.1, ?_⟩
    exact st_set (st_set (st_trans (st_alloc (st_alloc (st_alloc (st_refl _) _) _) _) hb1) (by simp; omega) _) (by simp; omega) _
  · cases hb : okB bn bd
    · have O := hide (mul_no (an := an) (ad := ad) (.inr hb))
      go_enter Try.func30, Try.ntmps30
      go_wp2_with fail
      refine (fv_impl _ _ _ (by omega) (by omega) (by omega) (by omega)).mono ?_
      rintro e w1 ⟨rfl, hb1⟩
      have F1 := hide (FS.out.keep hb1)
      obtain ⟨⟨c0, c1, c2, c3⟩, ⟨c4, c5, f4, f5⟩, s0, s1, s2⟩ := (F1.out)
      go_wp2_with fail
      refine (fv_impl _ _ _ (by omega) (by omega) (by omega) (by omega)).mono ?_
      rintro e w2 ⟨rfl, hb2⟩
      have F2 := hide (F1.out.keep hb2)
      clear c0 c1 c2 c3 c4 c5 f4 f5 s0 s1 s2
      obtain ⟨⟨c0, c1, c2, c3⟩, ⟨c4, c5, f4, f5⟩, s0, s1, s2⟩ := (F2.out)
      go_wp2
      refine bodyPost_ret (v := .tuple #[.agg #[.int .i64 (0), .int .i64 (0)], .bool (false)]) (by simp [results, Try.results30, go_sem, c4, c5]) rfl ⟨ret_frac O.out.2.1 O.out.2.2 O.out.1, ?_⟩
      exact st_set (st_set (st_trans (st_trans (st_alloc (st_alloc (st_alloc (st_refl _) _) _) _) hb1) hb2) (by simp; omega) _) (by simp; omega) _
    · have O := hide (mul_yes ha hb)
      have hao := okB_iff.1 ha
      have hbo := okB_iff.1 hb
      have a9 := hao.b9; have b9 := hbo.b9
      have m1 := mul_9 a9.1 a9.2.1 b9.2.2.1 b9.2.2.2
      have m2 := mul_9 b9.1 b9.2.1 a9.2.2.1 a9.2.2.2
      have m3 := mul_9 a9.2.2.1 a9.2.2.2 b9.2.2.1 b9.2.2.2
      have m4 := mul_9 a9.1 a9.2.1 b9.1 b9.2.1
      have m5 := mul_9 a9.2.2.1 a9.2.2.2 b9.1 b9.2.1
      clear hao hbo
      go_enter Try.func30, Try.ntmps30
      go_wp2_with fail
      refine (fv_impl _ _ _ (by omega) (by omega) (by omega) (by omega)).mono ?_
      rintro e w1 ⟨rfl, hb1⟩
      have F1 := hide (FS.out.keep hb1)
      obtain ⟨⟨c0, c1, c2, c3⟩, ⟨c4, c5, f4, f5⟩, s0, s1, s2⟩ := (F1.out)
      go_wp2_with fail
      refine (fv_impl _ _ _ (by omega) (by omega) (by omega) (by omega)).mono ?_
      rintro e w2 ⟨rfl, hb2⟩
      have F2 := hide (F1.out.keep hb2)
      clear c0 c1 c2 c3 c4 c5 f4 f5 s0 s1 s2
      obtain ⟨⟨c0, c1, c2, c3⟩, ⟨c4, c5, f4, f5⟩, s0, s1, s2⟩ := (F2.out)
      go_wp2_with fail
      refine (of_impl _ _ _ (by omega) (by omega) (by omega) (by omega)).mono ?_
      rintro e w3 ⟨rfl, hb3⟩
      have F3' := hide (F2.out.keep hb3)
      clear c0 c1 c2 c3 c4 c5 f4 f5 s0 s1 s2
      obtain ⟨⟨c0, c1, c2, c3⟩, ⟨c4, c5, f4, f5⟩, s0, s1, s2⟩ := (F3'.out)
      go_wp2
      refine bodyPost_ret (v := .tuple #[.agg #[.int .i64 (ofN (an * bn) (ad * bd)), .int .i64 (ofD (an * bn) (ad * bd))], .bool (ofOk (an * bn) (ad * bd))]) (by simp [results, Try.results30, go_sem, c4, c5]) rfl ⟨ret_frac O.out.2.1 O.out.2.2 O.out.1, ?_⟩
      exact st_set (st_set (st_trans (st_trans (st_trans (st_alloc (st_alloc (st_alloc (st_refl _) _) _) _) hb1) hb2) hb3) (by simp; omega) _) (by simp; omega) _

set_option maxHeartbeats 2000000 in
theorem mul_spec (an ad bn bd : Int) (w : World) (h1 : I64 an) (h2 : I64 ad) (h3 : I64 bn) (h4 : I64 bd) :
    Calls Try.prog 29 #[.agg #[.int .i64 an, .int .i64 ad], .agg #[.int .i64 bn, .int .i64 bd]] w fun e w' => e = .returned (.tuple #[.agg #[.int .i64 (mulN an ad bn bd), .int .i64 (mulD an ad bn bd)], .bool (mulOk an ad bn bd)]) ∧ Below w.heap.size w w' := by
  have hh1 := h1; have hh2 := h2; have hh3 := h3; have hh4 := h4
  obtain ⟨h1, h1'⟩ := h1; obtain ⟨h2, h2'⟩ := h2; obtain ⟨h3, h3'⟩ := h3; obtain ⟨h4, h4'⟩ := h4
  have FS := hide (F3.start w an ad bn bd 25)
  cases ha : okB an ad
  · have O := hide (mul_no (bn := bn) (bd := bd) (.inl ha))
    go_enter Try.func29, Try.ntmps29
    go_wp2_with fail
    refine (two_spec _ _ _ _ _ hh1 hh2 hh3 hh4).mono ?_
    rintro e w1 ⟨rfl, hb1⟩
    have F1 := hide (FS.out.keep hb1)
    obtain ⟨⟨c0, c1, c2, c3⟩, ⟨c4, c5, f4, f5⟩, s0, s1, s2⟩ := (F1.out)
    go_wp2
    refine bodyPost_ret (v := .tuple #[.agg #[.int .i64 (0), .int .i64 (0)], .bool (false)]) (by simp [results, Try.results29, go_sem, c4, c5]) rfl ⟨ret_frac O.out.2.1 O.out.2.2 O.out.1, ?_⟩
    exact st_set (st_set (st_trans (st_alloc (st_alloc (st_alloc (st_refl _) _) _) _) hb1) (by simp; omega) _) (by simp; omega) _
  · cases hb : okB bn bd
    · have O := hide (mul_no (an := an) (ad := ad) (.inr hb))
      go_enter Try.func29, Try.ntmps29
      go_wp2_with fail
      refine (two_spec _ _ _ _ _ hh1 hh2 hh3 hh4).mono ?_
      rintro e w1 ⟨rfl, hb1⟩
      have F1 := hide (FS.out.keep hb1)
      obtain ⟨⟨c0, c1, c2, c3⟩, ⟨c4, c5, f4, f5⟩, s0, s1, s2⟩ := (F1.out)
      go_wp2
      refine bodyPost_ret (v := .tuple #[.agg #[.int .i64 (0), .int .i64 (0)], .bool (false)]) (by simp [results, Try.results29, go_sem, c4, c5]) rfl ⟨ret_frac O.out.2.1 O.out.2.2 O.out.1, ?_⟩
      exact st_set (st_set (st_trans (st_alloc (st_alloc (st_alloc (st_refl _) _) _) _) hb1) (by simp; omega) _) (by simp; omega) _
    · have O := hide (mul_yes ha hb)
      have hao := okB_iff.1 ha
      have hbo := okB_iff.1 hb
      have a9 := hao.b9; have b9 := hbo.b9
      have m1 := mul_9 a9.1 a9.2.1 b9.2.2.1 b9.2.2.2
      have m2 := mul_9 b9.1 b9.2.1 a9.2.2.1 a9.2.2.2
      have m3 := mul_9 a9.2.2.1 a9.2.2.2 b9.2.2.1 b9.2.2.2
      have m4 := mul_9 a9.1 a9.2.1 b9.1 b9.2.1
      have m5 := mul_9 a9.2.2.1 a9.2.2.2 b9.1 b9.2.1
      clear hao hbo
      go_enter Try.func29, Try.ntmps29
      go_wp2_with fail
      refine (two_spec _ _ _ _ _ hh1 hh2 hh3 hh4).mono ?_
      rintro e w1 ⟨rfl, hb1⟩
      have F1 := hide (FS.out.keep hb1)
      obtain ⟨⟨c0, c1, c2, c3⟩, ⟨c4, c5, f4, f5⟩, s0, s1, s2⟩ := (F1.out)
      have F2 := F1
      go_wp2_with fail
      refine (of_spec _ _ _ (by omega) (by omega) (by omega) (by omega)).mono ?_
      rintro e w3 ⟨rfl, hb3⟩
      have F3' := hide (F2.out.keep hb3)
      clear c0 c1 c2 c3 c4 c5 f4 f5 s0 s1 s2
      obtain ⟨⟨c0, c1, c2, c3⟩, ⟨c4, c5, f4, f5⟩, s0, s1, s2⟩ := (F3'.out)
      go_wp2
      refine bodyPost_ret (v := .tuple #[.agg #[.int .i64 (ofN (an * bn) (ad * bd)), .int .i64 (ofD (an * bn) (ad * bd))], .bool (ofOk (an * bn) (ad * bd))]) (by simp [results, Try.results29, go_sem, c4, c5]) rfl ⟨ret_frac O.out.2.1 O.out.2.2 O.out.1, ?_⟩
      exact st_set (st_set (st_trans (st_trans (st_alloc (st_alloc (st_alloc (st_refl _) _) _) _) hb1) hb3) (by simp; omega) _) (by simp; omega) _

set_option maxHeartbeats 2000000 in
theorem div_impl (an ad bn bd : Int) (w : World) (h1 : I64 an) (h2 : I64 ad) (h3 : I64 bn) (h4 : I64 bd) :
    Calls Try.prog 28 #[.agg #[.int .i64 an, .int .i64 ad], .agg #[.int .i64 bn, .int .i64 bd]] w fun e w' => e = .returned (.tuple #[.agg #[.int .i64 (divN an ad bn bd), .int .i64 (divD an ad bn bd)], .bool (divOk an ad bn bd)]) ∧ Below w.heap.size w w' := by
  have hh1 := h1; have hh2 := h2; have hh3 := h3; have hh4 := h4
  obtain ⟨h1, h1'⟩ := h1; obtain ⟨h2, h2'⟩ := h2; obtain ⟨h3, h3'⟩ := h3; obtain ⟨h4, h4'⟩ := h4
  have FS := hide (F3.start w an ad bn bd 25)
  cases ha : okB an ad
  · have O := hide (div_no (bn := bn) (bd := bd) (.inl ha))
    go_enter Try.func28, Try.ntmps28
    go_wp2_with fail
    refine (fv_impl _ _ _ (by omega) (by omega) (by omega) (by omega)).mono ?_
    rintro e w1 ⟨rfl, hb1⟩
    have F1 := hide (FS.out.keep hb1)
    obtain ⟨⟨c0, c1, c2, c3⟩, ⟨c4, c5, f4, f5⟩, s0, s1, s2⟩ := (F1.out)
    go_wp2
    refine bodyPost_ret (v := .tuple #[.agg #[.int .i64 (0), .int .i64 (0)], .bool (false)]) (by simp [results, Try.results28, go_sem, c4, c5]) rfl ⟨ret_frac O.out.2.1 O.out.2.2 O.out.1, ?_⟩
    exact st_set (st_set (st_trans (st_alloc (st_alloc (st_alloc (st_refl _) _) _) _) hb1) (by simp; omega) _) (by simp; omega) _
  · cases hb : okB bn bd
    · have O := hide (div_no (an := an) (ad := ad) (.inr hb))
      go_enter Try.func28, Try.ntmps28
      go_wp2_with fail
      refine (fv_impl _ _ _ (by omega) (by omega) (by omega) (by omega)).mono ?_
      rintro e w1 ⟨rfl, hb1⟩
      have F1 := hide (FS.out.keep hb1)
      obtain ⟨⟨c0, c1, c2, c3⟩, ⟨c4, c5, f4, f5⟩, s0, s1, s2⟩ := (F1.out)
      go_wp2_with fail
      refine (fv_impl _ _ _ (by omega) (by omega) (by omega) (by omega)).mono ?_
      rintro e w2 ⟨rfl, hb2⟩
      have F2 := hide (F1.out.keep hb2)
      clear c0 c1 c2 c3 c4 c5 f4 f5 s0 s1 s2
      obtain ⟨⟨c0, c1, c2, c3⟩, ⟨c4, c5, f4, f5⟩, s0, s1, s2⟩ := (F2.out)
      go_wp2
      refine bodyPost_ret (v := .tuple #[.agg #[.int .i64 (0), .int .i64 (0)], .bool (false)]) (by simp [results, Try.results28, go_sem, c4, c5]) rfl ⟨ret_frac O.out.2.1 O.out.2.2 O.out.1, ?_⟩
      exact st_set (st_set (st_trans (st_trans (st_alloc (st_alloc (st_alloc (st_refl _) _) _) _) hb1) hb2) (by simp; omega) _) (by simp; omega) _
    · by_cases hz : bn = 0
      · subst hz
        have O := hide (div_zero (an := an) (ad := ad) (bd := bd))
        go_enter Try.func28, Try.ntmps28
        go_wp2_with fail
        refine (fv_impl _ _ _ (by omega) (by omega) (by omega) (by omega)).mono ?_
        rintro e w1 ⟨rfl, hb1⟩
        have F1 := hide (FS.out.keep hb1)
        obtain ⟨⟨c0, c1, c2, c3⟩, ⟨c4, c5, f4, f5⟩, s0, s1, s2⟩ := (F1.out)
        go_wp2_with fail
        refine (fv_impl _ _ _ (by omega) (by omega) (by omega) (by omega)).mono ?_
        rintro e w2 ⟨rfl, hb2⟩
        have F2 := hide (F1.out.keep hb2)
        clear c0 c1 c2 c3 c4 c5 f4 f5 s0 s1 s2
        obtain ⟨⟨c0, c1, c2, c3⟩, ⟨c4, c5, f4, f5⟩, s0, s1, s2⟩ := (F2.out)
        go_wp2
        refine bodyPost_ret (v := .tuple #[.agg #[.int .i64 (0), .int .i64 (0)], .bool (false)]) (by simp [results, Try.results28, go_sem, c4, c5]) rfl ⟨ret_frac O.out.2.1 O.out.2.2 O.out.1, ?_⟩
        exact st_set (st_set (st_trans (st_trans (st_alloc (st_alloc (st_alloc (st_refl _) _) _) _) hb1) hb2) (by simp; omega) _) (by simp; omega) _
      · have hz' : (bn == 0) = false := by simpa using hz
        have O := hide (div_yes ha hb)
        have hao := okB_iff.1 ha
        have hbo := okB_iff.1 hb
        have a9 := hao.b9; have b9 := hbo.b9
        have m1 := mul_9 a9.1 a9.2.1 b9.2.2.1 b9.2.2.2
        have m2 := mul_9 b9.1 b9.2.1 a9.2.2.1 a9.2.2.2
        have m3 := mul_9 a9.2.2.1 a9.2.2.2 b9.2.2.1 b9.2.2.2
        have m4 := mul_9 a9.1 a9.2.1 b9.1 b9.2.1
        have m5 := mul_9 a9.2.2.1 a9.2.2.2 b9.1 b9.2.1
        clear hao hbo
        go_enter Try.func28, Try.ntmps28
        go_wp2_with fail
        refine (fv_impl _ _ _ (by omega) (by omega) (by omega) (by omega)).mono ?_
        rintro e w1 ⟨rfl, hb1⟩
        have F1 := hide (FS.out.keep hb1)
        obtain ⟨⟨c0, c1, c2, c3⟩, ⟨c4, c5, f4, f5⟩, s0, s1, s2⟩ := (F1.out)
        go_wp2_with fail
        refine (fv_impl _ _ _ (by omega) (by omega) (by omega) (by omega)).mono ?_
        rintro e w2 ⟨rfl, hb2⟩
        have F2 := hide (F1.out.keep hb2)
        clear c0 c1 c2 c3 c4 c5 f4 f5 s0 s1 s2
        obtain ⟨⟨c0, c1, c2, c3⟩, ⟨c4, c5, f4, f5⟩, s0, s1, s2⟩ := (F2.out)
        go_wp2_with fail
        refine (of_impl _ _ _ (by omega) (by omega) (by omega) (by omega)).mono ?_
        rintro e w3 ⟨rfl, hb3⟩
        have F3' := hide (F2.out.keep hb3)
        clear c0 c1 c2 c3 c4 c5 f4 f5 s0 s1 s2
        obtain ⟨⟨c0, c1, c2, c3⟩, ⟨c4, c5, f4, f5⟩, s0, s1, s2⟩ := (F3'.out)
        go_wp2
        refine bodyPost_ret (v := .tuple #[.agg #[.int .i64 (ofN (an * bd) (ad * bn)), .int .i64 (ofD (an * bd) (ad * bn))], .bool (ofOk (an * bd) (ad * bn))]) (by simp [results, Try.results28, go_sem, c4, c5]) rfl ⟨ret_frac O.out.2.1 O.out.2.2 O.out.1, ?_⟩
        exact st_set (st_set (st_trans (st_trans (st_trans (st_alloc (st_alloc (st_alloc (st_refl _) _) _) _) hb1) hb2) hb3) (by simp; omega) _) (by simp; omega) _

set_option maxHeartbeats 2000000 in
theorem div_spec (an ad bn bd : Int) (w : World) (h1 : I64 an) (h2 : I64 ad) (h3 : I64 bn) (h4 : I64 bd) :
    Calls Try.prog 27 #[.agg #[.int .i64 an, .int .i64 ad], .agg #[.int .i64 bn, .int .i64 bd]] w fun e w' => e = .returned (.tuple #[.agg #[.int .i64 (divN an ad bn bd), .int .i64 (divD an ad bn bd)], .bool (divOk an ad bn bd)]) ∧ Below w.heap.size w w' := by
  have hh1 := h1; have hh2 := h2; have hh3 := h3; have hh4 := h4
  obtain ⟨h1, h1'⟩ := h1; obtain ⟨h2, h2'⟩ := h2; obtain ⟨h3, h3'⟩ := h3; obtain ⟨h4, h4'⟩ := h4
  have FS := hide (F3.start w an ad bn bd 25)
  cases ha : okB an ad
  · have O := hide (div_no (bn := bn) (bd := bd) (.inl ha))
    go_enter Try.func27, Try.ntmps27
    go_wp2_with fail
    refine (two_spec _ _ _ _ _ hh1 hh2 hh3 hh4).mono ?_
    rintro e w1 ⟨rfl, hb1⟩
    have F1 := hide (FS.out.keep hb1)
    obtain ⟨⟨c0, c1, c2, c3⟩, ⟨c4, c5, f4, f5⟩, s0, s1, s2⟩ := (F1.out)
    go_wp2
    refine bodyPost_ret (v := .tuple #[.agg #[.int .i64 (0), .int .i64 (0)], .bool (false)]) (by simp [results, Try.results27, go_sem, c4, c5]) rfl ⟨ret_frac O.out.2.1 O.out.2.2 O.out.1, ?_⟩
    exact st_set (st_set (st_trans (st_alloc (st_alloc (st_alloc (st_refl _) _) _) _) hb1) (by simp; omega) _) (by simp; omega) _
  · cases hb : okB bn bd
    · have O := hide (div_no (an := an) (ad := ad) (.inr hb))
      go_enter Try.func27, Try.ntmps27
      go_wp2_with fail
      refine (two_spec _ _ _ _ _ hh1 hh2 hh3 hh4).mono ?_
      rintro e w1 ⟨rfl, hb1⟩
      have F1 := hide (FS.out.keep hb1)
      obtain ⟨⟨c0, c1, c2, c3⟩, ⟨c4, c5, f4, f5⟩, s0, s1, s2⟩ := (F1.out)
      go_wp2
      refine bodyPost_ret (v := .tuple #[.agg #[.int .i64 (0), .int .i64 (0)], .bool (false)]) (by simp [results, Try.results27, go_sem, c4, c5]) rfl ⟨ret_frac O.out.2.1 O.out.2.2 O.out.1, ?_⟩
      exact st_set (st_set (st_trans (st_alloc (st_alloc (st_alloc (st_refl _) _) _) _) hb1) (by simp; omega) _) (by simp; omega) _
    · by_cases hz : bn = 0
      · subst hz
        have O := hide (div_zero (an := an) (ad := ad) (bd := bd))
        go_enter Try.func27, Try.ntmps27
        go_wp2_with fail
        refine (two_spec _ _ _ _ _ hh1 hh2 hh3 hh4).mono ?_
        rintro e w1 ⟨rfl, hb1⟩
        have F1 := hide (FS.out.keep hb1)
        obtain ⟨⟨c0, c1, c2, c3⟩, ⟨c4, c5, f4, f5⟩, s0, s1, s2⟩ := (F1.out)
        go_wp2
        refine bodyPost_ret (v := .tuple #[.agg #[.int .i64 (0), .int .i64 (0)], .bool (false)]) (by simp [results, Try.results27, go_sem, c4, c5]) rfl ⟨ret_frac O.out.2.1 O.out.2.2 O.out.1, ?_⟩
        exact st_set (st_set (st_trans (st_alloc (st_alloc (st_alloc (st_refl _) _) _) _) hb1) (by simp; omega) _) (by simp; omega) _
      · have hz' : (bn == 0) = false := by simpa using hz
        have O := hide (div_yes ha hb)
        have hao := okB_iff.1 ha
        have hbo := okB_iff.1 hb
        have a9 := hao.b9; have b9 := hbo.b9
        have m1 := mul_9 a9.1 a9.2.1 b9.2.2.1 b9.2.2.2
        have m2 := mul_9 b9.1 b9.2.1 a9.2.2.1 a9.2.2.2
        have m3 := mul_9 a9.2.2.1 a9.2.2.2 b9.2.2.1 b9.2.2.2
        have m4 := mul_9 a9.1 a9.2.1 b9.1 b9.2.1
        have m5 := mul_9 a9.2.2.1 a9.2.2.2 b9.1 b9.2.1
        clear hao hbo
        go_enter Try.func27, Try.ntmps27
        go_wp2_with fail
        refine (two_spec _ _ _ _ _ hh1 hh2 hh3 hh4).mono ?_
        rintro e w1 ⟨rfl, hb1⟩
        have F1 := hide (FS.out.keep hb1)
        obtain ⟨⟨c0, c1, c2, c3⟩, ⟨c4, c5, f4, f5⟩, s0, s1, s2⟩ := (F1.out)
        have F2 := F1
        go_wp2_with fail
        refine (of_spec _ _ _ (by omega) (by omega) (by omega) (by omega)).mono ?_
        rintro e w3 ⟨rfl, hb3⟩
        have F3' := hide (F2.out.keep hb3)
        clear c0 c1 c2 c3 c4 c5 f4 f5 s0 s1 s2
        obtain ⟨⟨c0, c1, c2, c3⟩, ⟨c4, c5, f4, f5⟩, s0, s1, s2⟩ := (F3'.out)
        go_wp2
        refine bodyPost_ret (v := .tuple #[.agg #[.int .i64 (ofN (an * bd) (ad * bn)), .int .i64 (ofD (an * bd) (ad * bn))], .bool (ofOk (an * bd) (ad * bn))]) (by simp [results, Try.results27, go_sem, c4, c5]) rfl ⟨ret_frac O.out.2.1 O.out.2.2 O.out.1, ?_⟩
        exact st_set (st_set (st_trans (st_trans (st_alloc (st_alloc (st_alloc (st_refl _) _) _) _) hb1) hb3) (by simp; omega) _) (by simp; omega) _

end Go.Proofs.Ytodjnmjdilgocaa
