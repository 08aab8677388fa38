/-
  The contracts of FracLess, FracFloor, of the program and of the reference, and of the law's own toFrac and eqFrac.
  Conditions: int64.
-/
import Derived.Test.YtodjnmjdilgocaaFa
namespace Go.Proofs.Ytodjnmjdilgocaa
open Go.RowKit Fr

theorem less_yes {an ad bn bd : Int} (ha : okB an ad = true) (hb : okB bn bd = true) : decide (an * bd < bn * ad) = lessB an ad bn bd := by
  unfold lessB; rw [ha, hb]; rfl
theorem less_no {an ad bn bd : Int} (h : okB an ad = false ∨ okB bn bd = false) : false = lessB an ad bn bd := by
  unfold lessB
  rcases h with h | h
  · rw [h]; rfl
  · rw [h, Bool.and_false]; rfl
theorem flo_lt {n d : Int} (h : n.tmod d < 0) : flo n d = n.tdiv d - 1 := by unfold flo; rw [if_pos h]
theorem flo_ge {n d : Int} (h : ¬ n.tmod d < 0) : flo n d = n.tdiv d := by unfold flo; rw [if_neg h]
/-- what FracFloor answers -/
def floV (n d : Int) : Int := if okB n d then flo n d else 0
theorem floV_yes {n d : Int} (h : okB n d = true) : floV n d = flo n d := by unfold floV; rw [if_pos h]
theorem floV_no {n d : Int} (h : okB n d = false) : floV n d = 0 := by unfold floV; rw [h]; rfl
theorem ret_ib {a b : Int} {o : Bool} (h : b = a) : Ending.returned (.tuple #[.int .i64 a, .bool o]) = .returned (.tuple #[.int .i64 b, .bool o]) := by rw [h]
/-- two fractions lie in two blocks from B on -/
def F2 (B : Nat) (an ad bn bd : Int) (w1 : World) : Prop :=
  (w1.cell? ⟨B, 0, none⟩ = some (.int .i64 an) ∧ w1.cell? ⟨B, 1, none⟩ = some (.int .i64 ad) ∧ w1.cell? ⟨B + 1, 0, none⟩ = some (.int .i64 bn) ∧ w1.cell? ⟨B + 1, 1, none⟩ = some (.int .i64 bd))
theorem F2.keep {B : Nat} {an ad bn bd : Int} {w1 w2 : World} (h : F2 B an ad bn bd w1) (hb : Below w1.heap.size w1 w2) : F2 B an ad bn bd w2 := by
  obtain ⟨a1, a2, a3, a4⟩ := h
  exact ⟨keepc hb a1, keepc hb a2, keepc hb a3, keepc hb a4⟩
theorem F2.start (w : World) (an ad bn bd : Int) (T : TypeId) : F2 w.heap.size an ad bn bd ((w.alloc (.cells #[.int .i64 an, .int .i64 ad] T)).alloc (.cells #[.int .i64 bn, .int .i64 bd] T)) := by
  refine ⟨?_, ?_, ?_, ?_⟩
  all_goals (go_simp; done)

set_option maxHeartbeats 2000000 in
theorem less_impl (an ad bn bd : Int) (w : World) (h1 : I64 an) (h2 : I64 ad) (h3 : I64 bn) (h4 : I64 bd) :
    Calls Try.prog 19 #[.agg #[.int .i64 an, .int .i64 ad], .agg #[.int .i64 bn, .int .i64 bd]] w fun e w' => e = .returned (.bool (lessB an ad bn bd)) ∧ Below w.heap.size w w' := by
  have hh1 := h1; have hh2 := h2; have hh3 := h3; have hh4 := h4
  obtain ⟨h1, h1'⟩ := h1; obtain ⟨h2, h2'⟩ := h2; obtain ⟨h3, h3'⟩ := h3; obtain ⟨h4, h4'⟩ := h4
  have FS := hide (F2.start w an ad bn bd 25)
  cases ha : okB an ad
  · have O := hide (less_no (bn := bn) (bd := bd) (.inl ha))
    go_enter Try.func19, Try.ntmps19
    go_wp2_with fail
    refine (fv_impl _ _ _ (by omega) (by omega) (by omega) (by omega)).mono ?_
    rintro e w1 ⟨rfl, hb1⟩
    have F1 := hide (FS.out.keep hb1)
    obtain ⟨c0, c1, c2, c3⟩ := F1.out
    go_wp2
    go_ret
    exact ⟨ret_bool O.out, (st_trans (st_alloc (st_alloc (st_refl _) _) _) hb1)⟩
  · cases hb : okB bn bd
    · have O := hide (less_no (an := an) (ad := ad) (.inr hb))
      go_enter Try.func19, Try.ntmps19
      go_wp2_with fail
      refine (fv_impl _ _ _ (by omega) (by omega) (by omega) (by omega)).mono ?_
      rintro e w1 ⟨rfl, hb1⟩
      have F1 := hide (FS.out.keep hb1)
      obtain ⟨c0, c1, c2, c3⟩ := F1.out
      go_wp2_with fail
      refine (fv_impl _ _ _ (by omega) (by omega) (by omega) (by omega)).mono ?_
      rintro e w2 ⟨rfl, hb2⟩
      have F2' := hide (F1.out.keep hb2)
      clear c0 c1 c2 c3
      obtain ⟨c0, c1, c2, c3⟩ := F2'.out
      go_wp2
      go_ret
      exact ⟨ret_bool O.out, (st_trans (st_trans (st_alloc (st_alloc (st_refl _) _) _) hb1) hb2)⟩
    · have O := hide (less_yes ha hb)
      have hao := okB_iff.1 ha
      have hbo := okB_iff.1 hb
      have a9 := hao.b9; have b9 := hbo.b9
      have m1 := mul_9 a9.1 a9.2.1 b9.2.2.1 b9.2.2.2
      have m2 := mul_9 b9.1 b9.2.1 a9.2.2.1 a9.2.2.2
      clear hao hbo
      go_enter Try.func19, Try.ntmps19
      go_wp2_with fail
      refine (fv_impl _ _ _ (by omega) (by omega) (by omega) (by omega)).mono ?_
      rintro e w1 ⟨rfl, hb1⟩
      have F1 := hide (FS.out.keep hb1)
      obtain ⟨c0, c1, c2, c3⟩ := F1.out
      go_wp2_with fail
      refine (fv_impl _ _ _ (by omega) (by omega) (by omega) (by omega)).mono ?_
      rintro e w2 ⟨rfl, hb2⟩
      have F2' := hide (F1.out.keep hb2)
      clear c0 c1 c2 c3
      obtain ⟨c0, c1, c2, c3⟩ := F2'.out
      go_wp2
      all_goals
        go_ret
        exact ⟨ret_bool O.out, (st_trans (st_trans (st_alloc (st_alloc (st_refl _) _) _) hb1) hb2)⟩

set_option maxHeartbeats 2000000 in
theorem less_spec (an ad bn bd : Int) (w : World) (h1 : I64 an) (h2 : I64 ad) (h3 : I64 bn) (h4 : I64 bd) :
    Calls Try.prog 18 #[.agg #[.int .i64 an, .int .i64 ad], .agg #[.int .i64 bn, .int .i64 bd]] w fun e w' => e = .returned (.bool (lessB an ad bn bd)) ∧ Below w.heap.size w w' := by
  have hh1 := h1; have hh2 := h2; have hh3 := h3; have hh4 := h4
  obtain ⟨h1, h1'⟩ := h1; obtain ⟨h2, h2'⟩ := h2; obtain ⟨h3, h3'⟩ := h3; obtain ⟨h4, h4'⟩ := h4
  have FS := hide (F2.start w an ad bn bd 25)
  cases ha : okB an ad
  · have O := hide (less_no (bn := bn) (bd := bd) (.inl ha))
    go_enter Try.func18, Try.ntmps18
    go_wp2_with fail
    refine (two_spec _ _ _ _ _ hh1 hh2 hh3 hh4).mono ?_
    rintro e w1 ⟨rfl, hb1⟩
    have F1 := hide (FS.out.keep hb1)
    obtain ⟨c0, c1, c2, c3⟩ := F1.out
    go_wp2
    go_ret
    exact ⟨ret_bool O.out, (st_trans (st_alloc (st_alloc (st_refl _) _) _) hb1)⟩
  · cases hb : okB bn bd
    · have O := hide (less_no (an := an) (ad := ad) (.inr hb))
      go_enter Try.func18, Try.ntmps18
      go_wp2_with fail
      refine (two_spec _ _ _ _ _ hh1 hh2 hh3 hh4).mono ?_
      rintro e w1 ⟨rfl, hb1⟩
      have F1 := hide (FS.out.keep hb1)
      obtain ⟨c0, c1, c2, c3⟩ := F1.out
      go_wp2
      go_ret
      exact ⟨ret_bool O.out, (st_trans (st_alloc (st_alloc (st_refl _) _) _) hb1)⟩
    · have O := hide (less_yes ha hb)
      have hao := okB_iff.1 ha
      have hbo := okB_iff.1 hb
      have a9 := hao.b9; have b9 := hbo.b9
      have m1 := mul_9 a9.1 a9.2.1 b9.2.2.1 b9.2.2.2
      have m2 := mul_9 b9.1 b9.2.1 a9.2.2.1 a9.2.2.2
      clear hao hbo
      go_enter Try.func18, Try.ntmps18
      go_wp2_with fail
      refine (two_spec _ _ _ _ _ hh1 hh2 hh3 hh4).mono ?_
      rintro e w1 ⟨rfl, hb1⟩
      have F1 := hide (FS.out.keep hb1)
      obtain ⟨c0, c1, c2, c3⟩ := F1.out
      go_wp2
      all_goals
        go_ret
        exact ⟨ret_bool O.out, (st_trans (st_alloc (st_alloc (st_refl _) _) _) hb1)⟩

set_option maxHeartbeats 2000000 in
theorem floor_impl (n d : Int) (w : World) (h1 : I64 n) (h2 : I64 d) :
    Calls Try.prog 21 #[.agg #[.int .i64 n, .int .i64 d]] w fun e w' => e = .returned (.tuple #[.int .i64 (floV n d), .bool (okB n d)]) ∧ Below w.heap.size w w' := by
  obtain ⟨h1, h1'⟩ := h1; obtain ⟨h2, h2'⟩ := h2
  cases ha : okB n d
  · have O := hide (floV_no ha)
    go_enter Try.func21, Try.ntmps21
    go_wp2_with fail
    refine (fv_impl _ _ _ (by omega) (by omega) (by omega) (by omega)).mono ?_
    rintro e w1 ⟨rfl, hb1⟩
    go_wp2
    go_ret2
    exact ⟨ret_ib O.out, st_trans (st_alloc (st_refl _) _) hb1⟩
  · have ho := okB_iff.1 ha
    have bq := tdiv_bd (b := d) ho.n1 ho.n2
    have br := tmod_bd (b := d) ho.n1 ho.n2
    have hd := ho.d1
    have hd0 : (d == 0) = false := by simp; omega
    clear ho
    go_enter Try.func21, Try.ntmps21
    go_wp2_with fail
    refine (fv_impl _ _ _ (by omega) (by omega) (by omega) (by omega)).mono ?_
    rintro e w1 ⟨rfl, hb1⟩
    have c0 : w1.cell? ⟨w.heap.size, 0, none⟩ = some (.int .i64 n) := keepc hb1 (by go_simp)
    have c1 : w1.cell? ⟨w.heap.size, 1, none⟩ = some (.int .i64 d) := keepc hb1 (by go_simp)
    by_cases hr : n.tmod d < 0
    · have E := hide ((floV_yes ha).trans (flo_lt hr))
      go_wp2
      go_ret2
      exact ⟨ret_ib E.out, st_trans (st_alloc (st_refl _) _) hb1⟩
    · have E := hide ((floV_yes ha).trans (flo_ge hr))
      go_wp2
      go_ret2
      exact ⟨ret_ib E.out, st_trans (st_alloc (st_refl _) _) hb1⟩

set_option maxHeartbeats 2000000 in
theorem floor_spec (n d : Int) (w : World) (h1 : I64 n) (h2 : I64 d) :
    Calls Try.prog 20 #[.agg #[.int .i64 n, .int .i64 d]] w fun e w' => e = .returned (.tuple #[.int .i64 (floV n d), .bool (okB n d)]) ∧ Below w.heap.size w w' := by
  obtain ⟨h1, h1'⟩ := h1; obtain ⟨h2, h2'⟩ := h2
  cases ha : okB n d
  · have O := hide (floV_no ha)
    go_enter Try.func20, Try.ntmps20
    go_wp2_with fail
    refine (fv_spec _ _ _ (by omega) (by omega) (by omega) (by omega)).mono ?_
    rintro e w1 ⟨rfl, hb1⟩
    go_wp2
    go_ret2
    exact ⟨ret_ib O.out, st_trans (st_alloc (st_refl _) _) hb1⟩
  · have ho := okB_iff.1 ha
    have bq := tdiv_bd (b := d) ho.n1 ho.n2
    have br := tmod_bd (b := d) ho.n1 ho.n2
    have hd := ho.d1
    have hd0 : (d == 0) = false := by simp; omega
    clear ho
    go_enter Try.func20, Try.ntmps20
    go_wp2_with fail
    refine (fv_spec _ _ _ (by omega) (by omega) (by omega) (by omega)).mono ?_
    rintro e w1 ⟨rfl, hb1⟩
    have c0 : w1.cell? ⟨w.heap.size, 0, none⟩ = some (.int .i64 n) := keepc hb1 (by go_simp)
    have c1 : w1.cell? ⟨w.heap.size, 1, none⟩ = some (.int .i64 d) := keepc hb1 (by go_simp)
    by_cases hr : n.tmod d < 0
    · have E := hide ((floV_yes ha).trans (flo_lt hr))
      go_wp2
      go_ret2
      exact ⟨ret_ib E.out, st_trans (st_alloc (st_refl _) _) hb1⟩
    · have E := hide ((floV_yes ha).trans (flo_ge hr))
      go_wp2
      go_ret2
      exact ⟨ret_ib E.out, st_trans (st_alloc (st_refl _) _) hb1⟩

/-- the law's toFrac -/
theorem to_frac (n d : Int) (w : World) : Calls Try.prog 16 #[.agg #[.int .i64 n, .int .i64 d]] w fun e w' => e = .returned (.agg #[.int .i64 n, .int .i64 d]) ∧ Below w.heap.size w w' := by
  go_enter Try.func16, Try.ntmps16
  go_wp2
  refine bodyPost_ret (v := .agg #[.int .i64 n, .int .i64 d]) (by simp [results, Try.results16, go_sem]) rfl ⟨rfl, ?_⟩
  go_grown
/-- the law's eqFrac, of one fraction with itself -/
theorem eq_frac (n d : Int) (w : World) : Calls Try.prog 24 #[.agg #[.int .i64 n, .int .i64 d], .agg #[.int .i64 n, .int .i64 d]] w fun e w' => e = .returned (.bool true) ∧ Below w.heap.size w w' := by
  go_enter Try.func24, Try.ntmps24
  go_wp2
  go_ret
  exact ⟨rfl, st_alloc (st_alloc (st_refl _) _) _⟩
end Go.Proofs.Ytodjnmjdilgocaa
