/-
  The drawing of fractions.
  Conditions: the bytes can be read.
-/
import Derived.Test.YtaikebigaiimaaaDoorDraw
import Derived.Test.YtaikebigaiimaaaDoorGs
import Derived.Deep.RegionHeld3
import Derived.Deep.RegionWith
namespace Go.Proofs.YtaikebigaiimaaaDoor.Fx
open Go.RowKit Fr

/-- a result's block: two zeros, not frozen -/
def Res (B : Nat) (w1 : World) : Prop :=
  w1.cell? ⟨B, 0, none⟩ = some (.int .i64 0) ∧ w1.cell? ⟨B, 1, none⟩ = some (.int .i64 0) ∧ w1.frozen? ⟨B, 0, none⟩ = false ∧ w1.frozen? ⟨B, 1, none⟩ = false ∧ B < w1.heap.size
theorem Res.new (w : World) (T : TypeId) : Res w.heap.size (w.alloc (.cells #[.int .i64 0, .int .i64 0] T)) := by
  refine ⟨?_, ?_, ?_, ?_, ?_⟩
  all_goals first | (go_simp; done) | (simp; done)
theorem Res.grown {B g : Nat} {w1 w2 : World} (h : Res B w1) (hG : w1.grownBy w2 (some g)) (hne : B ≠ g) : Res B w2 := by
  obtain ⟨a, b, c, d, e⟩ := h
  exact ⟨old_cell hG a hne, old_cell hG b hne, old_frozen hG a c hne, old_frozen hG b d hne, Nat.lt_of_lt_of_le e hG.size⟩
theorem Res.below {B : Nat} {w1 w2 : World} (h : Res B w1) (hb : Below w1.heap.size w1 w2) : Res B w2 := by
  obtain ⟨a, b, c, d, e⟩ := h
  exact ⟨keepc hb a, keepc hb b, keepf hb a c, keepf hb b d, Nat.lt_of_lt_of_le e hb.size⟩
/-- a fraction in a block -/
def FrAt (B : Nat) (n d : Int) (w1 : World) : Prop := w1.cell? ⟨B, 0, none⟩ = some (.int .i64 n) ∧ w1.cell? ⟨B, 1, none⟩ = some (.int .i64 d) ∧ w1.frozen? ⟨B, 0, none⟩ = false ∧ w1.frozen? ⟨B, 1, none⟩ = false ∧ B < w1.heap.size
theorem FrAt.new (w : World) (n d : Int) (T : TypeId) : FrAt w.heap.size n d (w.alloc (.cells #[.int .i64 n, .int .i64 d] T)) := by
  refine ⟨?_, ?_, ?_, ?_, ?_⟩
  all_goals first | (go_simp; done) | (simp; done)
theorem FrAt.grown {B g : Nat} {n d : Int} {w1 w2 : World} (h : FrAt B n d w1) (hG : w1.grownBy w2 (some g)) (hne : B ≠ g) : FrAt B n d w2 := by
  obtain ⟨a, b, c, d, e⟩ := h
  exact ⟨old_cell hG a hne, old_cell hG b hne, old_frozen hG a c hne, old_frozen hG b d hne, Nat.lt_of_lt_of_le e hG.size⟩
theorem FrAt.below {B : Nat} {n d : Int} {w1 w2 : World} (h : FrAt B n d w1) (hb : Below w1.heap.size w1 w2) : FrAt B n d w2 := by
  obtain ⟨a, b, c, d, e⟩ := h
  exact ⟨keepc hb a, keepc hb b, keepf hb a c, keepf hb b d, Nat.lt_of_lt_of_le e hb.size⟩

/-- a fraction's parts are small -/
def Sm (n d : Int) : Prop := -2000000000 ≤ n ∧ n ≤ 2000000000 ∧ -2000000000 ≤ d ∧ d ≤ 2000000000
theorem sm_of (a b : Int) : -1000000000 ≤ ofN a b ∧ ofN a b ≤ 1000000000 ∧ -1000000000 ≤ ofD a b ∧ ofD a b ≤ 1000000000 := by
  cases h : ofOk a b
  · obtain ⟨e1, e2⟩ := of_no h
    rw [e1, e2]; omega
  · have := (of_val h).1.b9
    omega
/-- a fraction was drawn; the reader alone has turned -/
def Fraced (w : World) (g N : Nat) (e : Ending) (w' : World) : Prop :=
  ∃ n d : Int, e = .returned (.agg #[.int .i64 n, .int .i64 d]) ∧ (-1000000000 ≤ n ∧ n ≤ 1000000000 ∧ -1000000000 ≤ d ∧ d ≤ 1000000000) ∧ Rd w' g (N + 4) ∧ w.grownBy w' (some g)
theorem three {y : Int} (h1 : 0 ≤ y) (h2 : y < 3) : y = 0 ∨ y = 1 ∨ y = 2 := by omega
theorem four {y : Int} (h1 : 0 ≤ y) (h2 : y < 4) : y = 0 ∨ y = 1 ∨ y = 2 ∨ y = 3 := by omega

set_option maxHeartbeats 4000000 in
theorem frac_any (g N : Nat) (w : World) (h : Rd w g N) (hN : N ≤ 999990) :
    Calls Tryd.prog 40 #[.pointer (some ⟨g, 0, none⟩)] w (Fraced w g N) := by
  have hlt := h.lt
  have hne : w.heap.size ≠ g := by omega
  have H := hide (h.alloc (.cells #[.int .i64 0, .int .i64 0] 35))
  have E := hide (Res.new w 35)
  clear h
  go_enter Tryd.func40, Tryd.ntmps40
  go_wp2_with fail
  refine (pick_any g N 41 _ H.out (by omega) (by omega) (by omega)).mono ?_
  rintro e w1 ⟨x, rfl, hx1, hx2, hR, hG⟩
  have R1 := hide hR
  have E1 := hide (E.out.grown hG hne)
  have G1 := hide (grown_trans (World.grownBy_alloc w _ (some g)) hG)
  clear hR hG
  go_wp2_with fail
  refine (pick_any g (N + 1) 12 _ R1.out (by omega) (by omega) (by omega)).mono ?_
  rintro e w2 ⟨y, rfl, hy1, hy2, hR, hG⟩
  have R2 := hide hR
  have E2 := hide (E1.out.grown hG hne)
  have G2 := hide (grown_trans G1.out hG)
  clear hR hG
  go_wp2_with fail
  refine (of_spec _ _ _ (by omega) (by omega) (by omega) (by omega)).mono ?_
  rintro e w3 ⟨rfl, hb⟩
  have S3 := sm_of (x - 20) (1 + y)
  generalize ofN (x - 20) (1 + y) = xn at *
  generalize ofD (x - 20) (1 + y) = xd at *
  generalize ofOk (x - 20) (1 + y) = xo at *
  have R3 := hide (R2.out.below hb)
  have E3 := hide (E2.out.below hb)
  have G3 := hide (grown_below G2.out hb)
  clear hb
  go_wp2_with fail
  refine (pick_any g (N + 1 + 1) 30 _ (R3.out.alloc _) (by omega) (by omega) (by omega)).mono ?_
  rintro e w4 ⟨p, rfl, hp1, hp2, hR, hG⟩
  have hne3 : w3.heap.size ≠ g := by have := R3.out.lt; omega
  have R4 := hide hR
  have E4 := hide ((E3.out.below (st_alloc (st_refl _) (.cells #[.int .i64 xn, .int .i64 xd] 35))).grown hG hne)
  have X4 := hide ((FrAt.new w3 xn xd 35).grown hG hne3)
  have G4 := hide (grown_trans (grown_alloc G3.out _) hG)
  clear hR hG
  by_cases p0 : p = 0
  · subst p0
    go_wp2_with fail
    refine (pick_any g (N + 1 + 1 + 1) 4 _ (R4.out.alloc _) (by omega) (by omega) (by omega)).mono ?_
    rintro e w5 ⟨z, rfl, hz1, hz2, hR, hG⟩
    have hne4 : w4.heap.size ≠ g := by have := R4.out.lt; omega
    have c0 : w5.cell? ⟨w4.heap.size, 0, none⟩ = some (.int .i64 2) := old_cell hG (by go_simp) hne4
    have c1 : w5.cell? ⟨w4.heap.size, 1, none⟩ = some (.int .i64 4) := old_cell hG (by go_simp) hne4
    have c2 : w5.cell? ⟨w4.heap.size, 2, none⟩ = some (.int .i64 1) := old_cell hG (by go_simp) hne4
    have c3 : w5.cell? ⟨w4.heap.size, 3, none⟩ = some (.int .i64 0) := old_cell hG (by go_simp) hne4
    have c4 : w5.cell? ⟨w4.heap.size, 4, none⟩ = some (.int .i64 0) := old_cell hG (by go_simp) hne4
    have c5 : w5.cell? ⟨w4.heap.size, 5, none⟩ = some (.int .i64 2) := old_cell hG (by go_simp) hne4
    have c6 : w5.cell? ⟨w4.heap.size, 6, none⟩ = some (.int .i64 1) := old_cell hG (by go_simp) hne4
    have c7 : w5.cell? ⟨w4.heap.size, 7, none⟩ = some (.int .i64 (-3)) := old_cell hG (by go_simp) hne4
    have R5 := hide hR
    have E5 := hide ((E4.out.below (st_alloc (st_refl _) (.cells #[.int .i64 2, .int .i64 4, .int .i64 1, .int .i64 0, .int .i64 0, .int .i64 2, .int .i64 1, .int .i64 (-3)] 35))).grown hG hne)
    have G5 := hide (grown_trans (grown_alloc G4.out _) hG)
    clear hR hG hne4
    obtain ⟨r0, r1, r2, r3, r4⟩ := E5.out
    rcases four hz1 hz2 with rfl | rfl | rfl | rfl
    all_goals
      go_wp2
      refine bodyPost_ret (v := .agg #[.int .i64 _, .int .i64 _]) (by simp [results, Tryd.results40, go_sem, r0, r1]; exact ⟨rfl, rfl⟩) rfl ⟨_, _, rfl, ⟨by omega, by omega, by omega, by omega⟩, (((R5.out.setNew (by dsimp only; omega) _).setNew (by dsimp only; omega) _).mono (by omega)), ?_⟩
      exact grown_setNew (grown_setNew G5.out (by dsimp only; omega) _) (by dsimp only; omega) _
  · have b0 : (p == 0) = false := by simpa using p0
    by_cases p1 : p = 1
    · subst p1
      go_wp2_with fail
      refine (pick_any g (N + 1 + 1 + 1) 3 _ (R4.out.alloc _) (by omega) (by omega) (by omega)).mono ?_
      rintro e w5 ⟨z, rfl, hz1, hz2, hR, hG⟩
      have hne4 : w4.heap.size ≠ g := by have := R4.out.lt; omega
      have c0 : w5.cell? ⟨w4.heap.size, 0, none⟩ = some (.int .i64 1000000000) := old_cell hG (by go_simp) hne4
      have c1 : w5.cell? ⟨w4.heap.size, 1, none⟩ = some (.int .i64 1) := old_cell hG (by go_simp) hne4
      have c2 : w5.cell? ⟨w4.heap.size, 2, none⟩ = some (.int .i64 1) := old_cell hG (by go_simp) hne4
      have c3 : w5.cell? ⟨w4.heap.size, 3, none⟩ = some (.int .i64 1000000000) := old_cell hG (by go_simp) hne4
      have c4 : w5.cell? ⟨w4.heap.size, 4, none⟩ = some (.int .i64 (-999999999)) := old_cell hG (by go_simp) hne4
      have c5 : w5.cell? ⟨w4.heap.size, 5, none⟩ = some (.int .i64 1000000000) := old_cell hG (by go_simp) hne4
      have R5 := hide hR
      have E5 := hide ((E4.out.below (st_alloc (st_refl _) (.cells #[.int .i64 1000000000, .int .i64 1, .int .i64 1, .int .i64 1000000000, .int .i64 (-999999999), .int .i64 1000000000] 35))).grown hG hne)
      have G5 := hide (grown_trans (grown_alloc G4.out _) hG)
      clear hR hG hne4
      obtain ⟨r0, r1, r2, r3, r4⟩ := E5.out
      rcases three hz1 hz2 with rfl | rfl | rfl
      all_goals
        go_wp2
        refine bodyPost_ret (v := .agg #[.int .i64 _, .int .i64 _]) (by simp [results, Tryd.results40, go_sem, r0, r1]; exact ⟨rfl, rfl⟩) rfl ⟨_, _, rfl, ⟨by omega, by omega, by omega, by omega⟩, (((R5.out.setNew (by dsimp only; omega) _).setNew (by dsimp only; omega) _).mono (by omega)), ?_⟩
        exact grown_setNew (grown_setNew G5.out (by dsimp only; omega) _) (by dsimp only; omega) _
    · have b1 : (p == 1) = false := by simpa using p1
      obtain ⟨r0, r1, r2, r3, r4⟩ := E4.out
      obtain ⟨x0, x1, x2, x3, x4⟩ := X4.out
      go_wp2
      refine bodyPost_ret (v := .agg #[.int .i64 xn, .int .i64 xd]) (by simp [results, Tryd.results40, go_sem, r0, r1]) rfl ⟨_, _, rfl, S3, (((R4.out.setNew (by dsimp only; omega) _).setNew (by dsimp only; omega) _).mono (by omega)), ?_⟩
      exact grown_setNew (grown_setNew G4.out (by dsimp only; omega) _) (by dsimp only; omega) _

end Go.Proofs.YtaikebigaiimaaaDoor.Fx
