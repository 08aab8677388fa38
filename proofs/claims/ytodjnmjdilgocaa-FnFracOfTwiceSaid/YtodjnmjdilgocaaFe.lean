/-
  The drawing of a law's input: two fractions.
  Conditions: the bytes can be read.
-/
import Derived.Test.YtodjnmjdilgocaaFd
import Derived.Deep.DeepCutAuto
namespace Go.Proofs.Ytodjnmjdilgocaa
open Go.RowKit Fr

theorem FrAt.set {B : Nat} {n d : Int} {w1 : World} (h : FrAt B n d w1) {p : Addr} (hp : p.block ≠ B) (u : Value) : FrAt B n d (w1.setCell p u) := by
  obtain ⟨a, b, c, d, e⟩ := h
  refine ⟨(World.cell?_setCell_other _ _ _ _ ?_).trans a, (World.cell?_setCell_other _ _ _ _ ?_).trans b, ?_, ?_, by simpa [World.setCell] using e⟩
  · rintro rfl; exact hp rfl
  · rintro rfl; exact hp rfl
  · exact (World.frozen?_of_block (Below.heap_setCell w1 p u B (fun e => hp e.symm))).trans c
  · exact (World.frozen?_of_block (Below.heap_setCell w1 p u B (fun e => hp e.symm))).trans d
theorem FrAt.cells {B : Nat} {n d : Int} {w1 : World} (h : FrAt B n d w1) : w1.cell? ⟨B, 0, none⟩ = some (.int .i64 n) ∧ w1.cell? ⟨B, 1, none⟩ = some (.int .i64 d) := ⟨h.1, h.2.1⟩
theorem Res.new2 (w : World) (T : TypeId) : Res (w.heap.size + 1) ((w.alloc (.cells #[.int .i64 0, .int .i64 0] T)).alloc (.cells #[.int .i64 0, .int .i64 0] T)) := by
  have := Res.new (w.alloc (.cells #[.int .i64 0, .int .i64 0] T)) T
  rwa [show (w.alloc (.cells #[.int .i64 0, .int .i64 0] T)).heap.size = w.heap.size + 1 from by simp] at this
def S9 (n d : Int) : Prop := -1000000000 ≤ n ∧ n ≤ 1000000000 ∧ -1000000000 ≤ d ∧ d ≤ 1000000000
/-- two fractions were drawn; the reader alone has turned -/
def Fraced2 (w : World) (g N : Nat) (e : Ending) (w' : World) : Prop :=
  ∃ n d n' d' : Int, e = .returned (.tuple #[.agg #[.int .i64 n, .int .i64 d], .agg #[.int .i64 n', .int .i64 d']]) ∧ S9 n d ∧ S9 n' d' ∧ Rd w' g (N + 8) ∧ w.grownBy w' (some g)

/-- what the second call leaves -/
def Two (B0 B1 BX g M : Nat) (n d n' d' : Int) (w w5 : World) : Prop := FrAt BX n d w5 ∧ Res B0 w5 ∧ Res B1 w5 ∧ S9 n' d' ∧ Rd w5 g M ∧ w.grownBy w5 (some g)
set_option maxHeartbeats 4000000 in
theorem fracs_any (g N : Nat) (w : World) (h : Rd w g N) (hN : N ≤ 999980) :
    Calls Try.prog 44 #[.pointer (some ⟨g, 0, none⟩)] w (Fraced2 w g N) := by
  have hlt := h.lt
  have hne : w.heap.size ≠ g := by omega
  have hne' : w.heap.size + 1 ≠ g := by omega
  have H := hide ((h.alloc (.cells #[.int .i64 0, .int .i64 0] 25)).alloc (.cells #[.int .i64 0, .int .i64 0] 25))
  have E := hide ((Res.new w 25).below (st_alloc (st_refl _) (.cells #[.int .i64 0, .int .i64 0] 25)))
  have E' := hide (Res.new2 w 25)
  clear h
  go_enter Try.func44, Try.ntmps44
  go_wp2_with fail
  refine (frac_any g N _ H.out (by omega)).mono ?_
  rintro e w1 ⟨n, d, rfl, hS, hR, hG⟩
  have hS1 := hide hS
  have R1 := hide hR
  have E1 := hide (E.out.grown hG hne)
  have E1' := hide (E'.out.grown hG hne')
  have G1 := hide (grown_trans (grown_alloc (World.grownBy_alloc w _ (some g)) _) hG)
  have hBX : w.heap.size + 1 < w1.heap.size := E1'.out.2.2.2.2
  have hgx : w1.heap.size ≠ g := by have := R1.out.lt; omega
  clear hS hR hG E E' H
  have X2 := hide (FrAt.new w1 n d 25)
  have R2 := hide (R1.out.alloc (.cells #[.int .i64 n, .int .i64 d] 25))
  have E2 := hide (E1.out.below (st_alloc (st_refl _) (.cells #[.int .i64 n, .int .i64 d] 25)))
  have E2' := hide (E1'.out.below (st_alloc (st_refl _) (.cells #[.int .i64 n, .int .i64 d] 25)))
  have G2 := hide (grown_alloc G1.out (.cells #[.int .i64 n, .int .i64 d] 25))
  clear R1 E1 E1' G1
  go_upto_region 2 with fail
  obtain ⟨W0, hW0⟩ : ∃ W0 : World, W0 = w1.alloc (.cells #[.int .i64 n, .int .i64 d] 25) := ⟨_, rfl⟩
  rw [← hW0] at X2 R2 E2 E2' G2 ⊢
  clear hW0
  have X2d : Hid (FrAt w1.heap.size n d W0.drew) := X2.out
  have R2d : Hid (Rd W0.drew g (N + 4)) := R2.out
  go_region_held3 (fun w' => w'.cell? ⟨w1.heap.size, 0, none⟩ = some (.int .i64 n) ∧ w'.cell? ⟨w1.heap.size, 1, none⟩ = some (.int .i64 d)) (first | exact FrAt.cells (Hid.out (by assumption)) | exact FrAt.cells (FrAt.set (FrAt.set (Hid.out (by assumption)) (by dsimp only; omega) _) (by dsimp only; omega) _) | exact FrAt.cells (FrAt.set (FrAt.set (FrAt.set (FrAt.set (Hid.out (by assumption)) (by dsimp only; omega) _) (by dsimp only; omega) _) (by dsimp only; omega) _) (by dsimp only; omega) _) | go_keep) (first | (go_at_call 45; refine (frac_any g (N + 4) _ R2d.out (by omega)).mono ?_; rintro e w5 ⟨n', d', rfl, hS, hR, hG⟩; have X5 := hide (FrAt.grown (w1 := W0.drew) X2.out hG hgx); have E5 := hide (Res.grown (w1 := W0.drew) E2.out hG hne); have E5' := hide (Res.grown (w1 := W0.drew) E2'.out hG hne'); have G5 := hide (grown_trans (grown_drew G2.out) hG); have R5 := hide hR; have hS5 := hide hS; clear hS hR hG; obtain ⟨r0, r1, r2, r3, r4⟩ := E5.out; obtain ⟨r0', r1', r2', r3', r4'⟩ := E5'.out))
  all_goals
    go_wp2
    refine bodyPost_ret (v := .tuple #[.agg #[.int .i64 n, .int .i64 d], .agg #[.int .i64 n', .int .i64 d']]) (by simp [results, Try.results44, go_sem, r0, r1, r0', r1']) rfl ⟨_, _, _, _, rfl, hS1.out, hS5.out, ?_, ?_⟩
    · exact ((((R5.out.setNew (by dsimp only; omega) _).setNew (by dsimp only; omega) _).setNew (by dsimp only; omega) _).setNew (by dsimp only; omega) _).mono (by omega)
    · exact grown_setNew (grown_setNew (grown_setNew (grown_setNew G5.out (by dsimp only; omega) _) (by dsimp only; omega) _) (by dsimp only; omega) _) (by dsimp only; omega) _

/-- a fraction was drawn; nothing older has turned -/
def DrawnF (w : World) (e : Ending) (w' : World) : Prop :=
  ∃ n d : Int, e = .returned (.agg #[.int .i64 n, .int .i64 d]) ∧ Sm n d ∧ Below w.heap.size w w'
/-- two fractions were drawn; nothing older has turned -/
def DrawnFF (w : World) (e : Ending) (w' : World) : Prop :=
  ∃ n d n' d' : Int, e = .returned (.tuple #[.agg #[.int .i64 n, .int .i64 d], .agg #[.int .i64 n', .int .i64 d']]) ∧ S9 n d ∧ S9 n' d' ∧ Below w.heap.size w w'
theorem below_of {w w1 w2 : World} {g : Nat} (h : Below w.heap.size w w1) (hg : w.heap.size ≤ g) (k : w1.grownBy w2 (some g)) : Below w.heap.size w w2 :=
  h.grown k h.size (fun _ e => by cases e; exact hg)
theorem code_alloc {w : World} {a : Option Addr} {len cap : Nat} (h : Code w a len cap) (o : Obj) : Code (w.alloc o) a len cap := by
  obtain ⟨h1, h2, h3⟩ := h
  refine ⟨h1, h2, fun h0 => ?_⟩
  obtain ⟨b, off, rfl, hb, hc⟩ := h3 h0
  refine ⟨b, off, rfl, by simp; omega, fun i hi => ?_⟩
  obtain ⟨u, hu, k⟩ := hc i hi
  exact ⟨u, (World.cell?_alloc_lt w _ _ hb).trans hu, k⟩

set_option maxHeartbeats 4000000 in
theorem dDrawFracLess (a : Option Addr) (len cap : Nat) (w : World) (h : Code w a len cap) : Calls Try.prog 34 #[.slice a len cap] w (DrawnFF w) := by
  have H := hide (code_alloc (code_alloc h (.cells #[.int .i64 0, .int .i64 0] 25)) (.cells #[.int .i64 0, .int .i64 0] 25))
  have E := hide ((Res.new w 25).below (st_alloc (st_refl _) (.cells #[.int .i64 0, .int .i64 0] 25)))
  have E' := hide (Res.new2 w 25)
  clear h
  go_enter Try.func34, Try.ntmps34
  go_wp2_with fail
  refine (open_any a len cap _ H.out).mono ?_
  rintro e w1 ⟨g, rfl, hg, hR, hB⟩
  have hg' : w.heap.size + 1 < g := by simp at hg; omega
  have R1 := hide hR
  have E1 := hide (E.out.below hB)
  have E1' := hide (E'.out.below hB)
  have B1 := hide (st_trans (st_alloc (st_alloc (st_refl w) _) _) hB)
  clear hR hB hg
  go_wp2_with fail
  refine (fracs_any g 0 _ R1.out (by omega)).mono ?_
  rintro e w2 ⟨n, d, n', d', rfl, hS, hS', hR, hG⟩
  have E2 := hide (E1.out.grown hG (by omega))
  have E2' := hide (E1'.out.grown hG (by omega))
  have B2 := hide (below_of B1.out (by omega) hG)
  have K := hide hS
  have K' := hide hS'
  clear hR hG hS hS'
  obtain ⟨r0, r1, r2, r3, r4⟩ := E2.out
  obtain ⟨r0', r1', r2', r3', r4'⟩ := E2'.out
  go_wp2
  refine bodyPost_ret (v := .tuple #[.agg #[.int .i64 n, .int .i64 d], .agg #[.int .i64 n', .int .i64 d']]) (by simp [results, Try.results34, go_sem, r0, r1, r0', r1']) rfl ⟨_, _, _, _, rfl, K.out, K'.out, ?_⟩
  exact st_set (st_set (st_set (st_set B2.out (by dsimp only; omega) _) (by dsimp only; omega) _) (by dsimp only; omega) _) (by dsimp only; omega) _
end Go.Proofs.Ytodjnmjdilgocaa
