/-
  The drawing of a law's input: two fractions.
  Conditions: the bytes can be read.
-/
import Derived.Test.YtaikebigaiimaaaDoorGd
import Derived.Deep.DeepCutAuto
namespace Go.Proofs.YtaikebigaiimaaaDoor.Fx
open Go.RowKit Fr

theorem FrAt.set {B : Nat} {n d : Int} {w1 : World} (h : FrAt B n d w1) {p : Addr} (hp : p.block ≠ B) (u : Value) : FrAt B n d (w1.setCell p u) := by
  obtain ⟨a, b, c, d, e⟩ := h
  refine ⟨(World.cell?_setCell_other _ _ _ _ ?_).trans a, (World.cell?_setCell_other _ _ _ _ ?_).trans b, ?_, ?_, by simpa [World.setCell] using e⟩
  · rintro rfl; exact hp rfl
  · rintro rfl; exact hp rfl
  · exact (World.frozen?_of_block (Below.heap_setCell w1 p u B (fun e => hp e.symm))).trans c
  · exact (World.frozen?_of_block (Below.heap_setCell w1 p u B (fun e => hp e.symm))).trans d
theorem FrAt.cells {B : Nat} {n d : Int} {w1 : World} (h : FrAt B n d w1) : w1.cell? ⟨B, 0, none⟩ = some (.int .i64 n) ∧ w1.cell? ⟨B, 1, none⟩ = some (.int .i64 d) := ⟨h.1, h.2.1⟩
theorem Res.new2 (w : World) (T : TypeId) : Res (w.heap.size + 1) ((w.alloc (.cells #[.int .i64 0, .int .i64 0] T)).alloc (.cells #[.int .i64 0, .int .i64 0] T)) := by
  have := Res.new (w.alloc (.cells #[.int .i64 0, .int .i64 0] T)) T
  rwa [show (w.alloc (.cells #[.int .i64 0, .int .i64 0] T)).heap.size = w.heap.size + 1 from by simp] at this
def S9 (n d : Int) : Prop := -1000000000 ≤ n ∧ n ≤ 1000000000 ∧ -1000000000 ≤ d ∧ d ≤ 1000000000
/-- two fractions were drawn; the reader alone has turned -/
def Fraced2 (w : World) (g N : Nat) (e : Ending) (w' : World) : Prop :=
  ∃ n d n' d' : Int, e = .returned (.tuple #[.agg #[.int .i64 n, .int .i64 d], .agg #[.int .i64 n', .int .i64 d']]) ∧ S9 n d ∧ S9 n' d' ∧ Rd w' g (N + 8) ∧ w.grownBy w' (some g)


/-- a fraction was drawn; nothing older has turned -/
def DrawnF (w : World) (e : Ending) (w' : World) : Prop :=
  ∃ n d : Int, e = .returned (.agg #[.int .i64 n, .int .i64 d]) ∧ Sm n d ∧ Below w.heap.size w w'
/-- two fractions were drawn; nothing older has turned -/
def DrawnFF (w : World) (e : Ending) (w' : World) : Prop :=
  ∃ n d n' d' : Int, e = .returned (.tuple #[.agg #[.int .i64 n, .int .i64 d], .agg #[.int .i64 n', .int .i64 d']]) ∧ S9 n d ∧ S9 n' d' ∧ Below w.heap.size w w'
theorem below_of {w w1 w2 : World} {g : Nat} (h : Below w.heap.size w w1) (hg : w.heap.size ≤ g) (k : w1.grownBy w2 (some g)) : Below w.heap.size w w2 :=
  h.grown k h.size (fun _ e => by cases e; exact hg)
theorem code_alloc {w : World} {a : Option Addr} {len cap : Nat} (h : Code w a len cap) (o : Obj) : Code (w.alloc o) a len cap := by
  obtain ⟨h1, h2, h3⟩ := h
  refine ⟨h1, h2, fun h0 => ?_⟩
  obtain ⟨b, off, rfl, hb, hc⟩ := h3 h0
  refine ⟨b, off, rfl, by simp; omega, fun i hi => ?_⟩
  obtain ⟨u, hu, k⟩ := hc i hi
  exact ⟨u, (World.cell?_alloc_lt w _ _ hb).trans hu, k⟩

set_option maxHeartbeats 4000000 in
theorem dDrawFracText (a : Option Addr) (len cap : Nat) (w : World) (h : Code w a len cap) : Calls Tryd.prog 25 #[.slice a len cap] w (DrawnF w) := by
  have H := hide (code_alloc h (.cells #[.int .i64 0, .int .i64 0] 35))
  have E := hide (Res.new w 35)
  clear h
  go_enter Tryd.func25, Tryd.ntmps25
  go_wp2_with fail
  refine (open_any a len cap _ H.out).mono ?_
  rintro e w1 ⟨g, rfl, hg, hR, hB⟩
  have hg' : w.heap.size < g := by simp at hg; omega
  have R1 := hide hR
  have E1 := hide (E.out.below hB)
  have B1 := hide (st_trans (st_alloc (st_refl w) _) hB)
  clear hR hB hg
  go_wp2_with fail
  refine (frac_any g 0 _ R1.out (by omega)).mono ?_
  rintro e w2 ⟨n, d, rfl, hS, hR, hG⟩
  have E2 := hide (E1.out.grown hG (by omega))
  have B2 := hide (below_of B1.out (by omega) hG)
  have K := hide hS
  clear hR hG hS
  obtain ⟨r0, r1, r2, r3, r4⟩ := E2.out
  go_wp2
  refine bodyPost_ret (v := .agg #[.int .i64 n, .int .i64 d]) (by simp [results, Tryd.results25, go_sem, r0, r1]) rfl ⟨_, _, rfl, ?_, ?_⟩
  · have := K.out; unfold Sm; omega
  · exact st_set (st_set B2.out (by dsimp only; omega) _) (by dsimp only; omega) _
end Go.Proofs.YtaikebigaiimaaaDoor.Fx
