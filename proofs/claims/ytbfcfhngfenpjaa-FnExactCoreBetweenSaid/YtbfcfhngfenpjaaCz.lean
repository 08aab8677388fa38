/-
  How a slice of pieces that came in reads.
  Conditions: none.
-/
import Derived.Test.YtbfcfhngfenpjaaBase
import Derived.Test.YtbfcfhngfenpjaaCa
import Derived.Deep.SlicePairs
namespace Go.Proofs.Ytbfcfhngfenpjaa
open Go.ChangeShapes Go.WideShapes Go.ChangeAt Go.RowKit Go.Joins Go.Deep

theorem add_flat (b off i : Nat) : Addr.add ⟨b, off, none⟩ i = ⟨b, off + i, none⟩ := by
  unfold Addr.add
  split <;> simp_all
theorem pcs_of_trod {H : Type} {enc : TypeId × Value → H} {W : World} {base : Nat} {sp : Nat → Bool} {held : Bool} {a0 : Option Addr} {len0 cap0 : Nat} {d : DataW H} {p : List MemPlace}
    (h0 : DataW.Trod enc Try.prog W base sp held 22 (.slice a0 len0 cap0) d p) (hs : sp = (fun _ => true) := by rfl) : ∃ l, Rs W a0 len0 cap0 l := by
  subst hs
  obtain ⟨fuel, hf⟩ := h0
  rcases open_slice_pairs Try.underlying22 Try.underlying48 (by kernel_rfl) (by kernel_rfl) (by kernel_rfl) (by kernel_rfl) (by kernel_rfl) hf with ⟨hcs, _⟩ | ⟨x, len, cap, m, n, V0, V1, D0, D1, P0, P1, hcs, _, hl, hm, hmm, _, hx⟩
  · simp [Value.cells] at hcs
    obtain ⟨rfl, rfl, rfl⟩ := hcs
    exact ⟨[], ⟨rfl, Nat.le_refl _, Nat.zero_le _, fun i hi => absurd hi (Nat.not_lt_zero _), fun h => absurd h (Nat.lt_irrefl _)⟩⟩
  · simp [Value.cells] at hcs
    obtain ⟨rfl, rfl, rfl⟩ := hcs
    have hm2 : m = cap0 := by simpa using hmm
    subst hm2
    have hint : ∀ i, i < m → ∃ a b : Int, V0 i = .int .i64 a ∧ V1 i = .int .i64 b ∧ I64 a ∧ I64 b := fun i hi => by
      obtain ⟨_, _, h2, h3⟩ := hx i hi
      obtain ⟨a, e0, _, wa⟩ := DataW.trod_int Try.underlying3 h2
      obtain ⟨b, e1, _, wb⟩ := DataW.trod_int Try.underlying3 h3
      simp at e0 e1
      exact ⟨a, b, e0, e1, bd_of_wf wa, bd_of_wf wb⟩
    obtain ⟨f, hfz⟩ : ∃ f : Nat → Int × Int, ∀ i, i < m → V0 i = .int .i64 (f i).1 ∧ V1 i = .int .i64 (f i).2 ∧ I64 (f i).1 ∧ I64 (f i).2 := by
      refine ⟨fun i => if h : i < m then ((hint i h).choose, (hint i h).choose_spec.choose) else (0, 0), fun i hi => ?_⟩
      simp only [dif_pos hi]
      exact (hint i hi).choose_spec.choose_spec
    refine ⟨(List.range len0).map f, ⟨by simp, hl, hm, fun i hi => ?_, fun hpos => ?_⟩⟩
    · have hi' : i < len0 := by simpa using hi
      have := hfz i (by omega)
      simp only [List.getElem_map, List.getElem_range]
      exact this.2.2
    · obtain ⟨b, off, spot⟩ := x
      have hc := (hx 0 (by omega)).1
      have hspot : spot = none := by simpa [Addr.add] using World.cell?_spot hc
      subst hspot
      refine ⟨b, off, rfl, World.block_lt_of_cell? W _ hc, fun i hi => ?_⟩
      have hi' : i < len0 := by simpa using hi
      obtain ⟨g0, g1, _, _⟩ := hx i (by omega)
      obtain ⟨e0, e1, _⟩ := hfz i (by omega)
      simp only [List.getElem_map, List.getElem_range]
      rw [add_flat] at g0 g1
      exact ⟨by rw [g0, e0], by rw [Nat.add_assoc, g1, e1]⟩
end Go.Proofs.Ytbfcfhngfenpjaa
