/-
  What the laws' walks over drawn regions use.
  Conditions: int64.
-/
import Derived.Test.YtodjnmjdilgocaaFg
import Derived.Deep.RegionHeld3
import Derived.Deep.DeepCutAuto
namespace Go.Proofs.Ytodjnmjdilgocaa
open Go.RowKit Fr

/-- behind a two-valued assignment: slot s holds a pointer to a new block with the fraction, slot t the bool; what lay there has not turned -/
def Got (W0 : World) (n d : Int) (o : Bool) (s t : Value) (wx : World) : Prop :=
  ∃ g : Nat, s = .pointer (some ⟨g, 0, none⟩) ∧ t = .bool o ∧ wx.cell? ⟨g, 0, none⟩ = some (.int .i64 n) ∧ wx.cell? ⟨g, 1, none⟩ = some (.int .i64 d) ∧ Below W0.heap.size W0 wx
theorem wrap_neg (n : Int) (h1 : -1000000000 ≤ n) (h2 : n ≤ 1000000000) : IntKind.i64.wrap (-n) = -n := IntWalk.i64_in _ ⟨by omega, by omega⟩
theorem wrap_neg2 (n : Int) (h1 : -1000000000 ≤ n) (h2 : n ≤ 1000000000) : IntKind.i64.wrap (0 - n) = -n := by rw [Int.zero_sub]; exact wrap_neg n h1 h2
theorem name_world (W : World) : ∃ W0 : World, W0 = W := ⟨W, rfl⟩
theorem less_as {an ad bn bd : Int} {o : Bool} (h : lessB an ad bn bd = o) (i : I4 an ad bn bd) (w : World) :
    Calls Try.prog 19 #[.agg #[.int .i64 an, .int .i64 ad], .agg #[.int .i64 bn, .int .i64 bd]] w fun e w' => e = .returned (.bool o) ∧ Below w.heap.size w w' := by
  subst h
  exact less_impl an ad bn bd w i.1 i.2.1 i.2.2.1 i.2.2.2
theorem floor_as {n d f : Int} {o : Bool} (h : floV n d = f ∧ okB n d = o) (i : I64 n ∧ I64 d) (w : World) :
    Calls Try.prog 21 #[.agg #[.int .i64 n, .int .i64 d]] w fun e w' => e = .returned (.tuple #[.int .i64 f, .bool o]) ∧ Below w.heap.size w w' := by
  obtain ⟨rfl, rfl⟩ := h
  exact floor_impl n d w i.1 i.2
end Go.Proofs.Ytodjnmjdilgocaa
