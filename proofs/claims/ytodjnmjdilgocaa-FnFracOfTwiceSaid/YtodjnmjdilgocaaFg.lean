/-
  What the laws' walks use: the contracts with the answers named.
  Conditions: int64.
-/
import Derived.Test.YtodjnmjdilgocaaFe
import Derived.Test.YtodjnmjdilgocaaFl
namespace Go.Proofs.Ytodjnmjdilgocaa
open Go.RowKit Fr

/-- a fraction and a bool were answered; nothing older has turned -/
def Fx (W : World) (n d : Int) (o : Bool) (e : Ending) (w' : World) : Prop := e = .returned (.tuple #[.agg #[.int .i64 n, .int .i64 d], .bool o]) ∧ Below W.heap.size W w'
def I4 (an ad bn bd : Int) : Prop := I64 an ∧ I64 ad ∧ I64 bn ∧ I64 bd
theorem i4 {an ad bn bd : Int} (h : S9 an ad) (k : S9 bn bd) : I4 an ad bn bd := by
  unfold S9 at h k; unfold I4 I64; omega
theorem s9_ok {n d : Int} (h : Ok n d) : S9 n d := h.b9
theorem s9_z : S9 0 0 := by unfold S9; omega
theorem s9_c (n d : Int) (h : -100 ≤ n ∧ n ≤ 100 ∧ -100 ≤ d ∧ d ≤ 100) : S9 n d := by unfold S9; omega

theorem s9_add (an ad bn bd : Int) : S9 (addN an ad bn bd) (addD an ad bn bd) := by
  cases h : addOk an ad bn bd
  · unfold addN addD; rw [h]; exact s9_z
  · exact s9_ok (add_val h).2.2.1
theorem add_as_impl {an ad bn bd n d : Int} {o : Bool} (h : addOk an ad bn bd = o ∧ addN an ad bn bd = n ∧ addD an ad bn bd = d) (i : I4 an ad bn bd) (w : World) :
    Calls Try.prog 26 #[.agg #[.int .i64 an, .int .i64 ad], .agg #[.int .i64 bn, .int .i64 bd]] w (Fx w n d o) := by
  obtain ⟨rfl, rfl, rfl⟩ := h
  exact add_impl an ad bn bd w i.1 i.2.1 i.2.2.1 i.2.2.2
theorem add_as_spec {an ad bn bd n d : Int} {o : Bool} (h : addOk an ad bn bd = o ∧ addN an ad bn bd = n ∧ addD an ad bn bd = d) (i : I4 an ad bn bd) (w : World) :
    Calls Try.prog 25 #[.agg #[.int .i64 an, .int .i64 ad], .agg #[.int .i64 bn, .int .i64 bd]] w (Fx w n d o) := by
  obtain ⟨rfl, rfl, rfl⟩ := h
  exact add_spec an ad bn bd w i.1 i.2.1 i.2.2.1 i.2.2.2

theorem s9_sub (an ad bn bd : Int) : S9 (subN an ad bn bd) (subD an ad bn bd) := by
  cases h : subOk an ad bn bd
  · unfold subN subD; rw [h]; exact s9_z
  · exact s9_ok (sub_val h).2.2.1
theorem sub_as_impl {an ad bn bd n d : Int} {o : Bool} (h : subOk an ad bn bd = o ∧ subN an ad bn bd = n ∧ subD an ad bn bd = d) (i : I4 an ad bn bd) (w : World) :
    Calls Try.prog 32 #[.agg #[.int .i64 an, .int .i64 ad], .agg #[.int .i64 bn, .int .i64 bd]] w (Fx w n d o) := by
  obtain ⟨rfl, rfl, rfl⟩ := h
  exact sub_impl an ad bn bd w i.1 i.2.1 i.2.2.1 i.2.2.2
theorem sub_as_spec {an ad bn bd n d : Int} {o : Bool} (h : subOk an ad bn bd = o ∧ subN an ad bn bd = n ∧ subD an ad bn bd = d) (i : I4 an ad bn bd) (w : World) :
    Calls Try.prog 31 #[.agg #[.int .i64 an, .int .i64 ad], .agg #[.int .i64 bn, .int .i64 bd]] w (Fx w n d o) := by
  obtain ⟨rfl, rfl, rfl⟩ := h
  exact sub_spec an ad bn bd w i.1 i.2.1 i.2.2.1 i.2.2.2

theorem s9_mul (an ad bn bd : Int) : S9 (mulN an ad bn bd) (mulD an ad bn bd) := by
  cases h : mulOk an ad bn bd
  · unfold mulN mulD; rw [h]; exact s9_z
  · exact s9_ok (mul_val h).2.2.1
theorem mul_as_impl {an ad bn bd n d : Int} {o : Bool} (h : mulOk an ad bn bd = o ∧ mulN an ad bn bd = n ∧ mulD an ad bn bd = d) (i : I4 an ad bn bd) (w : World) :
    Calls Try.prog 30 #[.agg #[.int .i64 an, .int .i64 ad], .agg #[.int .i64 bn, .int .i64 bd]] w (Fx w n d o) := by
  obtain ⟨rfl, rfl, rfl⟩ := h
  exact mul_impl an ad bn bd w i.1 i.2.1 i.2.2.1 i.2.2.2
theorem mul_as_spec {an ad bn bd n d : Int} {o : Bool} (h : mulOk an ad bn bd = o ∧ mulN an ad bn bd = n ∧ mulD an ad bn bd = d) (i : I4 an ad bn bd) (w : World) :
    Calls Try.prog 29 #[.agg #[.int .i64 an, .int .i64 ad], .agg #[.int .i64 bn, .int .i64 bd]] w (Fx w n d o) := by
  obtain ⟨rfl, rfl, rfl⟩ := h
  exact mul_spec an ad bn bd w i.1 i.2.1 i.2.2.1 i.2.2.2

theorem s9_div (an ad bn bd : Int) : S9 (divN an ad bn bd) (divD an ad bn bd) := by
  cases h : divOk an ad bn bd
  · unfold divN divD; rw [h]; exact s9_z
  · exact s9_ok (div_val h).2.2.1
theorem div_as_impl {an ad bn bd n d : Int} {o : Bool} (h : divOk an ad bn bd = o ∧ divN an ad bn bd = n ∧ divD an ad bn bd = d) (i : I4 an ad bn bd) (w : World) :
    Calls Try.prog 28 #[.agg #[.int .i64 an, .int .i64 ad], .agg #[.int .i64 bn, .int .i64 bd]] w (Fx w n d o) := by
  obtain ⟨rfl, rfl, rfl⟩ := h
  exact div_impl an ad bn bd w i.1 i.2.1 i.2.2.1 i.2.2.2
theorem div_as_spec {an ad bn bd n d : Int} {o : Bool} (h : divOk an ad bn bd = o ∧ divN an ad bn bd = n ∧ divD an ad bn bd = d) (i : I4 an ad bn bd) (w : World) :
    Calls Try.prog 27 #[.agg #[.int .i64 an, .int .i64 ad], .agg #[.int .i64 bn, .int .i64 bd]] w (Fx w n d o) := by
  obtain ⟨rfl, rfl, rfl⟩ := h
  exact div_spec an ad bn bd w i.1 i.2.1 i.2.2.1 i.2.2.2

end Go.Proofs.Ytodjnmjdilgocaa
