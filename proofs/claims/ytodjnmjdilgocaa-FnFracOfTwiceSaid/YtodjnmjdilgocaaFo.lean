/-
  The drawing DrawFracOf: two ints.
  Conditions: the bytes can be read.
-/
import Derived.Test.YtodjnmjdilgocaaFe
import Derived.Deep.RegionWith
namespace Go.Proofs.Ytodjnmjdilgocaa
open Go.RowKit Fr

def I64' (n : Int) : Prop := -9223372036854775808 ≤ n ∧ n ≤ 9223372036854775807
/-- two ints were drawn; nothing older has turned -/
def DrawnII (w : World) (e : Ending) (w' : World) : Prop :=
  ∃ x y : Int, e = .returned (.tuple #[.int .i64 x, .int .i64 y]) ∧ I64' x ∧ I64' y ∧ Below w.heap.size w w'

/-- what the region keeps: the reader, and what is older than the call -/
structure Inv (w : World) (g N : Nat) (W : World) : Prop where
  rd : Rd W g N
  b : Below w.heap.size w W
theorem Inv.drew {w W : World} {g N : Nat} (h : Inv w g N W) : Inv w g N W.drew := ⟨h.rd, h.b.drew⟩
theorem Inv.alloc {w W : World} {g N : Nat} (h : Inv w g N W) (q : Obj) : Inv w g N (W.alloc q) := ⟨h.rd.alloc q, st_alloc h.b q⟩
theorem Inv.grown {w W W' : World} {g N : Nat} (h : Inv w g N W) (r : Rd W' g (N + 1)) (k : W.grownBy W' (some g)) (hg : w.heap.size ≤ g) : Inv w g (N + 1) W' := ⟨r, below_of h.b hg k⟩
theorem Inv.ne {w W : World} {g N : Nat} (h : Inv w g N W) : ¬ W.heap.size = g := by have := h.rd.lt; omega
theorem Inv.ne' {w W : World} {g N : Nat} (h : Inv w g N W) : ¬ W.heap.size + 1 = g := by have := h.rd.lt; omega
theorem old_cells {W w' : World} {g : Nat} (hg : W.grownBy w' (some g)) : ∀ b o, b < W.heap.size → b ≠ g → w'.cell? ⟨b, o, none⟩ = W.cell? ⟨b, o, none⟩ :=
  fun b _ hb hne => World.cell?_of_block (hg.block b hb (fun e => hne (Option.some.inj e)))
theorem three_val {y : Int} (h1 : 0 ≤ y) (h2 : y < 3) : ∃ v u : Int, I64' v ∧ I64' u ∧ (#[Value.int .i64 4000000000000000000, Value.int .i64 4000000000000000001, Value.int .i64 (-9223372036854775808)] : Array Value)[y.toNat]? = some (.int .i64 v) ∧ (#[Value.int .i64 2000000000000000000, Value.int .i64 1, Value.int .i64 8000000000] : Array Value)[y.toNat]? = some (.int .i64 u) ∧ ([Value.int .i64 4000000000000000000, Value.int .i64 4000000000000000001, Value.int .i64 (-9223372036854775808)] : List Value)[y.toNat]? = some (.int .i64 v) ∧ ([Value.int .i64 2000000000000000000, Value.int .i64 1, Value.int .i64 8000000000] : List Value)[y.toNat]? = some (.int .i64 u) ∧ (∀ h, ([Value.int .i64 4000000000000000000, Value.int .i64 4000000000000000001, Value.int .i64 (-9223372036854775808)] : List Value)[y.toNat]'h = .int .i64 v) ∧ (∀ h, ([Value.int .i64 2000000000000000000, Value.int .i64 1, Value.int .i64 8000000000] : List Value)[y.toNat]'h = .int .i64 u) := by
  rcases three h1 h2 with rfl | rfl | rfl
  · exact ⟨_, _, by unfold I64'; omega, by unfold I64'; omega, rfl, rfl, rfl, rfl, fun _ => rfl, fun _ => rfl⟩
  · exact ⟨_, _, by unfold I64'; omega, by unfold I64'; omega, rfl, rfl, rfl, rfl, fun _ => rfl, fun _ => rfl⟩
  · exact ⟨_, _, by unfold I64'; omega, by unfold I64'; omega, rfl, rfl, rfl, rfl, fun _ => rfl, fun _ => rfl⟩

set_option maxHeartbeats 8000000 in
theorem dDrawFracOf (a : Option Addr) (len cap : Nat) (w : World) (h : Code w a len cap) : Calls Try.prog 33 #[.slice a len cap] w (DrawnII w) := by
  have H := hide h
  clear h
  go_enter Try.func33, Try.ntmps33
  go_wp2_with fail
  refine (open_any a len cap _ H.out).mono ?_
  rintro e w1 ⟨g, rfl, hg, hR, hB⟩
  have R1 := hide hR
  have B1 := hide hB
  clear hR hB
  go_wp2_with fail
  refine (pick_any g 0 16 _ R1.out (by omega) (by omega) (by omega)).mono ?_
  rintro e w2 ⟨x, rfl, hx1, hx2, hR, hG⟩
  have R2 := hide hR
  have B2 := hide (below_of B1.out hg hG)
  clear hR hG
  by_cases x0 : x = 0
  · subst x0
    go_wp2_with fail
    refine (pick_any g (0 + 1) 9 _ R2.out (by omega) (by omega) (by omega)).mono ?_
    rintro e w3 ⟨y, rfl, hy1, hy2, hR, hG⟩
    have B3 := hide (below_of B2.out hg hG)
    clear hR hG
    go_wp2
    go_ret2
    exact ⟨_, _, rfl, by unfold I64'; omega, by unfold I64'; omega, B3.out⟩
  · have b0 : (x == 0) = false := by simpa using x0
    by_cases x1 : x = 1
    · subst x1
      have hgl := R2.out.lt
      go_wp2_with fail
      have V0 := hide (Inv.mk R2.out B2.out)
      have hne := V0.out.ne
      have hne' := V0.out.ne'
      go_region_with ((go_at_call 43; refine (pick_any g _ 3 _ (Inv.rd (w := w) (by first | exact Hid.out (by assumption) | exact Inv.drew (Hid.out (by assumption)) | exact Inv.alloc (Hid.out (by assumption)) _ | exact Inv.drew (Inv.alloc (Hid.out (by assumption)) _) | exact Inv.alloc (Inv.alloc (Hid.out (by assumption)) _) _ | exact Inv.drew (Inv.alloc (Inv.alloc (Hid.out (by assumption)) _) _))) (by omega) (by omega) (by omega)).mono ?_; rintro e wx ⟨y, rfl, hy1, hy2, hR, hG⟩; have VX := hide (Inv.grown (w := w) (by first | exact Hid.out (by assumption) | exact Inv.drew (Hid.out (by assumption)) | exact Inv.alloc (Hid.out (by assumption)) _ | exact Inv.drew (Inv.alloc (Hid.out (by assumption)) _) | exact Inv.alloc (Inv.alloc (Hid.out (by assumption)) _) _ | exact Inv.drew (Inv.alloc (Inv.alloc (Hid.out (by assumption)) _) _)) hR hG hg); have hnx := VX.out.ne; have hnx' := VX.out.ne'; have hcx := old_cells hG; have hsx := hG.size; (try simp at hsx); (try have hsy := Nat.lt_of_succ_le hsx); (try have hsz := Nat.lt_of_succ_lt hsy); (try have hlx := Nat.lt_of_lt_of_le (by assumption) hsx); clear hR hG; obtain ⟨v, u, hv, hu, e1, e2, e3, e4, e5, e6⟩ := three_val hy1 hy2))
      all_goals
        go_wp2
        go_ret2
        refine ⟨_, _, rfl, by assumption, by assumption, ?_⟩
        first | exact Inv.b (Hid.out (by assumption)) | exact Inv.b (Inv.drew (Hid.out (by assumption))) | exact Inv.b (Inv.alloc (Hid.out (by assumption)) _) | exact Inv.b (Inv.drew (Inv.alloc (Hid.out (by assumption)) _)) | exact Inv.b (Inv.alloc (Inv.alloc (Hid.out (by assumption)) _) _) | exact Inv.b (Inv.drew (Inv.alloc (Inv.alloc (Hid.out (by assumption)) _) _))
    · have b1 : (x == 1) = false := by simpa using x1
      go_wp2_with fail
      refine (pick_any g (0 + 1) 200 _ R2.out (by omega) (by omega) (by omega)).mono ?_
      rintro e w3 ⟨y, rfl, hy1, hy2, hR, hG⟩
      have R3 := hide hR
      have B3 := hide (below_of B2.out hg hG)
      clear hR hG
      go_wp2_with fail
      refine (pick_any g (0 + 1 + 1) 41 _ R3.out (by omega) (by omega) (by omega)).mono ?_
      rintro e w4 ⟨z, rfl, hz1, hz2, hR, hG⟩
      have B4 := hide (below_of B3.out hg hG)
      clear hR hG
      go_wp2
      go_ret2
      exact ⟨_, _, rfl, by unfold I64'; omega, by unfold I64'; omega, B4.out⟩
end Go.Proofs.Ytodjnmjdilgocaa
