/-
  The drawing of a law's input: years, ages, two numbers of eras.
  Conditions: the bytes can be read.
-/
import Derived.Test.YtaikebigaiimaaaDoorYd
import Derived.Deep.RegionWith
namespace Go.Proofs.YtaikebigaiimaaaDoor
open Go.RowKit

theorem two_val {y : Int} (h1 : 0 ≤ y) (h2 : y < 2) : ∃ v : Int, -300000 ≤ v ∧ v ≤ 300000 ∧ (#[Value.int .i64 (-200002), Value.int .i64 200001] : Array Value)[y.toNat]? = some (.int .i64 v) ∧ [Value.int .i64 (-200002), Value.int .i64 200001][y.toNat]? = some (.int .i64 v) := by
  have : y = 0 ∨ y = 1 := by omega
  rcases this with rfl | rfl
  · exact ⟨-200002, by omega, by omega, rfl, rfl⟩
  · exact ⟨200001, by omega, by omega, rfl, rfl⟩
theorem idx_cell {w4 w5 : World} {g i : Nat} {cs : Array Value} {T : TypeId} {v : Value} (hG : (w4.alloc (.cells cs T)).drew.grownBy w5 (some g)) (hne : w4.heap.size ≠ g) (h : cs[i]? = some v) : w5.cell? ⟨w4.heap.size, i, none⟩ = some v :=
  old_cell hG (by
    show (w4.alloc (.cells cs T)).cell? _ = _
    rw [World.cell?_alloc_new]; exact h) hne
/-- an int was drawn; nothing older has turned -/
def DrawnI (B : Int) (w : World) (e : Ending) (w' : World) : Prop :=
  ∃ y : Int, e = .returned (.int .i64 y) ∧ -B ≤ y ∧ y ≤ B ∧ Below w.heap.size w w'
/-- two ints were drawn; nothing older has turned -/
def DrawnII (B : Int) (w : World) (e : Ending) (w' : World) : Prop :=
  ∃ x y : Int, e = .returned (.tuple #[.int .i64 x, .int .i64 y]) ∧ -B ≤ x ∧ x ≤ B ∧ -B ≤ y ∧ y ≤ B ∧ Below w.heap.size w w'
theorem below_of {w w1 w2 : World} {g : Nat} (h : Below w.heap.size w w1) (hg : w.heap.size ≤ g) (k : w1.grownBy w2 (some g)) : Below w.heap.size w w2 :=
  h.grown k h.size (fun _ e => by cases e; exact hg)

set_option maxHeartbeats 1000000 in
theorem dDrawYearText (a : Option Addr) (len cap : Nat) (w : World) (h : Code w a len cap) : Calls Tryd.prog 14 #[.slice a len cap] w (DrawnI 300000 w) := by
  have H := Lib.hid h
  clear h
  go_enter Tryd.func14, Tryd.ntmps14
  go_wp2_with fail
  refine (open_any a len cap _ H.out).mono ?_
  rintro e w1 ⟨g, rfl, hg, hR, hB⟩
  have R1 := Lib.hid hR
  have B1 := Lib.hid hB
  clear hR hB
  go_wp2_with fail
  refine (year_any g 0 _ R1.out (by omega)).mono ?_
  rintro e w2 ⟨y, rfl, h1, h2, hR, hG⟩
  have B2 := Lib.hid (below_of B1.out hg hG)
  clear hR hG
  go_wp2
  go_ret
  exact ⟨y, rfl, h1, h2, B2.out⟩
set_option maxHeartbeats 1000000 in
theorem dDrawYearOf (a : Option Addr) (len cap : Nat) (w : World) (h : Code w a len cap) : Calls Tryd.prog 18 #[.slice a len cap] w (DrawnI 500000 w) := by
  have H := Lib.hid h
  clear h
  go_enter Tryd.func18, Tryd.ntmps18
  go_wp2_with fail
  refine (open_any a len cap _ H.out).mono ?_
  rintro e w1 ⟨g, rfl, hg, hR, hB⟩
  have R1 := Lib.hid hR
  have B1 := Lib.hid hB
  clear hR hB
  go_wp2_with fail
  refine (pick_any g 0 12 _ R1.out (by omega) (by omega) (by omega)).mono ?_
  rintro e w2 ⟨x, rfl, hx1, hx2, hR, hG⟩
  have R2 := Lib.hid hR
  have B2 := Lib.hid (below_of B1.out hg hG)
  clear hR hG
  by_cases x0 : x = 0
  · subst x0
    go_wp2_with fail
    refine (pick_any g (0 + 1) 4 _ (R2.out.kept (World.grownBy_alloc _ _ none) (fun k hk => by cases hk)) (by omega) (by omega) (by omega)).mono ?_
    rintro e w3 ⟨y, rfl, hy1, hy2, hR, hG⟩
    have hne : w2.heap.size ≠ g := by have := R2.out.lt; omega
    have c0 : w3.cell? ⟨w2.heap.size, 0, none⟩ = some (.int .i64 (-400001)) := old_cell hG (by go_simp) hne
    have c1 : w3.cell? ⟨w2.heap.size, 1, none⟩ = some (.int .i64 400001) := old_cell hG (by go_simp) hne
    have c2 : w3.cell? ⟨w2.heap.size, 2, none⟩ = some (.int .i64 202000) := old_cell hG (by go_simp) hne
    have c3 : w3.cell? ⟨w2.heap.size, 3, none⟩ = some (.int .i64 202001) := old_cell hG (by go_simp) hne
    have B3 := Lib.hid (below_of (B2.out.alloc B2.out.size (.cells #[.int .i64 (-400001), .int .i64 400001, .int .i64 202000, .int .i64 202001] 3)) hg hG)
    clear hR hG hne
    rcases four hy1 hy2 with rfl | rfl | rfl | rfl
    all_goals
      go_wp2
      go_ret
      exact ⟨_, rfl, by omega, by omega, B3.out⟩
  · have b0 : (x == 0) = false := by simpa using x0
    go_wp2_with fail
    refine (year_any g (0 + 1) _ R2.out (by omega)).mono ?_
    rintro e w3 ⟨y, rfl, hy1, hy2, hR, hG⟩
    have B3 := Lib.hid (below_of B2.out hg hG)
    clear hR hG
    go_wp2
    go_ret
    exact ⟨_, rfl, by omega, by omega, B3.out⟩
end Go.Proofs.YtaikebigaiimaaaDoor
