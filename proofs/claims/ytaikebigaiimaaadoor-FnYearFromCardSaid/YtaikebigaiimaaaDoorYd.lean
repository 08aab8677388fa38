/-
  The drawing of years and ages.
  Conditions: the bytes can be read.
-/
import Derived.Test.YtaikebigaiimaaaDoorDraw
namespace Go.Proofs.YtaikebigaiimaaaDoor
open Go.RowKit

/-- a year was drawn; the reader alone has turned -/
def Yeared (w : World) (g N : Nat) (e : Ending) (w' : World) : Prop :=
  ∃ y : Int, e = .returned (.int .i64 y) ∧ -300000 ≤ y ∧ y ≤ 300000 ∧ Rd w' g (N + 3) ∧ w.grownBy w' (some g)

theorem four {y : Int} (h1 : 0 ≤ y) (h2 : y < 4) : y = 0 ∨ y = 1 ∨ y = 2 ∨ y = 3 := by omega

set_option maxHeartbeats 2000000 in
theorem year_any (g N : Nat) (w : World) (h : Rd w g N) (hN : N ≤ 999990) :
    Calls Tryd.prog 29 #[.pointer (some ⟨g, 0, none⟩)] w (Yeared w g N) := by
  have H := Lib.hid h
  clear h
  go_enter Tryd.func29, Tryd.ntmps29
  go_wp2_with fail
  refine (pick_any g N 16 _ H.out (by omega) (by omega) (by omega)).mono ?_
  rintro e w1 ⟨x, rfl, hx1, hx2, hR, hG⟩
  have R1 := Lib.hid hR
  have G1 := Lib.hid hG
  clear hR hG
  by_cases x0 : x = 0
  · subst x0
    go_wp2_with fail
    refine (pick_any g (N + 1) 4 _ (R1.out.kept (World.grownBy_alloc _ _ none) (fun k hk => by cases hk)) (by omega) (by omega) (by omega)).mono ?_
    rintro e w2 ⟨y, rfl, hy1, hy2, hR, hG⟩
    have hne : w1.heap.size ≠ g := by have := R1.out.lt; omega
    have c0 : w2.cell? ⟨w1.heap.size, 0, none⟩ = some (.int .i64 200000) := old_cell hG (by go_simp) hne
    have c1 : w2.cell? ⟨w1.heap.size, 1, none⟩ = some (.int .i64 (-200000)) := old_cell hG (by go_simp) hne
    have c2 : w2.cell? ⟨w1.heap.size, 2, none⟩ = some (.int .i64 200001) := old_cell hG (by go_simp) hne
    have c3 : w2.cell? ⟨w1.heap.size, 3, none⟩ = some (.int .i64 (-200001)) := old_cell hG (by go_simp) hne
    have R2 := Lib.hid hR
    have G2 := Lib.hid (grown_trans (grown_alloc G1.out _) hG)
    clear hR hG hne
    rcases four hy1 hy2 with rfl | rfl | rfl | rfl
    all_goals
      go_wp2
      go_ret
      exact ⟨_, rfl, by omega, by omega, R2.out.mono (by omega), G2.out⟩
  · have b0 : (x == 0) = false := by simpa using x0
    by_cases x1 : x = 1 ∨ x = 2 ∨ x = 3
    · rcases x1 with rfl | rfl | rfl
      all_goals
        go_wp2_with fail
        refine (pick_any g (N + 1) 5 _ R1.out (by omega) (by omega) (by omega)).mono ?_
        rintro e w2 ⟨y, rfl, hy1, hy2, hR, hG⟩
        have R2 := Lib.hid hR
        have G2 := Lib.hid (grown_trans G1.out hG)
        clear hR hG
        go_wp2
        go_ret
        exact ⟨_, rfl, by omega, by omega, R2.out.mono (by omega), G2.out⟩
    · have b1 : (x == 1) = false := by simp; omega
      have b2 : (x == 2) = false := by simp; omega
      have b3 : (x == 3) = false := by simp; omega
      go_wp2_with fail
      refine (pick_any g (N + 1) 200 _ R1.out (by omega) (by omega) (by omega)).mono ?_
      rintro e w2 ⟨y, rfl, hy1, hy2, hR, hG⟩
      have R2 := Lib.hid hR
      have G2 := Lib.hid (grown_trans G1.out hG)
      clear hR hG
      go_wp2_with fail
      refine (pick_any g (N + 1 + 1) 40 _ R2.out (by omega) (by omega) (by omega)).mono ?_
      rintro e w3 ⟨z, rfl, hz1, hz2, hR, hG⟩
      have R3 := Lib.hid hR
      have G3 := Lib.hid (grown_trans G2.out hG)
      clear hR hG
      go_wp2
      go_ret
      exact ⟨_, rfl, by omega, by omega, R3.out.mono (by omega), G3.out⟩
end Go.Proofs.YtaikebigaiimaaaDoor
