/-
  The contract of the reference's FracOf: it computes the plain function of XFp.
  Conditions: int64.
-/
import Derived.Test.YtaikebigaiimaaaDoorGr
namespace Go.Proofs.YtaikebigaiimaaaDoor.Fx
open Go.RowKit Fr

theorem gcd_specG (x : Nat) (y g : Int) (w : World) (hg : (Int.gcd (x : Int) y : Int) = g) (ha2 : x ≤ 4000000000000000000) (hb1 : 0 ≤ y) (hb2 : y ≤ 4000000000000000000) :
    Calls Tryd.prog 45 #[.int .i64 (x : Int), .int .i64 y] w fun e w' => e = .returned (.int .i64 g) ∧ w = w' := by
  subst hg
  exact gcd_spec x y w (by omega) (by omega) hb1 hb2
theorem gcd_an {a b g : Int} (hg : (Int.gcd a b : Int) = g) : (Int.gcd (a.natAbs : Int) b : Int) = g := by
  rw [← hg]; congr 1
theorem gcd_nn {a b g : Int} (hg : (Int.gcd a b : Int) = g) : (Int.gcd (a.natAbs : Int) (-b) : Int) = g := by
  rw [Int.gcd_neg]; exact gcd_an hg

set_option maxHeartbeats 1000000 in
theorem of_spec (a b : Int) (w : World) (hn1 : -9223372036854775808 ≤ a) (hn2 : a ≤ 9223372036854775807) (hd1 : -9223372036854775808 ≤ b) (hd2 : b ≤ 9223372036854775807) :
    Calls Tryd.prog 48 #[.int .i64 a, .int .i64 b] w fun e w' => e = .returned (.tuple #[.agg #[.int .i64 (ofN a b), .int .i64 (ofD a b)], .bool (ofOk a b)]) ∧ Below w.heap.size w w' := by
  by_cases h : b ≠ 0 ∧ -4000000000000000000 ≤ a ∧ a ≤ 4000000000000000000 ∧ -4000000000000000000 ≤ b ∧ b ≤ 4000000000000000000
  · obtain ⟨h0, h1, h2, h3, h4⟩ := h
    have hb0 : (b == 0) = false := by simpa using h0
    obtain ⟨g, hg⟩ : ∃ g : Int, (Int.gcd a b : Int) = g := ⟨_, rfl⟩
    have hg1 : 1 ≤ g := by rw [← hg]; exact gcd_pos h0
    have hg2 : g ≤ 4000000000000000000 := by have := gcd_le (a := a) h0; omega
    have ba := tdiv_bd (b := g) h1 h2
    have bb := tdiv_bd (b := g) h3 h4
    have hg0 : (g == 0) = false := by simp; omega
    have i1 := inB_yes h1 h2
    have i2 := inB_yes h3 h4
    by_cases hb : b < 0
    · have Q := hide (q_neg hg hb)
      have G := hide (gcd_nn hg)
      clear hg
      cases hv : okB (-a.tdiv g) (-b.tdiv g)
      · skip
        have O := hide (of_not Q.out.1 Q.out.2 hv)
        go_enter Tryd.func48, Tryd.ntmps48
        go_wp2_with (first
          | (go_at_call 37; refine (in_spec _ _ _ _).mono ?_; rintro e w' ⟨rfl, rfl⟩)
          | (go_at_call 46; refine (abs_spec _ _ (by omega) (by omega)).mono ?_; rintro e w' ⟨rfl, rfl⟩)
          | (go_at_call 45; refine (gcd_specG _ _ g _ G.out (by omega) (by omega) (by omega)).mono ?_; rintro e w' ⟨rfl, rfl⟩))
        go_region
        go_wp2_with fail
        refine (fv_spec _ _ _ (by omega) (by omega) (by omega) (by omega)).mono ?_
        rintro e w1 ⟨rfl, hb1⟩
        have hz : w.heap.size + 1 < w1.heap.size := by have := hb1.size; simp at this; omega
        have hz2 : w.heap.size < w1.heap.size := by omega
        have e0 : w1.cell? ⟨w.heap.size, 0, none⟩ = some (.int .i64 0) := keepc hb1 (by go_simp)
        have e1 : w1.cell? ⟨w.heap.size, 1, none⟩ = some (.int .i64 0) := keepc hb1 (by go_simp)
        have f0 : w1.frozen? ⟨w.heap.size, 0, none⟩ = false := keepf (v := .int .i64 0) hb1 (by go_simp) (by go_simp)
        have f1 : w1.frozen? ⟨w.heap.size, 1, none⟩ = false := keepf (v := .int .i64 0) hb1 (by go_simp) (by go_simp)
        have e2 : w1.cell? ⟨w.heap.size + 1, 0, none⟩ = some (.int .i64 (-a.tdiv g)) := keepc hb1 (by go_simp)
        have e3 : w1.cell? ⟨w.heap.size + 1, 1, none⟩ = some (.int .i64 (-b.tdiv g)) := keepc hb1 (by go_simp)
        go_wp2
        refine bodyPost_ret (v := .tuple #[.agg #[.int .i64 (0), .int .i64 (0)], .bool false]) (by simp [results, Tryd.results48, go_sem, e0, e1]) rfl ⟨ret_frac O.out.2.1 O.out.2.2 O.out.1, ?_⟩
        exact st_set (st_set (st_trans (st_alloc (st_dN (st_alloc (st_refl _) _) _) _) hb1) (Nat.le_refl _) _) (Nat.le_refl _) _
      · skip
        have O := hide (of_yes h0 h1 h2 h3 h4 Q.out.1 Q.out.2 hv)
        go_enter Tryd.func48, Tryd.ntmps48
        go_wp2_with (first
          | (go_at_call 37; refine (in_spec _ _ _ _).mono ?_; rintro e w' ⟨rfl, rfl⟩)
          | (go_at_call 46; refine (abs_spec _ _ (by omega) (by omega)).mono ?_; rintro e w' ⟨rfl, rfl⟩)
          | (go_at_call 45; refine (gcd_specG _ _ g _ G.out (by omega) (by omega) (by omega)).mono ?_; rintro e w' ⟨rfl, rfl⟩))
        go_region
        go_wp2_with fail
        refine (fv_spec _ _ _ (by omega) (by omega) (by omega) (by omega)).mono ?_
        rintro e w1 ⟨rfl, hb1⟩
        have hz : w.heap.size + 1 < w1.heap.size := by have := hb1.size; simp at this; omega
        have hz2 : w.heap.size < w1.heap.size := by omega
        have e0 : w1.cell? ⟨w.heap.size, 0, none⟩ = some (.int .i64 0) := keepc hb1 (by go_simp)
        have e1 : w1.cell? ⟨w.heap.size, 1, none⟩ = some (.int .i64 0) := keepc hb1 (by go_simp)
        have f0 : w1.frozen? ⟨w.heap.size, 0, none⟩ = false := keepf (v := .int .i64 0) hb1 (by go_simp) (by go_simp)
        have f1 : w1.frozen? ⟨w.heap.size, 1, none⟩ = false := keepf (v := .int .i64 0) hb1 (by go_simp) (by go_simp)
        have e2 : w1.cell? ⟨w.heap.size + 1, 0, none⟩ = some (.int .i64 (-a.tdiv g)) := keepc hb1 (by go_simp)
        have e3 : w1.cell? ⟨w.heap.size + 1, 1, none⟩ = some (.int .i64 (-b.tdiv g)) := keepc hb1 (by go_simp)
        go_wp2
        refine bodyPost_ret (v := .tuple #[.agg #[.int .i64 (-a.tdiv g), .int .i64 (-b.tdiv g)], .bool true]) (by simp [results, Tryd.results48, go_sem, e0, e1]) rfl ⟨ret_frac O.out.2.1 O.out.2.2 O.out.1, ?_⟩
        exact st_set (st_set (st_trans (st_alloc (st_dN (st_alloc (st_refl _) _) _) _) hb1) (Nat.le_refl _) _) (Nat.le_refl _) _
    · have Q := hide (q_pos hg (by omega))
      have G := hide (gcd_an hg)
      clear hg
      cases hv : okB (a.tdiv g) (b.tdiv g)
      · skip
        have O := hide (of_not Q.out.1 Q.out.2 hv)
        go_enter Tryd.func48, Tryd.ntmps48
        go_wp2_with (first
          | (go_at_call 37; refine (in_spec _ _ _ _).mono ?_; rintro e w' ⟨rfl, rfl⟩)
          | (go_at_call 46; refine (abs_spec _ _ (by omega) (by omega)).mono ?_; rintro e w' ⟨rfl, rfl⟩)
          | (go_at_call 45; refine (gcd_specG _ _ g _ G.out (by omega) (by omega) (by omega)).mono ?_; rintro e w' ⟨rfl, rfl⟩))
        go_region
        go_wp2_with fail
        refine (fv_spec _ _ _ (by omega) (by omega) (by omega) (by omega)).mono ?_
        rintro e w1 ⟨rfl, hb1⟩
        have hz : w.heap.size + 1 < w1.heap.size := by have := hb1.size; simp at this; omega
        have hz2 : w.heap.size < w1.heap.size := by omega
        have e0 : w1.cell? ⟨w.heap.size, 0, none⟩ = some (.int .i64 0) := keepc hb1 (by go_simp)
        have e1 : w1.cell? ⟨w.heap.size, 1, none⟩ = some (.int .i64 0) := keepc hb1 (by go_simp)
        have f0 : w1.frozen? ⟨w.heap.size, 0, none⟩ = false := keepf (v := .int .i64 0) hb1 (by go_simp) (by go_simp)
        have f1 : w1.frozen? ⟨w.heap.size, 1, none⟩ = false := keepf (v := .int .i64 0) hb1 (by go_simp) (by go_simp)
        have e2 : w1.cell? ⟨w.heap.size + 1, 0, none⟩ = some (.int .i64 (a.tdiv g)) := keepc hb1 (by go_simp)
        have e3 : w1.cell? ⟨w.heap.size + 1, 1, none⟩ = some (.int .i64 (b.tdiv g)) := keepc hb1 (by go_simp)
        go_wp2
        refine bodyPost_ret (v := .tuple #[.agg #[.int .i64 (0), .int .i64 (0)], .bool false]) (by simp [results, Tryd.results48, go_sem, e0, e1]) rfl ⟨ret_frac O.out.2.1 O.out.2.2 O.out.1, ?_⟩
        exact st_set (st_set (st_trans (st_alloc (st_dN (st_alloc (st_refl _) _) _) _) hb1) (Nat.le_refl _) _) (Nat.le_refl _) _
      · skip
        have O := hide (of_yes h0 h1 h2 h3 h4 Q.out.1 Q.out.2 hv)
        go_enter Tryd.func48, Tryd.ntmps48
        go_wp2_with (first
          | (go_at_call 37; refine (in_spec _ _ _ _).mono ?_; rintro e w' ⟨rfl, rfl⟩)
          | (go_at_call 46; refine (abs_spec _ _ (by omega) (by omega)).mono ?_; rintro e w' ⟨rfl, rfl⟩)
          | (go_at_call 45; refine (gcd_specG _ _ g _ G.out (by omega) (by omega) (by omega)).mono ?_; rintro e w' ⟨rfl, rfl⟩))
        go_region
        go_wp2_with fail
        refine (fv_spec _ _ _ (by omega) (by omega) (by omega) (by omega)).mono ?_
        rintro e w1 ⟨rfl, hb1⟩
        have hz : w.heap.size + 1 < w1.heap.size := by have := hb1.size; simp at this; omega
        have hz2 : w.heap.size < w1.heap.size := by omega
        have e0 : w1.cell? ⟨w.heap.size, 0, none⟩ = some (.int .i64 0) := keepc hb1 (by go_simp)
        have e1 : w1.cell? ⟨w.heap.size, 1, none⟩ = some (.int .i64 0) := keepc hb1 (by go_simp)
        have f0 : w1.frozen? ⟨w.heap.size, 0, none⟩ = false := keepf (v := .int .i64 0) hb1 (by go_simp) (by go_simp)
        have f1 : w1.frozen? ⟨w.heap.size, 1, none⟩ = false := keepf (v := .int .i64 0) hb1 (by go_simp) (by go_simp)
        have e2 : w1.cell? ⟨w.heap.size + 1, 0, none⟩ = some (.int .i64 (a.tdiv g)) := keepc hb1 (by go_simp)
        have e3 : w1.cell? ⟨w.heap.size + 1, 1, none⟩ = some (.int .i64 (b.tdiv g)) := keepc hb1 (by go_simp)
        go_wp2
        refine bodyPost_ret (v := .tuple #[.agg #[.int .i64 (a.tdiv g), .int .i64 (b.tdiv g)], .bool true]) (by simp [results, Tryd.results48, go_sem, e0, e1]) rfl ⟨ret_frac O.out.2.1 O.out.2.2 O.out.1, ?_⟩
        exact st_set (st_set (st_trans (st_alloc (st_dN (st_alloc (st_refl _) _) _) _) hb1) (Nat.le_refl _) _) (Nat.le_refl _) _
  · have O := hide (of_out h)
    by_cases c1 : -4000000000000000000 ≤ a ∧ a ≤ 4000000000000000000
    · have i1 := inB_yes c1.1 c1.2
      by_cases c2 : -4000000000000000000 ≤ b ∧ b ≤ 4000000000000000000
      · have i2 := inB_yes c2.1 c2.2
        obtain rfl : b = 0 := by omega
        go_enter Tryd.func48, Tryd.ntmps48
        go_wp2_with (go_at_call 37; refine (in_spec _ _ _ _).mono ?_; rintro e w' ⟨rfl, rfl⟩)
        refine bodyPost_ret (v := .tuple #[.agg #[.int .i64 0, .int .i64 0], .bool false]) (by simp [results, Tryd.results48, go_sem]) rfl ⟨ret_frac O.out.2.1 O.out.2.2 O.out.1, ?_⟩
        go_grown
      · have i2 := inB_no c2
        go_enter Tryd.func48, Tryd.ntmps48
        go_wp2_with (go_at_call 37; refine (in_spec _ _ _ _).mono ?_; rintro e w' ⟨rfl, rfl⟩)
        refine bodyPost_ret (v := .tuple #[.agg #[.int .i64 0, .int .i64 0], .bool false]) (by simp [results, Tryd.results48, go_sem]) rfl ⟨ret_frac O.out.2.1 O.out.2.2 O.out.1, ?_⟩
        go_grown
    · have i1 := inB_no c1
      go_enter Tryd.func48, Tryd.ntmps48
      go_wp2_with (go_at_call 37; refine (in_spec _ _ _ _).mono ?_; rintro e w' ⟨rfl, rfl⟩)
      refine bodyPost_ret (v := .tuple #[.agg #[.int .i64 0, .int .i64 0], .bool false]) (by simp [results, Tryd.results48, go_sem]) rfl ⟨ret_frac O.out.2.1 O.out.2.2 O.out.1, ?_⟩
      go_grown
end Go.Proofs.YtaikebigaiimaaaDoor.Fx
