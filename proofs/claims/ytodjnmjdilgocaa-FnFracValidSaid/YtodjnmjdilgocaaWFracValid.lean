/-
  The walk of the law FnFracValid.
  Conditions: the bytes can be read.
-/
import Derived.Test.YtodjnmjdilgocaaFg
namespace Go.Proofs.Ytodjnmjdilgocaa
open Go.RowKit Fr

theorem fv_as {n d : Int} {o : Bool} (h : okB n d = o) (i : I64 n ∧ I64 d) (w : World) :
    Calls Try.prog 17 #[.agg #[.int .i64 n, .int .i64 d]] w fun e w' => e = .returned (.bool o) ∧ Below w.heap.size w w' := by
  subst h; exact fv_impl n d w i.1.1 i.1.2 i.2.1 i.2.2
theorem fv_as' {n d : Int} {o : Bool} (h : okB n d = o) (i : I64 n ∧ I64 d) (w : World) :
    Calls Try.prog 15 #[.agg #[.int .i64 n, .int .i64 d]] w fun e w' => e = .returned (.bool o) ∧ Below w.heap.size w w' := by
  subst h; exact fv_spec n d w i.1.1 i.1.2 i.2.1 i.2.2
theorem of_as {a b n d : Int} {o : Bool} (h : ofOk a b = o ∧ ofN a b = n ∧ ofD a b = d) (i : I64 a ∧ I64 b) (w : World) :
    Calls Try.prog 23 #[.int .i64 a, .int .i64 b] w (Fx w n d o) := by
  obtain ⟨rfl, rfl, rfl⟩ := h
  exact of_impl a b w i.1.1 i.1.2 i.2.1 i.2.2

set_option maxHeartbeats 4000000 in
theorem dDrawFracValid (a : Option Addr) (len cap : Nat) (w : World) (h : Code w a len cap) : Calls Try.prog 35 #[.slice a len cap] w (DrawnF w) := by
  have H := hide (code_alloc h (.cells #[.int .i64 0, .int .i64 0] 25))
  have E := hide (Res.new w 25)
  clear h
  go_enter Try.func35, Try.ntmps35
  go_wp2_with fail
  refine (open_any a len cap _ H.out).mono ?_
  rintro e w1 ⟨g, rfl, hg, hR, hB⟩
  have hg' : w.heap.size < g := by simp at hg; omega
  have R1 := hide hR
  have E1 := hide (E.out.below hB)
  have B1 := hide (st_trans (st_alloc (st_refl w) _) hB)
  clear hR hB hg
  go_wp2_with fail
  refine (frac_any g 0 _ R1.out (by omega)).mono ?_
  rintro e w2 ⟨n, d, rfl, hS, hR, hG⟩
  have R2 := hide hR
  have E2 := hide (E1.out.grown hG (by omega))
  have B2 := hide (below_of B1.out (by omega) hG)
  have K := hide hS
  clear hR hG
  go_wp2_with fail
  refine (pick_any g (0 + 4) 6 _ (R2.out.alloc _) (by omega) (by omega) (by omega)).mono ?_
  rintro e w3 ⟨x, rfl, hx1, hx2, hR, hG⟩
  have hne : w2.heap.size ≠ g := by have := R2.out.lt; omega
  have X3 := hide ((FrAt.new w2 n d 25).grown hG hne)
  have E3 := hide ((E2.out.below (st_alloc (st_refl _) (.cells #[.int .i64 n, .int .i64 d] 25))).grown hG (by omega))
  have B3 := hide (below_of (st_alloc B2.out (.cells #[.int .i64 n, .int .i64 d] 25)) (by omega) hG)
  have hz := E2.out.2.2.2.2
  clear hR hG hne
  obtain ⟨s1, s2, s3, s4⟩ := hS
  obtain ⟨r0, r1, r2, r3, r4⟩ := E3.out
  obtain ⟨x0, x1, x2, x3, x4⟩ := X3.out
  by_cases p0 : x = 0
  · subst p0
    go_wp2
    refine bodyPost_ret (v := .agg #[.int .i64 n, .int .i64 (d * 2)]) (by simp [results, Try.results35, go_sem, r0, r1]) rfl ⟨_, _, rfl, ?_, ?_⟩
    · unfold Sm; omega
    · exact st_set (st_set (st_set B3.out (by dsimp only; omega) _) (by dsimp only; omega) _) (by dsimp only; omega) _
  · have b0 : (x == 0) = false := by simpa using p0
    go_wp2
    refine bodyPost_ret (v := .agg #[.int .i64 n, .int .i64 d]) (by simp [results, Try.results35, go_sem, r0, r1]) rfl ⟨_, _, rfl, ?_, ?_⟩
    · unfold Sm; omega
    · exact st_set (st_set B3.out (by dsimp only; omega) _) (by dsimp only; omega) _

set_option maxHeartbeats 8000000 in
theorem walk_fnFracValid (a : Option Addr) (len cap : Nat) (w : World) (h : Code w a len cap) : Calls Try.prog 14 #[.slice a len cap] w fun e w' => e = .returned (.bool true) ∧ Below w.heap.size w w' := by
  have hm : len ≤ 9223372036854775807 := by have h1 := h.1; have h2 := h.2.1; unfold maxLen at h2; omega
  have H := hide h
  clear h
  by_cases hl : 1048576 < len
  · go_enter Try.func14, Try.ntmps14
    go_wp2
    go_ret
    exact ⟨rfl, Below.refl _ _⟩
  go_enter Try.func14, Try.ntmps14
  go_wp2_with fail
  refine (dDrawFracValid a len cap _ H.out).mono ?_
  rintro e w1 ⟨n, d, rfl, hS, hB⟩
  obtain ⟨s1, s2, s3, s4⟩ := hS
  have B1 := hide hB
  clear hB
  have I1 : Hid (I64 n ∧ I64 d) := by show _ ∧ _; unfold I64; omega
  have I2 : Hid (I64 (2 * n) ∧ I64 (2 * d)) := by show _ ∧ _; unfold I64; omega
  have I3 : Hid (I64 n ∧ I64 0) := by show _ ∧ _; unfold I64; omega
  cases ho : okB n d
  · have HO := hide ho
    clear ho
    go_wp2_with fail
    refine (fv_as HO.out I1.out _).mono ?_
    rintro e w2 ⟨rfl, hb⟩
    have B2 := hide (st_trans (st_alloc B1.out (.cells #[.int .i64 (n), .int .i64 (d)] 25)) hb)
    have k1 : w2.cell? ⟨w1.heap.size, 0, none⟩ = some (.int .i64 (n)) := keepc hb (by go_simp)
    have k2 : w2.cell? ⟨w1.heap.size, 1, none⟩ = some (.int .i64 (d)) := keepc hb (by go_simp)
    have k3 : w1.heap.size < w2.heap.size := by have hq := hb.size; (try simp at hq); omega
    clear hb
    go_wp2_with fail
    refine (fv_as' HO.out I1.out _).mono ?_
    rintro e w3 ⟨rfl, hb⟩
    have B3 := hide (st_trans B2.out hb)
    have k4 : w3.cell? ⟨w1.heap.size, 0, none⟩ = some (.int .i64 (n)) := keepc hb (by go_simp)
    have k5 : w3.cell? ⟨w1.heap.size, 1, none⟩ = some (.int .i64 (d)) := keepc hb (by go_simp)
    have k6 : w1.heap.size < w3.heap.size := by have hq := hb.size; (try simp at hq); omega
    clear hb k1 k2 k3
    go_wp2
    go_ret
    exact ⟨rfl, B3.out⟩
  · have HL := hide (valid_law ho)
    have HO := hide ho
    clear ho
    go_wp2_with fail
    refine (fv_as HO.out I1.out _).mono ?_
    rintro e w2 ⟨rfl, hb⟩
    have B2 := hide (st_trans (st_alloc B1.out (.cells #[.int .i64 (n), .int .i64 (d)] 25)) hb)
    have k1 : w2.cell? ⟨w1.heap.size, 0, none⟩ = some (.int .i64 (n)) := keepc hb (by go_simp)
    have k2 : w2.cell? ⟨w1.heap.size, 1, none⟩ = some (.int .i64 (d)) := keepc hb (by go_simp)
    have k3 : w1.heap.size < w2.heap.size := by have hq := hb.size; (try simp at hq); omega
    clear hb
    go_wp2_with fail
    refine (fv_as' HO.out I1.out _).mono ?_
    rintro e w3 ⟨rfl, hb⟩
    have B3 := hide (st_trans B2.out hb)
    have k4 : w3.cell? ⟨w1.heap.size, 0, none⟩ = some (.int .i64 (n)) := keepc hb (by go_simp)
    have k5 : w3.cell? ⟨w1.heap.size, 1, none⟩ = some (.int .i64 (d)) := keepc hb (by go_simp)
    have k6 : w1.heap.size < w3.heap.size := by have hq := hb.size; (try simp at hq); omega
    clear hb k1 k2 k3
    go_wp2_with fail
    refine (of_as HL.out.1 I1.out _).mono ?_
    rintro e w4 ⟨rfl, hb⟩
    have B4 := hide (st_trans B3.out hb)
    have k7 : w4.cell? ⟨w1.heap.size, 0, none⟩ = some (.int .i64 (n)) := keepc hb (by go_simp)
    have k8 : w4.cell? ⟨w1.heap.size, 1, none⟩ = some (.int .i64 (d)) := keepc hb (by go_simp)
    have k9 : w1.heap.size < w4.heap.size := by have hq := hb.size; (try simp at hq); omega
    clear hb k4 k5 k6
    go_wp2_with fail
    refine (fv_as HL.out.2.1 I2.out _).mono ?_
    rintro e w5 ⟨rfl, hb⟩
    have B5 := hide (st_trans (st_alloc B4.out (.cells #[.int .i64 (n), .int .i64 (d)] 25)) hb)
    have k10 : w5.cell? ⟨w1.heap.size, 0, none⟩ = some (.int .i64 (n)) := keepc hb (by go_simp)
    have k11 : w5.cell? ⟨w1.heap.size, 1, none⟩ = some (.int .i64 (d)) := keepc hb (by go_simp)
    have k12 : w1.heap.size < w5.heap.size := by have hq := hb.size; (try simp at hq); omega
    have k13 : w5.cell? ⟨w4.heap.size, 0, none⟩ = some (.int .i64 (n)) := keepc hb (by go_simp)
    have k14 : w5.cell? ⟨w4.heap.size, 1, none⟩ = some (.int .i64 (d)) := keepc hb (by go_simp)
    have k15 : w4.heap.size < w5.heap.size := by have hq := hb.size; (try simp at hq); omega
    clear hb k7 k8 k9
    go_wp2_with fail
    refine (fv_as HL.out.2.2 I3.out _).mono ?_
    rintro e w6 ⟨rfl, hb⟩
    have B6 := hide (st_trans B5.out hb)
    have k16 : w6.cell? ⟨w1.heap.size, 0, none⟩ = some (.int .i64 (n)) := keepc hb (by go_simp)
    have k17 : w6.cell? ⟨w1.heap.size, 1, none⟩ = some (.int .i64 (d)) := keepc hb (by go_simp)
    have k18 : w1.heap.size < w6.heap.size := by have hq := hb.size; (try simp at hq); omega
    have k19 : w6.cell? ⟨w4.heap.size, 0, none⟩ = some (.int .i64 (n)) := keepc hb (by go_simp)
    have k20 : w6.cell? ⟨w4.heap.size, 1, none⟩ = some (.int .i64 (d)) := keepc hb (by go_simp)
    have k21 : w4.heap.size < w6.heap.size := by have hq := hb.size; (try simp at hq); omega
    clear hb k10 k11 k12 k13 k14 k15
    go_wp2
    go_ret
    exact ⟨rfl, B6.out⟩

end Go.Proofs.Ytodjnmjdilgocaa
