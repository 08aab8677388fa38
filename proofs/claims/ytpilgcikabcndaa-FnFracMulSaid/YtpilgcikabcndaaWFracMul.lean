/-
  The walk of the law FnFracMul.
  Conditions: the bytes can be read.
-/
import Derived.Test.YtpilgcikabcndaaFg
namespace Go.Proofs.Ytpilgcikabcndaa
open Go.RowKit Fr

set_option maxHeartbeats 8000000 in
theorem walk_fnFracMul (a : Option Addr) (len cap : Nat) (w : World) (h : Code w a len cap) : Calls Try.prog 5 #[.slice a len cap] w fun e w' => e = .returned (.bool true) ∧ Below w.heap.size w w' := by
  have hm : len ≤ 9223372036854775807 := by have h1 := h.1; have h2 := h.2.1; unfold maxLen at h2; omega
  have H := hide h
  clear h
  by_cases hl : 1048576 < len
  · go_enter Try.func5, Try.ntmps5
    go_wp2
    go_ret
    exact ⟨rfl, Below.refl _ _⟩
  go_enter Try.func5, Try.ntmps5
  go_wp2_with fail
  refine (dDrawFracMul a len cap _ H.out).mono ?_
  rintro e w1 ⟨an, ad, bn, bd, rfl, hS, hS', hB⟩
  have sa := hide hS
  have sb := hide hS'
  have B1 := hide hB
  clear hS hS' hB
  have sO := hide (s9_mul an ad bn bd)
  obtain ⟨on, hon⟩ : ∃ x, mulN an ad bn bd = x := ⟨_, rfl⟩
  obtain ⟨od, hod⟩ : ∃ x, mulD an ad bn bd = x := ⟨_, rfl⟩
  rw [hon, hod] at sO
  cases ho : mulOk an ad bn bd
  · have HO := hide (And.intro ho (And.intro hon hod))
    clear ho hon hod
    go_wp2_with fail
    refine (mul_as_impl HO.out (i4 sa.out sb.out) _).mono ?_
    rintro e w2 ⟨rfl, hb⟩
    have B2 := hide (st_trans (st_alloc (st_alloc B1.out _) _) hb)
    have k1 : w2.cell? ⟨w1.heap.size, 0, none⟩ = some (.int .i64 (an)) := keepc hb (by go_simp)
    have k2 : w2.cell? ⟨w1.heap.size, 1, none⟩ = some (.int .i64 (ad)) := keepc hb (by go_simp)
    have k3 : w1.heap.size < w2.heap.size := by have hq := hb.size; simp at hq; omega
    have k4 : w2.cell? ⟨w1.heap.size + 1, 0, none⟩ = some (.int .i64 (bn)) := keepc hb (by go_simp)
    have k5 : w2.cell? ⟨w1.heap.size + 1, 1, none⟩ = some (.int .i64 (bd)) := keepc hb (by go_simp)
    have k6 : w1.heap.size + 1 < w2.heap.size := by have hq := hb.size; simp at hq; omega
    clear hb
    go_wp2_with fail
    refine (mul_as_spec HO.out (i4 sa.out sb.out) _).mono ?_
    rintro e w3 ⟨rfl, hb⟩
    have B3 := hide (st_trans (st_alloc B2.out _) hb)
    have k7 : w3.cell? ⟨w1.heap.size, 0, none⟩ = some (.int .i64 (an)) := keepc hb (by go_simp)
    have k8 : w3.cell? ⟨w1.heap.size, 1, none⟩ = some (.int .i64 (ad)) := keepc hb (by go_simp)
    have k9 : w1.heap.size < w3.heap.size := by have hq := hb.size; simp at hq; omega
    have k10 : w3.cell? ⟨w1.heap.size + 1, 0, none⟩ = some (.int .i64 (bn)) := keepc hb (by go_simp)
    have k11 : w3.cell? ⟨w1.heap.size + 1, 1, none⟩ = some (.int .i64 (bd)) := keepc hb (by go_simp)
    have k12 : w1.heap.size + 1 < w3.heap.size := by have hq := hb.size; simp at hq; omega
    have k13 : w3.cell? ⟨w2.heap.size, 0, none⟩ = some (.int .i64 (on)) := keepc hb (by go_simp)
    have k14 : w3.cell? ⟨w2.heap.size, 1, none⟩ = some (.int .i64 (od)) := keepc hb (by go_simp)
    have k15 : w2.heap.size < w3.heap.size := by have hq := hb.size; simp at hq; omega
    clear hb k1 k2 k3 k4 k5 k6
    go_wp2
    go_ret
    exact ⟨rfl, (st_alloc B3.out _)⟩
  · have HO := hide (And.intro ho (And.intro hon hod))
    clear ho hon hod
    go_wp2_with fail
    refine (mul_as_impl HO.out (i4 sa.out sb.out) _).mono ?_
    rintro e w2 ⟨rfl, hb⟩
    have B2 := hide (st_trans (st_alloc (st_alloc B1.out _) _) hb)
    have k1 : w2.cell? ⟨w1.heap.size, 0, none⟩ = some (.int .i64 (an)) := keepc hb (by go_simp)
    have k2 : w2.cell? ⟨w1.heap.size, 1, none⟩ = some (.int .i64 (ad)) := keepc hb (by go_simp)
    have k3 : w1.heap.size < w2.heap.size := by have hq := hb.size; simp at hq; omega
    have k4 : w2.cell? ⟨w1.heap.size + 1, 0, none⟩ = some (.int .i64 (bn)) := keepc hb (by go_simp)
    have k5 : w2.cell? ⟨w1.heap.size + 1, 1, none⟩ = some (.int .i64 (bd)) := keepc hb (by go_simp)
    have k6 : w1.heap.size + 1 < w2.heap.size := by have hq := hb.size; simp at hq; omega
    clear hb
    go_wp2_with fail
    refine (mul_as_spec HO.out (i4 sa.out sb.out) _).mono ?_
    rintro e w3 ⟨rfl, hb⟩
    have B3 := hide (st_trans (st_alloc B2.out _) hb)
    have k7 : w3.cell? ⟨w1.heap.size, 0, none⟩ = some (.int .i64 (an)) := keepc hb (by go_simp)
    have k8 : w3.cell? ⟨w1.heap.size, 1, none⟩ = some (.int .i64 (ad)) := keepc hb (by go_simp)
    have k9 : w1.heap.size < w3.heap.size := by have hq := hb.size; simp at hq; omega
    have k10 : w3.cell? ⟨w1.heap.size + 1, 0, none⟩ = some (.int .i64 (bn)) := keepc hb (by go_simp)
    have k11 : w3.cell? ⟨w1.heap.size + 1, 1, none⟩ = some (.int .i64 (bd)) := keepc hb (by go_simp)
    have k12 : w1.heap.size + 1 < w3.heap.size := by have hq := hb.size; simp at hq; omega
    have k13 : w3.cell? ⟨w2.heap.size, 0, none⟩ = some (.int .i64 (on)) := keepc hb (by go_simp)
    have k14 : w3.cell? ⟨w2.heap.size, 1, none⟩ = some (.int .i64 (od)) := keepc hb (by go_simp)
    have k15 : w2.heap.size < w3.heap.size := by have hq := hb.size; simp at hq; omega
    clear hb k1 k2 k3 k4 k5 k6
    obtain ⟨q0, q1, q2⟩ := HO.out
    obtain ⟨l1, l2⟩ := mul_law q0
    rw [q1, q2] at l1
    rw [q1] at l2
    have PX := hide l1
    have HL := hide l2
    clear q0 q1 q2 l1 l2
    by_cases z : an = 0
    · have e : (on == 0) = true := by simp; exact HL.out.2 (.inl z)
      have za : (an == 0) = true := by simpa using z
      clear z
      go_wp2_with fail
      refine (mul_as_impl PX.out (i4 sb.out sa.out) _).mono ?_
      rintro e w4 ⟨rfl, hb⟩
      have B4 := hide (st_trans (st_alloc B3.out _) hb)
      have k16 : w4.cell? ⟨w1.heap.size, 0, none⟩ = some (.int .i64 (an)) := keepc hb (by go_simp)
      have k17 : w4.cell? ⟨w1.heap.size, 1, none⟩ = some (.int .i64 (ad)) := keepc hb (by go_simp)
      have k18 : w1.heap.size < w4.heap.size := by have hq := hb.size; simp at hq; omega
      have k19 : w4.cell? ⟨w1.heap.size + 1, 0, none⟩ = some (.int .i64 (bn)) := keepc hb (by go_simp)
      have k20 : w4.cell? ⟨w1.heap.size + 1, 1, none⟩ = some (.int .i64 (bd)) := keepc hb (by go_simp)
      have k21 : w1.heap.size + 1 < w4.heap.size := by have hq := hb.size; simp at hq; omega
      have k22 : w4.cell? ⟨w2.heap.size, 0, none⟩ = some (.int .i64 (on)) := keepc hb (by go_simp)
      have k23 : w4.cell? ⟨w2.heap.size, 1, none⟩ = some (.int .i64 (od)) := keepc hb (by go_simp)
      have k24 : w2.heap.size < w4.heap.size := by have hq := hb.size; simp at hq; omega
      have k25 : w4.cell? ⟨w3.heap.size, 0, none⟩ = some (.int .i64 (on)) := keepc hb (by go_simp)
      have k26 : w4.cell? ⟨w3.heap.size, 1, none⟩ = some (.int .i64 (od)) := keepc hb (by go_simp)
      have k27 : w3.heap.size < w4.heap.size := by have hq := hb.size; simp at hq; omega
      clear hb k7 k8 k9 k10 k11 k12 k13 k14 k15
      go_wp2
      go_ret
      exact ⟨rfl, (st_alloc B4.out _)⟩
    · have za : (an == 0) = false := by simpa using z
      by_cases y : bn = 0
      · have zb : (bn == 0) = true := by simpa using y
        have e : (on == 0) = true := by simp; exact HL.out.2 (.inr y)
        clear z y
        go_wp2_with fail
        refine (mul_as_impl PX.out (i4 sb.out sa.out) _).mono ?_
        rintro e w4 ⟨rfl, hb⟩
        have B4 := hide (st_trans (st_alloc B3.out _) hb)
        have k16 : w4.cell? ⟨w1.heap.size, 0, none⟩ = some (.int .i64 (an)) := keepc hb (by go_simp)
        have k17 : w4.cell? ⟨w1.heap.size, 1, none⟩ = some (.int .i64 (ad)) := keepc hb (by go_simp)
        have k18 : w1.heap.size < w4.heap.size := by have hq := hb.size; simp at hq; omega
        have k19 : w4.cell? ⟨w1.heap.size + 1, 0, none⟩ = some (.int .i64 (bn)) := keepc hb (by go_simp)
        have k20 : w4.cell? ⟨w1.heap.size + 1, 1, none⟩ = some (.int .i64 (bd)) := keepc hb (by go_simp)
        have k21 : w1.heap.size + 1 < w4.heap.size := by have hq := hb.size; simp at hq; omega
        have k22 : w4.cell? ⟨w2.heap.size, 0, none⟩ = some (.int .i64 (on)) := keepc hb (by go_simp)
        have k23 : w4.cell? ⟨w2.heap.size, 1, none⟩ = some (.int .i64 (od)) := keepc hb (by go_simp)
        have k24 : w2.heap.size < w4.heap.size := by have hq := hb.size; simp at hq; omega
        have k25 : w4.cell? ⟨w3.heap.size, 0, none⟩ = some (.int .i64 (on)) := keepc hb (by go_simp)
        have k26 : w4.cell? ⟨w3.heap.size, 1, none⟩ = some (.int .i64 (od)) := keepc hb (by go_simp)
        have k27 : w3.heap.size < w4.heap.size := by have hq := hb.size; simp at hq; omega
        clear hb k7 k8 k9 k10 k11 k12 k13 k14 k15
        go_wp2
        go_ret
        exact ⟨rfl, (st_alloc B4.out _)⟩
      · have zb : (bn == 0) = false := by simpa using y
        have e : (on == 0) = false := by simp; exact fun t => (HL.out.1 t).elim z y
        clear z y
        go_wp2_with fail
        refine (mul_as_impl PX.out (i4 sb.out sa.out) _).mono ?_
        rintro e w4 ⟨rfl, hb⟩
        have B4 := hide (st_trans (st_alloc B3.out _) hb)
        have k16 : w4.cell? ⟨w1.heap.size, 0, none⟩ = some (.int .i64 (an)) := keepc hb (by go_simp)
        have k17 : w4.cell? ⟨w1.heap.size, 1, none⟩ = some (.int .i64 (ad)) := keepc hb (by go_simp)
        have k18 : w1.heap.size < w4.heap.size := by have hq := hb.size; simp at hq; omega
        have k19 : w4.cell? ⟨w1.heap.size + 1, 0, none⟩ = some (.int .i64 (bn)) := keepc hb (by go_simp)
        have k20 : w4.cell? ⟨w1.heap.size + 1, 1, none⟩ = some (.int .i64 (bd)) := keepc hb (by go_simp)
        have k21 : w1.heap.size + 1 < w4.heap.size := by have hq := hb.size; simp at hq; omega
        have k22 : w4.cell? ⟨w2.heap.size, 0, none⟩ = some (.int .i64 (on)) := keepc hb (by go_simp)
        have k23 : w4.cell? ⟨w2.heap.size, 1, none⟩ = some (.int .i64 (od)) := keepc hb (by go_simp)
        have k24 : w2.heap.size < w4.heap.size := by have hq := hb.size; simp at hq; omega
        have k25 : w4.cell? ⟨w3.heap.size, 0, none⟩ = some (.int .i64 (on)) := keepc hb (by go_simp)
        have k26 : w4.cell? ⟨w3.heap.size, 1, none⟩ = some (.int .i64 (od)) := keepc hb (by go_simp)
        have k27 : w3.heap.size < w4.heap.size := by have hq := hb.size; simp at hq; omega
        clear hb k7 k8 k9 k10 k11 k12 k13 k14 k15
        go_wp2
        go_ret
        exact ⟨rfl, (st_alloc B4.out _)⟩

end Go.Proofs.Ytpilgcikabcndaa
