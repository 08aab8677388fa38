/-
  The walk of the law FnFracLess.
  Conditions: the bytes can be read.
-/
import Derived.Test.YtodjnmjdilgocaaFh
namespace Go.Proofs.Ytodjnmjdilgocaa
open Go.RowKit Fr

set_option maxHeartbeats 8000000 in
theorem walk_fnFracLess (a : Option Addr) (len cap : Nat) (w : World) (h : Code w a len cap) : Calls Try.prog 13 #[.slice a len cap] w fun e w' => e = .returned (.bool true) ∧ Below w.heap.size w w' := by
  have hm : len ≤ 9223372036854775807 := by have h1 := h.1; have h2 := h.2.1; unfold maxLen at h2; omega
  have H := hide h
  clear h
  by_cases hl : 1048576 < len
  · go_enter Try.func13, Try.ntmps13
    go_wp2
    go_ret
    exact ⟨rfl, Below.refl _ _⟩
  go_enter Try.func13, Try.ntmps13
  go_wp2_with fail
  refine (dDrawFracLess a len cap _ H.out).mono ?_
  rintro e w1 ⟨an, ad, bn, bd, rfl, hS, hS', hB⟩
  have sa := hide hS
  have sb := hide hS'
  have B1 := hide hB
  clear hS hS' hB
  have iL := hide (i4 sa.out sb.out)
  have iLb := hide (i4 sb.out sa.out)
  have iA := hide (i4 sa.out sa.out)
  cases ho : lessB an ad bn bd
  · have HO := hide ho
    clear ho
    go_wp2_with fail
    refine (less_as HO.out iL.out _).mono ?_
    rintro e w2 ⟨rfl, hb⟩
    have B2 := hide (st_trans (st_alloc (st_alloc B1.out (.cells #[.int .i64 (an), .int .i64 (ad)] 25)) (.cells #[.int .i64 (bn), .int .i64 (bd)] 25)) hb)
    have k1 : w2.cell? ⟨w1.heap.size, 0, none⟩ = some (.int .i64 (an)) := keepc hb (by go_simp)
    have k2 : w2.cell? ⟨w1.heap.size, 1, none⟩ = some (.int .i64 (ad)) := keepc hb (by go_simp)
    have k3 : w1.heap.size < w2.heap.size := by have hq := hb.size; (try simp at hq); omega
    have k4 : w2.cell? ⟨w1.heap.size + 1, 0, none⟩ = some (.int .i64 (bn)) := keepc hb (by go_simp)
    have k5 : w2.cell? ⟨w1.heap.size + 1, 1, none⟩ = some (.int .i64 (bd)) := keepc hb (by go_simp)
    have k6 : w1.heap.size + 1 < w2.heap.size := by have hq := hb.size; (try simp at hq); omega
    clear hb
    go_wp2_with fail
    refine ((fun W => show Calls Try.prog 18 _ W (fun e w' => e = .returned (.bool false) ∧ Below W.heap.size W w') from by have := less_spec an ad bn bd W iL.out.1 iL.out.2.1 iL.out.2.2.1 iL.out.2.2.2; rw [HO.out] at this; exact this) _).mono ?_
    rintro e w3 ⟨rfl, hb⟩
    have B3 := hide (st_trans B2.out hb)
    have k7 : w3.cell? ⟨w1.heap.size, 0, none⟩ = some (.int .i64 (an)) := keepc hb (by go_simp)
    have k8 : w3.cell? ⟨w1.heap.size, 1, none⟩ = some (.int .i64 (ad)) := keepc hb (by go_simp)
    have k9 : w1.heap.size < w3.heap.size := by have hq := hb.size; (try simp at hq); omega
    have k10 : w3.cell? ⟨w1.heap.size + 1, 0, none⟩ = some (.int .i64 (bn)) := keepc hb (by go_simp)
    have k11 : w3.cell? ⟨w1.heap.size + 1, 1, none⟩ = some (.int .i64 (bd)) := keepc hb (by go_simp)
    have k12 : w1.heap.size + 1 < w3.heap.size := by have hq := hb.size; (try simp at hq); omega
    clear hb k1 k2 k3 k4 k5 k6
    go_wp2
    go_ret
    exact ⟨rfl, B3.out⟩
  · have HL := hide (less_law ho)
    have HO := hide ho
    clear ho
    have hs := sb.out
    unfold S9 at hs
    have hs2 := sa.out
    unfold S9 at hs2
    have iN : Hid (I4 (-bn) bd (-an) ad) := by
      show I4 _ _ _ _
      unfold I4 I64
      omega
    have E3 : Hid (lessB (-bn) bd (-an) ad = true) := by
      have := HL.out.2.2
      rw [Int.zero_sub, Int.zero_sub] at this
      exact this
    go_wp2_with fail
    refine (less_as HO.out iL.out _).mono ?_
    rintro e w2 ⟨rfl, hb⟩
    have B2 := hide (st_trans (st_alloc (st_alloc B1.out (.cells #[.int .i64 (an), .int .i64 (ad)] 25)) (.cells #[.int .i64 (bn), .int .i64 (bd)] 25)) hb)
    have k1 : w2.cell? ⟨w1.heap.size, 0, none⟩ = some (.int .i64 (an)) := keepc hb (by go_simp)
    have k2 : w2.cell? ⟨w1.heap.size, 1, none⟩ = some (.int .i64 (ad)) := keepc hb (by go_simp)
    have k3 : w1.heap.size < w2.heap.size := by have hq := hb.size; (try simp at hq); omega
    have k4 : w2.cell? ⟨w1.heap.size + 1, 0, none⟩ = some (.int .i64 (bn)) := keepc hb (by go_simp)
    have k5 : w2.cell? ⟨w1.heap.size + 1, 1, none⟩ = some (.int .i64 (bd)) := keepc hb (by go_simp)
    have k6 : w1.heap.size + 1 < w2.heap.size := by have hq := hb.size; (try simp at hq); omega
    clear hb
    go_wp2_with fail
    refine ((fun W => show Calls Try.prog 18 _ W (fun e w' => e = .returned (.bool true) ∧ Below W.heap.size W w') from by have := less_spec an ad bn bd W iL.out.1 iL.out.2.1 iL.out.2.2.1 iL.out.2.2.2; rw [HO.out] at this; exact this) _).mono ?_
    rintro e w3 ⟨rfl, hb⟩
    have B3 := hide (st_trans B2.out hb)
    have k7 : w3.cell? ⟨w1.heap.size, 0, none⟩ = some (.int .i64 (an)) := keepc hb (by go_simp)
    have k8 : w3.cell? ⟨w1.heap.size, 1, none⟩ = some (.int .i64 (ad)) := keepc hb (by go_simp)
    have k9 : w1.heap.size < w3.heap.size := by have hq := hb.size; (try simp at hq); omega
    have k10 : w3.cell? ⟨w1.heap.size + 1, 0, none⟩ = some (.int .i64 (bn)) := keepc hb (by go_simp)
    have k11 : w3.cell? ⟨w1.heap.size + 1, 1, none⟩ = some (.int .i64 (bd)) := keepc hb (by go_simp)
    have k12 : w1.heap.size + 1 < w3.heap.size := by have hq := hb.size; (try simp at hq); omega
    clear hb k1 k2 k3 k4 k5 k6
    go_wp2_with fail
    refine (less_as HL.out.1 iLb.out _).mono ?_
    rintro e w4 ⟨rfl, hb⟩
    have B4 := hide (st_trans (st_alloc (st_alloc B3.out (.cells #[.int .i64 (-an), .int .i64 (ad)] 25)) (.cells #[.int .i64 (-bn), .int .i64 (bd)] 25)) hb)
    have k13 : w4.cell? ⟨w1.heap.size, 0, none⟩ = some (.int .i64 (an)) := keepc hb (by go_simp)
    have k14 : w4.cell? ⟨w1.heap.size, 1, none⟩ = some (.int .i64 (ad)) := keepc hb (by go_simp)
    have k15 : w1.heap.size < w4.heap.size := by have hq := hb.size; (try simp at hq); omega
    have k16 : w4.cell? ⟨w1.heap.size + 1, 0, none⟩ = some (.int .i64 (bn)) := keepc hb (by go_simp)
    have k17 : w4.cell? ⟨w1.heap.size + 1, 1, none⟩ = some (.int .i64 (bd)) := keepc hb (by go_simp)
    have k18 : w1.heap.size + 1 < w4.heap.size := by have hq := hb.size; (try simp at hq); omega
    have k19 : w4.cell? ⟨w3.heap.size, 0, none⟩ = some (.int .i64 (-an)) := keepc hb (by go_simp)
    have k20 : w4.cell? ⟨w3.heap.size, 1, none⟩ = some (.int .i64 (ad)) := keepc hb (by go_simp)
    have k21 : w3.heap.size < w4.heap.size := by have hq := hb.size; (try simp at hq); omega
    have k22 : w4.cell? ⟨w3.heap.size + 1, 0, none⟩ = some (.int .i64 (-bn)) := keepc hb (by go_simp)
    have k23 : w4.cell? ⟨w3.heap.size + 1, 1, none⟩ = some (.int .i64 (bd)) := keepc hb (by go_simp)
    have k24 : w3.heap.size + 1 < w4.heap.size := by have hq := hb.size; (try simp at hq); omega
    clear hb k7 k8 k9 k10 k11 k12
    go_wp2_with fail
    refine (less_as HL.out.2.1 iA.out _).mono ?_
    rintro e w5 ⟨rfl, hb⟩
    have B5 := hide (st_trans B4.out hb)
    have k25 : w5.cell? ⟨w1.heap.size, 0, none⟩ = some (.int .i64 (an)) := keepc hb (by go_simp)
    have k26 : w5.cell? ⟨w1.heap.size, 1, none⟩ = some (.int .i64 (ad)) := keepc hb (by go_simp)
    have k27 : w1.heap.size < w5.heap.size := by have hq := hb.size; (try simp at hq); omega
    have k28 : w5.cell? ⟨w1.heap.size + 1, 0, none⟩ = some (.int .i64 (bn)) := keepc hb (by go_simp)
    have k29 : w5.cell? ⟨w1.heap.size + 1, 1, none⟩ = some (.int .i64 (bd)) := keepc hb (by go_simp)
    have k30 : w1.heap.size + 1 < w5.heap.size := by have hq := hb.size; (try simp at hq); omega
    have k31 : w5.cell? ⟨w3.heap.size, 0, none⟩ = some (.int .i64 (-an)) := keepc hb (by go_simp)
    have k32 : w5.cell? ⟨w3.heap.size, 1, none⟩ = some (.int .i64 (ad)) := keepc hb (by go_simp)
    have k33 : w3.heap.size < w5.heap.size := by have hq := hb.size; (try simp at hq); omega
    have k34 : w5.cell? ⟨w3.heap.size + 1, 0, none⟩ = some (.int .i64 (-bn)) := keepc hb (by go_simp)
    have k35 : w5.cell? ⟨w3.heap.size + 1, 1, none⟩ = some (.int .i64 (bd)) := keepc hb (by go_simp)
    have k36 : w3.heap.size + 1 < w5.heap.size := by have hq := hb.size; (try simp at hq); omega
    clear hb k13 k14 k15 k16 k17 k18 k19 k20 k21 k22 k23 k24
    go_wp2_with fail
    refine (less_as E3.out iN.out _).mono ?_
    rintro e w6 ⟨rfl, hb⟩
    have B6 := hide (st_trans B5.out hb)
    have k37 : w6.cell? ⟨w1.heap.size, 0, none⟩ = some (.int .i64 (an)) := keepc hb (by go_simp)
    have k38 : w6.cell? ⟨w1.heap.size, 1, none⟩ = some (.int .i64 (ad)) := keepc hb (by go_simp)
    have k39 : w1.heap.size < w6.heap.size := by have hq := hb.size; (try simp at hq); omega
    have k40 : w6.cell? ⟨w1.heap.size + 1, 0, none⟩ = some (.int .i64 (bn)) := keepc hb (by go_simp)
    have k41 : w6.cell? ⟨w1.heap.size + 1, 1, none⟩ = some (.int .i64 (bd)) := keepc hb (by go_simp)
    have k42 : w1.heap.size + 1 < w6.heap.size := by have hq := hb.size; (try simp at hq); omega
    have k43 : w6.cell? ⟨w3.heap.size, 0, none⟩ = some (.int .i64 (-an)) := keepc hb (by go_simp)
    have k44 : w6.cell? ⟨w3.heap.size, 1, none⟩ = some (.int .i64 (ad)) := keepc hb (by go_simp)
    have k45 : w3.heap.size < w6.heap.size := by have hq := hb.size; (try simp at hq); omega
    have k46 : w6.cell? ⟨w3.heap.size + 1, 0, none⟩ = some (.int .i64 (-bn)) := keepc hb (by go_simp)
    have k47 : w6.cell? ⟨w3.heap.size + 1, 1, none⟩ = some (.int .i64 (bd)) := keepc hb (by go_simp)
    have k48 : w3.heap.size + 1 < w6.heap.size := by have hq := hb.size; (try simp at hq); omega
    clear hb k25 k26 k27 k28 k29 k30 k31 k32 k33 k34 k35 k36
    go_wp2
    go_ret
    exact ⟨rfl, B6.out⟩

end Go.Proofs.Ytodjnmjdilgocaa
