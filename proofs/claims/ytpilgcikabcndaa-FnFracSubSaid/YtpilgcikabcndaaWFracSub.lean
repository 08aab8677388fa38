/-
  The walk of the law FnFracSub.
  Conditions: the bytes can be read.
-/
import Derived.Test.YtpilgcikabcndaaFh
namespace Go.Proofs.Ytpilgcikabcndaa
open Go.RowKit Fr

set_option maxHeartbeats 8000000 in
theorem walk_fnFracSub (a : Option Addr) (len cap : Nat) (w : World) (h : Code w a len cap) : Calls Try.prog 7 #[.slice a len cap] w fun e w' => e = .returned (.bool true) ∧ Below w.heap.size w w' := by
  have hm : len ≤ 9223372036854775807 := by have h1 := h.1; have h2 := h.2.1; unfold maxLen at h2; omega
  have H := hide h
  clear h
  by_cases hl : 1048576 < len
  · go_enter Try.func7, Try.ntmps7
    go_wp2
    go_ret
    exact ⟨rfl, Below.refl _ _⟩
  go_enter Try.func7, Try.ntmps7
  go_wp2_with fail
  refine (dDrawFracSub a len cap _ H.out).mono ?_
  rintro e w1 ⟨an, ad, bn, bd, rfl, hS, hS', hB⟩
  have sa := hide hS
  have sb := hide hS'
  have B1 := hide hB
  clear hS hS' hB
  have sO := hide (s9_sub an ad bn bd)
  obtain ⟨on, hon⟩ : ∃ x, subN an ad bn bd = x := ⟨_, rfl⟩
  obtain ⟨od, hod⟩ : ∃ x, subD an ad bn bd = x := ⟨_, rfl⟩
  rw [hon, hod] at sO
  cases ho : subOk an ad bn bd
  · have HO := hide (And.intro ho (And.intro hon hod))
    clear ho hon hod
    go_wp2_with fail
    refine (sub_as_impl HO.out (i4 sa.out sb.out) _).mono ?_
    rintro e w2 ⟨rfl, hb⟩
    have B2 := hide (st_trans (st_alloc (st_alloc B1.out (.cells #[.int .i64 (an), .int .i64 (ad)] 24)) (.cells #[.int .i64 (bn), .int .i64 (bd)] 24)) hb)
    have k1 : w2.cell? ⟨w1.heap.size, 0, none⟩ = some (.int .i64 (an)) := keepc hb (by go_simp)
    have k2 : w2.cell? ⟨w1.heap.size, 1, none⟩ = some (.int .i64 (ad)) := keepc hb (by go_simp)
    have k3 : w1.heap.size < w2.heap.size := by have hq := hb.size; (try simp at hq); omega
    have k4 : w2.cell? ⟨w1.heap.size + 1, 0, none⟩ = some (.int .i64 (bn)) := keepc hb (by go_simp)
    have k5 : w2.cell? ⟨w1.heap.size + 1, 1, none⟩ = some (.int .i64 (bd)) := keepc hb (by go_simp)
    have k6 : w1.heap.size + 1 < w2.heap.size := by have hq := hb.size; (try simp at hq); omega
    clear hb
    go_wp2_with fail
    refine (sub_as_spec HO.out (i4 sa.out sb.out) _).mono ?_
    rintro e w3 ⟨rfl, hb⟩
    have B3 := hide (st_trans (st_alloc B2.out (.cells #[.int .i64 (on), .int .i64 (od)] 24)) hb)
    have k7 : w3.cell? ⟨w1.heap.size, 0, none⟩ = some (.int .i64 (an)) := keepc hb (by go_simp)
    have k8 : w3.cell? ⟨w1.heap.size, 1, none⟩ = some (.int .i64 (ad)) := keepc hb (by go_simp)
    have k9 : w1.heap.size < w3.heap.size := by have hq := hb.size; (try simp at hq); omega
    have k10 : w3.cell? ⟨w1.heap.size + 1, 0, none⟩ = some (.int .i64 (bn)) := keepc hb (by go_simp)
    have k11 : w3.cell? ⟨w1.heap.size + 1, 1, none⟩ = some (.int .i64 (bd)) := keepc hb (by go_simp)
    have k12 : w1.heap.size + 1 < w3.heap.size := by have hq := hb.size; (try simp at hq); omega
    have k13 : w3.cell? ⟨w2.heap.size, 0, none⟩ = some (.int .i64 (on)) := keepc hb (by go_simp)
    have k14 : w3.cell? ⟨w2.heap.size, 1, none⟩ = some (.int .i64 (od)) := keepc hb (by go_simp)
    have k15 : w2.heap.size < w3.heap.size := by have hq := hb.size; (try simp at hq); omega
    clear hb k1 k2 k3 k4 k5 k6
    go_wp2
    go_ret
    exact ⟨rfl, (st_alloc B3.out (.cells #[.int .i64 (on), .int .i64 (od)] 24))⟩
  · have HO := hide (And.intro ho (And.intro hon hod))
    clear ho hon hod
    go_wp2_with fail
    refine (sub_as_impl HO.out (i4 sa.out sb.out) _).mono ?_
    rintro e w2 ⟨rfl, hb⟩
    have B2 := hide (st_trans (st_alloc (st_alloc B1.out (.cells #[.int .i64 (an), .int .i64 (ad)] 24)) (.cells #[.int .i64 (bn), .int .i64 (bd)] 24)) hb)
    have k1 : w2.cell? ⟨w1.heap.size, 0, none⟩ = some (.int .i64 (an)) := keepc hb (by go_simp)
    have k2 : w2.cell? ⟨w1.heap.size, 1, none⟩ = some (.int .i64 (ad)) := keepc hb (by go_simp)
    have k3 : w1.heap.size < w2.heap.size := by have hq := hb.size; (try simp at hq); omega
    have k4 : w2.cell? ⟨w1.heap.size + 1, 0, none⟩ = some (.int .i64 (bn)) := keepc hb (by go_simp)
    have k5 : w2.cell? ⟨w1.heap.size + 1, 1, none⟩ = some (.int .i64 (bd)) := keepc hb (by go_simp)
    have k6 : w1.heap.size + 1 < w2.heap.size := by have hq := hb.size; (try simp at hq); omega
    clear hb
    go_wp2_with fail
    refine (sub_as_spec HO.out (i4 sa.out sb.out) _).mono ?_
    rintro e w3 ⟨rfl, hb⟩
    have B3 := hide (st_trans (st_alloc B2.out (.cells #[.int .i64 (on), .int .i64 (od)] 24)) hb)
    have k7 : w3.cell? ⟨w1.heap.size, 0, none⟩ = some (.int .i64 (an)) := keepc hb (by go_simp)
    have k8 : w3.cell? ⟨w1.heap.size, 1, none⟩ = some (.int .i64 (ad)) := keepc hb (by go_simp)
    have k9 : w1.heap.size < w3.heap.size := by have hq := hb.size; (try simp at hq); omega
    have k10 : w3.cell? ⟨w1.heap.size + 1, 0, none⟩ = some (.int .i64 (bn)) := keepc hb (by go_simp)
    have k11 : w3.cell? ⟨w1.heap.size + 1, 1, none⟩ = some (.int .i64 (bd)) := keepc hb (by go_simp)
    have k12 : w1.heap.size + 1 < w3.heap.size := by have hq := hb.size; (try simp at hq); omega
    have k13 : w3.cell? ⟨w2.heap.size, 0, none⟩ = some (.int .i64 (on)) := keepc hb (by go_simp)
    have k14 : w3.cell? ⟨w2.heap.size, 1, none⟩ = some (.int .i64 (od)) := keepc hb (by go_simp)
    have k15 : w2.heap.size < w3.heap.size := by have hq := hb.size; (try simp at hq); omega
    clear hb k1 k2 k3 k4 k5 k6
    obtain ⟨q0, q1, q2⟩ := HO.out
    obtain ⟨l1, l2⟩ := sub_law q0
    rw [q1, q2] at l1
    rw [q1] at l2
    have PX := hide l1
    have HL := hide l2
    clear q0 q1 q2 l1 l2
    by_cases z : on < 0
    · have e : lessB an ad bn bd = true := by rw [HL.out]; simpa using z
      have e2 : decide (on < 0) = true := by simpa using z
      have LB : Hid (∀ W, Calls Try.prog 28 #[.agg #[.int .i64 an, .int .i64 ad], .agg #[.int .i64 bn, .int .i64 bd]] W fun e w' => e = .returned (.bool true) ∧ Below W.heap.size W w') := fun W => by
        have hi := i4 sa.out sb.out
        have := less_impl an ad bn bd W hi.1 hi.2.1 hi.2.2.1 hi.2.2.2
        rw [e] at this
        exact this
      have hs := sO.out
      unfold S9 at hs
      clear e
      have wr := wrap_neg on (by omega) (by omega)
      have wr2 := wrap_neg2 on (by omega) (by omega)
      clear hs
      go_wp2_with fail
      refine (sub_as_impl PX.out (i4 sb.out sa.out) _).mono ?_
      rintro e w4 ⟨rfl, hb⟩
      have B4 := hide (st_trans (st_alloc B3.out (.cells #[.int .i64 (on), .int .i64 (od)] 24)) hb)
      have k16 : w4.cell? ⟨w1.heap.size, 0, none⟩ = some (.int .i64 (an)) := keepc hb (by go_simp)
      have k17 : w4.cell? ⟨w1.heap.size, 1, none⟩ = some (.int .i64 (ad)) := keepc hb (by go_simp)
      have k18 : w1.heap.size < w4.heap.size := by have hq := hb.size; (try simp at hq); omega
      have k19 : w4.cell? ⟨w1.heap.size + 1, 0, none⟩ = some (.int .i64 (bn)) := keepc hb (by go_simp)
      have k20 : w4.cell? ⟨w1.heap.size + 1, 1, none⟩ = some (.int .i64 (bd)) := keepc hb (by go_simp)
      have k21 : w1.heap.size + 1 < w4.heap.size := by have hq := hb.size; (try simp at hq); omega
      have k22 : w4.cell? ⟨w2.heap.size, 0, none⟩ = some (.int .i64 (on)) := keepc hb (by go_simp)
      have k23 : w4.cell? ⟨w2.heap.size, 1, none⟩ = some (.int .i64 (od)) := keepc hb (by go_simp)
      have k24 : w2.heap.size < w4.heap.size := by have hq := hb.size; (try simp at hq); omega
      have k25 : w4.cell? ⟨w3.heap.size, 0, none⟩ = some (.int .i64 (on)) := keepc hb (by go_simp)
      have k26 : w4.cell? ⟨w3.heap.size, 1, none⟩ = some (.int .i64 (od)) := keepc hb (by go_simp)
      have k27 : w3.heap.size < w4.heap.size := by have hq := hb.size; (try simp at hq); omega
      clear hb k7 k8 k9 k10 k11 k12 k13 k14 k15
      go_upto_region 9 with fail
      have B5 := hide (st_alloc B4.out (.cells #[.int .i64 (-on), .int .i64 (od)] 24))
      have k28 : (w4.alloc (.cells #[.int .i64 (-on), .int .i64 (od)] 24)).cell? ⟨w1.heap.size, 0, none⟩ = some (.int .i64 (an)) := by go_simp
      have k29 : (w4.alloc (.cells #[.int .i64 (-on), .int .i64 (od)] 24)).cell? ⟨w1.heap.size, 1, none⟩ = some (.int .i64 (ad)) := by go_simp
      have k30 : w1.heap.size < (w4.alloc (.cells #[.int .i64 (-on), .int .i64 (od)] 24)).heap.size := by simp <;> omega
      have k31 : (w4.alloc (.cells #[.int .i64 (-on), .int .i64 (od)] 24)).cell? ⟨w1.heap.size + 1, 0, none⟩ = some (.int .i64 (bn)) := by go_simp
      have k32 : (w4.alloc (.cells #[.int .i64 (-on), .int .i64 (od)] 24)).cell? ⟨w1.heap.size + 1, 1, none⟩ = some (.int .i64 (bd)) := by go_simp
      have k33 : w1.heap.size + 1 < (w4.alloc (.cells #[.int .i64 (-on), .int .i64 (od)] 24)).heap.size := by simp <;> omega
      have k34 : (w4.alloc (.cells #[.int .i64 (-on), .int .i64 (od)] 24)).cell? ⟨w2.heap.size, 0, none⟩ = some (.int .i64 (on)) := by go_simp
      have k35 : (w4.alloc (.cells #[.int .i64 (-on), .int .i64 (od)] 24)).cell? ⟨w2.heap.size, 1, none⟩ = some (.int .i64 (od)) := by go_simp
      have k36 : w2.heap.size < (w4.alloc (.cells #[.int .i64 (-on), .int .i64 (od)] 24)).heap.size := by simp <;> omega
      have k37 : (w4.alloc (.cells #[.int .i64 (-on), .int .i64 (od)] 24)).cell? ⟨w3.heap.size, 0, none⟩ = some (.int .i64 (on)) := by go_simp
      have k38 : (w4.alloc (.cells #[.int .i64 (-on), .int .i64 (od)] 24)).cell? ⟨w3.heap.size, 1, none⟩ = some (.int .i64 (od)) := by go_simp
      have k39 : w3.heap.size < (w4.alloc (.cells #[.int .i64 (-on), .int .i64 (od)] 24)).heap.size := by simp <;> omega
      have k40 : (w4.alloc (.cells #[.int .i64 (-on), .int .i64 (od)] 24)).cell? ⟨w4.heap.size, 0, none⟩ = some (.int .i64 (-on)) := by go_simp
      have k41 : (w4.alloc (.cells #[.int .i64 (-on), .int .i64 (od)] 24)).cell? ⟨w4.heap.size, 1, none⟩ = some (.int .i64 (od)) := by go_simp
      have k42 : w4.heap.size < (w4.alloc (.cells #[.int .i64 (-on), .int .i64 (od)] 24)).heap.size := by simp <;> omega
      obtain ⟨w5, hW⟩ := name_world (w4.alloc (.cells #[.int .i64 (-on), .int .i64 (od)] 24))
      rw [← hW] at k28 k29 k30 k31 k32 k33 k34 k35 k36 k37 k38 k39 k40 k41 k42 B5 ⊢
      clear hW k16 k17 k18 k19 k20 k21 k22 k23 k24 k25 k26 k27
      have HK0 := hide (st_refl w5)
      have HKd := hide (st_drew HK0.out)
      go_region_held3 (fun w' => w'.cell? ⟨w1.heap.size, 0, none⟩ = some (.int .i64 (an)) ∧ w'.cell? ⟨w1.heap.size, 1, none⟩ = some (.int .i64 (ad)) ∧ w'.cell? ⟨w1.heap.size + 1, 0, none⟩ = some (.int .i64 (bn)) ∧ w'.cell? ⟨w1.heap.size + 1, 1, none⟩ = some (.int .i64 (bd)) ∧ w'.cell? ⟨w2.heap.size, 0, none⟩ = some (.int .i64 (on)) ∧ w'.cell? ⟨w2.heap.size, 1, none⟩ = some (.int .i64 (od)) ∧ w'.cell? ⟨w4.heap.size, 0, none⟩ = some (.int .i64 (-on)) ∧ w'.cell? ⟨w4.heap.size, 1, none⟩ = some (.int .i64 (od))) (first | exact ⟨keepc (Hid.out (by assumption)) k28, keepc (Hid.out (by assumption)) k29, keepc (Hid.out (by assumption)) k31, keepc (Hid.out (by assumption)) k32, keepc (Hid.out (by assumption)) k34, keepc (Hid.out (by assumption)) k35, keepc (Hid.out (by assumption)) k40, keepc (Hid.out (by assumption)) k41⟩ | exact ⟨keepc (st_alloc (Hid.out (by assumption)) _) k28, keepc (st_alloc (Hid.out (by assumption)) _) k29, keepc (st_alloc (Hid.out (by assumption)) _) k31, keepc (st_alloc (Hid.out (by assumption)) _) k32, keepc (st_alloc (Hid.out (by assumption)) _) k34, keepc (st_alloc (Hid.out (by assumption)) _) k35, keepc (st_alloc (Hid.out (by assumption)) _) k40, keepc (st_alloc (Hid.out (by assumption)) _) k41⟩ | exact ⟨keepc (st_drew (st_alloc (Hid.out (by assumption)) _)) k28, keepc (st_drew (st_alloc (Hid.out (by assumption)) _)) k29, keepc (st_drew (st_alloc (Hid.out (by assumption)) _)) k31, keepc (st_drew (st_alloc (Hid.out (by assumption)) _)) k32, keepc (st_drew (st_alloc (Hid.out (by assumption)) _)) k34, keepc (st_drew (st_alloc (Hid.out (by assumption)) _)) k35, keepc (st_drew (st_alloc (Hid.out (by assumption)) _)) k40, keepc (st_drew (st_alloc (Hid.out (by assumption)) _)) k41⟩ | exact ⟨keepc (st_drew (Hid.out (by assumption))) k28, keepc (st_drew (Hid.out (by assumption))) k29, keepc (st_drew (Hid.out (by assumption))) k31, keepc (st_drew (Hid.out (by assumption))) k32, keepc (st_drew (Hid.out (by assumption))) k34, keepc (st_drew (Hid.out (by assumption))) k35, keepc (st_drew (Hid.out (by assumption))) k40, keepc (st_drew (Hid.out (by assumption))) k41⟩ | go_keep) (first | (go_at_call 28; refine (LB.out _).mono ?_; rintro e wx ⟨rfl, hbx⟩; have HK := hide (st_trans (a := w5) (by first | exact Hid.out (by assumption) | exact st_alloc (Hid.out (by assumption)) _ | exact st_drew (st_alloc (Hid.out (by assumption)) _)) hbx); have hnx := HK.out.size; obtain ⟨hcx, hfx⟩ := bcell hbx; have hsx := hbx.size; (try simp at hsx); (try have hsy := Nat.lt_of_succ_le hsx); (try have hlx := Nat.lt_of_lt_of_le (by assumption) hsx)))
      all_goals
        go_wp2
        go_ret
        first | exact ⟨rfl, st_trans B5.out (Hid.out (by assumption))⟩ | exact ⟨rfl, B5.out⟩ | exact ⟨rfl, st_drew B5.out⟩
    · have e : lessB an ad bn bd = false := by rw [HL.out]; simpa using z
      have e2 : decide (on < 0) = false := by simpa using z
      have LB : Hid (∀ W, Calls Try.prog 28 #[.agg #[.int .i64 an, .int .i64 ad], .agg #[.int .i64 bn, .int .i64 bd]] W fun e w' => e = .returned (.bool false) ∧ Below W.heap.size W w') := fun W => by
        have hi := i4 sa.out sb.out
        have := less_impl an ad bn bd W hi.1 hi.2.1 hi.2.2.1 hi.2.2.2
        rw [e] at this
        exact this
      have hs := sO.out
      unfold S9 at hs
      clear e
      have wr := wrap_neg on (by omega) (by omega)
      have wr2 := wrap_neg2 on (by omega) (by omega)
      clear hs
      go_wp2_with fail
      refine (sub_as_impl PX.out (i4 sb.out sa.out) _).mono ?_
      rintro e w4 ⟨rfl, hb⟩
      have B4 := hide (st_trans (st_alloc B3.out (.cells #[.int .i64 (on), .int .i64 (od)] 24)) hb)
      have k16 : w4.cell? ⟨w1.heap.size, 0, none⟩ = some (.int .i64 (an)) := keepc hb (by go_simp)
      have k17 : w4.cell? ⟨w1.heap.size, 1, none⟩ = some (.int .i64 (ad)) := keepc hb (by go_simp)
      have k18 : w1.heap.size < w4.heap.size := by have hq := hb.size; (try simp at hq); omega
      have k19 : w4.cell? ⟨w1.heap.size + 1, 0, none⟩ = some (.int .i64 (bn)) := keepc hb (by go_simp)
      have k20 : w4.cell? ⟨w1.heap.size + 1, 1, none⟩ = some (.int .i64 (bd)) := keepc hb (by go_simp)
      have k21 : w1.heap.size + 1 < w4.heap.size := by have hq := hb.size; (try simp at hq); omega
      have k22 : w4.cell? ⟨w2.heap.size, 0, none⟩ = some (.int .i64 (on)) := keepc hb (by go_simp)
      have k23 : w4.cell? ⟨w2.heap.size, 1, none⟩ = some (.int .i64 (od)) := keepc hb (by go_simp)
      have k24 : w2.heap.size < w4.heap.size := by have hq := hb.size; (try simp at hq); omega
      have k25 : w4.cell? ⟨w3.heap.size, 0, none⟩ = some (.int .i64 (on)) := keepc hb (by go_simp)
      have k26 : w4.cell? ⟨w3.heap.size, 1, none⟩ = some (.int .i64 (od)) := keepc hb (by go_simp)
      have k27 : w3.heap.size < w4.heap.size := by have hq := hb.size; (try simp at hq); omega
      clear hb k7 k8 k9 k10 k11 k12 k13 k14 k15
      go_upto_region 9 with fail
      have B5 := hide (st_alloc B4.out (.cells #[.int .i64 (-on), .int .i64 (od)] 24))
      have k28 : (w4.alloc (.cells #[.int .i64 (-on), .int .i64 (od)] 24)).cell? ⟨w1.heap.size, 0, none⟩ = some (.int .i64 (an)) := by go_simp
      have k29 : (w4.alloc (.cells #[.int .i64 (-on), .int .i64 (od)] 24)).cell? ⟨w1.heap.size, 1, none⟩ = some (.int .i64 (ad)) := by go_simp
      have k30 : w1.heap.size < (w4.alloc (.cells #[.int .i64 (-on), .int .i64 (od)] 24)).heap.size := by simp <;> omega
      have k31 : (w4.alloc (.cells #[.int .i64 (-on), .int .i64 (od)] 24)).cell? ⟨w1.heap.size + 1, 0, none⟩ = some (.int .i64 (bn)) := by go_simp
      have k32 : (w4.alloc (.cells #[.int .i64 (-on), .int .i64 (od)] 24)).cell? ⟨w1.heap.size + 1, 1, none⟩ = some (.int .i64 (bd)) := by go_simp
      have k33 : w1.heap.size + 1 < (w4.alloc (.cells #[.int .i64 (-on), .int .i64 (od)] 24)).heap.size := by simp <;> omega
      have k34 : (w4.alloc (.cells #[.int .i64 (-on), .int .i64 (od)] 24)).cell? ⟨w2.heap.size, 0, none⟩ = some (.int .i64 (on)) := by go_simp
      have k35 : (w4.alloc (.cells #[.int .i64 (-on), .int .i64 (od)] 24)).cell? ⟨w2.heap.size, 1, none⟩ = some (.int .i64 (od)) := by go_simp
      have k36 : w2.heap.size < (w4.alloc (.cells #[.int .i64 (-on), .int .i64 (od)] 24)).heap.size := by simp <;> omega
      have k37 : (w4.alloc (.cells #[.int .i64 (-on), .int .i64 (od)] 24)).cell? ⟨w3.heap.size, 0, none⟩ = some (.int .i64 (on)) := by go_simp
      have k38 : (w4.alloc (.cells #[.int .i64 (-on), .int .i64 (od)] 24)).cell? ⟨w3.heap.size, 1, none⟩ = some (.int .i64 (od)) := by go_simp
      have k39 : w3.heap.size < (w4.alloc (.cells #[.int .i64 (-on), .int .i64 (od)] 24)).heap.size := by simp <;> omega
      have k40 : (w4.alloc (.cells #[.int .i64 (-on), .int .i64 (od)] 24)).cell? ⟨w4.heap.size, 0, none⟩ = some (.int .i64 (-on)) := by go_simp
      have k41 : (w4.alloc (.cells #[.int .i64 (-on), .int .i64 (od)] 24)).cell? ⟨w4.heap.size, 1, none⟩ = some (.int .i64 (od)) := by go_simp
      have k42 : w4.heap.size < (w4.alloc (.cells #[.int .i64 (-on), .int .i64 (od)] 24)).heap.size := by simp <;> omega
      obtain ⟨w5, hW⟩ := name_world (w4.alloc (.cells #[.int .i64 (-on), .int .i64 (od)] 24))
      rw [← hW] at k28 k29 k30 k31 k32 k33 k34 k35 k36 k37 k38 k39 k40 k41 k42 B5 ⊢
      clear hW k16 k17 k18 k19 k20 k21 k22 k23 k24 k25 k26 k27
      have HK0 := hide (st_refl w5)
      have HKd := hide (st_drew HK0.out)
      go_region_held3 (fun w' => w'.cell? ⟨w1.heap.size, 0, none⟩ = some (.int .i64 (an)) ∧ w'.cell? ⟨w1.heap.size, 1, none⟩ = some (.int .i64 (ad)) ∧ w'.cell? ⟨w1.heap.size + 1, 0, none⟩ = some (.int .i64 (bn)) ∧ w'.cell? ⟨w1.heap.size + 1, 1, none⟩ = some (.int .i64 (bd)) ∧ w'.cell? ⟨w2.heap.size, 0, none⟩ = some (.int .i64 (on)) ∧ w'.cell? ⟨w2.heap.size, 1, none⟩ = some (.int .i64 (od)) ∧ w'.cell? ⟨w4.heap.size, 0, none⟩ = some (.int .i64 (-on)) ∧ w'.cell? ⟨w4.heap.size, 1, none⟩ = some (.int .i64 (od))) (first | exact ⟨keepc (Hid.out (by assumption)) k28, keepc (Hid.out (by assumption)) k29, keepc (Hid.out (by assumption)) k31, keepc (Hid.out (by assumption)) k32, keepc (Hid.out (by assumption)) k34, keepc (Hid.out (by assumption)) k35, keepc (Hid.out (by assumption)) k40, keepc (Hid.out (by assumption)) k41⟩ | exact ⟨keepc (st_alloc (Hid.out (by assumption)) _) k28, keepc (st_alloc (Hid.out (by assumption)) _) k29, keepc (st_alloc (Hid.out (by assumption)) _) k31, keepc (st_alloc (Hid.out (by assumption)) _) k32, keepc (st_alloc (Hid.out (by assumption)) _) k34, keepc (st_alloc (Hid.out (by assumption)) _) k35, keepc (st_alloc (Hid.out (by assumption)) _) k40, keepc (st_alloc (Hid.out (by assumption)) _) k41⟩ | exact ⟨keepc (st_drew (st_alloc (Hid.out (by assumption)) _)) k28, keepc (st_drew (st_alloc (Hid.out (by assumption)) _)) k29, keepc (st_drew (st_alloc (Hid.out (by assumption)) _)) k31, keepc (st_drew (st_alloc (Hid.out (by assumption)) _)) k32, keepc (st_drew (st_alloc (Hid.out (by assumption)) _)) k34, keepc (st_drew (st_alloc (Hid.out (by assumption)) _)) k35, keepc (st_drew (st_alloc (Hid.out (by assumption)) _)) k40, keepc (st_drew (st_alloc (Hid.out (by assumption)) _)) k41⟩ | exact ⟨keepc (st_drew (Hid.out (by assumption))) k28, keepc (st_drew (Hid.out (by assumption))) k29, keepc (st_drew (Hid.out (by assumption))) k31, keepc (st_drew (Hid.out (by assumption))) k32, keepc (st_drew (Hid.out (by assumption))) k34, keepc (st_drew (Hid.out (by assumption))) k35, keepc (st_drew (Hid.out (by assumption))) k40, keepc (st_drew (Hid.out (by assumption))) k41⟩ | go_keep) (first | (go_at_call 28; refine (LB.out _).mono ?_; rintro e wx ⟨rfl, hbx⟩; have HK := hide (st_trans (a := w5) (by first | exact Hid.out (by assumption) | exact st_alloc (Hid.out (by assumption)) _ | exact st_drew (st_alloc (Hid.out (by assumption)) _)) hbx); have hnx := HK.out.size; obtain ⟨hcx, hfx⟩ := bcell hbx; have hsx := hbx.size; (try simp at hsx); (try have hsy := Nat.lt_of_succ_le hsx); (try have hlx := Nat.lt_of_lt_of_le (by assumption) hsx)))
      all_goals
        go_wp2
        go_ret
        first | exact ⟨rfl, st_trans B5.out (Hid.out (by assumption))⟩ | exact ⟨rfl, B5.out⟩ | exact ⟨rfl, st_drew B5.out⟩

end Go.Proofs.Ytpilgcikabcndaa
