/-
  The walk of the law FnFracSubSelf.
  Conditions: the bytes can be read.
-/
import Derived.Test.YtpilgcikabcndaaFh
import Derived.Deep.RegionWith
import Derived.Deep.QuietTactic
import Derived.BigQuiet
namespace Go.Proofs.Ytpilgcikabcndaa
open Go.RowKit Fr

theorem sub_back {an ad bn bd : Int} (h : subOk an ad bn bd = true) : subOk (subN an ad bn bd) (subD an ad bn bd) an ad = true ∧ subN (subN an ad bn bd) (subD an ad bn bd) an ad = 0 - bn ∧ subD (subN an ad bn bd) (subD an ad bn bd) an ad = bd := by
  obtain ⟨ha, hb, hx, hv⟩ := sub_val h
  generalize subN an ad bn bd = xn at *
  generalize subD an ad bn bd = xd at *
  refine sub_mk hx ha (ok_neg hb) ?_
  refine Int.eq_of_mul_eq_mul_right (ne_mul ha.ne hb.ne) ?_
  grind

set_option maxHeartbeats 8000000 in
theorem walk_fnFracSubSelf (a : Option Addr) (len cap : Nat) (w : World) (h : Code w a len cap) : Calls Try.prog 8 #[.slice a len cap] w fun e w' => e = .returned (.bool true) ∧ Below w.heap.size w w' := by
  have hm : len ≤ 9223372036854775807 := by have h1 := h.1; have h2 := h.2.1; unfold maxLen at h2; omega
  have H := hide h
  clear h
  by_cases hl : 1048576 < len
  · go_enter Try.func8, Try.ntmps8
    go_wp2
    go_ret
    exact ⟨rfl, Below.refl _ _⟩
  go_enter Try.func8, Try.ntmps8
  go_wp2_with fail
  refine (dDrawFracSub a len cap _ H.out).mono ?_
  rintro e w1 ⟨an, ad, bn, bd, rfl, hS, hS', hB⟩
  have sa := hide hS
  have sb := hide hS'
  have B1 := hide hB
  clear hS hS' hB
  have sO := hide (s9_sub an ad bn bd)
  obtain ⟨on, hon⟩ : ∃ x, subN an ad bn bd = x := ⟨_, rfl⟩
  obtain ⟨od, hod⟩ : ∃ x, subD an ad bn bd = x := ⟨_, rfl⟩
  rw [hon, hod] at sO
  cases ho : subOk an ad bn bd
  · have HO := hide (And.intro ho (And.intro hon hod))
    clear ho hon hod
    go_wp2_with fail
    refine (sub_as_impl HO.out (i4 sa.out sb.out) _).mono ?_
    rintro e w2 ⟨rfl, hb⟩
    have B2 := hide (st_trans (st_alloc (st_alloc B1.out (.cells #[.int .i64 (an), .int .i64 (ad)] 24)) (.cells #[.int .i64 (bn), .int .i64 (bd)] 24)) hb)
    have k1 : w2.cell? ⟨w1.heap.size, 0, none⟩ = some (.int .i64 (an)) := keepc hb (by go_simp)
    have k2 : w2.cell? ⟨w1.heap.size, 1, none⟩ = some (.int .i64 (ad)) := keepc hb (by go_simp)
    have k3 : w1.heap.size < w2.heap.size := by have hq := hb.size; (try simp at hq); omega
    have k4 : w2.cell? ⟨w1.heap.size + 1, 0, none⟩ = some (.int .i64 (bn)) := keepc hb (by go_simp)
    have k5 : w2.cell? ⟨w1.heap.size + 1, 1, none⟩ = some (.int .i64 (bd)) := keepc hb (by go_simp)
    have k6 : w1.heap.size + 1 < w2.heap.size := by have hq := hb.size; (try simp at hq); omega
    clear hb
    go_wp2_with fail
    refine (sub_as_spec HO.out (i4 sa.out sb.out) _).mono ?_
    rintro e w3 ⟨rfl, hb⟩
    have B3 := hide (st_trans (st_alloc B2.out (.cells #[.int .i64 (on), .int .i64 (od)] 24)) hb)
    have k7 : w3.cell? ⟨w1.heap.size, 0, none⟩ = some (.int .i64 (an)) := keepc hb (by go_simp)
    have k8 : w3.cell? ⟨w1.heap.size, 1, none⟩ = some (.int .i64 (ad)) := keepc hb (by go_simp)
    have k9 : w1.heap.size < w3.heap.size := by have hq := hb.size; (try simp at hq); omega
    have k10 : w3.cell? ⟨w1.heap.size + 1, 0, none⟩ = some (.int .i64 (bn)) := keepc hb (by go_simp)
    have k11 : w3.cell? ⟨w1.heap.size + 1, 1, none⟩ = some (.int .i64 (bd)) := keepc hb (by go_simp)
    have k12 : w1.heap.size + 1 < w3.heap.size := by have hq := hb.size; (try simp at hq); omega
    have k13 : w3.cell? ⟨w2.heap.size, 0, none⟩ = some (.int .i64 (on)) := keepc hb (by go_simp)
    have k14 : w3.cell? ⟨w2.heap.size, 1, none⟩ = some (.int .i64 (od)) := keepc hb (by go_simp)
    have k15 : w2.heap.size < w3.heap.size := by have hq := hb.size; (try simp at hq); omega
    clear hb k1 k2 k3 k4 k5 k6
    go_wp2
    go_ret
    exact ⟨rfl, (st_alloc B3.out (.cells #[.int .i64 (on), .int .i64 (od)] 24))⟩
  · have HO := hide (And.intro ho (And.intro hon hod))
    clear ho hon hod
    go_wp2_with fail
    refine (sub_as_impl HO.out (i4 sa.out sb.out) _).mono ?_
    rintro e w2 ⟨rfl, hb⟩
    have B2 := hide (st_trans (st_alloc (st_alloc B1.out (.cells #[.int .i64 (an), .int .i64 (ad)] 24)) (.cells #[.int .i64 (bn), .int .i64 (bd)] 24)) hb)
    have k1 : w2.cell? ⟨w1.heap.size, 0, none⟩ = some (.int .i64 (an)) := keepc hb (by go_simp)
    have k2 : w2.cell? ⟨w1.heap.size, 1, none⟩ = some (.int .i64 (ad)) := keepc hb (by go_simp)
    have k3 : w1.heap.size < w2.heap.size := by have hq := hb.size; (try simp at hq); omega
    have k4 : w2.cell? ⟨w1.heap.size + 1, 0, none⟩ = some (.int .i64 (bn)) := keepc hb (by go_simp)
    have k5 : w2.cell? ⟨w1.heap.size + 1, 1, none⟩ = some (.int .i64 (bd)) := keepc hb (by go_simp)
    have k6 : w1.heap.size + 1 < w2.heap.size := by have hq := hb.size; (try simp at hq); omega
    clear hb
    go_wp2_with fail
    refine (sub_as_spec HO.out (i4 sa.out sb.out) _).mono ?_
    rintro e w3 ⟨rfl, hb⟩
    have B3 := hide (st_trans (st_alloc B2.out (.cells #[.int .i64 (on), .int .i64 (od)] 24)) hb)
    have k7 : w3.cell? ⟨w1.heap.size, 0, none⟩ = some (.int .i64 (an)) := keepc hb (by go_simp)
    have k8 : w3.cell? ⟨w1.heap.size, 1, none⟩ = some (.int .i64 (ad)) := keepc hb (by go_simp)
    have k9 : w1.heap.size < w3.heap.size := by have hq := hb.size; (try simp at hq); omega
    have k10 : w3.cell? ⟨w1.heap.size + 1, 0, none⟩ = some (.int .i64 (bn)) := keepc hb (by go_simp)
    have k11 : w3.cell? ⟨w1.heap.size + 1, 1, none⟩ = some (.int .i64 (bd)) := keepc hb (by go_simp)
    have k12 : w1.heap.size + 1 < w3.heap.size := by have hq := hb.size; (try simp at hq); omega
    have k13 : w3.cell? ⟨w2.heap.size, 0, none⟩ = some (.int .i64 (on)) := keepc hb (by go_simp)
    have k14 : w3.cell? ⟨w2.heap.size, 1, none⟩ = some (.int .i64 (od)) := keepc hb (by go_simp)
    have k15 : w2.heap.size < w3.heap.size := by have hq := hb.size; (try simp at hq); omega
    clear hb k1 k2 k3 k4 k5 k6
    obtain ⟨q0, q1, q2⟩ := HO.out
    have l1 := (sub_self q0).1
    have l2 := sub_back q0
    rw [q1, q2] at l2
    have PX := hide l1
    have PY := hide l2
    clear q0 q1 q2 l1 l2
    have hs := sb.out
    unfold S9 at hs
    have wr := wrap_neg bn (by omega) (by omega)
    have wr2 := wrap_neg2 bn (by omega) (by omega)
    clear hs
    go_wp2_with fail
    refine (sub_as_impl PX.out (i4 sa.out sa.out) _).mono ?_
    rintro e w4 ⟨rfl, hb⟩
    have B4 := hide (st_trans (st_alloc B3.out (.cells #[.int .i64 (on), .int .i64 (od)] 24)) hb)
    have k16 : w4.cell? ⟨w1.heap.size, 0, none⟩ = some (.int .i64 (an)) := keepc hb (by go_simp)
    have k17 : w4.cell? ⟨w1.heap.size, 1, none⟩ = some (.int .i64 (ad)) := keepc hb (by go_simp)
    have k18 : w1.heap.size < w4.heap.size := by have hq := hb.size; (try simp at hq); omega
    have k19 : w4.cell? ⟨w1.heap.size + 1, 0, none⟩ = some (.int .i64 (bn)) := keepc hb (by go_simp)
    have k20 : w4.cell? ⟨w1.heap.size + 1, 1, none⟩ = some (.int .i64 (bd)) := keepc hb (by go_simp)
    have k21 : w1.heap.size + 1 < w4.heap.size := by have hq := hb.size; (try simp at hq); omega
    have k22 : w4.cell? ⟨w2.heap.size, 0, none⟩ = some (.int .i64 (on)) := keepc hb (by go_simp)
    have k23 : w4.cell? ⟨w2.heap.size, 1, none⟩ = some (.int .i64 (od)) := keepc hb (by go_simp)
    have k24 : w2.heap.size < w4.heap.size := by have hq := hb.size; (try simp at hq); omega
    have k25 : w4.cell? ⟨w3.heap.size, 0, none⟩ = some (.int .i64 (on)) := keepc hb (by go_simp)
    have k26 : w4.cell? ⟨w3.heap.size, 1, none⟩ = some (.int .i64 (od)) := keepc hb (by go_simp)
    have k27 : w3.heap.size < w4.heap.size := by have hq := hb.size; (try simp at hq); omega
    clear hb k7 k8 k9 k10 k11 k12 k13 k14 k15
    go_wp2_with fail
    refine (sub_as_impl PY.out (i4 sO.out sa.out) _).mono ?_
    rintro e w5 ⟨rfl, hb⟩
    have B5 := hide (st_trans (st_alloc B4.out (.cells #[.int .i64 (0), .int .i64 (1)] 24)) hb)
    have k28 : w5.cell? ⟨w1.heap.size, 0, none⟩ = some (.int .i64 (an)) := keepc hb (by go_simp)
    have k29 : w5.cell? ⟨w1.heap.size, 1, none⟩ = some (.int .i64 (ad)) := keepc hb (by go_simp)
    have k30 : w1.heap.size < w5.heap.size := by have hq := hb.size; (try simp at hq); omega
    have k31 : w5.cell? ⟨w1.heap.size + 1, 0, none⟩ = some (.int .i64 (bn)) := keepc hb (by go_simp)
    have k32 : w5.cell? ⟨w1.heap.size + 1, 1, none⟩ = some (.int .i64 (bd)) := keepc hb (by go_simp)
    have k33 : w1.heap.size + 1 < w5.heap.size := by have hq := hb.size; (try simp at hq); omega
    have k34 : w5.cell? ⟨w2.heap.size, 0, none⟩ = some (.int .i64 (on)) := keepc hb (by go_simp)
    have k35 : w5.cell? ⟨w2.heap.size, 1, none⟩ = some (.int .i64 (od)) := keepc hb (by go_simp)
    have k36 : w2.heap.size < w5.heap.size := by have hq := hb.size; (try simp at hq); omega
    have k37 : w5.cell? ⟨w3.heap.size, 0, none⟩ = some (.int .i64 (on)) := keepc hb (by go_simp)
    have k38 : w5.cell? ⟨w3.heap.size, 1, none⟩ = some (.int .i64 (od)) := keepc hb (by go_simp)
    have k39 : w3.heap.size < w5.heap.size := by have hq := hb.size; (try simp at hq); omega
    have k40 : w5.cell? ⟨w4.heap.size, 0, none⟩ = some (.int .i64 (0)) := keepc hb (by go_simp)
    have k41 : w5.cell? ⟨w4.heap.size, 1, none⟩ = some (.int .i64 (1)) := keepc hb (by go_simp)
    have k42 : w4.heap.size < w5.heap.size := by have hq := hb.size; (try simp at hq); omega
    clear hb k16 k17 k18 k19 k20 k21 k22 k23 k24 k25 k26 k27
    go_upto_region 10 with fail
    have B6 := hide (st_alloc B5.out (.cells #[.int .i64 (-bn), .int .i64 (bd)] 24))
    have k43 : (w5.alloc (.cells #[.int .i64 (-bn), .int .i64 (bd)] 24)).cell? ⟨w1.heap.size, 0, none⟩ = some (.int .i64 (an)) := by go_simp
    have k44 : (w5.alloc (.cells #[.int .i64 (-bn), .int .i64 (bd)] 24)).cell? ⟨w1.heap.size, 1, none⟩ = some (.int .i64 (ad)) := by go_simp
    have k45 : w1.heap.size < (w5.alloc (.cells #[.int .i64 (-bn), .int .i64 (bd)] 24)).heap.size := by simp <;> omega
    have k46 : (w5.alloc (.cells #[.int .i64 (-bn), .int .i64 (bd)] 24)).cell? ⟨w1.heap.size + 1, 0, none⟩ = some (.int .i64 (bn)) := by go_simp
    have k47 : (w5.alloc (.cells #[.int .i64 (-bn), .int .i64 (bd)] 24)).cell? ⟨w1.heap.size + 1, 1, none⟩ = some (.int .i64 (bd)) := by go_simp
    have k48 : w1.heap.size + 1 < (w5.alloc (.cells #[.int .i64 (-bn), .int .i64 (bd)] 24)).heap.size := by simp <;> omega
    have k49 : (w5.alloc (.cells #[.int .i64 (-bn), .int .i64 (bd)] 24)).cell? ⟨w2.heap.size, 0, none⟩ = some (.int .i64 (on)) := by go_simp
    have k50 : (w5.alloc (.cells #[.int .i64 (-bn), .int .i64 (bd)] 24)).cell? ⟨w2.heap.size, 1, none⟩ = some (.int .i64 (od)) := by go_simp
    have k51 : w2.heap.size < (w5.alloc (.cells #[.int .i64 (-bn), .int .i64 (bd)] 24)).heap.size := by simp <;> omega
    have k52 : (w5.alloc (.cells #[.int .i64 (-bn), .int .i64 (bd)] 24)).cell? ⟨w3.heap.size, 0, none⟩ = some (.int .i64 (on)) := by go_simp
    have k53 : (w5.alloc (.cells #[.int .i64 (-bn), .int .i64 (bd)] 24)).cell? ⟨w3.heap.size, 1, none⟩ = some (.int .i64 (od)) := by go_simp
    have k54 : w3.heap.size < (w5.alloc (.cells #[.int .i64 (-bn), .int .i64 (bd)] 24)).heap.size := by simp <;> omega
    have k55 : (w5.alloc (.cells #[.int .i64 (-bn), .int .i64 (bd)] 24)).cell? ⟨w4.heap.size, 0, none⟩ = some (.int .i64 (0)) := by go_simp
    have k56 : (w5.alloc (.cells #[.int .i64 (-bn), .int .i64 (bd)] 24)).cell? ⟨w4.heap.size, 1, none⟩ = some (.int .i64 (1)) := by go_simp
    have k57 : w4.heap.size < (w5.alloc (.cells #[.int .i64 (-bn), .int .i64 (bd)] 24)).heap.size := by simp <;> omega
    have k58 : (w5.alloc (.cells #[.int .i64 (-bn), .int .i64 (bd)] 24)).cell? ⟨w5.heap.size, 0, none⟩ = some (.int .i64 (-bn)) := by go_simp
    have k59 : (w5.alloc (.cells #[.int .i64 (-bn), .int .i64 (bd)] 24)).cell? ⟨w5.heap.size, 1, none⟩ = some (.int .i64 (bd)) := by go_simp
    have k60 : w5.heap.size < (w5.alloc (.cells #[.int .i64 (-bn), .int .i64 (bd)] 24)).heap.size := by simp <;> omega
    obtain ⟨w6, hW⟩ := name_world (w5.alloc (.cells #[.int .i64 (-bn), .int .i64 (bd)] 24))
    rw [← hW] at k43 k44 k45 k46 k47 k48 k49 k50 k51 k52 k53 k54 k55 k56 k57 k58 k59 k60 B6 ⊢
    clear hW k28 k29 k30 k31 k32 k33 k34 k35 k36 k37 k38 k39 k40 k41 k42
    have HK0 := hide (st_refl w6)
    have HKd := hide (st_drew HK0.out)
    go_region_held3 (fun w' => w'.cell? ⟨w1.heap.size + 1, 0, none⟩ = some (.int .i64 (bn)) ∧ w'.cell? ⟨w1.heap.size + 1, 1, none⟩ = some (.int .i64 (bd)) ∧ w'.cell? ⟨w4.heap.size, 0, none⟩ = some (.int .i64 (0)) ∧ w'.cell? ⟨w4.heap.size, 1, none⟩ = some (.int .i64 (1)) ∧ w'.cell? ⟨w5.heap.size, 0, none⟩ = some (.int .i64 (-bn)) ∧ w'.cell? ⟨w5.heap.size, 1, none⟩ = some (.int .i64 (bd))) (first | exact ⟨keepc (Hid.out (by assumption)) k46, keepc (Hid.out (by assumption)) k47, keepc (Hid.out (by assumption)) k55, keepc (Hid.out (by assumption)) k56, keepc (Hid.out (by assumption)) k58, keepc (Hid.out (by assumption)) k59⟩ | exact ⟨keepc (st_alloc (Hid.out (by assumption)) _) k46, keepc (st_alloc (Hid.out (by assumption)) _) k47, keepc (st_alloc (Hid.out (by assumption)) _) k55, keepc (st_alloc (Hid.out (by assumption)) _) k56, keepc (st_alloc (Hid.out (by assumption)) _) k58, keepc (st_alloc (Hid.out (by assumption)) _) k59⟩ | exact ⟨keepc (st_drew (st_alloc (Hid.out (by assumption)) _)) k46, keepc (st_drew (st_alloc (Hid.out (by assumption)) _)) k47, keepc (st_drew (st_alloc (Hid.out (by assumption)) _)) k55, keepc (st_drew (st_alloc (Hid.out (by assumption)) _)) k56, keepc (st_drew (st_alloc (Hid.out (by assumption)) _)) k58, keepc (st_drew (st_alloc (Hid.out (by assumption)) _)) k59⟩ | exact ⟨keepc (st_drew (Hid.out (by assumption))) k46, keepc (st_drew (Hid.out (by assumption))) k47, keepc (st_drew (Hid.out (by assumption))) k55, keepc (st_drew (Hid.out (by assumption))) k56, keepc (st_drew (Hid.out (by assumption))) k58, keepc (st_drew (Hid.out (by assumption))) k59⟩ | go_keep) (first | (go_at_call 29; refine (frac_law _ _).mono ?_; rintro e wx ⟨rfl, hbx⟩; have HK := hide (st_trans (a := w6) (by first | exact Hid.out (by assumption) | exact st_alloc (Hid.out (by assumption)) _ | exact st_drew (st_alloc (Hid.out (by assumption)) _)) hbx); have hnx := HK.out.size; obtain ⟨hcx, hfx⟩ := bcell hbx; have hsx := hbx.size; (try simp at hsx); (try have hsy := Nat.lt_of_succ_le hsx); (try have hlx := Nat.lt_of_lt_of_le (by assumption) hsx)))
    all_goals
      go_wp2
      go_ret
      first | exact ⟨rfl, st_trans B6.out (Hid.out (by assumption))⟩ | exact ⟨rfl, B6.out⟩ | exact ⟨rfl, st_drew B6.out⟩

end Go.Proofs.Ytpilgcikabcndaa
