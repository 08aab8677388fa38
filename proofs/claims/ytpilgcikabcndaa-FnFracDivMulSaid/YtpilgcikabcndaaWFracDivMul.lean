/-
  The walk of the law FnFracDivMul.
  Conditions: the bytes can be read.
-/
import Derived.Test.YtpilgcikabcndaaFh
namespace Go.Proofs.Ytpilgcikabcndaa
open Go.RowKit Fr

set_option maxHeartbeats 8000000 in
theorem walk_fnFracDivMul (a : Option Addr) (len cap : Nat) (w : World) (h : Code w a len cap) : Calls Try.prog 13 #[.slice a len cap] w fun e w' => e = .returned (.bool true) ∧ Below w.heap.size w w' := by
  have hm : len ≤ 9223372036854775807 := by have h1 := h.1; have h2 := h.2.1; unfold maxLen at h2; omega
  have H := hide h
  clear h
  by_cases hl : 1048576 < len
  · go_enter Try.func13, Try.ntmps13
    go_wp2
    go_ret
    exact ⟨rfl, Below.refl _ _⟩
  go_enter Try.func13, Try.ntmps13
  go_wp2_with fail
  refine (dDrawFracDiv a len cap _ H.out).mono ?_
  rintro e w1 ⟨an, ad, bn, bd, rfl, hS, hS', hB⟩
  have sa := hide hS
  have sb := hide hS'
  have B1 := hide hB
  clear hS hS' hB
  have sO := hide (s9_div an ad bn bd)
  obtain ⟨on, hon⟩ : ∃ x, divN an ad bn bd = x := ⟨_, rfl⟩
  obtain ⟨od, hod⟩ : ∃ x, divD an ad bn bd = x := ⟨_, rfl⟩
  rw [hon, hod] at sO
  cases ho : divOk an ad bn bd
  · have HO := hide (And.intro ho (And.intro hon hod))
    clear ho hon hod
    go_wp2_with fail
    refine (div_as_impl HO.out (i4 sa.out sb.out) _).mono ?_
    rintro e w2 ⟨rfl, hb⟩
    have B2 := hide (st_trans (st_alloc (st_alloc B1.out (.cells #[.int .i64 (an), .int .i64 (ad)] 24)) (.cells #[.int .i64 (bn), .int .i64 (bd)] 24)) hb)
    have k1 : w2.cell? ⟨w1.heap.size, 0, none⟩ = some (.int .i64 (an)) := keepc hb (by go_simp)
    have k2 : w2.cell? ⟨w1.heap.size, 1, none⟩ = some (.int .i64 (ad)) := keepc hb (by go_simp)
    have k3 : w1.heap.size < w2.heap.size := by have hq := hb.size; (try simp at hq); omega
    have k4 : w2.cell? ⟨w1.heap.size + 1, 0, none⟩ = some (.int .i64 (bn)) := keepc hb (by go_simp)
    have k5 : w2.cell? ⟨w1.heap.size + 1, 1, none⟩ = some (.int .i64 (bd)) := keepc hb (by go_simp)
    have k6 : w1.heap.size + 1 < w2.heap.size := by have hq := hb.size; (try simp at hq); omega
    clear hb
    go_wp2_with fail
    refine (div_as_spec HO.out (i4 sa.out sb.out) _).mono ?_
    rintro e w3 ⟨rfl, hb⟩
    have B3 := hide (st_trans (st_alloc B2.out (.cells #[.int .i64 (on), .int .i64 (od)] 24)) hb)
    have k7 : w3.cell? ⟨w1.heap.size, 0, none⟩ = some (.int .i64 (an)) := keepc hb (by go_simp)
    have k8 : w3.cell? ⟨w1.heap.size, 1, none⟩ = some (.int .i64 (ad)) := keepc hb (by go_simp)
    have k9 : w1.heap.size < w3.heap.size := by have hq := hb.size; (try simp at hq); omega
    have k10 : w3.cell? ⟨w1.heap.size + 1, 0, none⟩ = some (.int .i64 (bn)) := keepc hb (by go_simp)
    have k11 : w3.cell? ⟨w1.heap.size + 1, 1, none⟩ = some (.int .i64 (bd)) := keepc hb (by go_simp)
    have k12 : w1.heap.size + 1 < w3.heap.size := by have hq := hb.size; (try simp at hq); omega
    have k13 : w3.cell? ⟨w2.heap.size, 0, none⟩ = some (.int .i64 (on)) := keepc hb (by go_simp)
    have k14 : w3.cell? ⟨w2.heap.size, 1, none⟩ = some (.int .i64 (od)) := keepc hb (by go_simp)
    have k15 : w2.heap.size < w3.heap.size := by have hq := hb.size; (try simp at hq); omega
    clear hb k1 k2 k3 k4 k5 k6
    go_wp2
    go_ret
    exact ⟨rfl, (st_alloc B3.out (.cells #[.int .i64 (on), .int .i64 (od)] 24))⟩
  · have HO := hide (And.intro ho (And.intro hon hod))
    clear ho hon hod
    go_wp2_with fail
    refine (div_as_impl HO.out (i4 sa.out sb.out) _).mono ?_
    rintro e w2 ⟨rfl, hb⟩
    have B2 := hide (st_trans (st_alloc (st_alloc B1.out (.cells #[.int .i64 (an), .int .i64 (ad)] 24)) (.cells #[.int .i64 (bn), .int .i64 (bd)] 24)) hb)
    have k1 : w2.cell? ⟨w1.heap.size, 0, none⟩ = some (.int .i64 (an)) := keepc hb (by go_simp)
    have k2 : w2.cell? ⟨w1.heap.size, 1, none⟩ = some (.int .i64 (ad)) := keepc hb (by go_simp)
    have k3 : w1.heap.size < w2.heap.size := by have hq := hb.size; (try simp at hq); omega
    have k4 : w2.cell? ⟨w1.heap.size + 1, 0, none⟩ = some (.int .i64 (bn)) := keepc hb (by go_simp)
    have k5 : w2.cell? ⟨w1.heap.size + 1, 1, none⟩ = some (.int .i64 (bd)) := keepc hb (by go_simp)
    have k6 : w1.heap.size + 1 < w2.heap.size := by have hq := hb.size; (try simp at hq); omega
    clear hb
    go_wp2_with fail
    refine (div_as_spec HO.out (i4 sa.out sb.out) _).mono ?_
    rintro e w3 ⟨rfl, hb⟩
    have B3 := hide (st_trans (st_alloc B2.out (.cells #[.int .i64 (on), .int .i64 (od)] 24)) hb)
    have k7 : w3.cell? ⟨w1.heap.size, 0, none⟩ = some (.int .i64 (an)) := keepc hb (by go_simp)
    have k8 : w3.cell? ⟨w1.heap.size, 1, none⟩ = some (.int .i64 (ad)) := keepc hb (by go_simp)
    have k9 : w1.heap.size < w3.heap.size := by have hq := hb.size; (try simp at hq); omega
    have k10 : w3.cell? ⟨w1.heap.size + 1, 0, none⟩ = some (.int .i64 (bn)) := keepc hb (by go_simp)
    have k11 : w3.cell? ⟨w1.heap.size + 1, 1, none⟩ = some (.int .i64 (bd)) := keepc hb (by go_simp)
    have k12 : w1.heap.size + 1 < w3.heap.size := by have hq := hb.size; (try simp at hq); omega
    have k13 : w3.cell? ⟨w2.heap.size, 0, none⟩ = some (.int .i64 (on)) := keepc hb (by go_simp)
    have k14 : w3.cell? ⟨w2.heap.size, 1, none⟩ = some (.int .i64 (od)) := keepc hb (by go_simp)
    have k15 : w2.heap.size < w3.heap.size := by have hq := hb.size; (try simp at hq); omega
    clear hb k1 k2 k3 k4 k5 k6
    obtain ⟨xn, hxn⟩ : ∃ x, divN 1 1 bn bd = x := ⟨_, rfl⟩
    obtain ⟨xd, hxd⟩ : ∃ x, divD 1 1 bn bd = x := ⟨_, rfl⟩
    have sx : S9 xn xd := by rw [← hxn, ← hxd]; exact s9_div _ _ _ _
    have iX := hide (i4 (s9_c 1 1 (by omega)) sb.out)
    have iY := hide (i4 sa.out sx)
    clear sx
    cases hp : divOk 1 1 bn bd
    · obtain ⟨yn, hyn⟩ : ∃ x, mulN an ad xn xd = x := ⟨_, rfl⟩
      obtain ⟨yd, hyd⟩ : ∃ x, mulD an ad xn xd = x := ⟨_, rfl⟩
      obtain ⟨yo, hyo⟩ : ∃ x, mulOk an ad xn xd = x := ⟨_, rfl⟩
      have PY := hide (And.intro hyo (And.intro hyn hyd))
      clear hyn hyd hyo
      have PX := hide (And.intro hp (And.intro hxn hxd))
      clear hp hxn hxd
      go_upto_region 8 with fail
      have B4 := hide (st_alloc B3.out (.cells #[.int .i64 (on), .int .i64 (od)] 24))
      have k16 : (w3.alloc (.cells #[.int .i64 (on), .int .i64 (od)] 24)).cell? ⟨w1.heap.size, 0, none⟩ = some (.int .i64 (an)) := by go_simp
      have k17 : (w3.alloc (.cells #[.int .i64 (on), .int .i64 (od)] 24)).cell? ⟨w1.heap.size, 1, none⟩ = some (.int .i64 (ad)) := by go_simp
      have k18 : w1.heap.size < (w3.alloc (.cells #[.int .i64 (on), .int .i64 (od)] 24)).heap.size := by simp <;> omega
      have k19 : (w3.alloc (.cells #[.int .i64 (on), .int .i64 (od)] 24)).cell? ⟨w1.heap.size + 1, 0, none⟩ = some (.int .i64 (bn)) := by go_simp
      have k20 : (w3.alloc (.cells #[.int .i64 (on), .int .i64 (od)] 24)).cell? ⟨w1.heap.size + 1, 1, none⟩ = some (.int .i64 (bd)) := by go_simp
      have k21 : w1.heap.size + 1 < (w3.alloc (.cells #[.int .i64 (on), .int .i64 (od)] 24)).heap.size := by simp <;> omega
      have k22 : (w3.alloc (.cells #[.int .i64 (on), .int .i64 (od)] 24)).cell? ⟨w2.heap.size, 0, none⟩ = some (.int .i64 (on)) := by go_simp
      have k23 : (w3.alloc (.cells #[.int .i64 (on), .int .i64 (od)] 24)).cell? ⟨w2.heap.size, 1, none⟩ = some (.int .i64 (od)) := by go_simp
      have k24 : w2.heap.size < (w3.alloc (.cells #[.int .i64 (on), .int .i64 (od)] 24)).heap.size := by simp <;> omega
      have k25 : (w3.alloc (.cells #[.int .i64 (on), .int .i64 (od)] 24)).cell? ⟨w3.heap.size, 0, none⟩ = some (.int .i64 (on)) := by go_simp
      have k26 : (w3.alloc (.cells #[.int .i64 (on), .int .i64 (od)] 24)).cell? ⟨w3.heap.size, 1, none⟩ = some (.int .i64 (od)) := by go_simp
      have k27 : w3.heap.size < (w3.alloc (.cells #[.int .i64 (on), .int .i64 (od)] 24)).heap.size := by simp <;> omega
      obtain ⟨w4, hW⟩ := name_world (w3.alloc (.cells #[.int .i64 (on), .int .i64 (od)] 24))
      rw [← hW] at k16 k17 k18 k19 k20 k21 k22 k23 k24 k25 k26 k27 B4 ⊢
      clear hW k7 k8 k9 k10 k11 k12 k13 k14 k15
      go_cut [9, 10] (fun s t wx => Got w4 (xn) (xd) (false) s t wx)
      case first =>
        have HK0 := hide (st_refl w4)
        have HKd := hide (st_drew HK0.out)
        go_region_held3 (fun w' => w'.cell? ⟨w1.heap.size + 1, 0, none⟩ = some (.int .i64 (bn)) ∧ w'.cell? ⟨w1.heap.size + 1, 1, none⟩ = some (.int .i64 (bd))) (first | exact ⟨keepc (Hid.out (by assumption)) k19, keepc (Hid.out (by assumption)) k20⟩ | exact ⟨keepc (st_alloc (Hid.out (by assumption)) _) k19, keepc (st_alloc (Hid.out (by assumption)) _) k20⟩ | exact ⟨keepc (st_drew (st_alloc (Hid.out (by assumption)) _)) k19, keepc (st_drew (st_alloc (Hid.out (by assumption)) _)) k20⟩ | exact ⟨keepc (st_drew (Hid.out (by assumption))) k19, keepc (st_drew (Hid.out (by assumption))) k20⟩ | exact ⟨keepc (st_set (st_set (Hid.out (by assumption)) (by dsimp only; omega) _) (by dsimp only; omega) _) k19, keepc (st_set (st_set (Hid.out (by assumption)) (by dsimp only; omega) _) (by dsimp only; omega) _) k20⟩ | go_keep) (first | (go_at_call 29; refine (frac_law _ _).mono ?_; rintro e wx ⟨rfl, hbx⟩; have HK := hide (st_trans (a := w4) (by first | exact Hid.out (by assumption) | exact st_alloc (Hid.out (by assumption)) _ | exact st_drew (st_alloc (Hid.out (by assumption)) _)) hbx); have hnx := HK.out.size; obtain ⟨hcx, hfx⟩ := bcell hbx; have hsx := hbx.size; (try simp at hsx); (try have hsy := Nat.lt_of_succ_le hsx); (try have hlx := Nat.lt_of_lt_of_le (by assumption) hsx)) | (go_at_call 31; refine (div_as_impl PX.out iX.out _).mono ?_; rintro e wx ⟨rfl, hbx⟩; have HK := hide (st_trans (a := w4) (by first | exact Hid.out (by assumption) | exact st_alloc (Hid.out (by assumption)) _ | exact st_drew (st_alloc (Hid.out (by assumption)) _)) hbx); have hnx := HK.out.size; obtain ⟨hcx, hfx⟩ := bcell hbx; have hsx := hbx.size; (try simp at hsx); (try have hsy := Nat.lt_of_succ_le hsx); (try have hlx := Nat.lt_of_lt_of_le (by assumption) hsx)))
        all_goals
          go_wp2_with fail
          go_meet
          refine ⟨_, rfl, rfl, ?_, ?_, ?_⟩
          · go_simp
          · go_simp
          · first | exact st_alloc (Hid.out (by assumption)) _ | exact st_set (st_set (Hid.out (by assumption)) (by dsimp only; omega) _) (by dsimp only; omega) _
      obtain ⟨g5, rfl, rfl, hg0, hg1, hb⟩ := hcut
      obtain ⟨w5, hW⟩ := name_world wc
      rw [← hW] at hg0 hg1 hb ⊢
      clear hW
      have B5 := hide (st_trans B4.out hb)
      have k28 : w5.cell? ⟨w1.heap.size, 0, none⟩ = some (.int .i64 (an)) := keepc hb (by assumption)
      have k29 : w5.cell? ⟨w1.heap.size, 1, none⟩ = some (.int .i64 (ad)) := keepc hb (by assumption)
      have k30 : w1.heap.size < w5.heap.size := by have hq := hb.size; omega
      have k31 : w5.cell? ⟨w1.heap.size + 1, 0, none⟩ = some (.int .i64 (bn)) := keepc hb (by assumption)
      have k32 : w5.cell? ⟨w1.heap.size + 1, 1, none⟩ = some (.int .i64 (bd)) := keepc hb (by assumption)
      have k33 : w1.heap.size + 1 < w5.heap.size := by have hq := hb.size; omega
      have k34 : w5.cell? ⟨w2.heap.size, 0, none⟩ = some (.int .i64 (on)) := keepc hb (by assumption)
      have k35 : w5.cell? ⟨w2.heap.size, 1, none⟩ = some (.int .i64 (od)) := keepc hb (by assumption)
      have k36 : w2.heap.size < w5.heap.size := by have hq := hb.size; omega
      have k37 : w5.cell? ⟨w3.heap.size, 0, none⟩ = some (.int .i64 (on)) := keepc hb (by assumption)
      have k38 : w5.cell? ⟨w3.heap.size, 1, none⟩ = some (.int .i64 (od)) := keepc hb (by assumption)
      have k39 : w3.heap.size < w5.heap.size := by have hq := hb.size; omega
      have hgz : g5 < w5.heap.size := World.block_lt_of_cell? _ _ hg0
      clear hb k16 k17 k18 k19 k20 k21 k22 k23 k24 k25 k26 k27
      have kg5 := hg0
      have kh5 := hg1
      have kz5 := hgz
      clear hg0 hg1 hgz
      go_wp2_with fail
      refine (mul_as_impl PY.out iY.out _).mono ?_
      rintro e w6 ⟨rfl, hb⟩
      have B6 := hide (st_trans B5.out hb)
      have k41 : w6.cell? ⟨w1.heap.size, 0, none⟩ = some (.int .i64 (an)) := keepc hb (by go_simp)
      have k42 : w6.cell? ⟨w1.heap.size, 1, none⟩ = some (.int .i64 (ad)) := keepc hb (by go_simp)
      have k43 : w1.heap.size < w6.heap.size := by have hq := hb.size; (try simp at hq); omega
      have k44 : w6.cell? ⟨w1.heap.size + 1, 0, none⟩ = some (.int .i64 (bn)) := keepc hb (by go_simp)
      have k45 : w6.cell? ⟨w1.heap.size + 1, 1, none⟩ = some (.int .i64 (bd)) := keepc hb (by go_simp)
      have k46 : w1.heap.size + 1 < w6.heap.size := by have hq := hb.size; (try simp at hq); omega
      have k47 : w6.cell? ⟨w2.heap.size, 0, none⟩ = some (.int .i64 (on)) := keepc hb (by go_simp)
      have k48 : w6.cell? ⟨w2.heap.size, 1, none⟩ = some (.int .i64 (od)) := keepc hb (by go_simp)
      have k49 : w2.heap.size < w6.heap.size := by have hq := hb.size; (try simp at hq); omega
      have k50 : w6.cell? ⟨w3.heap.size, 0, none⟩ = some (.int .i64 (on)) := keepc hb (by go_simp)
      have k51 : w6.cell? ⟨w3.heap.size, 1, none⟩ = some (.int .i64 (od)) := keepc hb (by go_simp)
      have k52 : w3.heap.size < w6.heap.size := by have hq := hb.size; (try simp at hq); omega
      have k53 : w6.cell? ⟨g5, 0, none⟩ = some (.int .i64 (xn)) := keepc hb (by go_simp)
      have k54 : w6.cell? ⟨g5, 1, none⟩ = some (.int .i64 (xd)) := keepc hb (by go_simp)
      have k55 : g5 < w6.heap.size := by have hq := hb.size; (try simp at hq); omega
      clear hb k28 k29 k30 k31 k32 k33 k34 k35 k36 k37 k38 k39 kg5 kh5 kz5
      go_wp2
      go_ret
      exact ⟨rfl, (st_alloc B6.out (.cells #[.int .i64 (yn), .int .i64 (yd)] 24))⟩
    · obtain ⟨q0, q1, q2⟩ := HO.out
      have l := div_mul q0 hp
      rw [q1, q2, hxn, hxd] at l
      have PY := hide l
      clear l q0 q1 q2
      have PX := hide (And.intro hp (And.intro hxn hxd))
      clear hp hxn hxd
      go_upto_region 8 with fail
      have B4 := hide (st_alloc B3.out (.cells #[.int .i64 (on), .int .i64 (od)] 24))
      have k16 : (w3.alloc (.cells #[.int .i64 (on), .int .i64 (od)] 24)).cell? ⟨w1.heap.size, 0, none⟩ = some (.int .i64 (an)) := by go_simp
      have k17 : (w3.alloc (.cells #[.int .i64 (on), .int .i64 (od)] 24)).cell? ⟨w1.heap.size, 1, none⟩ = some (.int .i64 (ad)) := by go_simp
      have k18 : w1.heap.size < (w3.alloc (.cells #[.int .i64 (on), .int .i64 (od)] 24)).heap.size := by simp <;> omega
      have k19 : (w3.alloc (.cells #[.int .i64 (on), .int .i64 (od)] 24)).cell? ⟨w1.heap.size + 1, 0, none⟩ = some (.int .i64 (bn)) := by go_simp
      have k20 : (w3.alloc (.cells #[.int .i64 (on), .int .i64 (od)] 24)).cell? ⟨w1.heap.size + 1, 1, none⟩ = some (.int .i64 (bd)) := by go_simp
      have k21 : w1.heap.size + 1 < (w3.alloc (.cells #[.int .i64 (on), .int .i64 (od)] 24)).heap.size := by simp <;> omega
      have k22 : (w3.alloc (.cells #[.int .i64 (on), .int .i64 (od)] 24)).cell? ⟨w2.heap.size, 0, none⟩ = some (.int .i64 (on)) := by go_simp
      have k23 : (w3.alloc (.cells #[.int .i64 (on), .int .i64 (od)] 24)).cell? ⟨w2.heap.size, 1, none⟩ = some (.int .i64 (od)) := by go_simp
      have k24 : w2.heap.size < (w3.alloc (.cells #[.int .i64 (on), .int .i64 (od)] 24)).heap.size := by simp <;> omega
      have k25 : (w3.alloc (.cells #[.int .i64 (on), .int .i64 (od)] 24)).cell? ⟨w3.heap.size, 0, none⟩ = some (.int .i64 (on)) := by go_simp
      have k26 : (w3.alloc (.cells #[.int .i64 (on), .int .i64 (od)] 24)).cell? ⟨w3.heap.size, 1, none⟩ = some (.int .i64 (od)) := by go_simp
      have k27 : w3.heap.size < (w3.alloc (.cells #[.int .i64 (on), .int .i64 (od)] 24)).heap.size := by simp <;> omega
      obtain ⟨w4, hW⟩ := name_world (w3.alloc (.cells #[.int .i64 (on), .int .i64 (od)] 24))
      rw [← hW] at k16 k17 k18 k19 k20 k21 k22 k23 k24 k25 k26 k27 B4 ⊢
      clear hW k7 k8 k9 k10 k11 k12 k13 k14 k15
      go_cut [9, 10] (fun s t wx => Got w4 (xn) (xd) (true) s t wx)
      case first =>
        have HK0 := hide (st_refl w4)
        have HKd := hide (st_drew HK0.out)
        go_region_held3 (fun w' => w'.cell? ⟨w1.heap.size + 1, 0, none⟩ = some (.int .i64 (bn)) ∧ w'.cell? ⟨w1.heap.size + 1, 1, none⟩ = some (.int .i64 (bd))) (first | exact ⟨keepc (Hid.out (by assumption)) k19, keepc (Hid.out (by assumption)) k20⟩ | exact ⟨keepc (st_alloc (Hid.out (by assumption)) _) k19, keepc (st_alloc (Hid.out (by assumption)) _) k20⟩ | exact ⟨keepc (st_drew (st_alloc (Hid.out (by assumption)) _)) k19, keepc (st_drew (st_alloc (Hid.out (by assumption)) _)) k20⟩ | exact ⟨keepc (st_drew (Hid.out (by assumption))) k19, keepc (st_drew (Hid.out (by assumption))) k20⟩ | exact ⟨keepc (st_set (st_set (Hid.out (by assumption)) (by dsimp only; omega) _) (by dsimp only; omega) _) k19, keepc (st_set (st_set (Hid.out (by assumption)) (by dsimp only; omega) _) (by dsimp only; omega) _) k20⟩ | go_keep) (first | (go_at_call 29; refine (frac_law _ _).mono ?_; rintro e wx ⟨rfl, hbx⟩; have HK := hide (st_trans (a := w4) (by first | exact Hid.out (by assumption) | exact st_alloc (Hid.out (by assumption)) _ | exact st_drew (st_alloc (Hid.out (by assumption)) _)) hbx); have hnx := HK.out.size; obtain ⟨hcx, hfx⟩ := bcell hbx; have hsx := hbx.size; (try simp at hsx); (try have hsy := Nat.lt_of_succ_le hsx); (try have hlx := Nat.lt_of_lt_of_le (by assumption) hsx)) | (go_at_call 31; refine (div_as_impl PX.out iX.out _).mono ?_; rintro e wx ⟨rfl, hbx⟩; have HK := hide (st_trans (a := w4) (by first | exact Hid.out (by assumption) | exact st_alloc (Hid.out (by assumption)) _ | exact st_drew (st_alloc (Hid.out (by assumption)) _)) hbx); have hnx := HK.out.size; obtain ⟨hcx, hfx⟩ := bcell hbx; have hsx := hbx.size; (try simp at hsx); (try have hsy := Nat.lt_of_succ_le hsx); (try have hlx := Nat.lt_of_lt_of_le (by assumption) hsx)))
        all_goals
          go_wp2_with fail
          go_meet
          refine ⟨_, rfl, rfl, ?_, ?_, ?_⟩
          · go_simp
          · go_simp
          · first | exact st_alloc (Hid.out (by assumption)) _ | exact st_set (st_set (Hid.out (by assumption)) (by dsimp only; omega) _) (by dsimp only; omega) _
      obtain ⟨g5, rfl, rfl, hg0, hg1, hb⟩ := hcut
      obtain ⟨w5, hW⟩ := name_world wc
      rw [← hW] at hg0 hg1 hb ⊢
      clear hW
      have B5 := hide (st_trans B4.out hb)
      have k28 : w5.cell? ⟨w1.heap.size, 0, none⟩ = some (.int .i64 (an)) := keepc hb (by assumption)
      have k29 : w5.cell? ⟨w1.heap.size, 1, none⟩ = some (.int .i64 (ad)) := keepc hb (by assumption)
      have k30 : w1.heap.size < w5.heap.size := by have hq := hb.size; omega
      have k31 : w5.cell? ⟨w1.heap.size + 1, 0, none⟩ = some (.int .i64 (bn)) := keepc hb (by assumption)
      have k32 : w5.cell? ⟨w1.heap.size + 1, 1, none⟩ = some (.int .i64 (bd)) := keepc hb (by assumption)
      have k33 : w1.heap.size + 1 < w5.heap.size := by have hq := hb.size; omega
      have k34 : w5.cell? ⟨w2.heap.size, 0, none⟩ = some (.int .i64 (on)) := keepc hb (by assumption)
      have k35 : w5.cell? ⟨w2.heap.size, 1, none⟩ = some (.int .i64 (od)) := keepc hb (by assumption)
      have k36 : w2.heap.size < w5.heap.size := by have hq := hb.size; omega
      have k37 : w5.cell? ⟨w3.heap.size, 0, none⟩ = some (.int .i64 (on)) := keepc hb (by assumption)
      have k38 : w5.cell? ⟨w3.heap.size, 1, none⟩ = some (.int .i64 (od)) := keepc hb (by assumption)
      have k39 : w3.heap.size < w5.heap.size := by have hq := hb.size; omega
      have hgz : g5 < w5.heap.size := World.block_lt_of_cell? _ _ hg0
      clear hb k16 k17 k18 k19 k20 k21 k22 k23 k24 k25 k26 k27
      have kg5 := hg0
      have kh5 := hg1
      have kz5 := hgz
      clear hg0 hg1 hgz
      go_wp2_with fail
      refine (mul_as_impl PY.out iY.out _).mono ?_
      rintro e w6 ⟨rfl, hb⟩
      have B6 := hide (st_trans B5.out hb)
      have k41 : w6.cell? ⟨w1.heap.size, 0, none⟩ = some (.int .i64 (an)) := keepc hb (by go_simp)
      have k42 : w6.cell? ⟨w1.heap.size, 1, none⟩ = some (.int .i64 (ad)) := keepc hb (by go_simp)
      have k43 : w1.heap.size < w6.heap.size := by have hq := hb.size; (try simp at hq); omega
      have k44 : w6.cell? ⟨w1.heap.size + 1, 0, none⟩ = some (.int .i64 (bn)) := keepc hb (by go_simp)
      have k45 : w6.cell? ⟨w1.heap.size + 1, 1, none⟩ = some (.int .i64 (bd)) := keepc hb (by go_simp)
      have k46 : w1.heap.size + 1 < w6.heap.size := by have hq := hb.size; (try simp at hq); omega
      have k47 : w6.cell? ⟨w2.heap.size, 0, none⟩ = some (.int .i64 (on)) := keepc hb (by go_simp)
      have k48 : w6.cell? ⟨w2.heap.size, 1, none⟩ = some (.int .i64 (od)) := keepc hb (by go_simp)
      have k49 : w2.heap.size < w6.heap.size := by have hq := hb.size; (try simp at hq); omega
      have k50 : w6.cell? ⟨w3.heap.size, 0, none⟩ = some (.int .i64 (on)) := keepc hb (by go_simp)
      have k51 : w6.cell? ⟨w3.heap.size, 1, none⟩ = some (.int .i64 (od)) := keepc hb (by go_simp)
      have k52 : w3.heap.size < w6.heap.size := by have hq := hb.size; (try simp at hq); omega
      have k53 : w6.cell? ⟨g5, 0, none⟩ = some (.int .i64 (xn)) := keepc hb (by go_simp)
      have k54 : w6.cell? ⟨g5, 1, none⟩ = some (.int .i64 (xd)) := keepc hb (by go_simp)
      have k55 : g5 < w6.heap.size := by have hq := hb.size; (try simp at hq); omega
      clear hb k28 k29 k30 k31 k32 k33 k34 k35 k36 k37 k38 k39 kg5 kh5 kz5
      go_wp2
      go_ret
      exact ⟨rfl, (st_alloc B6.out (.cells #[.int .i64 (on), .int .i64 (od)] 24))⟩

end Go.Proofs.Ytpilgcikabcndaa
