/-
  The walk of the law FnFracAddNone.
  Conditions: the bytes can be read.
-/
import Derived.Test.YtpilgcikabcndaaFh
namespace Go.Proofs.Ytpilgcikabcndaa
open Go.RowKit Fr

set_option maxHeartbeats 8000000 in
theorem walk_fnFracAddNone (a : Option Addr) (len cap : Nat) (w : World) (h : Code w a len cap) : Calls Try.prog 11 #[.slice a len cap] w fun e w' => e = .returned (.bool true) ∧ Below w.heap.size w w' := by
  have hm : len ≤ 9223372036854775807 := by have h1 := h.1; have h2 := h.2.1; unfold maxLen at h2; omega
  have H := hide h
  clear h
  by_cases hl : 1048576 < len
  · go_enter Try.func11, Try.ntmps11
    go_wp2
    go_ret
    exact ⟨rfl, Below.refl _ _⟩
  go_enter Try.func11, Try.ntmps11
  go_wp2_with fail
  refine (dDrawFracAdd a len cap _ H.out).mono ?_
  rintro e w1 ⟨an, ad, bn, bd, rfl, hS, hS', hB⟩
  have sa := hide hS
  have sb := hide hS'
  have B1 := hide hB
  clear hS hS' hB
  have sO := hide (s9_add an ad bn bd)
  obtain ⟨on, hon⟩ : ∃ x, addN an ad bn bd = x := ⟨_, rfl⟩
  obtain ⟨od, hod⟩ : ∃ x, addD an ad bn bd = x := ⟨_, rfl⟩
  rw [hon, hod] at sO
  cases ho : addOk an ad bn bd
  · have HO := hide (And.intro ho (And.intro hon hod))
    clear ho hon hod
    go_wp2_with fail
    refine (add_as_impl HO.out (i4 sa.out sb.out) _).mono ?_
    rintro e w2 ⟨rfl, hb⟩
    have B2 := hide (st_trans (st_alloc (st_alloc B1.out (.cells #[.int .i64 (an), .int .i64 (ad)] 24)) (.cells #[.int .i64 (bn), .int .i64 (bd)] 24)) hb)
    have k1 : w2.cell? ⟨w1.heap.size, 0, none⟩ = some (.int .i64 (an)) := keepc hb (by go_simp)
    have k2 : w2.cell? ⟨w1.heap.size, 1, none⟩ = some (.int .i64 (ad)) := keepc hb (by go_simp)
    have k3 : w1.heap.size < w2.heap.size := by have hq := hb.size; (try simp at hq); omega
    have k4 : w2.cell? ⟨w1.heap.size + 1, 0, none⟩ = some (.int .i64 (bn)) := keepc hb (by go_simp)
    have k5 : w2.cell? ⟨w1.heap.size + 1, 1, none⟩ = some (.int .i64 (bd)) := keepc hb (by go_simp)
    have k6 : w1.heap.size + 1 < w2.heap.size := by have hq := hb.size; (try simp at hq); omega
    clear hb
    go_wp2_with fail
    refine (add_as_spec HO.out (i4 sa.out sb.out) _).mono ?_
    rintro e w3 ⟨rfl, hb⟩
    have B3 := hide (st_trans (st_alloc B2.out (.cells #[.int .i64 (on), .int .i64 (od)] 24)) hb)
    have k7 : w3.cell? ⟨w1.heap.size, 0, none⟩ = some (.int .i64 (an)) := keepc hb (by go_simp)
    have k8 : w3.cell? ⟨w1.heap.size, 1, none⟩ = some (.int .i64 (ad)) := keepc hb (by go_simp)
    have k9 : w1.heap.size < w3.heap.size := by have hq := hb.size; (try simp at hq); omega
    have k10 : w3.cell? ⟨w1.heap.size + 1, 0, none⟩ = some (.int .i64 (bn)) := keepc hb (by go_simp)
    have k11 : w3.cell? ⟨w1.heap.size + 1, 1, none⟩ = some (.int .i64 (bd)) := keepc hb (by go_simp)
    have k12 : w1.heap.size + 1 < w3.heap.size := by have hq := hb.size; (try simp at hq); omega
    have k13 : w3.cell? ⟨w2.heap.size, 0, none⟩ = some (.int .i64 (on)) := keepc hb (by go_simp)
    have k14 : w3.cell? ⟨w2.heap.size, 1, none⟩ = some (.int .i64 (od)) := keepc hb (by go_simp)
    have k15 : w2.heap.size < w3.heap.size := by have hq := hb.size; (try simp at hq); omega
    clear hb k1 k2 k3 k4 k5 k6
    go_wp2
    go_ret
    exact ⟨rfl, (st_alloc B3.out (.cells #[.int .i64 (on), .int .i64 (od)] 24))⟩
  · have HO := hide (And.intro ho (And.intro hon hod))
    clear ho hon hod
    go_wp2_with fail
    refine (add_as_impl HO.out (i4 sa.out sb.out) _).mono ?_
    rintro e w2 ⟨rfl, hb⟩
    have B2 := hide (st_trans (st_alloc (st_alloc B1.out (.cells #[.int .i64 (an), .int .i64 (ad)] 24)) (.cells #[.int .i64 (bn), .int .i64 (bd)] 24)) hb)
    have k1 : w2.cell? ⟨w1.heap.size, 0, none⟩ = some (.int .i64 (an)) := keepc hb (by go_simp)
    have k2 : w2.cell? ⟨w1.heap.size, 1, none⟩ = some (.int .i64 (ad)) := keepc hb (by go_simp)
    have k3 : w1.heap.size < w2.heap.size := by have hq := hb.size; (try simp at hq); omega
    have k4 : w2.cell? ⟨w1.heap.size + 1, 0, none⟩ = some (.int .i64 (bn)) := keepc hb (by go_simp)
    have k5 : w2.cell? ⟨w1.heap.size + 1, 1, none⟩ = some (.int .i64 (bd)) := keepc hb (by go_simp)
    have k6 : w1.heap.size + 1 < w2.heap.size := by have hq := hb.size; (try simp at hq); omega
    clear hb
    go_wp2_with fail
    refine (add_as_spec HO.out (i4 sa.out sb.out) _).mono ?_
    rintro e w3 ⟨rfl, hb⟩
    have B3 := hide (st_trans (st_alloc B2.out (.cells #[.int .i64 (on), .int .i64 (od)] 24)) hb)
    have k7 : w3.cell? ⟨w1.heap.size, 0, none⟩ = some (.int .i64 (an)) := keepc hb (by go_simp)
    have k8 : w3.cell? ⟨w1.heap.size, 1, none⟩ = some (.int .i64 (ad)) := keepc hb (by go_simp)
    have k9 : w1.heap.size < w3.heap.size := by have hq := hb.size; (try simp at hq); omega
    have k10 : w3.cell? ⟨w1.heap.size + 1, 0, none⟩ = some (.int .i64 (bn)) := keepc hb (by go_simp)
    have k11 : w3.cell? ⟨w1.heap.size + 1, 1, none⟩ = some (.int .i64 (bd)) := keepc hb (by go_simp)
    have k12 : w1.heap.size + 1 < w3.heap.size := by have hq := hb.size; (try simp at hq); omega
    have k13 : w3.cell? ⟨w2.heap.size, 0, none⟩ = some (.int .i64 (on)) := keepc hb (by go_simp)
    have k14 : w3.cell? ⟨w2.heap.size, 1, none⟩ = some (.int .i64 (od)) := keepc hb (by go_simp)
    have k15 : w2.heap.size < w3.heap.size := by have hq := hb.size; (try simp at hq); omega
    clear hb k1 k2 k3 k4 k5 k6
    obtain ⟨q0, q1, q2⟩ := HO.out
    obtain ⟨l1, l2⟩ := add_none q0
    rw [q1, q2] at l1 l2
    have PX := hide l1
    have HL := hide l2
    clear q0 q1 q2 l1 l2
    have iX := hide (i4 sO.out (s9_c 0 1 (by omega)))
    have iL := hide (i4 sO.out sa.out)
    by_cases z : bn < 0
    · have e : Hid (lessB on od an ad = true) := by
        show _ = _
        rw [HL.out]; simpa using z
      have e2 : decide (bn < 0) = true := by simpa using z
      go_upto_region 8 with fail
      have B4 := hide (st_alloc B3.out (.cells #[.int .i64 (on), .int .i64 (od)] 24))
      have k16 : (w3.alloc (.cells #[.int .i64 (on), .int .i64 (od)] 24)).cell? ⟨w1.heap.size, 0, none⟩ = some (.int .i64 (an)) := by go_simp
      have k17 : (w3.alloc (.cells #[.int .i64 (on), .int .i64 (od)] 24)).cell? ⟨w1.heap.size, 1, none⟩ = some (.int .i64 (ad)) := by go_simp
      have k18 : w1.heap.size < (w3.alloc (.cells #[.int .i64 (on), .int .i64 (od)] 24)).heap.size := by simp <;> omega
      have k19 : (w3.alloc (.cells #[.int .i64 (on), .int .i64 (od)] 24)).cell? ⟨w1.heap.size + 1, 0, none⟩ = some (.int .i64 (bn)) := by go_simp
      have k20 : (w3.alloc (.cells #[.int .i64 (on), .int .i64 (od)] 24)).cell? ⟨w1.heap.size + 1, 1, none⟩ = some (.int .i64 (bd)) := by go_simp
      have k21 : w1.heap.size + 1 < (w3.alloc (.cells #[.int .i64 (on), .int .i64 (od)] 24)).heap.size := by simp <;> omega
      have k22 : (w3.alloc (.cells #[.int .i64 (on), .int .i64 (od)] 24)).cell? ⟨w2.heap.size, 0, none⟩ = some (.int .i64 (on)) := by go_simp
      have k23 : (w3.alloc (.cells #[.int .i64 (on), .int .i64 (od)] 24)).cell? ⟨w2.heap.size, 1, none⟩ = some (.int .i64 (od)) := by go_simp
      have k24 : w2.heap.size < (w3.alloc (.cells #[.int .i64 (on), .int .i64 (od)] 24)).heap.size := by simp <;> omega
      have k25 : (w3.alloc (.cells #[.int .i64 (on), .int .i64 (od)] 24)).cell? ⟨w3.heap.size, 0, none⟩ = some (.int .i64 (on)) := by go_simp
      have k26 : (w3.alloc (.cells #[.int .i64 (on), .int .i64 (od)] 24)).cell? ⟨w3.heap.size, 1, none⟩ = some (.int .i64 (od)) := by go_simp
      have k27 : w3.heap.size < (w3.alloc (.cells #[.int .i64 (on), .int .i64 (od)] 24)).heap.size := by simp <;> omega
      obtain ⟨w4, hW⟩ := name_world (w3.alloc (.cells #[.int .i64 (on), .int .i64 (od)] 24))
      rw [← hW] at k16 k17 k18 k19 k20 k21 k22 k23 k24 k25 k26 k27 B4 ⊢
      clear hW k7 k8 k9 k10 k11 k12 k13 k14 k15
      go_cut [9, 10] (fun s t wx => Got w4 (on) (od) (true) s t wx)
      case first =>
        have HK0 := hide (st_refl w4)
        have HKd := hide (st_drew HK0.out)
        go_region_held3 (fun w' => w'.cell? ⟨w2.heap.size, 0, none⟩ = some (.int .i64 (on)) ∧ w'.cell? ⟨w2.heap.size, 1, none⟩ = some (.int .i64 (od))) (first | exact ⟨keepc (Hid.out (by assumption)) k22, keepc (Hid.out (by assumption)) k23⟩ | exact ⟨keepc (st_alloc (Hid.out (by assumption)) _) k22, keepc (st_alloc (Hid.out (by assumption)) _) k23⟩ | exact ⟨keepc (st_drew (st_alloc (Hid.out (by assumption)) _)) k22, keepc (st_drew (st_alloc (Hid.out (by assumption)) _)) k23⟩ | exact ⟨keepc (st_drew (Hid.out (by assumption))) k22, keepc (st_drew (Hid.out (by assumption))) k23⟩ | exact ⟨keepc (st_set (st_set (Hid.out (by assumption)) (by dsimp only; omega) _) (by dsimp only; omega) _) k22, keepc (st_set (st_set (Hid.out (by assumption)) (by dsimp only; omega) _) (by dsimp only; omega) _) k23⟩ | go_keep) (first | (go_at_call 29; refine (frac_law _ _).mono ?_; rintro e wx ⟨rfl, hbx⟩; have HK := hide (st_trans (a := w4) (by first | exact Hid.out (by assumption) | exact st_alloc (Hid.out (by assumption)) _ | exact st_drew (st_alloc (Hid.out (by assumption)) _)) hbx); have hnx := HK.out.size; obtain ⟨hcx, hfx⟩ := bcell hbx; have hsx := hbx.size; (try simp at hsx); (try have hsy := Nat.lt_of_succ_le hsx); (try have hlx := Nat.lt_of_lt_of_le (by assumption) hsx)) | (go_at_call 20; refine (add_as_impl PX.out iX.out _).mono ?_; rintro e wx ⟨rfl, hbx⟩; have HK := hide (st_trans (a := w4) (by first | exact Hid.out (by assumption) | exact st_alloc (Hid.out (by assumption)) _ | exact st_drew (st_alloc (Hid.out (by assumption)) _)) hbx); have hnx := HK.out.size; obtain ⟨hcx, hfx⟩ := bcell hbx; have hsx := hbx.size; (try simp at hsx); (try have hsy := Nat.lt_of_succ_le hsx); (try have hlx := Nat.lt_of_lt_of_le (by assumption) hsx)))
        all_goals
          go_wp2_with fail
          go_meet
          refine ⟨_, rfl, rfl, ?_, ?_, ?_⟩
          · go_simp
          · go_simp
          · first | exact st_alloc (Hid.out (by assumption)) _ | exact st_set (st_set (Hid.out (by assumption)) (by dsimp only; omega) _) (by dsimp only; omega) _
      obtain ⟨g5, rfl, rfl, hg0, hg1, hb⟩ := hcut
      obtain ⟨w5, hW⟩ := name_world wc
      rw [← hW] at hg0 hg1 hb ⊢
      clear hW
      have B5 := hide (st_trans B4.out hb)
      have k28 : w5.cell? ⟨w1.heap.size, 0, none⟩ = some (.int .i64 (an)) := keepc hb (by assumption)
      have k29 : w5.cell? ⟨w1.heap.size, 1, none⟩ = some (.int .i64 (ad)) := keepc hb (by assumption)
      have k30 : w1.heap.size < w5.heap.size := by have hq := hb.size; omega
      have k31 : w5.cell? ⟨w1.heap.size + 1, 0, none⟩ = some (.int .i64 (bn)) := keepc hb (by assumption)
      have k32 : w5.cell? ⟨w1.heap.size + 1, 1, none⟩ = some (.int .i64 (bd)) := keepc hb (by assumption)
      have k33 : w1.heap.size + 1 < w5.heap.size := by have hq := hb.size; omega
      have k34 : w5.cell? ⟨w2.heap.size, 0, none⟩ = some (.int .i64 (on)) := keepc hb (by assumption)
      have k35 : w5.cell? ⟨w2.heap.size, 1, none⟩ = some (.int .i64 (od)) := keepc hb (by assumption)
      have k36 : w2.heap.size < w5.heap.size := by have hq := hb.size; omega
      have k37 : w5.cell? ⟨w3.heap.size, 0, none⟩ = some (.int .i64 (on)) := keepc hb (by assumption)
      have k38 : w5.cell? ⟨w3.heap.size, 1, none⟩ = some (.int .i64 (od)) := keepc hb (by assumption)
      have k39 : w3.heap.size < w5.heap.size := by have hq := hb.size; omega
      have hgz : g5 < w5.heap.size := World.block_lt_of_cell? _ _ hg0
      clear hb k16 k17 k18 k19 k20 k21 k22 k23 k24 k25 k26 k27
      have kg5 := hg0
      have kh5 := hg1
      have kz5 := hgz
      clear hg0 hg1 hgz
      go_upto_region 9 with fail
      have HK0 := hide (st_refl w5)
      have HKd := hide (st_drew HK0.out)
      go_region_held3 (fun w' => w'.cell? ⟨w1.heap.size, 0, none⟩ = some (.int .i64 (an)) ∧ w'.cell? ⟨w1.heap.size, 1, none⟩ = some (.int .i64 (ad)) ∧ w'.cell? ⟨w1.heap.size + 1, 0, none⟩ = some (.int .i64 (bn)) ∧ w'.cell? ⟨w1.heap.size + 1, 1, none⟩ = some (.int .i64 (bd)) ∧ w'.cell? ⟨w2.heap.size, 0, none⟩ = some (.int .i64 (on)) ∧ w'.cell? ⟨w2.heap.size, 1, none⟩ = some (.int .i64 (od)) ∧ w'.cell? ⟨g5, 0, none⟩ = some (.int .i64 (on)) ∧ w'.cell? ⟨g5, 1, none⟩ = some (.int .i64 (od))) (first | exact ⟨keepc (Hid.out (by assumption)) k28, keepc (Hid.out (by assumption)) k29, keepc (Hid.out (by assumption)) k31, keepc (Hid.out (by assumption)) k32, keepc (Hid.out (by assumption)) k34, keepc (Hid.out (by assumption)) k35, keepc (Hid.out (by assumption)) kg5, keepc (Hid.out (by assumption)) kh5⟩ | exact ⟨keepc (st_alloc (Hid.out (by assumption)) _) k28, keepc (st_alloc (Hid.out (by assumption)) _) k29, keepc (st_alloc (Hid.out (by assumption)) _) k31, keepc (st_alloc (Hid.out (by assumption)) _) k32, keepc (st_alloc (Hid.out (by assumption)) _) k34, keepc (st_alloc (Hid.out (by assumption)) _) k35, keepc (st_alloc (Hid.out (by assumption)) _) kg5, keepc (st_alloc (Hid.out (by assumption)) _) kh5⟩ | exact ⟨keepc (st_drew (st_alloc (Hid.out (by assumption)) _)) k28, keepc (st_drew (st_alloc (Hid.out (by assumption)) _)) k29, keepc (st_drew (st_alloc (Hid.out (by assumption)) _)) k31, keepc (st_drew (st_alloc (Hid.out (by assumption)) _)) k32, keepc (st_drew (st_alloc (Hid.out (by assumption)) _)) k34, keepc (st_drew (st_alloc (Hid.out (by assumption)) _)) k35, keepc (st_drew (st_alloc (Hid.out (by assumption)) _)) kg5, keepc (st_drew (st_alloc (Hid.out (by assumption)) _)) kh5⟩ | exact ⟨keepc (st_drew (Hid.out (by assumption))) k28, keepc (st_drew (Hid.out (by assumption))) k29, keepc (st_drew (Hid.out (by assumption))) k31, keepc (st_drew (Hid.out (by assumption))) k32, keepc (st_drew (Hid.out (by assumption))) k34, keepc (st_drew (Hid.out (by assumption))) k35, keepc (st_drew (Hid.out (by assumption))) kg5, keepc (st_drew (Hid.out (by assumption))) kh5⟩ | go_keep) (first | (go_at_call 28; refine (less_as e.out iL.out _).mono ?_; rintro e wx ⟨rfl, hbx⟩; have HK := hide (st_trans (a := w5) (by first | exact Hid.out (by assumption) | exact st_alloc (Hid.out (by assumption)) _ | exact st_drew (st_alloc (Hid.out (by assumption)) _)) hbx); have hnx := HK.out.size; obtain ⟨hcx, hfx⟩ := bcell hbx; have hsx := hbx.size; (try simp at hsx); (try have hsy := Nat.lt_of_succ_le hsx); (try have hlx := Nat.lt_of_lt_of_le (by assumption) hsx)))
      all_goals
        go_wp2
        go_ret
        first | exact ⟨rfl, st_trans B5.out (Hid.out (by assumption))⟩ | exact ⟨rfl, B5.out⟩ | exact ⟨rfl, st_drew B5.out⟩
    · have e : Hid (lessB on od an ad = false) := by
        show _ = _
        rw [HL.out]; simpa using z
      have e2 : decide (bn < 0) = false := by simpa using z
      go_upto_region 8 with fail
      have B4 := hide (st_alloc B3.out (.cells #[.int .i64 (on), .int .i64 (od)] 24))
      have k16 : (w3.alloc (.cells #[.int .i64 (on), .int .i64 (od)] 24)).cell? ⟨w1.heap.size, 0, none⟩ = some (.int .i64 (an)) := by go_simp
      have k17 : (w3.alloc (.cells #[.int .i64 (on), .int .i64 (od)] 24)).cell? ⟨w1.heap.size, 1, none⟩ = some (.int .i64 (ad)) := by go_simp
      have k18 : w1.heap.size < (w3.alloc (.cells #[.int .i64 (on), .int .i64 (od)] 24)).heap.size := by simp <;> omega
      have k19 : (w3.alloc (.cells #[.int .i64 (on), .int .i64 (od)] 24)).cell? ⟨w1.heap.size + 1, 0, none⟩ = some (.int .i64 (bn)) := by go_simp
      have k20 : (w3.alloc (.cells #[.int .i64 (on), .int .i64 (od)] 24)).cell? ⟨w1.heap.size + 1, 1, none⟩ = some (.int .i64 (bd)) := by go_simp
      have k21 : w1.heap.size + 1 < (w3.alloc (.cells #[.int .i64 (on), .int .i64 (od)] 24)).heap.size := by simp <;> omega
      have k22 : (w3.alloc (.cells #[.int .i64 (on), .int .i64 (od)] 24)).cell? ⟨w2.heap.size, 0, none⟩ = some (.int .i64 (on)) := by go_simp
      have k23 : (w3.alloc (.cells #[.int .i64 (on), .int .i64 (od)] 24)).cell? ⟨w2.heap.size, 1, none⟩ = some (.int .i64 (od)) := by go_simp
      have k24 : w2.heap.size < (w3.alloc (.cells #[.int .i64 (on), .int .i64 (od)] 24)).heap.size := by simp <;> omega
      have k25 : (w3.alloc (.cells #[.int .i64 (on), .int .i64 (od)] 24)).cell? ⟨w3.heap.size, 0, none⟩ = some (.int .i64 (on)) := by go_simp
      have k26 : (w3.alloc (.cells #[.int .i64 (on), .int .i64 (od)] 24)).cell? ⟨w3.heap.size, 1, none⟩ = some (.int .i64 (od)) := by go_simp
      have k27 : w3.heap.size < (w3.alloc (.cells #[.int .i64 (on), .int .i64 (od)] 24)).heap.size := by simp <;> omega
      obtain ⟨w4, hW⟩ := name_world (w3.alloc (.cells #[.int .i64 (on), .int .i64 (od)] 24))
      rw [← hW] at k16 k17 k18 k19 k20 k21 k22 k23 k24 k25 k26 k27 B4 ⊢
      clear hW k7 k8 k9 k10 k11 k12 k13 k14 k15
      go_cut [9, 10] (fun s t wx => Got w4 (on) (od) (true) s t wx)
      case first =>
        have HK0 := hide (st_refl w4)
        have HKd := hide (st_drew HK0.out)
        go_region_held3 (fun w' => w'.cell? ⟨w2.heap.size, 0, none⟩ = some (.int .i64 (on)) ∧ w'.cell? ⟨w2.heap.size, 1, none⟩ = some (.int .i64 (od))) (first | exact ⟨keepc (Hid.out (by assumption)) k22, keepc (Hid.out (by assumption)) k23⟩ | exact ⟨keepc (st_alloc (Hid.out (by assumption)) _) k22, keepc (st_alloc (Hid.out (by assumption)) _) k23⟩ | exact ⟨keepc (st_drew (st_alloc (Hid.out (by assumption)) _)) k22, keepc (st_drew (st_alloc (Hid.out (by assumption)) _)) k23⟩ | exact ⟨keepc (st_drew (Hid.out (by assumption))) k22, keepc (st_drew (Hid.out (by assumption))) k23⟩ | exact ⟨keepc (st_set (st_set (Hid.out (by assumption)) (by dsimp only; omega) _) (by dsimp only; omega) _) k22, keepc (st_set (st_set (Hid.out (by assumption)) (by dsimp only; omega) _) (by dsimp only; omega) _) k23⟩ | go_keep) (first | (go_at_call 29; refine (frac_law _ _).mono ?_; rintro e wx ⟨rfl, hbx⟩; have HK := hide (st_trans (a := w4) (by first | exact Hid.out (by assumption) | exact st_alloc (Hid.out (by assumption)) _ | exact st_drew (st_alloc (Hid.out (by assumption)) _)) hbx); have hnx := HK.out.size; obtain ⟨hcx, hfx⟩ := bcell hbx; have hsx := hbx.size; (try simp at hsx); (try have hsy := Nat.lt_of_succ_le hsx); (try have hlx := Nat.lt_of_lt_of_le (by assumption) hsx)) | (go_at_call 20; refine (add_as_impl PX.out iX.out _).mono ?_; rintro e wx ⟨rfl, hbx⟩; have HK := hide (st_trans (a := w4) (by first | exact Hid.out (by assumption) | exact st_alloc (Hid.out (by assumption)) _ | exact st_drew (st_alloc (Hid.out (by assumption)) _)) hbx); have hnx := HK.out.size; obtain ⟨hcx, hfx⟩ := bcell hbx; have hsx := hbx.size; (try simp at hsx); (try have hsy := Nat.lt_of_succ_le hsx); (try have hlx := Nat.lt_of_lt_of_le (by assumption) hsx)))
        all_goals
          go_wp2_with fail
          go_meet
          refine ⟨_, rfl, rfl, ?_, ?_, ?_⟩
          · go_simp
          · go_simp
          · first | exact st_alloc (Hid.out (by assumption)) _ | exact st_set (st_set (Hid.out (by assumption)) (by dsimp only; omega) _) (by dsimp only; omega) _
      obtain ⟨g5, rfl, rfl, hg0, hg1, hb⟩ := hcut
      obtain ⟨w5, hW⟩ := name_world wc
      rw [← hW] at hg0 hg1 hb ⊢
      clear hW
      have B5 := hide (st_trans B4.out hb)
      have k28 : w5.cell? ⟨w1.heap.size, 0, none⟩ = some (.int .i64 (an)) := keepc hb (by assumption)
      have k29 : w5.cell? ⟨w1.heap.size, 1, none⟩ = some (.int .i64 (ad)) := keepc hb (by assumption)
      have k30 : w1.heap.size < w5.heap.size := by have hq := hb.size; omega
      have k31 : w5.cell? ⟨w1.heap.size + 1, 0, none⟩ = some (.int .i64 (bn)) := keepc hb (by assumption)
      have k32 : w5.cell? ⟨w1.heap.size + 1, 1, none⟩ = some (.int .i64 (bd)) := keepc hb (by assumption)
      have k33 : w1.heap.size + 1 < w5.heap.size := by have hq := hb.size; omega
      have k34 : w5.cell? ⟨w2.heap.size, 0, none⟩ = some (.int .i64 (on)) := keepc hb (by assumption)
      have k35 : w5.cell? ⟨w2.heap.size, 1, none⟩ = some (.int .i64 (od)) := keepc hb (by assumption)
      have k36 : w2.heap.size < w5.heap.size := by have hq := hb.size; omega
      have k37 : w5.cell? ⟨w3.heap.size, 0, none⟩ = some (.int .i64 (on)) := keepc hb (by assumption)
      have k38 : w5.cell? ⟨w3.heap.size, 1, none⟩ = some (.int .i64 (od)) := keepc hb (by assumption)
      have k39 : w3.heap.size < w5.heap.size := by have hq := hb.size; omega
      have hgz : g5 < w5.heap.size := World.block_lt_of_cell? _ _ hg0
      clear hb k16 k17 k18 k19 k20 k21 k22 k23 k24 k25 k26 k27
      have kg5 := hg0
      have kh5 := hg1
      have kz5 := hgz
      clear hg0 hg1 hgz
      go_upto_region 9 with fail
      have HK0 := hide (st_refl w5)
      have HKd := hide (st_drew HK0.out)
      go_region_held3 (fun w' => w'.cell? ⟨w1.heap.size, 0, none⟩ = some (.int .i64 (an)) ∧ w'.cell? ⟨w1.heap.size, 1, none⟩ = some (.int .i64 (ad)) ∧ w'.cell? ⟨w1.heap.size + 1, 0, none⟩ = some (.int .i64 (bn)) ∧ w'.cell? ⟨w1.heap.size + 1, 1, none⟩ = some (.int .i64 (bd)) ∧ w'.cell? ⟨w2.heap.size, 0, none⟩ = some (.int .i64 (on)) ∧ w'.cell? ⟨w2.heap.size, 1, none⟩ = some (.int .i64 (od)) ∧ w'.cell? ⟨g5, 0, none⟩ = some (.int .i64 (on)) ∧ w'.cell? ⟨g5, 1, none⟩ = some (.int .i64 (od))) (first | exact ⟨keepc (Hid.out (by assumption)) k28, keepc (Hid.out (by assumption)) k29, keepc (Hid.out (by assumption)) k31, keepc (Hid.out (by assumption)) k32, keepc (Hid.out (by assumption)) k34, keepc (Hid.out (by assumption)) k35, keepc (Hid.out (by assumption)) kg5, keepc (Hid.out (by assumption)) kh5⟩ | exact ⟨keepc (st_alloc (Hid.out (by assumption)) _) k28, keepc (st_alloc (Hid.out (by assumption)) _) k29, keepc (st_alloc (Hid.out (by assumption)) _) k31, keepc (st_alloc (Hid.out (by assumption)) _) k32, keepc (st_alloc (Hid.out (by assumption)) _) k34, keepc (st_alloc (Hid.out (by assumption)) _) k35, keepc (st_alloc (Hid.out (by assumption)) _) kg5, keepc (st_alloc (Hid.out (by assumption)) _) kh5⟩ | exact ⟨keepc (st_drew (st_alloc (Hid.out (by assumption)) _)) k28, keepc (st_drew (st_alloc (Hid.out (by assumption)) _)) k29, keepc (st_drew (st_alloc (Hid.out (by assumption)) _)) k31, keepc (st_drew (st_alloc (Hid.out (by assumption)) _)) k32, keepc (st_drew (st_alloc (Hid.out (by assumption)) _)) k34, keepc (st_drew (st_alloc (Hid.out (by assumption)) _)) k35, keepc (st_drew (st_alloc (Hid.out (by assumption)) _)) kg5, keepc (st_drew (st_alloc (Hid.out (by assumption)) _)) kh5⟩ | exact ⟨keepc (st_drew (Hid.out (by assumption))) k28, keepc (st_drew (Hid.out (by assumption))) k29, keepc (st_drew (Hid.out (by assumption))) k31, keepc (st_drew (Hid.out (by assumption))) k32, keepc (st_drew (Hid.out (by assumption))) k34, keepc (st_drew (Hid.out (by assumption))) k35, keepc (st_drew (Hid.out (by assumption))) kg5, keepc (st_drew (Hid.out (by assumption))) kh5⟩ | go_keep) (first | (go_at_call 28; refine (less_as e.out iL.out _).mono ?_; rintro e wx ⟨rfl, hbx⟩; have HK := hide (st_trans (a := w5) (by first | exact Hid.out (by assumption) | exact st_alloc (Hid.out (by assumption)) _ | exact st_drew (st_alloc (Hid.out (by assumption)) _)) hbx); have hnx := HK.out.size; obtain ⟨hcx, hfx⟩ := bcell hbx; have hsx := hbx.size; (try simp at hsx); (try have hsy := Nat.lt_of_succ_le hsx); (try have hlx := Nat.lt_of_lt_of_le (by assumption) hsx)))
      all_goals
        go_wp2
        go_ret
        first | exact ⟨rfl, st_trans B5.out (Hid.out (by assumption))⟩ | exact ⟨rfl, B5.out⟩ | exact ⟨rfl, st_drew B5.out⟩

end Go.Proofs.Ytpilgcikabcndaa
