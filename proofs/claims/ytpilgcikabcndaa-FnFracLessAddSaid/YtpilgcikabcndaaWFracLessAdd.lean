/-
  The walk of the law FnFracLessAdd.
  Conditions: the bytes can be read.
-/
import Derived.Test.YtpilgcikabcndaaFh
namespace Go.Proofs.Ytpilgcikabcndaa
open Go.RowKit Fr

set_option maxRecDepth 100000 in
set_option maxHeartbeats 8000000 in
theorem walk_fnFracLessAdd (a : Option Addr) (len cap : Nat) (w : World) (h : Code w a len cap) : Calls Try.prog 14 #[.slice a len cap] w fun e w' => e = .returned (.bool true) ∧ Below w.heap.size w w' := by
  have hm : len ≤ 9223372036854775807 := by have h1 := h.1; have h2 := h.2.1; unfold maxLen at h2; omega
  have H := hide h
  clear h
  by_cases hl : 1048576 < len
  · go_enter Try.func14, Try.ntmps14
    go_wp2
    go_ret
    exact ⟨rfl, Below.refl _ _⟩
  go_enter Try.func14, Try.ntmps14
  go_wp2_with fail
  refine (dDrawFracLess a len cap _ H.out).mono ?_
  rintro e w1 ⟨an, ad, bn, bd, rfl, hS, hS', hB⟩
  have sa := hide hS
  have sb := hide hS'
  have B1 := hide hB
  clear hS hS' hB
  have iL := hide (i4 sa.out sb.out)
  cases ho : lessB an ad bn bd
  · have HO := hide ho
    clear ho
    go_wp2_with fail
    refine (less_as HO.out iL.out _).mono ?_
    rintro e w2 ⟨rfl, hb⟩
    have B2 := hide (st_trans (st_alloc (st_alloc B1.out (.cells #[.int .i64 (an), .int .i64 (ad)] 24)) (.cells #[.int .i64 (bn), .int .i64 (bd)] 24)) hb)
    have k1 : w2.cell? ⟨w1.heap.size, 0, none⟩ = some (.int .i64 (an)) := keepc hb (by go_simp)
    have k2 : w2.cell? ⟨w1.heap.size, 1, none⟩ = some (.int .i64 (ad)) := keepc hb (by go_simp)
    have k3 : w1.heap.size < w2.heap.size := by have hq := hb.size; (try simp at hq); omega
    have k4 : w2.cell? ⟨w1.heap.size + 1, 0, none⟩ = some (.int .i64 (bn)) := keepc hb (by go_simp)
    have k5 : w2.cell? ⟨w1.heap.size + 1, 1, none⟩ = some (.int .i64 (bd)) := keepc hb (by go_simp)
    have k6 : w1.heap.size + 1 < w2.heap.size := by have hq := hb.size; (try simp at hq); omega
    clear hb
    go_wp2_with fail
    refine ((fun W => show Calls Try.prog 34 _ W (fun e w' => e = .returned (.bool false) ∧ Below W.heap.size W w') from by have := less_spec an ad bn bd W iL.out.1 iL.out.2.1 iL.out.2.2.1 iL.out.2.2.2; rw [HO.out] at this; exact this) _).mono ?_
    rintro e w3 ⟨rfl, hb⟩
    have B3 := hide (st_trans B2.out hb)
    have k7 : w3.cell? ⟨w1.heap.size, 0, none⟩ = some (.int .i64 (an)) := keepc hb (by go_simp)
    have k8 : w3.cell? ⟨w1.heap.size, 1, none⟩ = some (.int .i64 (ad)) := keepc hb (by go_simp)
    have k9 : w1.heap.size < w3.heap.size := by have hq := hb.size; (try simp at hq); omega
    have k10 : w3.cell? ⟨w1.heap.size + 1, 0, none⟩ = some (.int .i64 (bn)) := keepc hb (by go_simp)
    have k11 : w3.cell? ⟨w1.heap.size + 1, 1, none⟩ = some (.int .i64 (bd)) := keepc hb (by go_simp)
    have k12 : w1.heap.size + 1 < w3.heap.size := by have hq := hb.size; (try simp at hq); omega
    clear hb k1 k2 k3 k4 k5 k6
    go_wp2
    go_ret
    exact ⟨rfl, B3.out⟩
  · obtain ⟨xn, hxn⟩ : ∃ x, addN an ad 1 4 = x := ⟨_, rfl⟩
    obtain ⟨xd, hxd⟩ : ∃ x, addD an ad 1 4 = x := ⟨_, rfl⟩
    obtain ⟨yn, hyn⟩ : ∃ x, addN bn bd 1 4 = x := ⟨_, rfl⟩
    obtain ⟨yd, hyd⟩ : ∃ x, addD bn bd 1 4 = x := ⟨_, rfl⟩
    obtain ⟨zn, hzn⟩ : ∃ x, addN an ad bn bd = x := ⟨_, rfl⟩
    obtain ⟨zd, hzd⟩ : ∃ x, addD an ad bn bd = x := ⟨_, rfl⟩
    obtain ⟨vn, hvn⟩ : ∃ x, divN zn zd 2 1 = x := ⟨_, rfl⟩
    obtain ⟨vd, hvd⟩ : ∃ x, divD zn zd 2 1 = x := ⟨_, rfl⟩
    have sx : S9 xn xd := by rw [← hxn, ← hxd]; exact s9_add _ _ _ _
    have sy : S9 yn yd := by rw [← hyn, ← hyd]; exact s9_add _ _ _ _
    have sz : S9 zn zd := by rw [← hzn, ← hzd]; exact s9_add _ _ _ _
    have sv : S9 vn vd := by rw [← hvn, ← hvd]; exact s9_div _ _ _ _
    have sq := s9_c 1 4 (by omega)
    have s2 := s9_c 2 1 (by omega)
    have iX := hide (i4 sa.out sq)
    have iY := hide (i4 sb.out sq)
    have iZ := hide (i4 sa.out sb.out)
    have iV := hide (i4 sz s2)
    have iXY := hide (i4 sx sy)
    have iAV := hide (i4 sa.out sv)
    have iVB := hide (i4 sv sb.out)
    clear sx sy sz sv sq s2
    have L1 : addOk an ad 1 4 = true → addOk bn bd 1 4 = true → lessB xn xd yn yd = true := by
      intro t1 t2
      have := @less_add an ad bn bd 1 4 ho t1 t2
      rw [hxn, hxd, hyn, hyd] at this
      exact this
    have L2 : addOk an ad bn bd = true → divOk zn zd 2 1 = true → lessB an ad vn vd = true ∧ lessB vn vd bn bd = true := by
      intro t1 t2
      have := @less_mid an ad bn bd ho t1 (by rw [hzn, hzd]; exact t2)
      rw [hzn, hzd, hvn, hvd] at this
      exact this
    have HL1 := hide L1
    have HL2 := hide L2
    clear L1 L2
    have HO := hide ho
    clear ho
    have X1 := hide (And.intro hxn hxd)
    have Y1 := hide (And.intro hyn hyd)
    have Z1 := hide (And.intro hzn hzd)
    have V1 := hide (And.intro hvn hvd)
    clear hxn hxd hyn hyd hzn hzd hvn hvd
    go_wp2_with fail
    refine (less_as HO.out iL.out _).mono ?_
    rintro e w2 ⟨rfl, hb⟩
    have B2 := hide (st_trans (st_alloc (st_alloc B1.out (.cells #[.int .i64 (an), .int .i64 (ad)] 24)) (.cells #[.int .i64 (bn), .int .i64 (bd)] 24)) hb)
    have k1 : w2.cell? ⟨w1.heap.size, 0, none⟩ = some (.int .i64 (an)) := keepc hb (by go_simp)
    have k2 : w2.cell? ⟨w1.heap.size, 1, none⟩ = some (.int .i64 (ad)) := keepc hb (by go_simp)
    have k3 : w1.heap.size < w2.heap.size := by have hq := hb.size; (try simp at hq); omega
    have k4 : w2.cell? ⟨w1.heap.size + 1, 0, none⟩ = some (.int .i64 (bn)) := keepc hb (by go_simp)
    have k5 : w2.cell? ⟨w1.heap.size + 1, 1, none⟩ = some (.int .i64 (bd)) := keepc hb (by go_simp)
    have k6 : w1.heap.size + 1 < w2.heap.size := by have hq := hb.size; (try simp at hq); omega
    clear hb
    go_wp2_with fail
    refine ((fun W => show Calls Try.prog 34 _ W (fun e w' => e = .returned (.bool true) ∧ Below W.heap.size W w') from by have := less_spec an ad bn bd W iL.out.1 iL.out.2.1 iL.out.2.2.1 iL.out.2.2.2; rw [HO.out] at this; exact this) _).mono ?_
    rintro e w3 ⟨rfl, hb⟩
    have B3 := hide (st_trans B2.out hb)
    have k7 : w3.cell? ⟨w1.heap.size, 0, none⟩ = some (.int .i64 (an)) := keepc hb (by go_simp)
    have k8 : w3.cell? ⟨w1.heap.size, 1, none⟩ = some (.int .i64 (ad)) := keepc hb (by go_simp)
    have k9 : w1.heap.size < w3.heap.size := by have hq := hb.size; (try simp at hq); omega
    have k10 : w3.cell? ⟨w1.heap.size + 1, 0, none⟩ = some (.int .i64 (bn)) := keepc hb (by go_simp)
    have k11 : w3.cell? ⟨w1.heap.size + 1, 1, none⟩ = some (.int .i64 (bd)) := keepc hb (by go_simp)
    have k12 : w1.heap.size + 1 < w3.heap.size := by have hq := hb.size; (try simp at hq); omega
    clear hb k1 k2 k3 k4 k5 k6
    cases hp : addOk an ad 1 4 <;> cases hs : addOk bn bd 1 4 <;> cases ht : addOk an ad bn bd <;> cases hu : divOk zn zd 2 1
    · have PX := hide (And.intro hp X1.out)
      have PY := hide (And.intro hs Y1.out)
      have PZ := hide (And.intro ht Z1.out)
      have PV := hide (And.intro hu V1.out)
      clear hp hs ht hu
      go_wp2_with fail
      refine (add_as_impl PX.out iX.out _).mono ?_
      rintro e w4 ⟨rfl, hb⟩
      have B4 := hide (st_trans (st_alloc B3.out (.cells #[.int .i64 (1), .int .i64 (4)] 24)) hb)
      have k13 : w4.cell? ⟨w1.heap.size, 0, none⟩ = some (.int .i64 (an)) := keepc hb (by go_simp)
      have k14 : w4.cell? ⟨w1.heap.size, 1, none⟩ = some (.int .i64 (ad)) := keepc hb (by go_simp)
      have k15 : w1.heap.size < w4.heap.size := by have hq := hb.size; (try simp at hq); omega
      have k16 : w4.cell? ⟨w1.heap.size + 1, 0, none⟩ = some (.int .i64 (bn)) := keepc hb (by go_simp)
      have k17 : w4.cell? ⟨w1.heap.size + 1, 1, none⟩ = some (.int .i64 (bd)) := keepc hb (by go_simp)
      have k18 : w1.heap.size + 1 < w4.heap.size := by have hq := hb.size; (try simp at hq); omega
      have k19 : w4.cell? ⟨w3.heap.size, 0, none⟩ = some (.int .i64 (1)) := keepc hb (by go_simp)
      have k20 : w4.cell? ⟨w3.heap.size, 1, none⟩ = some (.int .i64 (4)) := keepc hb (by go_simp)
      have k21 : w3.heap.size < w4.heap.size := by have hq := hb.size; (try simp at hq); omega
      clear hb k7 k8 k9 k10 k11 k12
      go_wp2_with fail
      refine (add_as_impl PY.out iY.out _).mono ?_
      rintro e w5 ⟨rfl, hb⟩
      have B5 := hide (st_trans (st_alloc B4.out (.cells #[.int .i64 (xn), .int .i64 (xd)] 24)) hb)
      have k22 : w5.cell? ⟨w1.heap.size, 0, none⟩ = some (.int .i64 (an)) := keepc hb (by go_simp)
      have k23 : w5.cell? ⟨w1.heap.size, 1, none⟩ = some (.int .i64 (ad)) := keepc hb (by go_simp)
      have k24 : w1.heap.size < w5.heap.size := by have hq := hb.size; (try simp at hq); omega
      have k25 : w5.cell? ⟨w1.heap.size + 1, 0, none⟩ = some (.int .i64 (bn)) := keepc hb (by go_simp)
      have k26 : w5.cell? ⟨w1.heap.size + 1, 1, none⟩ = some (.int .i64 (bd)) := keepc hb (by go_simp)
      have k27 : w1.heap.size + 1 < w5.heap.size := by have hq := hb.size; (try simp at hq); omega
      have k28 : w5.cell? ⟨w3.heap.size, 0, none⟩ = some (.int .i64 (1)) := keepc hb (by go_simp)
      have k29 : w5.cell? ⟨w3.heap.size, 1, none⟩ = some (.int .i64 (4)) := keepc hb (by go_simp)
      have k30 : w3.heap.size < w5.heap.size := by have hq := hb.size; (try simp at hq); omega
      have k31 : w5.cell? ⟨w4.heap.size, 0, none⟩ = some (.int .i64 (xn)) := keepc hb (by go_simp)
      have k32 : w5.cell? ⟨w4.heap.size, 1, none⟩ = some (.int .i64 (xd)) := keepc hb (by go_simp)
      have k33 : w4.heap.size < w5.heap.size := by have hq := hb.size; (try simp at hq); omega
      clear hb k13 k14 k15 k16 k17 k18 k19 k20 k21
      go_wp2_with fail
      refine (add_as_impl PZ.out iZ.out _).mono ?_
      rintro e w6 ⟨rfl, hb⟩
      have B6 := hide (st_trans (st_alloc B5.out (.cells #[.int .i64 (yn), .int .i64 (yd)] 24)) hb)
      have k34 : w6.cell? ⟨w1.heap.size, 0, none⟩ = some (.int .i64 (an)) := keepc hb (by go_simp)
      have k35 : w6.cell? ⟨w1.heap.size, 1, none⟩ = some (.int .i64 (ad)) := keepc hb (by go_simp)
      have k36 : w1.heap.size < w6.heap.size := by have hq := hb.size; (try simp at hq); omega
      have k37 : w6.cell? ⟨w1.heap.size + 1, 0, none⟩ = some (.int .i64 (bn)) := keepc hb (by go_simp)
      have k38 : w6.cell? ⟨w1.heap.size + 1, 1, none⟩ = some (.int .i64 (bd)) := keepc hb (by go_simp)
      have k39 : w1.heap.size + 1 < w6.heap.size := by have hq := hb.size; (try simp at hq); omega
      have k40 : w6.cell? ⟨w3.heap.size, 0, none⟩ = some (.int .i64 (1)) := keepc hb (by go_simp)
      have k41 : w6.cell? ⟨w3.heap.size, 1, none⟩ = some (.int .i64 (4)) := keepc hb (by go_simp)
      have k42 : w3.heap.size < w6.heap.size := by have hq := hb.size; (try simp at hq); omega
      have k43 : w6.cell? ⟨w4.heap.size, 0, none⟩ = some (.int .i64 (xn)) := keepc hb (by go_simp)
      have k44 : w6.cell? ⟨w4.heap.size, 1, none⟩ = some (.int .i64 (xd)) := keepc hb (by go_simp)
      have k45 : w4.heap.size < w6.heap.size := by have hq := hb.size; (try simp at hq); omega
      have k46 : w6.cell? ⟨w5.heap.size, 0, none⟩ = some (.int .i64 (yn)) := keepc hb (by go_simp)
      have k47 : w6.cell? ⟨w5.heap.size, 1, none⟩ = some (.int .i64 (yd)) := keepc hb (by go_simp)
      have k48 : w5.heap.size < w6.heap.size := by have hq := hb.size; (try simp at hq); omega
      clear hb k22 k23 k24 k25 k26 k27 k28 k29 k30 k31 k32 k33
      go_upto_region 12 with fail
      have B7 := hide (st_alloc B6.out (.cells #[.int .i64 (zn), .int .i64 (zd)] 24))
      have k49 : (w6.alloc (.cells #[.int .i64 (zn), .int .i64 (zd)] 24)).cell? ⟨w1.heap.size, 0, none⟩ = some (.int .i64 (an)) := by go_simp
      have k50 : (w6.alloc (.cells #[.int .i64 (zn), .int .i64 (zd)] 24)).cell? ⟨w1.heap.size, 1, none⟩ = some (.int .i64 (ad)) := by go_simp
      have k51 : w1.heap.size < (w6.alloc (.cells #[.int .i64 (zn), .int .i64 (zd)] 24)).heap.size := by simp <;> omega
      have k52 : (w6.alloc (.cells #[.int .i64 (zn), .int .i64 (zd)] 24)).cell? ⟨w1.heap.size + 1, 0, none⟩ = some (.int .i64 (bn)) := by go_simp
      have k53 : (w6.alloc (.cells #[.int .i64 (zn), .int .i64 (zd)] 24)).cell? ⟨w1.heap.size + 1, 1, none⟩ = some (.int .i64 (bd)) := by go_simp
      have k54 : w1.heap.size + 1 < (w6.alloc (.cells #[.int .i64 (zn), .int .i64 (zd)] 24)).heap.size := by simp <;> omega
      have k55 : (w6.alloc (.cells #[.int .i64 (zn), .int .i64 (zd)] 24)).cell? ⟨w3.heap.size, 0, none⟩ = some (.int .i64 (1)) := by go_simp
      have k56 : (w6.alloc (.cells #[.int .i64 (zn), .int .i64 (zd)] 24)).cell? ⟨w3.heap.size, 1, none⟩ = some (.int .i64 (4)) := by go_simp
      have k57 : w3.heap.size < (w6.alloc (.cells #[.int .i64 (zn), .int .i64 (zd)] 24)).heap.size := by simp <;> omega
      have k58 : (w6.alloc (.cells #[.int .i64 (zn), .int .i64 (zd)] 24)).cell? ⟨w4.heap.size, 0, none⟩ = some (.int .i64 (xn)) := by go_simp
      have k59 : (w6.alloc (.cells #[.int .i64 (zn), .int .i64 (zd)] 24)).cell? ⟨w4.heap.size, 1, none⟩ = some (.int .i64 (xd)) := by go_simp
      have k60 : w4.heap.size < (w6.alloc (.cells #[.int .i64 (zn), .int .i64 (zd)] 24)).heap.size := by simp <;> omega
      have k61 : (w6.alloc (.cells #[.int .i64 (zn), .int .i64 (zd)] 24)).cell? ⟨w5.heap.size, 0, none⟩ = some (.int .i64 (yn)) := by go_simp
      have k62 : (w6.alloc (.cells #[.int .i64 (zn), .int .i64 (zd)] 24)).cell? ⟨w5.heap.size, 1, none⟩ = some (.int .i64 (yd)) := by go_simp
      have k63 : w5.heap.size < (w6.alloc (.cells #[.int .i64 (zn), .int .i64 (zd)] 24)).heap.size := by simp <;> omega
      have k64 : (w6.alloc (.cells #[.int .i64 (zn), .int .i64 (zd)] 24)).cell? ⟨w6.heap.size, 0, none⟩ = some (.int .i64 (zn)) := by go_simp
      have k65 : (w6.alloc (.cells #[.int .i64 (zn), .int .i64 (zd)] 24)).cell? ⟨w6.heap.size, 1, none⟩ = some (.int .i64 (zd)) := by go_simp
      have k66 : w6.heap.size < (w6.alloc (.cells #[.int .i64 (zn), .int .i64 (zd)] 24)).heap.size := by simp <;> omega
      obtain ⟨w7, hW⟩ := name_world (w6.alloc (.cells #[.int .i64 (zn), .int .i64 (zd)] 24))
      rw [← hW] at k49 k50 k51 k52 k53 k54 k55 k56 k57 k58 k59 k60 k61 k62 k63 k64 k65 k66 B7 ⊢
      clear hW k34 k35 k36 k37 k38 k39 k40 k41 k42 k43 k44 k45 k46 k47 k48
      go_cut [14, 15] (fun s t wx => Got w7 (vn) (vd) (false) s t wx)
      case first =>
        have HK0 := hide (st_refl w7)
        have HKd := hide (st_drew HK0.out)
        go_region_held3 (fun w' => w'.cell? ⟨w6.heap.size, 0, none⟩ = some (.int .i64 (zn)) ∧ w'.cell? ⟨w6.heap.size, 1, none⟩ = some (.int .i64 (zd))) (first | exact ⟨keepc (Hid.out (by assumption)) k64, keepc (Hid.out (by assumption)) k65⟩ | exact ⟨keepc (st_alloc (Hid.out (by assumption)) _) k64, keepc (st_alloc (Hid.out (by assumption)) _) k65⟩ | exact ⟨keepc (st_drew (st_alloc (Hid.out (by assumption)) _)) k64, keepc (st_drew (st_alloc (Hid.out (by assumption)) _)) k65⟩ | exact ⟨keepc (st_drew (Hid.out (by assumption))) k64, keepc (st_drew (Hid.out (by assumption))) k65⟩ | exact ⟨keepc (st_set (st_set (Hid.out (by assumption)) (by dsimp only; omega) _) (by dsimp only; omega) _) k64, keepc (st_set (st_set (Hid.out (by assumption)) (by dsimp only; omega) _) (by dsimp only; omega) _) k65⟩ | go_keep) (first | (go_at_call 29; refine (frac_law _ _).mono ?_; rintro e wx ⟨rfl, hbx⟩; have HK := hide (st_trans (a := w7) (by first | exact Hid.out (by assumption) | exact st_alloc (Hid.out (by assumption)) _ | exact st_drew (st_alloc (Hid.out (by assumption)) _)) hbx); have hnx := HK.out.size; obtain ⟨hcx, hfx⟩ := bcell hbx; have hsx := hbx.size; (try simp at hsx); (try have hsy := Nat.lt_of_succ_le hsx); (try have hlx := Nat.lt_of_lt_of_le (by assumption) hsx)) | (go_at_call 31; refine (div_as_impl PV.out iV.out _).mono ?_; rintro e wx ⟨rfl, hbx⟩; have HK := hide (st_trans (a := w7) (by first | exact Hid.out (by assumption) | exact st_alloc (Hid.out (by assumption)) _ | exact st_drew (st_alloc (Hid.out (by assumption)) _)) hbx); have hnx := HK.out.size; obtain ⟨hcx, hfx⟩ := bcell hbx; have hsx := hbx.size; (try simp at hsx); (try have hsy := Nat.lt_of_succ_le hsx); (try have hlx := Nat.lt_of_lt_of_le (by assumption) hsx)))
        all_goals
          go_wp2_with fail
          go_meet
          refine ⟨_, rfl, rfl, ?_, ?_, ?_⟩
          · go_simp
          · go_simp
          · first | exact st_alloc (Hid.out (by assumption)) _ | exact st_set (st_set (Hid.out (by assumption)) (by dsimp only; omega) _) (by dsimp only; omega) _
      obtain ⟨g8, rfl, rfl, hg0, hg1, hb⟩ := hcut
      obtain ⟨w8, hW⟩ := name_world wc
      rw [← hW] at hg0 hg1 hb ⊢
      clear hW
      have B8 := hide (st_trans B7.out hb)
      have k67 : w8.cell? ⟨w1.heap.size, 0, none⟩ = some (.int .i64 (an)) := keepc hb (by assumption)
      have k68 : w8.cell? ⟨w1.heap.size, 1, none⟩ = some (.int .i64 (ad)) := keepc hb (by assumption)
      have k69 : w1.heap.size < w8.heap.size := by have hq := hb.size; omega
      have k70 : w8.cell? ⟨w1.heap.size + 1, 0, none⟩ = some (.int .i64 (bn)) := keepc hb (by assumption)
      have k71 : w8.cell? ⟨w1.heap.size + 1, 1, none⟩ = some (.int .i64 (bd)) := keepc hb (by assumption)
      have k72 : w1.heap.size + 1 < w8.heap.size := by have hq := hb.size; omega
      have k73 : w8.cell? ⟨w3.heap.size, 0, none⟩ = some (.int .i64 (1)) := keepc hb (by assumption)
      have k74 : w8.cell? ⟨w3.heap.size, 1, none⟩ = some (.int .i64 (4)) := keepc hb (by assumption)
      have k75 : w3.heap.size < w8.heap.size := by have hq := hb.size; omega
      have k76 : w8.cell? ⟨w4.heap.size, 0, none⟩ = some (.int .i64 (xn)) := keepc hb (by assumption)
      have k77 : w8.cell? ⟨w4.heap.size, 1, none⟩ = some (.int .i64 (xd)) := keepc hb (by assumption)
      have k78 : w4.heap.size < w8.heap.size := by have hq := hb.size; omega
      have k79 : w8.cell? ⟨w5.heap.size, 0, none⟩ = some (.int .i64 (yn)) := keepc hb (by assumption)
      have k80 : w8.cell? ⟨w5.heap.size, 1, none⟩ = some (.int .i64 (yd)) := keepc hb (by assumption)
      have k81 : w5.heap.size < w8.heap.size := by have hq := hb.size; omega
      have k82 : w8.cell? ⟨w6.heap.size, 0, none⟩ = some (.int .i64 (zn)) := keepc hb (by assumption)
      have k83 : w8.cell? ⟨w6.heap.size, 1, none⟩ = some (.int .i64 (zd)) := keepc hb (by assumption)
      have k84 : w6.heap.size < w8.heap.size := by have hq := hb.size; omega
      have hgz : g8 < w8.heap.size := World.block_lt_of_cell? _ _ hg0
      clear hb k49 k50 k51 k52 k53 k54 k55 k56 k57 k58 k59 k60 k61 k62 k63 k64 k65 k66
      have kg8 := hg0
      have kh8 := hg1
      have kz8 := hgz
      clear hg0 hg1 hgz
      go_wp2
      go_ret
      exact ⟨rfl, B8.out⟩
    · have PX := hide (And.intro hp X1.out)
      have PY := hide (And.intro hs Y1.out)
      have PZ := hide (And.intro ht Z1.out)
      have PV := hide (And.intro hu V1.out)
      clear hp hs ht hu
      go_wp2_with fail
      refine (add_as_impl PX.out iX.out _).mono ?_
      rintro e w4 ⟨rfl, hb⟩
      have B4 := hide (st_trans (st_alloc B3.out (.cells #[.int .i64 (1), .int .i64 (4)] 24)) hb)
      have k13 : w4.cell? ⟨w1.heap.size, 0, none⟩ = some (.int .i64 (an)) := keepc hb (by go_simp)
      have k14 : w4.cell? ⟨w1.heap.size, 1, none⟩ = some (.int .i64 (ad)) := keepc hb (by go_simp)
      have k15 : w1.heap.size < w4.heap.size := by have hq := hb.size; (try simp at hq); omega
      have k16 : w4.cell? ⟨w1.heap.size + 1, 0, none⟩ = some (.int .i64 (bn)) := keepc hb (by go_simp)
      have k17 : w4.cell? ⟨w1.heap.size + 1, 1, none⟩ = some (.int .i64 (bd)) := keepc hb (by go_simp)
      have k18 : w1.heap.size + 1 < w4.heap.size := by have hq := hb.size; (try simp at hq); omega
      have k19 : w4.cell? ⟨w3.heap.size, 0, none⟩ = some (.int .i64 (1)) := keepc hb (by go_simp)
      have k20 : w4.cell? ⟨w3.heap.size, 1, none⟩ = some (.int .i64 (4)) := keepc hb (by go_simp)
      have k21 : w3.heap.size < w4.heap.size := by have hq := hb.size; (try simp at hq); omega
      clear hb k7 k8 k9 k10 k11 k12
      go_wp2_with fail
      refine (add_as_impl PY.out iY.out _).mono ?_
      rintro e w5 ⟨rfl, hb⟩
      have B5 := hide (st_trans (st_alloc B4.out (.cells #[.int .i64 (xn), .int .i64 (xd)] 24)) hb)
      have k22 : w5.cell? ⟨w1.heap.size, 0, none⟩ = some (.int .i64 (an)) := keepc hb (by go_simp)
      have k23 : w5.cell? ⟨w1.heap.size, 1, none⟩ = some (.int .i64 (ad)) := keepc hb (by go_simp)
      have k24 : w1.heap.size < w5.heap.size := by have hq := hb.size; (try simp at hq); omega
      have k25 : w5.cell? ⟨w1.heap.size + 1, 0, none⟩ = some (.int .i64 (bn)) := keepc hb (by go_simp)
      have k26 : w5.cell? ⟨w1.heap.size + 1, 1, none⟩ = some (.int .i64 (bd)) := keepc hb (by go_simp)
      have k27 : w1.heap.size + 1 < w5.heap.size := by have hq := hb.size; (try simp at hq); omega
      have k28 : w5.cell? ⟨w3.heap.size, 0, none⟩ = some (.int .i64 (1)) := keepc hb (by go_simp)
      have k29 : w5.cell? ⟨w3.heap.size, 1, none⟩ = some (.int .i64 (4)) := keepc hb (by go_simp)
      have k30 : w3.heap.size < w5.heap.size := by have hq := hb.size; (try simp at hq); omega
      have k31 : w5.cell? ⟨w4.heap.size, 0, none⟩ = some (.int .i64 (xn)) := keepc hb (by go_simp)
      have k32 : w5.cell? ⟨w4.heap.size, 1, none⟩ = some (.int .i64 (xd)) := keepc hb (by go_simp)
      have k33 : w4.heap.size < w5.heap.size := by have hq := hb.size; (try simp at hq); omega
      clear hb k13 k14 k15 k16 k17 k18 k19 k20 k21
      go_wp2_with fail
      refine (add_as_impl PZ.out iZ.out _).mono ?_
      rintro e w6 ⟨rfl, hb⟩
      have B6 := hide (st_trans (st_alloc B5.out (.cells #[.int .i64 (yn), .int .i64 (yd)] 24)) hb)
      have k34 : w6.cell? ⟨w1.heap.size, 0, none⟩ = some (.int .i64 (an)) := keepc hb (by go_simp)
      have k35 : w6.cell? ⟨w1.heap.size, 1, none⟩ = some (.int .i64 (ad)) := keepc hb (by go_simp)
      have k36 : w1.heap.size < w6.heap.size := by have hq := hb.size; (try simp at hq); omega
      have k37 : w6.cell? ⟨w1.heap.size + 1, 0, none⟩ = some (.int .i64 (bn)) := keepc hb (by go_simp)
      have k38 : w6.cell? ⟨w1.heap.size + 1, 1, none⟩ = some (.int .i64 (bd)) := keepc hb (by go_simp)
      have k39 : w1.heap.size + 1 < w6.heap.size := by have hq := hb.size; (try simp at hq); omega
      have k40 : w6.cell? ⟨w3.heap.size, 0, none⟩ = some (.int .i64 (1)) := keepc hb (by go_simp)
      have k41 : w6.cell? ⟨w3.heap.size, 1, none⟩ = some (.int .i64 (4)) := keepc hb (by go_simp)
      have k42 : w3.heap.size < w6.heap.size := by have hq := hb.size; (try simp at hq); omega
      have k43 : w6.cell? ⟨w4.heap.size, 0, none⟩ = some (.int .i64 (xn)) := keepc hb (by go_simp)
      have k44 : w6.cell? ⟨w4.heap.size, 1, none⟩ = some (.int .i64 (xd)) := keepc hb (by go_simp)
      have k45 : w4.heap.size < w6.heap.size := by have hq := hb.size; (try simp at hq); omega
      have k46 : w6.cell? ⟨w5.heap.size, 0, none⟩ = some (.int .i64 (yn)) := keepc hb (by go_simp)
      have k47 : w6.cell? ⟨w5.heap.size, 1, none⟩ = some (.int .i64 (yd)) := keepc hb (by go_simp)
      have k48 : w5.heap.size < w6.heap.size := by have hq := hb.size; (try simp at hq); omega
      clear hb k22 k23 k24 k25 k26 k27 k28 k29 k30 k31 k32 k33
      go_upto_region 12 with fail
      have B7 := hide (st_alloc B6.out (.cells #[.int .i64 (zn), .int .i64 (zd)] 24))
      have k49 : (w6.alloc (.cells #[.int .i64 (zn), .int .i64 (zd)] 24)).cell? ⟨w1.heap.size, 0, none⟩ = some (.int .i64 (an)) := by go_simp
      have k50 : (w6.alloc (.cells #[.int .i64 (zn), .int .i64 (zd)] 24)).cell? ⟨w1.heap.size, 1, none⟩ = some (.int .i64 (ad)) := by go_simp
      have k51 : w1.heap.size < (w6.alloc (.cells #[.int .i64 (zn), .int .i64 (zd)] 24)).heap.size := by simp <;> omega
      have k52 : (w6.alloc (.cells #[.int .i64 (zn), .int .i64 (zd)] 24)).cell? ⟨w1.heap.size + 1, 0, none⟩ = some (.int .i64 (bn)) := by go_simp
      have k53 : (w6.alloc (.cells #[.int .i64 (zn), .int .i64 (zd)] 24)).cell? ⟨w1.heap.size + 1, 1, none⟩ = some (.int .i64 (bd)) := by go_simp
      have k54 : w1.heap.size + 1 < (w6.alloc (.cells #[.int .i64 (zn), .int .i64 (zd)] 24)).heap.size := by simp <;> omega
      have k55 : (w6.alloc (.cells #[.int .i64 (zn), .int .i64 (zd)] 24)).cell? ⟨w3.heap.size, 0, none⟩ = some (.int .i64 (1)) := by go_simp
      have k56 : (w6.alloc (.cells #[.int .i64 (zn), .int .i64 (zd)] 24)).cell? ⟨w3.heap.size, 1, none⟩ = some (.int .i64 (4)) := by go_simp
      have k57 : w3.heap.size < (w6.alloc (.cells #[.int .i64 (zn), .int .i64 (zd)] 24)).heap.size := by simp <;> omega
      have k58 : (w6.alloc (.cells #[.int .i64 (zn), .int .i64 (zd)] 24)).cell? ⟨w4.heap.size, 0, none⟩ = some (.int .i64 (xn)) := by go_simp
      have k59 : (w6.alloc (.cells #[.int .i64 (zn), .int .i64 (zd)] 24)).cell? ⟨w4.heap.size, 1, none⟩ = some (.int .i64 (xd)) := by go_simp
      have k60 : w4.heap.size < (w6.alloc (.cells #[.int .i64 (zn), .int .i64 (zd)] 24)).heap.size := by simp <;> omega
      have k61 : (w6.alloc (.cells #[.int .i64 (zn), .int .i64 (zd)] 24)).cell? ⟨w5.heap.size, 0, none⟩ = some (.int .i64 (yn)) := by go_simp
      have k62 : (w6.alloc (.cells #[.int .i64 (zn), .int .i64 (zd)] 24)).cell? ⟨w5.heap.size, 1, none⟩ = some (.int .i64 (yd)) := by go_simp
      have k63 : w5.heap.size < (w6.alloc (.cells #[.int .i64 (zn), .int .i64 (zd)] 24)).heap.size := by simp <;> omega
      have k64 : (w6.alloc (.cells #[.int .i64 (zn), .int .i64 (zd)] 24)).cell? ⟨w6.heap.size, 0, none⟩ = some (.int .i64 (zn)) := by go_simp
      have k65 : (w6.alloc (.cells #[.int .i64 (zn), .int .i64 (zd)] 24)).cell? ⟨w6.heap.size, 1, none⟩ = some (.int .i64 (zd)) := by go_simp
      have k66 : w6.heap.size < (w6.alloc (.cells #[.int .i64 (zn), .int .i64 (zd)] 24)).heap.size := by simp <;> omega
      obtain ⟨w7, hW⟩ := name_world (w6.alloc (.cells #[.int .i64 (zn), .int .i64 (zd)] 24))
      rw [← hW] at k49 k50 k51 k52 k53 k54 k55 k56 k57 k58 k59 k60 k61 k62 k63 k64 k65 k66 B7 ⊢
      clear hW k34 k35 k36 k37 k38 k39 k40 k41 k42 k43 k44 k45 k46 k47 k48
      go_cut [14, 15] (fun s t wx => Got w7 (vn) (vd) (true) s t wx)
      case first =>
        have HK0 := hide (st_refl w7)
        have HKd := hide (st_drew HK0.out)
        go_region_held3 (fun w' => w'.cell? ⟨w6.heap.size, 0, none⟩ = some (.int .i64 (zn)) ∧ w'.cell? ⟨w6.heap.size, 1, none⟩ = some (.int .i64 (zd))) (first | exact ⟨keepc (Hid.out (by assumption)) k64, keepc (Hid.out (by assumption)) k65⟩ | exact ⟨keepc (st_alloc (Hid.out (by assumption)) _) k64, keepc (st_alloc (Hid.out (by assumption)) _) k65⟩ | exact ⟨keepc (st_drew (st_alloc (Hid.out (by assumption)) _)) k64, keepc (st_drew (st_alloc (Hid.out (by assumption)) _)) k65⟩ | exact ⟨keepc (st_drew (Hid.out (by assumption))) k64, keepc (st_drew (Hid.out (by assumption))) k65⟩ | exact ⟨keepc (st_set (st_set (Hid.out (by assumption)) (by dsimp only; omega) _) (by dsimp only; omega) _) k64, keepc (st_set (st_set (Hid.out (by assumption)) (by dsimp only; omega) _) (by dsimp only; omega) _) k65⟩ | go_keep) (first | (go_at_call 29; refine (frac_law _ _).mono ?_; rintro e wx ⟨rfl, hbx⟩; have HK := hide (st_trans (a := w7) (by first | exact Hid.out (by assumption) | exact st_alloc (Hid.out (by assumption)) _ | exact st_drew (st_alloc (Hid.out (by assumption)) _)) hbx); have hnx := HK.out.size; obtain ⟨hcx, hfx⟩ := bcell hbx; have hsx := hbx.size; (try simp at hsx); (try have hsy := Nat.lt_of_succ_le hsx); (try have hlx := Nat.lt_of_lt_of_le (by assumption) hsx)) | (go_at_call 31; refine (div_as_impl PV.out iV.out _).mono ?_; rintro e wx ⟨rfl, hbx⟩; have HK := hide (st_trans (a := w7) (by first | exact Hid.out (by assumption) | exact st_alloc (Hid.out (by assumption)) _ | exact st_drew (st_alloc (Hid.out (by assumption)) _)) hbx); have hnx := HK.out.size; obtain ⟨hcx, hfx⟩ := bcell hbx; have hsx := hbx.size; (try simp at hsx); (try have hsy := Nat.lt_of_succ_le hsx); (try have hlx := Nat.lt_of_lt_of_le (by assumption) hsx)))
        all_goals
          go_wp2_with fail
          go_meet
          refine ⟨_, rfl, rfl, ?_, ?_, ?_⟩
          · go_simp
          · go_simp
          · first | exact st_alloc (Hid.out (by assumption)) _ | exact st_set (st_set (Hid.out (by assumption)) (by dsimp only; omega) _) (by dsimp only; omega) _
      obtain ⟨g8, rfl, rfl, hg0, hg1, hb⟩ := hcut
      obtain ⟨w8, hW⟩ := name_world wc
      rw [← hW] at hg0 hg1 hb ⊢
      clear hW
      have B8 := hide (st_trans B7.out hb)
      have k67 : w8.cell? ⟨w1.heap.size, 0, none⟩ = some (.int .i64 (an)) := keepc hb (by assumption)
      have k68 : w8.cell? ⟨w1.heap.size, 1, none⟩ = some (.int .i64 (ad)) := keepc hb (by assumption)
      have k69 : w1.heap.size < w8.heap.size := by have hq := hb.size; omega
      have k70 : w8.cell? ⟨w1.heap.size + 1, 0, none⟩ = some (.int .i64 (bn)) := keepc hb (by assumption)
      have k71 : w8.cell? ⟨w1.heap.size + 1, 1, none⟩ = some (.int .i64 (bd)) := keepc hb (by assumption)
      have k72 : w1.heap.size + 1 < w8.heap.size := by have hq := hb.size; omega
      have k73 : w8.cell? ⟨w3.heap.size, 0, none⟩ = some (.int .i64 (1)) := keepc hb (by assumption)
      have k74 : w8.cell? ⟨w3.heap.size, 1, none⟩ = some (.int .i64 (4)) := keepc hb (by assumption)
      have k75 : w3.heap.size < w8.heap.size := by have hq := hb.size; omega
      have k76 : w8.cell? ⟨w4.heap.size, 0, none⟩ = some (.int .i64 (xn)) := keepc hb (by assumption)
      have k77 : w8.cell? ⟨w4.heap.size, 1, none⟩ = some (.int .i64 (xd)) := keepc hb (by assumption)
      have k78 : w4.heap.size < w8.heap.size := by have hq := hb.size; omega
      have k79 : w8.cell? ⟨w5.heap.size, 0, none⟩ = some (.int .i64 (yn)) := keepc hb (by assumption)
      have k80 : w8.cell? ⟨w5.heap.size, 1, none⟩ = some (.int .i64 (yd)) := keepc hb (by assumption)
      have k81 : w5.heap.size < w8.heap.size := by have hq := hb.size; omega
      have k82 : w8.cell? ⟨w6.heap.size, 0, none⟩ = some (.int .i64 (zn)) := keepc hb (by assumption)
      have k83 : w8.cell? ⟨w6.heap.size, 1, none⟩ = some (.int .i64 (zd)) := keepc hb (by assumption)
      have k84 : w6.heap.size < w8.heap.size := by have hq := hb.size; omega
      have hgz : g8 < w8.heap.size := World.block_lt_of_cell? _ _ hg0
      clear hb k49 k50 k51 k52 k53 k54 k55 k56 k57 k58 k59 k60 k61 k62 k63 k64 k65 k66
      have kg8 := hg0
      have kh8 := hg1
      have kz8 := hgz
      clear hg0 hg1 hgz
      go_wp2
      go_ret
      exact ⟨rfl, B8.out⟩
    · have PX := hide (And.intro hp X1.out)
      have PY := hide (And.intro hs Y1.out)
      have PZ := hide (And.intro ht Z1.out)
      have PV := hide (And.intro hu V1.out)
      clear hp hs ht hu
      go_wp2_with fail
      refine (add_as_impl PX.out iX.out _).mono ?_
      rintro e w4 ⟨rfl, hb⟩
      have B4 := hide (st_trans (st_alloc B3.out (.cells #[.int .i64 (1), .int .i64 (4)] 24)) hb)
      have k13 : w4.cell? ⟨w1.heap.size, 0, none⟩ = some (.int .i64 (an)) := keepc hb (by go_simp)
      have k14 : w4.cell? ⟨w1.heap.size, 1, none⟩ = some (.int .i64 (ad)) := keepc hb (by go_simp)
      have k15 : w1.heap.size < w4.heap.size := by have hq := hb.size; (try simp at hq); omega
      have k16 : w4.cell? ⟨w1.heap.size + 1, 0, none⟩ = some (.int .i64 (bn)) := keepc hb (by go_simp)
      have k17 : w4.cell? ⟨w1.heap.size + 1, 1, none⟩ = some (.int .i64 (bd)) := keepc hb (by go_simp)
      have k18 : w1.heap.size + 1 < w4.heap.size := by have hq := hb.size; (try simp at hq); omega
      have k19 : w4.cell? ⟨w3.heap.size, 0, none⟩ = some (.int .i64 (1)) := keepc hb (by go_simp)
      have k20 : w4.cell? ⟨w3.heap.size, 1, none⟩ = some (.int .i64 (4)) := keepc hb (by go_simp)
      have k21 : w3.heap.size < w4.heap.size := by have hq := hb.size; (try simp at hq); omega
      clear hb k7 k8 k9 k10 k11 k12
      go_wp2_with fail
      refine (add_as_impl PY.out iY.out _).mono ?_
      rintro e w5 ⟨rfl, hb⟩
      have B5 := hide (st_trans (st_alloc B4.out (.cells #[.int .i64 (xn), .int .i64 (xd)] 24)) hb)
      have k22 : w5.cell? ⟨w1.heap.size, 0, none⟩ = some (.int .i64 (an)) := keepc hb (by go_simp)
      have k23 : w5.cell? ⟨w1.heap.size, 1, none⟩ = some (.int .i64 (ad)) := keepc hb (by go_simp)
      have k24 : w1.heap.size < w5.heap.size := by have hq := hb.size; (try simp at hq); omega
      have k25 : w5.cell? ⟨w1.heap.size + 1, 0, none⟩ = some (.int .i64 (bn)) := keepc hb (by go_simp)
      have k26 : w5.cell? ⟨w1.heap.size + 1, 1, none⟩ = some (.int .i64 (bd)) := keepc hb (by go_simp)
      have k27 : w1.heap.size + 1 < w5.heap.size := by have hq := hb.size; (try simp at hq); omega
      have k28 : w5.cell? ⟨w3.heap.size, 0, none⟩ = some (.int .i64 (1)) := keepc hb (by go_simp)
      have k29 : w5.cell? ⟨w3.heap.size, 1, none⟩ = some (.int .i64 (4)) := keepc hb (by go_simp)
      have k30 : w3.heap.size < w5.heap.size := by have hq := hb.size; (try simp at hq); omega
      have k31 : w5.cell? ⟨w4.heap.size, 0, none⟩ = some (.int .i64 (xn)) := keepc hb (by go_simp)
      have k32 : w5.cell? ⟨w4.heap.size, 1, none⟩ = some (.int .i64 (xd)) := keepc hb (by go_simp)
      have k33 : w4.heap.size < w5.heap.size := by have hq := hb.size; (try simp at hq); omega
      clear hb k13 k14 k15 k16 k17 k18 k19 k20 k21
      go_wp2_with fail
      refine (add_as_impl PZ.out iZ.out _).mono ?_
      rintro e w6 ⟨rfl, hb⟩
      have B6 := hide (st_trans (st_alloc B5.out (.cells #[.int .i64 (yn), .int .i64 (yd)] 24)) hb)
      have k34 : w6.cell? ⟨w1.heap.size, 0, none⟩ = some (.int .i64 (an)) := keepc hb (by go_simp)
      have k35 : w6.cell? ⟨w1.heap.size, 1, none⟩ = some (.int .i64 (ad)) := keepc hb (by go_simp)
      have k36 : w1.heap.size < w6.heap.size := by have hq := hb.size; (try simp at hq); omega
      have k37 : w6.cell? ⟨w1.heap.size + 1, 0, none⟩ = some (.int .i64 (bn)) := keepc hb (by go_simp)
      have k38 : w6.cell? ⟨w1.heap.size + 1, 1, none⟩ = some (.int .i64 (bd)) := keepc hb (by go_simp)
      have k39 : w1.heap.size + 1 < w6.heap.size := by have hq := hb.size; (try simp at hq); omega
      have k40 : w6.cell? ⟨w3.heap.size, 0, none⟩ = some (.int .i64 (1)) := keepc hb (by go_simp)
      have k41 : w6.cell? ⟨w3.heap.size, 1, none⟩ = some (.int .i64 (4)) := keepc hb (by go_simp)
      have k42 : w3.heap.size < w6.heap.size := by have hq := hb.size; (try simp at hq); omega
      have k43 : w6.cell? ⟨w4.heap.size, 0, none⟩ = some (.int .i64 (xn)) := keepc hb (by go_simp)
      have k44 : w6.cell? ⟨w4.heap.size, 1, none⟩ = some (.int .i64 (xd)) := keepc hb (by go_simp)
      have k45 : w4.heap.size < w6.heap.size := by have hq := hb.size; (try simp at hq); omega
      have k46 : w6.cell? ⟨w5.heap.size, 0, none⟩ = some (.int .i64 (yn)) := keepc hb (by go_simp)
      have k47 : w6.cell? ⟨w5.heap.size, 1, none⟩ = some (.int .i64 (yd)) := keepc hb (by go_simp)
      have k48 : w5.heap.size < w6.heap.size := by have hq := hb.size; (try simp at hq); omega
      clear hb k22 k23 k24 k25 k26 k27 k28 k29 k30 k31 k32 k33
      go_upto_region 12 with fail
      have B7 := hide (st_alloc B6.out (.cells #[.int .i64 (zn), .int .i64 (zd)] 24))
      have k49 : (w6.alloc (.cells #[.int .i64 (zn), .int .i64 (zd)] 24)).cell? ⟨w1.heap.size, 0, none⟩ = some (.int .i64 (an)) := by go_simp
      have k50 : (w6.alloc (.cells #[.int .i64 (zn), .int .i64 (zd)] 24)).cell? ⟨w1.heap.size, 1, none⟩ = some (.int .i64 (ad)) := by go_simp
      have k51 : w1.heap.size < (w6.alloc (.cells #[.int .i64 (zn), .int .i64 (zd)] 24)).heap.size := by simp <;> omega
      have k52 : (w6.alloc (.cells #[.int .i64 (zn), .int .i64 (zd)] 24)).cell? ⟨w1.heap.size + 1, 0, none⟩ = some (.int .i64 (bn)) := by go_simp
      have k53 : (w6.alloc (.cells #[.int .i64 (zn), .int .i64 (zd)] 24)).cell? ⟨w1.heap.size + 1, 1, none⟩ = some (.int .i64 (bd)) := by go_simp
      have k54 : w1.heap.size + 1 < (w6.alloc (.cells #[.int .i64 (zn), .int .i64 (zd)] 24)).heap.size := by simp <;> omega
      have k55 : (w6.alloc (.cells #[.int .i64 (zn), .int .i64 (zd)] 24)).cell? ⟨w3.heap.size, 0, none⟩ = some (.int .i64 (1)) := by go_simp
      have k56 : (w6.alloc (.cells #[.int .i64 (zn), .int .i64 (zd)] 24)).cell? ⟨w3.heap.size, 1, none⟩ = some (.int .i64 (4)) := by go_simp
      have k57 : w3.heap.size < (w6.alloc (.cells #[.int .i64 (zn), .int .i64 (zd)] 24)).heap.size := by simp <;> omega
      have k58 : (w6.alloc (.cells #[.int .i64 (zn), .int .i64 (zd)] 24)).cell? ⟨w4.heap.size, 0, none⟩ = some (.int .i64 (xn)) := by go_simp
      have k59 : (w6.alloc (.cells #[.int .i64 (zn), .int .i64 (zd)] 24)).cell? ⟨w4.heap.size, 1, none⟩ = some (.int .i64 (xd)) := by go_simp
      have k60 : w4.heap.size < (w6.alloc (.cells #[.int .i64 (zn), .int .i64 (zd)] 24)).heap.size := by simp <;> omega
      have k61 : (w6.alloc (.cells #[.int .i64 (zn), .int .i64 (zd)] 24)).cell? ⟨w5.heap.size, 0, none⟩ = some (.int .i64 (yn)) := by go_simp
      have k62 : (w6.alloc (.cells #[.int .i64 (zn), .int .i64 (zd)] 24)).cell? ⟨w5.heap.size, 1, none⟩ = some (.int .i64 (yd)) := by go_simp
      have k63 : w5.heap.size < (w6.alloc (.cells #[.int .i64 (zn), .int .i64 (zd)] 24)).heap.size := by simp <;> omega
      have k64 : (w6.alloc (.cells #[.int .i64 (zn), .int .i64 (zd)] 24)).cell? ⟨w6.heap.size, 0, none⟩ = some (.int .i64 (zn)) := by go_simp
      have k65 : (w6.alloc (.cells #[.int .i64 (zn), .int .i64 (zd)] 24)).cell? ⟨w6.heap.size, 1, none⟩ = some (.int .i64 (zd)) := by go_simp
      have k66 : w6.heap.size < (w6.alloc (.cells #[.int .i64 (zn), .int .i64 (zd)] 24)).heap.size := by simp <;> omega
      obtain ⟨w7, hW⟩ := name_world (w6.alloc (.cells #[.int .i64 (zn), .int .i64 (zd)] 24))
      rw [← hW] at k49 k50 k51 k52 k53 k54 k55 k56 k57 k58 k59 k60 k61 k62 k63 k64 k65 k66 B7 ⊢
      clear hW k34 k35 k36 k37 k38 k39 k40 k41 k42 k43 k44 k45 k46 k47 k48
      go_cut [14, 15] (fun s t wx => Got w7 (vn) (vd) (false) s t wx)
      case first =>
        have HK0 := hide (st_refl w7)
        have HKd := hide (st_drew HK0.out)
        go_region_held3 (fun w' => w'.cell? ⟨w6.heap.size, 0, none⟩ = some (.int .i64 (zn)) ∧ w'.cell? ⟨w6.heap.size, 1, none⟩ = some (.int .i64 (zd))) (first | exact ⟨keepc (Hid.out (by assumption)) k64, keepc (Hid.out (by assumption)) k65⟩ | exact ⟨keepc (st_alloc (Hid.out (by assumption)) _) k64, keepc (st_alloc (Hid.out (by assumption)) _) k65⟩ | exact ⟨keepc (st_drew (st_alloc (Hid.out (by assumption)) _)) k64, keepc (st_drew (st_alloc (Hid.out (by assumption)) _)) k65⟩ | exact ⟨keepc (st_drew (Hid.out (by assumption))) k64, keepc (st_drew (Hid.out (by assumption))) k65⟩ | exact ⟨keepc (st_set (st_set (Hid.out (by assumption)) (by dsimp only; omega) _) (by dsimp only; omega) _) k64, keepc (st_set (st_set (Hid.out (by assumption)) (by dsimp only; omega) _) (by dsimp only; omega) _) k65⟩ | go_keep) (first | (go_at_call 29; refine (frac_law _ _).mono ?_; rintro e wx ⟨rfl, hbx⟩; have HK := hide (st_trans (a := w7) (by first | exact Hid.out (by assumption) | exact st_alloc (Hid.out (by assumption)) _ | exact st_drew (st_alloc (Hid.out (by assumption)) _)) hbx); have hnx := HK.out.size; obtain ⟨hcx, hfx⟩ := bcell hbx; have hsx := hbx.size; (try simp at hsx); (try have hsy := Nat.lt_of_succ_le hsx); (try have hlx := Nat.lt_of_lt_of_le (by assumption) hsx)) | (go_at_call 31; refine (div_as_impl PV.out iV.out _).mono ?_; rintro e wx ⟨rfl, hbx⟩; have HK := hide (st_trans (a := w7) (by first | exact Hid.out (by assumption) | exact st_alloc (Hid.out (by assumption)) _ | exact st_drew (st_alloc (Hid.out (by assumption)) _)) hbx); have hnx := HK.out.size; obtain ⟨hcx, hfx⟩ := bcell hbx; have hsx := hbx.size; (try simp at hsx); (try have hsy := Nat.lt_of_succ_le hsx); (try have hlx := Nat.lt_of_lt_of_le (by assumption) hsx)))
        all_goals
          go_wp2_with fail
          go_meet
          refine ⟨_, rfl, rfl, ?_, ?_, ?_⟩
          · go_simp
          · go_simp
          · first | exact st_alloc (Hid.out (by assumption)) _ | exact st_set (st_set (Hid.out (by assumption)) (by dsimp only; omega) _) (by dsimp only; omega) _
      obtain ⟨g8, rfl, rfl, hg0, hg1, hb⟩ := hcut
      obtain ⟨w8, hW⟩ := name_world wc
      rw [← hW] at hg0 hg1 hb ⊢
      clear hW
      have B8 := hide (st_trans B7.out hb)
      have k67 : w8.cell? ⟨w1.heap.size, 0, none⟩ = some (.int .i64 (an)) := keepc hb (by assumption)
      have k68 : w8.cell? ⟨w1.heap.size, 1, none⟩ = some (.int .i64 (ad)) := keepc hb (by assumption)
      have k69 : w1.heap.size < w8.heap.size := by have hq := hb.size; omega
      have k70 : w8.cell? ⟨w1.heap.size + 1, 0, none⟩ = some (.int .i64 (bn)) := keepc hb (by assumption)
      have k71 : w8.cell? ⟨w1.heap.size + 1, 1, none⟩ = some (.int .i64 (bd)) := keepc hb (by assumption)
      have k72 : w1.heap.size + 1 < w8.heap.size := by have hq := hb.size; omega
      have k73 : w8.cell? ⟨w3.heap.size, 0, none⟩ = some (.int .i64 (1)) := keepc hb (by assumption)
      have k74 : w8.cell? ⟨w3.heap.size, 1, none⟩ = some (.int .i64 (4)) := keepc hb (by assumption)
      have k75 : w3.heap.size < w8.heap.size := by have hq := hb.size; omega
      have k76 : w8.cell? ⟨w4.heap.size, 0, none⟩ = some (.int .i64 (xn)) := keepc hb (by assumption)
      have k77 : w8.cell? ⟨w4.heap.size, 1, none⟩ = some (.int .i64 (xd)) := keepc hb (by assumption)
      have k78 : w4.heap.size < w8.heap.size := by have hq := hb.size; omega
      have k79 : w8.cell? ⟨w5.heap.size, 0, none⟩ = some (.int .i64 (yn)) := keepc hb (by assumption)
      have k80 : w8.cell? ⟨w5.heap.size, 1, none⟩ = some (.int .i64 (yd)) := keepc hb (by assumption)
      have k81 : w5.heap.size < w8.heap.size := by have hq := hb.size; omega
      have k82 : w8.cell? ⟨w6.heap.size, 0, none⟩ = some (.int .i64 (zn)) := keepc hb (by assumption)
      have k83 : w8.cell? ⟨w6.heap.size, 1, none⟩ = some (.int .i64 (zd)) := keepc hb (by assumption)
      have k84 : w6.heap.size < w8.heap.size := by have hq := hb.size; omega
      have hgz : g8 < w8.heap.size := World.block_lt_of_cell? _ _ hg0
      clear hb k49 k50 k51 k52 k53 k54 k55 k56 k57 k58 k59 k60 k61 k62 k63 k64 k65 k66
      have kg8 := hg0
      have kh8 := hg1
      have kz8 := hgz
      clear hg0 hg1 hgz
      go_wp2
      go_ret
      exact ⟨rfl, B8.out⟩
    · have E2 := hide (HL2.out ht hu)
      have PX := hide (And.intro hp X1.out)
      have PY := hide (And.intro hs Y1.out)
      have PZ := hide (And.intro ht Z1.out)
      have PV := hide (And.intro hu V1.out)
      clear hp hs ht hu
      go_wp2_with fail
      refine (add_as_impl PX.out iX.out _).mono ?_
      rintro e w4 ⟨rfl, hb⟩
      have B4 := hide (st_trans (st_alloc B3.out (.cells #[.int .i64 (1), .int .i64 (4)] 24)) hb)
      have k13 : w4.cell? ⟨w1.heap.size, 0, none⟩ = some (.int .i64 (an)) := keepc hb (by go_simp)
      have k14 : w4.cell? ⟨w1.heap.size, 1, none⟩ = some (.int .i64 (ad)) := keepc hb (by go_simp)
      have k15 : w1.heap.size < w4.heap.size := by have hq := hb.size; (try simp at hq); omega
      have k16 : w4.cell? ⟨w1.heap.size + 1, 0, none⟩ = some (.int .i64 (bn)) := keepc hb (by go_simp)
      have k17 : w4.cell? ⟨w1.heap.size + 1, 1, none⟩ = some (.int .i64 (bd)) := keepc hb (by go_simp)
      have k18 : w1.heap.size + 1 < w4.heap.size := by have hq := hb.size; (try simp at hq); omega
      have k19 : w4.cell? ⟨w3.heap.size, 0, none⟩ = some (.int .i64 (1)) := keepc hb (by go_simp)
      have k20 : w4.cell? ⟨w3.heap.size, 1, none⟩ = some (.int .i64 (4)) := keepc hb (by go_simp)
      have k21 : w3.heap.size < w4.heap.size := by have hq := hb.size; (try simp at hq); omega
      clear hb k7 k8 k9 k10 k11 k12
      go_wp2_with fail
      refine (add_as_impl PY.out iY.out _).mono ?_
      rintro e w5 ⟨rfl, hb⟩
      have B5 := hide (st_trans (st_alloc B4.out (.cells #[.int .i64 (xn), .int .i64 (xd)] 24)) hb)
      have k22 : w5.cell? ⟨w1.heap.size, 0, none⟩ = some (.int .i64 (an)) := keepc hb (by go_simp)
      have k23 : w5.cell? ⟨w1.heap.size, 1, none⟩ = some (.int .i64 (ad)) := keepc hb (by go_simp)
      have k24 : w1.heap.size < w5.heap.size := by have hq := hb.size; (try simp at hq); omega
      have k25 : w5.cell? ⟨w1.heap.size + 1, 0, none⟩ = some (.int .i64 (bn)) := keepc hb (by go_simp)
      have k26 : w5.cell? ⟨w1.heap.size + 1, 1, none⟩ = some (.int .i64 (bd)) := keepc hb (by go_simp)
      have k27 : w1.heap.size + 1 < w5.heap.size := by have hq := hb.size; (try simp at hq); omega
      have k28 : w5.cell? ⟨w3.heap.size, 0, none⟩ = some (.int .i64 (1)) := keepc hb (by go_simp)
      have k29 : w5.cell? ⟨w3.heap.size, 1, none⟩ = some (.int .i64 (4)) := keepc hb (by go_simp)
      have k30 : w3.heap.size < w5.heap.size := by have hq := hb.size; (try simp at hq); omega
      have k31 : w5.cell? ⟨w4.heap.size, 0, none⟩ = some (.int .i64 (xn)) := keepc hb (by go_simp)
      have k32 : w5.cell? ⟨w4.heap.size, 1, none⟩ = some (.int .i64 (xd)) := keepc hb (by go_simp)
      have k33 : w4.heap.size < w5.heap.size := by have hq := hb.size; (try simp at hq); omega
      clear hb k13 k14 k15 k16 k17 k18 k19 k20 k21
      go_wp2_with fail
      refine (add_as_impl PZ.out iZ.out _).mono ?_
      rintro e w6 ⟨rfl, hb⟩
      have B6 := hide (st_trans (st_alloc B5.out (.cells #[.int .i64 (yn), .int .i64 (yd)] 24)) hb)
      have k34 : w6.cell? ⟨w1.heap.size, 0, none⟩ = some (.int .i64 (an)) := keepc hb (by go_simp)
      have k35 : w6.cell? ⟨w1.heap.size, 1, none⟩ = some (.int .i64 (ad)) := keepc hb (by go_simp)
      have k36 : w1.heap.size < w6.heap.size := by have hq := hb.size; (try simp at hq); omega
      have k37 : w6.cell? ⟨w1.heap.size + 1, 0, none⟩ = some (.int .i64 (bn)) := keepc hb (by go_simp)
      have k38 : w6.cell? ⟨w1.heap.size + 1, 1, none⟩ = some (.int .i64 (bd)) := keepc hb (by go_simp)
      have k39 : w1.heap.size + 1 < w6.heap.size := by have hq := hb.size; (try simp at hq); omega
      have k40 : w6.cell? ⟨w3.heap.size, 0, none⟩ = some (.int .i64 (1)) := keepc hb (by go_simp)
      have k41 : w6.cell? ⟨w3.heap.size, 1, none⟩ = some (.int .i64 (4)) := keepc hb (by go_simp)
      have k42 : w3.heap.size < w6.heap.size := by have hq := hb.size; (try simp at hq); omega
      have k43 : w6.cell? ⟨w4.heap.size, 0, none⟩ = some (.int .i64 (xn)) := keepc hb (by go_simp)
      have k44 : w6.cell? ⟨w4.heap.size, 1, none⟩ = some (.int .i64 (xd)) := keepc hb (by go_simp)
      have k45 : w4.heap.size < w6.heap.size := by have hq := hb.size; (try simp at hq); omega
      have k46 : w6.cell? ⟨w5.heap.size, 0, none⟩ = some (.int .i64 (yn)) := keepc hb (by go_simp)
      have k47 : w6.cell? ⟨w5.heap.size, 1, none⟩ = some (.int .i64 (yd)) := keepc hb (by go_simp)
      have k48 : w5.heap.size < w6.heap.size := by have hq := hb.size; (try simp at hq); omega
      clear hb k22 k23 k24 k25 k26 k27 k28 k29 k30 k31 k32 k33
      go_upto_region 12 with fail
      have B7 := hide (st_alloc B6.out (.cells #[.int .i64 (zn), .int .i64 (zd)] 24))
      have k49 : (w6.alloc (.cells #[.int .i64 (zn), .int .i64 (zd)] 24)).cell? ⟨w1.heap.size, 0, none⟩ = some (.int .i64 (an)) := by go_simp
      have k50 : (w6.alloc (.cells #[.int .i64 (zn), .int .i64 (zd)] 24)).cell? ⟨w1.heap.size, 1, none⟩ = some (.int .i64 (ad)) := by go_simp
      have k51 : w1.heap.size < (w6.alloc (.cells #[.int .i64 (zn), .int .i64 (zd)] 24)).heap.size := by simp <;> omega
      have k52 : (w6.alloc (.cells #[.int .i64 (zn), .int .i64 (zd)] 24)).cell? ⟨w1.heap.size + 1, 0, none⟩ = some (.int .i64 (bn)) := by go_simp
      have k53 : (w6.alloc (.cells #[.int .i64 (zn), .int .i64 (zd)] 24)).cell? ⟨w1.heap.size + 1, 1, none⟩ = some (.int .i64 (bd)) := by go_simp
      have k54 : w1.heap.size + 1 < (w6.alloc (.cells #[.int .i64 (zn), .int .i64 (zd)] 24)).heap.size := by simp <;> omega
      have k55 : (w6.alloc (.cells #[.int .i64 (zn), .int .i64 (zd)] 24)).cell? ⟨w3.heap.size, 0, none⟩ = some (.int .i64 (1)) := by go_simp
      have k56 : (w6.alloc (.cells #[.int .i64 (zn), .int .i64 (zd)] 24)).cell? ⟨w3.heap.size, 1, none⟩ = some (.int .i64 (4)) := by go_simp
      have k57 : w3.heap.size < (w6.alloc (.cells #[.int .i64 (zn), .int .i64 (zd)] 24)).heap.size := by simp <;> omega
      have k58 : (w6.alloc (.cells #[.int .i64 (zn), .int .i64 (zd)] 24)).cell? ⟨w4.heap.size, 0, none⟩ = some (.int .i64 (xn)) := by go_simp
      have k59 : (w6.alloc (.cells #[.int .i64 (zn), .int .i64 (zd)] 24)).cell? ⟨w4.heap.size, 1, none⟩ = some (.int .i64 (xd)) := by go_simp
      have k60 : w4.heap.size < (w6.alloc (.cells #[.int .i64 (zn), .int .i64 (zd)] 24)).heap.size := by simp <;> omega
      have k61 : (w6.alloc (.cells #[.int .i64 (zn), .int .i64 (zd)] 24)).cell? ⟨w5.heap.size, 0, none⟩ = some (.int .i64 (yn)) := by go_simp
      have k62 : (w6.alloc (.cells #[.int .i64 (zn), .int .i64 (zd)] 24)).cell? ⟨w5.heap.size, 1, none⟩ = some (.int .i64 (yd)) := by go_simp
      have k63 : w5.heap.size < (w6.alloc (.cells #[.int .i64 (zn), .int .i64 (zd)] 24)).heap.size := by simp <;> omega
      have k64 : (w6.alloc (.cells #[.int .i64 (zn), .int .i64 (zd)] 24)).cell? ⟨w6.heap.size, 0, none⟩ = some (.int .i64 (zn)) := by go_simp
      have k65 : (w6.alloc (.cells #[.int .i64 (zn), .int .i64 (zd)] 24)).cell? ⟨w6.heap.size, 1, none⟩ = some (.int .i64 (zd)) := by go_simp
      have k66 : w6.heap.size < (w6.alloc (.cells #[.int .i64 (zn), .int .i64 (zd)] 24)).heap.size := by simp <;> omega
      obtain ⟨w7, hW⟩ := name_world (w6.alloc (.cells #[.int .i64 (zn), .int .i64 (zd)] 24))
      rw [← hW] at k49 k50 k51 k52 k53 k54 k55 k56 k57 k58 k59 k60 k61 k62 k63 k64 k65 k66 B7 ⊢
      clear hW k34 k35 k36 k37 k38 k39 k40 k41 k42 k43 k44 k45 k46 k47 k48
      go_cut [14, 15] (fun s t wx => Got w7 (vn) (vd) (true) s t wx)
      case first =>
        have HK0 := hide (st_refl w7)
        have HKd := hide (st_drew HK0.out)
        go_region_held3 (fun w' => w'.cell? ⟨w6.heap.size, 0, none⟩ = some (.int .i64 (zn)) ∧ w'.cell? ⟨w6.heap.size, 1, none⟩ = some (.int .i64 (zd))) (first | exact ⟨keepc (Hid.out (by assumption)) k64, keepc (Hid.out (by assumption)) k65⟩ | exact ⟨keepc (st_alloc (Hid.out (by assumption)) _) k64, keepc (st_alloc (Hid.out (by assumption)) _) k65⟩ | exact ⟨keepc (st_drew (st_alloc (Hid.out (by assumption)) _)) k64, keepc (st_drew (st_alloc (Hid.out (by assumption)) _)) k65⟩ | exact ⟨keepc (st_drew (Hid.out (by assumption))) k64, keepc (st_drew (Hid.out (by assumption))) k65⟩ | exact ⟨keepc (st_set (st_set (Hid.out (by assumption)) (by dsimp only; omega) _) (by dsimp only; omega) _) k64, keepc (st_set (st_set (Hid.out (by assumption)) (by dsimp only; omega) _) (by dsimp only; omega) _) k65⟩ | go_keep) (first | (go_at_call 29; refine (frac_law _ _).mono ?_; rintro e wx ⟨rfl, hbx⟩; have HK := hide (st_trans (a := w7) (by first | exact Hid.out (by assumption) | exact st_alloc (Hid.out (by assumption)) _ | exact st_drew (st_alloc (Hid.out (by assumption)) _)) hbx); have hnx := HK.out.size; obtain ⟨hcx, hfx⟩ := bcell hbx; have hsx := hbx.size; (try simp at hsx); (try have hsy := Nat.lt_of_succ_le hsx); (try have hlx := Nat.lt_of_lt_of_le (by assumption) hsx)) | (go_at_call 31; refine (div_as_impl PV.out iV.out _).mono ?_; rintro e wx ⟨rfl, hbx⟩; have HK := hide (st_trans (a := w7) (by first | exact Hid.out (by assumption) | exact st_alloc (Hid.out (by assumption)) _ | exact st_drew (st_alloc (Hid.out (by assumption)) _)) hbx); have hnx := HK.out.size; obtain ⟨hcx, hfx⟩ := bcell hbx; have hsx := hbx.size; (try simp at hsx); (try have hsy := Nat.lt_of_succ_le hsx); (try have hlx := Nat.lt_of_lt_of_le (by assumption) hsx)))
        all_goals
          go_wp2_with fail
          go_meet
          refine ⟨_, rfl, rfl, ?_, ?_, ?_⟩
          · go_simp
          · go_simp
          · first | exact st_alloc (Hid.out (by assumption)) _ | exact st_set (st_set (Hid.out (by assumption)) (by dsimp only; omega) _) (by dsimp only; omega) _
      obtain ⟨g8, rfl, rfl, hg0, hg1, hb⟩ := hcut
      obtain ⟨w8, hW⟩ := name_world wc
      rw [← hW] at hg0 hg1 hb ⊢
      clear hW
      have B8 := hide (st_trans B7.out hb)
      have k67 : w8.cell? ⟨w1.heap.size, 0, none⟩ = some (.int .i64 (an)) := keepc hb (by assumption)
      have k68 : w8.cell? ⟨w1.heap.size, 1, none⟩ = some (.int .i64 (ad)) := keepc hb (by assumption)
      have k69 : w1.heap.size < w8.heap.size := by have hq := hb.size; omega
      have k70 : w8.cell? ⟨w1.heap.size + 1, 0, none⟩ = some (.int .i64 (bn)) := keepc hb (by assumption)
      have k71 : w8.cell? ⟨w1.heap.size + 1, 1, none⟩ = some (.int .i64 (bd)) := keepc hb (by assumption)
      have k72 : w1.heap.size + 1 < w8.heap.size := by have hq := hb.size; omega
      have k73 : w8.cell? ⟨w3.heap.size, 0, none⟩ = some (.int .i64 (1)) := keepc hb (by assumption)
      have k74 : w8.cell? ⟨w3.heap.size, 1, none⟩ = some (.int .i64 (4)) := keepc hb (by assumption)
      have k75 : w3.heap.size < w8.heap.size := by have hq := hb.size; omega
      have k76 : w8.cell? ⟨w4.heap.size, 0, none⟩ = some (.int .i64 (xn)) := keepc hb (by assumption)
      have k77 : w8.cell? ⟨w4.heap.size, 1, none⟩ = some (.int .i64 (xd)) := keepc hb (by assumption)
      have k78 : w4.heap.size < w8.heap.size := by have hq := hb.size; omega
      have k79 : w8.cell? ⟨w5.heap.size, 0, none⟩ = some (.int .i64 (yn)) := keepc hb (by assumption)
      have k80 : w8.cell? ⟨w5.heap.size, 1, none⟩ = some (.int .i64 (yd)) := keepc hb (by assumption)
      have k81 : w5.heap.size < w8.heap.size := by have hq := hb.size; omega
      have k82 : w8.cell? ⟨w6.heap.size, 0, none⟩ = some (.int .i64 (zn)) := keepc hb (by assumption)
      have k83 : w8.cell? ⟨w6.heap.size, 1, none⟩ = some (.int .i64 (zd)) := keepc hb (by assumption)
      have k84 : w6.heap.size < w8.heap.size := by have hq := hb.size; omega
      have hgz : g8 < w8.heap.size := World.block_lt_of_cell? _ _ hg0
      clear hb k49 k50 k51 k52 k53 k54 k55 k56 k57 k58 k59 k60 k61 k62 k63 k64 k65 k66
      have kg8 := hg0
      have kh8 := hg1
      have kz8 := hgz
      clear hg0 hg1 hgz
      go_wp2_with fail
      refine (less_as E2.out.1 iAV.out _).mono ?_
      rintro e w9 ⟨rfl, hb⟩
      have B9 := hide (st_trans B8.out hb)
      have k86 : w9.cell? ⟨w1.heap.size, 0, none⟩ = some (.int .i64 (an)) := keepc hb (by go_simp)
      have k87 : w9.cell? ⟨w1.heap.size, 1, none⟩ = some (.int .i64 (ad)) := keepc hb (by go_simp)
      have k88 : w1.heap.size < w9.heap.size := by have hq := hb.size; (try simp at hq); omega
      have k89 : w9.cell? ⟨w1.heap.size + 1, 0, none⟩ = some (.int .i64 (bn)) := keepc hb (by go_simp)
      have k90 : w9.cell? ⟨w1.heap.size + 1, 1, none⟩ = some (.int .i64 (bd)) := keepc hb (by go_simp)
      have k91 : w1.heap.size + 1 < w9.heap.size := by have hq := hb.size; (try simp at hq); omega
      have k92 : w9.cell? ⟨w3.heap.size, 0, none⟩ = some (.int .i64 (1)) := keepc hb (by go_simp)
      have k93 : w9.cell? ⟨w3.heap.size, 1, none⟩ = some (.int .i64 (4)) := keepc hb (by go_simp)
      have k94 : w3.heap.size < w9.heap.size := by have hq := hb.size; (try simp at hq); omega
      have k95 : w9.cell? ⟨w4.heap.size, 0, none⟩ = some (.int .i64 (xn)) := keepc hb (by go_simp)
      have k96 : w9.cell? ⟨w4.heap.size, 1, none⟩ = some (.int .i64 (xd)) := keepc hb (by go_simp)
      have k97 : w4.heap.size < w9.heap.size := by have hq := hb.size; (try simp at hq); omega
      have k98 : w9.cell? ⟨w5.heap.size, 0, none⟩ = some (.int .i64 (yn)) := keepc hb (by go_simp)
      have k99 : w9.cell? ⟨w5.heap.size, 1, none⟩ = some (.int .i64 (yd)) := keepc hb (by go_simp)
      have k100 : w5.heap.size < w9.heap.size := by have hq := hb.size; (try simp at hq); omega
      have k101 : w9.cell? ⟨w6.heap.size, 0, none⟩ = some (.int .i64 (zn)) := keepc hb (by go_simp)
      have k102 : w9.cell? ⟨w6.heap.size, 1, none⟩ = some (.int .i64 (zd)) := keepc hb (by go_simp)
      have k103 : w6.heap.size < w9.heap.size := by have hq := hb.size; (try simp at hq); omega
      have k104 : w9.cell? ⟨g8, 0, none⟩ = some (.int .i64 (vn)) := keepc hb (by go_simp)
      have k105 : w9.cell? ⟨g8, 1, none⟩ = some (.int .i64 (vd)) := keepc hb (by go_simp)
      have k106 : g8 < w9.heap.size := by have hq := hb.size; (try simp at hq); omega
      clear hb k67 k68 k69 k70 k71 k72 k73 k74 k75 k76 k77 k78 k79 k80 k81 k82 k83 k84 kg8 kh8 kz8
      go_wp2_with fail
      refine (less_as E2.out.2 iVB.out _).mono ?_
      rintro e w10 ⟨rfl, hb⟩
      have B10 := hide (st_trans B9.out hb)
      have k107 : w10.cell? ⟨w1.heap.size, 0, none⟩ = some (.int .i64 (an)) := keepc hb (by go_simp)
      have k108 : w10.cell? ⟨w1.heap.size, 1, none⟩ = some (.int .i64 (ad)) := keepc hb (by go_simp)
      have k109 : w1.heap.size < w10.heap.size := by have hq := hb.size; (try simp at hq); omega
      have k110 : w10.cell? ⟨w1.heap.size + 1, 0, none⟩ = some (.int .i64 (bn)) := keepc hb (by go_simp)
      have k111 : w10.cell? ⟨w1.heap.size + 1, 1, none⟩ = some (.int .i64 (bd)) := keepc hb (by go_simp)
      have k112 : w1.heap.size + 1 < w10.heap.size := by have hq := hb.size; (try simp at hq); omega
      have k113 : w10.cell? ⟨w3.heap.size, 0, none⟩ = some (.int .i64 (1)) := keepc hb (by go_simp)
      have k114 : w10.cell? ⟨w3.heap.size, 1, none⟩ = some (.int .i64 (4)) := keepc hb (by go_simp)
      have k115 : w3.heap.size < w10.heap.size := by have hq := hb.size; (try simp at hq); omega
      have k116 : w10.cell? ⟨w4.heap.size, 0, none⟩ = some (.int .i64 (xn)) := keepc hb (by go_simp)
      have k117 : w10.cell? ⟨w4.heap.size, 1, none⟩ = some (.int .i64 (xd)) := keepc hb (by go_simp)
      have k118 : w4.heap.size < w10.heap.size := by have hq := hb.size; (try simp at hq); omega
      have k119 : w10.cell? ⟨w5.heap.size, 0, none⟩ = some (.int .i64 (yn)) := keepc hb (by go_simp)
      have k120 : w10.cell? ⟨w5.heap.size, 1, none⟩ = some (.int .i64 (yd)) := keepc hb (by go_simp)
      have k121 : w5.heap.size < w10.heap.size := by have hq := hb.size; (try simp at hq); omega
      have k122 : w10.cell? ⟨w6.heap.size, 0, none⟩ = some (.int .i64 (zn)) := keepc hb (by go_simp)
      have k123 : w10.cell? ⟨w6.heap.size, 1, none⟩ = some (.int .i64 (zd)) := keepc hb (by go_simp)
      have k124 : w6.heap.size < w10.heap.size := by have hq := hb.size; (try simp at hq); omega
      have k125 : w10.cell? ⟨g8, 0, none⟩ = some (.int .i64 (vn)) := keepc hb (by go_simp)
      have k126 : w10.cell? ⟨g8, 1, none⟩ = some (.int .i64 (vd)) := keepc hb (by go_simp)
      have k127 : g8 < w10.heap.size := by have hq := hb.size; (try simp at hq); omega
      clear hb k86 k87 k88 k89 k90 k91 k92 k93 k94 k95 k96 k97 k98 k99 k100 k101 k102 k103 k104 k105 k106
      go_wp2
      go_ret
      exact ⟨rfl, B10.out⟩
    · have PX := hide (And.intro hp X1.out)
      have PY := hide (And.intro hs Y1.out)
      have PZ := hide (And.intro ht Z1.out)
      have PV := hide (And.intro hu V1.out)
      clear hp hs ht hu
      go_wp2_with fail
      refine (add_as_impl PX.out iX.out _).mono ?_
      rintro e w4 ⟨rfl, hb⟩
      have B4 := hide (st_trans (st_alloc B3.out (.cells #[.int .i64 (1), .int .i64 (4)] 24)) hb)
      have k13 : w4.cell? ⟨w1.heap.size, 0, none⟩ = some (.int .i64 (an)) := keepc hb (by go_simp)
      have k14 : w4.cell? ⟨w1.heap.size, 1, none⟩ = some (.int .i64 (ad)) := keepc hb (by go_simp)
      have k15 : w1.heap.size < w4.heap.size := by have hq := hb.size; (try simp at hq); omega
      have k16 : w4.cell? ⟨w1.heap.size + 1, 0, none⟩ = some (.int .i64 (bn)) := keepc hb (by go_simp)
      have k17 : w4.cell? ⟨w1.heap.size + 1, 1, none⟩ = some (.int .i64 (bd)) := keepc hb (by go_simp)
      have k18 : w1.heap.size + 1 < w4.heap.size := by have hq := hb.size; (try simp at hq); omega
      have k19 : w4.cell? ⟨w3.heap.size, 0, none⟩ = some (.int .i64 (1)) := keepc hb (by go_simp)
      have k20 : w4.cell? ⟨w3.heap.size, 1, none⟩ = some (.int .i64 (4)) := keepc hb (by go_simp)
      have k21 : w3.heap.size < w4.heap.size := by have hq := hb.size; (try simp at hq); omega
      clear hb k7 k8 k9 k10 k11 k12
      go_wp2_with fail
      refine (add_as_impl PY.out iY.out _).mono ?_
      rintro e w5 ⟨rfl, hb⟩
      have B5 := hide (st_trans (st_alloc B4.out (.cells #[.int .i64 (xn), .int .i64 (xd)] 24)) hb)
      have k22 : w5.cell? ⟨w1.heap.size, 0, none⟩ = some (.int .i64 (an)) := keepc hb (by go_simp)
      have k23 : w5.cell? ⟨w1.heap.size, 1, none⟩ = some (.int .i64 (ad)) := keepc hb (by go_simp)
      have k24 : w1.heap.size < w5.heap.size := by have hq := hb.size; (try simp at hq); omega
      have k25 : w5.cell? ⟨w1.heap.size + 1, 0, none⟩ = some (.int .i64 (bn)) := keepc hb (by go_simp)
      have k26 : w5.cell? ⟨w1.heap.size + 1, 1, none⟩ = some (.int .i64 (bd)) := keepc hb (by go_simp)
      have k27 : w1.heap.size + 1 < w5.heap.size := by have hq := hb.size; (try simp at hq); omega
      have k28 : w5.cell? ⟨w3.heap.size, 0, none⟩ = some (.int .i64 (1)) := keepc hb (by go_simp)
      have k29 : w5.cell? ⟨w3.heap.size, 1, none⟩ = some (.int .i64 (4)) := keepc hb (by go_simp)
      have k30 : w3.heap.size < w5.heap.size := by have hq := hb.size; (try simp at hq); omega
      have k31 : w5.cell? ⟨w4.heap.size, 0, none⟩ = some (.int .i64 (xn)) := keepc hb (by go_simp)
      have k32 : w5.cell? ⟨w4.heap.size, 1, none⟩ = some (.int .i64 (xd)) := keepc hb (by go_simp)
      have k33 : w4.heap.size < w5.heap.size := by have hq := hb.size; (try simp at hq); omega
      clear hb k13 k14 k15 k16 k17 k18 k19 k20 k21
      go_wp2_with fail
      refine (add_as_impl PZ.out iZ.out _).mono ?_
      rintro e w6 ⟨rfl, hb⟩
      have B6 := hide (st_trans (st_alloc B5.out (.cells #[.int .i64 (yn), .int .i64 (yd)] 24)) hb)
      have k34 : w6.cell? ⟨w1.heap.size, 0, none⟩ = some (.int .i64 (an)) := keepc hb (by go_simp)
      have k35 : w6.cell? ⟨w1.heap.size, 1, none⟩ = some (.int .i64 (ad)) := keepc hb (by go_simp)
      have k36 : w1.heap.size < w6.heap.size := by have hq := hb.size; (try simp at hq); omega
      have k37 : w6.cell? ⟨w1.heap.size + 1, 0, none⟩ = some (.int .i64 (bn)) := keepc hb (by go_simp)
      have k38 : w6.cell? ⟨w1.heap.size + 1, 1, none⟩ = some (.int .i64 (bd)) := keepc hb (by go_simp)
      have k39 : w1.heap.size + 1 < w6.heap.size := by have hq := hb.size; (try simp at hq); omega
      have k40 : w6.cell? ⟨w3.heap.size, 0, none⟩ = some (.int .i64 (1)) := keepc hb (by go_simp)
      have k41 : w6.cell? ⟨w3.heap.size, 1, none⟩ = some (.int .i64 (4)) := keepc hb (by go_simp)
      have k42 : w3.heap.size < w6.heap.size := by have hq := hb.size; (try simp at hq); omega
      have k43 : w6.cell? ⟨w4.heap.size, 0, none⟩ = some (.int .i64 (xn)) := keepc hb (by go_simp)
      have k44 : w6.cell? ⟨w4.heap.size, 1, none⟩ = some (.int .i64 (xd)) := keepc hb (by go_simp)
      have k45 : w4.heap.size < w6.heap.size := by have hq := hb.size; (try simp at hq); omega
      have k46 : w6.cell? ⟨w5.heap.size, 0, none⟩ = some (.int .i64 (yn)) := keepc hb (by go_simp)
      have k47 : w6.cell? ⟨w5.heap.size, 1, none⟩ = some (.int .i64 (yd)) := keepc hb (by go_simp)
      have k48 : w5.heap.size < w6.heap.size := by have hq := hb.size; (try simp at hq); omega
      clear hb k22 k23 k24 k25 k26 k27 k28 k29 k30 k31 k32 k33
      go_upto_region 12 with fail
      have B7 := hide (st_alloc B6.out (.cells #[.int .i64 (zn), .int .i64 (zd)] 24))
      have k49 : (w6.alloc (.cells #[.int .i64 (zn), .int .i64 (zd)] 24)).cell? ⟨w1.heap.size, 0, none⟩ = some (.int .i64 (an)) := by go_simp
      have k50 : (w6.alloc (.cells #[.int .i64 (zn), .int .i64 (zd)] 24)).cell? ⟨w1.heap.size, 1, none⟩ = some (.int .i64 (ad)) := by go_simp
      have k51 : w1.heap.size < (w6.alloc (.cells #[.int .i64 (zn), .int .i64 (zd)] 24)).heap.size := by simp <;> omega
      have k52 : (w6.alloc (.cells #[.int .i64 (zn), .int .i64 (zd)] 24)).cell? ⟨w1.heap.size + 1, 0, none⟩ = some (.int .i64 (bn)) := by go_simp
      have k53 : (w6.alloc (.cells #[.int .i64 (zn), .int .i64 (zd)] 24)).cell? ⟨w1.heap.size + 1, 1, none⟩ = some (.int .i64 (bd)) := by go_simp
      have k54 : w1.heap.size + 1 < (w6.alloc (.cells #[.int .i64 (zn), .int .i64 (zd)] 24)).heap.size := by simp <;> omega
      have k55 : (w6.alloc (.cells #[.int .i64 (zn), .int .i64 (zd)] 24)).cell? ⟨w3.heap.size, 0, none⟩ = some (.int .i64 (1)) := by go_simp
      have k56 : (w6.alloc (.cells #[.int .i64 (zn), .int .i64 (zd)] 24)).cell? ⟨w3.heap.size, 1, none⟩ = some (.int .i64 (4)) := by go_simp
      have k57 : w3.heap.size < (w6.alloc (.cells #[.int .i64 (zn), .int .i64 (zd)] 24)).heap.size := by simp <;> omega
      have k58 : (w6.alloc (.cells #[.int .i64 (zn), .int .i64 (zd)] 24)).cell? ⟨w4.heap.size, 0, none⟩ = some (.int .i64 (xn)) := by go_simp
      have k59 : (w6.alloc (.cells #[.int .i64 (zn), .int .i64 (zd)] 24)).cell? ⟨w4.heap.size, 1, none⟩ = some (.int .i64 (xd)) := by go_simp
      have k60 : w4.heap.size < (w6.alloc (.cells #[.int .i64 (zn), .int .i64 (zd)] 24)).heap.size := by simp <;> omega
      have k61 : (w6.alloc (.cells #[.int .i64 (zn), .int .i64 (zd)] 24)).cell? ⟨w5.heap.size, 0, none⟩ = some (.int .i64 (yn)) := by go_simp
      have k62 : (w6.alloc (.cells #[.int .i64 (zn), .int .i64 (zd)] 24)).cell? ⟨w5.heap.size, 1, none⟩ = some (.int .i64 (yd)) := by go_simp
      have k63 : w5.heap.size < (w6.alloc (.cells #[.int .i64 (zn), .int .i64 (zd)] 24)).heap.size := by simp <;> omega
      have k64 : (w6.alloc (.cells #[.int .i64 (zn), .int .i64 (zd)] 24)).cell? ⟨w6.heap.size, 0, none⟩ = some (.int .i64 (zn)) := by go_simp
      have k65 : (w6.alloc (.cells #[.int .i64 (zn), .int .i64 (zd)] 24)).cell? ⟨w6.heap.size, 1, none⟩ = some (.int .i64 (zd)) := by go_simp
      have k66 : w6.heap.size < (w6.alloc (.cells #[.int .i64 (zn), .int .i64 (zd)] 24)).heap.size := by simp <;> omega
      obtain ⟨w7, hW⟩ := name_world (w6.alloc (.cells #[.int .i64 (zn), .int .i64 (zd)] 24))
      rw [← hW] at k49 k50 k51 k52 k53 k54 k55 k56 k57 k58 k59 k60 k61 k62 k63 k64 k65 k66 B7 ⊢
      clear hW k34 k35 k36 k37 k38 k39 k40 k41 k42 k43 k44 k45 k46 k47 k48
      go_cut [14, 15] (fun s t wx => Got w7 (vn) (vd) (false) s t wx)
      case first =>
        have HK0 := hide (st_refl w7)
        have HKd := hide (st_drew HK0.out)
        go_region_held3 (fun w' => w'.cell? ⟨w6.heap.size, 0, none⟩ = some (.int .i64 (zn)) ∧ w'.cell? ⟨w6.heap.size, 1, none⟩ = some (.int .i64 (zd))) (first | exact ⟨keepc (Hid.out (by assumption)) k64, keepc (Hid.out (by assumption)) k65⟩ | exact ⟨keepc (st_alloc (Hid.out (by assumption)) _) k64, keepc (st_alloc (Hid.out (by assumption)) _) k65⟩ | exact ⟨keepc (st_drew (st_alloc (Hid.out (by assumption)) _)) k64, keepc (st_drew (st_alloc (Hid.out (by assumption)) _)) k65⟩ | exact ⟨keepc (st_drew (Hid.out (by assumption))) k64, keepc (st_drew (Hid.out (by assumption))) k65⟩ | exact ⟨keepc (st_set (st_set (Hid.out (by assumption)) (by dsimp only; omega) _) (by dsimp only; omega) _) k64, keepc (st_set (st_set (Hid.out (by assumption)) (by dsimp only; omega) _) (by dsimp only; omega) _) k65⟩ | go_keep) (first | (go_at_call 29; refine (frac_law _ _).mono ?_; rintro e wx ⟨rfl, hbx⟩; have HK := hide (st_trans (a := w7) (by first | exact Hid.out (by assumption) | exact st_alloc (Hid.out (by assumption)) _ | exact st_drew (st_alloc (Hid.out (by assumption)) _)) hbx); have hnx := HK.out.size; obtain ⟨hcx, hfx⟩ := bcell hbx; have hsx := hbx.size; (try simp at hsx); (try have hsy := Nat.lt_of_succ_le hsx); (try have hlx := Nat.lt_of_lt_of_le (by assumption) hsx)) | (go_at_call 31; refine (div_as_impl PV.out iV.out _).mono ?_; rintro e wx ⟨rfl, hbx⟩; have HK := hide (st_trans (a := w7) (by first | exact Hid.out (by assumption) | exact st_alloc (Hid.out (by assumption)) _ | exact st_drew (st_alloc (Hid.out (by assumption)) _)) hbx); have hnx := HK.out.size; obtain ⟨hcx, hfx⟩ := bcell hbx; have hsx := hbx.size; (try simp at hsx); (try have hsy := Nat.lt_of_succ_le hsx); (try have hlx := Nat.lt_of_lt_of_le (by assumption) hsx)))
        all_goals
          go_wp2_with fail
          go_meet
          refine ⟨_, rfl, rfl, ?_, ?_, ?_⟩
          · go_simp
          · go_simp
          · first | exact st_alloc (Hid.out (by assumption)) _ | exact st_set (st_set (Hid.out (by assumption)) (by dsimp only; omega) _) (by dsimp only; omega) _
      obtain ⟨g8, rfl, rfl, hg0, hg1, hb⟩ := hcut
      obtain ⟨w8, hW⟩ := name_world wc
      rw [← hW] at hg0 hg1 hb ⊢
      clear hW
      have B8 := hide (st_trans B7.out hb)
      have k67 : w8.cell? ⟨w1.heap.size, 0, none⟩ = some (.int .i64 (an)) := keepc hb (by assumption)
      have k68 : w8.cell? ⟨w1.heap.size, 1, none⟩ = some (.int .i64 (ad)) := keepc hb (by assumption)
      have k69 : w1.heap.size < w8.heap.size := by have hq := hb.size; omega
      have k70 : w8.cell? ⟨w1.heap.size + 1, 0, none⟩ = some (.int .i64 (bn)) := keepc hb (by assumption)
      have k71 : w8.cell? ⟨w1.heap.size + 1, 1, none⟩ = some (.int .i64 (bd)) := keepc hb (by assumption)
      have k72 : w1.heap.size + 1 < w8.heap.size := by have hq := hb.size; omega
      have k73 : w8.cell? ⟨w3.heap.size, 0, none⟩ = some (.int .i64 (1)) := keepc hb (by assumption)
      have k74 : w8.cell? ⟨w3.heap.size, 1, none⟩ = some (.int .i64 (4)) := keepc hb (by assumption)
      have k75 : w3.heap.size < w8.heap.size := by have hq := hb.size; omega
      have k76 : w8.cell? ⟨w4.heap.size, 0, none⟩ = some (.int .i64 (xn)) := keepc hb (by assumption)
      have k77 : w8.cell? ⟨w4.heap.size, 1, none⟩ = some (.int .i64 (xd)) := keepc hb (by assumption)
      have k78 : w4.heap.size < w8.heap.size := by have hq := hb.size; omega
      have k79 : w8.cell? ⟨w5.heap.size, 0, none⟩ = some (.int .i64 (yn)) := keepc hb (by assumption)
      have k80 : w8.cell? ⟨w5.heap.size, 1, none⟩ = some (.int .i64 (yd)) := keepc hb (by assumption)
      have k81 : w5.heap.size < w8.heap.size := by have hq := hb.size; omega
      have k82 : w8.cell? ⟨w6.heap.size, 0, none⟩ = some (.int .i64 (zn)) := keepc hb (by assumption)
      have k83 : w8.cell? ⟨w6.heap.size, 1, none⟩ = some (.int .i64 (zd)) := keepc hb (by assumption)
      have k84 : w6.heap.size < w8.heap.size := by have hq := hb.size; omega
      have hgz : g8 < w8.heap.size := World.block_lt_of_cell? _ _ hg0
      clear hb k49 k50 k51 k52 k53 k54 k55 k56 k57 k58 k59 k60 k61 k62 k63 k64 k65 k66
      have kg8 := hg0
      have kh8 := hg1
      have kz8 := hgz
      clear hg0 hg1 hgz
      go_wp2
      go_ret
      exact ⟨rfl, B8.out⟩
    · have PX := hide (And.intro hp X1.out)
      have PY := hide (And.intro hs Y1.out)
      have PZ := hide (And.intro ht Z1.out)
      have PV := hide (And.intro hu V1.out)
      clear hp hs ht hu
      go_wp2_with fail
      refine (add_as_impl PX.out iX.out _).mono ?_
      rintro e w4 ⟨rfl, hb⟩
      have B4 := hide (st_trans (st_alloc B3.out (.cells #[.int .i64 (1), .int .i64 (4)] 24)) hb)
      have k13 : w4.cell? ⟨w1.heap.size, 0, none⟩ = some (.int .i64 (an)) := keepc hb (by go_simp)
      have k14 : w4.cell? ⟨w1.heap.size, 1, none⟩ = some (.int .i64 (ad)) := keepc hb (by go_simp)
      have k15 : w1.heap.size < w4.heap.size := by have hq := hb.size; (try simp at hq); omega
      have k16 : w4.cell? ⟨w1.heap.size + 1, 0, none⟩ = some (.int .i64 (bn)) := keepc hb (by go_simp)
      have k17 : w4.cell? ⟨w1.heap.size + 1, 1, none⟩ = some (.int .i64 (bd)) := keepc hb (by go_simp)
      have k18 : w1.heap.size + 1 < w4.heap.size := by have hq := hb.size; (try simp at hq); omega
      have k19 : w4.cell? ⟨w3.heap.size, 0, none⟩ = some (.int .i64 (1)) := keepc hb (by go_simp)
      have k20 : w4.cell? ⟨w3.heap.size, 1, none⟩ = some (.int .i64 (4)) := keepc hb (by go_simp)
      have k21 : w3.heap.size < w4.heap.size := by have hq := hb.size; (try simp at hq); omega
      clear hb k7 k8 k9 k10 k11 k12
      go_wp2_with fail
      refine (add_as_impl PY.out iY.out _).mono ?_
      rintro e w5 ⟨rfl, hb⟩
      have B5 := hide (st_trans (st_alloc B4.out (.cells #[.int .i64 (xn), .int .i64 (xd)] 24)) hb)
      have k22 : w5.cell? ⟨w1.heap.size, 0, none⟩ = some (.int .i64 (an)) := keepc hb (by go_simp)
      have k23 : w5.cell? ⟨w1.heap.size, 1, none⟩ = some (.int .i64 (ad)) := keepc hb (by go_simp)
      have k24 : w1.heap.size < w5.heap.size := by have hq := hb.size; (try simp at hq); omega
      have k25 : w5.cell? ⟨w1.heap.size + 1, 0, none⟩ = some (.int .i64 (bn)) := keepc hb (by go_simp)
      have k26 : w5.cell? ⟨w1.heap.size + 1, 1, none⟩ = some (.int .i64 (bd)) := keepc hb (by go_simp)
      have k27 : w1.heap.size + 1 < w5.heap.size := by have hq := hb.size; (try simp at hq); omega
      have k28 : w5.cell? ⟨w3.heap.size, 0, none⟩ = some (.int .i64 (1)) := keepc hb (by go_simp)
      have k29 : w5.cell? ⟨w3.heap.size, 1, none⟩ = some (.int .i64 (4)) := keepc hb (by go_simp)
      have k30 : w3.heap.size < w5.heap.size := by have hq := hb.size; (try simp at hq); omega
      have k31 : w5.cell? ⟨w4.heap.size, 0, none⟩ = some (.int .i64 (xn)) := keepc hb (by go_simp)
      have k32 : w5.cell? ⟨w4.heap.size, 1, none⟩ = some (.int .i64 (xd)) := keepc hb (by go_simp)
      have k33 : w4.heap.size < w5.heap.size := by have hq := hb.size; (try simp at hq); omega
      clear hb k13 k14 k15 k16 k17 k18 k19 k20 k21
      go_wp2_with fail
      refine (add_as_impl PZ.out iZ.out _).mono ?_
      rintro e w6 ⟨rfl, hb⟩
      have B6 := hide (st_trans (st_alloc B5.out (.cells #[.int .i64 (yn), .int .i64 (yd)] 24)) hb)
      have k34 : w6.cell? ⟨w1.heap.size, 0, none⟩ = some (.int .i64 (an)) := keepc hb (by go_simp)
      have k35 : w6.cell? ⟨w1.heap.size, 1, none⟩ = some (.int .i64 (ad)) := keepc hb (by go_simp)
      have k36 : w1.heap.size < w6.heap.size := by have hq := hb.size; (try simp at hq); omega
      have k37 : w6.cell? ⟨w1.heap.size + 1, 0, none⟩ = some (.int .i64 (bn)) := keepc hb (by go_simp)
      have k38 : w6.cell? ⟨w1.heap.size + 1, 1, none⟩ = some (.int .i64 (bd)) := keepc hb (by go_simp)
      have k39 : w1.heap.size + 1 < w6.heap.size := by have hq := hb.size; (try simp at hq); omega
      have k40 : w6.cell? ⟨w3.heap.size, 0, none⟩ = some (.int .i64 (1)) := keepc hb (by go_simp)
      have k41 : w6.cell? ⟨w3.heap.size, 1, none⟩ = some (.int .i64 (4)) := keepc hb (by go_simp)
      have k42 : w3.heap.size < w6.heap.size := by have hq := hb.size; (try simp at hq); omega
      have k43 : w6.cell? ⟨w4.heap.size, 0, none⟩ = some (.int .i64 (xn)) := keepc hb (by go_simp)
      have k44 : w6.cell? ⟨w4.heap.size, 1, none⟩ = some (.int .i64 (xd)) := keepc hb (by go_simp)
      have k45 : w4.heap.size < w6.heap.size := by have hq := hb.size; (try simp at hq); omega
      have k46 : w6.cell? ⟨w5.heap.size, 0, none⟩ = some (.int .i64 (yn)) := keepc hb (by go_simp)
      have k47 : w6.cell? ⟨w5.heap.size, 1, none⟩ = some (.int .i64 (yd)) := keepc hb (by go_simp)
      have k48 : w5.heap.size < w6.heap.size := by have hq := hb.size; (try simp at hq); omega
      clear hb k22 k23 k24 k25 k26 k27 k28 k29 k30 k31 k32 k33
      go_upto_region 12 with fail
      have B7 := hide (st_alloc B6.out (.cells #[.int .i64 (zn), .int .i64 (zd)] 24))
      have k49 : (w6.alloc (.cells #[.int .i64 (zn), .int .i64 (zd)] 24)).cell? ⟨w1.heap.size, 0, none⟩ = some (.int .i64 (an)) := by go_simp
      have k50 : (w6.alloc (.cells #[.int .i64 (zn), .int .i64 (zd)] 24)).cell? ⟨w1.heap.size, 1, none⟩ = some (.int .i64 (ad)) := by go_simp
      have k51 : w1.heap.size < (w6.alloc (.cells #[.int .i64 (zn), .int .i64 (zd)] 24)).heap.size := by simp <;> omega
      have k52 : (w6.alloc (.cells #[.int .i64 (zn), .int .i64 (zd)] 24)).cell? ⟨w1.heap.size + 1, 0, none⟩ = some (.int .i64 (bn)) := by go_simp
      have k53 : (w6.alloc (.cells #[.int .i64 (zn), .int .i64 (zd)] 24)).cell? ⟨w1.heap.size + 1, 1, none⟩ = some (.int .i64 (bd)) := by go_simp
      have k54 : w1.heap.size + 1 < (w6.alloc (.cells #[.int .i64 (zn), .int .i64 (zd)] 24)).heap.size := by simp <;> omega
      have k55 : (w6.alloc (.cells #[.int .i64 (zn), .int .i64 (zd)] 24)).cell? ⟨w3.heap.size, 0, none⟩ = some (.int .i64 (1)) := by go_simp
      have k56 : (w6.alloc (.cells #[.int .i64 (zn), .int .i64 (zd)] 24)).cell? ⟨w3.heap.size, 1, none⟩ = some (.int .i64 (4)) := by go_simp
      have k57 : w3.heap.size < (w6.alloc (.cells #[.int .i64 (zn), .int .i64 (zd)] 24)).heap.size := by simp <;> omega
      have k58 : (w6.alloc (.cells #[.int .i64 (zn), .int .i64 (zd)] 24)).cell? ⟨w4.heap.size, 0, none⟩ = some (.int .i64 (xn)) := by go_simp
      have k59 : (w6.alloc (.cells #[.int .i64 (zn), .int .i64 (zd)] 24)).cell? ⟨w4.heap.size, 1, none⟩ = some (.int .i64 (xd)) := by go_simp
      have k60 : w4.heap.size < (w6.alloc (.cells #[.int .i64 (zn), .int .i64 (zd)] 24)).heap.size := by simp <;> omega
      have k61 : (w6.alloc (.cells #[.int .i64 (zn), .int .i64 (zd)] 24)).cell? ⟨w5.heap.size, 0, none⟩ = some (.int .i64 (yn)) := by go_simp
      have k62 : (w6.alloc (.cells #[.int .i64 (zn), .int .i64 (zd)] 24)).cell? ⟨w5.heap.size, 1, none⟩ = some (.int .i64 (yd)) := by go_simp
      have k63 : w5.heap.size < (w6.alloc (.cells #[.int .i64 (zn), .int .i64 (zd)] 24)).heap.size := by simp <;> omega
      have k64 : (w6.alloc (.cells #[.int .i64 (zn), .int .i64 (zd)] 24)).cell? ⟨w6.heap.size, 0, none⟩ = some (.int .i64 (zn)) := by go_simp
      have k65 : (w6.alloc (.cells #[.int .i64 (zn), .int .i64 (zd)] 24)).cell? ⟨w6.heap.size, 1, none⟩ = some (.int .i64 (zd)) := by go_simp
      have k66 : w6.heap.size < (w6.alloc (.cells #[.int .i64 (zn), .int .i64 (zd)] 24)).heap.size := by simp <;> omega
      obtain ⟨w7, hW⟩ := name_world (w6.alloc (.cells #[.int .i64 (zn), .int .i64 (zd)] 24))
      rw [← hW] at k49 k50 k51 k52 k53 k54 k55 k56 k57 k58 k59 k60 k61 k62 k63 k64 k65 k66 B7 ⊢
      clear hW k34 k35 k36 k37 k38 k39 k40 k41 k42 k43 k44 k45 k46 k47 k48
      go_cut [14, 15] (fun s t wx => Got w7 (vn) (vd) (true) s t wx)
      case first =>
        have HK0 := hide (st_refl w7)
        have HKd := hide (st_drew HK0.out)
        go_region_held3 (fun w' => w'.cell? ⟨w6.heap.size, 0, none⟩ = some (.int .i64 (zn)) ∧ w'.cell? ⟨w6.heap.size, 1, none⟩ = some (.int .i64 (zd))) (first | exact ⟨keepc (Hid.out (by assumption)) k64, keepc (Hid.out (by assumption)) k65⟩ | exact ⟨keepc (st_alloc (Hid.out (by assumption)) _) k64, keepc (st_alloc (Hid.out (by assumption)) _) k65⟩ | exact ⟨keepc (st_drew (st_alloc (Hid.out (by assumption)) _)) k64, keepc (st_drew (st_alloc (Hid.out (by assumption)) _)) k65⟩ | exact ⟨keepc (st_drew (Hid.out (by assumption))) k64, keepc (st_drew (Hid.out (by assumption))) k65⟩ | exact ⟨keepc (st_set (st_set (Hid.out (by assumption)) (by dsimp only; omega) _) (by dsimp only; omega) _) k64, keepc (st_set (st_set (Hid.out (by assumption)) (by dsimp only; omega) _) (by dsimp only; omega) _) k65⟩ | go_keep) (first | (go_at_call 29; refine (frac_law _ _).mono ?_; rintro e wx ⟨rfl, hbx⟩; have HK := hide (st_trans (a := w7) (by first | exact Hid.out (by assumption) | exact st_alloc (Hid.out (by assumption)) _ | exact st_drew (st_alloc (Hid.out (by assumption)) _)) hbx); have hnx := HK.out.size; obtain ⟨hcx, hfx⟩ := bcell hbx; have hsx := hbx.size; (try simp at hsx); (try have hsy := Nat.lt_of_succ_le hsx); (try have hlx := Nat.lt_of_lt_of_le (by assumption) hsx)) | (go_at_call 31; refine (div_as_impl PV.out iV.out _).mono ?_; rintro e wx ⟨rfl, hbx⟩; have HK := hide (st_trans (a := w7) (by first | exact Hid.out (by assumption) | exact st_alloc (Hid.out (by assumption)) _ | exact st_drew (st_alloc (Hid.out (by assumption)) _)) hbx); have hnx := HK.out.size; obtain ⟨hcx, hfx⟩ := bcell hbx; have hsx := hbx.size; (try simp at hsx); (try have hsy := Nat.lt_of_succ_le hsx); (try have hlx := Nat.lt_of_lt_of_le (by assumption) hsx)))
        all_goals
          go_wp2_with fail
          go_meet
          refine ⟨_, rfl, rfl, ?_, ?_, ?_⟩
          · go_simp
          · go_simp
          · first | exact st_alloc (Hid.out (by assumption)) _ | exact st_set (st_set (Hid.out (by assumption)) (by dsimp only; omega) _) (by dsimp only; omega) _
      obtain ⟨g8, rfl, rfl, hg0, hg1, hb⟩ := hcut
      obtain ⟨w8, hW⟩ := name_world wc
      rw [← hW] at hg0 hg1 hb ⊢
      clear hW
      have B8 := hide (st_trans B7.out hb)
      have k67 : w8.cell? ⟨w1.heap.size, 0, none⟩ = some (.int .i64 (an)) := keepc hb (by assumption)
      have k68 : w8.cell? ⟨w1.heap.size, 1, none⟩ = some (.int .i64 (ad)) := keepc hb (by assumption)
      have k69 : w1.heap.size < w8.heap.size := by have hq := hb.size; omega
      have k70 : w8.cell? ⟨w1.heap.size + 1, 0, none⟩ = some (.int .i64 (bn)) := keepc hb (by assumption)
      have k71 : w8.cell? ⟨w1.heap.size + 1, 1, none⟩ = some (.int .i64 (bd)) := keepc hb (by assumption)
      have k72 : w1.heap.size + 1 < w8.heap.size := by have hq := hb.size; omega
      have k73 : w8.cell? ⟨w3.heap.size, 0, none⟩ = some (.int .i64 (1)) := keepc hb (by assumption)
      have k74 : w8.cell? ⟨w3.heap.size, 1, none⟩ = some (.int .i64 (4)) := keepc hb (by assumption)
      have k75 : w3.heap.size < w8.heap.size := by have hq := hb.size; omega
      have k76 : w8.cell? ⟨w4.heap.size, 0, none⟩ = some (.int .i64 (xn)) := keepc hb (by assumption)
      have k77 : w8.cell? ⟨w4.heap.size, 1, none⟩ = some (.int .i64 (xd)) := keepc hb (by assumption)
      have k78 : w4.heap.size < w8.heap.size := by have hq := hb.size; omega
      have k79 : w8.cell? ⟨w5.heap.size, 0, none⟩ = some (.int .i64 (yn)) := keepc hb (by assumption)
      have k80 : w8.cell? ⟨w5.heap.size, 1, none⟩ = some (.int .i64 (yd)) := keepc hb (by assumption)
      have k81 : w5.heap.size < w8.heap.size := by have hq := hb.size; omega
      have k82 : w8.cell? ⟨w6.heap.size, 0, none⟩ = some (.int .i64 (zn)) := keepc hb (by assumption)
      have k83 : w8.cell? ⟨w6.heap.size, 1, none⟩ = some (.int .i64 (zd)) := keepc hb (by assumption)
      have k84 : w6.heap.size < w8.heap.size := by have hq := hb.size; omega
      have hgz : g8 < w8.heap.size := World.block_lt_of_cell? _ _ hg0
      clear hb k49 k50 k51 k52 k53 k54 k55 k56 k57 k58 k59 k60 k61 k62 k63 k64 k65 k66
      have kg8 := hg0
      have kh8 := hg1
      have kz8 := hgz
      clear hg0 hg1 hgz
      go_wp2
      go_ret
      exact ⟨rfl, B8.out⟩
    · have PX := hide (And.intro hp X1.out)
      have PY := hide (And.intro hs Y1.out)
      have PZ := hide (And.intro ht Z1.out)
      have PV := hide (And.intro hu V1.out)
      clear hp hs ht hu
      go_wp2_with fail
      refine (add_as_impl PX.out iX.out _).mono ?_
      rintro e w4 ⟨rfl, hb⟩
      have B4 := hide (st_trans (st_alloc B3.out (.cells #[.int .i64 (1), .int .i64 (4)] 24)) hb)
      have k13 : w4.cell? ⟨w1.heap.size, 0, none⟩ = some (.int .i64 (an)) := keepc hb (by go_simp)
      have k14 : w4.cell? ⟨w1.heap.size, 1, none⟩ = some (.int .i64 (ad)) := keepc hb (by go_simp)
      have k15 : w1.heap.size < w4.heap.size := by have hq := hb.size; (try simp at hq); omega
      have k16 : w4.cell? ⟨w1.heap.size + 1, 0, none⟩ = some (.int .i64 (bn)) := keepc hb (by go_simp)
      have k17 : w4.cell? ⟨w1.heap.size + 1, 1, none⟩ = some (.int .i64 (bd)) := keepc hb (by go_simp)
      have k18 : w1.heap.size + 1 < w4.heap.size := by have hq := hb.size; (try simp at hq); omega
      have k19 : w4.cell? ⟨w3.heap.size, 0, none⟩ = some (.int .i64 (1)) := keepc hb (by go_simp)
      have k20 : w4.cell? ⟨w3.heap.size, 1, none⟩ = some (.int .i64 (4)) := keepc hb (by go_simp)
      have k21 : w3.heap.size < w4.heap.size := by have hq := hb.size; (try simp at hq); omega
      clear hb k7 k8 k9 k10 k11 k12
      go_wp2_with fail
      refine (add_as_impl PY.out iY.out _).mono ?_
      rintro e w5 ⟨rfl, hb⟩
      have B5 := hide (st_trans (st_alloc B4.out (.cells #[.int .i64 (xn), .int .i64 (xd)] 24)) hb)
      have k22 : w5.cell? ⟨w1.heap.size, 0, none⟩ = some (.int .i64 (an)) := keepc hb (by go_simp)
      have k23 : w5.cell? ⟨w1.heap.size, 1, none⟩ = some (.int .i64 (ad)) := keepc hb (by go_simp)
      have k24 : w1.heap.size < w5.heap.size := by have hq := hb.size; (try simp at hq); omega
      have k25 : w5.cell? ⟨w1.heap.size + 1, 0, none⟩ = some (.int .i64 (bn)) := keepc hb (by go_simp)
      have k26 : w5.cell? ⟨w1.heap.size + 1, 1, none⟩ = some (.int .i64 (bd)) := keepc hb (by go_simp)
      have k27 : w1.heap.size + 1 < w5.heap.size := by have hq := hb.size; (try simp at hq); omega
      have k28 : w5.cell? ⟨w3.heap.size, 0, none⟩ = some (.int .i64 (1)) := keepc hb (by go_simp)
      have k29 : w5.cell? ⟨w3.heap.size, 1, none⟩ = some (.int .i64 (4)) := keepc hb (by go_simp)
      have k30 : w3.heap.size < w5.heap.size := by have hq := hb.size; (try simp at hq); omega
      have k31 : w5.cell? ⟨w4.heap.size, 0, none⟩ = some (.int .i64 (xn)) := keepc hb (by go_simp)
      have k32 : w5.cell? ⟨w4.heap.size, 1, none⟩ = some (.int .i64 (xd)) := keepc hb (by go_simp)
      have k33 : w4.heap.size < w5.heap.size := by have hq := hb.size; (try simp at hq); omega
      clear hb k13 k14 k15 k16 k17 k18 k19 k20 k21
      go_wp2_with fail
      refine (add_as_impl PZ.out iZ.out _).mono ?_
      rintro e w6 ⟨rfl, hb⟩
      have B6 := hide (st_trans (st_alloc B5.out (.cells #[.int .i64 (yn), .int .i64 (yd)] 24)) hb)
      have k34 : w6.cell? ⟨w1.heap.size, 0, none⟩ = some (.int .i64 (an)) := keepc hb (by go_simp)
      have k35 : w6.cell? ⟨w1.heap.size, 1, none⟩ = some (.int .i64 (ad)) := keepc hb (by go_simp)
      have k36 : w1.heap.size < w6.heap.size := by have hq := hb.size; (try simp at hq); omega
      have k37 : w6.cell? ⟨w1.heap.size + 1, 0, none⟩ = some (.int .i64 (bn)) := keepc hb (by go_simp)
      have k38 : w6.cell? ⟨w1.heap.size + 1, 1, none⟩ = some (.int .i64 (bd)) := keepc hb (by go_simp)
      have k39 : w1.heap.size + 1 < w6.heap.size := by have hq := hb.size; (try simp at hq); omega
      have k40 : w6.cell? ⟨w3.heap.size, 0, none⟩ = some (.int .i64 (1)) := keepc hb (by go_simp)
      have k41 : w6.cell? ⟨w3.heap.size, 1, none⟩ = some (.int .i64 (4)) := keepc hb (by go_simp)
      have k42 : w3.heap.size < w6.heap.size := by have hq := hb.size; (try simp at hq); omega
      have k43 : w6.cell? ⟨w4.heap.size, 0, none⟩ = some (.int .i64 (xn)) := keepc hb (by go_simp)
      have k44 : w6.cell? ⟨w4.heap.size, 1, none⟩ = some (.int .i64 (xd)) := keepc hb (by go_simp)
      have k45 : w4.heap.size < w6.heap.size := by have hq := hb.size; (try simp at hq); omega
      have k46 : w6.cell? ⟨w5.heap.size, 0, none⟩ = some (.int .i64 (yn)) := keepc hb (by go_simp)
      have k47 : w6.cell? ⟨w5.heap.size, 1, none⟩ = some (.int .i64 (yd)) := keepc hb (by go_simp)
      have k48 : w5.heap.size < w6.heap.size := by have hq := hb.size; (try simp at hq); omega
      clear hb k22 k23 k24 k25 k26 k27 k28 k29 k30 k31 k32 k33
      go_upto_region 12 with fail
      have B7 := hide (st_alloc B6.out (.cells #[.int .i64 (zn), .int .i64 (zd)] 24))
      have k49 : (w6.alloc (.cells #[.int .i64 (zn), .int .i64 (zd)] 24)).cell? ⟨w1.heap.size, 0, none⟩ = some (.int .i64 (an)) := by go_simp
      have k50 : (w6.alloc (.cells #[.int .i64 (zn), .int .i64 (zd)] 24)).cell? ⟨w1.heap.size, 1, none⟩ = some (.int .i64 (ad)) := by go_simp
      have k51 : w1.heap.size < (w6.alloc (.cells #[.int .i64 (zn), .int .i64 (zd)] 24)).heap.size := by simp <;> omega
      have k52 : (w6.alloc (.cells #[.int .i64 (zn), .int .i64 (zd)] 24)).cell? ⟨w1.heap.size + 1, 0, none⟩ = some (.int .i64 (bn)) := by go_simp
      have k53 : (w6.alloc (.cells #[.int .i64 (zn), .int .i64 (zd)] 24)).cell? ⟨w1.heap.size + 1, 1, none⟩ = some (.int .i64 (bd)) := by go_simp
      have k54 : w1.heap.size + 1 < (w6.alloc (.cells #[.int .i64 (zn), .int .i64 (zd)] 24)).heap.size := by simp <;> omega
      have k55 : (w6.alloc (.cells #[.int .i64 (zn), .int .i64 (zd)] 24)).cell? ⟨w3.heap.size, 0, none⟩ = some (.int .i64 (1)) := by go_simp
      have k56 : (w6.alloc (.cells #[.int .i64 (zn), .int .i64 (zd)] 24)).cell? ⟨w3.heap.size, 1, none⟩ = some (.int .i64 (4)) := by go_simp
      have k57 : w3.heap.size < (w6.alloc (.cells #[.int .i64 (zn), .int .i64 (zd)] 24)).heap.size := by simp <;> omega
      have k58 : (w6.alloc (.cells #[.int .i64 (zn), .int .i64 (zd)] 24)).cell? ⟨w4.heap.size, 0, none⟩ = some (.int .i64 (xn)) := by go_simp
      have k59 : (w6.alloc (.cells #[.int .i64 (zn), .int .i64 (zd)] 24)).cell? ⟨w4.heap.size, 1, none⟩ = some (.int .i64 (xd)) := by go_simp
      have k60 : w4.heap.size < (w6.alloc (.cells #[.int .i64 (zn), .int .i64 (zd)] 24)).heap.size := by simp <;> omega
      have k61 : (w6.alloc (.cells #[.int .i64 (zn), .int .i64 (zd)] 24)).cell? ⟨w5.heap.size, 0, none⟩ = some (.int .i64 (yn)) := by go_simp
      have k62 : (w6.alloc (.cells #[.int .i64 (zn), .int .i64 (zd)] 24)).cell? ⟨w5.heap.size, 1, none⟩ = some (.int .i64 (yd)) := by go_simp
      have k63 : w5.heap.size < (w6.alloc (.cells #[.int .i64 (zn), .int .i64 (zd)] 24)).heap.size := by simp <;> omega
      have k64 : (w6.alloc (.cells #[.int .i64 (zn), .int .i64 (zd)] 24)).cell? ⟨w6.heap.size, 0, none⟩ = some (.int .i64 (zn)) := by go_simp
      have k65 : (w6.alloc (.cells #[.int .i64 (zn), .int .i64 (zd)] 24)).cell? ⟨w6.heap.size, 1, none⟩ = some (.int .i64 (zd)) := by go_simp
      have k66 : w6.heap.size < (w6.alloc (.cells #[.int .i64 (zn), .int .i64 (zd)] 24)).heap.size := by simp <;> omega
      obtain ⟨w7, hW⟩ := name_world (w6.alloc (.cells #[.int .i64 (zn), .int .i64 (zd)] 24))
      rw [← hW] at k49 k50 k51 k52 k53 k54 k55 k56 k57 k58 k59 k60 k61 k62 k63 k64 k65 k66 B7 ⊢
      clear hW k34 k35 k36 k37 k38 k39 k40 k41 k42 k43 k44 k45 k46 k47 k48
      go_cut [14, 15] (fun s t wx => Got w7 (vn) (vd) (false) s t wx)
      case first =>
        have HK0 := hide (st_refl w7)
        have HKd := hide (st_drew HK0.out)
        go_region_held3 (fun w' => w'.cell? ⟨w6.heap.size, 0, none⟩ = some (.int .i64 (zn)) ∧ w'.cell? ⟨w6.heap.size, 1, none⟩ = some (.int .i64 (zd))) (first | exact ⟨keepc (Hid.out (by assumption)) k64, keepc (Hid.out (by assumption)) k65⟩ | exact ⟨keepc (st_alloc (Hid.out (by assumption)) _) k64, keepc (st_alloc (Hid.out (by assumption)) _) k65⟩ | exact ⟨keepc (st_drew (st_alloc (Hid.out (by assumption)) _)) k64, keepc (st_drew (st_alloc (Hid.out (by assumption)) _)) k65⟩ | exact ⟨keepc (st_drew (Hid.out (by assumption))) k64, keepc (st_drew (Hid.out (by assumption))) k65⟩ | exact ⟨keepc (st_set (st_set (Hid.out (by assumption)) (by dsimp only; omega) _) (by dsimp only; omega) _) k64, keepc (st_set (st_set (Hid.out (by assumption)) (by dsimp only; omega) _) (by dsimp only; omega) _) k65⟩ | go_keep) (first | (go_at_call 29; refine (frac_law _ _).mono ?_; rintro e wx ⟨rfl, hbx⟩; have HK := hide (st_trans (a := w7) (by first | exact Hid.out (by assumption) | exact st_alloc (Hid.out (by assumption)) _ | exact st_drew (st_alloc (Hid.out (by assumption)) _)) hbx); have hnx := HK.out.size; obtain ⟨hcx, hfx⟩ := bcell hbx; have hsx := hbx.size; (try simp at hsx); (try have hsy := Nat.lt_of_succ_le hsx); (try have hlx := Nat.lt_of_lt_of_le (by assumption) hsx)) | (go_at_call 31; refine (div_as_impl PV.out iV.out _).mono ?_; rintro e wx ⟨rfl, hbx⟩; have HK := hide (st_trans (a := w7) (by first | exact Hid.out (by assumption) | exact st_alloc (Hid.out (by assumption)) _ | exact st_drew (st_alloc (Hid.out (by assumption)) _)) hbx); have hnx := HK.out.size; obtain ⟨hcx, hfx⟩ := bcell hbx; have hsx := hbx.size; (try simp at hsx); (try have hsy := Nat.lt_of_succ_le hsx); (try have hlx := Nat.lt_of_lt_of_le (by assumption) hsx)))
        all_goals
          go_wp2_with fail
          go_meet
          refine ⟨_, rfl, rfl, ?_, ?_, ?_⟩
          · go_simp
          · go_simp
          · first | exact st_alloc (Hid.out (by assumption)) _ | exact st_set (st_set (Hid.out (by assumption)) (by dsimp only; omega) _) (by dsimp only; omega) _
      obtain ⟨g8, rfl, rfl, hg0, hg1, hb⟩ := hcut
      obtain ⟨w8, hW⟩ := name_world wc
      rw [← hW] at hg0 hg1 hb ⊢
      clear hW
      have B8 := hide (st_trans B7.out hb)
      have k67 : w8.cell? ⟨w1.heap.size, 0, none⟩ = some (.int .i64 (an)) := keepc hb (by assumption)
      have k68 : w8.cell? ⟨w1.heap.size, 1, none⟩ = some (.int .i64 (ad)) := keepc hb (by assumption)
      have k69 : w1.heap.size < w8.heap.size := by have hq := hb.size; omega
      have k70 : w8.cell? ⟨w1.heap.size + 1, 0, none⟩ = some (.int .i64 (bn)) := keepc hb (by assumption)
      have k71 : w8.cell? ⟨w1.heap.size + 1, 1, none⟩ = some (.int .i64 (bd)) := keepc hb (by assumption)
      have k72 : w1.heap.size + 1 < w8.heap.size := by have hq := hb.size; omega
      have k73 : w8.cell? ⟨w3.heap.size, 0, none⟩ = some (.int .i64 (1)) := keepc hb (by assumption)
      have k74 : w8.cell? ⟨w3.heap.size, 1, none⟩ = some (.int .i64 (4)) := keepc hb (by assumption)
      have k75 : w3.heap.size < w8.heap.size := by have hq := hb.size; omega
      have k76 : w8.cell? ⟨w4.heap.size, 0, none⟩ = some (.int .i64 (xn)) := keepc hb (by assumption)
      have k77 : w8.cell? ⟨w4.heap.size, 1, none⟩ = some (.int .i64 (xd)) := keepc hb (by assumption)
      have k78 : w4.heap.size < w8.heap.size := by have hq := hb.size; omega
      have k79 : w8.cell? ⟨w5.heap.size, 0, none⟩ = some (.int .i64 (yn)) := keepc hb (by assumption)
      have k80 : w8.cell? ⟨w5.heap.size, 1, none⟩ = some (.int .i64 (yd)) := keepc hb (by assumption)
      have k81 : w5.heap.size < w8.heap.size := by have hq := hb.size; omega
      have k82 : w8.cell? ⟨w6.heap.size, 0, none⟩ = some (.int .i64 (zn)) := keepc hb (by assumption)
      have k83 : w8.cell? ⟨w6.heap.size, 1, none⟩ = some (.int .i64 (zd)) := keepc hb (by assumption)
      have k84 : w6.heap.size < w8.heap.size := by have hq := hb.size; omega
      have hgz : g8 < w8.heap.size := World.block_lt_of_cell? _ _ hg0
      clear hb k49 k50 k51 k52 k53 k54 k55 k56 k57 k58 k59 k60 k61 k62 k63 k64 k65 k66
      have kg8 := hg0
      have kh8 := hg1
      have kz8 := hgz
      clear hg0 hg1 hgz
      go_wp2
      go_ret
      exact ⟨rfl, B8.out⟩
    · have E2 := hide (HL2.out ht hu)
      have PX := hide (And.intro hp X1.out)
      have PY := hide (And.intro hs Y1.out)
      have PZ := hide (And.intro ht Z1.out)
      have PV := hide (And.intro hu V1.out)
      clear hp hs ht hu
      go_wp2_with fail
      refine (add_as_impl PX.out iX.out _).mono ?_
      rintro e w4 ⟨rfl, hb⟩
      have B4 := hide (st_trans (st_alloc B3.out (.cells #[.int .i64 (1), .int .i64 (4)] 24)) hb)
      have k13 : w4.cell? ⟨w1.heap.size, 0, none⟩ = some (.int .i64 (an)) := keepc hb (by go_simp)
      have k14 : w4.cell? ⟨w1.heap.size, 1, none⟩ = some (.int .i64 (ad)) := keepc hb (by go_simp)
      have k15 : w1.heap.size < w4.heap.size := by have hq := hb.size; (try simp at hq); omega
      have k16 : w4.cell? ⟨w1.heap.size + 1, 0, none⟩ = some (.int .i64 (bn)) := keepc hb (by go_simp)
      have k17 : w4.cell? ⟨w1.heap.size + 1, 1, none⟩ = some (.int .i64 (bd)) := keepc hb (by go_simp)
      have k18 : w1.heap.size + 1 < w4.heap.size := by have hq := hb.size; (try simp at hq); omega
      have k19 : w4.cell? ⟨w3.heap.size, 0, none⟩ = some (.int .i64 (1)) := keepc hb (by go_simp)
      have k20 : w4.cell? ⟨w3.heap.size, 1, none⟩ = some (.int .i64 (4)) := keepc hb (by go_simp)
      have k21 : w3.heap.size < w4.heap.size := by have hq := hb.size; (try simp at hq); omega
      clear hb k7 k8 k9 k10 k11 k12
      go_wp2_with fail
      refine (add_as_impl PY.out iY.out _).mono ?_
      rintro e w5 ⟨rfl, hb⟩
      have B5 := hide (st_trans (st_alloc B4.out (.cells #[.int .i64 (xn), .int .i64 (xd)] 24)) hb)
      have k22 : w5.cell? ⟨w1.heap.size, 0, none⟩ = some (.int .i64 (an)) := keepc hb (by go_simp)
      have k23 : w5.cell? ⟨w1.heap.size, 1, none⟩ = some (.int .i64 (ad)) := keepc hb (by go_simp)
      have k24 : w1.heap.size < w5.heap.size := by have hq := hb.size; (try simp at hq); omega
      have k25 : w5.cell? ⟨w1.heap.size + 1, 0, none⟩ = some (.int .i64 (bn)) := keepc hb (by go_simp)
      have k26 : w5.cell? ⟨w1.heap.size + 1, 1, none⟩ = some (.int .i64 (bd)) := keepc hb (by go_simp)
      have k27 : w1.heap.size + 1 < w5.heap.size := by have hq := hb.size; (try simp at hq); omega
      have k28 : w5.cell? ⟨w3.heap.size, 0, none⟩ = some (.int .i64 (1)) := keepc hb (by go_simp)
      have k29 : w5.cell? ⟨w3.heap.size, 1, none⟩ = some (.int .i64 (4)) := keepc hb (by go_simp)
      have k30 : w3.heap.size < w5.heap.size := by have hq := hb.size; (try simp at hq); omega
      have k31 : w5.cell? ⟨w4.heap.size, 0, none⟩ = some (.int .i64 (xn)) := keepc hb (by go_simp)
      have k32 : w5.cell? ⟨w4.heap.size, 1, none⟩ = some (.int .i64 (xd)) := keepc hb (by go_simp)
      have k33 : w4.heap.size < w5.heap.size := by have hq := hb.size; (try simp at hq); omega
      clear hb k13 k14 k15 k16 k17 k18 k19 k20 k21
      go_wp2_with fail
      refine (add_as_impl PZ.out iZ.out _).mono ?_
      rintro e w6 ⟨rfl, hb⟩
      have B6 := hide (st_trans (st_alloc B5.out (.cells #[.int .i64 (yn), .int .i64 (yd)] 24)) hb)
      have k34 : w6.cell? ⟨w1.heap.size, 0, none⟩ = some (.int .i64 (an)) := keepc hb (by go_simp)
      have k35 : w6.cell? ⟨w1.heap.size, 1, none⟩ = some (.int .i64 (ad)) := keepc hb (by go_simp)
      have k36 : w1.heap.size < w6.heap.size := by have hq := hb.size; (try simp at hq); omega
      have k37 : w6.cell? ⟨w1.heap.size + 1, 0, none⟩ = some (.int .i64 (bn)) := keepc hb (by go_simp)
      have k38 : w6.cell? ⟨w1.heap.size + 1, 1, none⟩ = some (.int .i64 (bd)) := keepc hb (by go_simp)
      have k39 : w1.heap.size + 1 < w6.heap.size := by have hq := hb.size; (try simp at hq); omega
      have k40 : w6.cell? ⟨w3.heap.size, 0, none⟩ = some (.int .i64 (1)) := keepc hb (by go_simp)
      have k41 : w6.cell? ⟨w3.heap.size, 1, none⟩ = some (.int .i64 (4)) := keepc hb (by go_simp)
      have k42 : w3.heap.size < w6.heap.size := by have hq := hb.size; (try simp at hq); omega
      have k43 : w6.cell? ⟨w4.heap.size, 0, none⟩ = some (.int .i64 (xn)) := keepc hb (by go_simp)
      have k44 : w6.cell? ⟨w4.heap.size, 1, none⟩ = some (.int .i64 (xd)) := keepc hb (by go_simp)
      have k45 : w4.heap.size < w6.heap.size := by have hq := hb.size; (try simp at hq); omega
      have k46 : w6.cell? ⟨w5.heap.size, 0, none⟩ = some (.int .i64 (yn)) := keepc hb (by go_simp)
      have k47 : w6.cell? ⟨w5.heap.size, 1, none⟩ = some (.int .i64 (yd)) := keepc hb (by go_simp)
      have k48 : w5.heap.size < w6.heap.size := by have hq := hb.size; (try simp at hq); omega
      clear hb k22 k23 k24 k25 k26 k27 k28 k29 k30 k31 k32 k33
      go_upto_region 12 with fail
      have B7 := hide (st_alloc B6.out (.cells #[.int .i64 (zn), .int .i64 (zd)] 24))
      have k49 : (w6.alloc (.cells #[.int .i64 (zn), .int .i64 (zd)] 24)).cell? ⟨w1.heap.size, 0, none⟩ = some (.int .i64 (an)) := by go_simp
      have k50 : (w6.alloc (.cells #[.int .i64 (zn), .int .i64 (zd)] 24)).cell? ⟨w1.heap.size, 1, none⟩ = some (.int .i64 (ad)) := by go_simp
      have k51 : w1.heap.size < (w6.alloc (.cells #[.int .i64 (zn), .int .i64 (zd)] 24)).heap.size := by simp <;> omega
      have k52 : (w6.alloc (.cells #[.int .i64 (zn), .int .i64 (zd)] 24)).cell? ⟨w1.heap.size + 1, 0, none⟩ = some (.int .i64 (bn)) := by go_simp
      have k53 : (w6.alloc (.cells #[.int .i64 (zn), .int .i64 (zd)] 24)).cell? ⟨w1.heap.size + 1, 1, none⟩ = some (.int .i64 (bd)) := by go_simp
      have k54 : w1.heap.size + 1 < (w6.alloc (.cells #[.int .i64 (zn), .int .i64 (zd)] 24)).heap.size := by simp <;> omega
      have k55 : (w6.alloc (.cells #[.int .i64 (zn), .int .i64 (zd)] 24)).cell? ⟨w3.heap.size, 0, none⟩ = some (.int .i64 (1)) := by go_simp
      have k56 : (w6.alloc (.cells #[.int .i64 (zn), .int .i64 (zd)] 24)).cell? ⟨w3.heap.size, 1, none⟩ = some (.int .i64 (4)) := by go_simp
      have k57 : w3.heap.size < (w6.alloc (.cells #[.int .i64 (zn), .int .i64 (zd)] 24)).heap.size := by simp <;> omega
      have k58 : (w6.alloc (.cells #[.int .i64 (zn), .int .i64 (zd)] 24)).cell? ⟨w4.heap.size, 0, none⟩ = some (.int .i64 (xn)) := by go_simp
      have k59 : (w6.alloc (.cells #[.int .i64 (zn), .int .i64 (zd)] 24)).cell? ⟨w4.heap.size, 1, none⟩ = some (.int .i64 (xd)) := by go_simp
      have k60 : w4.heap.size < (w6.alloc (.cells #[.int .i64 (zn), .int .i64 (zd)] 24)).heap.size := by simp <;> omega
      have k61 : (w6.alloc (.cells #[.int .i64 (zn), .int .i64 (zd)] 24)).cell? ⟨w5.heap.size, 0, none⟩ = some (.int .i64 (yn)) := by go_simp
      have k62 : (w6.alloc (.cells #[.int .i64 (zn), .int .i64 (zd)] 24)).cell? ⟨w5.heap.size, 1, none⟩ = some (.int .i64 (yd)) := by go_simp
      have k63 : w5.heap.size < (w6.alloc (.cells #[.int .i64 (zn), .int .i64 (zd)] 24)).heap.size := by simp <;> omega
      have k64 : (w6.alloc (.cells #[.int .i64 (zn), .int .i64 (zd)] 24)).cell? ⟨w6.heap.size, 0, none⟩ = some (.int .i64 (zn)) := by go_simp
      have k65 : (w6.alloc (.cells #[.int .i64 (zn), .int .i64 (zd)] 24)).cell? ⟨w6.heap.size, 1, none⟩ = some (.int .i64 (zd)) := by go_simp
      have k66 : w6.heap.size < (w6.alloc (.cells #[.int .i64 (zn), .int .i64 (zd)] 24)).heap.size := by simp <;> omega
      obtain ⟨w7, hW⟩ := name_world (w6.alloc (.cells #[.int .i64 (zn), .int .i64 (zd)] 24))
      rw [← hW] at k49 k50 k51 k52 k53 k54 k55 k56 k57 k58 k59 k60 k61 k62 k63 k64 k65 k66 B7 ⊢
      clear hW k34 k35 k36 k37 k38 k39 k40 k41 k42 k43 k44 k45 k46 k47 k48
      go_cut [14, 15] (fun s t wx => Got w7 (vn) (vd) (true) s t wx)
      case first =>
        have HK0 := hide (st_refl w7)
        have HKd := hide (st_drew HK0.out)
        go_region_held3 (fun w' => w'.cell? ⟨w6.heap.size, 0, none⟩ = some (.int .i64 (zn)) ∧ w'.cell? ⟨w6.heap.size, 1, none⟩ = some (.int .i64 (zd))) (first | exact ⟨keepc (Hid.out (by assumption)) k64, keepc (Hid.out (by assumption)) k65⟩ | exact ⟨keepc (st_alloc (Hid.out (by assumption)) _) k64, keepc (st_alloc (Hid.out (by assumption)) _) k65⟩ | exact ⟨keepc (st_drew (st_alloc (Hid.out (by assumption)) _)) k64, keepc (st_drew (st_alloc (Hid.out (by assumption)) _)) k65⟩ | exact ⟨keepc (st_drew (Hid.out (by assumption))) k64, keepc (st_drew (Hid.out (by assumption))) k65⟩ | exact ⟨keepc (st_set (st_set (Hid.out (by assumption)) (by dsimp only; omega) _) (by dsimp only; omega) _) k64, keepc (st_set (st_set (Hid.out (by assumption)) (by dsimp only; omega) _) (by dsimp only; omega) _) k65⟩ | go_keep) (first | (go_at_call 29; refine (frac_law _ _).mono ?_; rintro e wx ⟨rfl, hbx⟩; have HK := hide (st_trans (a := w7) (by first | exact Hid.out (by assumption) | exact st_alloc (Hid.out (by assumption)) _ | exact st_drew (st_alloc (Hid.out (by assumption)) _)) hbx); have hnx := HK.out.size; obtain ⟨hcx, hfx⟩ := bcell hbx; have hsx := hbx.size; (try simp at hsx); (try have hsy := Nat.lt_of_succ_le hsx); (try have hlx := Nat.lt_of_lt_of_le (by assumption) hsx)) | (go_at_call 31; refine (div_as_impl PV.out iV.out _).mono ?_; rintro e wx ⟨rfl, hbx⟩; have HK := hide (st_trans (a := w7) (by first | exact Hid.out (by assumption) | exact st_alloc (Hid.out (by assumption)) _ | exact st_drew (st_alloc (Hid.out (by assumption)) _)) hbx); have hnx := HK.out.size; obtain ⟨hcx, hfx⟩ := bcell hbx; have hsx := hbx.size; (try simp at hsx); (try have hsy := Nat.lt_of_succ_le hsx); (try have hlx := Nat.lt_of_lt_of_le (by assumption) hsx)))
        all_goals
          go_wp2_with fail
          go_meet
          refine ⟨_, rfl, rfl, ?_, ?_, ?_⟩
          · go_simp
          · go_simp
          · first | exact st_alloc (Hid.out (by assumption)) _ | exact st_set (st_set (Hid.out (by assumption)) (by dsimp only; omega) _) (by dsimp only; omega) _
      obtain ⟨g8, rfl, rfl, hg0, hg1, hb⟩ := hcut
      obtain ⟨w8, hW⟩ := name_world wc
      rw [← hW] at hg0 hg1 hb ⊢
      clear hW
      have B8 := hide (st_trans B7.out hb)
      have k67 : w8.cell? ⟨w1.heap.size, 0, none⟩ = some (.int .i64 (an)) := keepc hb (by assumption)
      have k68 : w8.cell? ⟨w1.heap.size, 1, none⟩ = some (.int .i64 (ad)) := keepc hb (by assumption)
      have k69 : w1.heap.size < w8.heap.size := by have hq := hb.size; omega
      have k70 : w8.cell? ⟨w1.heap.size + 1, 0, none⟩ = some (.int .i64 (bn)) := keepc hb (by assumption)
      have k71 : w8.cell? ⟨w1.heap.size + 1, 1, none⟩ = some (.int .i64 (bd)) := keepc hb (by assumption)
      have k72 : w1.heap.size + 1 < w8.heap.size := by have hq := hb.size; omega
      have k73 : w8.cell? ⟨w3.heap.size, 0, none⟩ = some (.int .i64 (1)) := keepc hb (by assumption)
      have k74 : w8.cell? ⟨w3.heap.size, 1, none⟩ = some (.int .i64 (4)) := keepc hb (by assumption)
      have k75 : w3.heap.size < w8.heap.size := by have hq := hb.size; omega
      have k76 : w8.cell? ⟨w4.heap.size, 0, none⟩ = some (.int .i64 (xn)) := keepc hb (by assumption)
      have k77 : w8.cell? ⟨w4.heap.size, 1, none⟩ = some (.int .i64 (xd)) := keepc hb (by assumption)
      have k78 : w4.heap.size < w8.heap.size := by have hq := hb.size; omega
      have k79 : w8.cell? ⟨w5.heap.size, 0, none⟩ = some (.int .i64 (yn)) := keepc hb (by assumption)
      have k80 : w8.cell? ⟨w5.heap.size, 1, none⟩ = some (.int .i64 (yd)) := keepc hb (by assumption)
      have k81 : w5.heap.size < w8.heap.size := by have hq := hb.size; omega
      have k82 : w8.cell? ⟨w6.heap.size, 0, none⟩ = some (.int .i64 (zn)) := keepc hb (by assumption)
      have k83 : w8.cell? ⟨w6.heap.size, 1, none⟩ = some (.int .i64 (zd)) := keepc hb (by assumption)
      have k84 : w6.heap.size < w8.heap.size := by have hq := hb.size; omega
      have hgz : g8 < w8.heap.size := World.block_lt_of_cell? _ _ hg0
      clear hb k49 k50 k51 k52 k53 k54 k55 k56 k57 k58 k59 k60 k61 k62 k63 k64 k65 k66
      have kg8 := hg0
      have kh8 := hg1
      have kz8 := hgz
      clear hg0 hg1 hgz
      go_wp2_with fail
      refine (less_as E2.out.1 iAV.out _).mono ?_
      rintro e w9 ⟨rfl, hb⟩
      have B9 := hide (st_trans B8.out hb)
      have k86 : w9.cell? ⟨w1.heap.size, 0, none⟩ = some (.int .i64 (an)) := keepc hb (by go_simp)
      have k87 : w9.cell? ⟨w1.heap.size, 1, none⟩ = some (.int .i64 (ad)) := keepc hb (by go_simp)
      have k88 : w1.heap.size < w9.heap.size := by have hq := hb.size; (try simp at hq); omega
      have k89 : w9.cell? ⟨w1.heap.size + 1, 0, none⟩ = some (.int .i64 (bn)) := keepc hb (by go_simp)
      have k90 : w9.cell? ⟨w1.heap.size + 1, 1, none⟩ = some (.int .i64 (bd)) := keepc hb (by go_simp)
      have k91 : w1.heap.size + 1 < w9.heap.size := by have hq := hb.size; (try simp at hq); omega
      have k92 : w9.cell? ⟨w3.heap.size, 0, none⟩ = some (.int .i64 (1)) := keepc hb (by go_simp)
      have k93 : w9.cell? ⟨w3.heap.size, 1, none⟩ = some (.int .i64 (4)) := keepc hb (by go_simp)
      have k94 : w3.heap.size < w9.heap.size := by have hq := hb.size; (try simp at hq); omega
      have k95 : w9.cell? ⟨w4.heap.size, 0, none⟩ = some (.int .i64 (xn)) := keepc hb (by go_simp)
      have k96 : w9.cell? ⟨w4.heap.size, 1, none⟩ = some (.int .i64 (xd)) := keepc hb (by go_simp)
      have k97 : w4.heap.size < w9.heap.size := by have hq := hb.size; (try simp at hq); omega
      have k98 : w9.cell? ⟨w5.heap.size, 0, none⟩ = some (.int .i64 (yn)) := keepc hb (by go_simp)
      have k99 : w9.cell? ⟨w5.heap.size, 1, none⟩ = some (.int .i64 (yd)) := keepc hb (by go_simp)
      have k100 : w5.heap.size < w9.heap.size := by have hq := hb.size; (try simp at hq); omega
      have k101 : w9.cell? ⟨w6.heap.size, 0, none⟩ = some (.int .i64 (zn)) := keepc hb (by go_simp)
      have k102 : w9.cell? ⟨w6.heap.size, 1, none⟩ = some (.int .i64 (zd)) := keepc hb (by go_simp)
      have k103 : w6.heap.size < w9.heap.size := by have hq := hb.size; (try simp at hq); omega
      have k104 : w9.cell? ⟨g8, 0, none⟩ = some (.int .i64 (vn)) := keepc hb (by go_simp)
      have k105 : w9.cell? ⟨g8, 1, none⟩ = some (.int .i64 (vd)) := keepc hb (by go_simp)
      have k106 : g8 < w9.heap.size := by have hq := hb.size; (try simp at hq); omega
      clear hb k67 k68 k69 k70 k71 k72 k73 k74 k75 k76 k77 k78 k79 k80 k81 k82 k83 k84 kg8 kh8 kz8
      go_wp2_with fail
      refine (less_as E2.out.2 iVB.out _).mono ?_
      rintro e w10 ⟨rfl, hb⟩
      have B10 := hide (st_trans B9.out hb)
      have k107 : w10.cell? ⟨w1.heap.size, 0, none⟩ = some (.int .i64 (an)) := keepc hb (by go_simp)
      have k108 : w10.cell? ⟨w1.heap.size, 1, none⟩ = some (.int .i64 (ad)) := keepc hb (by go_simp)
      have k109 : w1.heap.size < w10.heap.size := by have hq := hb.size; (try simp at hq); omega
      have k110 : w10.cell? ⟨w1.heap.size + 1, 0, none⟩ = some (.int .i64 (bn)) := keepc hb (by go_simp)
      have k111 : w10.cell? ⟨w1.heap.size + 1, 1, none⟩ = some (.int .i64 (bd)) := keepc hb (by go_simp)
      have k112 : w1.heap.size + 1 < w10.heap.size := by have hq := hb.size; (try simp at hq); omega
      have k113 : w10.cell? ⟨w3.heap.size, 0, none⟩ = some (.int .i64 (1)) := keepc hb (by go_simp)
      have k114 : w10.cell? ⟨w3.heap.size, 1, none⟩ = some (.int .i64 (4)) := keepc hb (by go_simp)
      have k115 : w3.heap.size < w10.heap.size := by have hq := hb.size; (try simp at hq); omega
      have k116 : w10.cell? ⟨w4.heap.size, 0, none⟩ = some (.int .i64 (xn)) := keepc hb (by go_simp)
      have k117 : w10.cell? ⟨w4.heap.size, 1, none⟩ = some (.int .i64 (xd)) := keepc hb (by go_simp)
      have k118 : w4.heap.size < w10.heap.size := by have hq := hb.size; (try simp at hq); omega
      have k119 : w10.cell? ⟨w5.heap.size, 0, none⟩ = some (.int .i64 (yn)) := keepc hb (by go_simp)
      have k120 : w10.cell? ⟨w5.heap.size, 1, none⟩ = some (.int .i64 (yd)) := keepc hb (by go_simp)
      have k121 : w5.heap.size < w10.heap.size := by have hq := hb.size; (try simp at hq); omega
      have k122 : w10.cell? ⟨w6.heap.size, 0, none⟩ = some (.int .i64 (zn)) := keepc hb (by go_simp)
      have k123 : w10.cell? ⟨w6.heap.size, 1, none⟩ = some (.int .i64 (zd)) := keepc hb (by go_simp)
      have k124 : w6.heap.size < w10.heap.size := by have hq := hb.size; (try simp at hq); omega
      have k125 : w10.cell? ⟨g8, 0, none⟩ = some (.int .i64 (vn)) := keepc hb (by go_simp)
      have k126 : w10.cell? ⟨g8, 1, none⟩ = some (.int .i64 (vd)) := keepc hb (by go_simp)
      have k127 : g8 < w10.heap.size := by have hq := hb.size; (try simp at hq); omega
      clear hb k86 k87 k88 k89 k90 k91 k92 k93 k94 k95 k96 k97 k98 k99 k100 k101 k102 k103 k104 k105 k106
      go_wp2
      go_ret
      exact ⟨rfl, B10.out⟩
    · have PX := hide (And.intro hp X1.out)
      have PY := hide (And.intro hs Y1.out)
      have PZ := hide (And.intro ht Z1.out)
      have PV := hide (And.intro hu V1.out)
      clear hp hs ht hu
      go_wp2_with fail
      refine (add_as_impl PX.out iX.out _).mono ?_
      rintro e w4 ⟨rfl, hb⟩
      have B4 := hide (st_trans (st_alloc B3.out (.cells #[.int .i64 (1), .int .i64 (4)] 24)) hb)
      have k13 : w4.cell? ⟨w1.heap.size, 0, none⟩ = some (.int .i64 (an)) := keepc hb (by go_simp)
      have k14 : w4.cell? ⟨w1.heap.size, 1, none⟩ = some (.int .i64 (ad)) := keepc hb (by go_simp)
      have k15 : w1.heap.size < w4.heap.size := by have hq := hb.size; (try simp at hq); omega
      have k16 : w4.cell? ⟨w1.heap.size + 1, 0, none⟩ = some (.int .i64 (bn)) := keepc hb (by go_simp)
      have k17 : w4.cell? ⟨w1.heap.size + 1, 1, none⟩ = some (.int .i64 (bd)) := keepc hb (by go_simp)
      have k18 : w1.heap.size + 1 < w4.heap.size := by have hq := hb.size; (try simp at hq); omega
      have k19 : w4.cell? ⟨w3.heap.size, 0, none⟩ = some (.int .i64 (1)) := keepc hb (by go_simp)
      have k20 : w4.cell? ⟨w3.heap.size, 1, none⟩ = some (.int .i64 (4)) := keepc hb (by go_simp)
      have k21 : w3.heap.size < w4.heap.size := by have hq := hb.size; (try simp at hq); omega
      clear hb k7 k8 k9 k10 k11 k12
      go_wp2_with fail
      refine (add_as_impl PY.out iY.out _).mono ?_
      rintro e w5 ⟨rfl, hb⟩
      have B5 := hide (st_trans (st_alloc B4.out (.cells #[.int .i64 (xn), .int .i64 (xd)] 24)) hb)
      have k22 : w5.cell? ⟨w1.heap.size, 0, none⟩ = some (.int .i64 (an)) := keepc hb (by go_simp)
      have k23 : w5.cell? ⟨w1.heap.size, 1, none⟩ = some (.int .i64 (ad)) := keepc hb (by go_simp)
      have k24 : w1.heap.size < w5.heap.size := by have hq := hb.size; (try simp at hq); omega
      have k25 : w5.cell? ⟨w1.heap.size + 1, 0, none⟩ = some (.int .i64 (bn)) := keepc hb (by go_simp)
      have k26 : w5.cell? ⟨w1.heap.size + 1, 1, none⟩ = some (.int .i64 (bd)) := keepc hb (by go_simp)
      have k27 : w1.heap.size + 1 < w5.heap.size := by have hq := hb.size; (try simp at hq); omega
      have k28 : w5.cell? ⟨w3.heap.size, 0, none⟩ = some (.int .i64 (1)) := keepc hb (by go_simp)
      have k29 : w5.cell? ⟨w3.heap.size, 1, none⟩ = some (.int .i64 (4)) := keepc hb (by go_simp)
      have k30 : w3.heap.size < w5.heap.size := by have hq := hb.size; (try simp at hq); omega
      have k31 : w5.cell? ⟨w4.heap.size, 0, none⟩ = some (.int .i64 (xn)) := keepc hb (by go_simp)
      have k32 : w5.cell? ⟨w4.heap.size, 1, none⟩ = some (.int .i64 (xd)) := keepc hb (by go_simp)
      have k33 : w4.heap.size < w5.heap.size := by have hq := hb.size; (try simp at hq); omega
      clear hb k13 k14 k15 k16 k17 k18 k19 k20 k21
      go_wp2_with fail
      refine (add_as_impl PZ.out iZ.out _).mono ?_
      rintro e w6 ⟨rfl, hb⟩
      have B6 := hide (st_trans (st_alloc B5.out (.cells #[.int .i64 (yn), .int .i64 (yd)] 24)) hb)
      have k34 : w6.cell? ⟨w1.heap.size, 0, none⟩ = some (.int .i64 (an)) := keepc hb (by go_simp)
      have k35 : w6.cell? ⟨w1.heap.size, 1, none⟩ = some (.int .i64 (ad)) := keepc hb (by go_simp)
      have k36 : w1.heap.size < w6.heap.size := by have hq := hb.size; (try simp at hq); omega
      have k37 : w6.cell? ⟨w1.heap.size + 1, 0, none⟩ = some (.int .i64 (bn)) := keepc hb (by go_simp)
      have k38 : w6.cell? ⟨w1.heap.size + 1, 1, none⟩ = some (.int .i64 (bd)) := keepc hb (by go_simp)
      have k39 : w1.heap.size + 1 < w6.heap.size := by have hq := hb.size; (try simp at hq); omega
      have k40 : w6.cell? ⟨w3.heap.size, 0, none⟩ = some (.int .i64 (1)) := keepc hb (by go_simp)
      have k41 : w6.cell? ⟨w3.heap.size, 1, none⟩ = some (.int .i64 (4)) := keepc hb (by go_simp)
      have k42 : w3.heap.size < w6.heap.size := by have hq := hb.size; (try simp at hq); omega
      have k43 : w6.cell? ⟨w4.heap.size, 0, none⟩ = some (.int .i64 (xn)) := keepc hb (by go_simp)
      have k44 : w6.cell? ⟨w4.heap.size, 1, none⟩ = some (.int .i64 (xd)) := keepc hb (by go_simp)
      have k45 : w4.heap.size < w6.heap.size := by have hq := hb.size; (try simp at hq); omega
      have k46 : w6.cell? ⟨w5.heap.size, 0, none⟩ = some (.int .i64 (yn)) := keepc hb (by go_simp)
      have k47 : w6.cell? ⟨w5.heap.size, 1, none⟩ = some (.int .i64 (yd)) := keepc hb (by go_simp)
      have k48 : w5.heap.size < w6.heap.size := by have hq := hb.size; (try simp at hq); omega
      clear hb k22 k23 k24 k25 k26 k27 k28 k29 k30 k31 k32 k33
      go_upto_region 12 with fail
      have B7 := hide (st_alloc B6.out (.cells #[.int .i64 (zn), .int .i64 (zd)] 24))
      have k49 : (w6.alloc (.cells #[.int .i64 (zn), .int .i64 (zd)] 24)).cell? ⟨w1.heap.size, 0, none⟩ = some (.int .i64 (an)) := by go_simp
      have k50 : (w6.alloc (.cells #[.int .i64 (zn), .int .i64 (zd)] 24)).cell? ⟨w1.heap.size, 1, none⟩ = some (.int .i64 (ad)) := by go_simp
      have k51 : w1.heap.size < (w6.alloc (.cells #[.int .i64 (zn), .int .i64 (zd)] 24)).heap.size := by simp <;> omega
      have k52 : (w6.alloc (.cells #[.int .i64 (zn), .int .i64 (zd)] 24)).cell? ⟨w1.heap.size + 1, 0, none⟩ = some (.int .i64 (bn)) := by go_simp
      have k53 : (w6.alloc (.cells #[.int .i64 (zn), .int .i64 (zd)] 24)).cell? ⟨w1.heap.size + 1, 1, none⟩ = some (.int .i64 (bd)) := by go_simp
      have k54 : w1.heap.size + 1 < (w6.alloc (.cells #[.int .i64 (zn), .int .i64 (zd)] 24)).heap.size := by simp <;> omega
      have k55 : (w6.alloc (.cells #[.int .i64 (zn), .int .i64 (zd)] 24)).cell? ⟨w3.heap.size, 0, none⟩ = some (.int .i64 (1)) := by go_simp
      have k56 : (w6.alloc (.cells #[.int .i64 (zn), .int .i64 (zd)] 24)).cell? ⟨w3.heap.size, 1, none⟩ = some (.int .i64 (4)) := by go_simp
      have k57 : w3.heap.size < (w6.alloc (.cells #[.int .i64 (zn), .int .i64 (zd)] 24)).heap.size := by simp <;> omega
      have k58 : (w6.alloc (.cells #[.int .i64 (zn), .int .i64 (zd)] 24)).cell? ⟨w4.heap.size, 0, none⟩ = some (.int .i64 (xn)) := by go_simp
      have k59 : (w6.alloc (.cells #[.int .i64 (zn), .int .i64 (zd)] 24)).cell? ⟨w4.heap.size, 1, none⟩ = some (.int .i64 (xd)) := by go_simp
      have k60 : w4.heap.size < (w6.alloc (.cells #[.int .i64 (zn), .int .i64 (zd)] 24)).heap.size := by simp <;> omega
      have k61 : (w6.alloc (.cells #[.int .i64 (zn), .int .i64 (zd)] 24)).cell? ⟨w5.heap.size, 0, none⟩ = some (.int .i64 (yn)) := by go_simp
      have k62 : (w6.alloc (.cells #[.int .i64 (zn), .int .i64 (zd)] 24)).cell? ⟨w5.heap.size, 1, none⟩ = some (.int .i64 (yd)) := by go_simp
      have k63 : w5.heap.size < (w6.alloc (.cells #[.int .i64 (zn), .int .i64 (zd)] 24)).heap.size := by simp <;> omega
      have k64 : (w6.alloc (.cells #[.int .i64 (zn), .int .i64 (zd)] 24)).cell? ⟨w6.heap.size, 0, none⟩ = some (.int .i64 (zn)) := by go_simp
      have k65 : (w6.alloc (.cells #[.int .i64 (zn), .int .i64 (zd)] 24)).cell? ⟨w6.heap.size, 1, none⟩ = some (.int .i64 (zd)) := by go_simp
      have k66 : w6.heap.size < (w6.alloc (.cells #[.int .i64 (zn), .int .i64 (zd)] 24)).heap.size := by simp <;> omega
      obtain ⟨w7, hW⟩ := name_world (w6.alloc (.cells #[.int .i64 (zn), .int .i64 (zd)] 24))
      rw [← hW] at k49 k50 k51 k52 k53 k54 k55 k56 k57 k58 k59 k60 k61 k62 k63 k64 k65 k66 B7 ⊢
      clear hW k34 k35 k36 k37 k38 k39 k40 k41 k42 k43 k44 k45 k46 k47 k48
      go_cut [14, 15] (fun s t wx => Got w7 (vn) (vd) (false) s t wx)
      case first =>
        have HK0 := hide (st_refl w7)
        have HKd := hide (st_drew HK0.out)
        go_region_held3 (fun w' => w'.cell? ⟨w6.heap.size, 0, none⟩ = some (.int .i64 (zn)) ∧ w'.cell? ⟨w6.heap.size, 1, none⟩ = some (.int .i64 (zd))) (first | exact ⟨keepc (Hid.out (by assumption)) k64, keepc (Hid.out (by assumption)) k65⟩ | exact ⟨keepc (st_alloc (Hid.out (by assumption)) _) k64, keepc (st_alloc (Hid.out (by assumption)) _) k65⟩ | exact ⟨keepc (st_drew (st_alloc (Hid.out (by assumption)) _)) k64, keepc (st_drew (st_alloc (Hid.out (by assumption)) _)) k65⟩ | exact ⟨keepc (st_drew (Hid.out (by assumption))) k64, keepc (st_drew (Hid.out (by assumption))) k65⟩ | exact ⟨keepc (st_set (st_set (Hid.out (by assumption)) (by dsimp only; omega) _) (by dsimp only; omega) _) k64, keepc (st_set (st_set (Hid.out (by assumption)) (by dsimp only; omega) _) (by dsimp only; omega) _) k65⟩ | go_keep) (first | (go_at_call 29; refine (frac_law _ _).mono ?_; rintro e wx ⟨rfl, hbx⟩; have HK := hide (st_trans (a := w7) (by first | exact Hid.out (by assumption) | exact st_alloc (Hid.out (by assumption)) _ | exact st_drew (st_alloc (Hid.out (by assumption)) _)) hbx); have hnx := HK.out.size; obtain ⟨hcx, hfx⟩ := bcell hbx; have hsx := hbx.size; (try simp at hsx); (try have hsy := Nat.lt_of_succ_le hsx); (try have hlx := Nat.lt_of_lt_of_le (by assumption) hsx)) | (go_at_call 31; refine (div_as_impl PV.out iV.out _).mono ?_; rintro e wx ⟨rfl, hbx⟩; have HK := hide (st_trans (a := w7) (by first | exact Hid.out (by assumption) | exact st_alloc (Hid.out (by assumption)) _ | exact st_drew (st_alloc (Hid.out (by assumption)) _)) hbx); have hnx := HK.out.size; obtain ⟨hcx, hfx⟩ := bcell hbx; have hsx := hbx.size; (try simp at hsx); (try have hsy := Nat.lt_of_succ_le hsx); (try have hlx := Nat.lt_of_lt_of_le (by assumption) hsx)))
        all_goals
          go_wp2_with fail
          go_meet
          refine ⟨_, rfl, rfl, ?_, ?_, ?_⟩
          · go_simp
          · go_simp
          · first | exact st_alloc (Hid.out (by assumption)) _ | exact st_set (st_set (Hid.out (by assumption)) (by dsimp only; omega) _) (by dsimp only; omega) _
      obtain ⟨g8, rfl, rfl, hg0, hg1, hb⟩ := hcut
      obtain ⟨w8, hW⟩ := name_world wc
      rw [← hW] at hg0 hg1 hb ⊢
      clear hW
      have B8 := hide (st_trans B7.out hb)
      have k67 : w8.cell? ⟨w1.heap.size, 0, none⟩ = some (.int .i64 (an)) := keepc hb (by assumption)
      have k68 : w8.cell? ⟨w1.heap.size, 1, none⟩ = some (.int .i64 (ad)) := keepc hb (by assumption)
      have k69 : w1.heap.size < w8.heap.size := by have hq := hb.size; omega
      have k70 : w8.cell? ⟨w1.heap.size + 1, 0, none⟩ = some (.int .i64 (bn)) := keepc hb (by assumption)
      have k71 : w8.cell? ⟨w1.heap.size + 1, 1, none⟩ = some (.int .i64 (bd)) := keepc hb (by assumption)
      have k72 : w1.heap.size + 1 < w8.heap.size := by have hq := hb.size; omega
      have k73 : w8.cell? ⟨w3.heap.size, 0, none⟩ = some (.int .i64 (1)) := keepc hb (by assumption)
      have k74 : w8.cell? ⟨w3.heap.size, 1, none⟩ = some (.int .i64 (4)) := keepc hb (by assumption)
      have k75 : w3.heap.size < w8.heap.size := by have hq := hb.size; omega
      have k76 : w8.cell? ⟨w4.heap.size, 0, none⟩ = some (.int .i64 (xn)) := keepc hb (by assumption)
      have k77 : w8.cell? ⟨w4.heap.size, 1, none⟩ = some (.int .i64 (xd)) := keepc hb (by assumption)
      have k78 : w4.heap.size < w8.heap.size := by have hq := hb.size; omega
      have k79 : w8.cell? ⟨w5.heap.size, 0, none⟩ = some (.int .i64 (yn)) := keepc hb (by assumption)
      have k80 : w8.cell? ⟨w5.heap.size, 1, none⟩ = some (.int .i64 (yd)) := keepc hb (by assumption)
      have k81 : w5.heap.size < w8.heap.size := by have hq := hb.size; omega
      have k82 : w8.cell? ⟨w6.heap.size, 0, none⟩ = some (.int .i64 (zn)) := keepc hb (by assumption)
      have k83 : w8.cell? ⟨w6.heap.size, 1, none⟩ = some (.int .i64 (zd)) := keepc hb (by assumption)
      have k84 : w6.heap.size < w8.heap.size := by have hq := hb.size; omega
      have hgz : g8 < w8.heap.size := World.block_lt_of_cell? _ _ hg0
      clear hb k49 k50 k51 k52 k53 k54 k55 k56 k57 k58 k59 k60 k61 k62 k63 k64 k65 k66
      have kg8 := hg0
      have kh8 := hg1
      have kz8 := hgz
      clear hg0 hg1 hgz
      go_wp2
      go_ret
      exact ⟨rfl, B8.out⟩
    · have PX := hide (And.intro hp X1.out)
      have PY := hide (And.intro hs Y1.out)
      have PZ := hide (And.intro ht Z1.out)
      have PV := hide (And.intro hu V1.out)
      clear hp hs ht hu
      go_wp2_with fail
      refine (add_as_impl PX.out iX.out _).mono ?_
      rintro e w4 ⟨rfl, hb⟩
      have B4 := hide (st_trans (st_alloc B3.out (.cells #[.int .i64 (1), .int .i64 (4)] 24)) hb)
      have k13 : w4.cell? ⟨w1.heap.size, 0, none⟩ = some (.int .i64 (an)) := keepc hb (by go_simp)
      have k14 : w4.cell? ⟨w1.heap.size, 1, none⟩ = some (.int .i64 (ad)) := keepc hb (by go_simp)
      have k15 : w1.heap.size < w4.heap.size := by have hq := hb.size; (try simp at hq); omega
      have k16 : w4.cell? ⟨w1.heap.size + 1, 0, none⟩ = some (.int .i64 (bn)) := keepc hb (by go_simp)
      have k17 : w4.cell? ⟨w1.heap.size + 1, 1, none⟩ = some (.int .i64 (bd)) := keepc hb (by go_simp)
      have k18 : w1.heap.size + 1 < w4.heap.size := by have hq := hb.size; (try simp at hq); omega
      have k19 : w4.cell? ⟨w3.heap.size, 0, none⟩ = some (.int .i64 (1)) := keepc hb (by go_simp)
      have k20 : w4.cell? ⟨w3.heap.size, 1, none⟩ = some (.int .i64 (4)) := keepc hb (by go_simp)
      have k21 : w3.heap.size < w4.heap.size := by have hq := hb.size; (try simp at hq); omega
      clear hb k7 k8 k9 k10 k11 k12
      go_wp2_with fail
      refine (add_as_impl PY.out iY.out _).mono ?_
      rintro e w5 ⟨rfl, hb⟩
      have B5 := hide (st_trans (st_alloc B4.out (.cells #[.int .i64 (xn), .int .i64 (xd)] 24)) hb)
      have k22 : w5.cell? ⟨w1.heap.size, 0, none⟩ = some (.int .i64 (an)) := keepc hb (by go_simp)
      have k23 : w5.cell? ⟨w1.heap.size, 1, none⟩ = some (.int .i64 (ad)) := keepc hb (by go_simp)
      have k24 : w1.heap.size < w5.heap.size := by have hq := hb.size; (try simp at hq); omega
      have k25 : w5.cell? ⟨w1.heap.size + 1, 0, none⟩ = some (.int .i64 (bn)) := keepc hb (by go_simp)
      have k26 : w5.cell? ⟨w1.heap.size + 1, 1, none⟩ = some (.int .i64 (bd)) := keepc hb (by go_simp)
      have k27 : w1.heap.size + 1 < w5.heap.size := by have hq := hb.size; (try simp at hq); omega
      have k28 : w5.cell? ⟨w3.heap.size, 0, none⟩ = some (.int .i64 (1)) := keepc hb (by go_simp)
      have k29 : w5.cell? ⟨w3.heap.size, 1, none⟩ = some (.int .i64 (4)) := keepc hb (by go_simp)
      have k30 : w3.heap.size < w5.heap.size := by have hq := hb.size; (try simp at hq); omega
      have k31 : w5.cell? ⟨w4.heap.size, 0, none⟩ = some (.int .i64 (xn)) := keepc hb (by go_simp)
      have k32 : w5.cell? ⟨w4.heap.size, 1, none⟩ = some (.int .i64 (xd)) := keepc hb (by go_simp)
      have k33 : w4.heap.size < w5.heap.size := by have hq := hb.size; (try simp at hq); omega
      clear hb k13 k14 k15 k16 k17 k18 k19 k20 k21
      go_wp2_with fail
      refine (add_as_impl PZ.out iZ.out _).mono ?_
      rintro e w6 ⟨rfl, hb⟩
      have B6 := hide (st_trans (st_alloc B5.out (.cells #[.int .i64 (yn), .int .i64 (yd)] 24)) hb)
      have k34 : w6.cell? ⟨w1.heap.size, 0, none⟩ = some (.int .i64 (an)) := keepc hb (by go_simp)
      have k35 : w6.cell? ⟨w1.heap.size, 1, none⟩ = some (.int .i64 (ad)) := keepc hb (by go_simp)
      have k36 : w1.heap.size < w6.heap.size := by have hq := hb.size; (try simp at hq); omega
      have k37 : w6.cell? ⟨w1.heap.size + 1, 0, none⟩ = some (.int .i64 (bn)) := keepc hb (by go_simp)
      have k38 : w6.cell? ⟨w1.heap.size + 1, 1, none⟩ = some (.int .i64 (bd)) := keepc hb (by go_simp)
      have k39 : w1.heap.size + 1 < w6.heap.size := by have hq := hb.size; (try simp at hq); omega
      have k40 : w6.cell? ⟨w3.heap.size, 0, none⟩ = some (.int .i64 (1)) := keepc hb (by go_simp)
      have k41 : w6.cell? ⟨w3.heap.size, 1, none⟩ = some (.int .i64 (4)) := keepc hb (by go_simp)
      have k42 : w3.heap.size < w6.heap.size := by have hq := hb.size; (try simp at hq); omega
      have k43 : w6.cell? ⟨w4.heap.size, 0, none⟩ = some (.int .i64 (xn)) := keepc hb (by go_simp)
      have k44 : w6.cell? ⟨w4.heap.size, 1, none⟩ = some (.int .i64 (xd)) := keepc hb (by go_simp)
      have k45 : w4.heap.size < w6.heap.size := by have hq := hb.size; (try simp at hq); omega
      have k46 : w6.cell? ⟨w5.heap.size, 0, none⟩ = some (.int .i64 (yn)) := keepc hb (by go_simp)
      have k47 : w6.cell? ⟨w5.heap.size, 1, none⟩ = some (.int .i64 (yd)) := keepc hb (by go_simp)
      have k48 : w5.heap.size < w6.heap.size := by have hq := hb.size; (try simp at hq); omega
      clear hb k22 k23 k24 k25 k26 k27 k28 k29 k30 k31 k32 k33
      go_upto_region 12 with fail
      have B7 := hide (st_alloc B6.out (.cells #[.int .i64 (zn), .int .i64 (zd)] 24))
      have k49 : (w6.alloc (.cells #[.int .i64 (zn), .int .i64 (zd)] 24)).cell? ⟨w1.heap.size, 0, none⟩ = some (.int .i64 (an)) := by go_simp
      have k50 : (w6.alloc (.cells #[.int .i64 (zn), .int .i64 (zd)] 24)).cell? ⟨w1.heap.size, 1, none⟩ = some (.int .i64 (ad)) := by go_simp
      have k51 : w1.heap.size < (w6.alloc (.cells #[.int .i64 (zn), .int .i64 (zd)] 24)).heap.size := by simp <;> omega
      have k52 : (w6.alloc (.cells #[.int .i64 (zn), .int .i64 (zd)] 24)).cell? ⟨w1.heap.size + 1, 0, none⟩ = some (.int .i64 (bn)) := by go_simp
      have k53 : (w6.alloc (.cells #[.int .i64 (zn), .int .i64 (zd)] 24)).cell? ⟨w1.heap.size + 1, 1, none⟩ = some (.int .i64 (bd)) := by go_simp
      have k54 : w1.heap.size + 1 < (w6.alloc (.cells #[.int .i64 (zn), .int .i64 (zd)] 24)).heap.size := by simp <;> omega
      have k55 : (w6.alloc (.cells #[.int .i64 (zn), .int .i64 (zd)] 24)).cell? ⟨w3.heap.size, 0, none⟩ = some (.int .i64 (1)) := by go_simp
      have k56 : (w6.alloc (.cells #[.int .i64 (zn), .int .i64 (zd)] 24)).cell? ⟨w3.heap.size, 1, none⟩ = some (.int .i64 (4)) := by go_simp
      have k57 : w3.heap.size < (w6.alloc (.cells #[.int .i64 (zn), .int .i64 (zd)] 24)).heap.size := by simp <;> omega
      have k58 : (w6.alloc (.cells #[.int .i64 (zn), .int .i64 (zd)] 24)).cell? ⟨w4.heap.size, 0, none⟩ = some (.int .i64 (xn)) := by go_simp
      have k59 : (w6.alloc (.cells #[.int .i64 (zn), .int .i64 (zd)] 24)).cell? ⟨w4.heap.size, 1, none⟩ = some (.int .i64 (xd)) := by go_simp
      have k60 : w4.heap.size < (w6.alloc (.cells #[.int .i64 (zn), .int .i64 (zd)] 24)).heap.size := by simp <;> omega
      have k61 : (w6.alloc (.cells #[.int .i64 (zn), .int .i64 (zd)] 24)).cell? ⟨w5.heap.size, 0, none⟩ = some (.int .i64 (yn)) := by go_simp
      have k62 : (w6.alloc (.cells #[.int .i64 (zn), .int .i64 (zd)] 24)).cell? ⟨w5.heap.size, 1, none⟩ = some (.int .i64 (yd)) := by go_simp
      have k63 : w5.heap.size < (w6.alloc (.cells #[.int .i64 (zn), .int .i64 (zd)] 24)).heap.size := by simp <;> omega
      have k64 : (w6.alloc (.cells #[.int .i64 (zn), .int .i64 (zd)] 24)).cell? ⟨w6.heap.size, 0, none⟩ = some (.int .i64 (zn)) := by go_simp
      have k65 : (w6.alloc (.cells #[.int .i64 (zn), .int .i64 (zd)] 24)).cell? ⟨w6.heap.size, 1, none⟩ = some (.int .i64 (zd)) := by go_simp
      have k66 : w6.heap.size < (w6.alloc (.cells #[.int .i64 (zn), .int .i64 (zd)] 24)).heap.size := by simp <;> omega
      obtain ⟨w7, hW⟩ := name_world (w6.alloc (.cells #[.int .i64 (zn), .int .i64 (zd)] 24))
      rw [← hW] at k49 k50 k51 k52 k53 k54 k55 k56 k57 k58 k59 k60 k61 k62 k63 k64 k65 k66 B7 ⊢
      clear hW k34 k35 k36 k37 k38 k39 k40 k41 k42 k43 k44 k45 k46 k47 k48
      go_cut [14, 15] (fun s t wx => Got w7 (vn) (vd) (true) s t wx)
      case first =>
        have HK0 := hide (st_refl w7)
        have HKd := hide (st_drew HK0.out)
        go_region_held3 (fun w' => w'.cell? ⟨w6.heap.size, 0, none⟩ = some (.int .i64 (zn)) ∧ w'.cell? ⟨w6.heap.size, 1, none⟩ = some (.int .i64 (zd))) (first | exact ⟨keepc (Hid.out (by assumption)) k64, keepc (Hid.out (by assumption)) k65⟩ | exact ⟨keepc (st_alloc (Hid.out (by assumption)) _) k64, keepc (st_alloc (Hid.out (by assumption)) _) k65⟩ | exact ⟨keepc (st_drew (st_alloc (Hid.out (by assumption)) _)) k64, keepc (st_drew (st_alloc (Hid.out (by assumption)) _)) k65⟩ | exact ⟨keepc (st_drew (Hid.out (by assumption))) k64, keepc (st_drew (Hid.out (by assumption))) k65⟩ | exact ⟨keepc (st_set (st_set (Hid.out (by assumption)) (by dsimp only; omega) _) (by dsimp only; omega) _) k64, keepc (st_set (st_set (Hid.out (by assumption)) (by dsimp only; omega) _) (by dsimp only; omega) _) k65⟩ | go_keep) (first | (go_at_call 29; refine (frac_law _ _).mono ?_; rintro e wx ⟨rfl, hbx⟩; have HK := hide (st_trans (a := w7) (by first | exact Hid.out (by assumption) | exact st_alloc (Hid.out (by assumption)) _ | exact st_drew (st_alloc (Hid.out (by assumption)) _)) hbx); have hnx := HK.out.size; obtain ⟨hcx, hfx⟩ := bcell hbx; have hsx := hbx.size; (try simp at hsx); (try have hsy := Nat.lt_of_succ_le hsx); (try have hlx := Nat.lt_of_lt_of_le (by assumption) hsx)) | (go_at_call 31; refine (div_as_impl PV.out iV.out _).mono ?_; rintro e wx ⟨rfl, hbx⟩; have HK := hide (st_trans (a := w7) (by first | exact Hid.out (by assumption) | exact st_alloc (Hid.out (by assumption)) _ | exact st_drew (st_alloc (Hid.out (by assumption)) _)) hbx); have hnx := HK.out.size; obtain ⟨hcx, hfx⟩ := bcell hbx; have hsx := hbx.size; (try simp at hsx); (try have hsy := Nat.lt_of_succ_le hsx); (try have hlx := Nat.lt_of_lt_of_le (by assumption) hsx)))
        all_goals
          go_wp2_with fail
          go_meet
          refine ⟨_, rfl, rfl, ?_, ?_, ?_⟩
          · go_simp
          · go_simp
          · first | exact st_alloc (Hid.out (by assumption)) _ | exact st_set (st_set (Hid.out (by assumption)) (by dsimp only; omega) _) (by dsimp only; omega) _
      obtain ⟨g8, rfl, rfl, hg0, hg1, hb⟩ := hcut
      obtain ⟨w8, hW⟩ := name_world wc
      rw [← hW] at hg0 hg1 hb ⊢
      clear hW
      have B8 := hide (st_trans B7.out hb)
      have k67 : w8.cell? ⟨w1.heap.size, 0, none⟩ = some (.int .i64 (an)) := keepc hb (by assumption)
      have k68 : w8.cell? ⟨w1.heap.size, 1, none⟩ = some (.int .i64 (ad)) := keepc hb (by assumption)
      have k69 : w1.heap.size < w8.heap.size := by have hq := hb.size; omega
      have k70 : w8.cell? ⟨w1.heap.size + 1, 0, none⟩ = some (.int .i64 (bn)) := keepc hb (by assumption)
      have k71 : w8.cell? ⟨w1.heap.size + 1, 1, none⟩ = some (.int .i64 (bd)) := keepc hb (by assumption)
      have k72 : w1.heap.size + 1 < w8.heap.size := by have hq := hb.size; omega
      have k73 : w8.cell? ⟨w3.heap.size, 0, none⟩ = some (.int .i64 (1)) := keepc hb (by assumption)
      have k74 : w8.cell? ⟨w3.heap.size, 1, none⟩ = some (.int .i64 (4)) := keepc hb (by assumption)
      have k75 : w3.heap.size < w8.heap.size := by have hq := hb.size; omega
      have k76 : w8.cell? ⟨w4.heap.size, 0, none⟩ = some (.int .i64 (xn)) := keepc hb (by assumption)
      have k77 : w8.cell? ⟨w4.heap.size, 1, none⟩ = some (.int .i64 (xd)) := keepc hb (by assumption)
      have k78 : w4.heap.size < w8.heap.size := by have hq := hb.size; omega
      have k79 : w8.cell? ⟨w5.heap.size, 0, none⟩ = some (.int .i64 (yn)) := keepc hb (by assumption)
      have k80 : w8.cell? ⟨w5.heap.size, 1, none⟩ = some (.int .i64 (yd)) := keepc hb (by assumption)
      have k81 : w5.heap.size < w8.heap.size := by have hq := hb.size; omega
      have k82 : w8.cell? ⟨w6.heap.size, 0, none⟩ = some (.int .i64 (zn)) := keepc hb (by assumption)
      have k83 : w8.cell? ⟨w6.heap.size, 1, none⟩ = some (.int .i64 (zd)) := keepc hb (by assumption)
      have k84 : w6.heap.size < w8.heap.size := by have hq := hb.size; omega
      have hgz : g8 < w8.heap.size := World.block_lt_of_cell? _ _ hg0
      clear hb k49 k50 k51 k52 k53 k54 k55 k56 k57 k58 k59 k60 k61 k62 k63 k64 k65 k66
      have kg8 := hg0
      have kh8 := hg1
      have kz8 := hgz
      clear hg0 hg1 hgz
      go_wp2
      go_ret
      exact ⟨rfl, B8.out⟩
    · have PX := hide (And.intro hp X1.out)
      have PY := hide (And.intro hs Y1.out)
      have PZ := hide (And.intro ht Z1.out)
      have PV := hide (And.intro hu V1.out)
      clear hp hs ht hu
      go_wp2_with fail
      refine (add_as_impl PX.out iX.out _).mono ?_
      rintro e w4 ⟨rfl, hb⟩
      have B4 := hide (st_trans (st_alloc B3.out (.cells #[.int .i64 (1), .int .i64 (4)] 24)) hb)
      have k13 : w4.cell? ⟨w1.heap.size, 0, none⟩ = some (.int .i64 (an)) := keepc hb (by go_simp)
      have k14 : w4.cell? ⟨w1.heap.size, 1, none⟩ = some (.int .i64 (ad)) := keepc hb (by go_simp)
      have k15 : w1.heap.size < w4.heap.size := by have hq := hb.size; (try simp at hq); omega
      have k16 : w4.cell? ⟨w1.heap.size + 1, 0, none⟩ = some (.int .i64 (bn)) := keepc hb (by go_simp)
      have k17 : w4.cell? ⟨w1.heap.size + 1, 1, none⟩ = some (.int .i64 (bd)) := keepc hb (by go_simp)
      have k18 : w1.heap.size + 1 < w4.heap.size := by have hq := hb.size; (try simp at hq); omega
      have k19 : w4.cell? ⟨w3.heap.size, 0, none⟩ = some (.int .i64 (1)) := keepc hb (by go_simp)
      have k20 : w4.cell? ⟨w3.heap.size, 1, none⟩ = some (.int .i64 (4)) := keepc hb (by go_simp)
      have k21 : w3.heap.size < w4.heap.size := by have hq := hb.size; (try simp at hq); omega
      clear hb k7 k8 k9 k10 k11 k12
      go_wp2_with fail
      refine (add_as_impl PY.out iY.out _).mono ?_
      rintro e w5 ⟨rfl, hb⟩
      have B5 := hide (st_trans (st_alloc B4.out (.cells #[.int .i64 (xn), .int .i64 (xd)] 24)) hb)
      have k22 : w5.cell? ⟨w1.heap.size, 0, none⟩ = some (.int .i64 (an)) := keepc hb (by go_simp)
      have k23 : w5.cell? ⟨w1.heap.size, 1, none⟩ = some (.int .i64 (ad)) := keepc hb (by go_simp)
      have k24 : w1.heap.size < w5.heap.size := by have hq := hb.size; (try simp at hq); omega
      have k25 : w5.cell? ⟨w1.heap.size + 1, 0, none⟩ = some (.int .i64 (bn)) := keepc hb (by go_simp)
      have k26 : w5.cell? ⟨w1.heap.size + 1, 1, none⟩ = some (.int .i64 (bd)) := keepc hb (by go_simp)
      have k27 : w1.heap.size + 1 < w5.heap.size := by have hq := hb.size; (try simp at hq); omega
      have k28 : w5.cell? ⟨w3.heap.size, 0, none⟩ = some (.int .i64 (1)) := keepc hb (by go_simp)
      have k29 : w5.cell? ⟨w3.heap.size, 1, none⟩ = some (.int .i64 (4)) := keepc hb (by go_simp)
      have k30 : w3.heap.size < w5.heap.size := by have hq := hb.size; (try simp at hq); omega
      have k31 : w5.cell? ⟨w4.heap.size, 0, none⟩ = some (.int .i64 (xn)) := keepc hb (by go_simp)
      have k32 : w5.cell? ⟨w4.heap.size, 1, none⟩ = some (.int .i64 (xd)) := keepc hb (by go_simp)
      have k33 : w4.heap.size < w5.heap.size := by have hq := hb.size; (try simp at hq); omega
      clear hb k13 k14 k15 k16 k17 k18 k19 k20 k21
      go_wp2_with fail
      refine (add_as_impl PZ.out iZ.out _).mono ?_
      rintro e w6 ⟨rfl, hb⟩
      have B6 := hide (st_trans (st_alloc B5.out (.cells #[.int .i64 (yn), .int .i64 (yd)] 24)) hb)
      have k34 : w6.cell? ⟨w1.heap.size, 0, none⟩ = some (.int .i64 (an)) := keepc hb (by go_simp)
      have k35 : w6.cell? ⟨w1.heap.size, 1, none⟩ = some (.int .i64 (ad)) := keepc hb (by go_simp)
      have k36 : w1.heap.size < w6.heap.size := by have hq := hb.size; (try simp at hq); omega
      have k37 : w6.cell? ⟨w1.heap.size + 1, 0, none⟩ = some (.int .i64 (bn)) := keepc hb (by go_simp)
      have k38 : w6.cell? ⟨w1.heap.size + 1, 1, none⟩ = some (.int .i64 (bd)) := keepc hb (by go_simp)
      have k39 : w1.heap.size + 1 < w6.heap.size := by have hq := hb.size; (try simp at hq); omega
      have k40 : w6.cell? ⟨w3.heap.size, 0, none⟩ = some (.int .i64 (1)) := keepc hb (by go_simp)
      have k41 : w6.cell? ⟨w3.heap.size, 1, none⟩ = some (.int .i64 (4)) := keepc hb (by go_simp)
      have k42 : w3.heap.size < w6.heap.size := by have hq := hb.size; (try simp at hq); omega
      have k43 : w6.cell? ⟨w4.heap.size, 0, none⟩ = some (.int .i64 (xn)) := keepc hb (by go_simp)
      have k44 : w6.cell? ⟨w4.heap.size, 1, none⟩ = some (.int .i64 (xd)) := keepc hb (by go_simp)
      have k45 : w4.heap.size < w6.heap.size := by have hq := hb.size; (try simp at hq); omega
      have k46 : w6.cell? ⟨w5.heap.size, 0, none⟩ = some (.int .i64 (yn)) := keepc hb (by go_simp)
      have k47 : w6.cell? ⟨w5.heap.size, 1, none⟩ = some (.int .i64 (yd)) := keepc hb (by go_simp)
      have k48 : w5.heap.size < w6.heap.size := by have hq := hb.size; (try simp at hq); omega
      clear hb k22 k23 k24 k25 k26 k27 k28 k29 k30 k31 k32 k33
      go_upto_region 12 with fail
      have B7 := hide (st_alloc B6.out (.cells #[.int .i64 (zn), .int .i64 (zd)] 24))
      have k49 : (w6.alloc (.cells #[.int .i64 (zn), .int .i64 (zd)] 24)).cell? ⟨w1.heap.size, 0, none⟩ = some (.int .i64 (an)) := by go_simp
      have k50 : (w6.alloc (.cells #[.int .i64 (zn), .int .i64 (zd)] 24)).cell? ⟨w1.heap.size, 1, none⟩ = some (.int .i64 (ad)) := by go_simp
      have k51 : w1.heap.size < (w6.alloc (.cells #[.int .i64 (zn), .int .i64 (zd)] 24)).heap.size := by simp <;> omega
      have k52 : (w6.alloc (.cells #[.int .i64 (zn), .int .i64 (zd)] 24)).cell? ⟨w1.heap.size + 1, 0, none⟩ = some (.int .i64 (bn)) := by go_simp
      have k53 : (w6.alloc (.cells #[.int .i64 (zn), .int .i64 (zd)] 24)).cell? ⟨w1.heap.size + 1, 1, none⟩ = some (.int .i64 (bd)) := by go_simp
      have k54 : w1.heap.size + 1 < (w6.alloc (.cells #[.int .i64 (zn), .int .i64 (zd)] 24)).heap.size := by simp <;> omega
      have k55 : (w6.alloc (.cells #[.int .i64 (zn), .int .i64 (zd)] 24)).cell? ⟨w3.heap.size, 0, none⟩ = some (.int .i64 (1)) := by go_simp
      have k56 : (w6.alloc (.cells #[.int .i64 (zn), .int .i64 (zd)] 24)).cell? ⟨w3.heap.size, 1, none⟩ = some (.int .i64 (4)) := by go_simp
      have k57 : w3.heap.size < (w6.alloc (.cells #[.int .i64 (zn), .int .i64 (zd)] 24)).heap.size := by simp <;> omega
      have k58 : (w6.alloc (.cells #[.int .i64 (zn), .int .i64 (zd)] 24)).cell? ⟨w4.heap.size, 0, none⟩ = some (.int .i64 (xn)) := by go_simp
      have k59 : (w6.alloc (.cells #[.int .i64 (zn), .int .i64 (zd)] 24)).cell? ⟨w4.heap.size, 1, none⟩ = some (.int .i64 (xd)) := by go_simp
      have k60 : w4.heap.size < (w6.alloc (.cells #[.int .i64 (zn), .int .i64 (zd)] 24)).heap.size := by simp <;> omega
      have k61 : (w6.alloc (.cells #[.int .i64 (zn), .int .i64 (zd)] 24)).cell? ⟨w5.heap.size, 0, none⟩ = some (.int .i64 (yn)) := by go_simp
      have k62 : (w6.alloc (.cells #[.int .i64 (zn), .int .i64 (zd)] 24)).cell? ⟨w5.heap.size, 1, none⟩ = some (.int .i64 (yd)) := by go_simp
      have k63 : w5.heap.size < (w6.alloc (.cells #[.int .i64 (zn), .int .i64 (zd)] 24)).heap.size := by simp <;> omega
      have k64 : (w6.alloc (.cells #[.int .i64 (zn), .int .i64 (zd)] 24)).cell? ⟨w6.heap.size, 0, none⟩ = some (.int .i64 (zn)) := by go_simp
      have k65 : (w6.alloc (.cells #[.int .i64 (zn), .int .i64 (zd)] 24)).cell? ⟨w6.heap.size, 1, none⟩ = some (.int .i64 (zd)) := by go_simp
      have k66 : w6.heap.size < (w6.alloc (.cells #[.int .i64 (zn), .int .i64 (zd)] 24)).heap.size := by simp <;> omega
      obtain ⟨w7, hW⟩ := name_world (w6.alloc (.cells #[.int .i64 (zn), .int .i64 (zd)] 24))
      rw [← hW] at k49 k50 k51 k52 k53 k54 k55 k56 k57 k58 k59 k60 k61 k62 k63 k64 k65 k66 B7 ⊢
      clear hW k34 k35 k36 k37 k38 k39 k40 k41 k42 k43 k44 k45 k46 k47 k48
      go_cut [14, 15] (fun s t wx => Got w7 (vn) (vd) (false) s t wx)
      case first =>
        have HK0 := hide (st_refl w7)
        have HKd := hide (st_drew HK0.out)
        go_region_held3 (fun w' => w'.cell? ⟨w6.heap.size, 0, none⟩ = some (.int .i64 (zn)) ∧ w'.cell? ⟨w6.heap.size, 1, none⟩ = some (.int .i64 (zd))) (first | exact ⟨keepc (Hid.out (by assumption)) k64, keepc (Hid.out (by assumption)) k65⟩ | exact ⟨keepc (st_alloc (Hid.out (by assumption)) _) k64, keepc (st_alloc (Hid.out (by assumption)) _) k65⟩ | exact ⟨keepc (st_drew (st_alloc (Hid.out (by assumption)) _)) k64, keepc (st_drew (st_alloc (Hid.out (by assumption)) _)) k65⟩ | exact ⟨keepc (st_drew (Hid.out (by assumption))) k64, keepc (st_drew (Hid.out (by assumption))) k65⟩ | exact ⟨keepc (st_set (st_set (Hid.out (by assumption)) (by dsimp only; omega) _) (by dsimp only; omega) _) k64, keepc (st_set (st_set (Hid.out (by assumption)) (by dsimp only; omega) _) (by dsimp only; omega) _) k65⟩ | go_keep) (first | (go_at_call 29; refine (frac_law _ _).mono ?_; rintro e wx ⟨rfl, hbx⟩; have HK := hide (st_trans (a := w7) (by first | exact Hid.out (by assumption) | exact st_alloc (Hid.out (by assumption)) _ | exact st_drew (st_alloc (Hid.out (by assumption)) _)) hbx); have hnx := HK.out.size; obtain ⟨hcx, hfx⟩ := bcell hbx; have hsx := hbx.size; (try simp at hsx); (try have hsy := Nat.lt_of_succ_le hsx); (try have hlx := Nat.lt_of_lt_of_le (by assumption) hsx)) | (go_at_call 31; refine (div_as_impl PV.out iV.out _).mono ?_; rintro e wx ⟨rfl, hbx⟩; have HK := hide (st_trans (a := w7) (by first | exact Hid.out (by assumption) | exact st_alloc (Hid.out (by assumption)) _ | exact st_drew (st_alloc (Hid.out (by assumption)) _)) hbx); have hnx := HK.out.size; obtain ⟨hcx, hfx⟩ := bcell hbx; have hsx := hbx.size; (try simp at hsx); (try have hsy := Nat.lt_of_succ_le hsx); (try have hlx := Nat.lt_of_lt_of_le (by assumption) hsx)))
        all_goals
          go_wp2_with fail
          go_meet
          refine ⟨_, rfl, rfl, ?_, ?_, ?_⟩
          · go_simp
          · go_simp
          · first | exact st_alloc (Hid.out (by assumption)) _ | exact st_set (st_set (Hid.out (by assumption)) (by dsimp only; omega) _) (by dsimp only; omega) _
      obtain ⟨g8, rfl, rfl, hg0, hg1, hb⟩ := hcut
      obtain ⟨w8, hW⟩ := name_world wc
      rw [← hW] at hg0 hg1 hb ⊢
      clear hW
      have B8 := hide (st_trans B7.out hb)
      have k67 : w8.cell? ⟨w1.heap.size, 0, none⟩ = some (.int .i64 (an)) := keepc hb (by assumption)
      have k68 : w8.cell? ⟨w1.heap.size, 1, none⟩ = some (.int .i64 (ad)) := keepc hb (by assumption)
      have k69 : w1.heap.size < w8.heap.size := by have hq := hb.size; omega
      have k70 : w8.cell? ⟨w1.heap.size + 1, 0, none⟩ = some (.int .i64 (bn)) := keepc hb (by assumption)
      have k71 : w8.cell? ⟨w1.heap.size + 1, 1, none⟩ = some (.int .i64 (bd)) := keepc hb (by assumption)
      have k72 : w1.heap.size + 1 < w8.heap.size := by have hq := hb.size; omega
      have k73 : w8.cell? ⟨w3.heap.size, 0, none⟩ = some (.int .i64 (1)) := keepc hb (by assumption)
      have k74 : w8.cell? ⟨w3.heap.size, 1, none⟩ = some (.int .i64 (4)) := keepc hb (by assumption)
      have k75 : w3.heap.size < w8.heap.size := by have hq := hb.size; omega
      have k76 : w8.cell? ⟨w4.heap.size, 0, none⟩ = some (.int .i64 (xn)) := keepc hb (by assumption)
      have k77 : w8.cell? ⟨w4.heap.size, 1, none⟩ = some (.int .i64 (xd)) := keepc hb (by assumption)
      have k78 : w4.heap.size < w8.heap.size := by have hq := hb.size; omega
      have k79 : w8.cell? ⟨w5.heap.size, 0, none⟩ = some (.int .i64 (yn)) := keepc hb (by assumption)
      have k80 : w8.cell? ⟨w5.heap.size, 1, none⟩ = some (.int .i64 (yd)) := keepc hb (by assumption)
      have k81 : w5.heap.size < w8.heap.size := by have hq := hb.size; omega
      have k82 : w8.cell? ⟨w6.heap.size, 0, none⟩ = some (.int .i64 (zn)) := keepc hb (by assumption)
      have k83 : w8.cell? ⟨w6.heap.size, 1, none⟩ = some (.int .i64 (zd)) := keepc hb (by assumption)
      have k84 : w6.heap.size < w8.heap.size := by have hq := hb.size; omega
      have hgz : g8 < w8.heap.size := World.block_lt_of_cell? _ _ hg0
      clear hb k49 k50 k51 k52 k53 k54 k55 k56 k57 k58 k59 k60 k61 k62 k63 k64 k65 k66
      have kg8 := hg0
      have kh8 := hg1
      have kz8 := hgz
      clear hg0 hg1 hgz
      go_wp2
      go_ret
      exact ⟨rfl, B8.out⟩
    · have E2 := hide (HL2.out ht hu)
      have PX := hide (And.intro hp X1.out)
      have PY := hide (And.intro hs Y1.out)
      have PZ := hide (And.intro ht Z1.out)
      have PV := hide (And.intro hu V1.out)
      clear hp hs ht hu
      go_wp2_with fail
      refine (add_as_impl PX.out iX.out _).mono ?_
      rintro e w4 ⟨rfl, hb⟩
      have B4 := hide (st_trans (st_alloc B3.out (.cells #[.int .i64 (1), .int .i64 (4)] 24)) hb)
      have k13 : w4.cell? ⟨w1.heap.size, 0, none⟩ = some (.int .i64 (an)) := keepc hb (by go_simp)
      have k14 : w4.cell? ⟨w1.heap.size, 1, none⟩ = some (.int .i64 (ad)) := keepc hb (by go_simp)
      have k15 : w1.heap.size < w4.heap.size := by have hq := hb.size; (try simp at hq); omega
      have k16 : w4.cell? ⟨w1.heap.size + 1, 0, none⟩ = some (.int .i64 (bn)) := keepc hb (by go_simp)
      have k17 : w4.cell? ⟨w1.heap.size + 1, 1, none⟩ = some (.int .i64 (bd)) := keepc hb (by go_simp)
      have k18 : w1.heap.size + 1 < w4.heap.size := by have hq := hb.size; (try simp at hq); omega
      have k19 : w4.cell? ⟨w3.heap.size, 0, none⟩ = some (.int .i64 (1)) := keepc hb (by go_simp)
      have k20 : w4.cell? ⟨w3.heap.size, 1, none⟩ = some (.int .i64 (4)) := keepc hb (by go_simp)
      have k21 : w3.heap.size < w4.heap.size := by have hq := hb.size; (try simp at hq); omega
      clear hb k7 k8 k9 k10 k11 k12
      go_wp2_with fail
      refine (add_as_impl PY.out iY.out _).mono ?_
      rintro e w5 ⟨rfl, hb⟩
      have B5 := hide (st_trans (st_alloc B4.out (.cells #[.int .i64 (xn), .int .i64 (xd)] 24)) hb)
      have k22 : w5.cell? ⟨w1.heap.size, 0, none⟩ = some (.int .i64 (an)) := keepc hb (by go_simp)
      have k23 : w5.cell? ⟨w1.heap.size, 1, none⟩ = some (.int .i64 (ad)) := keepc hb (by go_simp)
      have k24 : w1.heap.size < w5.heap.size := by have hq := hb.size; (try simp at hq); omega
      have k25 : w5.cell? ⟨w1.heap.size + 1, 0, none⟩ = some (.int .i64 (bn)) := keepc hb (by go_simp)
      have k26 : w5.cell? ⟨w1.heap.size + 1, 1, none⟩ = some (.int .i64 (bd)) := keepc hb (by go_simp)
      have k27 : w1.heap.size + 1 < w5.heap.size := by have hq := hb.size; (try simp at hq); omega
      have k28 : w5.cell? ⟨w3.heap.size, 0, none⟩ = some (.int .i64 (1)) := keepc hb (by go_simp)
      have k29 : w5.cell? ⟨w3.heap.size, 1, none⟩ = some (.int .i64 (4)) := keepc hb (by go_simp)
      have k30 : w3.heap.size < w5.heap.size := by have hq := hb.size; (try simp at hq); omega
      have k31 : w5.cell? ⟨w4.heap.size, 0, none⟩ = some (.int .i64 (xn)) := keepc hb (by go_simp)
      have k32 : w5.cell? ⟨w4.heap.size, 1, none⟩ = some (.int .i64 (xd)) := keepc hb (by go_simp)
      have k33 : w4.heap.size < w5.heap.size := by have hq := hb.size; (try simp at hq); omega
      clear hb k13 k14 k15 k16 k17 k18 k19 k20 k21
      go_wp2_with fail
      refine (add_as_impl PZ.out iZ.out _).mono ?_
      rintro e w6 ⟨rfl, hb⟩
      have B6 := hide (st_trans (st_alloc B5.out (.cells #[.int .i64 (yn), .int .i64 (yd)] 24)) hb)
      have k34 : w6.cell? ⟨w1.heap.size, 0, none⟩ = some (.int .i64 (an)) := keepc hb (by go_simp)
      have k35 : w6.cell? ⟨w1.heap.size, 1, none⟩ = some (.int .i64 (ad)) := keepc hb (by go_simp)
      have k36 : w1.heap.size < w6.heap.size := by have hq := hb.size; (try simp at hq); omega
      have k37 : w6.cell? ⟨w1.heap.size + 1, 0, none⟩ = some (.int .i64 (bn)) := keepc hb (by go_simp)
      have k38 : w6.cell? ⟨w1.heap.size + 1, 1, none⟩ = some (.int .i64 (bd)) := keepc hb (by go_simp)
      have k39 : w1.heap.size + 1 < w6.heap.size := by have hq := hb.size; (try simp at hq); omega
      have k40 : w6.cell? ⟨w3.heap.size, 0, none⟩ = some (.int .i64 (1)) := keepc hb (by go_simp)
      have k41 : w6.cell? ⟨w3.heap.size, 1, none⟩ = some (.int .i64 (4)) := keepc hb (by go_simp)
      have k42 : w3.heap.size < w6.heap.size := by have hq := hb.size; (try simp at hq); omega
      have k43 : w6.cell? ⟨w4.heap.size, 0, none⟩ = some (.int .i64 (xn)) := keepc hb (by go_simp)
      have k44 : w6.cell? ⟨w4.heap.size, 1, none⟩ = some (.int .i64 (xd)) := keepc hb (by go_simp)
      have k45 : w4.heap.size < w6.heap.size := by have hq := hb.size; (try simp at hq); omega
      have k46 : w6.cell? ⟨w5.heap.size, 0, none⟩ = some (.int .i64 (yn)) := keepc hb (by go_simp)
      have k47 : w6.cell? ⟨w5.heap.size, 1, none⟩ = some (.int .i64 (yd)) := keepc hb (by go_simp)
      have k48 : w5.heap.size < w6.heap.size := by have hq := hb.size; (try simp at hq); omega
      clear hb k22 k23 k24 k25 k26 k27 k28 k29 k30 k31 k32 k33
      go_upto_region 12 with fail
      have B7 := hide (st_alloc B6.out (.cells #[.int .i64 (zn), .int .i64 (zd)] 24))
      have k49 : (w6.alloc (.cells #[.int .i64 (zn), .int .i64 (zd)] 24)).cell? ⟨w1.heap.size, 0, none⟩ = some (.int .i64 (an)) := by go_simp
      have k50 : (w6.alloc (.cells #[.int .i64 (zn), .int .i64 (zd)] 24)).cell? ⟨w1.heap.size, 1, none⟩ = some (.int .i64 (ad)) := by go_simp
      have k51 : w1.heap.size < (w6.alloc (.cells #[.int .i64 (zn), .int .i64 (zd)] 24)).heap.size := by simp <;> omega
      have k52 : (w6.alloc (.cells #[.int .i64 (zn), .int .i64 (zd)] 24)).cell? ⟨w1.heap.size + 1, 0, none⟩ = some (.int .i64 (bn)) := by go_simp
      have k53 : (w6.alloc (.cells #[.int .i64 (zn), .int .i64 (zd)] 24)).cell? ⟨w1.heap.size + 1, 1, none⟩ = some (.int .i64 (bd)) := by go_simp
      have k54 : w1.heap.size + 1 < (w6.alloc (.cells #[.int .i64 (zn), .int .i64 (zd)] 24)).heap.size := by simp <;> omega
      have k55 : (w6.alloc (.cells #[.int .i64 (zn), .int .i64 (zd)] 24)).cell? ⟨w3.heap.size, 0, none⟩ = some (.int .i64 (1)) := by go_simp
      have k56 : (w6.alloc (.cells #[.int .i64 (zn), .int .i64 (zd)] 24)).cell? ⟨w3.heap.size, 1, none⟩ = some (.int .i64 (4)) := by go_simp
      have k57 : w3.heap.size < (w6.alloc (.cells #[.int .i64 (zn), .int .i64 (zd)] 24)).heap.size := by simp <;> omega
      have k58 : (w6.alloc (.cells #[.int .i64 (zn), .int .i64 (zd)] 24)).cell? ⟨w4.heap.size, 0, none⟩ = some (.int .i64 (xn)) := by go_simp
      have k59 : (w6.alloc (.cells #[.int .i64 (zn), .int .i64 (zd)] 24)).cell? ⟨w4.heap.size, 1, none⟩ = some (.int .i64 (xd)) := by go_simp
      have k60 : w4.heap.size < (w6.alloc (.cells #[.int .i64 (zn), .int .i64 (zd)] 24)).heap.size := by simp <;> omega
      have k61 : (w6.alloc (.cells #[.int .i64 (zn), .int .i64 (zd)] 24)).cell? ⟨w5.heap.size, 0, none⟩ = some (.int .i64 (yn)) := by go_simp
      have k62 : (w6.alloc (.cells #[.int .i64 (zn), .int .i64 (zd)] 24)).cell? ⟨w5.heap.size, 1, none⟩ = some (.int .i64 (yd)) := by go_simp
      have k63 : w5.heap.size < (w6.alloc (.cells #[.int .i64 (zn), .int .i64 (zd)] 24)).heap.size := by simp <;> omega
      have k64 : (w6.alloc (.cells #[.int .i64 (zn), .int .i64 (zd)] 24)).cell? ⟨w6.heap.size, 0, none⟩ = some (.int .i64 (zn)) := by go_simp
      have k65 : (w6.alloc (.cells #[.int .i64 (zn), .int .i64 (zd)] 24)).cell? ⟨w6.heap.size, 1, none⟩ = some (.int .i64 (zd)) := by go_simp
      have k66 : w6.heap.size < (w6.alloc (.cells #[.int .i64 (zn), .int .i64 (zd)] 24)).heap.size := by simp <;> omega
      obtain ⟨w7, hW⟩ := name_world (w6.alloc (.cells #[.int .i64 (zn), .int .i64 (zd)] 24))
      rw [← hW] at k49 k50 k51 k52 k53 k54 k55 k56 k57 k58 k59 k60 k61 k62 k63 k64 k65 k66 B7 ⊢
      clear hW k34 k35 k36 k37 k38 k39 k40 k41 k42 k43 k44 k45 k46 k47 k48
      go_cut [14, 15] (fun s t wx => Got w7 (vn) (vd) (true) s t wx)
      case first =>
        have HK0 := hide (st_refl w7)
        have HKd := hide (st_drew HK0.out)
        go_region_held3 (fun w' => w'.cell? ⟨w6.heap.size, 0, none⟩ = some (.int .i64 (zn)) ∧ w'.cell? ⟨w6.heap.size, 1, none⟩ = some (.int .i64 (zd))) (first | exact ⟨keepc (Hid.out (by assumption)) k64, keepc (Hid.out (by assumption)) k65⟩ | exact ⟨keepc (st_alloc (Hid.out (by assumption)) _) k64, keepc (st_alloc (Hid.out (by assumption)) _) k65⟩ | exact ⟨keepc (st_drew (st_alloc (Hid.out (by assumption)) _)) k64, keepc (st_drew (st_alloc (Hid.out (by assumption)) _)) k65⟩ | exact ⟨keepc (st_drew (Hid.out (by assumption))) k64, keepc (st_drew (Hid.out (by assumption))) k65⟩ | exact ⟨keepc (st_set (st_set (Hid.out (by assumption)) (by dsimp only; omega) _) (by dsimp only; omega) _) k64, keepc (st_set (st_set (Hid.out (by assumption)) (by dsimp only; omega) _) (by dsimp only; omega) _) k65⟩ | go_keep) (first | (go_at_call 29; refine (frac_law _ _).mono ?_; rintro e wx ⟨rfl, hbx⟩; have HK := hide (st_trans (a := w7) (by first | exact Hid.out (by assumption) | exact st_alloc (Hid.out (by assumption)) _ | exact st_drew (st_alloc (Hid.out (by assumption)) _)) hbx); have hnx := HK.out.size; obtain ⟨hcx, hfx⟩ := bcell hbx; have hsx := hbx.size; (try simp at hsx); (try have hsy := Nat.lt_of_succ_le hsx); (try have hlx := Nat.lt_of_lt_of_le (by assumption) hsx)) | (go_at_call 31; refine (div_as_impl PV.out iV.out _).mono ?_; rintro e wx ⟨rfl, hbx⟩; have HK := hide (st_trans (a := w7) (by first | exact Hid.out (by assumption) | exact st_alloc (Hid.out (by assumption)) _ | exact st_drew (st_alloc (Hid.out (by assumption)) _)) hbx); have hnx := HK.out.size; obtain ⟨hcx, hfx⟩ := bcell hbx; have hsx := hbx.size; (try simp at hsx); (try have hsy := Nat.lt_of_succ_le hsx); (try have hlx := Nat.lt_of_lt_of_le (by assumption) hsx)))
        all_goals
          go_wp2_with fail
          go_meet
          refine ⟨_, rfl, rfl, ?_, ?_, ?_⟩
          · go_simp
          · go_simp
          · first | exact st_alloc (Hid.out (by assumption)) _ | exact st_set (st_set (Hid.out (by assumption)) (by dsimp only; omega) _) (by dsimp only; omega) _
      obtain ⟨g8, rfl, rfl, hg0, hg1, hb⟩ := hcut
      obtain ⟨w8, hW⟩ := name_world wc
      rw [← hW] at hg0 hg1 hb ⊢
      clear hW
      have B8 := hide (st_trans B7.out hb)
      have k67 : w8.cell? ⟨w1.heap.size, 0, none⟩ = some (.int .i64 (an)) := keepc hb (by assumption)
      have k68 : w8.cell? ⟨w1.heap.size, 1, none⟩ = some (.int .i64 (ad)) := keepc hb (by assumption)
      have k69 : w1.heap.size < w8.heap.size := by have hq := hb.size; omega
      have k70 : w8.cell? ⟨w1.heap.size + 1, 0, none⟩ = some (.int .i64 (bn)) := keepc hb (by assumption)
      have k71 : w8.cell? ⟨w1.heap.size + 1, 1, none⟩ = some (.int .i64 (bd)) := keepc hb (by assumption)
      have k72 : w1.heap.size + 1 < w8.heap.size := by have hq := hb.size; omega
      have k73 : w8.cell? ⟨w3.heap.size, 0, none⟩ = some (.int .i64 (1)) := keepc hb (by assumption)
      have k74 : w8.cell? ⟨w3.heap.size, 1, none⟩ = some (.int .i64 (4)) := keepc hb (by assumption)
      have k75 : w3.heap.size < w8.heap.size := by have hq := hb.size; omega
      have k76 : w8.cell? ⟨w4.heap.size, 0, none⟩ = some (.int .i64 (xn)) := keepc hb (by assumption)
      have k77 : w8.cell? ⟨w4.heap.size, 1, none⟩ = some (.int .i64 (xd)) := keepc hb (by assumption)
      have k78 : w4.heap.size < w8.heap.size := by have hq := hb.size; omega
      have k79 : w8.cell? ⟨w5.heap.size, 0, none⟩ = some (.int .i64 (yn)) := keepc hb (by assumption)
      have k80 : w8.cell? ⟨w5.heap.size, 1, none⟩ = some (.int .i64 (yd)) := keepc hb (by assumption)
      have k81 : w5.heap.size < w8.heap.size := by have hq := hb.size; omega
      have k82 : w8.cell? ⟨w6.heap.size, 0, none⟩ = some (.int .i64 (zn)) := keepc hb (by assumption)
      have k83 : w8.cell? ⟨w6.heap.size, 1, none⟩ = some (.int .i64 (zd)) := keepc hb (by assumption)
      have k84 : w6.heap.size < w8.heap.size := by have hq := hb.size; omega
      have hgz : g8 < w8.heap.size := World.block_lt_of_cell? _ _ hg0
      clear hb k49 k50 k51 k52 k53 k54 k55 k56 k57 k58 k59 k60 k61 k62 k63 k64 k65 k66
      have kg8 := hg0
      have kh8 := hg1
      have kz8 := hgz
      clear hg0 hg1 hgz
      go_wp2_with fail
      refine (less_as E2.out.1 iAV.out _).mono ?_
      rintro e w9 ⟨rfl, hb⟩
      have B9 := hide (st_trans B8.out hb)
      have k86 : w9.cell? ⟨w1.heap.size, 0, none⟩ = some (.int .i64 (an)) := keepc hb (by go_simp)
      have k87 : w9.cell? ⟨w1.heap.size, 1, none⟩ = some (.int .i64 (ad)) := keepc hb (by go_simp)
      have k88 : w1.heap.size < w9.heap.size := by have hq := hb.size; (try simp at hq); omega
      have k89 : w9.cell? ⟨w1.heap.size + 1, 0, none⟩ = some (.int .i64 (bn)) := keepc hb (by go_simp)
      have k90 : w9.cell? ⟨w1.heap.size + 1, 1, none⟩ = some (.int .i64 (bd)) := keepc hb (by go_simp)
      have k91 : w1.heap.size + 1 < w9.heap.size := by have hq := hb.size; (try simp at hq); omega
      have k92 : w9.cell? ⟨w3.heap.size, 0, none⟩ = some (.int .i64 (1)) := keepc hb (by go_simp)
      have k93 : w9.cell? ⟨w3.heap.size, 1, none⟩ = some (.int .i64 (4)) := keepc hb (by go_simp)
      have k94 : w3.heap.size < w9.heap.size := by have hq := hb.size; (try simp at hq); omega
      have k95 : w9.cell? ⟨w4.heap.size, 0, none⟩ = some (.int .i64 (xn)) := keepc hb (by go_simp)
      have k96 : w9.cell? ⟨w4.heap.size, 1, none⟩ = some (.int .i64 (xd)) := keepc hb (by go_simp)
      have k97 : w4.heap.size < w9.heap.size := by have hq := hb.size; (try simp at hq); omega
      have k98 : w9.cell? ⟨w5.heap.size, 0, none⟩ = some (.int .i64 (yn)) := keepc hb (by go_simp)
      have k99 : w9.cell? ⟨w5.heap.size, 1, none⟩ = some (.int .i64 (yd)) := keepc hb (by go_simp)
      have k100 : w5.heap.size < w9.heap.size := by have hq := hb.size; (try simp at hq); omega
      have k101 : w9.cell? ⟨w6.heap.size, 0, none⟩ = some (.int .i64 (zn)) := keepc hb (by go_simp)
      have k102 : w9.cell? ⟨w6.heap.size, 1, none⟩ = some (.int .i64 (zd)) := keepc hb (by go_simp)
      have k103 : w6.heap.size < w9.heap.size := by have hq := hb.size; (try simp at hq); omega
      have k104 : w9.cell? ⟨g8, 0, none⟩ = some (.int .i64 (vn)) := keepc hb (by go_simp)
      have k105 : w9.cell? ⟨g8, 1, none⟩ = some (.int .i64 (vd)) := keepc hb (by go_simp)
      have k106 : g8 < w9.heap.size := by have hq := hb.size; (try simp at hq); omega
      clear hb k67 k68 k69 k70 k71 k72 k73 k74 k75 k76 k77 k78 k79 k80 k81 k82 k83 k84 kg8 kh8 kz8
      go_wp2_with fail
      refine (less_as E2.out.2 iVB.out _).mono ?_
      rintro e w10 ⟨rfl, hb⟩
      have B10 := hide (st_trans B9.out hb)
      have k107 : w10.cell? ⟨w1.heap.size, 0, none⟩ = some (.int .i64 (an)) := keepc hb (by go_simp)
      have k108 : w10.cell? ⟨w1.heap.size, 1, none⟩ = some (.int .i64 (ad)) := keepc hb (by go_simp)
      have k109 : w1.heap.size < w10.heap.size := by have hq := hb.size; (try simp at hq); omega
      have k110 : w10.cell? ⟨w1.heap.size + 1, 0, none⟩ = some (.int .i64 (bn)) := keepc hb (by go_simp)
      have k111 : w10.cell? ⟨w1.heap.size + 1, 1, none⟩ = some (.int .i64 (bd)) := keepc hb (by go_simp)
      have k112 : w1.heap.size + 1 < w10.heap.size := by have hq := hb.size; (try simp at hq); omega
      have k113 : w10.cell? ⟨w3.heap.size, 0, none⟩ = some (.int .i64 (1)) := keepc hb (by go_simp)
      have k114 : w10.cell? ⟨w3.heap.size, 1, none⟩ = some (.int .i64 (4)) := keepc hb (by go_simp)
      have k115 : w3.heap.size < w10.heap.size := by have hq := hb.size; (try simp at hq); omega
      have k116 : w10.cell? ⟨w4.heap.size, 0, none⟩ = some (.int .i64 (xn)) := keepc hb (by go_simp)
      have k117 : w10.cell? ⟨w4.heap.size, 1, none⟩ = some (.int .i64 (xd)) := keepc hb (by go_simp)
      have k118 : w4.heap.size < w10.heap.size := by have hq := hb.size; (try simp at hq); omega
      have k119 : w10.cell? ⟨w5.heap.size, 0, none⟩ = some (.int .i64 (yn)) := keepc hb (by go_simp)
      have k120 : w10.cell? ⟨w5.heap.size, 1, none⟩ = some (.int .i64 (yd)) := keepc hb (by go_simp)
      have k121 : w5.heap.size < w10.heap.size := by have hq := hb.size; (try simp at hq); omega
      have k122 : w10.cell? ⟨w6.heap.size, 0, none⟩ = some (.int .i64 (zn)) := keepc hb (by go_simp)
      have k123 : w10.cell? ⟨w6.heap.size, 1, none⟩ = some (.int .i64 (zd)) := keepc hb (by go_simp)
      have k124 : w6.heap.size < w10.heap.size := by have hq := hb.size; (try simp at hq); omega
      have k125 : w10.cell? ⟨g8, 0, none⟩ = some (.int .i64 (vn)) := keepc hb (by go_simp)
      have k126 : w10.cell? ⟨g8, 1, none⟩ = some (.int .i64 (vd)) := keepc hb (by go_simp)
      have k127 : g8 < w10.heap.size := by have hq := hb.size; (try simp at hq); omega
      clear hb k86 k87 k88 k89 k90 k91 k92 k93 k94 k95 k96 k97 k98 k99 k100 k101 k102 k103 k104 k105 k106
      go_wp2
      go_ret
      exact ⟨rfl, B10.out⟩
    · have E1 := hide (HL1.out hp hs)
      have PX := hide (And.intro hp X1.out)
      have PY := hide (And.intro hs Y1.out)
      have PZ := hide (And.intro ht Z1.out)
      have PV := hide (And.intro hu V1.out)
      clear hp hs ht hu
      go_wp2_with fail
      refine (add_as_impl PX.out iX.out _).mono ?_
      rintro e w4 ⟨rfl, hb⟩
      have B4 := hide (st_trans (st_alloc B3.out (.cells #[.int .i64 (1), .int .i64 (4)] 24)) hb)
      have k13 : w4.cell? ⟨w1.heap.size, 0, none⟩ = some (.int .i64 (an)) := keepc hb (by go_simp)
      have k14 : w4.cell? ⟨w1.heap.size, 1, none⟩ = some (.int .i64 (ad)) := keepc hb (by go_simp)
      have k15 : w1.heap.size < w4.heap.size := by have hq := hb.size; (try simp at hq); omega
      have k16 : w4.cell? ⟨w1.heap.size + 1, 0, none⟩ = some (.int .i64 (bn)) := keepc hb (by go_simp)
      have k17 : w4.cell? ⟨w1.heap.size + 1, 1, none⟩ = some (.int .i64 (bd)) := keepc hb (by go_simp)
      have k18 : w1.heap.size + 1 < w4.heap.size := by have hq := hb.size; (try simp at hq); omega
      have k19 : w4.cell? ⟨w3.heap.size, 0, none⟩ = some (.int .i64 (1)) := keepc hb (by go_simp)
      have k20 : w4.cell? ⟨w3.heap.size, 1, none⟩ = some (.int .i64 (4)) := keepc hb (by go_simp)
      have k21 : w3.heap.size < w4.heap.size := by have hq := hb.size; (try simp at hq); omega
      clear hb k7 k8 k9 k10 k11 k12
      go_wp2_with fail
      refine (add_as_impl PY.out iY.out _).mono ?_
      rintro e w5 ⟨rfl, hb⟩
      have B5 := hide (st_trans (st_alloc B4.out (.cells #[.int .i64 (xn), .int .i64 (xd)] 24)) hb)
      have k22 : w5.cell? ⟨w1.heap.size, 0, none⟩ = some (.int .i64 (an)) := keepc hb (by go_simp)
      have k23 : w5.cell? ⟨w1.heap.size, 1, none⟩ = some (.int .i64 (ad)) := keepc hb (by go_simp)
      have k24 : w1.heap.size < w5.heap.size := by have hq := hb.size; (try simp at hq); omega
      have k25 : w5.cell? ⟨w1.heap.size + 1, 0, none⟩ = some (.int .i64 (bn)) := keepc hb (by go_simp)
      have k26 : w5.cell? ⟨w1.heap.size + 1, 1, none⟩ = some (.int .i64 (bd)) := keepc hb (by go_simp)
      have k27 : w1.heap.size + 1 < w5.heap.size := by have hq := hb.size; (try simp at hq); omega
      have k28 : w5.cell? ⟨w3.heap.size, 0, none⟩ = some (.int .i64 (1)) := keepc hb (by go_simp)
      have k29 : w5.cell? ⟨w3.heap.size, 1, none⟩ = some (.int .i64 (4)) := keepc hb (by go_simp)
      have k30 : w3.heap.size < w5.heap.size := by have hq := hb.size; (try simp at hq); omega
      have k31 : w5.cell? ⟨w4.heap.size, 0, none⟩ = some (.int .i64 (xn)) := keepc hb (by go_simp)
      have k32 : w5.cell? ⟨w4.heap.size, 1, none⟩ = some (.int .i64 (xd)) := keepc hb (by go_simp)
      have k33 : w4.heap.size < w5.heap.size := by have hq := hb.size; (try simp at hq); omega
      clear hb k13 k14 k15 k16 k17 k18 k19 k20 k21
      go_wp2_with fail
      refine (add_as_impl PZ.out iZ.out _).mono ?_
      rintro e w6 ⟨rfl, hb⟩
      have B6 := hide (st_trans (st_alloc B5.out (.cells #[.int .i64 (yn), .int .i64 (yd)] 24)) hb)
      have k34 : w6.cell? ⟨w1.heap.size, 0, none⟩ = some (.int .i64 (an)) := keepc hb (by go_simp)
      have k35 : w6.cell? ⟨w1.heap.size, 1, none⟩ = some (.int .i64 (ad)) := keepc hb (by go_simp)
      have k36 : w1.heap.size < w6.heap.size := by have hq := hb.size; (try simp at hq); omega
      have k37 : w6.cell? ⟨w1.heap.size + 1, 0, none⟩ = some (.int .i64 (bn)) := keepc hb (by go_simp)
      have k38 : w6.cell? ⟨w1.heap.size + 1, 1, none⟩ = some (.int .i64 (bd)) := keepc hb (by go_simp)
      have k39 : w1.heap.size + 1 < w6.heap.size := by have hq := hb.size; (try simp at hq); omega
      have k40 : w6.cell? ⟨w3.heap.size, 0, none⟩ = some (.int .i64 (1)) := keepc hb (by go_simp)
      have k41 : w6.cell? ⟨w3.heap.size, 1, none⟩ = some (.int .i64 (4)) := keepc hb (by go_simp)
      have k42 : w3.heap.size < w6.heap.size := by have hq := hb.size; (try simp at hq); omega
      have k43 : w6.cell? ⟨w4.heap.size, 0, none⟩ = some (.int .i64 (xn)) := keepc hb (by go_simp)
      have k44 : w6.cell? ⟨w4.heap.size, 1, none⟩ = some (.int .i64 (xd)) := keepc hb (by go_simp)
      have k45 : w4.heap.size < w6.heap.size := by have hq := hb.size; (try simp at hq); omega
      have k46 : w6.cell? ⟨w5.heap.size, 0, none⟩ = some (.int .i64 (yn)) := keepc hb (by go_simp)
      have k47 : w6.cell? ⟨w5.heap.size, 1, none⟩ = some (.int .i64 (yd)) := keepc hb (by go_simp)
      have k48 : w5.heap.size < w6.heap.size := by have hq := hb.size; (try simp at hq); omega
      clear hb k22 k23 k24 k25 k26 k27 k28 k29 k30 k31 k32 k33
      go_upto_region 12 with fail
      have B7 := hide (st_alloc B6.out (.cells #[.int .i64 (zn), .int .i64 (zd)] 24))
      have k49 : (w6.alloc (.cells #[.int .i64 (zn), .int .i64 (zd)] 24)).cell? ⟨w1.heap.size, 0, none⟩ = some (.int .i64 (an)) := by go_simp
      have k50 : (w6.alloc (.cells #[.int .i64 (zn), .int .i64 (zd)] 24)).cell? ⟨w1.heap.size, 1, none⟩ = some (.int .i64 (ad)) := by go_simp
      have k51 : w1.heap.size < (w6.alloc (.cells #[.int .i64 (zn), .int .i64 (zd)] 24)).heap.size := by simp <;> omega
      have k52 : (w6.alloc (.cells #[.int .i64 (zn), .int .i64 (zd)] 24)).cell? ⟨w1.heap.size + 1, 0, none⟩ = some (.int .i64 (bn)) := by go_simp
      have k53 : (w6.alloc (.cells #[.int .i64 (zn), .int .i64 (zd)] 24)).cell? ⟨w1.heap.size + 1, 1, none⟩ = some (.int .i64 (bd)) := by go_simp
      have k54 : w1.heap.size + 1 < (w6.alloc (.cells #[.int .i64 (zn), .int .i64 (zd)] 24)).heap.size := by simp <;> omega
      have k55 : (w6.alloc (.cells #[.int .i64 (zn), .int .i64 (zd)] 24)).cell? ⟨w3.heap.size, 0, none⟩ = some (.int .i64 (1)) := by go_simp
      have k56 : (w6.alloc (.cells #[.int .i64 (zn), .int .i64 (zd)] 24)).cell? ⟨w3.heap.size, 1, none⟩ = some (.int .i64 (4)) := by go_simp
      have k57 : w3.heap.size < (w6.alloc (.cells #[.int .i64 (zn), .int .i64 (zd)] 24)).heap.size := by simp <;> omega
      have k58 : (w6.alloc (.cells #[.int .i64 (zn), .int .i64 (zd)] 24)).cell? ⟨w4.heap.size, 0, none⟩ = some (.int .i64 (xn)) := by go_simp
      have k59 : (w6.alloc (.cells #[.int .i64 (zn), .int .i64 (zd)] 24)).cell? ⟨w4.heap.size, 1, none⟩ = some (.int .i64 (xd)) := by go_simp
      have k60 : w4.heap.size < (w6.alloc (.cells #[.int .i64 (zn), .int .i64 (zd)] 24)).heap.size := by simp <;> omega
      have k61 : (w6.alloc (.cells #[.int .i64 (zn), .int .i64 (zd)] 24)).cell? ⟨w5.heap.size, 0, none⟩ = some (.int .i64 (yn)) := by go_simp
      have k62 : (w6.alloc (.cells #[.int .i64 (zn), .int .i64 (zd)] 24)).cell? ⟨w5.heap.size, 1, none⟩ = some (.int .i64 (yd)) := by go_simp
      have k63 : w5.heap.size < (w6.alloc (.cells #[.int .i64 (zn), .int .i64 (zd)] 24)).heap.size := by simp <;> omega
      have k64 : (w6.alloc (.cells #[.int .i64 (zn), .int .i64 (zd)] 24)).cell? ⟨w6.heap.size, 0, none⟩ = some (.int .i64 (zn)) := by go_simp
      have k65 : (w6.alloc (.cells #[.int .i64 (zn), .int .i64 (zd)] 24)).cell? ⟨w6.heap.size, 1, none⟩ = some (.int .i64 (zd)) := by go_simp
      have k66 : w6.heap.size < (w6.alloc (.cells #[.int .i64 (zn), .int .i64 (zd)] 24)).heap.size := by simp <;> omega
      obtain ⟨w7, hW⟩ := name_world (w6.alloc (.cells #[.int .i64 (zn), .int .i64 (zd)] 24))
      rw [← hW] at k49 k50 k51 k52 k53 k54 k55 k56 k57 k58 k59 k60 k61 k62 k63 k64 k65 k66 B7 ⊢
      clear hW k34 k35 k36 k37 k38 k39 k40 k41 k42 k43 k44 k45 k46 k47 k48
      go_cut [14, 15] (fun s t wx => Got w7 (vn) (vd) (false) s t wx)
      case first =>
        have HK0 := hide (st_refl w7)
        have HKd := hide (st_drew HK0.out)
        go_region_held3 (fun w' => w'.cell? ⟨w6.heap.size, 0, none⟩ = some (.int .i64 (zn)) ∧ w'.cell? ⟨w6.heap.size, 1, none⟩ = some (.int .i64 (zd))) (first | exact ⟨keepc (Hid.out (by assumption)) k64, keepc (Hid.out (by assumption)) k65⟩ | exact ⟨keepc (st_alloc (Hid.out (by assumption)) _) k64, keepc (st_alloc (Hid.out (by assumption)) _) k65⟩ | exact ⟨keepc (st_drew (st_alloc (Hid.out (by assumption)) _)) k64, keepc (st_drew (st_alloc (Hid.out (by assumption)) _)) k65⟩ | exact ⟨keepc (st_drew (Hid.out (by assumption))) k64, keepc (st_drew (Hid.out (by assumption))) k65⟩ | exact ⟨keepc (st_set (st_set (Hid.out (by assumption)) (by dsimp only; omega) _) (by dsimp only; omega) _) k64, keepc (st_set (st_set (Hid.out (by assumption)) (by dsimp only; omega) _) (by dsimp only; omega) _) k65⟩ | go_keep) (first | (go_at_call 29; refine (frac_law _ _).mono ?_; rintro e wx ⟨rfl, hbx⟩; have HK := hide (st_trans (a := w7) (by first | exact Hid.out (by assumption) | exact st_alloc (Hid.out (by assumption)) _ | exact st_drew (st_alloc (Hid.out (by assumption)) _)) hbx); have hnx := HK.out.size; obtain ⟨hcx, hfx⟩ := bcell hbx; have hsx := hbx.size; (try simp at hsx); (try have hsy := Nat.lt_of_succ_le hsx); (try have hlx := Nat.lt_of_lt_of_le (by assumption) hsx)) | (go_at_call 31; refine (div_as_impl PV.out iV.out _).mono ?_; rintro e wx ⟨rfl, hbx⟩; have HK := hide (st_trans (a := w7) (by first | exact Hid.out (by assumption) | exact st_alloc (Hid.out (by assumption)) _ | exact st_drew (st_alloc (Hid.out (by assumption)) _)) hbx); have hnx := HK.out.size; obtain ⟨hcx, hfx⟩ := bcell hbx; have hsx := hbx.size; (try simp at hsx); (try have hsy := Nat.lt_of_succ_le hsx); (try have hlx := Nat.lt_of_lt_of_le (by assumption) hsx)))
        all_goals
          go_wp2_with fail
          go_meet
          refine ⟨_, rfl, rfl, ?_, ?_, ?_⟩
          · go_simp
          · go_simp
          · first | exact st_alloc (Hid.out (by assumption)) _ | exact st_set (st_set (Hid.out (by assumption)) (by dsimp only; omega) _) (by dsimp only; omega) _
      obtain ⟨g8, rfl, rfl, hg0, hg1, hb⟩ := hcut
      obtain ⟨w8, hW⟩ := name_world wc
      rw [← hW] at hg0 hg1 hb ⊢
      clear hW
      have B8 := hide (st_trans B7.out hb)
      have k67 : w8.cell? ⟨w1.heap.size, 0, none⟩ = some (.int .i64 (an)) := keepc hb (by assumption)
      have k68 : w8.cell? ⟨w1.heap.size, 1, none⟩ = some (.int .i64 (ad)) := keepc hb (by assumption)
      have k69 : w1.heap.size < w8.heap.size := by have hq := hb.size; omega
      have k70 : w8.cell? ⟨w1.heap.size + 1, 0, none⟩ = some (.int .i64 (bn)) := keepc hb (by assumption)
      have k71 : w8.cell? ⟨w1.heap.size + 1, 1, none⟩ = some (.int .i64 (bd)) := keepc hb (by assumption)
      have k72 : w1.heap.size + 1 < w8.heap.size := by have hq := hb.size; omega
      have k73 : w8.cell? ⟨w3.heap.size, 0, none⟩ = some (.int .i64 (1)) := keepc hb (by assumption)
      have k74 : w8.cell? ⟨w3.heap.size, 1, none⟩ = some (.int .i64 (4)) := keepc hb (by assumption)
      have k75 : w3.heap.size < w8.heap.size := by have hq := hb.size; omega
      have k76 : w8.cell? ⟨w4.heap.size, 0, none⟩ = some (.int .i64 (xn)) := keepc hb (by assumption)
      have k77 : w8.cell? ⟨w4.heap.size, 1, none⟩ = some (.int .i64 (xd)) := keepc hb (by assumption)
      have k78 : w4.heap.size < w8.heap.size := by have hq := hb.size; omega
      have k79 : w8.cell? ⟨w5.heap.size, 0, none⟩ = some (.int .i64 (yn)) := keepc hb (by assumption)
      have k80 : w8.cell? ⟨w5.heap.size, 1, none⟩ = some (.int .i64 (yd)) := keepc hb (by assumption)
      have k81 : w5.heap.size < w8.heap.size := by have hq := hb.size; omega
      have k82 : w8.cell? ⟨w6.heap.size, 0, none⟩ = some (.int .i64 (zn)) := keepc hb (by assumption)
      have k83 : w8.cell? ⟨w6.heap.size, 1, none⟩ = some (.int .i64 (zd)) := keepc hb (by assumption)
      have k84 : w6.heap.size < w8.heap.size := by have hq := hb.size; omega
      have hgz : g8 < w8.heap.size := World.block_lt_of_cell? _ _ hg0
      clear hb k49 k50 k51 k52 k53 k54 k55 k56 k57 k58 k59 k60 k61 k62 k63 k64 k65 k66
      have kg8 := hg0
      have kh8 := hg1
      have kz8 := hgz
      clear hg0 hg1 hgz
      go_wp2_with fail
      refine (less_as E1.out iXY.out _).mono ?_
      rintro e w9 ⟨rfl, hb⟩
      have B9 := hide (st_trans B8.out hb)
      have k86 : w9.cell? ⟨w1.heap.size, 0, none⟩ = some (.int .i64 (an)) := keepc hb (by go_simp)
      have k87 : w9.cell? ⟨w1.heap.size, 1, none⟩ = some (.int .i64 (ad)) := keepc hb (by go_simp)
      have k88 : w1.heap.size < w9.heap.size := by have hq := hb.size; (try simp at hq); omega
      have k89 : w9.cell? ⟨w1.heap.size + 1, 0, none⟩ = some (.int .i64 (bn)) := keepc hb (by go_simp)
      have k90 : w9.cell? ⟨w1.heap.size + 1, 1, none⟩ = some (.int .i64 (bd)) := keepc hb (by go_simp)
      have k91 : w1.heap.size + 1 < w9.heap.size := by have hq := hb.size; (try simp at hq); omega
      have k92 : w9.cell? ⟨w3.heap.size, 0, none⟩ = some (.int .i64 (1)) := keepc hb (by go_simp)
      have k93 : w9.cell? ⟨w3.heap.size, 1, none⟩ = some (.int .i64 (4)) := keepc hb (by go_simp)
      have k94 : w3.heap.size < w9.heap.size := by have hq := hb.size; (try simp at hq); omega
      have k95 : w9.cell? ⟨w4.heap.size, 0, none⟩ = some (.int .i64 (xn)) := keepc hb (by go_simp)
      have k96 : w9.cell? ⟨w4.heap.size, 1, none⟩ = some (.int .i64 (xd)) := keepc hb (by go_simp)
      have k97 : w4.heap.size < w9.heap.size := by have hq := hb.size; (try simp at hq); omega
      have k98 : w9.cell? ⟨w5.heap.size, 0, none⟩ = some (.int .i64 (yn)) := keepc hb (by go_simp)
      have k99 : w9.cell? ⟨w5.heap.size, 1, none⟩ = some (.int .i64 (yd)) := keepc hb (by go_simp)
      have k100 : w5.heap.size < w9.heap.size := by have hq := hb.size; (try simp at hq); omega
      have k101 : w9.cell? ⟨w6.heap.size, 0, none⟩ = some (.int .i64 (zn)) := keepc hb (by go_simp)
      have k102 : w9.cell? ⟨w6.heap.size, 1, none⟩ = some (.int .i64 (zd)) := keepc hb (by go_simp)
      have k103 : w6.heap.size < w9.heap.size := by have hq := hb.size; (try simp at hq); omega
      have k104 : w9.cell? ⟨g8, 0, none⟩ = some (.int .i64 (vn)) := keepc hb (by go_simp)
      have k105 : w9.cell? ⟨g8, 1, none⟩ = some (.int .i64 (vd)) := keepc hb (by go_simp)
      have k106 : g8 < w9.heap.size := by have hq := hb.size; (try simp at hq); omega
      clear hb k67 k68 k69 k70 k71 k72 k73 k74 k75 k76 k77 k78 k79 k80 k81 k82 k83 k84 kg8 kh8 kz8
      go_wp2
      go_ret
      exact ⟨rfl, B9.out⟩
    · have E1 := hide (HL1.out hp hs)
      have PX := hide (And.intro hp X1.out)
      have PY := hide (And.intro hs Y1.out)
      have PZ := hide (And.intro ht Z1.out)
      have PV := hide (And.intro hu V1.out)
      clear hp hs ht hu
      go_wp2_with fail
      refine (add_as_impl PX.out iX.out _).mono ?_
      rintro e w4 ⟨rfl, hb⟩
      have B4 := hide (st_trans (st_alloc B3.out (.cells #[.int .i64 (1), .int .i64 (4)] 24)) hb)
      have k13 : w4.cell? ⟨w1.heap.size, 0, none⟩ = some (.int .i64 (an)) := keepc hb (by go_simp)
      have k14 : w4.cell? ⟨w1.heap.size, 1, none⟩ = some (.int .i64 (ad)) := keepc hb (by go_simp)
      have k15 : w1.heap.size < w4.heap.size := by have hq := hb.size; (try simp at hq); omega
      have k16 : w4.cell? ⟨w1.heap.size + 1, 0, none⟩ = some (.int .i64 (bn)) := keepc hb (by go_simp)
      have k17 : w4.cell? ⟨w1.heap.size + 1, 1, none⟩ = some (.int .i64 (bd)) := keepc hb (by go_simp)
      have k18 : w1.heap.size + 1 < w4.heap.size := by have hq := hb.size; (try simp at hq); omega
      have k19 : w4.cell? ⟨w3.heap.size, 0, none⟩ = some (.int .i64 (1)) := keepc hb (by go_simp)
      have k20 : w4.cell? ⟨w3.heap.size, 1, none⟩ = some (.int .i64 (4)) := keepc hb (by go_simp)
      have k21 : w3.heap.size < w4.heap.size := by have hq := hb.size; (try simp at hq); omega
      clear hb k7 k8 k9 k10 k11 k12
      go_wp2_with fail
      refine (add_as_impl PY.out iY.out _).mono ?_
      rintro e w5 ⟨rfl, hb⟩
      have B5 := hide (st_trans (st_alloc B4.out (.cells #[.int .i64 (xn), .int .i64 (xd)] 24)) hb)
      have k22 : w5.cell? ⟨w1.heap.size, 0, none⟩ = some (.int .i64 (an)) := keepc hb (by go_simp)
      have k23 : w5.cell? ⟨w1.heap.size, 1, none⟩ = some (.int .i64 (ad)) := keepc hb (by go_simp)
      have k24 : w1.heap.size < w5.heap.size := by have hq := hb.size; (try simp at hq); omega
      have k25 : w5.cell? ⟨w1.heap.size + 1, 0, none⟩ = some (.int .i64 (bn)) := keepc hb (by go_simp)
      have k26 : w5.cell? ⟨w1.heap.size + 1, 1, none⟩ = some (.int .i64 (bd)) := keepc hb (by go_simp)
      have k27 : w1.heap.size + 1 < w5.heap.size := by have hq := hb.size; (try simp at hq); omega
      have k28 : w5.cell? ⟨w3.heap.size, 0, none⟩ = some (.int .i64 (1)) := keepc hb (by go_simp)
      have k29 : w5.cell? ⟨w3.heap.size, 1, none⟩ = some (.int .i64 (4)) := keepc hb (by go_simp)
      have k30 : w3.heap.size < w5.heap.size := by have hq := hb.size; (try simp at hq); omega
      have k31 : w5.cell? ⟨w4.heap.size, 0, none⟩ = some (.int .i64 (xn)) := keepc hb (by go_simp)
      have k32 : w5.cell? ⟨w4.heap.size, 1, none⟩ = some (.int .i64 (xd)) := keepc hb (by go_simp)
      have k33 : w4.heap.size < w5.heap.size := by have hq := hb.size; (try simp at hq); omega
      clear hb k13 k14 k15 k16 k17 k18 k19 k20 k21
      go_wp2_with fail
      refine (add_as_impl PZ.out iZ.out _).mono ?_
      rintro e w6 ⟨rfl, hb⟩
      have B6 := hide (st_trans (st_alloc B5.out (.cells #[.int .i64 (yn), .int .i64 (yd)] 24)) hb)
      have k34 : w6.cell? ⟨w1.heap.size, 0, none⟩ = some (.int .i64 (an)) := keepc hb (by go_simp)
      have k35 : w6.cell? ⟨w1.heap.size, 1, none⟩ = some (.int .i64 (ad)) := keepc hb (by go_simp)
      have k36 : w1.heap.size < w6.heap.size := by have hq := hb.size; (try simp at hq); omega
      have k37 : w6.cell? ⟨w1.heap.size + 1, 0, none⟩ = some (.int .i64 (bn)) := keepc hb (by go_simp)
      have k38 : w6.cell? ⟨w1.heap.size + 1, 1, none⟩ = some (.int .i64 (bd)) := keepc hb (by go_simp)
      have k39 : w1.heap.size + 1 < w6.heap.size := by have hq := hb.size; (try simp at hq); omega
      have k40 : w6.cell? ⟨w3.heap.size, 0, none⟩ = some (.int .i64 (1)) := keepc hb (by go_simp)
      have k41 : w6.cell? ⟨w3.heap.size, 1, none⟩ = some (.int .i64 (4)) := keepc hb (by go_simp)
      have k42 : w3.heap.size < w6.heap.size := by have hq := hb.size; (try simp at hq); omega
      have k43 : w6.cell? ⟨w4.heap.size, 0, none⟩ = some (.int .i64 (xn)) := keepc hb (by go_simp)
      have k44 : w6.cell? ⟨w4.heap.size, 1, none⟩ = some (.int .i64 (xd)) := keepc hb (by go_simp)
      have k45 : w4.heap.size < w6.heap.size := by have hq := hb.size; (try simp at hq); omega
      have k46 : w6.cell? ⟨w5.heap.size, 0, none⟩ = some (.int .i64 (yn)) := keepc hb (by go_simp)
      have k47 : w6.cell? ⟨w5.heap.size, 1, none⟩ = some (.int .i64 (yd)) := keepc hb (by go_simp)
      have k48 : w5.heap.size < w6.heap.size := by have hq := hb.size; (try simp at hq); omega
      clear hb k22 k23 k24 k25 k26 k27 k28 k29 k30 k31 k32 k33
      go_upto_region 12 with fail
      have B7 := hide (st_alloc B6.out (.cells #[.int .i64 (zn), .int .i64 (zd)] 24))
      have k49 : (w6.alloc (.cells #[.int .i64 (zn), .int .i64 (zd)] 24)).cell? ⟨w1.heap.size, 0, none⟩ = some (.int .i64 (an)) := by go_simp
      have k50 : (w6.alloc (.cells #[.int .i64 (zn), .int .i64 (zd)] 24)).cell? ⟨w1.heap.size, 1, none⟩ = some (.int .i64 (ad)) := by go_simp
      have k51 : w1.heap.size < (w6.alloc (.cells #[.int .i64 (zn), .int .i64 (zd)] 24)).heap.size := by simp <;> omega
      have k52 : (w6.alloc (.cells #[.int .i64 (zn), .int .i64 (zd)] 24)).cell? ⟨w1.heap.size + 1, 0, none⟩ = some (.int .i64 (bn)) := by go_simp
      have k53 : (w6.alloc (.cells #[.int .i64 (zn), .int .i64 (zd)] 24)).cell? ⟨w1.heap.size + 1, 1, none⟩ = some (.int .i64 (bd)) := by go_simp
      have k54 : w1.heap.size + 1 < (w6.alloc (.cells #[.int .i64 (zn), .int .i64 (zd)] 24)).heap.size := by simp <;> omega
      have k55 : (w6.alloc (.cells #[.int .i64 (zn), .int .i64 (zd)] 24)).cell? ⟨w3.heap.size, 0, none⟩ = some (.int .i64 (1)) := by go_simp
      have k56 : (w6.alloc (.cells #[.int .i64 (zn), .int .i64 (zd)] 24)).cell? ⟨w3.heap.size, 1, none⟩ = some (.int .i64 (4)) := by go_simp
      have k57 : w3.heap.size < (w6.alloc (.cells #[.int .i64 (zn), .int .i64 (zd)] 24)).heap.size := by simp <;> omega
      have k58 : (w6.alloc (.cells #[.int .i64 (zn), .int .i64 (zd)] 24)).cell? ⟨w4.heap.size, 0, none⟩ = some (.int .i64 (xn)) := by go_simp
      have k59 : (w6.alloc (.cells #[.int .i64 (zn), .int .i64 (zd)] 24)).cell? ⟨w4.heap.size, 1, none⟩ = some (.int .i64 (xd)) := by go_simp
      have k60 : w4.heap.size < (w6.alloc (.cells #[.int .i64 (zn), .int .i64 (zd)] 24)).heap.size := by simp <;> omega
      have k61 : (w6.alloc (.cells #[.int .i64 (zn), .int .i64 (zd)] 24)).cell? ⟨w5.heap.size, 0, none⟩ = some (.int .i64 (yn)) := by go_simp
      have k62 : (w6.alloc (.cells #[.int .i64 (zn), .int .i64 (zd)] 24)).cell? ⟨w5.heap.size, 1, none⟩ = some (.int .i64 (yd)) := by go_simp
      have k63 : w5.heap.size < (w6.alloc (.cells #[.int .i64 (zn), .int .i64 (zd)] 24)).heap.size := by simp <;> omega
      have k64 : (w6.alloc (.cells #[.int .i64 (zn), .int .i64 (zd)] 24)).cell? ⟨w6.heap.size, 0, none⟩ = some (.int .i64 (zn)) := by go_simp
      have k65 : (w6.alloc (.cells #[.int .i64 (zn), .int .i64 (zd)] 24)).cell? ⟨w6.heap.size, 1, none⟩ = some (.int .i64 (zd)) := by go_simp
      have k66 : w6.heap.size < (w6.alloc (.cells #[.int .i64 (zn), .int .i64 (zd)] 24)).heap.size := by simp <;> omega
      obtain ⟨w7, hW⟩ := name_world (w6.alloc (.cells #[.int .i64 (zn), .int .i64 (zd)] 24))
      rw [← hW] at k49 k50 k51 k52 k53 k54 k55 k56 k57 k58 k59 k60 k61 k62 k63 k64 k65 k66 B7 ⊢
      clear hW k34 k35 k36 k37 k38 k39 k40 k41 k42 k43 k44 k45 k46 k47 k48
      go_cut [14, 15] (fun s t wx => Got w7 (vn) (vd) (true) s t wx)
      case first =>
        have HK0 := hide (st_refl w7)
        have HKd := hide (st_drew HK0.out)
        go_region_held3 (fun w' => w'.cell? ⟨w6.heap.size, 0, none⟩ = some (.int .i64 (zn)) ∧ w'.cell? ⟨w6.heap.size, 1, none⟩ = some (.int .i64 (zd))) (first | exact ⟨keepc (Hid.out (by assumption)) k64, keepc (Hid.out (by assumption)) k65⟩ | exact ⟨keepc (st_alloc (Hid.out (by assumption)) _) k64, keepc (st_alloc (Hid.out (by assumption)) _) k65⟩ | exact ⟨keepc (st_drew (st_alloc (Hid.out (by assumption)) _)) k64, keepc (st_drew (st_alloc (Hid.out (by assumption)) _)) k65⟩ | exact ⟨keepc (st_drew (Hid.out (by assumption))) k64, keepc (st_drew (Hid.out (by assumption))) k65⟩ | exact ⟨keepc (st_set (st_set (Hid.out (by assumption)) (by dsimp only; omega) _) (by dsimp only; omega) _) k64, keepc (st_set (st_set (Hid.out (by assumption)) (by dsimp only; omega) _) (by dsimp only; omega) _) k65⟩ | go_keep) (first | (go_at_call 29; refine (frac_law _ _).mono ?_; rintro e wx ⟨rfl, hbx⟩; have HK := hide (st_trans (a := w7) (by first | exact Hid.out (by assumption) | exact st_alloc (Hid.out (by assumption)) _ | exact st_drew (st_alloc (Hid.out (by assumption)) _)) hbx); have hnx := HK.out.size; obtain ⟨hcx, hfx⟩ := bcell hbx; have hsx := hbx.size; (try simp at hsx); (try have hsy := Nat.lt_of_succ_le hsx); (try have hlx := Nat.lt_of_lt_of_le (by assumption) hsx)) | (go_at_call 31; refine (div_as_impl PV.out iV.out _).mono ?_; rintro e wx ⟨rfl, hbx⟩; have HK := hide (st_trans (a := w7) (by first | exact Hid.out (by assumption) | exact st_alloc (Hid.out (by assumption)) _ | exact st_drew (st_alloc (Hid.out (by assumption)) _)) hbx); have hnx := HK.out.size; obtain ⟨hcx, hfx⟩ := bcell hbx; have hsx := hbx.size; (try simp at hsx); (try have hsy := Nat.lt_of_succ_le hsx); (try have hlx := Nat.lt_of_lt_of_le (by assumption) hsx)))
        all_goals
          go_wp2_with fail
          go_meet
          refine ⟨_, rfl, rfl, ?_, ?_, ?_⟩
          · go_simp
          · go_simp
          · first | exact st_alloc (Hid.out (by assumption)) _ | exact st_set (st_set (Hid.out (by assumption)) (by dsimp only; omega) _) (by dsimp only; omega) _
      obtain ⟨g8, rfl, rfl, hg0, hg1, hb⟩ := hcut
      obtain ⟨w8, hW⟩ := name_world wc
      rw [← hW] at hg0 hg1 hb ⊢
      clear hW
      have B8 := hide (st_trans B7.out hb)
      have k67 : w8.cell? ⟨w1.heap.size, 0, none⟩ = some (.int .i64 (an)) := keepc hb (by assumption)
      have k68 : w8.cell? ⟨w1.heap.size, 1, none⟩ = some (.int .i64 (ad)) := keepc hb (by assumption)
      have k69 : w1.heap.size < w8.heap.size := by have hq := hb.size; omega
      have k70 : w8.cell? ⟨w1.heap.size + 1, 0, none⟩ = some (.int .i64 (bn)) := keepc hb (by assumption)
      have k71 : w8.cell? ⟨w1.heap.size + 1, 1, none⟩ = some (.int .i64 (bd)) := keepc hb (by assumption)
      have k72 : w1.heap.size + 1 < w8.heap.size := by have hq := hb.size; omega
      have k73 : w8.cell? ⟨w3.heap.size, 0, none⟩ = some (.int .i64 (1)) := keepc hb (by assumption)
      have k74 : w8.cell? ⟨w3.heap.size, 1, none⟩ = some (.int .i64 (4)) := keepc hb (by assumption)
      have k75 : w3.heap.size < w8.heap.size := by have hq := hb.size; omega
      have k76 : w8.cell? ⟨w4.heap.size, 0, none⟩ = some (.int .i64 (xn)) := keepc hb (by assumption)
      have k77 : w8.cell? ⟨w4.heap.size, 1, none⟩ = some (.int .i64 (xd)) := keepc hb (by assumption)
      have k78 : w4.heap.size < w8.heap.size := by have hq := hb.size; omega
      have k79 : w8.cell? ⟨w5.heap.size, 0, none⟩ = some (.int .i64 (yn)) := keepc hb (by assumption)
      have k80 : w8.cell? ⟨w5.heap.size, 1, none⟩ = some (.int .i64 (yd)) := keepc hb (by assumption)
      have k81 : w5.heap.size < w8.heap.size := by have hq := hb.size; omega
      have k82 : w8.cell? ⟨w6.heap.size, 0, none⟩ = some (.int .i64 (zn)) := keepc hb (by assumption)
      have k83 : w8.cell? ⟨w6.heap.size, 1, none⟩ = some (.int .i64 (zd)) := keepc hb (by assumption)
      have k84 : w6.heap.size < w8.heap.size := by have hq := hb.size; omega
      have hgz : g8 < w8.heap.size := World.block_lt_of_cell? _ _ hg0
      clear hb k49 k50 k51 k52 k53 k54 k55 k56 k57 k58 k59 k60 k61 k62 k63 k64 k65 k66
      have kg8 := hg0
      have kh8 := hg1
      have kz8 := hgz
      clear hg0 hg1 hgz
      go_wp2_with fail
      refine (less_as E1.out iXY.out _).mono ?_
      rintro e w9 ⟨rfl, hb⟩
      have B9 := hide (st_trans B8.out hb)
      have k86 : w9.cell? ⟨w1.heap.size, 0, none⟩ = some (.int .i64 (an)) := keepc hb (by go_simp)
      have k87 : w9.cell? ⟨w1.heap.size, 1, none⟩ = some (.int .i64 (ad)) := keepc hb (by go_simp)
      have k88 : w1.heap.size < w9.heap.size := by have hq := hb.size; (try simp at hq); omega
      have k89 : w9.cell? ⟨w1.heap.size + 1, 0, none⟩ = some (.int .i64 (bn)) := keepc hb (by go_simp)
      have k90 : w9.cell? ⟨w1.heap.size + 1, 1, none⟩ = some (.int .i64 (bd)) := keepc hb (by go_simp)
      have k91 : w1.heap.size + 1 < w9.heap.size := by have hq := hb.size; (try simp at hq); omega
      have k92 : w9.cell? ⟨w3.heap.size, 0, none⟩ = some (.int .i64 (1)) := keepc hb (by go_simp)
      have k93 : w9.cell? ⟨w3.heap.size, 1, none⟩ = some (.int .i64 (4)) := keepc hb (by go_simp)
      have k94 : w3.heap.size < w9.heap.size := by have hq := hb.size; (try simp at hq); omega
      have k95 : w9.cell? ⟨w4.heap.size, 0, none⟩ = some (.int .i64 (xn)) := keepc hb (by go_simp)
      have k96 : w9.cell? ⟨w4.heap.size, 1, none⟩ = some (.int .i64 (xd)) := keepc hb (by go_simp)
      have k97 : w4.heap.size < w9.heap.size := by have hq := hb.size; (try simp at hq); omega
      have k98 : w9.cell? ⟨w5.heap.size, 0, none⟩ = some (.int .i64 (yn)) := keepc hb (by go_simp)
      have k99 : w9.cell? ⟨w5.heap.size, 1, none⟩ = some (.int .i64 (yd)) := keepc hb (by go_simp)
      have k100 : w5.heap.size < w9.heap.size := by have hq := hb.size; (try simp at hq); omega
      have k101 : w9.cell? ⟨w6.heap.size, 0, none⟩ = some (.int .i64 (zn)) := keepc hb (by go_simp)
      have k102 : w9.cell? ⟨w6.heap.size, 1, none⟩ = some (.int .i64 (zd)) := keepc hb (by go_simp)
      have k103 : w6.heap.size < w9.heap.size := by have hq := hb.size; (try simp at hq); omega
      have k104 : w9.cell? ⟨g8, 0, none⟩ = some (.int .i64 (vn)) := keepc hb (by go_simp)
      have k105 : w9.cell? ⟨g8, 1, none⟩ = some (.int .i64 (vd)) := keepc hb (by go_simp)
      have k106 : g8 < w9.heap.size := by have hq := hb.size; (try simp at hq); omega
      clear hb k67 k68 k69 k70 k71 k72 k73 k74 k75 k76 k77 k78 k79 k80 k81 k82 k83 k84 kg8 kh8 kz8
      go_wp2
      go_ret
      exact ⟨rfl, B9.out⟩
    · have E1 := hide (HL1.out hp hs)
      have PX := hide (And.intro hp X1.out)
      have PY := hide (And.intro hs Y1.out)
      have PZ := hide (And.intro ht Z1.out)
      have PV := hide (And.intro hu V1.out)
      clear hp hs ht hu
      go_wp2_with fail
      refine (add_as_impl PX.out iX.out _).mono ?_
      rintro e w4 ⟨rfl, hb⟩
      have B4 := hide (st_trans (st_alloc B3.out (.cells #[.int .i64 (1), .int .i64 (4)] 24)) hb)
      have k13 : w4.cell? ⟨w1.heap.size, 0, none⟩ = some (.int .i64 (an)) := keepc hb (by go_simp)
      have k14 : w4.cell? ⟨w1.heap.size, 1, none⟩ = some (.int .i64 (ad)) := keepc hb (by go_simp)
      have k15 : w1.heap.size < w4.heap.size := by have hq := hb.size; (try simp at hq); omega
      have k16 : w4.cell? ⟨w1.heap.size + 1, 0, none⟩ = some (.int .i64 (bn)) := keepc hb (by go_simp)
      have k17 : w4.cell? ⟨w1.heap.size + 1, 1, none⟩ = some (.int .i64 (bd)) := keepc hb (by go_simp)
      have k18 : w1.heap.size + 1 < w4.heap.size := by have hq := hb.size; (try simp at hq); omega
      have k19 : w4.cell? ⟨w3.heap.size, 0, none⟩ = some (.int .i64 (1)) := keepc hb (by go_simp)
      have k20 : w4.cell? ⟨w3.heap.size, 1, none⟩ = some (.int .i64 (4)) := keepc hb (by go_simp)
      have k21 : w3.heap.size < w4.heap.size := by have hq := hb.size; (try simp at hq); omega
      clear hb k7 k8 k9 k10 k11 k12
      go_wp2_with fail
      refine (add_as_impl PY.out iY.out _).mono ?_
      rintro e w5 ⟨rfl, hb⟩
      have B5 := hide (st_trans (st_alloc B4.out (.cells #[.int .i64 (xn), .int .i64 (xd)] 24)) hb)
      have k22 : w5.cell? ⟨w1.heap.size, 0, none⟩ = some (.int .i64 (an)) := keepc hb (by go_simp)
      have k23 : w5.cell? ⟨w1.heap.size, 1, none⟩ = some (.int .i64 (ad)) := keepc hb (by go_simp)
      have k24 : w1.heap.size < w5.heap.size := by have hq := hb.size; (try simp at hq); omega
      have k25 : w5.cell? ⟨w1.heap.size + 1, 0, none⟩ = some (.int .i64 (bn)) := keepc hb (by go_simp)
      have k26 : w5.cell? ⟨w1.heap.size + 1, 1, none⟩ = some (.int .i64 (bd)) := keepc hb (by go_simp)
      have k27 : w1.heap.size + 1 < w5.heap.size := by have hq := hb.size; (try simp at hq); omega
      have k28 : w5.cell? ⟨w3.heap.size, 0, none⟩ = some (.int .i64 (1)) := keepc hb (by go_simp)
      have k29 : w5.cell? ⟨w3.heap.size, 1, none⟩ = some (.int .i64 (4)) := keepc hb (by go_simp)
      have k30 : w3.heap.size < w5.heap.size := by have hq := hb.size; (try simp at hq); omega
      have k31 : w5.cell? ⟨w4.heap.size, 0, none⟩ = some (.int .i64 (xn)) := keepc hb (by go_simp)
      have k32 : w5.cell? ⟨w4.heap.size, 1, none⟩ = some (.int .i64 (xd)) := keepc hb (by go_simp)
      have k33 : w4.heap.size < w5.heap.size := by have hq := hb.size; (try simp at hq); omega
      clear hb k13 k14 k15 k16 k17 k18 k19 k20 k21
      go_wp2_with fail
      refine (add_as_impl PZ.out iZ.out _).mono ?_
      rintro e w6 ⟨rfl, hb⟩
      have B6 := hide (st_trans (st_alloc B5.out (.cells #[.int .i64 (yn), .int .i64 (yd)] 24)) hb)
      have k34 : w6.cell? ⟨w1.heap.size, 0, none⟩ = some (.int .i64 (an)) := keepc hb (by go_simp)
      have k35 : w6.cell? ⟨w1.heap.size, 1, none⟩ = some (.int .i64 (ad)) := keepc hb (by go_simp)
      have k36 : w1.heap.size < w6.heap.size := by have hq := hb.size; (try simp at hq); omega
      have k37 : w6.cell? ⟨w1.heap.size + 1, 0, none⟩ = some (.int .i64 (bn)) := keepc hb (by go_simp)
      have k38 : w6.cell? ⟨w1.heap.size + 1, 1, none⟩ = some (.int .i64 (bd)) := keepc hb (by go_simp)
      have k39 : w1.heap.size + 1 < w6.heap.size := by have hq := hb.size; (try simp at hq); omega
      have k40 : w6.cell? ⟨w3.heap.size, 0, none⟩ = some (.int .i64 (1)) := keepc hb (by go_simp)
      have k41 : w6.cell? ⟨w3.heap.size, 1, none⟩ = some (.int .i64 (4)) := keepc hb (by go_simp)
      have k42 : w3.heap.size < w6.heap.size := by have hq := hb.size; (try simp at hq); omega
      have k43 : w6.cell? ⟨w4.heap.size, 0, none⟩ = some (.int .i64 (xn)) := keepc hb (by go_simp)
      have k44 : w6.cell? ⟨w4.heap.size, 1, none⟩ = some (.int .i64 (xd)) := keepc hb (by go_simp)
      have k45 : w4.heap.size < w6.heap.size := by have hq := hb.size; (try simp at hq); omega
      have k46 : w6.cell? ⟨w5.heap.size, 0, none⟩ = some (.int .i64 (yn)) := keepc hb (by go_simp)
      have k47 : w6.cell? ⟨w5.heap.size, 1, none⟩ = some (.int .i64 (yd)) := keepc hb (by go_simp)
      have k48 : w5.heap.size < w6.heap.size := by have hq := hb.size; (try simp at hq); omega
      clear hb k22 k23 k24 k25 k26 k27 k28 k29 k30 k31 k32 k33
      go_upto_region 12 with fail
      have B7 := hide (st_alloc B6.out (.cells #[.int .i64 (zn), .int .i64 (zd)] 24))
      have k49 : (w6.alloc (.cells #[.int .i64 (zn), .int .i64 (zd)] 24)).cell? ⟨w1.heap.size, 0, none⟩ = some (.int .i64 (an)) := by go_simp
      have k50 : (w6.alloc (.cells #[.int .i64 (zn), .int .i64 (zd)] 24)).cell? ⟨w1.heap.size, 1, none⟩ = some (.int .i64 (ad)) := by go_simp
      have k51 : w1.heap.size < (w6.alloc (.cells #[.int .i64 (zn), .int .i64 (zd)] 24)).heap.size := by simp <;> omega
      have k52 : (w6.alloc (.cells #[.int .i64 (zn), .int .i64 (zd)] 24)).cell? ⟨w1.heap.size + 1, 0, none⟩ = some (.int .i64 (bn)) := by go_simp
      have k53 : (w6.alloc (.cells #[.int .i64 (zn), .int .i64 (zd)] 24)).cell? ⟨w1.heap.size + 1, 1, none⟩ = some (.int .i64 (bd)) := by go_simp
      have k54 : w1.heap.size + 1 < (w6.alloc (.cells #[.int .i64 (zn), .int .i64 (zd)] 24)).heap.size := by simp <;> omega
      have k55 : (w6.alloc (.cells #[.int .i64 (zn), .int .i64 (zd)] 24)).cell? ⟨w3.heap.size, 0, none⟩ = some (.int .i64 (1)) := by go_simp
      have k56 : (w6.alloc (.cells #[.int .i64 (zn), .int .i64 (zd)] 24)).cell? ⟨w3.heap.size, 1, none⟩ = some (.int .i64 (4)) := by go_simp
      have k57 : w3.heap.size < (w6.alloc (.cells #[.int .i64 (zn), .int .i64 (zd)] 24)).heap.size := by simp <;> omega
      have k58 : (w6.alloc (.cells #[.int .i64 (zn), .int .i64 (zd)] 24)).cell? ⟨w4.heap.size, 0, none⟩ = some (.int .i64 (xn)) := by go_simp
      have k59 : (w6.alloc (.cells #[.int .i64 (zn), .int .i64 (zd)] 24)).cell? ⟨w4.heap.size, 1, none⟩ = some (.int .i64 (xd)) := by go_simp
      have k60 : w4.heap.size < (w6.alloc (.cells #[.int .i64 (zn), .int .i64 (zd)] 24)).heap.size := by simp <;> omega
      have k61 : (w6.alloc (.cells #[.int .i64 (zn), .int .i64 (zd)] 24)).cell? ⟨w5.heap.size, 0, none⟩ = some (.int .i64 (yn)) := by go_simp
      have k62 : (w6.alloc (.cells #[.int .i64 (zn), .int .i64 (zd)] 24)).cell? ⟨w5.heap.size, 1, none⟩ = some (.int .i64 (yd)) := by go_simp
      have k63 : w5.heap.size < (w6.alloc (.cells #[.int .i64 (zn), .int .i64 (zd)] 24)).heap.size := by simp <;> omega
      have k64 : (w6.alloc (.cells #[.int .i64 (zn), .int .i64 (zd)] 24)).cell? ⟨w6.heap.size, 0, none⟩ = some (.int .i64 (zn)) := by go_simp
      have k65 : (w6.alloc (.cells #[.int .i64 (zn), .int .i64 (zd)] 24)).cell? ⟨w6.heap.size, 1, none⟩ = some (.int .i64 (zd)) := by go_simp
      have k66 : w6.heap.size < (w6.alloc (.cells #[.int .i64 (zn), .int .i64 (zd)] 24)).heap.size := by simp <;> omega
      obtain ⟨w7, hW⟩ := name_world (w6.alloc (.cells #[.int .i64 (zn), .int .i64 (zd)] 24))
      rw [← hW] at k49 k50 k51 k52 k53 k54 k55 k56 k57 k58 k59 k60 k61 k62 k63 k64 k65 k66 B7 ⊢
      clear hW k34 k35 k36 k37 k38 k39 k40 k41 k42 k43 k44 k45 k46 k47 k48
      go_cut [14, 15] (fun s t wx => Got w7 (vn) (vd) (false) s t wx)
      case first =>
        have HK0 := hide (st_refl w7)
        have HKd := hide (st_drew HK0.out)
        go_region_held3 (fun w' => w'.cell? ⟨w6.heap.size, 0, none⟩ = some (.int .i64 (zn)) ∧ w'.cell? ⟨w6.heap.size, 1, none⟩ = some (.int .i64 (zd))) (first | exact ⟨keepc (Hid.out (by assumption)) k64, keepc (Hid.out (by assumption)) k65⟩ | exact ⟨keepc (st_alloc (Hid.out (by assumption)) _) k64, keepc (st_alloc (Hid.out (by assumption)) _) k65⟩ | exact ⟨keepc (st_drew (st_alloc (Hid.out (by assumption)) _)) k64, keepc (st_drew (st_alloc (Hid.out (by assumption)) _)) k65⟩ | exact ⟨keepc (st_drew (Hid.out (by assumption))) k64, keepc (st_drew (Hid.out (by assumption))) k65⟩ | exact ⟨keepc (st_set (st_set (Hid.out (by assumption)) (by dsimp only; omega) _) (by dsimp only; omega) _) k64, keepc (st_set (st_set (Hid.out (by assumption)) (by dsimp only; omega) _) (by dsimp only; omega) _) k65⟩ | go_keep) (first | (go_at_call 29; refine (frac_law _ _).mono ?_; rintro e wx ⟨rfl, hbx⟩; have HK := hide (st_trans (a := w7) (by first | exact Hid.out (by assumption) | exact st_alloc (Hid.out (by assumption)) _ | exact st_drew (st_alloc (Hid.out (by assumption)) _)) hbx); have hnx := HK.out.size; obtain ⟨hcx, hfx⟩ := bcell hbx; have hsx := hbx.size; (try simp at hsx); (try have hsy := Nat.lt_of_succ_le hsx); (try have hlx := Nat.lt_of_lt_of_le (by assumption) hsx)) | (go_at_call 31; refine (div_as_impl PV.out iV.out _).mono ?_; rintro e wx ⟨rfl, hbx⟩; have HK := hide (st_trans (a := w7) (by first | exact Hid.out (by assumption) | exact st_alloc (Hid.out (by assumption)) _ | exact st_drew (st_alloc (Hid.out (by assumption)) _)) hbx); have hnx := HK.out.size; obtain ⟨hcx, hfx⟩ := bcell hbx; have hsx := hbx.size; (try simp at hsx); (try have hsy := Nat.lt_of_succ_le hsx); (try have hlx := Nat.lt_of_lt_of_le (by assumption) hsx)))
        all_goals
          go_wp2_with fail
          go_meet
          refine ⟨_, rfl, rfl, ?_, ?_, ?_⟩
          · go_simp
          · go_simp
          · first | exact st_alloc (Hid.out (by assumption)) _ | exact st_set (st_set (Hid.out (by assumption)) (by dsimp only; omega) _) (by dsimp only; omega) _
      obtain ⟨g8, rfl, rfl, hg0, hg1, hb⟩ := hcut
      obtain ⟨w8, hW⟩ := name_world wc
      rw [← hW] at hg0 hg1 hb ⊢
      clear hW
      have B8 := hide (st_trans B7.out hb)
      have k67 : w8.cell? ⟨w1.heap.size, 0, none⟩ = some (.int .i64 (an)) := keepc hb (by assumption)
      have k68 : w8.cell? ⟨w1.heap.size, 1, none⟩ = some (.int .i64 (ad)) := keepc hb (by assumption)
      have k69 : w1.heap.size < w8.heap.size := by have hq := hb.size; omega
      have k70 : w8.cell? ⟨w1.heap.size + 1, 0, none⟩ = some (.int .i64 (bn)) := keepc hb (by assumption)
      have k71 : w8.cell? ⟨w1.heap.size + 1, 1, none⟩ = some (.int .i64 (bd)) := keepc hb (by assumption)
      have k72 : w1.heap.size + 1 < w8.heap.size := by have hq := hb.size; omega
      have k73 : w8.cell? ⟨w3.heap.size, 0, none⟩ = some (.int .i64 (1)) := keepc hb (by assumption)
      have k74 : w8.cell? ⟨w3.heap.size, 1, none⟩ = some (.int .i64 (4)) := keepc hb (by assumption)
      have k75 : w3.heap.size < w8.heap.size := by have hq := hb.size; omega
      have k76 : w8.cell? ⟨w4.heap.size, 0, none⟩ = some (.int .i64 (xn)) := keepc hb (by assumption)
      have k77 : w8.cell? ⟨w4.heap.size, 1, none⟩ = some (.int .i64 (xd)) := keepc hb (by assumption)
      have k78 : w4.heap.size < w8.heap.size := by have hq := hb.size; omega
      have k79 : w8.cell? ⟨w5.heap.size, 0, none⟩ = some (.int .i64 (yn)) := keepc hb (by assumption)
      have k80 : w8.cell? ⟨w5.heap.size, 1, none⟩ = some (.int .i64 (yd)) := keepc hb (by assumption)
      have k81 : w5.heap.size < w8.heap.size := by have hq := hb.size; omega
      have k82 : w8.cell? ⟨w6.heap.size, 0, none⟩ = some (.int .i64 (zn)) := keepc hb (by assumption)
      have k83 : w8.cell? ⟨w6.heap.size, 1, none⟩ = some (.int .i64 (zd)) := keepc hb (by assumption)
      have k84 : w6.heap.size < w8.heap.size := by have hq := hb.size; omega
      have hgz : g8 < w8.heap.size := World.block_lt_of_cell? _ _ hg0
      clear hb k49 k50 k51 k52 k53 k54 k55 k56 k57 k58 k59 k60 k61 k62 k63 k64 k65 k66
      have kg8 := hg0
      have kh8 := hg1
      have kz8 := hgz
      clear hg0 hg1 hgz
      go_wp2_with fail
      refine (less_as E1.out iXY.out _).mono ?_
      rintro e w9 ⟨rfl, hb⟩
      have B9 := hide (st_trans B8.out hb)
      have k86 : w9.cell? ⟨w1.heap.size, 0, none⟩ = some (.int .i64 (an)) := keepc hb (by go_simp)
      have k87 : w9.cell? ⟨w1.heap.size, 1, none⟩ = some (.int .i64 (ad)) := keepc hb (by go_simp)
      have k88 : w1.heap.size < w9.heap.size := by have hq := hb.size; (try simp at hq); omega
      have k89 : w9.cell? ⟨w1.heap.size + 1, 0, none⟩ = some (.int .i64 (bn)) := keepc hb (by go_simp)
      have k90 : w9.cell? ⟨w1.heap.size + 1, 1, none⟩ = some (.int .i64 (bd)) := keepc hb (by go_simp)
      have k91 : w1.heap.size + 1 < w9.heap.size := by have hq := hb.size; (try simp at hq); omega
      have k92 : w9.cell? ⟨w3.heap.size, 0, none⟩ = some (.int .i64 (1)) := keepc hb (by go_simp)
      have k93 : w9.cell? ⟨w3.heap.size, 1, none⟩ = some (.int .i64 (4)) := keepc hb (by go_simp)
      have k94 : w3.heap.size < w9.heap.size := by have hq := hb.size; (try simp at hq); omega
      have k95 : w9.cell? ⟨w4.heap.size, 0, none⟩ = some (.int .i64 (xn)) := keepc hb (by go_simp)
      have k96 : w9.cell? ⟨w4.heap.size, 1, none⟩ = some (.int .i64 (xd)) := keepc hb (by go_simp)
      have k97 : w4.heap.size < w9.heap.size := by have hq := hb.size; (try simp at hq); omega
      have k98 : w9.cell? ⟨w5.heap.size, 0, none⟩ = some (.int .i64 (yn)) := keepc hb (by go_simp)
      have k99 : w9.cell? ⟨w5.heap.size, 1, none⟩ = some (.int .i64 (yd)) := keepc hb (by go_simp)
      have k100 : w5.heap.size < w9.heap.size := by have hq := hb.size; (try simp at hq); omega
      have k101 : w9.cell? ⟨w6.heap.size, 0, none⟩ = some (.int .i64 (zn)) := keepc hb (by go_simp)
      have k102 : w9.cell? ⟨w6.heap.size, 1, none⟩ = some (.int .i64 (zd)) := keepc hb (by go_simp)
      have k103 : w6.heap.size < w9.heap.size := by have hq := hb.size; (try simp at hq); omega
      have k104 : w9.cell? ⟨g8, 0, none⟩ = some (.int .i64 (vn)) := keepc hb (by go_simp)
      have k105 : w9.cell? ⟨g8, 1, none⟩ = some (.int .i64 (vd)) := keepc hb (by go_simp)
      have k106 : g8 < w9.heap.size := by have hq := hb.size; (try simp at hq); omega
      clear hb k67 k68 k69 k70 k71 k72 k73 k74 k75 k76 k77 k78 k79 k80 k81 k82 k83 k84 kg8 kh8 kz8
      go_wp2
      go_ret
      exact ⟨rfl, B9.out⟩
    · have E1 := hide (HL1.out hp hs)
      have E2 := hide (HL2.out ht hu)
      have PX := hide (And.intro hp X1.out)
      have PY := hide (And.intro hs Y1.out)
      have PZ := hide (And.intro ht Z1.out)
      have PV := hide (And.intro hu V1.out)
      clear hp hs ht hu
      go_wp2_with fail
      refine (add_as_impl PX.out iX.out _).mono ?_
      rintro e w4 ⟨rfl, hb⟩
      have B4 := hide (st_trans (st_alloc B3.out (.cells #[.int .i64 (1), .int .i64 (4)] 24)) hb)
      have k13 : w4.cell? ⟨w1.heap.size, 0, none⟩ = some (.int .i64 (an)) := keepc hb (by go_simp)
      have k14 : w4.cell? ⟨w1.heap.size, 1, none⟩ = some (.int .i64 (ad)) := keepc hb (by go_simp)
      have k15 : w1.heap.size < w4.heap.size := by have hq := hb.size; (try simp at hq); omega
      have k16 : w4.cell? ⟨w1.heap.size + 1, 0, none⟩ = some (.int .i64 (bn)) := keepc hb (by go_simp)
      have k17 : w4.cell? ⟨w1.heap.size + 1, 1, none⟩ = some (.int .i64 (bd)) := keepc hb (by go_simp)
      have k18 : w1.heap.size + 1 < w4.heap.size := by have hq := hb.size; (try simp at hq); omega
      have k19 : w4.cell? ⟨w3.heap.size, 0, none⟩ = some (.int .i64 (1)) := keepc hb (by go_simp)
      have k20 : w4.cell? ⟨w3.heap.size, 1, none⟩ = some (.int .i64 (4)) := keepc hb (by go_simp)
      have k21 : w3.heap.size < w4.heap.size := by have hq := hb.size; (try simp at hq); omega
      clear hb k7 k8 k9 k10 k11 k12
      go_wp2_with fail
      refine (add_as_impl PY.out iY.out _).mono ?_
      rintro e w5 ⟨rfl, hb⟩
      have B5 := hide (st_trans (st_alloc B4.out (.cells #[.int .i64 (xn), .int .i64 (xd)] 24)) hb)
      have k22 : w5.cell? ⟨w1.heap.size, 0, none⟩ = some (.int .i64 (an)) := keepc hb (by go_simp)
      have k23 : w5.cell? ⟨w1.heap.size, 1, none⟩ = some (.int .i64 (ad)) := keepc hb (by go_simp)
      have k24 : w1.heap.size < w5.heap.size := by have hq := hb.size; (try simp at hq); omega
      have k25 : w5.cell? ⟨w1.heap.size + 1, 0, none⟩ = some (.int .i64 (bn)) := keepc hb (by go_simp)
      have k26 : w5.cell? ⟨w1.heap.size + 1, 1, none⟩ = some (.int .i64 (bd)) := keepc hb (by go_simp)
      have k27 : w1.heap.size + 1 < w5.heap.size := by have hq := hb.size; (try simp at hq); omega
      have k28 : w5.cell? ⟨w3.heap.size, 0, none⟩ = some (.int .i64 (1)) := keepc hb (by go_simp)
      have k29 : w5.cell? ⟨w3.heap.size, 1, none⟩ = some (.int .i64 (4)) := keepc hb (by go_simp)
      have k30 : w3.heap.size < w5.heap.size := by have hq := hb.size; (try simp at hq); omega
      have k31 : w5.cell? ⟨w4.heap.size, 0, none⟩ = some (.int .i64 (xn)) := keepc hb (by go_simp)
      have k32 : w5.cell? ⟨w4.heap.size, 1, none⟩ = some (.int .i64 (xd)) := keepc hb (by go_simp)
      have k33 : w4.heap.size < w5.heap.size := by have hq := hb.size; (try simp at hq); omega
      clear hb k13 k14 k15 k16 k17 k18 k19 k20 k21
      go_wp2_with fail
      refine (add_as_impl PZ.out iZ.out _).mono ?_
      rintro e w6 ⟨rfl, hb⟩
      have B6 := hide (st_trans (st_alloc B5.out (.cells #[.int .i64 (yn), .int .i64 (yd)] 24)) hb)
      have k34 : w6.cell? ⟨w1.heap.size, 0, none⟩ = some (.int .i64 (an)) := keepc hb (by go_simp)
      have k35 : w6.cell? ⟨w1.heap.size, 1, none⟩ = some (.int .i64 (ad)) := keepc hb (by go_simp)
      have k36 : w1.heap.size < w6.heap.size := by have hq := hb.size; (try simp at hq); omega
      have k37 : w6.cell? ⟨w1.heap.size + 1, 0, none⟩ = some (.int .i64 (bn)) := keepc hb (by go_simp)
      have k38 : w6.cell? ⟨w1.heap.size + 1, 1, none⟩ = some (.int .i64 (bd)) := keepc hb (by go_simp)
      have k39 : w1.heap.size + 1 < w6.heap.size := by have hq := hb.size; (try simp at hq); omega
      have k40 : w6.cell? ⟨w3.heap.size, 0, none⟩ = some (.int .i64 (1)) := keepc hb (by go_simp)
      have k41 : w6.cell? ⟨w3.heap.size, 1, none⟩ = some (.int .i64 (4)) := keepc hb (by go_simp)
      have k42 : w3.heap.size < w6.heap.size := by have hq := hb.size; (try simp at hq); omega
      have k43 : w6.cell? ⟨w4.heap.size, 0, none⟩ = some (.int .i64 (xn)) := keepc hb (by go_simp)
      have k44 : w6.cell? ⟨w4.heap.size, 1, none⟩ = some (.int .i64 (xd)) := keepc hb (by go_simp)
      have k45 : w4.heap.size < w6.heap.size := by have hq := hb.size; (try simp at hq); omega
      have k46 : w6.cell? ⟨w5.heap.size, 0, none⟩ = some (.int .i64 (yn)) := keepc hb (by go_simp)
      have k47 : w6.cell? ⟨w5.heap.size, 1, none⟩ = some (.int .i64 (yd)) := keepc hb (by go_simp)
      have k48 : w5.heap.size < w6.heap.size := by have hq := hb.size; (try simp at hq); omega
      clear hb k22 k23 k24 k25 k26 k27 k28 k29 k30 k31 k32 k33
      go_upto_region 12 with fail
      have B7 := hide (st_alloc B6.out (.cells #[.int .i64 (zn), .int .i64 (zd)] 24))
      have k49 : (w6.alloc (.cells #[.int .i64 (zn), .int .i64 (zd)] 24)).cell? ⟨w1.heap.size, 0, none⟩ = some (.int .i64 (an)) := by go_simp
      have k50 : (w6.alloc (.cells #[.int .i64 (zn), .int .i64 (zd)] 24)).cell? ⟨w1.heap.size, 1, none⟩ = some (.int .i64 (ad)) := by go_simp
      have k51 : w1.heap.size < (w6.alloc (.cells #[.int .i64 (zn), .int .i64 (zd)] 24)).heap.size := by simp <;> omega
      have k52 : (w6.alloc (.cells #[.int .i64 (zn), .int .i64 (zd)] 24)).cell? ⟨w1.heap.size + 1, 0, none⟩ = some (.int .i64 (bn)) := by go_simp
      have k53 : (w6.alloc (.cells #[.int .i64 (zn), .int .i64 (zd)] 24)).cell? ⟨w1.heap.size + 1, 1, none⟩ = some (.int .i64 (bd)) := by go_simp
      have k54 : w1.heap.size + 1 < (w6.alloc (.cells #[.int .i64 (zn), .int .i64 (zd)] 24)).heap.size := by simp <;> omega
      have k55 : (w6.alloc (.cells #[.int .i64 (zn), .int .i64 (zd)] 24)).cell? ⟨w3.heap.size, 0, none⟩ = some (.int .i64 (1)) := by go_simp
      have k56 : (w6.alloc (.cells #[.int .i64 (zn), .int .i64 (zd)] 24)).cell? ⟨w3.heap.size, 1, none⟩ = some (.int .i64 (4)) := by go_simp
      have k57 : w3.heap.size < (w6.alloc (.cells #[.int .i64 (zn), .int .i64 (zd)] 24)).heap.size := by simp <;> omega
      have k58 : (w6.alloc (.cells #[.int .i64 (zn), .int .i64 (zd)] 24)).cell? ⟨w4.heap.size, 0, none⟩ = some (.int .i64 (xn)) := by go_simp
      have k59 : (w6.alloc (.cells #[.int .i64 (zn), .int .i64 (zd)] 24)).cell? ⟨w4.heap.size, 1, none⟩ = some (.int .i64 (xd)) := by go_simp
      have k60 : w4.heap.size < (w6.alloc (.cells #[.int .i64 (zn), .int .i64 (zd)] 24)).heap.size := by simp <;> omega
      have k61 : (w6.alloc (.cells #[.int .i64 (zn), .int .i64 (zd)] 24)).cell? ⟨w5.heap.size, 0, none⟩ = some (.int .i64 (yn)) := by go_simp
      have k62 : (w6.alloc (.cells #[.int .i64 (zn), .int .i64 (zd)] 24)).cell? ⟨w5.heap.size, 1, none⟩ = some (.int .i64 (yd)) := by go_simp
      have k63 : w5.heap.size < (w6.alloc (.cells #[.int .i64 (zn), .int .i64 (zd)] 24)).heap.size := by simp <;> omega
      have k64 : (w6.alloc (.cells #[.int .i64 (zn), .int .i64 (zd)] 24)).cell? ⟨w6.heap.size, 0, none⟩ = some (.int .i64 (zn)) := by go_simp
      have k65 : (w6.alloc (.cells #[.int .i64 (zn), .int .i64 (zd)] 24)).cell? ⟨w6.heap.size, 1, none⟩ = some (.int .i64 (zd)) := by go_simp
      have k66 : w6.heap.size < (w6.alloc (.cells #[.int .i64 (zn), .int .i64 (zd)] 24)).heap.size := by simp <;> omega
      obtain ⟨w7, hW⟩ := name_world (w6.alloc (.cells #[.int .i64 (zn), .int .i64 (zd)] 24))
      rw [← hW] at k49 k50 k51 k52 k53 k54 k55 k56 k57 k58 k59 k60 k61 k62 k63 k64 k65 k66 B7 ⊢
      clear hW k34 k35 k36 k37 k38 k39 k40 k41 k42 k43 k44 k45 k46 k47 k48
      go_cut [14, 15] (fun s t wx => Got w7 (vn) (vd) (true) s t wx)
      case first =>
        have HK0 := hide (st_refl w7)
        have HKd := hide (st_drew HK0.out)
        go_region_held3 (fun w' => w'.cell? ⟨w6.heap.size, 0, none⟩ = some (.int .i64 (zn)) ∧ w'.cell? ⟨w6.heap.size, 1, none⟩ = some (.int .i64 (zd))) (first | exact ⟨keepc (Hid.out (by assumption)) k64, keepc (Hid.out (by assumption)) k65⟩ | exact ⟨keepc (st_alloc (Hid.out (by assumption)) _) k64, keepc (st_alloc (Hid.out (by assumption)) _) k65⟩ | exact ⟨keepc (st_drew (st_alloc (Hid.out (by assumption)) _)) k64, keepc (st_drew (st_alloc (Hid.out (by assumption)) _)) k65⟩ | exact ⟨keepc (st_drew (Hid.out (by assumption))) k64, keepc (st_drew (Hid.out (by assumption))) k65⟩ | exact ⟨keepc (st_set (st_set (Hid.out (by assumption)) (by dsimp only; omega) _) (by dsimp only; omega) _) k64, keepc (st_set (st_set (Hid.out (by assumption)) (by dsimp only; omega) _) (by dsimp only; omega) _) k65⟩ | go_keep) (first | (go_at_call 29; refine (frac_law _ _).mono ?_; rintro e wx ⟨rfl, hbx⟩; have HK := hide (st_trans (a := w7) (by first | exact Hid.out (by assumption) | exact st_alloc (Hid.out (by assumption)) _ | exact st_drew (st_alloc (Hid.out (by assumption)) _)) hbx); have hnx := HK.out.size; obtain ⟨hcx, hfx⟩ := bcell hbx; have hsx := hbx.size; (try simp at hsx); (try have hsy := Nat.lt_of_succ_le hsx); (try have hlx := Nat.lt_of_lt_of_le (by assumption) hsx)) | (go_at_call 31; refine (div_as_impl PV.out iV.out _).mono ?_; rintro e wx ⟨rfl, hbx⟩; have HK := hide (st_trans (a := w7) (by first | exact Hid.out (by assumption) | exact st_alloc (Hid.out (by assumption)) _ | exact st_drew (st_alloc (Hid.out (by assumption)) _)) hbx); have hnx := HK.out.size; obtain ⟨hcx, hfx⟩ := bcell hbx; have hsx := hbx.size; (try simp at hsx); (try have hsy := Nat.lt_of_succ_le hsx); (try have hlx := Nat.lt_of_lt_of_le (by assumption) hsx)))
        all_goals
          go_wp2_with fail
          go_meet
          refine ⟨_, rfl, rfl, ?_, ?_, ?_⟩
          · go_simp
          · go_simp
          · first | exact st_alloc (Hid.out (by assumption)) _ | exact st_set (st_set (Hid.out (by assumption)) (by dsimp only; omega) _) (by dsimp only; omega) _
      obtain ⟨g8, rfl, rfl, hg0, hg1, hb⟩ := hcut
      obtain ⟨w8, hW⟩ := name_world wc
      rw [← hW] at hg0 hg1 hb ⊢
      clear hW
      have B8 := hide (st_trans B7.out hb)
      have k67 : w8.cell? ⟨w1.heap.size, 0, none⟩ = some (.int .i64 (an)) := keepc hb (by assumption)
      have k68 : w8.cell? ⟨w1.heap.size, 1, none⟩ = some (.int .i64 (ad)) := keepc hb (by assumption)
      have k69 : w1.heap.size < w8.heap.size := by have hq := hb.size; omega
      have k70 : w8.cell? ⟨w1.heap.size + 1, 0, none⟩ = some (.int .i64 (bn)) := keepc hb (by assumption)
      have k71 : w8.cell? ⟨w1.heap.size + 1, 1, none⟩ = some (.int .i64 (bd)) := keepc hb (by assumption)
      have k72 : w1.heap.size + 1 < w8.heap.size := by have hq := hb.size; omega
      have k73 : w8.cell? ⟨w3.heap.size, 0, none⟩ = some (.int .i64 (1)) := keepc hb (by assumption)
      have k74 : w8.cell? ⟨w3.heap.size, 1, none⟩ = some (.int .i64 (4)) := keepc hb (by assumption)
      have k75 : w3.heap.size < w8.heap.size := by have hq := hb.size; omega
      have k76 : w8.cell? ⟨w4.heap.size, 0, none⟩ = some (.int .i64 (xn)) := keepc hb (by assumption)
      have k77 : w8.cell? ⟨w4.heap.size, 1, none⟩ = some (.int .i64 (xd)) := keepc hb (by assumption)
      have k78 : w4.heap.size < w8.heap.size := by have hq := hb.size; omega
      have k79 : w8.cell? ⟨w5.heap.size, 0, none⟩ = some (.int .i64 (yn)) := keepc hb (by assumption)
      have k80 : w8.cell? ⟨w5.heap.size, 1, none⟩ = some (.int .i64 (yd)) := keepc hb (by assumption)
      have k81 : w5.heap.size < w8.heap.size := by have hq := hb.size; omega
      have k82 : w8.cell? ⟨w6.heap.size, 0, none⟩ = some (.int .i64 (zn)) := keepc hb (by assumption)
      have k83 : w8.cell? ⟨w6.heap.size, 1, none⟩ = some (.int .i64 (zd)) := keepc hb (by assumption)
      have k84 : w6.heap.size < w8.heap.size := by have hq := hb.size; omega
      have hgz : g8 < w8.heap.size := World.block_lt_of_cell? _ _ hg0
      clear hb k49 k50 k51 k52 k53 k54 k55 k56 k57 k58 k59 k60 k61 k62 k63 k64 k65 k66
      have kg8 := hg0
      have kh8 := hg1
      have kz8 := hgz
      clear hg0 hg1 hgz
      go_wp2_with fail
      refine (less_as E1.out iXY.out _).mono ?_
      rintro e w9 ⟨rfl, hb⟩
      have B9 := hide (st_trans B8.out hb)
      have k86 : w9.cell? ⟨w1.heap.size, 0, none⟩ = some (.int .i64 (an)) := keepc hb (by go_simp)
      have k87 : w9.cell? ⟨w1.heap.size, 1, none⟩ = some (.int .i64 (ad)) := keepc hb (by go_simp)
      have k88 : w1.heap.size < w9.heap.size := by have hq := hb.size; (try simp at hq); omega
      have k89 : w9.cell? ⟨w1.heap.size + 1, 0, none⟩ = some (.int .i64 (bn)) := keepc hb (by go_simp)
      have k90 : w9.cell? ⟨w1.heap.size + 1, 1, none⟩ = some (.int .i64 (bd)) := keepc hb (by go_simp)
      have k91 : w1.heap.size + 1 < w9.heap.size := by have hq := hb.size; (try simp at hq); omega
      have k92 : w9.cell? ⟨w3.heap.size, 0, none⟩ = some (.int .i64 (1)) := keepc hb (by go_simp)
      have k93 : w9.cell? ⟨w3.heap.size, 1, none⟩ = some (.int .i64 (4)) := keepc hb (by go_simp)
      have k94 : w3.heap.size < w9.heap.size := by have hq := hb.size; (try simp at hq); omega
      have k95 : w9.cell? ⟨w4.heap.size, 0, none⟩ = some (.int .i64 (xn)) := keepc hb (by go_simp)
      have k96 : w9.cell? ⟨w4.heap.size, 1, none⟩ = some (.int .i64 (xd)) := keepc hb (by go_simp)
      have k97 : w4.heap.size < w9.heap.size := by have hq := hb.size; (try simp at hq); omega
      have k98 : w9.cell? ⟨w5.heap.size, 0, none⟩ = some (.int .i64 (yn)) := keepc hb (by go_simp)
      have k99 : w9.cell? ⟨w5.heap.size, 1, none⟩ = some (.int .i64 (yd)) := keepc hb (by go_simp)
      have k100 : w5.heap.size < w9.heap.size := by have hq := hb.size; (try simp at hq); omega
      have k101 : w9.cell? ⟨w6.heap.size, 0, none⟩ = some (.int .i64 (zn)) := keepc hb (by go_simp)
      have k102 : w9.cell? ⟨w6.heap.size, 1, none⟩ = some (.int .i64 (zd)) := keepc hb (by go_simp)
      have k103 : w6.heap.size < w9.heap.size := by have hq := hb.size; (try simp at hq); omega
      have k104 : w9.cell? ⟨g8, 0, none⟩ = some (.int .i64 (vn)) := keepc hb (by go_simp)
      have k105 : w9.cell? ⟨g8, 1, none⟩ = some (.int .i64 (vd)) := keepc hb (by go_simp)
      have k106 : g8 < w9.heap.size := by have hq := hb.size; (try simp at hq); omega
      clear hb k67 k68 k69 k70 k71 k72 k73 k74 k75 k76 k77 k78 k79 k80 k81 k82 k83 k84 kg8 kh8 kz8
      go_wp2_with fail
      refine (less_as E2.out.1 iAV.out _).mono ?_
      rintro e w10 ⟨rfl, hb⟩
      have B10 := hide (st_trans B9.out hb)
      have k107 : w10.cell? ⟨w1.heap.size, 0, none⟩ = some (.int .i64 (an)) := keepc hb (by go_simp)
      have k108 : w10.cell? ⟨w1.heap.size, 1, none⟩ = some (.int .i64 (ad)) := keepc hb (by go_simp)
      have k109 : w1.heap.size < w10.heap.size := by have hq := hb.size; (try simp at hq); omega
      have k110 : w10.cell? ⟨w1.heap.size + 1, 0, none⟩ = some (.int .i64 (bn)) := keepc hb (by go_simp)
      have k111 : w10.cell? ⟨w1.heap.size + 1, 1, none⟩ = some (.int .i64 (bd)) := keepc hb (by go_simp)
      have k112 : w1.heap.size + 1 < w10.heap.size := by have hq := hb.size; (try simp at hq); omega
      have k113 : w10.cell? ⟨w3.heap.size, 0, none⟩ = some (.int .i64 (1)) := keepc hb (by go_simp)
      have k114 : w10.cell? ⟨w3.heap.size, 1, none⟩ = some (.int .i64 (4)) := keepc hb (by go_simp)
      have k115 : w3.heap.size < w10.heap.size := by have hq := hb.size; (try simp at hq); omega
      have k116 : w10.cell? ⟨w4.heap.size, 0, none⟩ = some (.int .i64 (xn)) := keepc hb (by go_simp)
      have k117 : w10.cell? ⟨w4.heap.size, 1, none⟩ = some (.int .i64 (xd)) := keepc hb (by go_simp)
      have k118 : w4.heap.size < w10.heap.size := by have hq := hb.size; (try simp at hq); omega
      have k119 : w10.cell? ⟨w5.heap.size, 0, none⟩ = some (.int .i64 (yn)) := keepc hb (by go_simp)
      have k120 : w10.cell? ⟨w5.heap.size, 1, none⟩ = some (.int .i64 (yd)) := keepc hb (by go_simp)
      have k121 : w5.heap.size < w10.heap.size := by have hq := hb.size; (try simp at hq); omega
      have k122 : w10.cell? ⟨w6.heap.size, 0, none⟩ = some (.int .i64 (zn)) := keepc hb (by go_simp)
      have k123 : w10.cell? ⟨w6.heap.size, 1, none⟩ = some (.int .i64 (zd)) := keepc hb (by go_simp)
      have k124 : w6.heap.size < w10.heap.size := by have hq := hb.size; (try simp at hq); omega
      have k125 : w10.cell? ⟨g8, 0, none⟩ = some (.int .i64 (vn)) := keepc hb (by go_simp)
      have k126 : w10.cell? ⟨g8, 1, none⟩ = some (.int .i64 (vd)) := keepc hb (by go_simp)
      have k127 : g8 < w10.heap.size := by have hq := hb.size; (try simp at hq); omega
      clear hb k86 k87 k88 k89 k90 k91 k92 k93 k94 k95 k96 k97 k98 k99 k100 k101 k102 k103 k104 k105 k106
      go_wp2_with fail
      refine (less_as E2.out.2 iVB.out _).mono ?_
      rintro e w11 ⟨rfl, hb⟩
      have B11 := hide (st_trans B10.out hb)
      have k128 : w11.cell? ⟨w1.heap.size, 0, none⟩ = some (.int .i64 (an)) := keepc hb (by go_simp)
      have k129 : w11.cell? ⟨w1.heap.size, 1, none⟩ = some (.int .i64 (ad)) := keepc hb (by go_simp)
      have k130 : w1.heap.size < w11.heap.size := by have hq := hb.size; (try simp at hq); omega
      have k131 : w11.cell? ⟨w1.heap.size + 1, 0, none⟩ = some (.int .i64 (bn)) := keepc hb (by go_simp)
      have k132 : w11.cell? ⟨w1.heap.size + 1, 1, none⟩ = some (.int .i64 (bd)) := keepc hb (by go_simp)
      have k133 : w1.heap.size + 1 < w11.heap.size := by have hq := hb.size; (try simp at hq); omega
      have k134 : w11.cell? ⟨w3.heap.size, 0, none⟩ = some (.int .i64 (1)) := keepc hb (by go_simp)
      have k135 : w11.cell? ⟨w3.heap.size, 1, none⟩ = some (.int .i64 (4)) := keepc hb (by go_simp)
      have k136 : w3.heap.size < w11.heap.size := by have hq := hb.size; (try simp at hq); omega
      have k137 : w11.cell? ⟨w4.heap.size, 0, none⟩ = some (.int .i64 (xn)) := keepc hb (by go_simp)
      have k138 : w11.cell? ⟨w4.heap.size, 1, none⟩ = some (.int .i64 (xd)) := keepc hb (by go_simp)
      have k139 : w4.heap.size < w11.heap.size := by have hq := hb.size; (try simp at hq); omega
      have k140 : w11.cell? ⟨w5.heap.size, 0, none⟩ = some (.int .i64 (yn)) := keepc hb (by go_simp)
      have k141 : w11.cell? ⟨w5.heap.size, 1, none⟩ = some (.int .i64 (yd)) := keepc hb (by go_simp)
      have k142 : w5.heap.size < w11.heap.size := by have hq := hb.size; (try simp at hq); omega
      have k143 : w11.cell? ⟨w6.heap.size, 0, none⟩ = some (.int .i64 (zn)) := keepc hb (by go_simp)
      have k144 : w11.cell? ⟨w6.heap.size, 1, none⟩ = some (.int .i64 (zd)) := keepc hb (by go_simp)
      have k145 : w6.heap.size < w11.heap.size := by have hq := hb.size; (try simp at hq); omega
      have k146 : w11.cell? ⟨g8, 0, none⟩ = some (.int .i64 (vn)) := keepc hb (by go_simp)
      have k147 : w11.cell? ⟨g8, 1, none⟩ = some (.int .i64 (vd)) := keepc hb (by go_simp)
      have k148 : g8 < w11.heap.size := by have hq := hb.size; (try simp at hq); omega
      clear hb k107 k108 k109 k110 k111 k112 k113 k114 k115 k116 k117 k118 k119 k120 k121 k122 k123 k124 k125 k126 k127
      go_wp2
      go_ret
      exact ⟨rfl, B11.out⟩

end Go.Proofs.Ytpilgcikabcndaa
