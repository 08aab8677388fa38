/-
  The walk of the law FnFracMulOver.
  Conditions: the bytes can be read.
-/
import Derived.Test.YtpilgcikabcndaaFg
namespace Go.Proofs.Ytpilgcikabcndaa
open Go.RowKit Fr

set_option maxHeartbeats 8000000 in
theorem walk_fnFracMulOver (a : Option Addr) (len cap : Nat) (w : World) (h : Code w a len cap) : Calls Try.prog 10 #[.slice a len cap] w fun e w' => e = .returned (.bool true) ∧ Below w.heap.size w w' := by
  have hm : len ≤ 9223372036854775807 := by have h1 := h.1; have h2 := h.2.1; unfold maxLen at h2; omega
  have H := hide h
  clear h
  by_cases hl : 1048576 < len
  · go_enter Try.func10, Try.ntmps10
    go_wp2
    go_ret
    exact ⟨rfl, Below.refl _ _⟩
  go_enter Try.func10, Try.ntmps10
  go_wp2_with fail
  refine (dDrawFracMul a len cap _ H.out).mono ?_
  rintro e w1 ⟨an, ad, bn, bd, rfl, hS, hS', hB⟩
  have sa := hide hS
  have sb := hide hS'
  have B1 := hide hB
  clear hS hS' hB
  have sO := hide (s9_mul an ad bn bd)
  obtain ⟨on, hon⟩ : ∃ x, mulN an ad bn bd = x := ⟨_, rfl⟩
  obtain ⟨od, hod⟩ : ∃ x, mulD an ad bn bd = x := ⟨_, rfl⟩
  rw [hon, hod] at sO
  cases ho : mulOk an ad bn bd
  · have HO := hide (And.intro ho (And.intro hon hod))
    clear ho hon hod
    go_wp2_with fail
    refine (mul_as_impl HO.out (i4 sa.out sb.out) _).mono ?_
    rintro e w2 ⟨rfl, hb⟩
    have B2 := hide (st_trans (st_alloc (st_alloc B1.out _) _) hb)
    have k1 : w2.cell? ⟨w1.heap.size, 0, none⟩ = some (.int .i64 (an)) := keepc hb (by go_simp)
    have k2 : w2.cell? ⟨w1.heap.size, 1, none⟩ = some (.int .i64 (ad)) := keepc hb (by go_simp)
    have k3 : w1.heap.size < w2.heap.size := by have hq := hb.size; simp at hq; omega
    have k4 : w2.cell? ⟨w1.heap.size + 1, 0, none⟩ = some (.int .i64 (bn)) := keepc hb (by go_simp)
    have k5 : w2.cell? ⟨w1.heap.size + 1, 1, none⟩ = some (.int .i64 (bd)) := keepc hb (by go_simp)
    have k6 : w1.heap.size + 1 < w2.heap.size := by have hq := hb.size; simp at hq; omega
    clear hb
    go_wp2_with fail
    refine (mul_as_spec HO.out (i4 sa.out sb.out) _).mono ?_
    rintro e w3 ⟨rfl, hb⟩
    have B3 := hide (st_trans (st_alloc B2.out _) hb)
    have k7 : w3.cell? ⟨w1.heap.size, 0, none⟩ = some (.int .i64 (an)) := keepc hb (by go_simp)
    have k8 : w3.cell? ⟨w1.heap.size, 1, none⟩ = some (.int .i64 (ad)) := keepc hb (by go_simp)
    have k9 : w1.heap.size < w3.heap.size := by have hq := hb.size; simp at hq; omega
    have k10 : w3.cell? ⟨w1.heap.size + 1, 0, none⟩ = some (.int .i64 (bn)) := keepc hb (by go_simp)
    have k11 : w3.cell? ⟨w1.heap.size + 1, 1, none⟩ = some (.int .i64 (bd)) := keepc hb (by go_simp)
    have k12 : w1.heap.size + 1 < w3.heap.size := by have hq := hb.size; simp at hq; omega
    have k13 : w3.cell? ⟨w2.heap.size, 0, none⟩ = some (.int .i64 (on)) := keepc hb (by go_simp)
    have k14 : w3.cell? ⟨w2.heap.size, 1, none⟩ = some (.int .i64 (od)) := keepc hb (by go_simp)
    have k15 : w2.heap.size < w3.heap.size := by have hq := hb.size; simp at hq; omega
    clear hb k1 k2 k3 k4 k5 k6
    go_wp2
    go_ret
    exact ⟨rfl, (st_alloc B3.out _)⟩
  · have HO := hide (And.intro ho (And.intro hon hod))
    clear ho hon hod
    go_wp2_with fail
    refine (mul_as_impl HO.out (i4 sa.out sb.out) _).mono ?_
    rintro e w2 ⟨rfl, hb⟩
    have B2 := hide (st_trans (st_alloc (st_alloc B1.out _) _) hb)
    have k1 : w2.cell? ⟨w1.heap.size, 0, none⟩ = some (.int .i64 (an)) := keepc hb (by go_simp)
    have k2 : w2.cell? ⟨w1.heap.size, 1, none⟩ = some (.int .i64 (ad)) := keepc hb (by go_simp)
    have k3 : w1.heap.size < w2.heap.size := by have hq := hb.size; simp at hq; omega
    have k4 : w2.cell? ⟨w1.heap.size + 1, 0, none⟩ = some (.int .i64 (bn)) := keepc hb (by go_simp)
    have k5 : w2.cell? ⟨w1.heap.size + 1, 1, none⟩ = some (.int .i64 (bd)) := keepc hb (by go_simp)
    have k6 : w1.heap.size + 1 < w2.heap.size := by have hq := hb.size; simp at hq; omega
    clear hb
    go_wp2_with fail
    refine (mul_as_spec HO.out (i4 sa.out sb.out) _).mono ?_
    rintro e w3 ⟨rfl, hb⟩
    have B3 := hide (st_trans (st_alloc B2.out _) hb)
    have k7 : w3.cell? ⟨w1.heap.size, 0, none⟩ = some (.int .i64 (an)) := keepc hb (by go_simp)
    have k8 : w3.cell? ⟨w1.heap.size, 1, none⟩ = some (.int .i64 (ad)) := keepc hb (by go_simp)
    have k9 : w1.heap.size < w3.heap.size := by have hq := hb.size; simp at hq; omega
    have k10 : w3.cell? ⟨w1.heap.size + 1, 0, none⟩ = some (.int .i64 (bn)) := keepc hb (by go_simp)
    have k11 : w3.cell? ⟨w1.heap.size + 1, 1, none⟩ = some (.int .i64 (bd)) := keepc hb (by go_simp)
    have k12 : w1.heap.size + 1 < w3.heap.size := by have hq := hb.size; simp at hq; omega
    have k13 : w3.cell? ⟨w2.heap.size, 0, none⟩ = some (.int .i64 (on)) := keepc hb (by go_simp)
    have k14 : w3.cell? ⟨w2.heap.size, 1, none⟩ = some (.int .i64 (od)) := keepc hb (by go_simp)
    have k15 : w2.heap.size < w3.heap.size := by have hq := hb.size; simp at hq; omega
    clear hb k1 k2 k3 k4 k5 k6
    obtain ⟨sn, hsn⟩ : ∃ x, addN bn bd 1 2 = x := ⟨_, rfl⟩
    obtain ⟨sd, hsd⟩ : ∃ x, addD bn bd 1 2 = x := ⟨_, rfl⟩
    obtain ⟨yn, hyn⟩ : ∃ x, mulN an ad 1 2 = x := ⟨_, rfl⟩
    obtain ⟨yd, hyd⟩ : ∃ x, mulD an ad 1 2 = x := ⟨_, rfl⟩
    obtain ⟨xn, hxn⟩ : ∃ x, mulN an ad sn sd = x := ⟨_, rfl⟩
    obtain ⟨xd, hxd⟩ : ∃ x, mulD an ad sn sd = x := ⟨_, rfl⟩
    obtain ⟨zn, hzn⟩ : ∃ x, addN on od yn yd = x := ⟨_, rfl⟩
    obtain ⟨zd, hzd⟩ : ∃ x, addD on od yn yd = x := ⟨_, rfl⟩
    have ss : S9 sn sd := by rw [← hsn, ← hsd]; exact s9_add _ _ _ _
    have sy : S9 yn yd := by rw [← hyn, ← hyd]; exact s9_mul _ _ _ _
    have sc := s9_c 1 2 (by omega)
    have iS := hide (i4 sb.out sc)
    have iX := hide (i4 sa.out ss)
    have iY := hide (i4 sa.out sc)
    have iZ := hide (i4 sO.out sy)
    clear ss sy sc
    have L : addOk bn bd 1 2 = true → mulOk an ad sn sd = true → mulOk an ad 1 2 = true → addOk on od yn yd = true → xn = zn ∧ xd = zd := by
      intro t1 t2 t3 t4
      obtain ⟨q0, q1, q2⟩ := HO.out
      have := @mul_over an ad bn bd 1 2 q0 t1 (by rw [hsn, hsd]; exact t2) t3 (by rw [q1, q2, hyn, hyd]; exact t4)
      rw [q1, q2, hsn, hsd, hyn, hyd, hxn, hxd, hzn, hzd] at this
      exact this
    have HL := hide L
    clear L
    have S1 := hide (And.intro hsn hsd)
    have X1 := hide (And.intro hxn hxd)
    have Y1 := hide (And.intro hyn hyd)
    have Z1 := hide (And.intro hzn hzd)
    clear hsn hsd hxn hxd hyn hyd hzn hzd
    cases hp : addOk bn bd 1 2 <;> cases hq : mulOk an ad sn sd <;> cases ht : mulOk an ad 1 2 <;> cases hu : addOk on od yn yd
    · have PS := hide (And.intro hp S1.out)
      have PX := hide (And.intro hq X1.out)
      have PY := hide (And.intro ht Y1.out)
      have PZ := hide (And.intro hu Z1.out)
      clear hp hq ht hu
      go_wp2_with fail
      refine (add_as_impl PS.out iS.out _).mono ?_
      rintro e w4 ⟨rfl, hb⟩
      have B4 := hide (st_trans (st_alloc (st_alloc B3.out _) _) hb)
      have k16 : w4.cell? ⟨w1.heap.size, 0, none⟩ = some (.int .i64 (an)) := keepc hb (by go_simp)
      have k17 : w4.cell? ⟨w1.heap.size, 1, none⟩ = some (.int .i64 (ad)) := keepc hb (by go_simp)
      have k18 : w1.heap.size < w4.heap.size := by have hq := hb.size; simp at hq; omega
      have k19 : w4.cell? ⟨w1.heap.size + 1, 0, none⟩ = some (.int .i64 (bn)) := keepc hb (by go_simp)
      have k20 : w4.cell? ⟨w1.heap.size + 1, 1, none⟩ = some (.int .i64 (bd)) := keepc hb (by go_simp)
      have k21 : w1.heap.size + 1 < w4.heap.size := by have hq := hb.size; simp at hq; omega
      have k22 : w4.cell? ⟨w2.heap.size, 0, none⟩ = some (.int .i64 (on)) := keepc hb (by go_simp)
      have k23 : w4.cell? ⟨w2.heap.size, 1, none⟩ = some (.int .i64 (od)) := keepc hb (by go_simp)
      have k24 : w2.heap.size < w4.heap.size := by have hq := hb.size; simp at hq; omega
      have k25 : w4.cell? ⟨w3.heap.size, 0, none⟩ = some (.int .i64 (on)) := keepc hb (by go_simp)
      have k26 : w4.cell? ⟨w3.heap.size, 1, none⟩ = some (.int .i64 (od)) := keepc hb (by go_simp)
      have k27 : w3.heap.size < w4.heap.size := by have hq := hb.size; simp at hq; omega
      have k28 : w4.cell? ⟨w3.heap.size + 1, 0, none⟩ = some (.int .i64 (1)) := keepc hb (by go_simp)
      have k29 : w4.cell? ⟨w3.heap.size + 1, 1, none⟩ = some (.int .i64 (2)) := keepc hb (by go_simp)
      have k30 : w3.heap.size + 1 < w4.heap.size := by have hq := hb.size; simp at hq; omega
      clear hb k7 k8 k9 k10 k11 k12 k13 k14 k15
      go_wp2_with fail
      refine (mul_as_impl PX.out iX.out _).mono ?_
      rintro e w5 ⟨rfl, hb⟩
      have B5 := hide (st_trans (st_alloc B4.out _) hb)
      have k31 : w5.cell? ⟨w1.heap.size, 0, none⟩ = some (.int .i64 (an)) := keepc hb (by go_simp)
      have k32 : w5.cell? ⟨w1.heap.size, 1, none⟩ = some (.int .i64 (ad)) := keepc hb (by go_simp)
      have k33 : w1.heap.size < w5.heap.size := by have hq := hb.size; simp at hq; omega
      have k34 : w5.cell? ⟨w1.heap.size + 1, 0, none⟩ = some (.int .i64 (bn)) := keepc hb (by go_simp)
      have k35 : w5.cell? ⟨w1.heap.size + 1, 1, none⟩ = some (.int .i64 (bd)) := keepc hb (by go_simp)
      have k36 : w1.heap.size + 1 < w5.heap.size := by have hq := hb.size; simp at hq; omega
      have k37 : w5.cell? ⟨w2.heap.size, 0, none⟩ = some (.int .i64 (on)) := keepc hb (by go_simp)
      have k38 : w5.cell? ⟨w2.heap.size, 1, none⟩ = some (.int .i64 (od)) := keepc hb (by go_simp)
      have k39 : w2.heap.size < w5.heap.size := by have hq := hb.size; simp at hq; omega
      have k40 : w5.cell? ⟨w3.heap.size, 0, none⟩ = some (.int .i64 (on)) := keepc hb (by go_simp)
      have k41 : w5.cell? ⟨w3.heap.size, 1, none⟩ = some (.int .i64 (od)) := keepc hb (by go_simp)
      have k42 : w3.heap.size < w5.heap.size := by have hq := hb.size; simp at hq; omega
      have k43 : w5.cell? ⟨w3.heap.size + 1, 0, none⟩ = some (.int .i64 (1)) := keepc hb (by go_simp)
      have k44 : w5.cell? ⟨w3.heap.size + 1, 1, none⟩ = some (.int .i64 (2)) := keepc hb (by go_simp)
      have k45 : w3.heap.size + 1 < w5.heap.size := by have hq := hb.size; simp at hq; omega
      have k46 : w5.cell? ⟨w4.heap.size, 0, none⟩ = some (.int .i64 (sn)) := keepc hb (by go_simp)
      have k47 : w5.cell? ⟨w4.heap.size, 1, none⟩ = some (.int .i64 (sd)) := keepc hb (by go_simp)
      have k48 : w4.heap.size < w5.heap.size := by have hq := hb.size; simp at hq; omega
      clear hb k16 k17 k18 k19 k20 k21 k22 k23 k24 k25 k26 k27 k28 k29 k30
      go_wp2_with fail
      refine (mul_as_impl PY.out iY.out _).mono ?_
      rintro e w6 ⟨rfl, hb⟩
      have B6 := hide (st_trans (st_alloc B5.out _) hb)
      have k49 : w6.cell? ⟨w1.heap.size, 0, none⟩ = some (.int .i64 (an)) := keepc hb (by go_simp)
      have k50 : w6.cell? ⟨w1.heap.size, 1, none⟩ = some (.int .i64 (ad)) := keepc hb (by go_simp)
      have k51 : w1.heap.size < w6.heap.size := by have hq := hb.size; simp at hq; omega
      have k52 : w6.cell? ⟨w1.heap.size + 1, 0, none⟩ = some (.int .i64 (bn)) := keepc hb (by go_simp)
      have k53 : w6.cell? ⟨w1.heap.size + 1, 1, none⟩ = some (.int .i64 (bd)) := keepc hb (by go_simp)
      have k54 : w1.heap.size + 1 < w6.heap.size := by have hq := hb.size; simp at hq; omega
      have k55 : w6.cell? ⟨w2.heap.size, 0, none⟩ = some (.int .i64 (on)) := keepc hb (by go_simp)
      have k56 : w6.cell? ⟨w2.heap.size, 1, none⟩ = some (.int .i64 (od)) := keepc hb (by go_simp)
      have k57 : w2.heap.size < w6.heap.size := by have hq := hb.size; simp at hq; omega
      have k58 : w6.cell? ⟨w3.heap.size, 0, none⟩ = some (.int .i64 (on)) := keepc hb (by go_simp)
      have k59 : w6.cell? ⟨w3.heap.size, 1, none⟩ = some (.int .i64 (od)) := keepc hb (by go_simp)
      have k60 : w3.heap.size < w6.heap.size := by have hq := hb.size; simp at hq; omega
      have k61 : w6.cell? ⟨w3.heap.size + 1, 0, none⟩ = some (.int .i64 (1)) := keepc hb (by go_simp)
      have k62 : w6.cell? ⟨w3.heap.size + 1, 1, none⟩ = some (.int .i64 (2)) := keepc hb (by go_simp)
      have k63 : w3.heap.size + 1 < w6.heap.size := by have hq := hb.size; simp at hq; omega
      have k64 : w6.cell? ⟨w4.heap.size, 0, none⟩ = some (.int .i64 (sn)) := keepc hb (by go_simp)
      have k65 : w6.cell? ⟨w4.heap.size, 1, none⟩ = some (.int .i64 (sd)) := keepc hb (by go_simp)
      have k66 : w4.heap.size < w6.heap.size := by have hq := hb.size; simp at hq; omega
      have k67 : w6.cell? ⟨w5.heap.size, 0, none⟩ = some (.int .i64 (xn)) := keepc hb (by go_simp)
      have k68 : w6.cell? ⟨w5.heap.size, 1, none⟩ = some (.int .i64 (xd)) := keepc hb (by go_simp)
      have k69 : w5.heap.size < w6.heap.size := by have hq := hb.size; simp at hq; omega
      clear hb k31 k32 k33 k34 k35 k36 k37 k38 k39 k40 k41 k42 k43 k44 k45 k46 k47 k48
      go_wp2_with fail
      refine (add_as_impl PZ.out iZ.out _).mono ?_
      rintro e w7 ⟨rfl, hb⟩
      have B7 := hide (st_trans (st_alloc B6.out _) hb)
      have k70 : w7.cell? ⟨w1.heap.size, 0, none⟩ = some (.int .i64 (an)) := keepc hb (by go_simp)
      have k71 : w7.cell? ⟨w1.heap.size, 1, none⟩ = some (.int .i64 (ad)) := keepc hb (by go_simp)
      have k72 : w1.heap.size < w7.heap.size := by have hq := hb.size; simp at hq; omega
      have k73 : w7.cell? ⟨w1.heap.size + 1, 0, none⟩ = some (.int .i64 (bn)) := keepc hb (by go_simp)
      have k74 : w7.cell? ⟨w1.heap.size + 1, 1, none⟩ = some (.int .i64 (bd)) := keepc hb (by go_simp)
      have k75 : w1.heap.size + 1 < w7.heap.size := by have hq := hb.size; simp at hq; omega
      have k76 : w7.cell? ⟨w2.heap.size, 0, none⟩ = some (.int .i64 (on)) := keepc hb (by go_simp)
      have k77 : w7.cell? ⟨w2.heap.size, 1, none⟩ = some (.int .i64 (od)) := keepc hb (by go_simp)
      have k78 : w2.heap.size < w7.heap.size := by have hq := hb.size; simp at hq; omega
      have k79 : w7.cell? ⟨w3.heap.size, 0, none⟩ = some (.int .i64 (on)) := keepc hb (by go_simp)
      have k80 : w7.cell? ⟨w3.heap.size, 1, none⟩ = some (.int .i64 (od)) := keepc hb (by go_simp)
      have k81 : w3.heap.size < w7.heap.size := by have hq := hb.size; simp at hq; omega
      have k82 : w7.cell? ⟨w3.heap.size + 1, 0, none⟩ = some (.int .i64 (1)) := keepc hb (by go_simp)
      have k83 : w7.cell? ⟨w3.heap.size + 1, 1, none⟩ = some (.int .i64 (2)) := keepc hb (by go_simp)
      have k84 : w3.heap.size + 1 < w7.heap.size := by have hq := hb.size; simp at hq; omega
      have k85 : w7.cell? ⟨w4.heap.size, 0, none⟩ = some (.int .i64 (sn)) := keepc hb (by go_simp)
      have k86 : w7.cell? ⟨w4.heap.size, 1, none⟩ = some (.int .i64 (sd)) := keepc hb (by go_simp)
      have k87 : w4.heap.size < w7.heap.size := by have hq := hb.size; simp at hq; omega
      have k88 : w7.cell? ⟨w5.heap.size, 0, none⟩ = some (.int .i64 (xn)) := keepc hb (by go_simp)
      have k89 : w7.cell? ⟨w5.heap.size, 1, none⟩ = some (.int .i64 (xd)) := keepc hb (by go_simp)
      have k90 : w5.heap.size < w7.heap.size := by have hq := hb.size; simp at hq; omega
      have k91 : w7.cell? ⟨w6.heap.size, 0, none⟩ = some (.int .i64 (yn)) := keepc hb (by go_simp)
      have k92 : w7.cell? ⟨w6.heap.size, 1, none⟩ = some (.int .i64 (yd)) := keepc hb (by go_simp)
      have k93 : w6.heap.size < w7.heap.size := by have hq := hb.size; simp at hq; omega
      clear hb k49 k50 k51 k52 k53 k54 k55 k56 k57 k58 k59 k60 k61 k62 k63 k64 k65 k66 k67 k68 k69
      go_wp2
      go_ret
      exact ⟨rfl, (st_alloc B7.out _)⟩
    · have PS := hide (And.intro hp S1.out)
      have PX := hide (And.intro hq X1.out)
      have PY := hide (And.intro ht Y1.out)
      have PZ := hide (And.intro hu Z1.out)
      clear hp hq ht hu
      go_wp2_with fail
      refine (add_as_impl PS.out iS.out _).mono ?_
      rintro e w4 ⟨rfl, hb⟩
      have B4 := hide (st_trans (st_alloc (st_alloc B3.out _) _) hb)
      have k16 : w4.cell? ⟨w1.heap.size, 0, none⟩ = some (.int .i64 (an)) := keepc hb (by go_simp)
      have k17 : w4.cell? ⟨w1.heap.size, 1, none⟩ = some (.int .i64 (ad)) := keepc hb (by go_simp)
      have k18 : w1.heap.size < w4.heap.size := by have hq := hb.size; simp at hq; omega
      have k19 : w4.cell? ⟨w1.heap.size + 1, 0, none⟩ = some (.int .i64 (bn)) := keepc hb (by go_simp)
      have k20 : w4.cell? ⟨w1.heap.size + 1, 1, none⟩ = some (.int .i64 (bd)) := keepc hb (by go_simp)
      have k21 : w1.heap.size + 1 < w4.heap.size := by have hq := hb.size; simp at hq; omega
      have k22 : w4.cell? ⟨w2.heap.size, 0, none⟩ = some (.int .i64 (on)) := keepc hb (by go_simp)
      have k23 : w4.cell? ⟨w2.heap.size, 1, none⟩ = some (.int .i64 (od)) := keepc hb (by go_simp)
      have k24 : w2.heap.size < w4.heap.size := by have hq := hb.size; simp at hq; omega
      have k25 : w4.cell? ⟨w3.heap.size, 0, none⟩ = some (.int .i64 (on)) := keepc hb (by go_simp)
      have k26 : w4.cell? ⟨w3.heap.size, 1, none⟩ = some (.int .i64 (od)) := keepc hb (by go_simp)
      have k27 : w3.heap.size < w4.heap.size := by have hq := hb.size; simp at hq; omega
      have k28 : w4.cell? ⟨w3.heap.size + 1, 0, none⟩ = some (.int .i64 (1)) := keepc hb (by go_simp)
      have k29 : w4.cell? ⟨w3.heap.size + 1, 1, none⟩ = some (.int .i64 (2)) := keepc hb (by go_simp)
      have k30 : w3.heap.size + 1 < w4.heap.size := by have hq := hb.size; simp at hq; omega
      clear hb k7 k8 k9 k10 k11 k12 k13 k14 k15
      go_wp2_with fail
      refine (mul_as_impl PX.out iX.out _).mono ?_
      rintro e w5 ⟨rfl, hb⟩
      have B5 := hide (st_trans (st_alloc B4.out _) hb)
      have k31 : w5.cell? ⟨w1.heap.size, 0, none⟩ = some (.int .i64 (an)) := keepc hb (by go_simp)
      have k32 : w5.cell? ⟨w1.heap.size, 1, none⟩ = some (.int .i64 (ad)) := keepc hb (by go_simp)
      have k33 : w1.heap.size < w5.heap.size := by have hq := hb.size; simp at hq; omega
      have k34 : w5.cell? ⟨w1.heap.size + 1, 0, none⟩ = some (.int .i64 (bn)) := keepc hb (by go_simp)
      have k35 : w5.cell? ⟨w1.heap.size + 1, 1, none⟩ = some (.int .i64 (bd)) := keepc hb (by go_simp)
      have k36 : w1.heap.size + 1 < w5.heap.size := by have hq := hb.size; simp at hq; omega
      have k37 : w5.cell? ⟨w2.heap.size, 0, none⟩ = some (.int .i64 (on)) := keepc hb (by go_simp)
      have k38 : w5.cell? ⟨w2.heap.size, 1, none⟩ = some (.int .i64 (od)) := keepc hb (by go_simp)
      have k39 : w2.heap.size < w5.heap.size := by have hq := hb.size; simp at hq; omega
      have k40 : w5.cell? ⟨w3.heap.size, 0, none⟩ = some (.int .i64 (on)) := keepc hb (by go_simp)
      have k41 : w5.cell? ⟨w3.heap.size, 1, none⟩ = some (.int .i64 (od)) := keepc hb (by go_simp)
      have k42 : w3.heap.size < w5.heap.size := by have hq := hb.size; simp at hq; omega
      have k43 : w5.cell? ⟨w3.heap.size + 1, 0, none⟩ = some (.int .i64 (1)) := keepc hb (by go_simp)
      have k44 : w5.cell? ⟨w3.heap.size + 1, 1, none⟩ = some (.int .i64 (2)) := keepc hb (by go_simp)
      have k45 : w3.heap.size + 1 < w5.heap.size := by have hq := hb.size; simp at hq; omega
      have k46 : w5.cell? ⟨w4.heap.size, 0, none⟩ = some (.int .i64 (sn)) := keepc hb (by go_simp)
      have k47 : w5.cell? ⟨w4.heap.size, 1, none⟩ = some (.int .i64 (sd)) := keepc hb (by go_simp)
      have k48 : w4.heap.size < w5.heap.size := by have hq := hb.size; simp at hq; omega
      clear hb k16 k17 k18 k19 k20 k21 k22 k23 k24 k25 k26 k27 k28 k29 k30
      go_wp2_with fail
      refine (mul_as_impl PY.out iY.out _).mono ?_
      rintro e w6 ⟨rfl, hb⟩
      have B6 := hide (st_trans (st_alloc B5.out _) hb)
      have k49 : w6.cell? ⟨w1.heap.size, 0, none⟩ = some (.int .i64 (an)) := keepc hb (by go_simp)
      have k50 : w6.cell? ⟨w1.heap.size, 1, none⟩ = some (.int .i64 (ad)) := keepc hb (by go_simp)
      have k51 : w1.heap.size < w6.heap.size := by have hq := hb.size; simp at hq; omega
      have k52 : w6.cell? ⟨w1.heap.size + 1, 0, none⟩ = some (.int .i64 (bn)) := keepc hb (by go_simp)
      have k53 : w6.cell? ⟨w1.heap.size + 1, 1, none⟩ = some (.int .i64 (bd)) := keepc hb (by go_simp)
      have k54 : w1.heap.size + 1 < w6.heap.size := by have hq := hb.size; simp at hq; omega
      have k55 : w6.cell? ⟨w2.heap.size, 0, none⟩ = some (.int .i64 (on)) := keepc hb (by go_simp)
      have k56 : w6.cell? ⟨w2.heap.size, 1, none⟩ = some (.int .i64 (od)) := keepc hb (by go_simp)
      have k57 : w2.heap.size < w6.heap.size := by have hq := hb.size; simp at hq; omega
      have k58 : w6.cell? ⟨w3.heap.size, 0, none⟩ = some (.int .i64 (on)) := keepc hb (by go_simp)
      have k59 : w6.cell? ⟨w3.heap.size, 1, none⟩ = some (.int .i64 (od)) := keepc hb (by go_simp)
      have k60 : w3.heap.size < w6.heap.size := by have hq := hb.size; simp at hq; omega
      have k61 : w6.cell? ⟨w3.heap.size + 1, 0, none⟩ = some (.int .i64 (1)) := keepc hb (by go_simp)
      have k62 : w6.cell? ⟨w3.heap.size + 1, 1, none⟩ = some (.int .i64 (2)) := keepc hb (by go_simp)
      have k63 : w3.heap.size + 1 < w6.heap.size := by have hq := hb.size; simp at hq; omega
      have k64 : w6.cell? ⟨w4.heap.size, 0, none⟩ = some (.int .i64 (sn)) := keepc hb (by go_simp)
      have k65 : w6.cell? ⟨w4.heap.size, 1, none⟩ = some (.int .i64 (sd)) := keepc hb (by go_simp)
      have k66 : w4.heap.size < w6.heap.size := by have hq := hb.size; simp at hq; omega
      have k67 : w6.cell? ⟨w5.heap.size, 0, none⟩ = some (.int .i64 (xn)) := keepc hb (by go_simp)
      have k68 : w6.cell? ⟨w5.heap.size, 1, none⟩ = some (.int .i64 (xd)) := keepc hb (by go_simp)
      have k69 : w5.heap.size < w6.heap.size := by have hq := hb.size; simp at hq; omega
      clear hb k31 k32 k33 k34 k35 k36 k37 k38 k39 k40 k41 k42 k43 k44 k45 k46 k47 k48
      go_wp2_with fail
      refine (add_as_impl PZ.out iZ.out _).mono ?_
      rintro e w7 ⟨rfl, hb⟩
      have B7 := hide (st_trans (st_alloc B6.out _) hb)
      have k70 : w7.cell? ⟨w1.heap.size, 0, none⟩ = some (.int .i64 (an)) := keepc hb (by go_simp)
      have k71 : w7.cell? ⟨w1.heap.size, 1, none⟩ = some (.int .i64 (ad)) := keepc hb (by go_simp)
      have k72 : w1.heap.size < w7.heap.size := by have hq := hb.size; simp at hq; omega
      have k73 : w7.cell? ⟨w1.heap.size + 1, 0, none⟩ = some (.int .i64 (bn)) := keepc hb (by go_simp)
      have k74 : w7.cell? ⟨w1.heap.size + 1, 1, none⟩ = some (.int .i64 (bd)) := keepc hb (by go_simp)
      have k75 : w1.heap.size + 1 < w7.heap.size := by have hq := hb.size; simp at hq; omega
      have k76 : w7.cell? ⟨w2.heap.size, 0, none⟩ = some (.int .i64 (on)) := keepc hb (by go_simp)
      have k77 : w7.cell? ⟨w2.heap.size, 1, none⟩ = some (.int .i64 (od)) := keepc hb (by go_simp)
      have k78 : w2.heap.size < w7.heap.size := by have hq := hb.size; simp at hq; omega
      have k79 : w7.cell? ⟨w3.heap.size, 0, none⟩ = some (.int .i64 (on)) := keepc hb (by go_simp)
      have k80 : w7.cell? ⟨w3.heap.size, 1, none⟩ = some (.int .i64 (od)) := keepc hb (by go_simp)
      have k81 : w3.heap.size < w7.heap.size := by have hq := hb.size; simp at hq; omega
      have k82 : w7.cell? ⟨w3.heap.size + 1, 0, none⟩ = some (.int .i64 (1)) := keepc hb (by go_simp)
      have k83 : w7.cell? ⟨w3.heap.size + 1, 1, none⟩ = some (.int .i64 (2)) := keepc hb (by go_simp)
      have k84 : w3.heap.size + 1 < w7.heap.size := by have hq := hb.size; simp at hq; omega
      have k85 : w7.cell? ⟨w4.heap.size, 0, none⟩ = some (.int .i64 (sn)) := keepc hb (by go_simp)
      have k86 : w7.cell? ⟨w4.heap.size, 1, none⟩ = some (.int .i64 (sd)) := keepc hb (by go_simp)
      have k87 : w4.heap.size < w7.heap.size := by have hq := hb.size; simp at hq; omega
      have k88 : w7.cell? ⟨w5.heap.size, 0, none⟩ = some (.int .i64 (xn)) := keepc hb (by go_simp)
      have k89 : w7.cell? ⟨w5.heap.size, 1, none⟩ = some (.int .i64 (xd)) := keepc hb (by go_simp)
      have k90 : w5.heap.size < w7.heap.size := by have hq := hb.size; simp at hq; omega
      have k91 : w7.cell? ⟨w6.heap.size, 0, none⟩ = some (.int .i64 (yn)) := keepc hb (by go_simp)
      have k92 : w7.cell? ⟨w6.heap.size, 1, none⟩ = some (.int .i64 (yd)) := keepc hb (by go_simp)
      have k93 : w6.heap.size < w7.heap.size := by have hq := hb.size; simp at hq; omega
      clear hb k49 k50 k51 k52 k53 k54 k55 k56 k57 k58 k59 k60 k61 k62 k63 k64 k65 k66 k67 k68 k69
      go_wp2
      go_ret
      exact ⟨rfl, (st_alloc B7.out _)⟩
    · have PS := hide (And.intro hp S1.out)
      have PX := hide (And.intro hq X1.out)
      have PY := hide (And.intro ht Y1.out)
      have PZ := hide (And.intro hu Z1.out)
      clear hp hq ht hu
      go_wp2_with fail
      refine (add_as_impl PS.out iS.out _).mono ?_
      rintro e w4 ⟨rfl, hb⟩
      have B4 := hide (st_trans (st_alloc (st_alloc B3.out _) _) hb)
      have k16 : w4.cell? ⟨w1.heap.size, 0, none⟩ = some (.int .i64 (an)) := keepc hb (by go_simp)
      have k17 : w4.cell? ⟨w1.heap.size, 1, none⟩ = some (.int .i64 (ad)) := keepc hb (by go_simp)
      have k18 : w1.heap.size < w4.heap.size := by have hq := hb.size; simp at hq; omega
      have k19 : w4.cell? ⟨w1.heap.size + 1, 0, none⟩ = some (.int .i64 (bn)) := keepc hb (by go_simp)
      have k20 : w4.cell? ⟨w1.heap.size + 1, 1, none⟩ = some (.int .i64 (bd)) := keepc hb (by go_simp)
      have k21 : w1.heap.size + 1 < w4.heap.size := by have hq := hb.size; simp at hq; omega
      have k22 : w4.cell? ⟨w2.heap.size, 0, none⟩ = some (.int .i64 (on)) := keepc hb (by go_simp)
      have k23 : w4.cell? ⟨w2.heap.size, 1, none⟩ = some (.int .i64 (od)) := keepc hb (by go_simp)
      have k24 : w2.heap.size < w4.heap.size := by have hq := hb.size; simp at hq; omega
      have k25 : w4.cell? ⟨w3.heap.size, 0, none⟩ = some (.int .i64 (on)) := keepc hb (by go_simp)
      have k26 : w4.cell? ⟨w3.heap.size, 1, none⟩ = some (.int .i64 (od)) := keepc hb (by go_simp)
      have k27 : w3.heap.size < w4.heap.size := by have hq := hb.size; simp at hq; omega
      have k28 : w4.cell? ⟨w3.heap.size + 1, 0, none⟩ = some (.int .i64 (1)) := keepc hb (by go_simp)
      have k29 : w4.cell? ⟨w3.heap.size + 1, 1, none⟩ = some (.int .i64 (2)) := keepc hb (by go_simp)
      have k30 : w3.heap.size + 1 < w4.heap.size := by have hq := hb.size; simp at hq; omega
      clear hb k7 k8 k9 k10 k11 k12 k13 k14 k15
      go_wp2_with fail
      refine (mul_as_impl PX.out iX.out _).mono ?_
      rintro e w5 ⟨rfl, hb⟩
      have B5 := hide (st_trans (st_alloc B4.out _) hb)
      have k31 : w5.cell? ⟨w1.heap.size, 0, none⟩ = some (.int .i64 (an)) := keepc hb (by go_simp)
      have k32 : w5.cell? ⟨w1.heap.size, 1, none⟩ = some (.int .i64 (ad)) := keepc hb (by go_simp)
      have k33 : w1.heap.size < w5.heap.size := by have hq := hb.size; simp at hq; omega
      have k34 : w5.cell? ⟨w1.heap.size + 1, 0, none⟩ = some (.int .i64 (bn)) := keepc hb (by go_simp)
      have k35 : w5.cell? ⟨w1.heap.size + 1, 1, none⟩ = some (.int .i64 (bd)) := keepc hb (by go_simp)
      have k36 : w1.heap.size + 1 < w5.heap.size := by have hq := hb.size; simp at hq; omega
      have k37 : w5.cell? ⟨w2.heap.size, 0, none⟩ = some (.int .i64 (on)) := keepc hb (by go_simp)
      have k38 : w5.cell? ⟨w2.heap.size, 1, none⟩ = some (.int .i64 (od)) := keepc hb (by go_simp)
      have k39 : w2.heap.size < w5.heap.size := by have hq := hb.size; simp at hq; omega
      have k40 : w5.cell? ⟨w3.heap.size, 0, none⟩ = some (.int .i64 (on)) := keepc hb (by go_simp)
      have k41 : w5.cell? ⟨w3.heap.size, 1, none⟩ = some (.int .i64 (od)) := keepc hb (by go_simp)
      have k42 : w3.heap.size < w5.heap.size := by have hq := hb.size; simp at hq; omega
      have k43 : w5.cell? ⟨w3.heap.size + 1, 0, none⟩ = some (.int .i64 (1)) := keepc hb (by go_simp)
      have k44 : w5.cell? ⟨w3.heap.size + 1, 1, none⟩ = some (.int .i64 (2)) := keepc hb (by go_simp)
      have k45 : w3.heap.size + 1 < w5.heap.size := by have hq := hb.size; simp at hq; omega
      have k46 : w5.cell? ⟨w4.heap.size, 0, none⟩ = some (.int .i64 (sn)) := keepc hb (by go_simp)
      have k47 : w5.cell? ⟨w4.heap.size, 1, none⟩ = some (.int .i64 (sd)) := keepc hb (by go_simp)
      have k48 : w4.heap.size < w5.heap.size := by have hq := hb.size; simp at hq; omega
      clear hb k16 k17 k18 k19 k20 k21 k22 k23 k24 k25 k26 k27 k28 k29 k30
      go_wp2_with fail
      refine (mul_as_impl PY.out iY.out _).mono ?_
      rintro e w6 ⟨rfl, hb⟩
      have B6 := hide (st_trans (st_alloc B5.out _) hb)
      have k49 : w6.cell? ⟨w1.heap.size, 0, none⟩ = some (.int .i64 (an)) := keepc hb (by go_simp)
      have k50 : w6.cell? ⟨w1.heap.size, 1, none⟩ = some (.int .i64 (ad)) := keepc hb (by go_simp)
      have k51 : w1.heap.size < w6.heap.size := by have hq := hb.size; simp at hq; omega
      have k52 : w6.cell? ⟨w1.heap.size + 1, 0, none⟩ = some (.int .i64 (bn)) := keepc hb (by go_simp)
      have k53 : w6.cell? ⟨w1.heap.size + 1, 1, none⟩ = some (.int .i64 (bd)) := keepc hb (by go_simp)
      have k54 : w1.heap.size + 1 < w6.heap.size := by have hq := hb.size; simp at hq; omega
      have k55 : w6.cell? ⟨w2.heap.size, 0, none⟩ = some (.int .i64 (on)) := keepc hb (by go_simp)
      have k56 : w6.cell? ⟨w2.heap.size, 1, none⟩ = some (.int .i64 (od)) := keepc hb (by go_simp)
      have k57 : w2.heap.size < w6.heap.size := by have hq := hb.size; simp at hq; omega
      have k58 : w6.cell? ⟨w3.heap.size, 0, none⟩ = some (.int .i64 (on)) := keepc hb (by go_simp)
      have k59 : w6.cell? ⟨w3.heap.size, 1, none⟩ = some (.int .i64 (od)) := keepc hb (by go_simp)
      have k60 : w3.heap.size < w6.heap.size := by have hq := hb.size; simp at hq; omega
      have k61 : w6.cell? ⟨w3.heap.size + 1, 0, none⟩ = some (.int .i64 (1)) := keepc hb (by go_simp)
      have k62 : w6.cell? ⟨w3.heap.size + 1, 1, none⟩ = some (.int .i64 (2)) := keepc hb (by go_simp)
      have k63 : w3.heap.size + 1 < w6.heap.size := by have hq := hb.size; simp at hq; omega
      have k64 : w6.cell? ⟨w4.heap.size, 0, none⟩ = some (.int .i64 (sn)) := keepc hb (by go_simp)
      have k65 : w6.cell? ⟨w4.heap.size, 1, none⟩ = some (.int .i64 (sd)) := keepc hb (by go_simp)
      have k66 : w4.heap.size < w6.heap.size := by have hq := hb.size; simp at hq; omega
      have k67 : w6.cell? ⟨w5.heap.size, 0, none⟩ = some (.int .i64 (xn)) := keepc hb (by go_simp)
      have k68 : w6.cell? ⟨w5.heap.size, 1, none⟩ = some (.int .i64 (xd)) := keepc hb (by go_simp)
      have k69 : w5.heap.size < w6.heap.size := by have hq := hb.size; simp at hq; omega
      clear hb k31 k32 k33 k34 k35 k36 k37 k38 k39 k40 k41 k42 k43 k44 k45 k46 k47 k48
      go_wp2_with fail
      refine (add_as_impl PZ.out iZ.out _).mono ?_
      rintro e w7 ⟨rfl, hb⟩
      have B7 := hide (st_trans (st_alloc B6.out _) hb)
      have k70 : w7.cell? ⟨w1.heap.size, 0, none⟩ = some (.int .i64 (an)) := keepc hb (by go_simp)
      have k71 : w7.cell? ⟨w1.heap.size, 1, none⟩ = some (.int .i64 (ad)) := keepc hb (by go_simp)
      have k72 : w1.heap.size < w7.heap.size := by have hq := hb.size; simp at hq; omega
      have k73 : w7.cell? ⟨w1.heap.size + 1, 0, none⟩ = some (.int .i64 (bn)) := keepc hb (by go_simp)
      have k74 : w7.cell? ⟨w1.heap.size + 1, 1, none⟩ = some (.int .i64 (bd)) := keepc hb (by go_simp)
      have k75 : w1.heap.size + 1 < w7.heap.size := by have hq := hb.size; simp at hq; omega
      have k76 : w7.cell? ⟨w2.heap.size, 0, none⟩ = some (.int .i64 (on)) := keepc hb (by go_simp)
      have k77 : w7.cell? ⟨w2.heap.size, 1, none⟩ = some (.int .i64 (od)) := keepc hb (by go_simp)
      have k78 : w2.heap.size < w7.heap.size := by have hq := hb.size; simp at hq; omega
      have k79 : w7.cell? ⟨w3.heap.size, 0, none⟩ = some (.int .i64 (on)) := keepc hb (by go_simp)
      have k80 : w7.cell? ⟨w3.heap.size, 1, none⟩ = some (.int .i64 (od)) := keepc hb (by go_simp)
      have k81 : w3.heap.size < w7.heap.size := by have hq := hb.size; simp at hq; omega
      have k82 : w7.cell? ⟨w3.heap.size + 1, 0, none⟩ = some (.int .i64 (1)) := keepc hb (by go_simp)
      have k83 : w7.cell? ⟨w3.heap.size + 1, 1, none⟩ = some (.int .i64 (2)) := keepc hb (by go_simp)
      have k84 : w3.heap.size + 1 < w7.heap.size := by have hq := hb.size; simp at hq; omega
      have k85 : w7.cell? ⟨w4.heap.size, 0, none⟩ = some (.int .i64 (sn)) := keepc hb (by go_simp)
      have k86 : w7.cell? ⟨w4.heap.size, 1, none⟩ = some (.int .i64 (sd)) := keepc hb (by go_simp)
      have k87 : w4.heap.size < w7.heap.size := by have hq := hb.size; simp at hq; omega
      have k88 : w7.cell? ⟨w5.heap.size, 0, none⟩ = some (.int .i64 (xn)) := keepc hb (by go_simp)
      have k89 : w7.cell? ⟨w5.heap.size, 1, none⟩ = some (.int .i64 (xd)) := keepc hb (by go_simp)
      have k90 : w5.heap.size < w7.heap.size := by have hq := hb.size; simp at hq; omega
      have k91 : w7.cell? ⟨w6.heap.size, 0, none⟩ = some (.int .i64 (yn)) := keepc hb (by go_simp)
      have k92 : w7.cell? ⟨w6.heap.size, 1, none⟩ = some (.int .i64 (yd)) := keepc hb (by go_simp)
      have k93 : w6.heap.size < w7.heap.size := by have hq := hb.size; simp at hq; omega
      clear hb k49 k50 k51 k52 k53 k54 k55 k56 k57 k58 k59 k60 k61 k62 k63 k64 k65 k66 k67 k68 k69
      go_wp2
      go_ret
      exact ⟨rfl, (st_alloc B7.out _)⟩
    · have PS := hide (And.intro hp S1.out)
      have PX := hide (And.intro hq X1.out)
      have PY := hide (And.intro ht Y1.out)
      have PZ := hide (And.intro hu Z1.out)
      clear hp hq ht hu
      go_wp2_with fail
      refine (add_as_impl PS.out iS.out _).mono ?_
      rintro e w4 ⟨rfl, hb⟩
      have B4 := hide (st_trans (st_alloc (st_alloc B3.out _) _) hb)
      have k16 : w4.cell? ⟨w1.heap.size, 0, none⟩ = some (.int .i64 (an)) := keepc hb (by go_simp)
      have k17 : w4.cell? ⟨w1.heap.size, 1, none⟩ = some (.int .i64 (ad)) := keepc hb (by go_simp)
      have k18 : w1.heap.size < w4.heap.size := by have hq := hb.size; simp at hq; omega
      have k19 : w4.cell? ⟨w1.heap.size + 1, 0, none⟩ = some (.int .i64 (bn)) := keepc hb (by go_simp)
      have k20 : w4.cell? ⟨w1.heap.size + 1, 1, none⟩ = some (.int .i64 (bd)) := keepc hb (by go_simp)
      have k21 : w1.heap.size + 1 < w4.heap.size := by have hq := hb.size; simp at hq; omega
      have k22 : w4.cell? ⟨w2.heap.size, 0, none⟩ = some (.int .i64 (on)) := keepc hb (by go_simp)
      have k23 : w4.cell? ⟨w2.heap.size, 1, none⟩ = some (.int .i64 (od)) := keepc hb (by go_simp)
      have k24 : w2.heap.size < w4.heap.size := by have hq := hb.size; simp at hq; omega
      have k25 : w4.cell? ⟨w3.heap.size, 0, none⟩ = some (.int .i64 (on)) := keepc hb (by go_simp)
      have k26 : w4.cell? ⟨w3.heap.size, 1, none⟩ = some (.int .i64 (od)) := keepc hb (by go_simp)
      have k27 : w3.heap.size < w4.heap.size := by have hq := hb.size; simp at hq; omega
      have k28 : w4.cell? ⟨w3.heap.size + 1, 0, none⟩ = some (.int .i64 (1)) := keepc hb (by go_simp)
      have k29 : w4.cell? ⟨w3.heap.size + 1, 1, none⟩ = some (.int .i64 (2)) := keepc hb (by go_simp)
      have k30 : w3.heap.size + 1 < w4.heap.size := by have hq := hb.size; simp at hq; omega
      clear hb k7 k8 k9 k10 k11 k12 k13 k14 k15
      go_wp2_with fail
      refine (mul_as_impl PX.out iX.out _).mono ?_
      rintro e w5 ⟨rfl, hb⟩
      have B5 := hide (st_trans (st_alloc B4.out _) hb)
      have k31 : w5.cell? ⟨w1.heap.size, 0, none⟩ = some (.int .i64 (an)) := keepc hb (by go_simp)
      have k32 : w5.cell? ⟨w1.heap.size, 1, none⟩ = some (.int .i64 (ad)) := keepc hb (by go_simp)
      have k33 : w1.heap.size < w5.heap.size := by have hq := hb.size; simp at hq; omega
      have k34 : w5.cell? ⟨w1.heap.size + 1, 0, none⟩ = some (.int .i64 (bn)) := keepc hb (by go_simp)
      have k35 : w5.cell? ⟨w1.heap.size + 1, 1, none⟩ = some (.int .i64 (bd)) := keepc hb (by go_simp)
      have k36 : w1.heap.size + 1 < w5.heap.size := by have hq := hb.size; simp at hq; omega
      have k37 : w5.cell? ⟨w2.heap.size, 0, none⟩ = some (.int .i64 (on)) := keepc hb (by go_simp)
      have k38 : w5.cell? ⟨w2.heap.size, 1, none⟩ = some (.int .i64 (od)) := keepc hb (by go_simp)
      have k39 : w2.heap.size < w5.heap.size := by have hq := hb.size; simp at hq; omega
      have k40 : w5.cell? ⟨w3.heap.size, 0, none⟩ = some (.int .i64 (on)) := keepc hb (by go_simp)
      have k41 : w5.cell? ⟨w3.heap.size, 1, none⟩ = some (.int .i64 (od)) := keepc hb (by go_simp)
      have k42 : w3.heap.size < w5.heap.size := by have hq := hb.size; simp at hq; omega
      have k43 : w5.cell? ⟨w3.heap.size + 1, 0, none⟩ = some (.int .i64 (1)) := keepc hb (by go_simp)
      have k44 : w5.cell? ⟨w3.heap.size + 1, 1, none⟩ = some (.int .i64 (2)) := keepc hb (by go_simp)
      have k45 : w3.heap.size + 1 < w5.heap.size := by have hq := hb.size; simp at hq; omega
      have k46 : w5.cell? ⟨w4.heap.size, 0, none⟩ = some (.int .i64 (sn)) := keepc hb (by go_simp)
      have k47 : w5.cell? ⟨w4.heap.size, 1, none⟩ = some (.int .i64 (sd)) := keepc hb (by go_simp)
      have k48 : w4.heap.size < w5.heap.size := by have hq := hb.size; simp at hq; omega
      clear hb k16 k17 k18 k19 k20 k21 k22 k23 k24 k25 k26 k27 k28 k29 k30
      go_wp2_with fail
      refine (mul_as_impl PY.out iY.out _).mono ?_
      rintro e w6 ⟨rfl, hb⟩
      have B6 := hide (st_trans (st_alloc B5.out _) hb)
      have k49 : w6.cell? ⟨w1.heap.size, 0, none⟩ = some (.int .i64 (an)) := keepc hb (by go_simp)
      have k50 : w6.cell? ⟨w1.heap.size, 1, none⟩ = some (.int .i64 (ad)) := keepc hb (by go_simp)
      have k51 : w1.heap.size < w6.heap.size := by have hq := hb.size; simp at hq; omega
      have k52 : w6.cell? ⟨w1.heap.size + 1, 0, none⟩ = some (.int .i64 (bn)) := keepc hb (by go_simp)
      have k53 : w6.cell? ⟨w1.heap.size + 1, 1, none⟩ = some (.int .i64 (bd)) := keepc hb (by go_simp)
      have k54 : w1.heap.size + 1 < w6.heap.size := by have hq := hb.size; simp at hq; omega
      have k55 : w6.cell? ⟨w2.heap.size, 0, none⟩ = some (.int .i64 (on)) := keepc hb (by go_simp)
      have k56 : w6.cell? ⟨w2.heap.size, 1, none⟩ = some (.int .i64 (od)) := keepc hb (by go_simp)
      have k57 : w2.heap.size < w6.heap.size := by have hq := hb.size; simp at hq; omega
      have k58 : w6.cell? ⟨w3.heap.size, 0, none⟩ = some (.int .i64 (on)) := keepc hb (by go_simp)
      have k59 : w6.cell? ⟨w3.heap.size, 1, none⟩ = some (.int .i64 (od)) := keepc hb (by go_simp)
      have k60 : w3.heap.size < w6.heap.size := by have hq := hb.size; simp at hq; omega
      have k61 : w6.cell? ⟨w3.heap.size + 1, 0, none⟩ = some (.int .i64 (1)) := keepc hb (by go_simp)
      have k62 : w6.cell? ⟨w3.heap.size + 1, 1, none⟩ = some (.int .i64 (2)) := keepc hb (by go_simp)
      have k63 : w3.heap.size + 1 < w6.heap.size := by have hq := hb.size; simp at hq; omega
      have k64 : w6.cell? ⟨w4.heap.size, 0, none⟩ = some (.int .i64 (sn)) := keepc hb (by go_simp)
      have k65 : w6.cell? ⟨w4.heap.size, 1, none⟩ = some (.int .i64 (sd)) := keepc hb (by go_simp)
      have k66 : w4.heap.size < w6.heap.size := by have hq := hb.size; simp at hq; omega
      have k67 : w6.cell? ⟨w5.heap.size, 0, none⟩ = some (.int .i64 (xn)) := keepc hb (by go_simp)
      have k68 : w6.cell? ⟨w5.heap.size, 1, none⟩ = some (.int .i64 (xd)) := keepc hb (by go_simp)
      have k69 : w5.heap.size < w6.heap.size := by have hq := hb.size; simp at hq; omega
      clear hb k31 k32 k33 k34 k35 k36 k37 k38 k39 k40 k41 k42 k43 k44 k45 k46 k47 k48
      go_wp2_with fail
      refine (add_as_impl PZ.out iZ.out _).mono ?_
      rintro e w7 ⟨rfl, hb⟩
      have B7 := hide (st_trans (st_alloc B6.out _) hb)
      have k70 : w7.cell? ⟨w1.heap.size, 0, none⟩ = some (.int .i64 (an)) := keepc hb (by go_simp)
      have k71 : w7.cell? ⟨w1.heap.size, 1, none⟩ = some (.int .i64 (ad)) := keepc hb (by go_simp)
      have k72 : w1.heap.size < w7.heap.size := by have hq := hb.size; simp at hq; omega
      have k73 : w7.cell? ⟨w1.heap.size + 1, 0, none⟩ = some (.int .i64 (bn)) := keepc hb (by go_simp)
      have k74 : w7.cell? ⟨w1.heap.size + 1, 1, none⟩ = some (.int .i64 (bd)) := keepc hb (by go_simp)
      have k75 : w1.heap.size + 1 < w7.heap.size := by have hq := hb.size; simp at hq; omega
      have k76 : w7.cell? ⟨w2.heap.size, 0, none⟩ = some (.int .i64 (on)) := keepc hb (by go_simp)
      have k77 : w7.cell? ⟨w2.heap.size, 1, none⟩ = some (.int .i64 (od)) := keepc hb (by go_simp)
      have k78 : w2.heap.size < w7.heap.size := by have hq := hb.size; simp at hq; omega
      have k79 : w7.cell? ⟨w3.heap.size, 0, none⟩ = some (.int .i64 (on)) := keepc hb (by go_simp)
      have k80 : w7.cell? ⟨w3.heap.size, 1, none⟩ = some (.int .i64 (od)) := keepc hb (by go_simp)
      have k81 : w3.heap.size < w7.heap.size := by have hq := hb.size; simp at hq; omega
      have k82 : w7.cell? ⟨w3.heap.size + 1, 0, none⟩ = some (.int .i64 (1)) := keepc hb (by go_simp)
      have k83 : w7.cell? ⟨w3.heap.size + 1, 1, none⟩ = some (.int .i64 (2)) := keepc hb (by go_simp)
      have k84 : w3.heap.size + 1 < w7.heap.size := by have hq := hb.size; simp at hq; omega
      have k85 : w7.cell? ⟨w4.heap.size, 0, none⟩ = some (.int .i64 (sn)) := keepc hb (by go_simp)
      have k86 : w7.cell? ⟨w4.heap.size, 1, none⟩ = some (.int .i64 (sd)) := keepc hb (by go_simp)
      have k87 : w4.heap.size < w7.heap.size := by have hq := hb.size; simp at hq; omega
      have k88 : w7.cell? ⟨w5.heap.size, 0, none⟩ = some (.int .i64 (xn)) := keepc hb (by go_simp)
      have k89 : w7.cell? ⟨w5.heap.size, 1, none⟩ = some (.int .i64 (xd)) := keepc hb (by go_simp)
      have k90 : w5.heap.size < w7.heap.size := by have hq := hb.size; simp at hq; omega
      have k91 : w7.cell? ⟨w6.heap.size, 0, none⟩ = some (.int .i64 (yn)) := keepc hb (by go_simp)
      have k92 : w7.cell? ⟨w6.heap.size, 1, none⟩ = some (.int .i64 (yd)) := keepc hb (by go_simp)
      have k93 : w6.heap.size < w7.heap.size := by have hq := hb.size; simp at hq; omega
      clear hb k49 k50 k51 k52 k53 k54 k55 k56 k57 k58 k59 k60 k61 k62 k63 k64 k65 k66 k67 k68 k69
      go_wp2
      go_ret
      exact ⟨rfl, (st_alloc B7.out _)⟩
    · have PS := hide (And.intro hp S1.out)
      have PX := hide (And.intro hq X1.out)
      have PY := hide (And.intro ht Y1.out)
      have PZ := hide (And.intro hu Z1.out)
      clear hp hq ht hu
      go_wp2_with fail
      refine (add_as_impl PS.out iS.out _).mono ?_
      rintro e w4 ⟨rfl, hb⟩
      have B4 := hide (st_trans (st_alloc (st_alloc B3.out _) _) hb)
      have k16 : w4.cell? ⟨w1.heap.size, 0, none⟩ = some (.int .i64 (an)) := keepc hb (by go_simp)
      have k17 : w4.cell? ⟨w1.heap.size, 1, none⟩ = some (.int .i64 (ad)) := keepc hb (by go_simp)
      have k18 : w1.heap.size < w4.heap.size := by have hq := hb.size; simp at hq; omega
      have k19 : w4.cell? ⟨w1.heap.size + 1, 0, none⟩ = some (.int .i64 (bn)) := keepc hb (by go_simp)
      have k20 : w4.cell? ⟨w1.heap.size + 1, 1, none⟩ = some (.int .i64 (bd)) := keepc hb (by go_simp)
      have k21 : w1.heap.size + 1 < w4.heap.size := by have hq := hb.size; simp at hq; omega
      have k22 : w4.cell? ⟨w2.heap.size, 0, none⟩ = some (.int .i64 (on)) := keepc hb (by go_simp)
      have k23 : w4.cell? ⟨w2.heap.size, 1, none⟩ = some (.int .i64 (od)) := keepc hb (by go_simp)
      have k24 : w2.heap.size < w4.heap.size := by have hq := hb.size; simp at hq; omega
      have k25 : w4.cell? ⟨w3.heap.size, 0, none⟩ = some (.int .i64 (on)) := keepc hb (by go_simp)
      have k26 : w4.cell? ⟨w3.heap.size, 1, none⟩ = some (.int .i64 (od)) := keepc hb (by go_simp)
      have k27 : w3.heap.size < w4.heap.size := by have hq := hb.size; simp at hq; omega
      have k28 : w4.cell? ⟨w3.heap.size + 1, 0, none⟩ = some (.int .i64 (1)) := keepc hb (by go_simp)
      have k29 : w4.cell? ⟨w3.heap.size + 1, 1, none⟩ = some (.int .i64 (2)) := keepc hb (by go_simp)
      have k30 : w3.heap.size + 1 < w4.heap.size := by have hq := hb.size; simp at hq; omega
      clear hb k7 k8 k9 k10 k11 k12 k13 k14 k15
      go_wp2_with fail
      refine (mul_as_impl PX.out iX.out _).mono ?_
      rintro e w5 ⟨rfl, hb⟩
      have B5 := hide (st_trans (st_alloc B4.out _) hb)
      have k31 : w5.cell? ⟨w1.heap.size, 0, none⟩ = some (.int .i64 (an)) := keepc hb (by go_simp)
      have k32 : w5.cell? ⟨w1.heap.size, 1, none⟩ = some (.int .i64 (ad)) := keepc hb (by go_simp)
      have k33 : w1.heap.size < w5.heap.size := by have hq := hb.size; simp at hq; omega
      have k34 : w5.cell? ⟨w1.heap.size + 1, 0, none⟩ = some (.int .i64 (bn)) := keepc hb (by go_simp)
      have k35 : w5.cell? ⟨w1.heap.size + 1, 1, none⟩ = some (.int .i64 (bd)) := keepc hb (by go_simp)
      have k36 : w1.heap.size + 1 < w5.heap.size := by have hq := hb.size; simp at hq; omega
      have k37 : w5.cell? ⟨w2.heap.size, 0, none⟩ = some (.int .i64 (on)) := keepc hb (by go_simp)
      have k38 : w5.cell? ⟨w2.heap.size, 1, none⟩ = some (.int .i64 (od)) := keepc hb (by go_simp)
      have k39 : w2.heap.size < w5.heap.size := by have hq := hb.size; simp at hq; omega
      have k40 : w5.cell? ⟨w3.heap.size, 0, none⟩ = some (.int .i64 (on)) := keepc hb (by go_simp)
      have k41 : w5.cell? ⟨w3.heap.size, 1, none⟩ = some (.int .i64 (od)) := keepc hb (by go_simp)
      have k42 : w3.heap.size < w5.heap.size := by have hq := hb.size; simp at hq; omega
      have k43 : w5.cell? ⟨w3.heap.size + 1, 0, none⟩ = some (.int .i64 (1)) := keepc hb (by go_simp)
      have k44 : w5.cell? ⟨w3.heap.size + 1, 1, none⟩ = some (.int .i64 (2)) := keepc hb (by go_simp)
      have k45 : w3.heap.size + 1 < w5.heap.size := by have hq := hb.size; simp at hq; omega
      have k46 : w5.cell? ⟨w4.heap.size, 0, none⟩ = some (.int .i64 (sn)) := keepc hb (by go_simp)
      have k47 : w5.cell? ⟨w4.heap.size, 1, none⟩ = some (.int .i64 (sd)) := keepc hb (by go_simp)
      have k48 : w4.heap.size < w5.heap.size := by have hq := hb.size; simp at hq; omega
      clear hb k16 k17 k18 k19 k20 k21 k22 k23 k24 k25 k26 k27 k28 k29 k30
      go_wp2_with fail
      refine (mul_as_impl PY.out iY.out _).mono ?_
      rintro e w6 ⟨rfl, hb⟩
      have B6 := hide (st_trans (st_alloc B5.out _) hb)
      have k49 : w6.cell? ⟨w1.heap.size, 0, none⟩ = some (.int .i64 (an)) := keepc hb (by go_simp)
      have k50 : w6.cell? ⟨w1.heap.size, 1, none⟩ = some (.int .i64 (ad)) := keepc hb (by go_simp)
      have k51 : w1.heap.size < w6.heap.size := by have hq := hb.size; simp at hq; omega
      have k52 : w6.cell? ⟨w1.heap.size + 1, 0, none⟩ = some (.int .i64 (bn)) := keepc hb (by go_simp)
      have k53 : w6.cell? ⟨w1.heap.size + 1, 1, none⟩ = some (.int .i64 (bd)) := keepc hb (by go_simp)
      have k54 : w1.heap.size + 1 < w6.heap.size := by have hq := hb.size; simp at hq; omega
      have k55 : w6.cell? ⟨w2.heap.size, 0, none⟩ = some (.int .i64 (on)) := keepc hb (by go_simp)
      have k56 : w6.cell? ⟨w2.heap.size, 1, none⟩ = some (.int .i64 (od)) := keepc hb (by go_simp)
      have k57 : w2.heap.size < w6.heap.size := by have hq := hb.size; simp at hq; omega
      have k58 : w6.cell? ⟨w3.heap.size, 0, none⟩ = some (.int .i64 (on)) := keepc hb (by go_simp)
      have k59 : w6.cell? ⟨w3.heap.size, 1, none⟩ = some (.int .i64 (od)) := keepc hb (by go_simp)
      have k60 : w3.heap.size < w6.heap.size := by have hq := hb.size; simp at hq; omega
      have k61 : w6.cell? ⟨w3.heap.size + 1, 0, none⟩ = some (.int .i64 (1)) := keepc hb (by go_simp)
      have k62 : w6.cell? ⟨w3.heap.size + 1, 1, none⟩ = some (.int .i64 (2)) := keepc hb (by go_simp)
      have k63 : w3.heap.size + 1 < w6.heap.size := by have hq := hb.size; simp at hq; omega
      have k64 : w6.cell? ⟨w4.heap.size, 0, none⟩ = some (.int .i64 (sn)) := keepc hb (by go_simp)
      have k65 : w6.cell? ⟨w4.heap.size, 1, none⟩ = some (.int .i64 (sd)) := keepc hb (by go_simp)
      have k66 : w4.heap.size < w6.heap.size := by have hq := hb.size; simp at hq; omega
      have k67 : w6.cell? ⟨w5.heap.size, 0, none⟩ = some (.int .i64 (xn)) := keepc hb (by go_simp)
      have k68 : w6.cell? ⟨w5.heap.size, 1, none⟩ = some (.int .i64 (xd)) := keepc hb (by go_simp)
      have k69 : w5.heap.size < w6.heap.size := by have hq := hb.size; simp at hq; omega
      clear hb k31 k32 k33 k34 k35 k36 k37 k38 k39 k40 k41 k42 k43 k44 k45 k46 k47 k48
      go_wp2_with fail
      refine (add_as_impl PZ.out iZ.out _).mono ?_
      rintro e w7 ⟨rfl, hb⟩
      have B7 := hide (st_trans (st_alloc B6.out _) hb)
      have k70 : w7.cell? ⟨w1.heap.size, 0, none⟩ = some (.int .i64 (an)) := keepc hb (by go_simp)
      have k71 : w7.cell? ⟨w1.heap.size, 1, none⟩ = some (.int .i64 (ad)) := keepc hb (by go_simp)
      have k72 : w1.heap.size < w7.heap.size := by have hq := hb.size; simp at hq; omega
      have k73 : w7.cell? ⟨w1.heap.size + 1, 0, none⟩ = some (.int .i64 (bn)) := keepc hb (by go_simp)
      have k74 : w7.cell? ⟨w1.heap.size + 1, 1, none⟩ = some (.int .i64 (bd)) := keepc hb (by go_simp)
      have k75 : w1.heap.size + 1 < w7.heap.size := by have hq := hb.size; simp at hq; omega
      have k76 : w7.cell? ⟨w2.heap.size, 0, none⟩ = some (.int .i64 (on)) := keepc hb (by go_simp)
      have k77 : w7.cell? ⟨w2.heap.size, 1, none⟩ = some (.int .i64 (od)) := keepc hb (by go_simp)
      have k78 : w2.heap.size < w7.heap.size := by have hq := hb.size; simp at hq; omega
      have k79 : w7.cell? ⟨w3.heap.size, 0, none⟩ = some (.int .i64 (on)) := keepc hb (by go_simp)
      have k80 : w7.cell? ⟨w3.heap.size, 1, none⟩ = some (.int .i64 (od)) := keepc hb (by go_simp)
      have k81 : w3.heap.size < w7.heap.size := by have hq := hb.size; simp at hq; omega
      have k82 : w7.cell? ⟨w3.heap.size + 1, 0, none⟩ = some (.int .i64 (1)) := keepc hb (by go_simp)
      have k83 : w7.cell? ⟨w3.heap.size + 1, 1, none⟩ = some (.int .i64 (2)) := keepc hb (by go_simp)
      have k84 : w3.heap.size + 1 < w7.heap.size := by have hq := hb.size; simp at hq; omega
      have k85 : w7.cell? ⟨w4.heap.size, 0, none⟩ = some (.int .i64 (sn)) := keepc hb (by go_simp)
      have k86 : w7.cell? ⟨w4.heap.size, 1, none⟩ = some (.int .i64 (sd)) := keepc hb (by go_simp)
      have k87 : w4.heap.size < w7.heap.size := by have hq := hb.size; simp at hq; omega
      have k88 : w7.cell? ⟨w5.heap.size, 0, none⟩ = some (.int .i64 (xn)) := keepc hb (by go_simp)
      have k89 : w7.cell? ⟨w5.heap.size, 1, none⟩ = some (.int .i64 (xd)) := keepc hb (by go_simp)
      have k90 : w5.heap.size < w7.heap.size := by have hq := hb.size; simp at hq; omega
      have k91 : w7.cell? ⟨w6.heap.size, 0, none⟩ = some (.int .i64 (yn)) := keepc hb (by go_simp)
      have k92 : w7.cell? ⟨w6.heap.size, 1, none⟩ = some (.int .i64 (yd)) := keepc hb (by go_simp)
      have k93 : w6.heap.size < w7.heap.size := by have hq := hb.size; simp at hq; omega
      clear hb k49 k50 k51 k52 k53 k54 k55 k56 k57 k58 k59 k60 k61 k62 k63 k64 k65 k66 k67 k68 k69
      go_wp2
      go_ret
      exact ⟨rfl, (st_alloc B7.out _)⟩
    · have PS := hide (And.intro hp S1.out)
      have PX := hide (And.intro hq X1.out)
      have PY := hide (And.intro ht Y1.out)
      have PZ := hide (And.intro hu Z1.out)
      clear hp hq ht hu
      go_wp2_with fail
      refine (add_as_impl PS.out iS.out _).mono ?_
      rintro e w4 ⟨rfl, hb⟩
      have B4 := hide (st_trans (st_alloc (st_alloc B3.out _) _) hb)
      have k16 : w4.cell? ⟨w1.heap.size, 0, none⟩ = some (.int .i64 (an)) := keepc hb (by go_simp)
      have k17 : w4.cell? ⟨w1.heap.size, 1, none⟩ = some (.int .i64 (ad)) := keepc hb (by go_simp)
      have k18 : w1.heap.size < w4.heap.size := by have hq := hb.size; simp at hq; omega
      have k19 : w4.cell? ⟨w1.heap.size + 1, 0, none⟩ = some (.int .i64 (bn)) := keepc hb (by go_simp)
      have k20 : w4.cell? ⟨w1.heap.size + 1, 1, none⟩ = some (.int .i64 (bd)) := keepc hb (by go_simp)
      have k21 : w1.heap.size + 1 < w4.heap.size := by have hq := hb.size; simp at hq; omega
      have k22 : w4.cell? ⟨w2.heap.size, 0, none⟩ = some (.int .i64 (on)) := keepc hb (by go_simp)
      have k23 : w4.cell? ⟨w2.heap.size, 1, none⟩ = some (.int .i64 (od)) := keepc hb (by go_simp)
      have k24 : w2.heap.size < w4.heap.size := by have hq := hb.size; simp at hq; omega
      have k25 : w4.cell? ⟨w3.heap.size, 0, none⟩ = some (.int .i64 (on)) := keepc hb (by go_simp)
      have k26 : w4.cell? ⟨w3.heap.size, 1, none⟩ = some (.int .i64 (od)) := keepc hb (by go_simp)
      have k27 : w3.heap.size < w4.heap.size := by have hq := hb.size; simp at hq; omega
      have k28 : w4.cell? ⟨w3.heap.size + 1, 0, none⟩ = some (.int .i64 (1)) := keepc hb (by go_simp)
      have k29 : w4.cell? ⟨w3.heap.size + 1, 1, none⟩ = some (.int .i64 (2)) := keepc hb (by go_simp)
      have k30 : w3.heap.size + 1 < w4.heap.size := by have hq := hb.size; simp at hq; omega
      clear hb k7 k8 k9 k10 k11 k12 k13 k14 k15
      go_wp2_with fail
      refine (mul_as_impl PX.out iX.out _).mono ?_
      rintro e w5 ⟨rfl, hb⟩
      have B5 := hide (st_trans (st_alloc B4.out _) hb)
      have k31 : w5.cell? ⟨w1.heap.size, 0, none⟩ = some (.int .i64 (an)) := keepc hb (by go_simp)
      have k32 : w5.cell? ⟨w1.heap.size, 1, none⟩ = some (.int .i64 (ad)) := keepc hb (by go_simp)
      have k33 : w1.heap.size < w5.heap.size := by have hq := hb.size; simp at hq; omega
      have k34 : w5.cell? ⟨w1.heap.size + 1, 0, none⟩ = some (.int .i64 (bn)) := keepc hb (by go_simp)
      have k35 : w5.cell? ⟨w1.heap.size + 1, 1, none⟩ = some (.int .i64 (bd)) := keepc hb (by go_simp)
      have k36 : w1.heap.size + 1 < w5.heap.size := by have hq := hb.size; simp at hq; omega
      have k37 : w5.cell? ⟨w2.heap.size, 0, none⟩ = some (.int .i64 (on)) := keepc hb (by go_simp)
      have k38 : w5.cell? ⟨w2.heap.size, 1, none⟩ = some (.int .i64 (od)) := keepc hb (by go_simp)
      have k39 : w2.heap.size < w5.heap.size := by have hq := hb.size; simp at hq; omega
      have k40 : w5.cell? ⟨w3.heap.size, 0, none⟩ = some (.int .i64 (on)) := keepc hb (by go_simp)
      have k41 : w5.cell? ⟨w3.heap.size, 1, none⟩ = some (.int .i64 (od)) := keepc hb (by go_simp)
      have k42 : w3.heap.size < w5.heap.size := by have hq := hb.size; simp at hq; omega
      have k43 : w5.cell? ⟨w3.heap.size + 1, 0, none⟩ = some (.int .i64 (1)) := keepc hb (by go_simp)
      have k44 : w5.cell? ⟨w3.heap.size + 1, 1, none⟩ = some (.int .i64 (2)) := keepc hb (by go_simp)
      have k45 : w3.heap.size + 1 < w5.heap.size := by have hq := hb.size; simp at hq; omega
      have k46 : w5.cell? ⟨w4.heap.size, 0, none⟩ = some (.int .i64 (sn)) := keepc hb (by go_simp)
      have k47 : w5.cell? ⟨w4.heap.size, 1, none⟩ = some (.int .i64 (sd)) := keepc hb (by go_simp)
      have k48 : w4.heap.size < w5.heap.size := by have hq := hb.size; simp at hq; omega
      clear hb k16 k17 k18 k19 k20 k21 k22 k23 k24 k25 k26 k27 k28 k29 k30
      go_wp2_with fail
      refine (mul_as_impl PY.out iY.out _).mono ?_
      rintro e w6 ⟨rfl, hb⟩
      have B6 := hide (st_trans (st_alloc B5.out _) hb)
      have k49 : w6.cell? ⟨w1.heap.size, 0, none⟩ = some (.int .i64 (an)) := keepc hb (by go_simp)
      have k50 : w6.cell? ⟨w1.heap.size, 1, none⟩ = some (.int .i64 (ad)) := keepc hb (by go_simp)
      have k51 : w1.heap.size < w6.heap.size := by have hq := hb.size; simp at hq; omega
      have k52 : w6.cell? ⟨w1.heap.size + 1, 0, none⟩ = some (.int .i64 (bn)) := keepc hb (by go_simp)
      have k53 : w6.cell? ⟨w1.heap.size + 1, 1, none⟩ = some (.int .i64 (bd)) := keepc hb (by go_simp)
      have k54 : w1.heap.size + 1 < w6.heap.size := by have hq := hb.size; simp at hq; omega
      have k55 : w6.cell? ⟨w2.heap.size, 0, none⟩ = some (.int .i64 (on)) := keepc hb (by go_simp)
      have k56 : w6.cell? ⟨w2.heap.size, 1, none⟩ = some (.int .i64 (od)) := keepc hb (by go_simp)
      have k57 : w2.heap.size < w6.heap.size := by have hq := hb.size; simp at hq; omega
      have k58 : w6.cell? ⟨w3.heap.size, 0, none⟩ = some (.int .i64 (on)) := keepc hb (by go_simp)
      have k59 : w6.cell? ⟨w3.heap.size, 1, none⟩ = some (.int .i64 (od)) := keepc hb (by go_simp)
      have k60 : w3.heap.size < w6.heap.size := by have hq := hb.size; simp at hq; omega
      have k61 : w6.cell? ⟨w3.heap.size + 1, 0, none⟩ = some (.int .i64 (1)) := keepc hb (by go_simp)
      have k62 : w6.cell? ⟨w3.heap.size + 1, 1, none⟩ = some (.int .i64 (2)) := keepc hb (by go_simp)
      have k63 : w3.heap.size + 1 < w6.heap.size := by have hq := hb.size; simp at hq; omega
      have k64 : w6.cell? ⟨w4.heap.size, 0, none⟩ = some (.int .i64 (sn)) := keepc hb (by go_simp)
      have k65 : w6.cell? ⟨w4.heap.size, 1, none⟩ = some (.int .i64 (sd)) := keepc hb (by go_simp)
      have k66 : w4.heap.size < w6.heap.size := by have hq := hb.size; simp at hq; omega
      have k67 : w6.cell? ⟨w5.heap.size, 0, none⟩ = some (.int .i64 (xn)) := keepc hb (by go_simp)
      have k68 : w6.cell? ⟨w5.heap.size, 1, none⟩ = some (.int .i64 (xd)) := keepc hb (by go_simp)
      have k69 : w5.heap.size < w6.heap.size := by have hq := hb.size; simp at hq; omega
      clear hb k31 k32 k33 k34 k35 k36 k37 k38 k39 k40 k41 k42 k43 k44 k45 k46 k47 k48
      go_wp2_with fail
      refine (add_as_impl PZ.out iZ.out _).mono ?_
      rintro e w7 ⟨rfl, hb⟩
      have B7 := hide (st_trans (st_alloc B6.out _) hb)
      have k70 : w7.cell? ⟨w1.heap.size, 0, none⟩ = some (.int .i64 (an)) := keepc hb (by go_simp)
      have k71 : w7.cell? ⟨w1.heap.size, 1, none⟩ = some (.int .i64 (ad)) := keepc hb (by go_simp)
      have k72 : w1.heap.size < w7.heap.size := by have hq := hb.size; simp at hq; omega
      have k73 : w7.cell? ⟨w1.heap.size + 1, 0, none⟩ = some (.int .i64 (bn)) := keepc hb (by go_simp)
      have k74 : w7.cell? ⟨w1.heap.size + 1, 1, none⟩ = some (.int .i64 (bd)) := keepc hb (by go_simp)
      have k75 : w1.heap.size + 1 < w7.heap.size := by have hq := hb.size; simp at hq; omega
      have k76 : w7.cell? ⟨w2.heap.size, 0, none⟩ = some (.int .i64 (on)) := keepc hb (by go_simp)
      have k77 : w7.cell? ⟨w2.heap.size, 1, none⟩ = some (.int .i64 (od)) := keepc hb (by go_simp)
      have k78 : w2.heap.size < w7.heap.size := by have hq := hb.size; simp at hq; omega
      have k79 : w7.cell? ⟨w3.heap.size, 0, none⟩ = some (.int .i64 (on)) := keepc hb (by go_simp)
      have k80 : w7.cell? ⟨w3.heap.size, 1, none⟩ = some (.int .i64 (od)) := keepc hb (by go_simp)
      have k81 : w3.heap.size < w7.heap.size := by have hq := hb.size; simp at hq; omega
      have k82 : w7.cell? ⟨w3.heap.size + 1, 0, none⟩ = some (.int .i64 (1)) := keepc hb (by go_simp)
      have k83 : w7.cell? ⟨w3.heap.size + 1, 1, none⟩ = some (.int .i64 (2)) := keepc hb (by go_simp)
      have k84 : w3.heap.size + 1 < w7.heap.size := by have hq := hb.size; simp at hq; omega
      have k85 : w7.cell? ⟨w4.heap.size, 0, none⟩ = some (.int .i64 (sn)) := keepc hb (by go_simp)
      have k86 : w7.cell? ⟨w4.heap.size, 1, none⟩ = some (.int .i64 (sd)) := keepc hb (by go_simp)
      have k87 : w4.heap.size < w7.heap.size := by have hq := hb.size; simp at hq; omega
      have k88 : w7.cell? ⟨w5.heap.size, 0, none⟩ = some (.int .i64 (xn)) := keepc hb (by go_simp)
      have k89 : w7.cell? ⟨w5.heap.size, 1, none⟩ = some (.int .i64 (xd)) := keepc hb (by go_simp)
      have k90 : w5.heap.size < w7.heap.size := by have hq := hb.size; simp at hq; omega
      have k91 : w7.cell? ⟨w6.heap.size, 0, none⟩ = some (.int .i64 (yn)) := keepc hb (by go_simp)
      have k92 : w7.cell? ⟨w6.heap.size, 1, none⟩ = some (.int .i64 (yd)) := keepc hb (by go_simp)
      have k93 : w6.heap.size < w7.heap.size := by have hq := hb.size; simp at hq; omega
      clear hb k49 k50 k51 k52 k53 k54 k55 k56 k57 k58 k59 k60 k61 k62 k63 k64 k65 k66 k67 k68 k69
      go_wp2
      go_ret
      exact ⟨rfl, (st_alloc B7.out _)⟩
    · have PS := hide (And.intro hp S1.out)
      have PX := hide (And.intro hq X1.out)
      have PY := hide (And.intro ht Y1.out)
      have PZ := hide (And.intro hu Z1.out)
      clear hp hq ht hu
      go_wp2_with fail
      refine (add_as_impl PS.out iS.out _).mono ?_
      rintro e w4 ⟨rfl, hb⟩
      have B4 := hide (st_trans (st_alloc (st_alloc B3.out _) _) hb)
      have k16 : w4.cell? ⟨w1.heap.size, 0, none⟩ = some (.int .i64 (an)) := keepc hb (by go_simp)
      have k17 : w4.cell? ⟨w1.heap.size, 1, none⟩ = some (.int .i64 (ad)) := keepc hb (by go_simp)
      have k18 : w1.heap.size < w4.heap.size := by have hq := hb.size; simp at hq; omega
      have k19 : w4.cell? ⟨w1.heap.size + 1, 0, none⟩ = some (.int .i64 (bn)) := keepc hb (by go_simp)
      have k20 : w4.cell? ⟨w1.heap.size + 1, 1, none⟩ = some (.int .i64 (bd)) := keepc hb (by go_simp)
      have k21 : w1.heap.size + 1 < w4.heap.size := by have hq := hb.size; simp at hq; omega
      have k22 : w4.cell? ⟨w2.heap.size, 0, none⟩ = some (.int .i64 (on)) := keepc hb (by go_simp)
      have k23 : w4.cell? ⟨w2.heap.size, 1, none⟩ = some (.int .i64 (od)) := keepc hb (by go_simp)
      have k24 : w2.heap.size < w4.heap.size := by have hq := hb.size; simp at hq; omega
      have k25 : w4.cell? ⟨w3.heap.size, 0, none⟩ = some (.int .i64 (on)) := keepc hb (by go_simp)
      have k26 : w4.cell? ⟨w3.heap.size, 1, none⟩ = some (.int .i64 (od)) := keepc hb (by go_simp)
      have k27 : w3.heap.size < w4.heap.size := by have hq := hb.size; simp at hq; omega
      have k28 : w4.cell? ⟨w3.heap.size + 1, 0, none⟩ = some (.int .i64 (1)) := keepc hb (by go_simp)
      have k29 : w4.cell? ⟨w3.heap.size + 1, 1, none⟩ = some (.int .i64 (2)) := keepc hb (by go_simp)
      have k30 : w3.heap.size + 1 < w4.heap.size := by have hq := hb.size; simp at hq; omega
      clear hb k7 k8 k9 k10 k11 k12 k13 k14 k15
      go_wp2_with fail
      refine (mul_as_impl PX.out iX.out _).mono ?_
      rintro e w5 ⟨rfl, hb⟩
      have B5 := hide (st_trans (st_alloc B4.out _) hb)
      have k31 : w5.cell? ⟨w1.heap.size, 0, none⟩ = some (.int .i64 (an)) := keepc hb (by go_simp)
      have k32 : w5.cell? ⟨w1.heap.size, 1, none⟩ = some (.int .i64 (ad)) := keepc hb (by go_simp)
      have k33 : w1.heap.size < w5.heap.size := by have hq := hb.size; simp at hq; omega
      have k34 : w5.cell? ⟨w1.heap.size + 1, 0, none⟩ = some (.int .i64 (bn)) := keepc hb (by go_simp)
      have k35 : w5.cell? ⟨w1.heap.size + 1, 1, none⟩ = some (.int .i64 (bd)) := keepc hb (by go_simp)
      have k36 : w1.heap.size + 1 < w5.heap.size := by have hq := hb.size; simp at hq; omega
      have k37 : w5.cell? ⟨w2.heap.size, 0, none⟩ = some (.int .i64 (on)) := keepc hb (by go_simp)
      have k38 : w5.cell? ⟨w2.heap.size, 1, none⟩ = some (.int .i64 (od)) := keepc hb (by go_simp)
      have k39 : w2.heap.size < w5.heap.size := by have hq := hb.size; simp at hq; omega
      have k40 : w5.cell? ⟨w3.heap.size, 0, none⟩ = some (.int .i64 (on)) := keepc hb (by go_simp)
      have k41 : w5.cell? ⟨w3.heap.size, 1, none⟩ = some (.int .i64 (od)) := keepc hb (by go_simp)
      have k42 : w3.heap.size < w5.heap.size := by have hq := hb.size; simp at hq; omega
      have k43 : w5.cell? ⟨w3.heap.size + 1, 0, none⟩ = some (.int .i64 (1)) := keepc hb (by go_simp)
      have k44 : w5.cell? ⟨w3.heap.size + 1, 1, none⟩ = some (.int .i64 (2)) := keepc hb (by go_simp)
      have k45 : w3.heap.size + 1 < w5.heap.size := by have hq := hb.size; simp at hq; omega
      have k46 : w5.cell? ⟨w4.heap.size, 0, none⟩ = some (.int .i64 (sn)) := keepc hb (by go_simp)
      have k47 : w5.cell? ⟨w4.heap.size, 1, none⟩ = some (.int .i64 (sd)) := keepc hb (by go_simp)
      have k48 : w4.heap.size < w5.heap.size := by have hq := hb.size; simp at hq; omega
      clear hb k16 k17 k18 k19 k20 k21 k22 k23 k24 k25 k26 k27 k28 k29 k30
      go_wp2_with fail
      refine (mul_as_impl PY.out iY.out _).mono ?_
      rintro e w6 ⟨rfl, hb⟩
      have B6 := hide (st_trans (st_alloc B5.out _) hb)
      have k49 : w6.cell? ⟨w1.heap.size, 0, none⟩ = some (.int .i64 (an)) := keepc hb (by go_simp)
      have k50 : w6.cell? ⟨w1.heap.size, 1, none⟩ = some (.int .i64 (ad)) := keepc hb (by go_simp)
      have k51 : w1.heap.size < w6.heap.size := by have hq := hb.size; simp at hq; omega
      have k52 : w6.cell? ⟨w1.heap.size + 1, 0, none⟩ = some (.int .i64 (bn)) := keepc hb (by go_simp)
      have k53 : w6.cell? ⟨w1.heap.size + 1, 1, none⟩ = some (.int .i64 (bd)) := keepc hb (by go_simp)
      have k54 : w1.heap.size + 1 < w6.heap.size := by have hq := hb.size; simp at hq; omega
      have k55 : w6.cell? ⟨w2.heap.size, 0, none⟩ = some (.int .i64 (on)) := keepc hb (by go_simp)
      have k56 : w6.cell? ⟨w2.heap.size, 1, none⟩ = some (.int .i64 (od)) := keepc hb (by go_simp)
      have k57 : w2.heap.size < w6.heap.size := by have hq := hb.size; simp at hq; omega
      have k58 : w6.cell? ⟨w3.heap.size, 0, none⟩ = some (.int .i64 (on)) := keepc hb (by go_simp)
      have k59 : w6.cell? ⟨w3.heap.size, 1, none⟩ = some (.int .i64 (od)) := keepc hb (by go_simp)
      have k60 : w3.heap.size < w6.heap.size := by have hq := hb.size; simp at hq; omega
      have k61 : w6.cell? ⟨w3.heap.size + 1, 0, none⟩ = some (.int .i64 (1)) := keepc hb (by go_simp)
      have k62 : w6.cell? ⟨w3.heap.size + 1, 1, none⟩ = some (.int .i64 (2)) := keepc hb (by go_simp)
      have k63 : w3.heap.size + 1 < w6.heap.size := by have hq := hb.size; simp at hq; omega
      have k64 : w6.cell? ⟨w4.heap.size, 0, none⟩ = some (.int .i64 (sn)) := keepc hb (by go_simp)
      have k65 : w6.cell? ⟨w4.heap.size, 1, none⟩ = some (.int .i64 (sd)) := keepc hb (by go_simp)
      have k66 : w4.heap.size < w6.heap.size := by have hq := hb.size; simp at hq; omega
      have k67 : w6.cell? ⟨w5.heap.size, 0, none⟩ = some (.int .i64 (xn)) := keepc hb (by go_simp)
      have k68 : w6.cell? ⟨w5.heap.size, 1, none⟩ = some (.int .i64 (xd)) := keepc hb (by go_simp)
      have k69 : w5.heap.size < w6.heap.size := by have hq := hb.size; simp at hq; omega
      clear hb k31 k32 k33 k34 k35 k36 k37 k38 k39 k40 k41 k42 k43 k44 k45 k46 k47 k48
      go_wp2_with fail
      refine (add_as_impl PZ.out iZ.out _).mono ?_
      rintro e w7 ⟨rfl, hb⟩
      have B7 := hide (st_trans (st_alloc B6.out _) hb)
      have k70 : w7.cell? ⟨w1.heap.size, 0, none⟩ = some (.int .i64 (an)) := keepc hb (by go_simp)
      have k71 : w7.cell? ⟨w1.heap.size, 1, none⟩ = some (.int .i64 (ad)) := keepc hb (by go_simp)
      have k72 : w1.heap.size < w7.heap.size := by have hq := hb.size; simp at hq; omega
      have k73 : w7.cell? ⟨w1.heap.size + 1, 0, none⟩ = some (.int .i64 (bn)) := keepc hb (by go_simp)
      have k74 : w7.cell? ⟨w1.heap.size + 1, 1, none⟩ = some (.int .i64 (bd)) := keepc hb (by go_simp)
      have k75 : w1.heap.size + 1 < w7.heap.size := by have hq := hb.size; simp at hq; omega
      have k76 : w7.cell? ⟨w2.heap.size, 0, none⟩ = some (.int .i64 (on)) := keepc hb (by go_simp)
      have k77 : w7.cell? ⟨w2.heap.size, 1, none⟩ = some (.int .i64 (od)) := keepc hb (by go_simp)
      have k78 : w2.heap.size < w7.heap.size := by have hq := hb.size; simp at hq; omega
      have k79 : w7.cell? ⟨w3.heap.size, 0, none⟩ = some (.int .i64 (on)) := keepc hb (by go_simp)
      have k80 : w7.cell? ⟨w3.heap.size, 1, none⟩ = some (.int .i64 (od)) := keepc hb (by go_simp)
      have k81 : w3.heap.size < w7.heap.size := by have hq := hb.size; simp at hq; omega
      have k82 : w7.cell? ⟨w3.heap.size + 1, 0, none⟩ = some (.int .i64 (1)) := keepc hb (by go_simp)
      have k83 : w7.cell? ⟨w3.heap.size + 1, 1, none⟩ = some (.int .i64 (2)) := keepc hb (by go_simp)
      have k84 : w3.heap.size + 1 < w7.heap.size := by have hq := hb.size; simp at hq; omega
      have k85 : w7.cell? ⟨w4.heap.size, 0, none⟩ = some (.int .i64 (sn)) := keepc hb (by go_simp)
      have k86 : w7.cell? ⟨w4.heap.size, 1, none⟩ = some (.int .i64 (sd)) := keepc hb (by go_simp)
      have k87 : w4.heap.size < w7.heap.size := by have hq := hb.size; simp at hq; omega
      have k88 : w7.cell? ⟨w5.heap.size, 0, none⟩ = some (.int .i64 (xn)) := keepc hb (by go_simp)
      have k89 : w7.cell? ⟨w5.heap.size, 1, none⟩ = some (.int .i64 (xd)) := keepc hb (by go_simp)
      have k90 : w5.heap.size < w7.heap.size := by have hq := hb.size; simp at hq; omega
      have k91 : w7.cell? ⟨w6.heap.size, 0, none⟩ = some (.int .i64 (yn)) := keepc hb (by go_simp)
      have k92 : w7.cell? ⟨w6.heap.size, 1, none⟩ = some (.int .i64 (yd)) := keepc hb (by go_simp)
      have k93 : w6.heap.size < w7.heap.size := by have hq := hb.size; simp at hq; omega
      clear hb k49 k50 k51 k52 k53 k54 k55 k56 k57 k58 k59 k60 k61 k62 k63 k64 k65 k66 k67 k68 k69
      go_wp2
      go_ret
      exact ⟨rfl, (st_alloc B7.out _)⟩
    · have PS := hide (And.intro hp S1.out)
      have PX := hide (And.intro hq X1.out)
      have PY := hide (And.intro ht Y1.out)
      have PZ := hide (And.intro hu Z1.out)
      clear hp hq ht hu
      go_wp2_with fail
      refine (add_as_impl PS.out iS.out _).mono ?_
      rintro e w4 ⟨rfl, hb⟩
      have B4 := hide (st_trans (st_alloc (st_alloc B3.out _) _) hb)
      have k16 : w4.cell? ⟨w1.heap.size, 0, none⟩ = some (.int .i64 (an)) := keepc hb (by go_simp)
      have k17 : w4.cell? ⟨w1.heap.size, 1, none⟩ = some (.int .i64 (ad)) := keepc hb (by go_simp)
      have k18 : w1.heap.size < w4.heap.size := by have hq := hb.size; simp at hq; omega
      have k19 : w4.cell? ⟨w1.heap.size + 1, 0, none⟩ = some (.int .i64 (bn)) := keepc hb (by go_simp)
      have k20 : w4.cell? ⟨w1.heap.size + 1, 1, none⟩ = some (.int .i64 (bd)) := keepc hb (by go_simp)
      have k21 : w1.heap.size + 1 < w4.heap.size := by have hq := hb.size; simp at hq; omega
      have k22 : w4.cell? ⟨w2.heap.size, 0, none⟩ = some (.int .i64 (on)) := keepc hb (by go_simp)
      have k23 : w4.cell? ⟨w2.heap.size, 1, none⟩ = some (.int .i64 (od)) := keepc hb (by go_simp)
      have k24 : w2.heap.size < w4.heap.size := by have hq := hb.size; simp at hq; omega
      have k25 : w4.cell? ⟨w3.heap.size, 0, none⟩ = some (.int .i64 (on)) := keepc hb (by go_simp)
      have k26 : w4.cell? ⟨w3.heap.size, 1, none⟩ = some (.int .i64 (od)) := keepc hb (by go_simp)
      have k27 : w3.heap.size < w4.heap.size := by have hq := hb.size; simp at hq; omega
      have k28 : w4.cell? ⟨w3.heap.size + 1, 0, none⟩ = some (.int .i64 (1)) := keepc hb (by go_simp)
      have k29 : w4.cell? ⟨w3.heap.size + 1, 1, none⟩ = some (.int .i64 (2)) := keepc hb (by go_simp)
      have k30 : w3.heap.size + 1 < w4.heap.size := by have hq := hb.size; simp at hq; omega
      clear hb k7 k8 k9 k10 k11 k12 k13 k14 k15
      go_wp2_with fail
      refine (mul_as_impl PX.out iX.out _).mono ?_
      rintro e w5 ⟨rfl, hb⟩
      have B5 := hide (st_trans (st_alloc B4.out _) hb)
      have k31 : w5.cell? ⟨w1.heap.size, 0, none⟩ = some (.int .i64 (an)) := keepc hb (by go_simp)
      have k32 : w5.cell? ⟨w1.heap.size, 1, none⟩ = some (.int .i64 (ad)) := keepc hb (by go_simp)
      have k33 : w1.heap.size < w5.heap.size := by have hq := hb.size; simp at hq; omega
      have k34 : w5.cell? ⟨w1.heap.size + 1, 0, none⟩ = some (.int .i64 (bn)) := keepc hb (by go_simp)
      have k35 : w5.cell? ⟨w1.heap.size + 1, 1, none⟩ = some (.int .i64 (bd)) := keepc hb (by go_simp)
      have k36 : w1.heap.size + 1 < w5.heap.size := by have hq := hb.size; simp at hq; omega
      have k37 : w5.cell? ⟨w2.heap.size, 0, none⟩ = some (.int .i64 (on)) := keepc hb (by go_simp)
      have k38 : w5.cell? ⟨w2.heap.size, 1, none⟩ = some (.int .i64 (od)) := keepc hb (by go_simp)
      have k39 : w2.heap.size < w5.heap.size := by have hq := hb.size; simp at hq; omega
      have k40 : w5.cell? ⟨w3.heap.size, 0, none⟩ = some (.int .i64 (on)) := keepc hb (by go_simp)
      have k41 : w5.cell? ⟨w3.heap.size, 1, none⟩ = some (.int .i64 (od)) := keepc hb (by go_simp)
      have k42 : w3.heap.size < w5.heap.size := by have hq := hb.size; simp at hq; omega
      have k43 : w5.cell? ⟨w3.heap.size + 1, 0, none⟩ = some (.int .i64 (1)) := keepc hb (by go_simp)
      have k44 : w5.cell? ⟨w3.heap.size + 1, 1, none⟩ = some (.int .i64 (2)) := keepc hb (by go_simp)
      have k45 : w3.heap.size + 1 < w5.heap.size := by have hq := hb.size; simp at hq; omega
      have k46 : w5.cell? ⟨w4.heap.size, 0, none⟩ = some (.int .i64 (sn)) := keepc hb (by go_simp)
      have k47 : w5.cell? ⟨w4.heap.size, 1, none⟩ = some (.int .i64 (sd)) := keepc hb (by go_simp)
      have k48 : w4.heap.size < w5.heap.size := by have hq := hb.size; simp at hq; omega
      clear hb k16 k17 k18 k19 k20 k21 k22 k23 k24 k25 k26 k27 k28 k29 k30
      go_wp2_with fail
      refine (mul_as_impl PY.out iY.out _).mono ?_
      rintro e w6 ⟨rfl, hb⟩
      have B6 := hide (st_trans (st_alloc B5.out _) hb)
      have k49 : w6.cell? ⟨w1.heap.size, 0, none⟩ = some (.int .i64 (an)) := keepc hb (by go_simp)
      have k50 : w6.cell? ⟨w1.heap.size, 1, none⟩ = some (.int .i64 (ad)) := keepc hb (by go_simp)
      have k51 : w1.heap.size < w6.heap.size := by have hq := hb.size; simp at hq; omega
      have k52 : w6.cell? ⟨w1.heap.size + 1, 0, none⟩ = some (.int .i64 (bn)) := keepc hb (by go_simp)
      have k53 : w6.cell? ⟨w1.heap.size + 1, 1, none⟩ = some (.int .i64 (bd)) := keepc hb (by go_simp)
      have k54 : w1.heap.size + 1 < w6.heap.size := by have hq := hb.size; simp at hq; omega
      have k55 : w6.cell? ⟨w2.heap.size, 0, none⟩ = some (.int .i64 (on)) := keepc hb (by go_simp)
      have k56 : w6.cell? ⟨w2.heap.size, 1, none⟩ = some (.int .i64 (od)) := keepc hb (by go_simp)
      have k57 : w2.heap.size < w6.heap.size := by have hq := hb.size; simp at hq; omega
      have k58 : w6.cell? ⟨w3.heap.size, 0, none⟩ = some (.int .i64 (on)) := keepc hb (by go_simp)
      have k59 : w6.cell? ⟨w3.heap.size, 1, none⟩ = some (.int .i64 (od)) := keepc hb (by go_simp)
      have k60 : w3.heap.size < w6.heap.size := by have hq := hb.size; simp at hq; omega
      have k61 : w6.cell? ⟨w3.heap.size + 1, 0, none⟩ = some (.int .i64 (1)) := keepc hb (by go_simp)
      have k62 : w6.cell? ⟨w3.heap.size + 1, 1, none⟩ = some (.int .i64 (2)) := keepc hb (by go_simp)
      have k63 : w3.heap.size + 1 < w6.heap.size := by have hq := hb.size; simp at hq; omega
      have k64 : w6.cell? ⟨w4.heap.size, 0, none⟩ = some (.int .i64 (sn)) := keepc hb (by go_simp)
      have k65 : w6.cell? ⟨w4.heap.size, 1, none⟩ = some (.int .i64 (sd)) := keepc hb (by go_simp)
      have k66 : w4.heap.size < w6.heap.size := by have hq := hb.size; simp at hq; omega
      have k67 : w6.cell? ⟨w5.heap.size, 0, none⟩ = some (.int .i64 (xn)) := keepc hb (by go_simp)
      have k68 : w6.cell? ⟨w5.heap.size, 1, none⟩ = some (.int .i64 (xd)) := keepc hb (by go_simp)
      have k69 : w5.heap.size < w6.heap.size := by have hq := hb.size; simp at hq; omega
      clear hb k31 k32 k33 k34 k35 k36 k37 k38 k39 k40 k41 k42 k43 k44 k45 k46 k47 k48
      go_wp2_with fail
      refine (add_as_impl PZ.out iZ.out _).mono ?_
      rintro e w7 ⟨rfl, hb⟩
      have B7 := hide (st_trans (st_alloc B6.out _) hb)
      have k70 : w7.cell? ⟨w1.heap.size, 0, none⟩ = some (.int .i64 (an)) := keepc hb (by go_simp)
      have k71 : w7.cell? ⟨w1.heap.size, 1, none⟩ = some (.int .i64 (ad)) := keepc hb (by go_simp)
      have k72 : w1.heap.size < w7.heap.size := by have hq := hb.size; simp at hq; omega
      have k73 : w7.cell? ⟨w1.heap.size + 1, 0, none⟩ = some (.int .i64 (bn)) := keepc hb (by go_simp)
      have k74 : w7.cell? ⟨w1.heap.size + 1, 1, none⟩ = some (.int .i64 (bd)) := keepc hb (by go_simp)
      have k75 : w1.heap.size + 1 < w7.heap.size := by have hq := hb.size; simp at hq; omega
      have k76 : w7.cell? ⟨w2.heap.size, 0, none⟩ = some (.int .i64 (on)) := keepc hb (by go_simp)
      have k77 : w7.cell? ⟨w2.heap.size, 1, none⟩ = some (.int .i64 (od)) := keepc hb (by go_simp)
      have k78 : w2.heap.size < w7.heap.size := by have hq := hb.size; simp at hq; omega
      have k79 : w7.cell? ⟨w3.heap.size, 0, none⟩ = some (.int .i64 (on)) := keepc hb (by go_simp)
      have k80 : w7.cell? ⟨w3.heap.size, 1, none⟩ = some (.int .i64 (od)) := keepc hb (by go_simp)
      have k81 : w3.heap.size < w7.heap.size := by have hq := hb.size; simp at hq; omega
      have k82 : w7.cell? ⟨w3.heap.size + 1, 0, none⟩ = some (.int .i64 (1)) := keepc hb (by go_simp)
      have k83 : w7.cell? ⟨w3.heap.size + 1, 1, none⟩ = some (.int .i64 (2)) := keepc hb (by go_simp)
      have k84 : w3.heap.size + 1 < w7.heap.size := by have hq := hb.size; simp at hq; omega
      have k85 : w7.cell? ⟨w4.heap.size, 0, none⟩ = some (.int .i64 (sn)) := keepc hb (by go_simp)
      have k86 : w7.cell? ⟨w4.heap.size, 1, none⟩ = some (.int .i64 (sd)) := keepc hb (by go_simp)
      have k87 : w4.heap.size < w7.heap.size := by have hq := hb.size; simp at hq; omega
      have k88 : w7.cell? ⟨w5.heap.size, 0, none⟩ = some (.int .i64 (xn)) := keepc hb (by go_simp)
      have k89 : w7.cell? ⟨w5.heap.size, 1, none⟩ = some (.int .i64 (xd)) := keepc hb (by go_simp)
      have k90 : w5.heap.size < w7.heap.size := by have hq := hb.size; simp at hq; omega
      have k91 : w7.cell? ⟨w6.heap.size, 0, none⟩ = some (.int .i64 (yn)) := keepc hb (by go_simp)
      have k92 : w7.cell? ⟨w6.heap.size, 1, none⟩ = some (.int .i64 (yd)) := keepc hb (by go_simp)
      have k93 : w6.heap.size < w7.heap.size := by have hq := hb.size; simp at hq; omega
      clear hb k49 k50 k51 k52 k53 k54 k55 k56 k57 k58 k59 k60 k61 k62 k63 k64 k65 k66 k67 k68 k69
      go_wp2
      go_ret
      exact ⟨rfl, (st_alloc B7.out _)⟩
    · have PS := hide (And.intro hp S1.out)
      have PX := hide (And.intro hq X1.out)
      have PY := hide (And.intro ht Y1.out)
      have PZ := hide (And.intro hu Z1.out)
      clear hp hq ht hu
      go_wp2_with fail
      refine (add_as_impl PS.out iS.out _).mono ?_
      rintro e w4 ⟨rfl, hb⟩
      have B4 := hide (st_trans (st_alloc (st_alloc B3.out _) _) hb)
      have k16 : w4.cell? ⟨w1.heap.size, 0, none⟩ = some (.int .i64 (an)) := keepc hb (by go_simp)
      have k17 : w4.cell? ⟨w1.heap.size, 1, none⟩ = some (.int .i64 (ad)) := keepc hb (by go_simp)
      have k18 : w1.heap.size < w4.heap.size := by have hq := hb.size; simp at hq; omega
      have k19 : w4.cell? ⟨w1.heap.size + 1, 0, none⟩ = some (.int .i64 (bn)) := keepc hb (by go_simp)
      have k20 : w4.cell? ⟨w1.heap.size + 1, 1, none⟩ = some (.int .i64 (bd)) := keepc hb (by go_simp)
      have k21 : w1.heap.size + 1 < w4.heap.size := by have hq := hb.size; simp at hq; omega
      have k22 : w4.cell? ⟨w2.heap.size, 0, none⟩ = some (.int .i64 (on)) := keepc hb (by go_simp)
      have k23 : w4.cell? ⟨w2.heap.size, 1, none⟩ = some (.int .i64 (od)) := keepc hb (by go_simp)
      have k24 : w2.heap.size < w4.heap.size := by have hq := hb.size; simp at hq; omega
      have k25 : w4.cell? ⟨w3.heap.size, 0, none⟩ = some (.int .i64 (on)) := keepc hb (by go_simp)
      have k26 : w4.cell? ⟨w3.heap.size, 1, none⟩ = some (.int .i64 (od)) := keepc hb (by go_simp)
      have k27 : w3.heap.size < w4.heap.size := by have hq := hb.size; simp at hq; omega
      have k28 : w4.cell? ⟨w3.heap.size + 1, 0, none⟩ = some (.int .i64 (1)) := keepc hb (by go_simp)
      have k29 : w4.cell? ⟨w3.heap.size + 1, 1, none⟩ = some (.int .i64 (2)) := keepc hb (by go_simp)
      have k30 : w3.heap.size + 1 < w4.heap.size := by have hq := hb.size; simp at hq; omega
      clear hb k7 k8 k9 k10 k11 k12 k13 k14 k15
      go_wp2_with fail
      refine (mul_as_impl PX.out iX.out _).mono ?_
      rintro e w5 ⟨rfl, hb⟩
      have B5 := hide (st_trans (st_alloc B4.out _) hb)
      have k31 : w5.cell? ⟨w1.heap.size, 0, none⟩ = some (.int .i64 (an)) := keepc hb (by go_simp)
      have k32 : w5.cell? ⟨w1.heap.size, 1, none⟩ = some (.int .i64 (ad)) := keepc hb (by go_simp)
      have k33 : w1.heap.size < w5.heap.size := by have hq := hb.size; simp at hq; omega
      have k34 : w5.cell? ⟨w1.heap.size + 1, 0, none⟩ = some (.int .i64 (bn)) := keepc hb (by go_simp)
      have k35 : w5.cell? ⟨w1.heap.size + 1, 1, none⟩ = some (.int .i64 (bd)) := keepc hb (by go_simp)
      have k36 : w1.heap.size + 1 < w5.heap.size := by have hq := hb.size; simp at hq; omega
      have k37 : w5.cell? ⟨w2.heap.size, 0, none⟩ = some (.int .i64 (on)) := keepc hb (by go_simp)
      have k38 : w5.cell? ⟨w2.heap.size, 1, none⟩ = some (.int .i64 (od)) := keepc hb (by go_simp)
      have k39 : w2.heap.size < w5.heap.size := by have hq := hb.size; simp at hq; omega
      have k40 : w5.cell? ⟨w3.heap.size, 0, none⟩ = some (.int .i64 (on)) := keepc hb (by go_simp)
      have k41 : w5.cell? ⟨w3.heap.size, 1, none⟩ = some (.int .i64 (od)) := keepc hb (by go_simp)
      have k42 : w3.heap.size < w5.heap.size := by have hq := hb.size; simp at hq; omega
      have k43 : w5.cell? ⟨w3.heap.size + 1, 0, none⟩ = some (.int .i64 (1)) := keepc hb (by go_simp)
      have k44 : w5.cell? ⟨w3.heap.size + 1, 1, none⟩ = some (.int .i64 (2)) := keepc hb (by go_simp)
      have k45 : w3.heap.size + 1 < w5.heap.size := by have hq := hb.size; simp at hq; omega
      have k46 : w5.cell? ⟨w4.heap.size, 0, none⟩ = some (.int .i64 (sn)) := keepc hb (by go_simp)
      have k47 : w5.cell? ⟨w4.heap.size, 1, none⟩ = some (.int .i64 (sd)) := keepc hb (by go_simp)
      have k48 : w4.heap.size < w5.heap.size := by have hq := hb.size; simp at hq; omega
      clear hb k16 k17 k18 k19 k20 k21 k22 k23 k24 k25 k26 k27 k28 k29 k30
      go_wp2_with fail
      refine (mul_as_impl PY.out iY.out _).mono ?_
      rintro e w6 ⟨rfl, hb⟩
      have B6 := hide (st_trans (st_alloc B5.out _) hb)
      have k49 : w6.cell? ⟨w1.heap.size, 0, none⟩ = some (.int .i64 (an)) := keepc hb (by go_simp)
      have k50 : w6.cell? ⟨w1.heap.size, 1, none⟩ = some (.int .i64 (ad)) := keepc hb (by go_simp)
      have k51 : w1.heap.size < w6.heap.size := by have hq := hb.size; simp at hq; omega
      have k52 : w6.cell? ⟨w1.heap.size + 1, 0, none⟩ = some (.int .i64 (bn)) := keepc hb (by go_simp)
      have k53 : w6.cell? ⟨w1.heap.size + 1, 1, none⟩ = some (.int .i64 (bd)) := keepc hb (by go_simp)
      have k54 : w1.heap.size + 1 < w6.heap.size := by have hq := hb.size; simp at hq; omega
      have k55 : w6.cell? ⟨w2.heap.size, 0, none⟩ = some (.int .i64 (on)) := keepc hb (by go_simp)
      have k56 : w6.cell? ⟨w2.heap.size, 1, none⟩ = some (.int .i64 (od)) := keepc hb (by go_simp)
      have k57 : w2.heap.size < w6.heap.size := by have hq := hb.size; simp at hq; omega
      have k58 : w6.cell? ⟨w3.heap.size, 0, none⟩ = some (.int .i64 (on)) := keepc hb (by go_simp)
      have k59 : w6.cell? ⟨w3.heap.size, 1, none⟩ = some (.int .i64 (od)) := keepc hb (by go_simp)
      have k60 : w3.heap.size < w6.heap.size := by have hq := hb.size; simp at hq; omega
      have k61 : w6.cell? ⟨w3.heap.size + 1, 0, none⟩ = some (.int .i64 (1)) := keepc hb (by go_simp)
      have k62 : w6.cell? ⟨w3.heap.size + 1, 1, none⟩ = some (.int .i64 (2)) := keepc hb (by go_simp)
      have k63 : w3.heap.size + 1 < w6.heap.size := by have hq := hb.size; simp at hq; omega
      have k64 : w6.cell? ⟨w4.heap.size, 0, none⟩ = some (.int .i64 (sn)) := keepc hb (by go_simp)
      have k65 : w6.cell? ⟨w4.heap.size, 1, none⟩ = some (.int .i64 (sd)) := keepc hb (by go_simp)
      have k66 : w4.heap.size < w6.heap.size := by have hq := hb.size; simp at hq; omega
      have k67 : w6.cell? ⟨w5.heap.size, 0, none⟩ = some (.int .i64 (xn)) := keepc hb (by go_simp)
      have k68 : w6.cell? ⟨w5.heap.size, 1, none⟩ = some (.int .i64 (xd)) := keepc hb (by go_simp)
      have k69 : w5.heap.size < w6.heap.size := by have hq := hb.size; simp at hq; omega
      clear hb k31 k32 k33 k34 k35 k36 k37 k38 k39 k40 k41 k42 k43 k44 k45 k46 k47 k48
      go_wp2_with fail
      refine (add_as_impl PZ.out iZ.out _).mono ?_
      rintro e w7 ⟨rfl, hb⟩
      have B7 := hide (st_trans (st_alloc B6.out _) hb)
      have k70 : w7.cell? ⟨w1.heap.size, 0, none⟩ = some (.int .i64 (an)) := keepc hb (by go_simp)
      have k71 : w7.cell? ⟨w1.heap.size, 1, none⟩ = some (.int .i64 (ad)) := keepc hb (by go_simp)
      have k72 : w1.heap.size < w7.heap.size := by have hq := hb.size; simp at hq; omega
      have k73 : w7.cell? ⟨w1.heap.size + 1, 0, none⟩ = some (.int .i64 (bn)) := keepc hb (by go_simp)
      have k74 : w7.cell? ⟨w1.heap.size + 1, 1, none⟩ = some (.int .i64 (bd)) := keepc hb (by go_simp)
      have k75 : w1.heap.size + 1 < w7.heap.size := by have hq := hb.size; simp at hq; omega
      have k76 : w7.cell? ⟨w2.heap.size, 0, none⟩ = some (.int .i64 (on)) := keepc hb (by go_simp)
      have k77 : w7.cell? ⟨w2.heap.size, 1, none⟩ = some (.int .i64 (od)) := keepc hb (by go_simp)
      have k78 : w2.heap.size < w7.heap.size := by have hq := hb.size; simp at hq; omega
      have k79 : w7.cell? ⟨w3.heap.size, 0, none⟩ = some (.int .i64 (on)) := keepc hb (by go_simp)
      have k80 : w7.cell? ⟨w3.heap.size, 1, none⟩ = some (.int .i64 (od)) := keepc hb (by go_simp)
      have k81 : w3.heap.size < w7.heap.size := by have hq := hb.size; simp at hq; omega
      have k82 : w7.cell? ⟨w3.heap.size + 1, 0, none⟩ = some (.int .i64 (1)) := keepc hb (by go_simp)
      have k83 : w7.cell? ⟨w3.heap.size + 1, 1, none⟩ = some (.int .i64 (2)) := keepc hb (by go_simp)
      have k84 : w3.heap.size + 1 < w7.heap.size := by have hq := hb.size; simp at hq; omega
      have k85 : w7.cell? ⟨w4.heap.size, 0, none⟩ = some (.int .i64 (sn)) := keepc hb (by go_simp)
      have k86 : w7.cell? ⟨w4.heap.size, 1, none⟩ = some (.int .i64 (sd)) := keepc hb (by go_simp)
      have k87 : w4.heap.size < w7.heap.size := by have hq := hb.size; simp at hq; omega
      have k88 : w7.cell? ⟨w5.heap.size, 0, none⟩ = some (.int .i64 (xn)) := keepc hb (by go_simp)
      have k89 : w7.cell? ⟨w5.heap.size, 1, none⟩ = some (.int .i64 (xd)) := keepc hb (by go_simp)
      have k90 : w5.heap.size < w7.heap.size := by have hq := hb.size; simp at hq; omega
      have k91 : w7.cell? ⟨w6.heap.size, 0, none⟩ = some (.int .i64 (yn)) := keepc hb (by go_simp)
      have k92 : w7.cell? ⟨w6.heap.size, 1, none⟩ = some (.int .i64 (yd)) := keepc hb (by go_simp)
      have k93 : w6.heap.size < w7.heap.size := by have hq := hb.size; simp at hq; omega
      clear hb k49 k50 k51 k52 k53 k54 k55 k56 k57 k58 k59 k60 k61 k62 k63 k64 k65 k66 k67 k68 k69
      go_wp2
      go_ret
      exact ⟨rfl, (st_alloc B7.out _)⟩
    · have PS := hide (And.intro hp S1.out)
      have PX := hide (And.intro hq X1.out)
      have PY := hide (And.intro ht Y1.out)
      have PZ := hide (And.intro hu Z1.out)
      clear hp hq ht hu
      go_wp2_with fail
      refine (add_as_impl PS.out iS.out _).mono ?_
      rintro e w4 ⟨rfl, hb⟩
      have B4 := hide (st_trans (st_alloc (st_alloc B3.out _) _) hb)
      have k16 : w4.cell? ⟨w1.heap.size, 0, none⟩ = some (.int .i64 (an)) := keepc hb (by go_simp)
      have k17 : w4.cell? ⟨w1.heap.size, 1, none⟩ = some (.int .i64 (ad)) := keepc hb (by go_simp)
      have k18 : w1.heap.size < w4.heap.size := by have hq := hb.size; simp at hq; omega
      have k19 : w4.cell? ⟨w1.heap.size + 1, 0, none⟩ = some (.int .i64 (bn)) := keepc hb (by go_simp)
      have k20 : w4.cell? ⟨w1.heap.size + 1, 1, none⟩ = some (.int .i64 (bd)) := keepc hb (by go_simp)
      have k21 : w1.heap.size + 1 < w4.heap.size := by have hq := hb.size; simp at hq; omega
      have k22 : w4.cell? ⟨w2.heap.size, 0, none⟩ = some (.int .i64 (on)) := keepc hb (by go_simp)
      have k23 : w4.cell? ⟨w2.heap.size, 1, none⟩ = some (.int .i64 (od)) := keepc hb (by go_simp)
      have k24 : w2.heap.size < w4.heap.size := by have hq := hb.size; simp at hq; omega
      have k25 : w4.cell? ⟨w3.heap.size, 0, none⟩ = some (.int .i64 (on)) := keepc hb (by go_simp)
      have k26 : w4.cell? ⟨w3.heap.size, 1, none⟩ = some (.int .i64 (od)) := keepc hb (by go_simp)
      have k27 : w3.heap.size < w4.heap.size := by have hq := hb.size; simp at hq; omega
      have k28 : w4.cell? ⟨w3.heap.size + 1, 0, none⟩ = some (.int .i64 (1)) := keepc hb (by go_simp)
      have k29 : w4.cell? ⟨w3.heap.size + 1, 1, none⟩ = some (.int .i64 (2)) := keepc hb (by go_simp)
      have k30 : w3.heap.size + 1 < w4.heap.size := by have hq := hb.size; simp at hq; omega
      clear hb k7 k8 k9 k10 k11 k12 k13 k14 k15
      go_wp2_with fail
      refine (mul_as_impl PX.out iX.out _).mono ?_
      rintro e w5 ⟨rfl, hb⟩
      have B5 := hide (st_trans (st_alloc B4.out _) hb)
      have k31 : w5.cell? ⟨w1.heap.size, 0, none⟩ = some (.int .i64 (an)) := keepc hb (by go_simp)
      have k32 : w5.cell? ⟨w1.heap.size, 1, none⟩ = some (.int .i64 (ad)) := keepc hb (by go_simp)
      have k33 : w1.heap.size < w5.heap.size := by have hq := hb.size; simp at hq; omega
      have k34 : w5.cell? ⟨w1.heap.size + 1, 0, none⟩ = some (.int .i64 (bn)) := keepc hb (by go_simp)
      have k35 : w5.cell? ⟨w1.heap.size + 1, 1, none⟩ = some (.int .i64 (bd)) := keepc hb (by go_simp)
      have k36 : w1.heap.size + 1 < w5.heap.size := by have hq := hb.size; simp at hq; omega
      have k37 : w5.cell? ⟨w2.heap.size, 0, none⟩ = some (.int .i64 (on)) := keepc hb (by go_simp)
      have k38 : w5.cell? ⟨w2.heap.size, 1, none⟩ = some (.int .i64 (od)) := keepc hb (by go_simp)
      have k39 : w2.heap.size < w5.heap.size := by have hq := hb.size; simp at hq; omega
      have k40 : w5.cell? ⟨w3.heap.size, 0, none⟩ = some (.int .i64 (on)) := keepc hb (by go_simp)
      have k41 : w5.cell? ⟨w3.heap.size, 1, none⟩ = some (.int .i64 (od)) := keepc hb (by go_simp)
      have k42 : w3.heap.size < w5.heap.size := by have hq := hb.size; simp at hq; omega
      have k43 : w5.cell? ⟨w3.heap.size + 1, 0, none⟩ = some (.int .i64 (1)) := keepc hb (by go_simp)
      have k44 : w5.cell? ⟨w3.heap.size + 1, 1, none⟩ = some (.int .i64 (2)) := keepc hb (by go_simp)
      have k45 : w3.heap.size + 1 < w5.heap.size := by have hq := hb.size; simp at hq; omega
      have k46 : w5.cell? ⟨w4.heap.size, 0, none⟩ = some (.int .i64 (sn)) := keepc hb (by go_simp)
      have k47 : w5.cell? ⟨w4.heap.size, 1, none⟩ = some (.int .i64 (sd)) := keepc hb (by go_simp)
      have k48 : w4.heap.size < w5.heap.size := by have hq := hb.size; simp at hq; omega
      clear hb k16 k17 k18 k19 k20 k21 k22 k23 k24 k25 k26 k27 k28 k29 k30
      go_wp2_with fail
      refine (mul_as_impl PY.out iY.out _).mono ?_
      rintro e w6 ⟨rfl, hb⟩
      have B6 := hide (st_trans (st_alloc B5.out _) hb)
      have k49 : w6.cell? ⟨w1.heap.size, 0, none⟩ = some (.int .i64 (an)) := keepc hb (by go_simp)
      have k50 : w6.cell? ⟨w1.heap.size, 1, none⟩ = some (.int .i64 (ad)) := keepc hb (by go_simp)
      have k51 : w1.heap.size < w6.heap.size := by have hq := hb.size; simp at hq; omega
      have k52 : w6.cell? ⟨w1.heap.size + 1, 0, none⟩ = some (.int .i64 (bn)) := keepc hb (by go_simp)
      have k53 : w6.cell? ⟨w1.heap.size + 1, 1, none⟩ = some (.int .i64 (bd)) := keepc hb (by go_simp)
      have k54 : w1.heap.size + 1 < w6.heap.size := by have hq := hb.size; simp at hq; omega
      have k55 : w6.cell? ⟨w2.heap.size, 0, none⟩ = some (.int .i64 (on)) := keepc hb (by go_simp)
      have k56 : w6.cell? ⟨w2.heap.size, 1, none⟩ = some (.int .i64 (od)) := keepc hb (by go_simp)
      have k57 : w2.heap.size < w6.heap.size := by have hq := hb.size; simp at hq; omega
      have k58 : w6.cell? ⟨w3.heap.size, 0, none⟩ = some (.int .i64 (on)) := keepc hb (by go_simp)
      have k59 : w6.cell? ⟨w3.heap.size, 1, none⟩ = some (.int .i64 (od)) := keepc hb (by go_simp)
      have k60 : w3.heap.size < w6.heap.size := by have hq := hb.size; simp at hq; omega
      have k61 : w6.cell? ⟨w3.heap.size + 1, 0, none⟩ = some (.int .i64 (1)) := keepc hb (by go_simp)
      have k62 : w6.cell? ⟨w3.heap.size + 1, 1, none⟩ = some (.int .i64 (2)) := keepc hb (by go_simp)
      have k63 : w3.heap.size + 1 < w6.heap.size := by have hq := hb.size; simp at hq; omega
      have k64 : w6.cell? ⟨w4.heap.size, 0, none⟩ = some (.int .i64 (sn)) := keepc hb (by go_simp)
      have k65 : w6.cell? ⟨w4.heap.size, 1, none⟩ = some (.int .i64 (sd)) := keepc hb (by go_simp)
      have k66 : w4.heap.size < w6.heap.size := by have hq := hb.size; simp at hq; omega
      have k67 : w6.cell? ⟨w5.heap.size, 0, none⟩ = some (.int .i64 (xn)) := keepc hb (by go_simp)
      have k68 : w6.cell? ⟨w5.heap.size, 1, none⟩ = some (.int .i64 (xd)) := keepc hb (by go_simp)
      have k69 : w5.heap.size < w6.heap.size := by have hq := hb.size; simp at hq; omega
      clear hb k31 k32 k33 k34 k35 k36 k37 k38 k39 k40 k41 k42 k43 k44 k45 k46 k47 k48
      go_wp2_with fail
      refine (add_as_impl PZ.out iZ.out _).mono ?_
      rintro e w7 ⟨rfl, hb⟩
      have B7 := hide (st_trans (st_alloc B6.out _) hb)
      have k70 : w7.cell? ⟨w1.heap.size, 0, none⟩ = some (.int .i64 (an)) := keepc hb (by go_simp)
      have k71 : w7.cell? ⟨w1.heap.size, 1, none⟩ = some (.int .i64 (ad)) := keepc hb (by go_simp)
      have k72 : w1.heap.size < w7.heap.size := by have hq := hb.size; simp at hq; omega
      have k73 : w7.cell? ⟨w1.heap.size + 1, 0, none⟩ = some (.int .i64 (bn)) := keepc hb (by go_simp)
      have k74 : w7.cell? ⟨w1.heap.size + 1, 1, none⟩ = some (.int .i64 (bd)) := keepc hb (by go_simp)
      have k75 : w1.heap.size + 1 < w7.heap.size := by have hq := hb.size; simp at hq; omega
      have k76 : w7.cell? ⟨w2.heap.size, 0, none⟩ = some (.int .i64 (on)) := keepc hb (by go_simp)
      have k77 : w7.cell? ⟨w2.heap.size, 1, none⟩ = some (.int .i64 (od)) := keepc hb (by go_simp)
      have k78 : w2.heap.size < w7.heap.size := by have hq := hb.size; simp at hq; omega
      have k79 : w7.cell? ⟨w3.heap.size, 0, none⟩ = some (.int .i64 (on)) := keepc hb (by go_simp)
      have k80 : w7.cell? ⟨w3.heap.size, 1, none⟩ = some (.int .i64 (od)) := keepc hb (by go_simp)
      have k81 : w3.heap.size < w7.heap.size := by have hq := hb.size; simp at hq; omega
      have k82 : w7.cell? ⟨w3.heap.size + 1, 0, none⟩ = some (.int .i64 (1)) := keepc hb (by go_simp)
      have k83 : w7.cell? ⟨w3.heap.size + 1, 1, none⟩ = some (.int .i64 (2)) := keepc hb (by go_simp)
      have k84 : w3.heap.size + 1 < w7.heap.size := by have hq := hb.size; simp at hq; omega
      have k85 : w7.cell? ⟨w4.heap.size, 0, none⟩ = some (.int .i64 (sn)) := keepc hb (by go_simp)
      have k86 : w7.cell? ⟨w4.heap.size, 1, none⟩ = some (.int .i64 (sd)) := keepc hb (by go_simp)
      have k87 : w4.heap.size < w7.heap.size := by have hq := hb.size; simp at hq; omega
      have k88 : w7.cell? ⟨w5.heap.size, 0, none⟩ = some (.int .i64 (xn)) := keepc hb (by go_simp)
      have k89 : w7.cell? ⟨w5.heap.size, 1, none⟩ = some (.int .i64 (xd)) := keepc hb (by go_simp)
      have k90 : w5.heap.size < w7.heap.size := by have hq := hb.size; simp at hq; omega
      have k91 : w7.cell? ⟨w6.heap.size, 0, none⟩ = some (.int .i64 (yn)) := keepc hb (by go_simp)
      have k92 : w7.cell? ⟨w6.heap.size, 1, none⟩ = some (.int .i64 (yd)) := keepc hb (by go_simp)
      have k93 : w6.heap.size < w7.heap.size := by have hq := hb.size; simp at hq; omega
      clear hb k49 k50 k51 k52 k53 k54 k55 k56 k57 k58 k59 k60 k61 k62 k63 k64 k65 k66 k67 k68 k69
      go_wp2
      go_ret
      exact ⟨rfl, (st_alloc B7.out _)⟩
    · have PS := hide (And.intro hp S1.out)
      have PX := hide (And.intro hq X1.out)
      have PY := hide (And.intro ht Y1.out)
      have PZ := hide (And.intro hu Z1.out)
      clear hp hq ht hu
      go_wp2_with fail
      refine (add_as_impl PS.out iS.out _).mono ?_
      rintro e w4 ⟨rfl, hb⟩
      have B4 := hide (st_trans (st_alloc (st_alloc B3.out _) _) hb)
      have k16 : w4.cell? ⟨w1.heap.size, 0, none⟩ = some (.int .i64 (an)) := keepc hb (by go_simp)
      have k17 : w4.cell? ⟨w1.heap.size, 1, none⟩ = some (.int .i64 (ad)) := keepc hb (by go_simp)
      have k18 : w1.heap.size < w4.heap.size := by have hq := hb.size; simp at hq; omega
      have k19 : w4.cell? ⟨w1.heap.size + 1, 0, none⟩ = some (.int .i64 (bn)) := keepc hb (by go_simp)
      have k20 : w4.cell? ⟨w1.heap.size + 1, 1, none⟩ = some (.int .i64 (bd)) := keepc hb (by go_simp)
      have k21 : w1.heap.size + 1 < w4.heap.size := by have hq := hb.size; simp at hq; omega
      have k22 : w4.cell? ⟨w2.heap.size, 0, none⟩ = some (.int .i64 (on)) := keepc hb (by go_simp)
      have k23 : w4.cell? ⟨w2.heap.size, 1, none⟩ = some (.int .i64 (od)) := keepc hb (by go_simp)
      have k24 : w2.heap.size < w4.heap.size := by have hq := hb.size; simp at hq; omega
      have k25 : w4.cell? ⟨w3.heap.size, 0, none⟩ = some (.int .i64 (on)) := keepc hb (by go_simp)
      have k26 : w4.cell? ⟨w3.heap.size, 1, none⟩ = some (.int .i64 (od)) := keepc hb (by go_simp)
      have k27 : w3.heap.size < w4.heap.size := by have hq := hb.size; simp at hq; omega
      have k28 : w4.cell? ⟨w3.heap.size + 1, 0, none⟩ = some (.int .i64 (1)) := keepc hb (by go_simp)
      have k29 : w4.cell? ⟨w3.heap.size + 1, 1, none⟩ = some (.int .i64 (2)) := keepc hb (by go_simp)
      have k30 : w3.heap.size + 1 < w4.heap.size := by have hq := hb.size; simp at hq; omega
      clear hb k7 k8 k9 k10 k11 k12 k13 k14 k15
      go_wp2_with fail
      refine (mul_as_impl PX.out iX.out _).mono ?_
      rintro e w5 ⟨rfl, hb⟩
      have B5 := hide (st_trans (st_alloc B4.out _) hb)
      have k31 : w5.cell? ⟨w1.heap.size, 0, none⟩ = some (.int .i64 (an)) := keepc hb (by go_simp)
      have k32 : w5.cell? ⟨w1.heap.size, 1, none⟩ = some (.int .i64 (ad)) := keepc hb (by go_simp)
      have k33 : w1.heap.size < w5.heap.size := by have hq := hb.size; simp at hq; omega
      have k34 : w5.cell? ⟨w1.heap.size + 1, 0, none⟩ = some (.int .i64 (bn)) := keepc hb (by go_simp)
      have k35 : w5.cell? ⟨w1.heap.size + 1, 1, none⟩ = some (.int .i64 (bd)) := keepc hb (by go_simp)
      have k36 : w1.heap.size + 1 < w5.heap.size := by have hq := hb.size; simp at hq; omega
      have k37 : w5.cell? ⟨w2.heap.size, 0, none⟩ = some (.int .i64 (on)) := keepc hb (by go_simp)
      have k38 : w5.cell? ⟨w2.heap.size, 1, none⟩ = some (.int .i64 (od)) := keepc hb (by go_simp)
      have k39 : w2.heap.size < w5.heap.size := by have hq := hb.size; simp at hq; omega
      have k40 : w5.cell? ⟨w3.heap.size, 0, none⟩ = some (.int .i64 (on)) := keepc hb (by go_simp)
      have k41 : w5.cell? ⟨w3.heap.size, 1, none⟩ = some (.int .i64 (od)) := keepc hb (by go_simp)
      have k42 : w3.heap.size < w5.heap.size := by have hq := hb.size; simp at hq; omega
      have k43 : w5.cell? ⟨w3.heap.size + 1, 0, none⟩ = some (.int .i64 (1)) := keepc hb (by go_simp)
      have k44 : w5.cell? ⟨w3.heap.size + 1, 1, none⟩ = some (.int .i64 (2)) := keepc hb (by go_simp)
      have k45 : w3.heap.size + 1 < w5.heap.size := by have hq := hb.size; simp at hq; omega
      have k46 : w5.cell? ⟨w4.heap.size, 0, none⟩ = some (.int .i64 (sn)) := keepc hb (by go_simp)
      have k47 : w5.cell? ⟨w4.heap.size, 1, none⟩ = some (.int .i64 (sd)) := keepc hb (by go_simp)
      have k48 : w4.heap.size < w5.heap.size := by have hq := hb.size; simp at hq; omega
      clear hb k16 k17 k18 k19 k20 k21 k22 k23 k24 k25 k26 k27 k28 k29 k30
      go_wp2_with fail
      refine (mul_as_impl PY.out iY.out _).mono ?_
      rintro e w6 ⟨rfl, hb⟩
      have B6 := hide (st_trans (st_alloc B5.out _) hb)
      have k49 : w6.cell? ⟨w1.heap.size, 0, none⟩ = some (.int .i64 (an)) := keepc hb (by go_simp)
      have k50 : w6.cell? ⟨w1.heap.size, 1, none⟩ = some (.int .i64 (ad)) := keepc hb (by go_simp)
      have k51 : w1.heap.size < w6.heap.size := by have hq := hb.size; simp at hq; omega
      have k52 : w6.cell? ⟨w1.heap.size + 1, 0, none⟩ = some (.int .i64 (bn)) := keepc hb (by go_simp)
      have k53 : w6.cell? ⟨w1.heap.size + 1, 1, none⟩ = some (.int .i64 (bd)) := keepc hb (by go_simp)
      have k54 : w1.heap.size + 1 < w6.heap.size := by have hq := hb.size; simp at hq; omega
      have k55 : w6.cell? ⟨w2.heap.size, 0, none⟩ = some (.int .i64 (on)) := keepc hb (by go_simp)
      have k56 : w6.cell? ⟨w2.heap.size, 1, none⟩ = some (.int .i64 (od)) := keepc hb (by go_simp)
      have k57 : w2.heap.size < w6.heap.size := by have hq := hb.size; simp at hq; omega
      have k58 : w6.cell? ⟨w3.heap.size, 0, none⟩ = some (.int .i64 (on)) := keepc hb (by go_simp)
      have k59 : w6.cell? ⟨w3.heap.size, 1, none⟩ = some (.int .i64 (od)) := keepc hb (by go_simp)
      have k60 : w3.heap.size < w6.heap.size := by have hq := hb.size; simp at hq; omega
      have k61 : w6.cell? ⟨w3.heap.size + 1, 0, none⟩ = some (.int .i64 (1)) := keepc hb (by go_simp)
      have k62 : w6.cell? ⟨w3.heap.size + 1, 1, none⟩ = some (.int .i64 (2)) := keepc hb (by go_simp)
      have k63 : w3.heap.size + 1 < w6.heap.size := by have hq := hb.size; simp at hq; omega
      have k64 : w6.cell? ⟨w4.heap.size, 0, none⟩ = some (.int .i64 (sn)) := keepc hb (by go_simp)
      have k65 : w6.cell? ⟨w4.heap.size, 1, none⟩ = some (.int .i64 (sd)) := keepc hb (by go_simp)
      have k66 : w4.heap.size < w6.heap.size := by have hq := hb.size; simp at hq; omega
      have k67 : w6.cell? ⟨w5.heap.size, 0, none⟩ = some (.int .i64 (xn)) := keepc hb (by go_simp)
      have k68 : w6.cell? ⟨w5.heap.size, 1, none⟩ = some (.int .i64 (xd)) := keepc hb (by go_simp)
      have k69 : w5.heap.size < w6.heap.size := by have hq := hb.size; simp at hq; omega
      clear hb k31 k32 k33 k34 k35 k36 k37 k38 k39 k40 k41 k42 k43 k44 k45 k46 k47 k48
      go_wp2_with fail
      refine (add_as_impl PZ.out iZ.out _).mono ?_
      rintro e w7 ⟨rfl, hb⟩
      have B7 := hide (st_trans (st_alloc B6.out _) hb)
      have k70 : w7.cell? ⟨w1.heap.size, 0, none⟩ = some (.int .i64 (an)) := keepc hb (by go_simp)
      have k71 : w7.cell? ⟨w1.heap.size, 1, none⟩ = some (.int .i64 (ad)) := keepc hb (by go_simp)
      have k72 : w1.heap.size < w7.heap.size := by have hq := hb.size; simp at hq; omega
      have k73 : w7.cell? ⟨w1.heap.size + 1, 0, none⟩ = some (.int .i64 (bn)) := keepc hb (by go_simp)
      have k74 : w7.cell? ⟨w1.heap.size + 1, 1, none⟩ = some (.int .i64 (bd)) := keepc hb (by go_simp)
      have k75 : w1.heap.size + 1 < w7.heap.size := by have hq := hb.size; simp at hq; omega
      have k76 : w7.cell? ⟨w2.heap.size, 0, none⟩ = some (.int .i64 (on)) := keepc hb (by go_simp)
      have k77 : w7.cell? ⟨w2.heap.size, 1, none⟩ = some (.int .i64 (od)) := keepc hb (by go_simp)
      have k78 : w2.heap.size < w7.heap.size := by have hq := hb.size; simp at hq; omega
      have k79 : w7.cell? ⟨w3.heap.size, 0, none⟩ = some (.int .i64 (on)) := keepc hb (by go_simp)
      have k80 : w7.cell? ⟨w3.heap.size, 1, none⟩ = some (.int .i64 (od)) := keepc hb (by go_simp)
      have k81 : w3.heap.size < w7.heap.size := by have hq := hb.size; simp at hq; omega
      have k82 : w7.cell? ⟨w3.heap.size + 1, 0, none⟩ = some (.int .i64 (1)) := keepc hb (by go_simp)
      have k83 : w7.cell? ⟨w3.heap.size + 1, 1, none⟩ = some (.int .i64 (2)) := keepc hb (by go_simp)
      have k84 : w3.heap.size + 1 < w7.heap.size := by have hq := hb.size; simp at hq; omega
      have k85 : w7.cell? ⟨w4.heap.size, 0, none⟩ = some (.int .i64 (sn)) := keepc hb (by go_simp)
      have k86 : w7.cell? ⟨w4.heap.size, 1, none⟩ = some (.int .i64 (sd)) := keepc hb (by go_simp)
      have k87 : w4.heap.size < w7.heap.size := by have hq := hb.size; simp at hq; omega
      have k88 : w7.cell? ⟨w5.heap.size, 0, none⟩ = some (.int .i64 (xn)) := keepc hb (by go_simp)
      have k89 : w7.cell? ⟨w5.heap.size, 1, none⟩ = some (.int .i64 (xd)) := keepc hb (by go_simp)
      have k90 : w5.heap.size < w7.heap.size := by have hq := hb.size; simp at hq; omega
      have k91 : w7.cell? ⟨w6.heap.size, 0, none⟩ = some (.int .i64 (yn)) := keepc hb (by go_simp)
      have k92 : w7.cell? ⟨w6.heap.size, 1, none⟩ = some (.int .i64 (yd)) := keepc hb (by go_simp)
      have k93 : w6.heap.size < w7.heap.size := by have hq := hb.size; simp at hq; omega
      clear hb k49 k50 k51 k52 k53 k54 k55 k56 k57 k58 k59 k60 k61 k62 k63 k64 k65 k66 k67 k68 k69
      go_wp2
      go_ret
      exact ⟨rfl, (st_alloc B7.out _)⟩
    · have PS := hide (And.intro hp S1.out)
      have PX := hide (And.intro hq X1.out)
      have PY := hide (And.intro ht Y1.out)
      have PZ := hide (And.intro hu Z1.out)
      clear hp hq ht hu
      go_wp2_with fail
      refine (add_as_impl PS.out iS.out _).mono ?_
      rintro e w4 ⟨rfl, hb⟩
      have B4 := hide (st_trans (st_alloc (st_alloc B3.out _) _) hb)
      have k16 : w4.cell? ⟨w1.heap.size, 0, none⟩ = some (.int .i64 (an)) := keepc hb (by go_simp)
      have k17 : w4.cell? ⟨w1.heap.size, 1, none⟩ = some (.int .i64 (ad)) := keepc hb (by go_simp)
      have k18 : w1.heap.size < w4.heap.size := by have hq := hb.size; simp at hq; omega
      have k19 : w4.cell? ⟨w1.heap.size + 1, 0, none⟩ = some (.int .i64 (bn)) := keepc hb (by go_simp)
      have k20 : w4.cell? ⟨w1.heap.size + 1, 1, none⟩ = some (.int .i64 (bd)) := keepc hb (by go_simp)
      have k21 : w1.heap.size + 1 < w4.heap.size := by have hq := hb.size; simp at hq; omega
      have k22 : w4.cell? ⟨w2.heap.size, 0, none⟩ = some (.int .i64 (on)) := keepc hb (by go_simp)
      have k23 : w4.cell? ⟨w2.heap.size, 1, none⟩ = some (.int .i64 (od)) := keepc hb (by go_simp)
      have k24 : w2.heap.size < w4.heap.size := by have hq := hb.size; simp at hq; omega
      have k25 : w4.cell? ⟨w3.heap.size, 0, none⟩ = some (.int .i64 (on)) := keepc hb (by go_simp)
      have k26 : w4.cell? ⟨w3.heap.size, 1, none⟩ = some (.int .i64 (od)) := keepc hb (by go_simp)
      have k27 : w3.heap.size < w4.heap.size := by have hq := hb.size; simp at hq; omega
      have k28 : w4.cell? ⟨w3.heap.size + 1, 0, none⟩ = some (.int .i64 (1)) := keepc hb (by go_simp)
      have k29 : w4.cell? ⟨w3.heap.size + 1, 1, none⟩ = some (.int .i64 (2)) := keepc hb (by go_simp)
      have k30 : w3.heap.size + 1 < w4.heap.size := by have hq := hb.size; simp at hq; omega
      clear hb k7 k8 k9 k10 k11 k12 k13 k14 k15
      go_wp2_with fail
      refine (mul_as_impl PX.out iX.out _).mono ?_
      rintro e w5 ⟨rfl, hb⟩
      have B5 := hide (st_trans (st_alloc B4.out _) hb)
      have k31 : w5.cell? ⟨w1.heap.size, 0, none⟩ = some (.int .i64 (an)) := keepc hb (by go_simp)
      have k32 : w5.cell? ⟨w1.heap.size, 1, none⟩ = some (.int .i64 (ad)) := keepc hb (by go_simp)
      have k33 : w1.heap.size < w5.heap.size := by have hq := hb.size; simp at hq; omega
      have k34 : w5.cell? ⟨w1.heap.size + 1, 0, none⟩ = some (.int .i64 (bn)) := keepc hb (by go_simp)
      have k35 : w5.cell? ⟨w1.heap.size + 1, 1, none⟩ = some (.int .i64 (bd)) := keepc hb (by go_simp)
      have k36 : w1.heap.size + 1 < w5.heap.size := by have hq := hb.size; simp at hq; omega
      have k37 : w5.cell? ⟨w2.heap.size, 0, none⟩ = some (.int .i64 (on)) := keepc hb (by go_simp)
      have k38 : w5.cell? ⟨w2.heap.size, 1, none⟩ = some (.int .i64 (od)) := keepc hb (by go_simp)
      have k39 : w2.heap.size < w5.heap.size := by have hq := hb.size; simp at hq; omega
      have k40 : w5.cell? ⟨w3.heap.size, 0, none⟩ = some (.int .i64 (on)) := keepc hb (by go_simp)
      have k41 : w5.cell? ⟨w3.heap.size, 1, none⟩ = some (.int .i64 (od)) := keepc hb (by go_simp)
      have k42 : w3.heap.size < w5.heap.size := by have hq := hb.size; simp at hq; omega
      have k43 : w5.cell? ⟨w3.heap.size + 1, 0, none⟩ = some (.int .i64 (1)) := keepc hb (by go_simp)
      have k44 : w5.cell? ⟨w3.heap.size + 1, 1, none⟩ = some (.int .i64 (2)) := keepc hb (by go_simp)
      have k45 : w3.heap.size + 1 < w5.heap.size := by have hq := hb.size; simp at hq; omega
      have k46 : w5.cell? ⟨w4.heap.size, 0, none⟩ = some (.int .i64 (sn)) := keepc hb (by go_simp)
      have k47 : w5.cell? ⟨w4.heap.size, 1, none⟩ = some (.int .i64 (sd)) := keepc hb (by go_simp)
      have k48 : w4.heap.size < w5.heap.size := by have hq := hb.size; simp at hq; omega
      clear hb k16 k17 k18 k19 k20 k21 k22 k23 k24 k25 k26 k27 k28 k29 k30
      go_wp2_with fail
      refine (mul_as_impl PY.out iY.out _).mono ?_
      rintro e w6 ⟨rfl, hb⟩
      have B6 := hide (st_trans (st_alloc B5.out _) hb)
      have k49 : w6.cell? ⟨w1.heap.size, 0, none⟩ = some (.int .i64 (an)) := keepc hb (by go_simp)
      have k50 : w6.cell? ⟨w1.heap.size, 1, none⟩ = some (.int .i64 (ad)) := keepc hb (by go_simp)
      have k51 : w1.heap.size < w6.heap.size := by have hq := hb.size; simp at hq; omega
      have k52 : w6.cell? ⟨w1.heap.size + 1, 0, none⟩ = some (.int .i64 (bn)) := keepc hb (by go_simp)
      have k53 : w6.cell? ⟨w1.heap.size + 1, 1, none⟩ = some (.int .i64 (bd)) := keepc hb (by go_simp)
      have k54 : w1.heap.size + 1 < w6.heap.size := by have hq := hb.size; simp at hq; omega
      have k55 : w6.cell? ⟨w2.heap.size, 0, none⟩ = some (.int .i64 (on)) := keepc hb (by go_simp)
      have k56 : w6.cell? ⟨w2.heap.size, 1, none⟩ = some (.int .i64 (od)) := keepc hb (by go_simp)
      have k57 : w2.heap.size < w6.heap.size := by have hq := hb.size; simp at hq; omega
      have k58 : w6.cell? ⟨w3.heap.size, 0, none⟩ = some (.int .i64 (on)) := keepc hb (by go_simp)
      have k59 : w6.cell? ⟨w3.heap.size, 1, none⟩ = some (.int .i64 (od)) := keepc hb (by go_simp)
      have k60 : w3.heap.size < w6.heap.size := by have hq := hb.size; simp at hq; omega
      have k61 : w6.cell? ⟨w3.heap.size + 1, 0, none⟩ = some (.int .i64 (1)) := keepc hb (by go_simp)
      have k62 : w6.cell? ⟨w3.heap.size + 1, 1, none⟩ = some (.int .i64 (2)) := keepc hb (by go_simp)
      have k63 : w3.heap.size + 1 < w6.heap.size := by have hq := hb.size; simp at hq; omega
      have k64 : w6.cell? ⟨w4.heap.size, 0, none⟩ = some (.int .i64 (sn)) := keepc hb (by go_simp)
      have k65 : w6.cell? ⟨w4.heap.size, 1, none⟩ = some (.int .i64 (sd)) := keepc hb (by go_simp)
      have k66 : w4.heap.size < w6.heap.size := by have hq := hb.size; simp at hq; omega
      have k67 : w6.cell? ⟨w5.heap.size, 0, none⟩ = some (.int .i64 (xn)) := keepc hb (by go_simp)
      have k68 : w6.cell? ⟨w5.heap.size, 1, none⟩ = some (.int .i64 (xd)) := keepc hb (by go_simp)
      have k69 : w5.heap.size < w6.heap.size := by have hq := hb.size; simp at hq; omega
      clear hb k31 k32 k33 k34 k35 k36 k37 k38 k39 k40 k41 k42 k43 k44 k45 k46 k47 k48
      go_wp2_with fail
      refine (add_as_impl PZ.out iZ.out _).mono ?_
      rintro e w7 ⟨rfl, hb⟩
      have B7 := hide (st_trans (st_alloc B6.out _) hb)
      have k70 : w7.cell? ⟨w1.heap.size, 0, none⟩ = some (.int .i64 (an)) := keepc hb (by go_simp)
      have k71 : w7.cell? ⟨w1.heap.size, 1, none⟩ = some (.int .i64 (ad)) := keepc hb (by go_simp)
      have k72 : w1.heap.size < w7.heap.size := by have hq := hb.size; simp at hq; omega
      have k73 : w7.cell? ⟨w1.heap.size + 1, 0, none⟩ = some (.int .i64 (bn)) := keepc hb (by go_simp)
      have k74 : w7.cell? ⟨w1.heap.size + 1, 1, none⟩ = some (.int .i64 (bd)) := keepc hb (by go_simp)
      have k75 : w1.heap.size + 1 < w7.heap.size := by have hq := hb.size; simp at hq; omega
      have k76 : w7.cell? ⟨w2.heap.size, 0, none⟩ = some (.int .i64 (on)) := keepc hb (by go_simp)
      have k77 : w7.cell? ⟨w2.heap.size, 1, none⟩ = some (.int .i64 (od)) := keepc hb (by go_simp)
      have k78 : w2.heap.size < w7.heap.size := by have hq := hb.size; simp at hq; omega
      have k79 : w7.cell? ⟨w3.heap.size, 0, none⟩ = some (.int .i64 (on)) := keepc hb (by go_simp)
      have k80 : w7.cell? ⟨w3.heap.size, 1, none⟩ = some (.int .i64 (od)) := keepc hb (by go_simp)
      have k81 : w3.heap.size < w7.heap.size := by have hq := hb.size; simp at hq; omega
      have k82 : w7.cell? ⟨w3.heap.size + 1, 0, none⟩ = some (.int .i64 (1)) := keepc hb (by go_simp)
      have k83 : w7.cell? ⟨w3.heap.size + 1, 1, none⟩ = some (.int .i64 (2)) := keepc hb (by go_simp)
      have k84 : w3.heap.size + 1 < w7.heap.size := by have hq := hb.size; simp at hq; omega
      have k85 : w7.cell? ⟨w4.heap.size, 0, none⟩ = some (.int .i64 (sn)) := keepc hb (by go_simp)
      have k86 : w7.cell? ⟨w4.heap.size, 1, none⟩ = some (.int .i64 (sd)) := keepc hb (by go_simp)
      have k87 : w4.heap.size < w7.heap.size := by have hq := hb.size; simp at hq; omega
      have k88 : w7.cell? ⟨w5.heap.size, 0, none⟩ = some (.int .i64 (xn)) := keepc hb (by go_simp)
      have k89 : w7.cell? ⟨w5.heap.size, 1, none⟩ = some (.int .i64 (xd)) := keepc hb (by go_simp)
      have k90 : w5.heap.size < w7.heap.size := by have hq := hb.size; simp at hq; omega
      have k91 : w7.cell? ⟨w6.heap.size, 0, none⟩ = some (.int .i64 (yn)) := keepc hb (by go_simp)
      have k92 : w7.cell? ⟨w6.heap.size, 1, none⟩ = some (.int .i64 (yd)) := keepc hb (by go_simp)
      have k93 : w6.heap.size < w7.heap.size := by have hq := hb.size; simp at hq; omega
      clear hb k49 k50 k51 k52 k53 k54 k55 k56 k57 k58 k59 k60 k61 k62 k63 k64 k65 k66 k67 k68 k69
      go_wp2
      go_ret
      exact ⟨rfl, (st_alloc B7.out _)⟩
    · have PS := hide (And.intro hp S1.out)
      have PX := hide (And.intro hq X1.out)
      have PY := hide (And.intro ht Y1.out)
      have PZ := hide (And.intro hu Z1.out)
      clear hp hq ht hu
      go_wp2_with fail
      refine (add_as_impl PS.out iS.out _).mono ?_
      rintro e w4 ⟨rfl, hb⟩
      have B4 := hide (st_trans (st_alloc (st_alloc B3.out _) _) hb)
      have k16 : w4.cell? ⟨w1.heap.size, 0, none⟩ = some (.int .i64 (an)) := keepc hb (by go_simp)
      have k17 : w4.cell? ⟨w1.heap.size, 1, none⟩ = some (.int .i64 (ad)) := keepc hb (by go_simp)
      have k18 : w1.heap.size < w4.heap.size := by have hq := hb.size; simp at hq; omega
      have k19 : w4.cell? ⟨w1.heap.size + 1, 0, none⟩ = some (.int .i64 (bn)) := keepc hb (by go_simp)
      have k20 : w4.cell? ⟨w1.heap.size + 1, 1, none⟩ = some (.int .i64 (bd)) := keepc hb (by go_simp)
      have k21 : w1.heap.size + 1 < w4.heap.size := by have hq := hb.size; simp at hq; omega
      have k22 : w4.cell? ⟨w2.heap.size, 0, none⟩ = some (.int .i64 (on)) := keepc hb (by go_simp)
      have k23 : w4.cell? ⟨w2.heap.size, 1, none⟩ = some (.int .i64 (od)) := keepc hb (by go_simp)
      have k24 : w2.heap.size < w4.heap.size := by have hq := hb.size; simp at hq; omega
      have k25 : w4.cell? ⟨w3.heap.size, 0, none⟩ = some (.int .i64 (on)) := keepc hb (by go_simp)
      have k26 : w4.cell? ⟨w3.heap.size, 1, none⟩ = some (.int .i64 (od)) := keepc hb (by go_simp)
      have k27 : w3.heap.size < w4.heap.size := by have hq := hb.size; simp at hq; omega
      have k28 : w4.cell? ⟨w3.heap.size + 1, 0, none⟩ = some (.int .i64 (1)) := keepc hb (by go_simp)
      have k29 : w4.cell? ⟨w3.heap.size + 1, 1, none⟩ = some (.int .i64 (2)) := keepc hb (by go_simp)
      have k30 : w3.heap.size + 1 < w4.heap.size := by have hq := hb.size; simp at hq; omega
      clear hb k7 k8 k9 k10 k11 k12 k13 k14 k15
      go_wp2_with fail
      refine (mul_as_impl PX.out iX.out _).mono ?_
      rintro e w5 ⟨rfl, hb⟩
      have B5 := hide (st_trans (st_alloc B4.out _) hb)
      have k31 : w5.cell? ⟨w1.heap.size, 0, none⟩ = some (.int .i64 (an)) := keepc hb (by go_simp)
      have k32 : w5.cell? ⟨w1.heap.size, 1, none⟩ = some (.int .i64 (ad)) := keepc hb (by go_simp)
      have k33 : w1.heap.size < w5.heap.size := by have hq := hb.size; simp at hq; omega
      have k34 : w5.cell? ⟨w1.heap.size + 1, 0, none⟩ = some (.int .i64 (bn)) := keepc hb (by go_simp)
      have k35 : w5.cell? ⟨w1.heap.size + 1, 1, none⟩ = some (.int .i64 (bd)) := keepc hb (by go_simp)
      have k36 : w1.heap.size + 1 < w5.heap.size := by have hq := hb.size; simp at hq; omega
      have k37 : w5.cell? ⟨w2.heap.size, 0, none⟩ = some (.int .i64 (on)) := keepc hb (by go_simp)
      have k38 : w5.cell? ⟨w2.heap.size, 1, none⟩ = some (.int .i64 (od)) := keepc hb (by go_simp)
      have k39 : w2.heap.size < w5.heap.size := by have hq := hb.size; simp at hq; omega
      have k40 : w5.cell? ⟨w3.heap.size, 0, none⟩ = some (.int .i64 (on)) := keepc hb (by go_simp)
      have k41 : w5.cell? ⟨w3.heap.size, 1, none⟩ = some (.int .i64 (od)) := keepc hb (by go_simp)
      have k42 : w3.heap.size < w5.heap.size := by have hq := hb.size; simp at hq; omega
      have k43 : w5.cell? ⟨w3.heap.size + 1, 0, none⟩ = some (.int .i64 (1)) := keepc hb (by go_simp)
      have k44 : w5.cell? ⟨w3.heap.size + 1, 1, none⟩ = some (.int .i64 (2)) := keepc hb (by go_simp)
      have k45 : w3.heap.size + 1 < w5.heap.size := by have hq := hb.size; simp at hq; omega
      have k46 : w5.cell? ⟨w4.heap.size, 0, none⟩ = some (.int .i64 (sn)) := keepc hb (by go_simp)
      have k47 : w5.cell? ⟨w4.heap.size, 1, none⟩ = some (.int .i64 (sd)) := keepc hb (by go_simp)
      have k48 : w4.heap.size < w5.heap.size := by have hq := hb.size; simp at hq; omega
      clear hb k16 k17 k18 k19 k20 k21 k22 k23 k24 k25 k26 k27 k28 k29 k30
      go_wp2_with fail
      refine (mul_as_impl PY.out iY.out _).mono ?_
      rintro e w6 ⟨rfl, hb⟩
      have B6 := hide (st_trans (st_alloc B5.out _) hb)
      have k49 : w6.cell? ⟨w1.heap.size, 0, none⟩ = some (.int .i64 (an)) := keepc hb (by go_simp)
      have k50 : w6.cell? ⟨w1.heap.size, 1, none⟩ = some (.int .i64 (ad)) := keepc hb (by go_simp)
      have k51 : w1.heap.size < w6.heap.size := by have hq := hb.size; simp at hq; omega
      have k52 : w6.cell? ⟨w1.heap.size + 1, 0, none⟩ = some (.int .i64 (bn)) := keepc hb (by go_simp)
      have k53 : w6.cell? ⟨w1.heap.size + 1, 1, none⟩ = some (.int .i64 (bd)) := keepc hb (by go_simp)
      have k54 : w1.heap.size + 1 < w6.heap.size := by have hq := hb.size; simp at hq; omega
      have k55 : w6.cell? ⟨w2.heap.size, 0, none⟩ = some (.int .i64 (on)) := keepc hb (by go_simp)
      have k56 : w6.cell? ⟨w2.heap.size, 1, none⟩ = some (.int .i64 (od)) := keepc hb (by go_simp)
      have k57 : w2.heap.size < w6.heap.size := by have hq := hb.size; simp at hq; omega
      have k58 : w6.cell? ⟨w3.heap.size, 0, none⟩ = some (.int .i64 (on)) := keepc hb (by go_simp)
      have k59 : w6.cell? ⟨w3.heap.size, 1, none⟩ = some (.int .i64 (od)) := keepc hb (by go_simp)
      have k60 : w3.heap.size < w6.heap.size := by have hq := hb.size; simp at hq; omega
      have k61 : w6.cell? ⟨w3.heap.size + 1, 0, none⟩ = some (.int .i64 (1)) := keepc hb (by go_simp)
      have k62 : w6.cell? ⟨w3.heap.size + 1, 1, none⟩ = some (.int .i64 (2)) := keepc hb (by go_simp)
      have k63 : w3.heap.size + 1 < w6.heap.size := by have hq := hb.size; simp at hq; omega
      have k64 : w6.cell? ⟨w4.heap.size, 0, none⟩ = some (.int .i64 (sn)) := keepc hb (by go_simp)
      have k65 : w6.cell? ⟨w4.heap.size, 1, none⟩ = some (.int .i64 (sd)) := keepc hb (by go_simp)
      have k66 : w4.heap.size < w6.heap.size := by have hq := hb.size; simp at hq; omega
      have k67 : w6.cell? ⟨w5.heap.size, 0, none⟩ = some (.int .i64 (xn)) := keepc hb (by go_simp)
      have k68 : w6.cell? ⟨w5.heap.size, 1, none⟩ = some (.int .i64 (xd)) := keepc hb (by go_simp)
      have k69 : w5.heap.size < w6.heap.size := by have hq := hb.size; simp at hq; omega
      clear hb k31 k32 k33 k34 k35 k36 k37 k38 k39 k40 k41 k42 k43 k44 k45 k46 k47 k48
      go_wp2_with fail
      refine (add_as_impl PZ.out iZ.out _).mono ?_
      rintro e w7 ⟨rfl, hb⟩
      have B7 := hide (st_trans (st_alloc B6.out _) hb)
      have k70 : w7.cell? ⟨w1.heap.size, 0, none⟩ = some (.int .i64 (an)) := keepc hb (by go_simp)
      have k71 : w7.cell? ⟨w1.heap.size, 1, none⟩ = some (.int .i64 (ad)) := keepc hb (by go_simp)
      have k72 : w1.heap.size < w7.heap.size := by have hq := hb.size; simp at hq; omega
      have k73 : w7.cell? ⟨w1.heap.size + 1, 0, none⟩ = some (.int .i64 (bn)) := keepc hb (by go_simp)
      have k74 : w7.cell? ⟨w1.heap.size + 1, 1, none⟩ = some (.int .i64 (bd)) := keepc hb (by go_simp)
      have k75 : w1.heap.size + 1 < w7.heap.size := by have hq := hb.size; simp at hq; omega
      have k76 : w7.cell? ⟨w2.heap.size, 0, none⟩ = some (.int .i64 (on)) := keepc hb (by go_simp)
      have k77 : w7.cell? ⟨w2.heap.size, 1, none⟩ = some (.int .i64 (od)) := keepc hb (by go_simp)
      have k78 : w2.heap.size < w7.heap.size := by have hq := hb.size; simp at hq; omega
      have k79 : w7.cell? ⟨w3.heap.size, 0, none⟩ = some (.int .i64 (on)) := keepc hb (by go_simp)
      have k80 : w7.cell? ⟨w3.heap.size, 1, none⟩ = some (.int .i64 (od)) := keepc hb (by go_simp)
      have k81 : w3.heap.size < w7.heap.size := by have hq := hb.size; simp at hq; omega
      have k82 : w7.cell? ⟨w3.heap.size + 1, 0, none⟩ = some (.int .i64 (1)) := keepc hb (by go_simp)
      have k83 : w7.cell? ⟨w3.heap.size + 1, 1, none⟩ = some (.int .i64 (2)) := keepc hb (by go_simp)
      have k84 : w3.heap.size + 1 < w7.heap.size := by have hq := hb.size; simp at hq; omega
      have k85 : w7.cell? ⟨w4.heap.size, 0, none⟩ = some (.int .i64 (sn)) := keepc hb (by go_simp)
      have k86 : w7.cell? ⟨w4.heap.size, 1, none⟩ = some (.int .i64 (sd)) := keepc hb (by go_simp)
      have k87 : w4.heap.size < w7.heap.size := by have hq := hb.size; simp at hq; omega
      have k88 : w7.cell? ⟨w5.heap.size, 0, none⟩ = some (.int .i64 (xn)) := keepc hb (by go_simp)
      have k89 : w7.cell? ⟨w5.heap.size, 1, none⟩ = some (.int .i64 (xd)) := keepc hb (by go_simp)
      have k90 : w5.heap.size < w7.heap.size := by have hq := hb.size; simp at hq; omega
      have k91 : w7.cell? ⟨w6.heap.size, 0, none⟩ = some (.int .i64 (yn)) := keepc hb (by go_simp)
      have k92 : w7.cell? ⟨w6.heap.size, 1, none⟩ = some (.int .i64 (yd)) := keepc hb (by go_simp)
      have k93 : w6.heap.size < w7.heap.size := by have hq := hb.size; simp at hq; omega
      clear hb k49 k50 k51 k52 k53 k54 k55 k56 k57 k58 k59 k60 k61 k62 k63 k64 k65 k66 k67 k68 k69
      go_wp2
      go_ret
      exact ⟨rfl, (st_alloc B7.out _)⟩
    · have PS := hide (And.intro hp S1.out)
      have PX := hide (And.intro hq X1.out)
      have PY := hide (And.intro ht Y1.out)
      have PZ := hide (And.intro hu Z1.out)
      clear hp hq ht hu
      go_wp2_with fail
      refine (add_as_impl PS.out iS.out _).mono ?_
      rintro e w4 ⟨rfl, hb⟩
      have B4 := hide (st_trans (st_alloc (st_alloc B3.out _) _) hb)
      have k16 : w4.cell? ⟨w1.heap.size, 0, none⟩ = some (.int .i64 (an)) := keepc hb (by go_simp)
      have k17 : w4.cell? ⟨w1.heap.size, 1, none⟩ = some (.int .i64 (ad)) := keepc hb (by go_simp)
      have k18 : w1.heap.size < w4.heap.size := by have hq := hb.size; simp at hq; omega
      have k19 : w4.cell? ⟨w1.heap.size + 1, 0, none⟩ = some (.int .i64 (bn)) := keepc hb (by go_simp)
      have k20 : w4.cell? ⟨w1.heap.size + 1, 1, none⟩ = some (.int .i64 (bd)) := keepc hb (by go_simp)
      have k21 : w1.heap.size + 1 < w4.heap.size := by have hq := hb.size; simp at hq; omega
      have k22 : w4.cell? ⟨w2.heap.size, 0, none⟩ = some (.int .i64 (on)) := keepc hb (by go_simp)
      have k23 : w4.cell? ⟨w2.heap.size, 1, none⟩ = some (.int .i64 (od)) := keepc hb (by go_simp)
      have k24 : w2.heap.size < w4.heap.size := by have hq := hb.size; simp at hq; omega
      have k25 : w4.cell? ⟨w3.heap.size, 0, none⟩ = some (.int .i64 (on)) := keepc hb (by go_simp)
      have k26 : w4.cell? ⟨w3.heap.size, 1, none⟩ = some (.int .i64 (od)) := keepc hb (by go_simp)
      have k27 : w3.heap.size < w4.heap.size := by have hq := hb.size; simp at hq; omega
      have k28 : w4.cell? ⟨w3.heap.size + 1, 0, none⟩ = some (.int .i64 (1)) := keepc hb (by go_simp)
      have k29 : w4.cell? ⟨w3.heap.size + 1, 1, none⟩ = some (.int .i64 (2)) := keepc hb (by go_simp)
      have k30 : w3.heap.size + 1 < w4.heap.size := by have hq := hb.size; simp at hq; omega
      clear hb k7 k8 k9 k10 k11 k12 k13 k14 k15
      go_wp2_with fail
      refine (mul_as_impl PX.out iX.out _).mono ?_
      rintro e w5 ⟨rfl, hb⟩
      have B5 := hide (st_trans (st_alloc B4.out _) hb)
      have k31 : w5.cell? ⟨w1.heap.size, 0, none⟩ = some (.int .i64 (an)) := keepc hb (by go_simp)
      have k32 : w5.cell? ⟨w1.heap.size, 1, none⟩ = some (.int .i64 (ad)) := keepc hb (by go_simp)
      have k33 : w1.heap.size < w5.heap.size := by have hq := hb.size; simp at hq; omega
      have k34 : w5.cell? ⟨w1.heap.size + 1, 0, none⟩ = some (.int .i64 (bn)) := keepc hb (by go_simp)
      have k35 : w5.cell? ⟨w1.heap.size + 1, 1, none⟩ = some (.int .i64 (bd)) := keepc hb (by go_simp)
      have k36 : w1.heap.size + 1 < w5.heap.size := by have hq := hb.size; simp at hq; omega
      have k37 : w5.cell? ⟨w2.heap.size, 0, none⟩ = some (.int .i64 (on)) := keepc hb (by go_simp)
      have k38 : w5.cell? ⟨w2.heap.size, 1, none⟩ = some (.int .i64 (od)) := keepc hb (by go_simp)
      have k39 : w2.heap.size < w5.heap.size := by have hq := hb.size; simp at hq; omega
      have k40 : w5.cell? ⟨w3.heap.size, 0, none⟩ = some (.int .i64 (on)) := keepc hb (by go_simp)
      have k41 : w5.cell? ⟨w3.heap.size, 1, none⟩ = some (.int .i64 (od)) := keepc hb (by go_simp)
      have k42 : w3.heap.size < w5.heap.size := by have hq := hb.size; simp at hq; omega
      have k43 : w5.cell? ⟨w3.heap.size + 1, 0, none⟩ = some (.int .i64 (1)) := keepc hb (by go_simp)
      have k44 : w5.cell? ⟨w3.heap.size + 1, 1, none⟩ = some (.int .i64 (2)) := keepc hb (by go_simp)
      have k45 : w3.heap.size + 1 < w5.heap.size := by have hq := hb.size; simp at hq; omega
      have k46 : w5.cell? ⟨w4.heap.size, 0, none⟩ = some (.int .i64 (sn)) := keepc hb (by go_simp)
      have k47 : w5.cell? ⟨w4.heap.size, 1, none⟩ = some (.int .i64 (sd)) := keepc hb (by go_simp)
      have k48 : w4.heap.size < w5.heap.size := by have hq := hb.size; simp at hq; omega
      clear hb k16 k17 k18 k19 k20 k21 k22 k23 k24 k25 k26 k27 k28 k29 k30
      go_wp2_with fail
      refine (mul_as_impl PY.out iY.out _).mono ?_
      rintro e w6 ⟨rfl, hb⟩
      have B6 := hide (st_trans (st_alloc B5.out _) hb)
      have k49 : w6.cell? ⟨w1.heap.size, 0, none⟩ = some (.int .i64 (an)) := keepc hb (by go_simp)
      have k50 : w6.cell? ⟨w1.heap.size, 1, none⟩ = some (.int .i64 (ad)) := keepc hb (by go_simp)
      have k51 : w1.heap.size < w6.heap.size := by have hq := hb.size; simp at hq; omega
      have k52 : w6.cell? ⟨w1.heap.size + 1, 0, none⟩ = some (.int .i64 (bn)) := keepc hb (by go_simp)
      have k53 : w6.cell? ⟨w1.heap.size + 1, 1, none⟩ = some (.int .i64 (bd)) := keepc hb (by go_simp)
      have k54 : w1.heap.size + 1 < w6.heap.size := by have hq := hb.size; simp at hq; omega
      have k55 : w6.cell? ⟨w2.heap.size, 0, none⟩ = some (.int .i64 (on)) := keepc hb (by go_simp)
      have k56 : w6.cell? ⟨w2.heap.size, 1, none⟩ = some (.int .i64 (od)) := keepc hb (by go_simp)
      have k57 : w2.heap.size < w6.heap.size := by have hq := hb.size; simp at hq; omega
      have k58 : w6.cell? ⟨w3.heap.size, 0, none⟩ = some (.int .i64 (on)) := keepc hb (by go_simp)
      have k59 : w6.cell? ⟨w3.heap.size, 1, none⟩ = some (.int .i64 (od)) := keepc hb (by go_simp)
      have k60 : w3.heap.size < w6.heap.size := by have hq := hb.size; simp at hq; omega
      have k61 : w6.cell? ⟨w3.heap.size + 1, 0, none⟩ = some (.int .i64 (1)) := keepc hb (by go_simp)
      have k62 : w6.cell? ⟨w3.heap.size + 1, 1, none⟩ = some (.int .i64 (2)) := keepc hb (by go_simp)
      have k63 : w3.heap.size + 1 < w6.heap.size := by have hq := hb.size; simp at hq; omega
      have k64 : w6.cell? ⟨w4.heap.size, 0, none⟩ = some (.int .i64 (sn)) := keepc hb (by go_simp)
      have k65 : w6.cell? ⟨w4.heap.size, 1, none⟩ = some (.int .i64 (sd)) := keepc hb (by go_simp)
      have k66 : w4.heap.size < w6.heap.size := by have hq := hb.size; simp at hq; omega
      have k67 : w6.cell? ⟨w5.heap.size, 0, none⟩ = some (.int .i64 (xn)) := keepc hb (by go_simp)
      have k68 : w6.cell? ⟨w5.heap.size, 1, none⟩ = some (.int .i64 (xd)) := keepc hb (by go_simp)
      have k69 : w5.heap.size < w6.heap.size := by have hq := hb.size; simp at hq; omega
      clear hb k31 k32 k33 k34 k35 k36 k37 k38 k39 k40 k41 k42 k43 k44 k45 k46 k47 k48
      go_wp2_with fail
      refine (add_as_impl PZ.out iZ.out _).mono ?_
      rintro e w7 ⟨rfl, hb⟩
      have B7 := hide (st_trans (st_alloc B6.out _) hb)
      have k70 : w7.cell? ⟨w1.heap.size, 0, none⟩ = some (.int .i64 (an)) := keepc hb (by go_simp)
      have k71 : w7.cell? ⟨w1.heap.size, 1, none⟩ = some (.int .i64 (ad)) := keepc hb (by go_simp)
      have k72 : w1.heap.size < w7.heap.size := by have hq := hb.size; simp at hq; omega
      have k73 : w7.cell? ⟨w1.heap.size + 1, 0, none⟩ = some (.int .i64 (bn)) := keepc hb (by go_simp)
      have k74 : w7.cell? ⟨w1.heap.size + 1, 1, none⟩ = some (.int .i64 (bd)) := keepc hb (by go_simp)
      have k75 : w1.heap.size + 1 < w7.heap.size := by have hq := hb.size; simp at hq; omega
      have k76 : w7.cell? ⟨w2.heap.size, 0, none⟩ = some (.int .i64 (on)) := keepc hb (by go_simp)
      have k77 : w7.cell? ⟨w2.heap.size, 1, none⟩ = some (.int .i64 (od)) := keepc hb (by go_simp)
      have k78 : w2.heap.size < w7.heap.size := by have hq := hb.size; simp at hq; omega
      have k79 : w7.cell? ⟨w3.heap.size, 0, none⟩ = some (.int .i64 (on)) := keepc hb (by go_simp)
      have k80 : w7.cell? ⟨w3.heap.size, 1, none⟩ = some (.int .i64 (od)) := keepc hb (by go_simp)
      have k81 : w3.heap.size < w7.heap.size := by have hq := hb.size; simp at hq; omega
      have k82 : w7.cell? ⟨w3.heap.size + 1, 0, none⟩ = some (.int .i64 (1)) := keepc hb (by go_simp)
      have k83 : w7.cell? ⟨w3.heap.size + 1, 1, none⟩ = some (.int .i64 (2)) := keepc hb (by go_simp)
      have k84 : w3.heap.size + 1 < w7.heap.size := by have hq := hb.size; simp at hq; omega
      have k85 : w7.cell? ⟨w4.heap.size, 0, none⟩ = some (.int .i64 (sn)) := keepc hb (by go_simp)
      have k86 : w7.cell? ⟨w4.heap.size, 1, none⟩ = some (.int .i64 (sd)) := keepc hb (by go_simp)
      have k87 : w4.heap.size < w7.heap.size := by have hq := hb.size; simp at hq; omega
      have k88 : w7.cell? ⟨w5.heap.size, 0, none⟩ = some (.int .i64 (xn)) := keepc hb (by go_simp)
      have k89 : w7.cell? ⟨w5.heap.size, 1, none⟩ = some (.int .i64 (xd)) := keepc hb (by go_simp)
      have k90 : w5.heap.size < w7.heap.size := by have hq := hb.size; simp at hq; omega
      have k91 : w7.cell? ⟨w6.heap.size, 0, none⟩ = some (.int .i64 (yn)) := keepc hb (by go_simp)
      have k92 : w7.cell? ⟨w6.heap.size, 1, none⟩ = some (.int .i64 (yd)) := keepc hb (by go_simp)
      have k93 : w6.heap.size < w7.heap.size := by have hq := hb.size; simp at hq; omega
      clear hb k49 k50 k51 k52 k53 k54 k55 k56 k57 k58 k59 k60 k61 k62 k63 k64 k65 k66 k67 k68 k69
      go_wp2
      go_ret
      exact ⟨rfl, (st_alloc B7.out _)⟩
    · have PS := hide (And.intro hp S1.out)
      have PX := hide (And.intro hq X1.out)
      have PY := hide (And.intro ht Y1.out)
      have PZ := hide (And.intro hu Z1.out)
      clear hp hq ht hu
      go_wp2_with fail
      refine (add_as_impl PS.out iS.out _).mono ?_
      rintro e w4 ⟨rfl, hb⟩
      have B4 := hide (st_trans (st_alloc (st_alloc B3.out _) _) hb)
      have k16 : w4.cell? ⟨w1.heap.size, 0, none⟩ = some (.int .i64 (an)) := keepc hb (by go_simp)
      have k17 : w4.cell? ⟨w1.heap.size, 1, none⟩ = some (.int .i64 (ad)) := keepc hb (by go_simp)
      have k18 : w1.heap.size < w4.heap.size := by have hq := hb.size; simp at hq; omega
      have k19 : w4.cell? ⟨w1.heap.size + 1, 0, none⟩ = some (.int .i64 (bn)) := keepc hb (by go_simp)
      have k20 : w4.cell? ⟨w1.heap.size + 1, 1, none⟩ = some (.int .i64 (bd)) := keepc hb (by go_simp)
      have k21 : w1.heap.size + 1 < w4.heap.size := by have hq := hb.size; simp at hq; omega
      have k22 : w4.cell? ⟨w2.heap.size, 0, none⟩ = some (.int .i64 (on)) := keepc hb (by go_simp)
      have k23 : w4.cell? ⟨w2.heap.size, 1, none⟩ = some (.int .i64 (od)) := keepc hb (by go_simp)
      have k24 : w2.heap.size < w4.heap.size := by have hq := hb.size; simp at hq; omega
      have k25 : w4.cell? ⟨w3.heap.size, 0, none⟩ = some (.int .i64 (on)) := keepc hb (by go_simp)
      have k26 : w4.cell? ⟨w3.heap.size, 1, none⟩ = some (.int .i64 (od)) := keepc hb (by go_simp)
      have k27 : w3.heap.size < w4.heap.size := by have hq := hb.size; simp at hq; omega
      have k28 : w4.cell? ⟨w3.heap.size + 1, 0, none⟩ = some (.int .i64 (1)) := keepc hb (by go_simp)
      have k29 : w4.cell? ⟨w3.heap.size + 1, 1, none⟩ = some (.int .i64 (2)) := keepc hb (by go_simp)
      have k30 : w3.heap.size + 1 < w4.heap.size := by have hq := hb.size; simp at hq; omega
      clear hb k7 k8 k9 k10 k11 k12 k13 k14 k15
      go_wp2_with fail
      refine (mul_as_impl PX.out iX.out _).mono ?_
      rintro e w5 ⟨rfl, hb⟩
      have B5 := hide (st_trans (st_alloc B4.out _) hb)
      have k31 : w5.cell? ⟨w1.heap.size, 0, none⟩ = some (.int .i64 (an)) := keepc hb (by go_simp)
      have k32 : w5.cell? ⟨w1.heap.size, 1, none⟩ = some (.int .i64 (ad)) := keepc hb (by go_simp)
      have k33 : w1.heap.size < w5.heap.size := by have hq := hb.size; simp at hq; omega
      have k34 : w5.cell? ⟨w1.heap.size + 1, 0, none⟩ = some (.int .i64 (bn)) := keepc hb (by go_simp)
      have k35 : w5.cell? ⟨w1.heap.size + 1, 1, none⟩ = some (.int .i64 (bd)) := keepc hb (by go_simp)
      have k36 : w1.heap.size + 1 < w5.heap.size := by have hq := hb.size; simp at hq; omega
      have k37 : w5.cell? ⟨w2.heap.size, 0, none⟩ = some (.int .i64 (on)) := keepc hb (by go_simp)
      have k38 : w5.cell? ⟨w2.heap.size, 1, none⟩ = some (.int .i64 (od)) := keepc hb (by go_simp)
      have k39 : w2.heap.size < w5.heap.size := by have hq := hb.size; simp at hq; omega
      have k40 : w5.cell? ⟨w3.heap.size, 0, none⟩ = some (.int .i64 (on)) := keepc hb (by go_simp)
      have k41 : w5.cell? ⟨w3.heap.size, 1, none⟩ = some (.int .i64 (od)) := keepc hb (by go_simp)
      have k42 : w3.heap.size < w5.heap.size := by have hq := hb.size; simp at hq; omega
      have k43 : w5.cell? ⟨w3.heap.size + 1, 0, none⟩ = some (.int .i64 (1)) := keepc hb (by go_simp)
      have k44 : w5.cell? ⟨w3.heap.size + 1, 1, none⟩ = some (.int .i64 (2)) := keepc hb (by go_simp)
      have k45 : w3.heap.size + 1 < w5.heap.size := by have hq := hb.size; simp at hq; omega
      have k46 : w5.cell? ⟨w4.heap.size, 0, none⟩ = some (.int .i64 (sn)) := keepc hb (by go_simp)
      have k47 : w5.cell? ⟨w4.heap.size, 1, none⟩ = some (.int .i64 (sd)) := keepc hb (by go_simp)
      have k48 : w4.heap.size < w5.heap.size := by have hq := hb.size; simp at hq; omega
      clear hb k16 k17 k18 k19 k20 k21 k22 k23 k24 k25 k26 k27 k28 k29 k30
      go_wp2_with fail
      refine (mul_as_impl PY.out iY.out _).mono ?_
      rintro e w6 ⟨rfl, hb⟩
      have B6 := hide (st_trans (st_alloc B5.out _) hb)
      have k49 : w6.cell? ⟨w1.heap.size, 0, none⟩ = some (.int .i64 (an)) := keepc hb (by go_simp)
      have k50 : w6.cell? ⟨w1.heap.size, 1, none⟩ = some (.int .i64 (ad)) := keepc hb (by go_simp)
      have k51 : w1.heap.size < w6.heap.size := by have hq := hb.size; simp at hq; omega
      have k52 : w6.cell? ⟨w1.heap.size + 1, 0, none⟩ = some (.int .i64 (bn)) := keepc hb (by go_simp)
      have k53 : w6.cell? ⟨w1.heap.size + 1, 1, none⟩ = some (.int .i64 (bd)) := keepc hb (by go_simp)
      have k54 : w1.heap.size + 1 < w6.heap.size := by have hq := hb.size; simp at hq; omega
      have k55 : w6.cell? ⟨w2.heap.size, 0, none⟩ = some (.int .i64 (on)) := keepc hb (by go_simp)
      have k56 : w6.cell? ⟨w2.heap.size, 1, none⟩ = some (.int .i64 (od)) := keepc hb (by go_simp)
      have k57 : w2.heap.size < w6.heap.size := by have hq := hb.size; simp at hq; omega
      have k58 : w6.cell? ⟨w3.heap.size, 0, none⟩ = some (.int .i64 (on)) := keepc hb (by go_simp)
      have k59 : w6.cell? ⟨w3.heap.size, 1, none⟩ = some (.int .i64 (od)) := keepc hb (by go_simp)
      have k60 : w3.heap.size < w6.heap.size := by have hq := hb.size; simp at hq; omega
      have k61 : w6.cell? ⟨w3.heap.size + 1, 0, none⟩ = some (.int .i64 (1)) := keepc hb (by go_simp)
      have k62 : w6.cell? ⟨w3.heap.size + 1, 1, none⟩ = some (.int .i64 (2)) := keepc hb (by go_simp)
      have k63 : w3.heap.size + 1 < w6.heap.size := by have hq := hb.size; simp at hq; omega
      have k64 : w6.cell? ⟨w4.heap.size, 0, none⟩ = some (.int .i64 (sn)) := keepc hb (by go_simp)
      have k65 : w6.cell? ⟨w4.heap.size, 1, none⟩ = some (.int .i64 (sd)) := keepc hb (by go_simp)
      have k66 : w4.heap.size < w6.heap.size := by have hq := hb.size; simp at hq; omega
      have k67 : w6.cell? ⟨w5.heap.size, 0, none⟩ = some (.int .i64 (xn)) := keepc hb (by go_simp)
      have k68 : w6.cell? ⟨w5.heap.size, 1, none⟩ = some (.int .i64 (xd)) := keepc hb (by go_simp)
      have k69 : w5.heap.size < w6.heap.size := by have hq := hb.size; simp at hq; omega
      clear hb k31 k32 k33 k34 k35 k36 k37 k38 k39 k40 k41 k42 k43 k44 k45 k46 k47 k48
      go_wp2_with fail
      refine (add_as_impl PZ.out iZ.out _).mono ?_
      rintro e w7 ⟨rfl, hb⟩
      have B7 := hide (st_trans (st_alloc B6.out _) hb)
      have k70 : w7.cell? ⟨w1.heap.size, 0, none⟩ = some (.int .i64 (an)) := keepc hb (by go_simp)
      have k71 : w7.cell? ⟨w1.heap.size, 1, none⟩ = some (.int .i64 (ad)) := keepc hb (by go_simp)
      have k72 : w1.heap.size < w7.heap.size := by have hq := hb.size; simp at hq; omega
      have k73 : w7.cell? ⟨w1.heap.size + 1, 0, none⟩ = some (.int .i64 (bn)) := keepc hb (by go_simp)
      have k74 : w7.cell? ⟨w1.heap.size + 1, 1, none⟩ = some (.int .i64 (bd)) := keepc hb (by go_simp)
      have k75 : w1.heap.size + 1 < w7.heap.size := by have hq := hb.size; simp at hq; omega
      have k76 : w7.cell? ⟨w2.heap.size, 0, none⟩ = some (.int .i64 (on)) := keepc hb (by go_simp)
      have k77 : w7.cell? ⟨w2.heap.size, 1, none⟩ = some (.int .i64 (od)) := keepc hb (by go_simp)
      have k78 : w2.heap.size < w7.heap.size := by have hq := hb.size; simp at hq; omega
      have k79 : w7.cell? ⟨w3.heap.size, 0, none⟩ = some (.int .i64 (on)) := keepc hb (by go_simp)
      have k80 : w7.cell? ⟨w3.heap.size, 1, none⟩ = some (.int .i64 (od)) := keepc hb (by go_simp)
      have k81 : w3.heap.size < w7.heap.size := by have hq := hb.size; simp at hq; omega
      have k82 : w7.cell? ⟨w3.heap.size + 1, 0, none⟩ = some (.int .i64 (1)) := keepc hb (by go_simp)
      have k83 : w7.cell? ⟨w3.heap.size + 1, 1, none⟩ = some (.int .i64 (2)) := keepc hb (by go_simp)
      have k84 : w3.heap.size + 1 < w7.heap.size := by have hq := hb.size; simp at hq; omega
      have k85 : w7.cell? ⟨w4.heap.size, 0, none⟩ = some (.int .i64 (sn)) := keepc hb (by go_simp)
      have k86 : w7.cell? ⟨w4.heap.size, 1, none⟩ = some (.int .i64 (sd)) := keepc hb (by go_simp)
      have k87 : w4.heap.size < w7.heap.size := by have hq := hb.size; simp at hq; omega
      have k88 : w7.cell? ⟨w5.heap.size, 0, none⟩ = some (.int .i64 (xn)) := keepc hb (by go_simp)
      have k89 : w7.cell? ⟨w5.heap.size, 1, none⟩ = some (.int .i64 (xd)) := keepc hb (by go_simp)
      have k90 : w5.heap.size < w7.heap.size := by have hq := hb.size; simp at hq; omega
      have k91 : w7.cell? ⟨w6.heap.size, 0, none⟩ = some (.int .i64 (yn)) := keepc hb (by go_simp)
      have k92 : w7.cell? ⟨w6.heap.size, 1, none⟩ = some (.int .i64 (yd)) := keepc hb (by go_simp)
      have k93 : w6.heap.size < w7.heap.size := by have hq := hb.size; simp at hq; omega
      clear hb k49 k50 k51 k52 k53 k54 k55 k56 k57 k58 k59 k60 k61 k62 k63 k64 k65 k66 k67 k68 k69
      go_wp2
      go_ret
      exact ⟨rfl, (st_alloc B7.out _)⟩
    · have PS := hide (And.intro hp S1.out)
      have PX := hide (And.intro hq X1.out)
      have PY := hide (And.intro ht Y1.out)
      have PZ := hide (And.intro hu Z1.out)
      obtain ⟨rfl, rfl⟩ := HL.out hp hq ht hu
      clear hp hq ht hu
      go_wp2_with fail
      refine (add_as_impl PS.out iS.out _).mono ?_
      rintro e w4 ⟨rfl, hb⟩
      have B4 := hide (st_trans (st_alloc (st_alloc B3.out _) _) hb)
      have k16 : w4.cell? ⟨w1.heap.size, 0, none⟩ = some (.int .i64 (an)) := keepc hb (by go_simp)
      have k17 : w4.cell? ⟨w1.heap.size, 1, none⟩ = some (.int .i64 (ad)) := keepc hb (by go_simp)
      have k18 : w1.heap.size < w4.heap.size := by have hq := hb.size; simp at hq; omega
      have k19 : w4.cell? ⟨w1.heap.size + 1, 0, none⟩ = some (.int .i64 (bn)) := keepc hb (by go_simp)
      have k20 : w4.cell? ⟨w1.heap.size + 1, 1, none⟩ = some (.int .i64 (bd)) := keepc hb (by go_simp)
      have k21 : w1.heap.size + 1 < w4.heap.size := by have hq := hb.size; simp at hq; omega
      have k22 : w4.cell? ⟨w2.heap.size, 0, none⟩ = some (.int .i64 (on)) := keepc hb (by go_simp)
      have k23 : w4.cell? ⟨w2.heap.size, 1, none⟩ = some (.int .i64 (od)) := keepc hb (by go_simp)
      have k24 : w2.heap.size < w4.heap.size := by have hq := hb.size; simp at hq; omega
      have k25 : w4.cell? ⟨w3.heap.size, 0, none⟩ = some (.int .i64 (on)) := keepc hb (by go_simp)
      have k26 : w4.cell? ⟨w3.heap.size, 1, none⟩ = some (.int .i64 (od)) := keepc hb (by go_simp)
      have k27 : w3.heap.size < w4.heap.size := by have hq := hb.size; simp at hq; omega
      have k28 : w4.cell? ⟨w3.heap.size + 1, 0, none⟩ = some (.int .i64 (1)) := keepc hb (by go_simp)
      have k29 : w4.cell? ⟨w3.heap.size + 1, 1, none⟩ = some (.int .i64 (2)) := keepc hb (by go_simp)
      have k30 : w3.heap.size + 1 < w4.heap.size := by have hq := hb.size; simp at hq; omega
      clear hb k7 k8 k9 k10 k11 k12 k13 k14 k15
      go_wp2_with fail
      refine (mul_as_impl PX.out iX.out _).mono ?_
      rintro e w5 ⟨rfl, hb⟩
      have B5 := hide (st_trans (st_alloc B4.out _) hb)
      have k31 : w5.cell? ⟨w1.heap.size, 0, none⟩ = some (.int .i64 (an)) := keepc hb (by go_simp)
      have k32 : w5.cell? ⟨w1.heap.size, 1, none⟩ = some (.int .i64 (ad)) := keepc hb (by go_simp)
      have k33 : w1.heap.size < w5.heap.size := by have hq := hb.size; simp at hq; omega
      have k34 : w5.cell? ⟨w1.heap.size + 1, 0, none⟩ = some (.int .i64 (bn)) := keepc hb (by go_simp)
      have k35 : w5.cell? ⟨w1.heap.size + 1, 1, none⟩ = some (.int .i64 (bd)) := keepc hb (by go_simp)
      have k36 : w1.heap.size + 1 < w5.heap.size := by have hq := hb.size; simp at hq; omega
      have k37 : w5.cell? ⟨w2.heap.size, 0, none⟩ = some (.int .i64 (on)) := keepc hb (by go_simp)
      have k38 : w5.cell? ⟨w2.heap.size, 1, none⟩ = some (.int .i64 (od)) := keepc hb (by go_simp)
      have k39 : w2.heap.size < w5.heap.size := by have hq := hb.size; simp at hq; omega
      have k40 : w5.cell? ⟨w3.heap.size, 0, none⟩ = some (.int .i64 (on)) := keepc hb (by go_simp)
      have k41 : w5.cell? ⟨w3.heap.size, 1, none⟩ = some (.int .i64 (od)) := keepc hb (by go_simp)
      have k42 : w3.heap.size < w5.heap.size := by have hq := hb.size; simp at hq; omega
      have k43 : w5.cell? ⟨w3.heap.size + 1, 0, none⟩ = some (.int .i64 (1)) := keepc hb (by go_simp)
      have k44 : w5.cell? ⟨w3.heap.size + 1, 1, none⟩ = some (.int .i64 (2)) := keepc hb (by go_simp)
      have k45 : w3.heap.size + 1 < w5.heap.size := by have hq := hb.size; simp at hq; omega
      have k46 : w5.cell? ⟨w4.heap.size, 0, none⟩ = some (.int .i64 (sn)) := keepc hb (by go_simp)
      have k47 : w5.cell? ⟨w4.heap.size, 1, none⟩ = some (.int .i64 (sd)) := keepc hb (by go_simp)
      have k48 : w4.heap.size < w5.heap.size := by have hq := hb.size; simp at hq; omega
      clear hb k16 k17 k18 k19 k20 k21 k22 k23 k24 k25 k26 k27 k28 k29 k30
      go_wp2_with fail
      refine (mul_as_impl PY.out iY.out _).mono ?_
      rintro e w6 ⟨rfl, hb⟩
      have B6 := hide (st_trans (st_alloc B5.out _) hb)
      have k49 : w6.cell? ⟨w1.heap.size, 0, none⟩ = some (.int .i64 (an)) := keepc hb (by go_simp)
      have k50 : w6.cell? ⟨w1.heap.size, 1, none⟩ = some (.int .i64 (ad)) := keepc hb (by go_simp)
      have k51 : w1.heap.size < w6.heap.size := by have hq := hb.size; simp at hq; omega
      have k52 : w6.cell? ⟨w1.heap.size + 1, 0, none⟩ = some (.int .i64 (bn)) := keepc hb (by go_simp)
      have k53 : w6.cell? ⟨w1.heap.size + 1, 1, none⟩ = some (.int .i64 (bd)) := keepc hb (by go_simp)
      have k54 : w1.heap.size + 1 < w6.heap.size := by have hq := hb.size; simp at hq; omega
      have k55 : w6.cell? ⟨w2.heap.size, 0, none⟩ = some (.int .i64 (on)) := keepc hb (by go_simp)
      have k56 : w6.cell? ⟨w2.heap.size, 1, none⟩ = some (.int .i64 (od)) := keepc hb (by go_simp)
      have k57 : w2.heap.size < w6.heap.size := by have hq := hb.size; simp at hq; omega
      have k58 : w6.cell? ⟨w3.heap.size, 0, none⟩ = some (.int .i64 (on)) := keepc hb (by go_simp)
      have k59 : w6.cell? ⟨w3.heap.size, 1, none⟩ = some (.int .i64 (od)) := keepc hb (by go_simp)
      have k60 : w3.heap.size < w6.heap.size := by have hq := hb.size; simp at hq; omega
      have k61 : w6.cell? ⟨w3.heap.size + 1, 0, none⟩ = some (.int .i64 (1)) := keepc hb (by go_simp)
      have k62 : w6.cell? ⟨w3.heap.size + 1, 1, none⟩ = some (.int .i64 (2)) := keepc hb (by go_simp)
      have k63 : w3.heap.size + 1 < w6.heap.size := by have hq := hb.size; simp at hq; omega
      have k64 : w6.cell? ⟨w4.heap.size, 0, none⟩ = some (.int .i64 (sn)) := keepc hb (by go_simp)
      have k65 : w6.cell? ⟨w4.heap.size, 1, none⟩ = some (.int .i64 (sd)) := keepc hb (by go_simp)
      have k66 : w4.heap.size < w6.heap.size := by have hq := hb.size; simp at hq; omega
      have k67 : w6.cell? ⟨w5.heap.size, 0, none⟩ = some (.int .i64 (xn)) := keepc hb (by go_simp)
      have k68 : w6.cell? ⟨w5.heap.size, 1, none⟩ = some (.int .i64 (xd)) := keepc hb (by go_simp)
      have k69 : w5.heap.size < w6.heap.size := by have hq := hb.size; simp at hq; omega
      clear hb k31 k32 k33 k34 k35 k36 k37 k38 k39 k40 k41 k42 k43 k44 k45 k46 k47 k48
      go_wp2_with fail
      refine (add_as_impl PZ.out iZ.out _).mono ?_
      rintro e w7 ⟨rfl, hb⟩
      have B7 := hide (st_trans (st_alloc B6.out _) hb)
      have k70 : w7.cell? ⟨w1.heap.size, 0, none⟩ = some (.int .i64 (an)) := keepc hb (by go_simp)
      have k71 : w7.cell? ⟨w1.heap.size, 1, none⟩ = some (.int .i64 (ad)) := keepc hb (by go_simp)
      have k72 : w1.heap.size < w7.heap.size := by have hq := hb.size; simp at hq; omega
      have k73 : w7.cell? ⟨w1.heap.size + 1, 0, none⟩ = some (.int .i64 (bn)) := keepc hb (by go_simp)
      have k74 : w7.cell? ⟨w1.heap.size + 1, 1, none⟩ = some (.int .i64 (bd)) := keepc hb (by go_simp)
      have k75 : w1.heap.size + 1 < w7.heap.size := by have hq := hb.size; simp at hq; omega
      have k76 : w7.cell? ⟨w2.heap.size, 0, none⟩ = some (.int .i64 (on)) := keepc hb (by go_simp)
      have k77 : w7.cell? ⟨w2.heap.size, 1, none⟩ = some (.int .i64 (od)) := keepc hb (by go_simp)
      have k78 : w2.heap.size < w7.heap.size := by have hq := hb.size; simp at hq; omega
      have k79 : w7.cell? ⟨w3.heap.size, 0, none⟩ = some (.int .i64 (on)) := keepc hb (by go_simp)
      have k80 : w7.cell? ⟨w3.heap.size, 1, none⟩ = some (.int .i64 (od)) := keepc hb (by go_simp)
      have k81 : w3.heap.size < w7.heap.size := by have hq := hb.size; simp at hq; omega
      have k82 : w7.cell? ⟨w3.heap.size + 1, 0, none⟩ = some (.int .i64 (1)) := keepc hb (by go_simp)
      have k83 : w7.cell? ⟨w3.heap.size + 1, 1, none⟩ = some (.int .i64 (2)) := keepc hb (by go_simp)
      have k84 : w3.heap.size + 1 < w7.heap.size := by have hq := hb.size; simp at hq; omega
      have k85 : w7.cell? ⟨w4.heap.size, 0, none⟩ = some (.int .i64 (sn)) := keepc hb (by go_simp)
      have k86 : w7.cell? ⟨w4.heap.size, 1, none⟩ = some (.int .i64 (sd)) := keepc hb (by go_simp)
      have k87 : w4.heap.size < w7.heap.size := by have hq := hb.size; simp at hq; omega
      have k88 : w7.cell? ⟨w5.heap.size, 0, none⟩ = some (.int .i64 (xn)) := keepc hb (by go_simp)
      have k89 : w7.cell? ⟨w5.heap.size, 1, none⟩ = some (.int .i64 (xd)) := keepc hb (by go_simp)
      have k90 : w5.heap.size < w7.heap.size := by have hq := hb.size; simp at hq; omega
      have k91 : w7.cell? ⟨w6.heap.size, 0, none⟩ = some (.int .i64 (yn)) := keepc hb (by go_simp)
      have k92 : w7.cell? ⟨w6.heap.size, 1, none⟩ = some (.int .i64 (yd)) := keepc hb (by go_simp)
      have k93 : w6.heap.size < w7.heap.size := by have hq := hb.size; simp at hq; omega
      clear hb k49 k50 k51 k52 k53 k54 k55 k56 k57 k58 k59 k60 k61 k62 k63 k64 k65 k66 k67 k68 k69
      go_wp2
      go_ret
      exact ⟨rfl, (st_alloc B7.out _)⟩

end Go.Proofs.Ytpilgcikabcndaa
