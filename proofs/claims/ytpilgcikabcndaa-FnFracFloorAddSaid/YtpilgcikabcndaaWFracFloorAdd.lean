/-
  The walk of the law FnFracFloorAdd.
  Conditions: the bytes can be read.
-/
import Derived.Test.YtpilgcikabcndaaFh
namespace Go.Proofs.Ytpilgcikabcndaa
open Go.RowKit Fr

set_option maxRecDepth 100000 in
set_option maxHeartbeats 8000000 in
theorem walk_fnFracFloorAdd (a : Option Addr) (len cap : Nat) (a' : Option Addr) (len' cap' : Nat) (w : World) (h : Code w a len cap) (h' : Code w a' len' cap') : Calls Try.prog 15 #[.slice a len cap, .slice a' len' cap'] w fun e w' => e = .returned (.bool true) ∧ Below w.heap.size w w' := by
  have hm : len ≤ 9223372036854775807 := by have h1 := h.1; have h2 := h.2.1; unfold maxLen at h2; omega
  have hm' : len' ≤ 9223372036854775807 := by have h1 := h'.1; have h2 := h'.2.1; unfold maxLen at h2; omega
  have H := hide h
  clear h
  by_cases hl : 1048576 < len
  · go_enter Try.func15, Try.ntmps15
    go_wp2
    go_ret
    exact ⟨rfl, Below.refl _ _⟩
  by_cases hl' : 1048576 < len'
  · go_enter Try.func15, Try.ntmps15
    go_wp2
    go_ret
    exact ⟨rfl, Below.refl _ _⟩
  go_enter Try.func15, Try.ntmps15
  go_wp2_with fail
  refine (dDrawFracFloor a len cap _ H.out).mono ?_
  rintro e w1 ⟨n, d, rfl, hS, hB⟩
  obtain ⟨s1, s2, s3, s4⟩ := hS
  have B1 := hide hB
  clear hB
  obtain ⟨k, hk, k1, k2⟩ : ∃ k : Int, (len' : Int) % 50 = k ∧ 0 ≤ k ∧ k < 50 := ⟨_, rfl, by omega, by omega⟩
  have KM := hide hk
  clear hk
  cases ho : okB n d
  · have I1 : Hid (I64 n ∧ I64 d) := by show _ ∧ _; unfold I64; omega
    have HO := hide (And.intro (floV_no ho) ho)
    clear ho
    go_wp2_with fail
    refine (floor_as HO.out I1.out _).mono ?_
    rintro e w2 ⟨rfl, hb⟩
    have B2 := hide (st_trans (st_alloc B1.out (.cells #[.int .i64 (n), .int .i64 (d)] 24)) hb)
    have k1 : w2.cell? ⟨w1.heap.size, 0, none⟩ = some (.int .i64 (n)) := keepc hb (by go_simp)
    have k2 : w2.cell? ⟨w1.heap.size, 1, none⟩ = some (.int .i64 (d)) := keepc hb (by go_simp)
    have k3 : w1.heap.size < w2.heap.size := by have hq := hb.size; (try simp at hq); omega
    clear hb
    go_wp2_with fail
    refine ((fun W => show Calls Try.prog 18 _ W (fun e w' => e = .returned (.tuple #[.int .i64 0, .bool false]) ∧ Below W.heap.size W w') from by have := floor_spec n d W I1.out.1 I1.out.2; rw [HO.out.1, HO.out.2] at this; exact this) _).mono ?_
    rintro e w3 ⟨rfl, hb⟩
    have B3 := hide (st_trans B2.out hb)
    have k4 : w3.cell? ⟨w1.heap.size, 0, none⟩ = some (.int .i64 (n)) := keepc hb (by go_simp)
    have k5 : w3.cell? ⟨w1.heap.size, 1, none⟩ = some (.int .i64 (d)) := keepc hb (by go_simp)
    have k6 : w1.heap.size < w3.heap.size := by have hq := hb.size; (try simp at hq); omega
    clear hb k1 k2 k3
    go_wp2
    go_ret
    exact ⟨rfl, B3.out⟩
  · by_cases h1 : d = 1
    · subst h1
      have hv := okB_iff.1 ho
      have h9 := hv.b9
      have fb := flo_small hv
      have hd := hv.d1
      have I1 : Hid (I64 n ∧ I64 1) := by show _ ∧ _; unfold I64; omega
      have I2 : Hid (I64 (-n) ∧ I64 1) := by show _ ∧ _; unfold I64; omega
      obtain ⟨f, hf⟩ : ∃ x, flo n 1 = x := ⟨_, rfl⟩
      have HO := hide (And.intro ((floV_yes ho).trans hf) ho)
      have hN : okB (-n) 1 = true := by have := okB_iff.2 (ok_neg hv); rwa [Int.zero_sub] at this
      have HN : Hid (floV (-n) 1 = -f ∧ okB (-n) 1 = true) := by
        refine ⟨(floV_yes hN).trans ?_, hN⟩
        have := flo_neg hv
        rw [Int.zero_sub, hf] at this
        rw [this]; omega
      have sa : Hid (S9 n 1) := hv.b9
      obtain ⟨sn, hsn⟩ : ∃ x, addN n 1 k 1 = x := ⟨_, rfl⟩
      obtain ⟨sd, hsd⟩ : ∃ x, addD n 1 k 1 = x := ⟨_, rfl⟩
      have ss := s9_add n 1 k 1
      rw [hsn, hsd] at ss
      have I3 : Hid (I64 sn ∧ I64 sd) := by unfold S9 at ss; show _ ∧ _; unfold I64; omega
      clear ss
      have iX := hide (i4 sa.out (s9_c k 1 (by omega)))
      have L : addOk n 1 k 1 = true → floV sn sd = f + k ∧ okB sn sd = true := by
        intro t1
        obtain ⟨o1, o2⟩ := flo_add t1
        rw [hsn, hsd] at o1 o2
        have o3 := okB_iff.2 o1
        exact ⟨(floV_yes o3).trans (by rw [o2, hf]), o3⟩
      have HL := hide L
      have X1 := hide (And.intro hsn hsd)
      rw [hf] at fb
      unfold S9 at h9
      have wr := wrap_neg n (by omega) (by omega)
      have wr2 := wrap_neg2 n (by omega) (by omega)
      clear L hv hN ho hf hsn hsd s1 s2 s3 s4
      go_wp2_with fail
      refine (floor_as HO.out I1.out _).mono ?_
      rintro e w2 ⟨rfl, hb⟩
      have B2 := hide (st_trans (st_alloc B1.out (.cells #[.int .i64 (n), .int .i64 (1)] 24)) hb)
      have k1 : w2.cell? ⟨w1.heap.size, 0, none⟩ = some (.int .i64 (n)) := keepc hb (by go_simp)
      have k2 : w2.cell? ⟨w1.heap.size, 1, none⟩ = some (.int .i64 (1)) := keepc hb (by go_simp)
      have k3 : w1.heap.size < w2.heap.size := by have hq := hb.size; (try simp at hq); omega
      clear hb
      go_wp2_with fail
      refine ((fun W => show Calls Try.prog 18 _ W (fun e w' => e = .returned (.tuple #[.int .i64 f, .bool true]) ∧ Below W.heap.size W w') from by have := floor_spec n 1 W I1.out.1 I1.out.2; rw [HO.out.1, HO.out.2] at this; exact this) _).mono ?_
      rintro e w3 ⟨rfl, hb⟩
      have B3 := hide (st_trans B2.out hb)
      have k4 : w3.cell? ⟨w1.heap.size, 0, none⟩ = some (.int .i64 (n)) := keepc hb (by go_simp)
      have k5 : w3.cell? ⟨w1.heap.size, 1, none⟩ = some (.int .i64 (1)) := keepc hb (by go_simp)
      have k6 : w1.heap.size < w3.heap.size := by have hq := hb.size; (try simp at hq); omega
      clear hb k1 k2 k3
      cases hp : addOk n 1 k 1
      · obtain ⟨qn, hqn⟩ : ∃ x, floV sn sd = x := ⟨_, rfl⟩
        obtain ⟨qo, hqo⟩ : ∃ x, okB sn sd = x := ⟨_, rfl⟩
        have HQ := hide (And.intro hqn hqo)
        clear hqn hqo
        have PX := hide (And.intro hp X1.out)
        clear hp
        go_upto_region 9 with fail
        rw [KM.out]
        go_cut [11, 12] (fun s t wx => Got w3 (sn) (sd) (false) s t wx)
        case first =>
          have HK0 := hide (st_refl w3)
          have HKd := hide (st_drew HK0.out)
          go_region_held3 (fun w' => w'.cell? ⟨w1.heap.size, 0, none⟩ = some (.int .i64 (n)) ∧ w'.cell? ⟨w1.heap.size, 1, none⟩ = some (.int .i64 (1))) (first | exact ⟨keepc (Hid.out (by assumption)) k4, keepc (Hid.out (by assumption)) k5⟩ | exact ⟨keepc (st_alloc (Hid.out (by assumption)) _) k4, keepc (st_alloc (Hid.out (by assumption)) _) k5⟩ | exact ⟨keepc (st_drew (st_alloc (Hid.out (by assumption)) _)) k4, keepc (st_drew (st_alloc (Hid.out (by assumption)) _)) k5⟩ | exact ⟨keepc (st_drew (Hid.out (by assumption))) k4, keepc (st_drew (Hid.out (by assumption))) k5⟩ | exact ⟨keepc (st_set (st_set (Hid.out (by assumption)) (by dsimp only; omega) _) (by dsimp only; omega) _) k4, keepc (st_set (st_set (Hid.out (by assumption)) (by dsimp only; omega) _) (by dsimp only; omega) _) k5⟩ | go_keep) (first | (go_at_call 29; refine (frac_law _ _).mono ?_; rintro e wx ⟨rfl, hbx⟩; have HK := hide (st_trans (a := w3) (by first | exact Hid.out (by assumption) | exact st_alloc (Hid.out (by assumption)) _ | exact st_drew (st_alloc (Hid.out (by assumption)) _)) hbx); have hnx := HK.out.size; obtain ⟨hcx, hfx⟩ := bcell hbx; have hsx := hbx.size; (try simp at hsx); (try have hsy := Nat.lt_of_succ_le hsx); (try have hlx := Nat.lt_of_lt_of_le (by assumption) hsx)) | (go_at_call 20; refine (add_as_impl PX.out iX.out _).mono ?_; rintro e wx ⟨rfl, hbx⟩; have HK := hide (st_trans (a := w3) (by first | exact Hid.out (by assumption) | exact st_alloc (Hid.out (by assumption)) _ | exact st_drew (st_alloc (Hid.out (by assumption)) _)) hbx); have hnx := HK.out.size; obtain ⟨hcx, hfx⟩ := bcell hbx; have hsx := hbx.size; (try simp at hsx); (try have hsy := Nat.lt_of_succ_le hsx); (try have hlx := Nat.lt_of_lt_of_le (by assumption) hsx)))
          all_goals
            go_wp2_with fail
            go_meet
            refine ⟨_, rfl, rfl, ?_, ?_, ?_⟩
            · go_simp
            · go_simp
            · first | exact st_alloc (Hid.out (by assumption)) _ | exact st_set (st_set (Hid.out (by assumption)) (by dsimp only; omega) _) (by dsimp only; omega) _
        obtain ⟨g4, rfl, rfl, hg0, hg1, hb⟩ := hcut
        obtain ⟨w4, hW⟩ := name_world wc
        rw [← hW] at hg0 hg1 hb ⊢
        clear hW
        have B4 := hide (st_trans B3.out hb)
        have k7 : w4.cell? ⟨w1.heap.size, 0, none⟩ = some (.int .i64 (n)) := keepc hb (by assumption)
        have k8 : w4.cell? ⟨w1.heap.size, 1, none⟩ = some (.int .i64 (1)) := keepc hb (by assumption)
        have k9 : w1.heap.size < w4.heap.size := by have hq := hb.size; omega
        have hgz : g4 < w4.heap.size := World.block_lt_of_cell? _ _ hg0
        clear hb k4 k5 k6
        have kg4 := hg0
        have kh4 := hg1
        have kz4 := hgz
        clear hg0 hg1 hgz
        go_wp2_with fail
        refine (floor_as HQ.out I3.out _).mono ?_
        rintro e w5 ⟨rfl, hb⟩
        have B5 := hide (st_trans B4.out hb)
        have k11 : w5.cell? ⟨w1.heap.size, 0, none⟩ = some (.int .i64 (n)) := keepc hb (by go_simp)
        have k12 : w5.cell? ⟨w1.heap.size, 1, none⟩ = some (.int .i64 (1)) := keepc hb (by go_simp)
        have k13 : w1.heap.size < w5.heap.size := by have hq := hb.size; (try simp at hq); omega
        have k14 : w5.cell? ⟨g4, 0, none⟩ = some (.int .i64 (sn)) := keepc hb (by go_simp)
        have k15 : w5.cell? ⟨g4, 1, none⟩ = some (.int .i64 (sd)) := keepc hb (by go_simp)
        have k16 : g4 < w5.heap.size := by have hq := hb.size; (try simp at hq); omega
        clear hb k7 k8 k9 kg4 kh4 kz4
        go_wp2_with fail
        refine (floor_as HN.out I2.out _).mono ?_
        rintro e w6 ⟨rfl, hb⟩
        have B6 := hide (st_trans B5.out hb)
        have k17 : w6.cell? ⟨w1.heap.size, 0, none⟩ = some (.int .i64 (n)) := keepc hb (by go_simp)
        have k18 : w6.cell? ⟨w1.heap.size, 1, none⟩ = some (.int .i64 (1)) := keepc hb (by go_simp)
        have k19 : w1.heap.size < w6.heap.size := by have hq := hb.size; (try simp at hq); omega
        have k20 : w6.cell? ⟨g4, 0, none⟩ = some (.int .i64 (sn)) := keepc hb (by go_simp)
        have k21 : w6.cell? ⟨g4, 1, none⟩ = some (.int .i64 (sd)) := keepc hb (by go_simp)
        have k22 : g4 < w6.heap.size := by have hq := hb.size; (try simp at hq); omega
        clear hb k11 k12 k13 k14 k15 k16
        go_wp2
        go_ret
        exact ⟨rfl, B6.out⟩
      · have HQ := hide (HL.out hp)
        have PX := hide (And.intro hp X1.out)
        clear hp
        go_upto_region 9 with fail
        rw [KM.out]
        go_cut [11, 12] (fun s t wx => Got w3 (sn) (sd) (true) s t wx)
        case first =>
          have HK0 := hide (st_refl w3)
          have HKd := hide (st_drew HK0.out)
          go_region_held3 (fun w' => w'.cell? ⟨w1.heap.size, 0, none⟩ = some (.int .i64 (n)) ∧ w'.cell? ⟨w1.heap.size, 1, none⟩ = some (.int .i64 (1))) (first | exact ⟨keepc (Hid.out (by assumption)) k4, keepc (Hid.out (by assumption)) k5⟩ | exact ⟨keepc (st_alloc (Hid.out (by assumption)) _) k4, keepc (st_alloc (Hid.out (by assumption)) _) k5⟩ | exact ⟨keepc (st_drew (st_alloc (Hid.out (by assumption)) _)) k4, keepc (st_drew (st_alloc (Hid.out (by assumption)) _)) k5⟩ | exact ⟨keepc (st_drew (Hid.out (by assumption))) k4, keepc (st_drew (Hid.out (by assumption))) k5⟩ | exact ⟨keepc (st_set (st_set (Hid.out (by assumption)) (by dsimp only; omega) _) (by dsimp only; omega) _) k4, keepc (st_set (st_set (Hid.out (by assumption)) (by dsimp only; omega) _) (by dsimp only; omega) _) k5⟩ | go_keep) (first | (go_at_call 29; refine (frac_law _ _).mono ?_; rintro e wx ⟨rfl, hbx⟩; have HK := hide (st_trans (a := w3) (by first | exact Hid.out (by assumption) | exact st_alloc (Hid.out (by assumption)) _ | exact st_drew (st_alloc (Hid.out (by assumption)) _)) hbx); have hnx := HK.out.size; obtain ⟨hcx, hfx⟩ := bcell hbx; have hsx := hbx.size; (try simp at hsx); (try have hsy := Nat.lt_of_succ_le hsx); (try have hlx := Nat.lt_of_lt_of_le (by assumption) hsx)) | (go_at_call 20; refine (add_as_impl PX.out iX.out _).mono ?_; rintro e wx ⟨rfl, hbx⟩; have HK := hide (st_trans (a := w3) (by first | exact Hid.out (by assumption) | exact st_alloc (Hid.out (by assumption)) _ | exact st_drew (st_alloc (Hid.out (by assumption)) _)) hbx); have hnx := HK.out.size; obtain ⟨hcx, hfx⟩ := bcell hbx; have hsx := hbx.size; (try simp at hsx); (try have hsy := Nat.lt_of_succ_le hsx); (try have hlx := Nat.lt_of_lt_of_le (by assumption) hsx)))
          all_goals
            go_wp2_with fail
            go_meet
            refine ⟨_, rfl, rfl, ?_, ?_, ?_⟩
            · go_simp
            · go_simp
            · first | exact st_alloc (Hid.out (by assumption)) _ | exact st_set (st_set (Hid.out (by assumption)) (by dsimp only; omega) _) (by dsimp only; omega) _
        obtain ⟨g4, rfl, rfl, hg0, hg1, hb⟩ := hcut
        obtain ⟨w4, hW⟩ := name_world wc
        rw [← hW] at hg0 hg1 hb ⊢
        clear hW
        have B4 := hide (st_trans B3.out hb)
        have k7 : w4.cell? ⟨w1.heap.size, 0, none⟩ = some (.int .i64 (n)) := keepc hb (by assumption)
        have k8 : w4.cell? ⟨w1.heap.size, 1, none⟩ = some (.int .i64 (1)) := keepc hb (by assumption)
        have k9 : w1.heap.size < w4.heap.size := by have hq := hb.size; omega
        have hgz : g4 < w4.heap.size := World.block_lt_of_cell? _ _ hg0
        clear hb k4 k5 k6
        have kg4 := hg0
        have kh4 := hg1
        have kz4 := hgz
        clear hg0 hg1 hgz
        go_wp2_with fail
        refine (floor_as HQ.out I3.out _).mono ?_
        rintro e w5 ⟨rfl, hb⟩
        have B5 := hide (st_trans B4.out hb)
        have k11 : w5.cell? ⟨w1.heap.size, 0, none⟩ = some (.int .i64 (n)) := keepc hb (by go_simp)
        have k12 : w5.cell? ⟨w1.heap.size, 1, none⟩ = some (.int .i64 (1)) := keepc hb (by go_simp)
        have k13 : w1.heap.size < w5.heap.size := by have hq := hb.size; (try simp at hq); omega
        have k14 : w5.cell? ⟨g4, 0, none⟩ = some (.int .i64 (sn)) := keepc hb (by go_simp)
        have k15 : w5.cell? ⟨g4, 1, none⟩ = some (.int .i64 (sd)) := keepc hb (by go_simp)
        have k16 : g4 < w5.heap.size := by have hq := hb.size; (try simp at hq); omega
        clear hb k7 k8 k9 kg4 kh4 kz4
        go_wp2_with fail
        refine (floor_as HN.out I2.out _).mono ?_
        rintro e w6 ⟨rfl, hb⟩
        have B6 := hide (st_trans B5.out hb)
        have k17 : w6.cell? ⟨w1.heap.size, 0, none⟩ = some (.int .i64 (n)) := keepc hb (by go_simp)
        have k18 : w6.cell? ⟨w1.heap.size, 1, none⟩ = some (.int .i64 (1)) := keepc hb (by go_simp)
        have k19 : w1.heap.size < w6.heap.size := by have hq := hb.size; (try simp at hq); omega
        have k20 : w6.cell? ⟨g4, 0, none⟩ = some (.int .i64 (sn)) := keepc hb (by go_simp)
        have k21 : w6.cell? ⟨g4, 1, none⟩ = some (.int .i64 (sd)) := keepc hb (by go_simp)
        have k22 : g4 < w6.heap.size := by have hq := hb.size; (try simp at hq); omega
        clear hb k11 k12 k13 k14 k15 k16
        go_wp2
        go_ret
        exact ⟨rfl, B6.out⟩
    · have hv := okB_iff.1 ho
      have h9 := hv.b9
      have fb := flo_small hv
      have hd := hv.d1
      have I1 : Hid (I64 n ∧ I64 d) := by show _ ∧ _; unfold I64; omega
      have I2 : Hid (I64 (-n) ∧ I64 d) := by show _ ∧ _; unfold I64; omega
      obtain ⟨f, hf⟩ : ∃ x, flo n d = x := ⟨_, rfl⟩
      have HO := hide (And.intro ((floV_yes ho).trans hf) ho)
      have hN : okB (-n) d = true := by have := okB_iff.2 (ok_neg hv); rwa [Int.zero_sub] at this
      have HN : Hid (floV (-n) d = -f - 1 ∧ okB (-n) d = true) := by
        refine ⟨(floV_yes hN).trans ?_, hN⟩
        have := flo_neg hv
        rw [Int.zero_sub, hf] at this
        rw [this]; omega
      have sa : Hid (S9 n d) := hv.b9
      obtain ⟨sn, hsn⟩ : ∃ x, addN n d k 1 = x := ⟨_, rfl⟩
      obtain ⟨sd, hsd⟩ : ∃ x, addD n d k 1 = x := ⟨_, rfl⟩
      have ss := s9_add n d k 1
      rw [hsn, hsd] at ss
      have I3 : Hid (I64 sn ∧ I64 sd) := by unfold S9 at ss; show _ ∧ _; unfold I64; omega
      clear ss
      have iX := hide (i4 sa.out (s9_c k 1 (by omega)))
      have L : addOk n d k 1 = true → floV sn sd = f + k ∧ okB sn sd = true := by
        intro t1
        obtain ⟨o1, o2⟩ := flo_add t1
        rw [hsn, hsd] at o1 o2
        have o3 := okB_iff.2 o1
        exact ⟨(floV_yes o3).trans (by rw [o2, hf]), o3⟩
      have HL := hide L
      have X1 := hide (And.intro hsn hsd)
      rw [hf] at fb
      unfold S9 at h9
      have wr := wrap_neg n (by omega) (by omega)
      have wr2 := wrap_neg2 n (by omega) (by omega)
      clear L hv hN ho hf hsn hsd s1 s2 s3 s4
      have hd1 : 1 ≤ d - 1 := by omega
      have hd2 : ¬ d - 1 < 1 := by omega
      have wr3 : IntKind.i64.wrap (d - 1) = d - 1 := IntWalk.i64_in _ ⟨by omega, by omega⟩
      have wr5 : IntKind.i64.wrap (-f) = -f := IntWalk.i64_in _ ⟨by omega, by omega⟩
      have wr6 : IntKind.i64.wrap (-f - 1) = -f - 1 := IntWalk.i64_in _ ⟨by omega, by omega⟩
      clear h1
      go_wp2_with fail
      refine (floor_as HO.out I1.out _).mono ?_
      rintro e w2 ⟨rfl, hb⟩
      have B2 := hide (st_trans (st_alloc B1.out (.cells #[.int .i64 (n), .int .i64 (d)] 24)) hb)
      have k1 : w2.cell? ⟨w1.heap.size, 0, none⟩ = some (.int .i64 (n)) := keepc hb (by go_simp)
      have k2 : w2.cell? ⟨w1.heap.size, 1, none⟩ = some (.int .i64 (d)) := keepc hb (by go_simp)
      have k3 : w1.heap.size < w2.heap.size := by have hq := hb.size; (try simp at hq); omega
      clear hb
      go_wp2_with fail
      refine ((fun W => show Calls Try.prog 18 _ W (fun e w' => e = .returned (.tuple #[.int .i64 f, .bool true]) ∧ Below W.heap.size W w') from by have := floor_spec n d W I1.out.1 I1.out.2; rw [HO.out.1, HO.out.2] at this; exact this) _).mono ?_
      rintro e w3 ⟨rfl, hb⟩
      have B3 := hide (st_trans B2.out hb)
      have k4 : w3.cell? ⟨w1.heap.size, 0, none⟩ = some (.int .i64 (n)) := keepc hb (by go_simp)
      have k5 : w3.cell? ⟨w1.heap.size, 1, none⟩ = some (.int .i64 (d)) := keepc hb (by go_simp)
      have k6 : w1.heap.size < w3.heap.size := by have hq := hb.size; (try simp at hq); omega
      clear hb k1 k2 k3
      cases hp : addOk n d k 1
      · obtain ⟨qn, hqn⟩ : ∃ x, floV sn sd = x := ⟨_, rfl⟩
        obtain ⟨qo, hqo⟩ : ∃ x, okB sn sd = x := ⟨_, rfl⟩
        have HQ := hide (And.intro hqn hqo)
        clear hqn hqo
        have PX := hide (And.intro hp X1.out)
        clear hp
        go_upto_region 9 with fail
        rw [KM.out]
        go_cut [11, 12] (fun s t wx => Got w3 (sn) (sd) (false) s t wx)
        case first =>
          have HK0 := hide (st_refl w3)
          have HKd := hide (st_drew HK0.out)
          go_region_held3 (fun w' => w'.cell? ⟨w1.heap.size, 0, none⟩ = some (.int .i64 (n)) ∧ w'.cell? ⟨w1.heap.size, 1, none⟩ = some (.int .i64 (d))) (first | exact ⟨keepc (Hid.out (by assumption)) k4, keepc (Hid.out (by assumption)) k5⟩ | exact ⟨keepc (st_alloc (Hid.out (by assumption)) _) k4, keepc (st_alloc (Hid.out (by assumption)) _) k5⟩ | exact ⟨keepc (st_drew (st_alloc (Hid.out (by assumption)) _)) k4, keepc (st_drew (st_alloc (Hid.out (by assumption)) _)) k5⟩ | exact ⟨keepc (st_drew (Hid.out (by assumption))) k4, keepc (st_drew (Hid.out (by assumption))) k5⟩ | exact ⟨keepc (st_set (st_set (Hid.out (by assumption)) (by dsimp only; omega) _) (by dsimp only; omega) _) k4, keepc (st_set (st_set (Hid.out (by assumption)) (by dsimp only; omega) _) (by dsimp only; omega) _) k5⟩ | go_keep) (first | (go_at_call 29; refine (frac_law _ _).mono ?_; rintro e wx ⟨rfl, hbx⟩; have HK := hide (st_trans (a := w3) (by first | exact Hid.out (by assumption) | exact st_alloc (Hid.out (by assumption)) _ | exact st_drew (st_alloc (Hid.out (by assumption)) _)) hbx); have hnx := HK.out.size; obtain ⟨hcx, hfx⟩ := bcell hbx; have hsx := hbx.size; (try simp at hsx); (try have hsy := Nat.lt_of_succ_le hsx); (try have hlx := Nat.lt_of_lt_of_le (by assumption) hsx)) | (go_at_call 20; refine (add_as_impl PX.out iX.out _).mono ?_; rintro e wx ⟨rfl, hbx⟩; have HK := hide (st_trans (a := w3) (by first | exact Hid.out (by assumption) | exact st_alloc (Hid.out (by assumption)) _ | exact st_drew (st_alloc (Hid.out (by assumption)) _)) hbx); have hnx := HK.out.size; obtain ⟨hcx, hfx⟩ := bcell hbx; have hsx := hbx.size; (try simp at hsx); (try have hsy := Nat.lt_of_succ_le hsx); (try have hlx := Nat.lt_of_lt_of_le (by assumption) hsx)))
          all_goals
            go_wp2_with fail
            go_meet
            refine ⟨_, rfl, rfl, ?_, ?_, ?_⟩
            · go_simp
            · go_simp
            · first | exact st_alloc (Hid.out (by assumption)) _ | exact st_set (st_set (Hid.out (by assumption)) (by dsimp only; omega) _) (by dsimp only; omega) _
        obtain ⟨g4, rfl, rfl, hg0, hg1, hb⟩ := hcut
        obtain ⟨w4, hW⟩ := name_world wc
        rw [← hW] at hg0 hg1 hb ⊢
        clear hW
        have B4 := hide (st_trans B3.out hb)
        have k7 : w4.cell? ⟨w1.heap.size, 0, none⟩ = some (.int .i64 (n)) := keepc hb (by assumption)
        have k8 : w4.cell? ⟨w1.heap.size, 1, none⟩ = some (.int .i64 (d)) := keepc hb (by assumption)
        have k9 : w1.heap.size < w4.heap.size := by have hq := hb.size; omega
        have hgz : g4 < w4.heap.size := World.block_lt_of_cell? _ _ hg0
        clear hb k4 k5 k6
        have kg4 := hg0
        have kh4 := hg1
        have kz4 := hgz
        clear hg0 hg1 hgz
        go_wp2_with fail
        refine (floor_as HQ.out I3.out _).mono ?_
        rintro e w5 ⟨rfl, hb⟩
        have B5 := hide (st_trans B4.out hb)
        have k11 : w5.cell? ⟨w1.heap.size, 0, none⟩ = some (.int .i64 (n)) := keepc hb (by go_simp)
        have k12 : w5.cell? ⟨w1.heap.size, 1, none⟩ = some (.int .i64 (d)) := keepc hb (by go_simp)
        have k13 : w1.heap.size < w5.heap.size := by have hq := hb.size; (try simp at hq); omega
        have k14 : w5.cell? ⟨g4, 0, none⟩ = some (.int .i64 (sn)) := keepc hb (by go_simp)
        have k15 : w5.cell? ⟨g4, 1, none⟩ = some (.int .i64 (sd)) := keepc hb (by go_simp)
        have k16 : g4 < w5.heap.size := by have hq := hb.size; (try simp at hq); omega
        clear hb k7 k8 k9 kg4 kh4 kz4
        go_wp2_with fail
        refine (floor_as HN.out I2.out _).mono ?_
        rintro e w6 ⟨rfl, hb⟩
        have B6 := hide (st_trans B5.out hb)
        have k17 : w6.cell? ⟨w1.heap.size, 0, none⟩ = some (.int .i64 (n)) := keepc hb (by go_simp)
        have k18 : w6.cell? ⟨w1.heap.size, 1, none⟩ = some (.int .i64 (d)) := keepc hb (by go_simp)
        have k19 : w1.heap.size < w6.heap.size := by have hq := hb.size; (try simp at hq); omega
        have k20 : w6.cell? ⟨g4, 0, none⟩ = some (.int .i64 (sn)) := keepc hb (by go_simp)
        have k21 : w6.cell? ⟨g4, 1, none⟩ = some (.int .i64 (sd)) := keepc hb (by go_simp)
        have k22 : g4 < w6.heap.size := by have hq := hb.size; (try simp at hq); omega
        clear hb k11 k12 k13 k14 k15 k16
        go_wp2
        go_ret
        exact ⟨rfl, B6.out⟩
      · have HQ := hide (HL.out hp)
        have PX := hide (And.intro hp X1.out)
        clear hp
        go_upto_region 9 with fail
        rw [KM.out]
        go_cut [11, 12] (fun s t wx => Got w3 (sn) (sd) (true) s t wx)
        case first =>
          have HK0 := hide (st_refl w3)
          have HKd := hide (st_drew HK0.out)
          go_region_held3 (fun w' => w'.cell? ⟨w1.heap.size, 0, none⟩ = some (.int .i64 (n)) ∧ w'.cell? ⟨w1.heap.size, 1, none⟩ = some (.int .i64 (d))) (first | exact ⟨keepc (Hid.out (by assumption)) k4, keepc (Hid.out (by assumption)) k5⟩ | exact ⟨keepc (st_alloc (Hid.out (by assumption)) _) k4, keepc (st_alloc (Hid.out (by assumption)) _) k5⟩ | exact ⟨keepc (st_drew (st_alloc (Hid.out (by assumption)) _)) k4, keepc (st_drew (st_alloc (Hid.out (by assumption)) _)) k5⟩ | exact ⟨keepc (st_drew (Hid.out (by assumption))) k4, keepc (st_drew (Hid.out (by assumption))) k5⟩ | exact ⟨keepc (st_set (st_set (Hid.out (by assumption)) (by dsimp only; omega) _) (by dsimp only; omega) _) k4, keepc (st_set (st_set (Hid.out (by assumption)) (by dsimp only; omega) _) (by dsimp only; omega) _) k5⟩ | go_keep) (first | (go_at_call 29; refine (frac_law _ _).mono ?_; rintro e wx ⟨rfl, hbx⟩; have HK := hide (st_trans (a := w3) (by first | exact Hid.out (by assumption) | exact st_alloc (Hid.out (by assumption)) _ | exact st_drew (st_alloc (Hid.out (by assumption)) _)) hbx); have hnx := HK.out.size; obtain ⟨hcx, hfx⟩ := bcell hbx; have hsx := hbx.size; (try simp at hsx); (try have hsy := Nat.lt_of_succ_le hsx); (try have hlx := Nat.lt_of_lt_of_le (by assumption) hsx)) | (go_at_call 20; refine (add_as_impl PX.out iX.out _).mono ?_; rintro e wx ⟨rfl, hbx⟩; have HK := hide (st_trans (a := w3) (by first | exact Hid.out (by assumption) | exact st_alloc (Hid.out (by assumption)) _ | exact st_drew (st_alloc (Hid.out (by assumption)) _)) hbx); have hnx := HK.out.size; obtain ⟨hcx, hfx⟩ := bcell hbx; have hsx := hbx.size; (try simp at hsx); (try have hsy := Nat.lt_of_succ_le hsx); (try have hlx := Nat.lt_of_lt_of_le (by assumption) hsx)))
          all_goals
            go_wp2_with fail
            go_meet
            refine ⟨_, rfl, rfl, ?_, ?_, ?_⟩
            · go_simp
            · go_simp
            · first | exact st_alloc (Hid.out (by assumption)) _ | exact st_set (st_set (Hid.out (by assumption)) (by dsimp only; omega) _) (by dsimp only; omega) _
        obtain ⟨g4, rfl, rfl, hg0, hg1, hb⟩ := hcut
        obtain ⟨w4, hW⟩ := name_world wc
        rw [← hW] at hg0 hg1 hb ⊢
        clear hW
        have B4 := hide (st_trans B3.out hb)
        have k7 : w4.cell? ⟨w1.heap.size, 0, none⟩ = some (.int .i64 (n)) := keepc hb (by assumption)
        have k8 : w4.cell? ⟨w1.heap.size, 1, none⟩ = some (.int .i64 (d)) := keepc hb (by assumption)
        have k9 : w1.heap.size < w4.heap.size := by have hq := hb.size; omega
        have hgz : g4 < w4.heap.size := World.block_lt_of_cell? _ _ hg0
        clear hb k4 k5 k6
        have kg4 := hg0
        have kh4 := hg1
        have kz4 := hgz
        clear hg0 hg1 hgz
        go_wp2_with fail
        refine (floor_as HQ.out I3.out _).mono ?_
        rintro e w5 ⟨rfl, hb⟩
        have B5 := hide (st_trans B4.out hb)
        have k11 : w5.cell? ⟨w1.heap.size, 0, none⟩ = some (.int .i64 (n)) := keepc hb (by go_simp)
        have k12 : w5.cell? ⟨w1.heap.size, 1, none⟩ = some (.int .i64 (d)) := keepc hb (by go_simp)
        have k13 : w1.heap.size < w5.heap.size := by have hq := hb.size; (try simp at hq); omega
        have k14 : w5.cell? ⟨g4, 0, none⟩ = some (.int .i64 (sn)) := keepc hb (by go_simp)
        have k15 : w5.cell? ⟨g4, 1, none⟩ = some (.int .i64 (sd)) := keepc hb (by go_simp)
        have k16 : g4 < w5.heap.size := by have hq := hb.size; (try simp at hq); omega
        clear hb k7 k8 k9 kg4 kh4 kz4
        go_wp2_with fail
        refine (floor_as HN.out I2.out _).mono ?_
        rintro e w6 ⟨rfl, hb⟩
        have B6 := hide (st_trans B5.out hb)
        have k17 : w6.cell? ⟨w1.heap.size, 0, none⟩ = some (.int .i64 (n)) := keepc hb (by go_simp)
        have k18 : w6.cell? ⟨w1.heap.size, 1, none⟩ = some (.int .i64 (d)) := keepc hb (by go_simp)
        have k19 : w1.heap.size < w6.heap.size := by have hq := hb.size; (try simp at hq); omega
        have k20 : w6.cell? ⟨g4, 0, none⟩ = some (.int .i64 (sn)) := keepc hb (by go_simp)
        have k21 : w6.cell? ⟨g4, 1, none⟩ = some (.int .i64 (sd)) := keepc hb (by go_simp)
        have k22 : g4 < w6.heap.size := by have hq := hb.size; (try simp at hq); omega
        clear hb k11 k12 k13 k14 k15 k16
        go_wp2
        go_ret
        exact ⟨rfl, B6.out⟩

end Go.Proofs.Ytpilgcikabcndaa
