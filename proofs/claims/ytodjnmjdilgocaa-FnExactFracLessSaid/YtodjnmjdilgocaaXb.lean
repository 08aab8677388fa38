/-
  The walks of the exact laws on one fraction, of FracOf and of FracLess.
  Conditions: int64.
-/
import Derived.Test.YtodjnmjdilgocaaXa
namespace Go.Proofs.Ytodjnmjdilgocaa
open Go.RowKit Fr

set_option maxHeartbeats 1000000 in
theorem walk_fnExactFracValid (n d : Int) (w : World) (h1 : I64 n) (h2 : I64 d) :
    Calls Try.prog 3 #[.agg #[.int .i64 n, .int .i64 d]] w fun e w' => e = .returned (.bool true) ∧ Below w.heap.size w w' := by
  go_enter Try.func3, Try.ntmps3
  go_wp2_with fail
  refine (to_frac _ _ _).mono ?_
  rintro e w1 ⟨rfl, hb1⟩
  go_wp2_with fail
  refine (fv_spec _ _ _ h1.1 h1.2 h2.1 h2.2).mono ?_
  rintro e w2 ⟨rfl, hb2⟩
  have c0 : w2.cell? ⟨w.heap.size, 0, none⟩ = some (.int .i64 n) := keepc hb2 (keepc hb1 (by go_simp))
  have c1 : w2.cell? ⟨w.heap.size, 1, none⟩ = some (.int .i64 d) := keepc hb2 (keepc hb1 (by go_simp))
  go_wp2_with fail
  refine (to_frac _ _ _).mono ?_
  rintro e w3 ⟨rfl, hb3⟩
  go_wp2_with fail
  refine (fv_impl _ _ _ h1.1 h1.2 h2.1 h2.2).mono ?_
  rintro e w4 ⟨rfl, hb4⟩
  go_wp2
  go_ret
  exact ⟨rfl, st_trans (st_trans (st_trans (st_trans (st_alloc (st_refl _) _) hb1) hb2) hb3) hb4⟩

set_option maxHeartbeats 1000000 in
theorem walk_fnExactFracFloor (n d : Int) (w : World) (h1 : I64 n) (h2 : I64 d) :
    Calls Try.prog 5 #[.agg #[.int .i64 n, .int .i64 d]] w fun e w' => e = .returned (.bool true) ∧ Below w.heap.size w w' := by
  go_enter Try.func5, Try.ntmps5
  go_wp2_with fail
  refine (to_frac _ _ _).mono ?_
  rintro e w1 ⟨rfl, hb1⟩
  go_wp2_with fail
  refine (floor_spec _ _ _ h1 h2).mono ?_
  rintro e w2 ⟨rfl, hb2⟩
  have c0 : w2.cell? ⟨w.heap.size, 0, none⟩ = some (.int .i64 n) := keepc hb2 (keepc hb1 (by go_simp))
  have c1 : w2.cell? ⟨w.heap.size, 1, none⟩ = some (.int .i64 d) := keepc hb2 (keepc hb1 (by go_simp))
  go_wp2_with fail
  refine (to_frac _ _ _).mono ?_
  rintro e w3 ⟨rfl, hb3⟩
  go_wp2_with fail
  refine (floor_impl _ _ _ h1 h2).mono ?_
  rintro e w4 ⟨rfl, hb4⟩
  go_wp2
  go_ret
  exact ⟨rfl, st_trans (st_trans (st_trans (st_trans (st_alloc (st_refl _) _) hb1) hb2) hb3) hb4⟩

set_option maxHeartbeats 1000000 in
theorem walk_fnExactFracOf (a b : Int) (w : World) (h1 : I64 a) (h2 : I64 b) :
    Calls Try.prog 6 #[.int .i64 a, .int .i64 b] w fun e w' => e = .returned (.bool true) ∧ Below w.heap.size w w' := by
  go_enter Try.func6, Try.ntmps6
  go_wp2_with fail
  refine (of_spec _ _ _ h1.1 h1.2 h2.1 h2.2).mono ?_
  rintro e w1 ⟨rfl, hb1⟩
  go_wp2_with fail
  refine (of_impl _ _ _ h1.1 h1.2 h2.1 h2.2).mono ?_
  rintro e w2 ⟨rfl, hb2⟩
  have c0 : w2.cell? ⟨w1.heap.size, 0, none⟩ = some (.int .i64 (ofN a b)) := keepc hb2 (by go_simp)
  have c1 : w2.cell? ⟨w1.heap.size, 1, none⟩ = some (.int .i64 (ofD a b)) := keepc hb2 (by go_simp)
  have hz : w1.heap.size < w2.heap.size := by have := hb2.size; simp at this; omega
  go_wp2_with (go_at_call 24; refine (eq_frac _ _ _).mono ?_; rintro e w3 ⟨rfl, hb3⟩)
  go_ret
  exact ⟨rfl, st_trans (st_alloc (st_trans (st_alloc hb1 _) hb2) _) hb3⟩

set_option maxHeartbeats 4000000 in
theorem walk_fnExactFracLess (an ad bn bd : Int) (w : World) (h1 : I64 an) (h2 : I64 ad) (h3 : I64 bn) (h4 : I64 bd) :
    Calls Try.prog 4 #[.agg #[.int .i64 an, .int .i64 ad], .agg #[.int .i64 bn, .int .i64 bd]] w fun e w' => e = .returned (.bool true) ∧ Below w.heap.size w w' := by
  have FS := F2.start w an ad bn bd 23
  have BS : Below w.heap.size w ((w.alloc (.cells #[.int .i64 an, .int .i64 ad] 23)).alloc (.cells #[.int .i64 bn, .int .i64 bd] 23)) := st_alloc (st_alloc (st_refl _) _) _
  go_enter Try.func4, Try.ntmps4
  go_upto_region 1 with fail
  obtain ⟨W0, hW0⟩ := name_world ((w.alloc (.cells #[.int .i64 an, .int .i64 ad] 23)).alloc (.cells #[.int .i64 bn, .int .i64 bd] 23))
  rw [← hW0] at FS BS ⊢
  clear hW0
  have C := hide FS
  have CB := hide BS
  clear FS BS
  go_cut [5] (fun s wx => s = .bool (lessB an ad bn bd) ∧ Below W0.heap.size W0 wx)
  case first =>
    have HK0 := hide (st_refl W0)
    have HKd := hide (st_drew HK0.out)
    go_region_held3 (fun w' => w'.cell? ⟨w.heap.size, 0, none⟩ = some (.int .i64 an) ∧ w'.cell? ⟨w.heap.size, 1, none⟩ = some (.int .i64 ad) ∧ w'.cell? ⟨w.heap.size + 1, 0, none⟩ = some (.int .i64 bn) ∧ w'.cell? ⟨w.heap.size + 1, 1, none⟩ = some (.int .i64 bd)) (first | exact (F2.keep (B := w.heap.size) (an := an) (ad := ad) (bn := bn) (bd := bd) (w1 := W0) C.out (Hid.out (by assumption))) | exact (F2.keep (B := w.heap.size) (an := an) (ad := ad) (bn := bn) (bd := bd) (w1 := W0) C.out (st_alloc (Hid.out (by assumption)) _)) | exact (F2.keep (B := w.heap.size) (an := an) (ad := ad) (bn := bn) (bd := bd) (w1 := W0) C.out (st_set (st_set (Hid.out (by assumption)) (by dsimp only; omega) _) (by dsimp only; omega) _)) | go_keep) (first | (go_at_call 16; refine (to_frac _ _ _).mono ?_; rintro e wx ⟨rfl, hbx⟩; have HK := hide (st_trans (a := W0) (by first | exact Hid.out (by assumption) | exact st_alloc (Hid.out (by assumption)) _ | exact st_drew (st_alloc (Hid.out (by assumption)) _)) hbx); have hnx := HK.out.size; obtain ⟨hcx, hfx⟩ := bcell hbx; have hsx := hbx.size; (try simp at hsx); (try have hsy := Nat.lt_of_succ_le hsx); (try have hlx := Nat.lt_of_lt_of_le (by assumption) hsx)) | (go_at_call 18; refine (less_spec _ _ _ _ _ h1 h2 h3 h4).mono ?_; rintro e wx ⟨rfl, hbx⟩; have HK := hide (st_trans (a := W0) (by first | exact Hid.out (by assumption) | exact st_alloc (Hid.out (by assumption)) _ | exact st_drew (st_alloc (Hid.out (by assumption)) _)) hbx); have hnx := HK.out.size; obtain ⟨hcx, hfx⟩ := bcell hbx; have hsx := hbx.size; (try simp at hsx); (try have hsy := Nat.lt_of_succ_le hsx); (try have hlx := Nat.lt_of_lt_of_le (by assumption) hsx)))
    all_goals
      go_wp2_with fail
      go_meet
      exact ⟨rfl, Hid.out (by assumption)⟩
  case rest =>
    obtain ⟨rfl, hb⟩ := hcut
    have C2 := hide (C.out.keep hb)
    have CB2 := hide (st_trans CB.out hb)
    clear hb
    go_upto_region 2 with fail
    go_cut [6] (fun s wx => s = .bool (lessB an ad bn bd) ∧ Below wc.heap.size wc wx)
    case first =>
      have HK0 := hide (st_refl wc)
      have HKd := hide (st_drew HK0.out)
      go_region_held3 (fun w' => w'.cell? ⟨w.heap.size, 0, none⟩ = some (.int .i64 an) ∧ w'.cell? ⟨w.heap.size, 1, none⟩ = some (.int .i64 ad) ∧ w'.cell? ⟨w.heap.size + 1, 0, none⟩ = some (.int .i64 bn) ∧ w'.cell? ⟨w.heap.size + 1, 1, none⟩ = some (.int .i64 bd)) (first | exact (F2.keep (B := w.heap.size) (an := an) (ad := ad) (bn := bn) (bd := bd) (w1 := wc) C2.out (Hid.out (by assumption))) | exact (F2.keep (B := w.heap.size) (an := an) (ad := ad) (bn := bn) (bd := bd) (w1 := wc) C2.out (st_alloc (Hid.out (by assumption)) _)) | exact (F2.keep (B := w.heap.size) (an := an) (ad := ad) (bn := bn) (bd := bd) (w1 := wc) C2.out (st_set (st_set (Hid.out (by assumption)) (by dsimp only; omega) _) (by dsimp only; omega) _)) | go_keep) (first | (go_at_call 16; refine (to_frac _ _ _).mono ?_; rintro e wx ⟨rfl, hbx⟩; have HK := hide (st_trans (a := wc) (by first | exact Hid.out (by assumption) | exact st_alloc (Hid.out (by assumption)) _ | exact st_drew (st_alloc (Hid.out (by assumption)) _)) hbx); have hnx := HK.out.size; obtain ⟨hcx, hfx⟩ := bcell hbx; have hsx := hbx.size; (try simp at hsx); (try have hsy := Nat.lt_of_succ_le hsx); (try have hlx := Nat.lt_of_lt_of_le (by assumption) hsx)) | (go_at_call 19; refine (less_impl _ _ _ _ _ h1 h2 h3 h4).mono ?_; rintro e wx ⟨rfl, hbx⟩; have HK := hide (st_trans (a := wc) (by first | exact Hid.out (by assumption) | exact st_alloc (Hid.out (by assumption)) _ | exact st_drew (st_alloc (Hid.out (by assumption)) _)) hbx); have hnx := HK.out.size; obtain ⟨hcx, hfx⟩ := bcell hbx; have hsx := hbx.size; (try simp at hsx); (try have hsy := Nat.lt_of_succ_le hsx); (try have hlx := Nat.lt_of_lt_of_le (by assumption) hsx)))
      all_goals
        go_wp2_with fail
        go_meet
        exact ⟨rfl, Hid.out (by assumption)⟩
    case rest =>
      obtain ⟨rfl, hb⟩ := hcut
      have CB3 := hide (st_trans CB2.out hb)
      clear hb
      go_wp2
      go_ret
      exact ⟨rfl, CB3.out⟩

end Go.Proofs.Ytodjnmjdilgocaa
