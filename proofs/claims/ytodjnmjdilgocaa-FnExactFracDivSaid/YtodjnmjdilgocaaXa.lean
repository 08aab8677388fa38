/-
  The walks of the exact laws on fractions.
  Conditions: int64.
-/
import Derived.Test.YtodjnmjdilgocaaFl
import Derived.Deep.RegionHeld3
import Derived.Deep.DeepCutAuto
namespace Go.Proofs.Ytodjnmjdilgocaa
open Go.RowKit Fr

/-- behind a two-valued assignment: slot s holds a pointer to a new block with the fraction, slot t the bool; what lay there has not turned -/
def Got (W0 : World) (n d : Int) (o : Bool) (s t : Value) (wx : World) : Prop :=
  ∃ g : Nat, s = .pointer (some ⟨g, 0, none⟩) ∧ t = .bool o ∧ wx.cell? ⟨g, 0, none⟩ = some (.int .i64 n) ∧ wx.cell? ⟨g, 1, none⟩ = some (.int .i64 d) ∧ Below W0.heap.size W0 wx
theorem name_world (W : World) : ∃ W0 : World, W0 = W := ⟨W, rfl⟩

set_option maxHeartbeats 4000000 in
theorem walk_fnExactFracAdd (an ad bn bd : Int) (w : World) (h1 : I64 an) (h2 : I64 ad) (h3 : I64 bn) (h4 : I64 bd) :
    Calls Try.prog 7 #[.agg #[.int .i64 an, .int .i64 ad], .agg #[.int .i64 bn, .int .i64 bd]] w fun e w' => e = .returned (.bool true) ∧ Below w.heap.size w w' := by
  have FS := F2.start w an ad bn bd 23
  have BS : Below w.heap.size w ((w.alloc (.cells #[.int .i64 an, .int .i64 ad] 23)).alloc (.cells #[.int .i64 bn, .int .i64 bd] 23)) := st_alloc (st_alloc (st_refl _) _) _
  go_enter Try.func7, Try.ntmps7
  go_upto_region 1 with fail
  obtain ⟨W0, hW0⟩ := name_world ((w.alloc (.cells #[.int .i64 an, .int .i64 ad] 23)).alloc (.cells #[.int .i64 bn, .int .i64 bd] 23))
  rw [← hW0] at FS BS ⊢
  clear hW0
  have C := hide FS
  have CB := hide BS
  clear FS BS
  go_cut [5, 6] (fun s t wx => Got W0 (addN an ad bn bd) (addD an ad bn bd) (addOk an ad bn bd) s t wx)
  case first =>
    have HK0 := hide (st_refl W0)
    have HKd := hide (st_drew HK0.out)
    go_region_held3 (fun w' => w'.cell? ⟨w.heap.size, 0, none⟩ = some (.int .i64 an) ∧ w'.cell? ⟨w.heap.size, 1, none⟩ = some (.int .i64 ad) ∧ w'.cell? ⟨w.heap.size + 1, 0, none⟩ = some (.int .i64 bn) ∧ w'.cell? ⟨w.heap.size + 1, 1, none⟩ = some (.int .i64 bd)) (first | exact (F2.keep (B := w.heap.size) (an := an) (ad := ad) (bn := bn) (bd := bd) (w1 := W0) C.out (Hid.out (by assumption))) | exact (F2.keep (B := w.heap.size) (an := an) (ad := ad) (bn := bn) (bd := bd) (w1 := W0) C.out (st_alloc (Hid.out (by assumption)) _)) | exact (F2.keep (B := w.heap.size) (an := an) (ad := ad) (bn := bn) (bd := bd) (w1 := W0) C.out (st_set (st_set (Hid.out (by assumption)) (by dsimp only; omega) _) (by dsimp only; omega) _)) | go_keep) (first | (go_at_call 16; refine (to_frac _ _ _).mono ?_; rintro e wx ⟨rfl, hbx⟩; have HK := hide (st_trans (a := W0) (by first | exact Hid.out (by assumption) | exact st_alloc (Hid.out (by assumption)) _ | exact st_drew (st_alloc (Hid.out (by assumption)) _)) hbx); have hnx := HK.out.size; obtain ⟨hcx, hfx⟩ := bcell hbx; have hsx := hbx.size; (try simp at hsx); (try have hsy := Nat.lt_of_succ_le hsx); (try have hlx := Nat.lt_of_lt_of_le (by assumption) hsx)) | (go_at_call 25; refine (add_spec _ _ _ _ _ h1 h2 h3 h4).mono ?_; rintro e wx ⟨rfl, hbx⟩; have HK := hide (st_trans (a := W0) (by first | exact Hid.out (by assumption) | exact st_alloc (Hid.out (by assumption)) _ | exact st_drew (st_alloc (Hid.out (by assumption)) _)) hbx); have hnx := HK.out.size; obtain ⟨hcx, hfx⟩ := bcell hbx; have hsx := hbx.size; (try simp at hsx); (try have hsy := Nat.lt_of_succ_le hsx); (try have hlx := Nat.lt_of_lt_of_le (by assumption) hsx)))
    all_goals
      go_wp2_with fail
      go_meet
      refine ⟨_, rfl, rfl, ?_, ?_, ?_⟩
      · go_simp
      · go_simp
      · first | exact st_alloc (Hid.out (by assumption)) _ | exact st_set (st_set (Hid.out (by assumption)) (by dsimp only; omega) _) (by dsimp only; omega) _
  case rest =>
    obtain ⟨g, rfl, rfl, g0, g1, hb⟩ := hcut
    have C2 := hide (C.out.keep hb)
    have CB2 := hide (st_trans CB.out hb)
    have G0 := hide g0
    have G1 := hide g1
    clear hb g0 g1
    go_upto_region 2 with fail
    go_cut [7, 8] (fun s t wx => Got wc (addN an ad bn bd) (addD an ad bn bd) (addOk an ad bn bd) s t wx)
    case first =>
      have HK0 := hide (st_refl wc)
      have HKd := hide (st_drew HK0.out)
      go_region_held3 (fun w' => w'.cell? ⟨w.heap.size, 0, none⟩ = some (.int .i64 an) ∧ w'.cell? ⟨w.heap.size, 1, none⟩ = some (.int .i64 ad) ∧ w'.cell? ⟨w.heap.size + 1, 0, none⟩ = some (.int .i64 bn) ∧ w'.cell? ⟨w.heap.size + 1, 1, none⟩ = some (.int .i64 bd)) (first | exact (F2.keep (B := w.heap.size) (an := an) (ad := ad) (bn := bn) (bd := bd) (w1 := wc) C2.out (Hid.out (by assumption))) | exact (F2.keep (B := w.heap.size) (an := an) (ad := ad) (bn := bn) (bd := bd) (w1 := wc) C2.out (st_alloc (Hid.out (by assumption)) _)) | exact (F2.keep (B := w.heap.size) (an := an) (ad := ad) (bn := bn) (bd := bd) (w1 := wc) C2.out (st_set (st_set (Hid.out (by assumption)) (by dsimp only; omega) _) (by dsimp only; omega) _)) | go_keep) (first | (go_at_call 16; refine (to_frac _ _ _).mono ?_; rintro e wx ⟨rfl, hbx⟩; have HK := hide (st_trans (a := wc) (by first | exact Hid.out (by assumption) | exact st_alloc (Hid.out (by assumption)) _ | exact st_drew (st_alloc (Hid.out (by assumption)) _)) hbx); have hnx := HK.out.size; obtain ⟨hcx, hfx⟩ := bcell hbx; have hsx := hbx.size; (try simp at hsx); (try have hsy := Nat.lt_of_succ_le hsx); (try have hlx := Nat.lt_of_lt_of_le (by assumption) hsx)) | (go_at_call 26; refine (add_impl _ _ _ _ _ h1 h2 h3 h4).mono ?_; rintro e wx ⟨rfl, hbx⟩; have HK := hide (st_trans (a := wc) (by first | exact Hid.out (by assumption) | exact st_alloc (Hid.out (by assumption)) _ | exact st_drew (st_alloc (Hid.out (by assumption)) _)) hbx); have hnx := HK.out.size; obtain ⟨hcx, hfx⟩ := bcell hbx; have hsx := hbx.size; (try simp at hsx); (try have hsy := Nat.lt_of_succ_le hsx); (try have hlx := Nat.lt_of_lt_of_le (by assumption) hsx)))
      all_goals
        go_wp2_with fail
        go_meet
        refine ⟨_, rfl, rfl, ?_, ?_, ?_⟩
        · go_simp
        · go_simp
        · first | exact st_alloc (Hid.out (by assumption)) _ | exact st_set (st_set (Hid.out (by assumption)) (by dsimp only; omega) _) (by dsimp only; omega) _
    case rest =>
      obtain ⟨g', rfl, rfl, e0, e1, hb⟩ := hcut
      have g0 := keepc hb G0.out
      have g1 := keepc hb G1.out
      have CB3 := hide (st_trans CB2.out hb)
      clear hb
      go_wp2_with (go_at_call 24; refine (eq_frac _ _ _).mono ?_; rintro e w1 ⟨rfl, hb1⟩)
      go_ret
      exact ⟨rfl, st_trans CB3.out hb1⟩

set_option maxHeartbeats 4000000 in
theorem walk_fnExactFracSub (an ad bn bd : Int) (w : World) (h1 : I64 an) (h2 : I64 ad) (h3 : I64 bn) (h4 : I64 bd) :
    Calls Try.prog 10 #[.agg #[.int .i64 an, .int .i64 ad], .agg #[.int .i64 bn, .int .i64 bd]] w fun e w' => e = .returned (.bool true) ∧ Below w.heap.size w w' := by
  have FS := F2.start w an ad bn bd 23
  have BS : Below w.heap.size w ((w.alloc (.cells #[.int .i64 an, .int .i64 ad] 23)).alloc (.cells #[.int .i64 bn, .int .i64 bd] 23)) := st_alloc (st_alloc (st_refl _) _) _
  go_enter Try.func10, Try.ntmps10
  go_upto_region 1 with fail
  obtain ⟨W0, hW0⟩ := name_world ((w.alloc (.cells #[.int .i64 an, .int .i64 ad] 23)).alloc (.cells #[.int .i64 bn, .int .i64 bd] 23))
  rw [← hW0] at FS BS ⊢
  clear hW0
  have C := hide FS
  have CB := hide BS
  clear FS BS
  go_cut [5, 6] (fun s t wx => Got W0 (subN an ad bn bd) (subD an ad bn bd) (subOk an ad bn bd) s t wx)
  case first =>
    have HK0 := hide (st_refl W0)
    have HKd := hide (st_drew HK0.out)
    go_region_held3 (fun w' => w'.cell? ⟨w.heap.size, 0, none⟩ = some (.int .i64 an) ∧ w'.cell? ⟨w.heap.size, 1, none⟩ = some (.int .i64 ad) ∧ w'.cell? ⟨w.heap.size + 1, 0, none⟩ = some (.int .i64 bn) ∧ w'.cell? ⟨w.heap.size + 1, 1, none⟩ = some (.int .i64 bd)) (first | exact (F2.keep (B := w.heap.size) (an := an) (ad := ad) (bn := bn) (bd := bd) (w1 := W0) C.out (Hid.out (by assumption))) | exact (F2.keep (B := w.heap.size) (an := an) (ad := ad) (bn := bn) (bd := bd) (w1 := W0) C.out (st_alloc (Hid.out (by assumption)) _)) | exact (F2.keep (B := w.heap.size) (an := an) (ad := ad) (bn := bn) (bd := bd) (w1 := W0) C.out (st_set (st_set (Hid.out (by assumption)) (by dsimp only; omega) _) (by dsimp only; omega) _)) | go_keep) (first | (go_at_call 16; refine (to_frac _ _ _).mono ?_; rintro e wx ⟨rfl, hbx⟩; have HK := hide (st_trans (a := W0) (by first | exact Hid.out (by assumption) | exact st_alloc (Hid.out (by assumption)) _ | exact st_drew (st_alloc (Hid.out (by assumption)) _)) hbx); have hnx := HK.out.size; obtain ⟨hcx, hfx⟩ := bcell hbx; have hsx := hbx.size; (try simp at hsx); (try have hsy := Nat.lt_of_succ_le hsx); (try have hlx := Nat.lt_of_lt_of_le (by assumption) hsx)) | (go_at_call 31; refine (sub_spec _ _ _ _ _ h1 h2 h3 h4).mono ?_; rintro e wx ⟨rfl, hbx⟩; have HK := hide (st_trans (a := W0) (by first | exact Hid.out (by assumption) | exact st_alloc (Hid.out (by assumption)) _ | exact st_drew (st_alloc (Hid.out (by assumption)) _)) hbx); have hnx := HK.out.size; obtain ⟨hcx, hfx⟩ := bcell hbx; have hsx := hbx.size; (try simp at hsx); (try have hsy := Nat.lt_of_succ_le hsx); (try have hlx := Nat.lt_of_lt_of_le (by assumption) hsx)))
    all_goals
      go_wp2_with fail
      go_meet
      refine ⟨_, rfl, rfl, ?_, ?_, ?_⟩
      · go_simp
      · go_simp
      · first | exact st_alloc (Hid.out (by assumption)) _ | exact st_set (st_set (Hid.out (by assumption)) (by dsimp only; omega) _) (by dsimp only; omega) _
  case rest =>
    obtain ⟨g, rfl, rfl, g0, g1, hb⟩ := hcut
    have C2 := hide (C.out.keep hb)
    have CB2 := hide (st_trans CB.out hb)
    have G0 := hide g0
    have G1 := hide g1
    clear hb g0 g1
    go_upto_region 2 with fail
    go_cut [7, 8] (fun s t wx => Got wc (subN an ad bn bd) (subD an ad bn bd) (subOk an ad bn bd) s t wx)
    case first =>
      have HK0 := hide (st_refl wc)
      have HKd := hide (st_drew HK0.out)
      go_region_held3 (fun w' => w'.cell? ⟨w.heap.size, 0, none⟩ = some (.int .i64 an) ∧ w'.cell? ⟨w.heap.size, 1, none⟩ = some (.int .i64 ad) ∧ w'.cell? ⟨w.heap.size + 1, 0, none⟩ = some (.int .i64 bn) ∧ w'.cell? ⟨w.heap.size + 1, 1, none⟩ = some (.int .i64 bd)) (first | exact (F2.keep (B := w.heap.size) (an := an) (ad := ad) (bn := bn) (bd := bd) (w1 := wc) C2.out (Hid.out (by assumption))) | exact (F2.keep (B := w.heap.size) (an := an) (ad := ad) (bn := bn) (bd := bd) (w1 := wc) C2.out (st_alloc (Hid.out (by assumption)) _)) | exact (F2.keep (B := w.heap.size) (an := an) (ad := ad) (bn := bn) (bd := bd) (w1 := wc) C2.out (st_set (st_set (Hid.out (by assumption)) (by dsimp only; omega) _) (by dsimp only; omega) _)) | go_keep) (first | (go_at_call 16; refine (to_frac _ _ _).mono ?_; rintro e wx ⟨rfl, hbx⟩; have HK := hide (st_trans (a := wc) (by first | exact Hid.out (by assumption) | exact st_alloc (Hid.out (by assumption)) _ | exact st_drew (st_alloc (Hid.out (by assumption)) _)) hbx); have hnx := HK.out.size; obtain ⟨hcx, hfx⟩ := bcell hbx; have hsx := hbx.size; (try simp at hsx); (try have hsy := Nat.lt_of_succ_le hsx); (try have hlx := Nat.lt_of_lt_of_le (by assumption) hsx)) | (go_at_call 32; refine (sub_impl _ _ _ _ _ h1 h2 h3 h4).mono ?_; rintro e wx ⟨rfl, hbx⟩; have HK := hide (st_trans (a := wc) (by first | exact Hid.out (by assumption) | exact st_alloc (Hid.out (by assumption)) _ | exact st_drew (st_alloc (Hid.out (by assumption)) _)) hbx); have hnx := HK.out.size; obtain ⟨hcx, hfx⟩ := bcell hbx; have hsx := hbx.size; (try simp at hsx); (try have hsy := Nat.lt_of_succ_le hsx); (try have hlx := Nat.lt_of_lt_of_le (by assumption) hsx)))
      all_goals
        go_wp2_with fail
        go_meet
        refine ⟨_, rfl, rfl, ?_, ?_, ?_⟩
        · go_simp
        · go_simp
        · first | exact st_alloc (Hid.out (by assumption)) _ | exact st_set (st_set (Hid.out (by assumption)) (by dsimp only; omega) _) (by dsimp only; omega) _
    case rest =>
      obtain ⟨g', rfl, rfl, e0, e1, hb⟩ := hcut
      have g0 := keepc hb G0.out
      have g1 := keepc hb G1.out
      have CB3 := hide (st_trans CB2.out hb)
      clear hb
      go_wp2_with (go_at_call 24; refine (eq_frac _ _ _).mono ?_; rintro e w1 ⟨rfl, hb1⟩)
      go_ret
      exact ⟨rfl, st_trans CB3.out hb1⟩

set_option maxHeartbeats 4000000 in
theorem walk_fnExactFracMul (an ad bn bd : Int) (w : World) (h1 : I64 an) (h2 : I64 ad) (h3 : I64 bn) (h4 : I64 bd) :
    Calls Try.prog 9 #[.agg #[.int .i64 an, .int .i64 ad], .agg #[.int .i64 bn, .int .i64 bd]] w fun e w' => e = .returned (.bool true) ∧ Below w.heap.size w w' := by
  have FS := F2.start w an ad bn bd 23
  have BS : Below w.heap.size w ((w.alloc (.cells #[.int .i64 an, .int .i64 ad] 23)).alloc (.cells #[.int .i64 bn, .int .i64 bd] 23)) := st_alloc (st_alloc (st_refl _) _) _
  go_enter Try.func9, Try.ntmps9
  go_upto_region 1 with fail
  obtain ⟨W0, hW0⟩ := name_world ((w.alloc (.cells #[.int .i64 an, .int .i64 ad] 23)).alloc (.cells #[.int .i64 bn, .int .i64 bd] 23))
  rw [← hW0] at FS BS ⊢
  clear hW0
  have C := hide FS
  have CB := hide BS
  clear FS BS
  go_cut [5, 6] (fun s t wx => Got W0 (mulN an ad bn bd) (mulD an ad bn bd) (mulOk an ad bn bd) s t wx)
  case first =>
    have HK0 := hide (st_refl W0)
    have HKd := hide (st_drew HK0.out)
    go_region_held3 (fun w' => w'.cell? ⟨w.heap.size, 0, none⟩ = some (.int .i64 an) ∧ w'.cell? ⟨w.heap.size, 1, none⟩ = some (.int .i64 ad) ∧ w'.cell? ⟨w.heap.size + 1, 0, none⟩ = some (.int .i64 bn) ∧ w'.cell? ⟨w.heap.size + 1, 1, none⟩ = some (.int .i64 bd)) (first | exact (F2.keep (B := w.heap.size) (an := an) (ad := ad) (bn := bn) (bd := bd) (w1 := W0) C.out (Hid.out (by assumption))) | exact (F2.keep (B := w.heap.size) (an := an) (ad := ad) (bn := bn) (bd := bd) (w1 := W0) C.out (st_alloc (Hid.out (by assumption)) _)) | exact (F2.keep (B := w.heap.size) (an := an) (ad := ad) (bn := bn) (bd := bd) (w1 := W0) C.out (st_set (st_set (Hid.out (by assumption)) (by dsimp only; omega) _) (by dsimp only; omega) _)) | go_keep) (first | (go_at_call 16; refine (to_frac _ _ _).mono ?_; rintro e wx ⟨rfl, hbx⟩; have HK := hide (st_trans (a := W0) (by first | exact Hid.out (by assumption) | exact st_alloc (Hid.out (by assumption)) _ | exact st_drew (st_alloc (Hid.out (by assumption)) _)) hbx); have hnx := HK.out.size; obtain ⟨hcx, hfx⟩ := bcell hbx; have hsx := hbx.size; (try simp at hsx); (try have hsy := Nat.lt_of_succ_le hsx); (try have hlx := Nat.lt_of_lt_of_le (by assumption) hsx)) | (go_at_call 29; refine (mul_spec _ _ _ _ _ h1 h2 h3 h4).mono ?_; rintro e wx ⟨rfl, hbx⟩; have HK := hide (st_trans (a := W0) (by first | exact Hid.out (by assumption) | exact st_alloc (Hid.out (by assumption)) _ | exact st_drew (st_alloc (Hid.out (by assumption)) _)) hbx); have hnx := HK.out.size; obtain ⟨hcx, hfx⟩ := bcell hbx; have hsx := hbx.size; (try simp at hsx); (try have hsy := Nat.lt_of_succ_le hsx); (try have hlx := Nat.lt_of_lt_of_le (by assumption) hsx)))
    all_goals
      go_wp2_with fail
      go_meet
      refine ⟨_, rfl, rfl, ?_, ?_, ?_⟩
      · go_simp
      · go_simp
      · first | exact st_alloc (Hid.out (by assumption)) _ | exact st_set (st_set (Hid.out (by assumption)) (by dsimp only; omega) _) (by dsimp only; omega) _
  case rest =>
    obtain ⟨g, rfl, rfl, g0, g1, hb⟩ := hcut
    have C2 := hide (C.out.keep hb)
    have CB2 := hide (st_trans CB.out hb)
    have G0 := hide g0
    have G1 := hide g1
    clear hb g0 g1
    go_upto_region 2 with fail
    go_cut [7, 8] (fun s t wx => Got wc (mulN an ad bn bd) (mulD an ad bn bd) (mulOk an ad bn bd) s t wx)
    case first =>
      have HK0 := hide (st_refl wc)
      have HKd := hide (st_drew HK0.out)
      go_region_held3 (fun w' => w'.cell? ⟨w.heap.size, 0, none⟩ = some (.int .i64 an) ∧ w'.cell? ⟨w.heap.size, 1, none⟩ = some (.int .i64 ad) ∧ w'.cell? ⟨w.heap.size + 1, 0, none⟩ = some (.int .i64 bn) ∧ w'.cell? ⟨w.heap.size + 1, 1, none⟩ = some (.int .i64 bd)) (first | exact (F2.keep (B := w.heap.size) (an := an) (ad := ad) (bn := bn) (bd := bd) (w1 := wc) C2.out (Hid.out (by assumption))) | exact (F2.keep (B := w.heap.size) (an := an) (ad := ad) (bn := bn) (bd := bd) (w1 := wc) C2.out (st_alloc (Hid.out (by assumption)) _)) | exact (F2.keep (B := w.heap.size) (an := an) (ad := ad) (bn := bn) (bd := bd) (w1 := wc) C2.out (st_set (st_set (Hid.out (by assumption)) (by dsimp only; omega) _) (by dsimp only; omega) _)) | go_keep) (first | (go_at_call 16; refine (to_frac _ _ _).mono ?_; rintro e wx ⟨rfl, hbx⟩; have HK := hide (st_trans (a := wc) (by first | exact Hid.out (by assumption) | exact st_alloc (Hid.out (by assumption)) _ | exact st_drew (st_alloc (Hid.out (by assumption)) _)) hbx); have hnx := HK.out.size; obtain ⟨hcx, hfx⟩ := bcell hbx; have hsx := hbx.size; (try simp at hsx); (try have hsy := Nat.lt_of_succ_le hsx); (try have hlx := Nat.lt_of_lt_of_le (by assumption) hsx)) | (go_at_call 30; refine (mul_impl _ _ _ _ _ h1 h2 h3 h4).mono ?_; rintro e wx ⟨rfl, hbx⟩; have HK := hide (st_trans (a := wc) (by first | exact Hid.out (by assumption) | exact st_alloc (Hid.out (by assumption)) _ | exact st_drew (st_alloc (Hid.out (by assumption)) _)) hbx); have hnx := HK.out.size; obtain ⟨hcx, hfx⟩ := bcell hbx; have hsx := hbx.size; (try simp at hsx); (try have hsy := Nat.lt_of_succ_le hsx); (try have hlx := Nat.lt_of_lt_of_le (by assumption) hsx)))
      all_goals
        go_wp2_with fail
        go_meet
        refine ⟨_, rfl, rfl, ?_, ?_, ?_⟩
        · go_simp
        · go_simp
        · first | exact st_alloc (Hid.out (by assumption)) _ | exact st_set (st_set (Hid.out (by assumption)) (by dsimp only; omega) _) (by dsimp only; omega) _
    case rest =>
      obtain ⟨g', rfl, rfl, e0, e1, hb⟩ := hcut
      have g0 := keepc hb G0.out
      have g1 := keepc hb G1.out
      have CB3 := hide (st_trans CB2.out hb)
      clear hb
      go_wp2_with (go_at_call 24; refine (eq_frac _ _ _).mono ?_; rintro e w1 ⟨rfl, hb1⟩)
      go_ret
      exact ⟨rfl, st_trans CB3.out hb1⟩

set_option maxHeartbeats 4000000 in
theorem walk_fnExactFracDiv (an ad bn bd : Int) (w : World) (h1 : I64 an) (h2 : I64 ad) (h3 : I64 bn) (h4 : I64 bd) :
    Calls Try.prog 8 #[.agg #[.int .i64 an, .int .i64 ad], .agg #[.int .i64 bn, .int .i64 bd]] w fun e w' => e = .returned (.bool true) ∧ Below w.heap.size w w' := by
  have FS := F2.start w an ad bn bd 23
  have BS : Below w.heap.size w ((w.alloc (.cells #[.int .i64 an, .int .i64 ad] 23)).alloc (.cells #[.int .i64 bn, .int .i64 bd] 23)) := st_alloc (st_alloc (st_refl _) _) _
  go_enter Try.func8, Try.ntmps8
  go_upto_region 1 with fail
  obtain ⟨W0, hW0⟩ := name_world ((w.alloc (.cells #[.int .i64 an, .int .i64 ad] 23)).alloc (.cells #[.int .i64 bn, .int .i64 bd] 23))
  rw [← hW0] at FS BS ⊢
  clear hW0
  have C := hide FS
  have CB := hide BS
  clear FS BS
  go_cut [5, 6] (fun s t wx => Got W0 (divN an ad bn bd) (divD an ad bn bd) (divOk an ad bn bd) s t wx)
  case first =>
    have HK0 := hide (st_refl W0)
    have HKd := hide (st_drew HK0.out)
    go_region_held3 (fun w' => w'.cell? ⟨w.heap.size, 0, none⟩ = some (.int .i64 an) ∧ w'.cell? ⟨w.heap.size, 1, none⟩ = some (.int .i64 ad) ∧ w'.cell? ⟨w.heap.size + 1, 0, none⟩ = some (.int .i64 bn) ∧ w'.cell? ⟨w.heap.size + 1, 1, none⟩ = some (.int .i64 bd)) (first | exact (F2.keep (B := w.heap.size) (an := an) (ad := ad) (bn := bn) (bd := bd) (w1 := W0) C.out (Hid.out (by assumption))) | exact (F2.keep (B := w.heap.size) (an := an) (ad := ad) (bn := bn) (bd := bd) (w1 := W0) C.out (st_alloc (Hid.out (by assumption)) _)) | exact (F2.keep (B := w.heap.size) (an := an) (ad := ad) (bn := bn) (bd := bd) (w1 := W0) C.out (st_set (st_set (Hid.out (by assumption)) (by dsimp only; omega) _) (by dsimp only; omega) _)) | go_keep) (first | (go_at_call 16; refine (to_frac _ _ _).mono ?_; rintro e wx ⟨rfl, hbx⟩; have HK := hide (st_trans (a := W0) (by first | exact Hid.out (by assumption) | exact st_alloc (Hid.out (by assumption)) _ | exact st_drew (st_alloc (Hid.out (by assumption)) _)) hbx); have hnx := HK.out.size; obtain ⟨hcx, hfx⟩ := bcell hbx; have hsx := hbx.size; (try simp at hsx); (try have hsy := Nat.lt_of_succ_le hsx); (try have hlx := Nat.lt_of_lt_of_le (by assumption) hsx)) | (go_at_call 27; refine (div_spec _ _ _ _ _ h1 h2 h3 h4).mono ?_; rintro e wx ⟨rfl, hbx⟩; have HK := hide (st_trans (a := W0) (by first | exact Hid.out (by assumption) | exact st_alloc (Hid.out (by assumption)) _ | exact st_drew (st_alloc (Hid.out (by assumption)) _)) hbx); have hnx := HK.out.size; obtain ⟨hcx, hfx⟩ := bcell hbx; have hsx := hbx.size; (try simp at hsx); (try have hsy := Nat.lt_of_succ_le hsx); (try have hlx := Nat.lt_of_lt_of_le (by assumption) hsx)))
    all_goals
      go_wp2_with fail
      go_meet
      refine ⟨_, rfl, rfl, ?_, ?_, ?_⟩
      · go_simp
      · go_simp
      · first | exact st_alloc (Hid.out (by assumption)) _ | exact st_set (st_set (Hid.out (by assumption)) (by dsimp only; omega) _) (by dsimp only; omega) _
  case rest =>
    obtain ⟨g, rfl, rfl, g0, g1, hb⟩ := hcut
    have C2 := hide (C.out.keep hb)
    have CB2 := hide (st_trans CB.out hb)
    have G0 := hide g0
    have G1 := hide g1
    clear hb g0 g1
    go_upto_region 2 with fail
    go_cut [7, 8] (fun s t wx => Got wc (divN an ad bn bd) (divD an ad bn bd) (divOk an ad bn bd) s t wx)
    case first =>
      have HK0 := hide (st_refl wc)
      have HKd := hide (st_drew HK0.out)
      go_region_held3 (fun w' => w'.cell? ⟨w.heap.size, 0, none⟩ = some (.int .i64 an) ∧ w'.cell? ⟨w.heap.size, 1, none⟩ = some (.int .i64 ad) ∧ w'.cell? ⟨w.heap.size + 1, 0, none⟩ = some (.int .i64 bn) ∧ w'.cell? ⟨w.heap.size + 1, 1, none⟩ = some (.int .i64 bd)) (first | exact (F2.keep (B := w.heap.size) (an := an) (ad := ad) (bn := bn) (bd := bd) (w1 := wc) C2.out (Hid.out (by assumption))) | exact (F2.keep (B := w.heap.size) (an := an) (ad := ad) (bn := bn) (bd := bd) (w1 := wc) C2.out (st_alloc (Hid.out (by assumption)) _)) | exact (F2.keep (B := w.heap.size) (an := an) (ad := ad) (bn := bn) (bd := bd) (w1 := wc) C2.out (st_set (st_set (Hid.out (by assumption)) (by dsimp only; omega) _) (by dsimp only; omega) _)) | go_keep) (first | (go_at_call 16; refine (to_frac _ _ _).mono ?_; rintro e wx ⟨rfl, hbx⟩; have HK := hide (st_trans (a := wc) (by first | exact Hid.out (by assumption) | exact st_alloc (Hid.out (by assumption)) _ | exact st_drew (st_alloc (Hid.out (by assumption)) _)) hbx); have hnx := HK.out.size; obtain ⟨hcx, hfx⟩ := bcell hbx; have hsx := hbx.size; (try simp at hsx); (try have hsy := Nat.lt_of_succ_le hsx); (try have hlx := Nat.lt_of_lt_of_le (by assumption) hsx)) | (go_at_call 28; refine (div_impl _ _ _ _ _ h1 h2 h3 h4).mono ?_; rintro e wx ⟨rfl, hbx⟩; have HK := hide (st_trans (a := wc) (by first | exact Hid.out (by assumption) | exact st_alloc (Hid.out (by assumption)) _ | exact st_drew (st_alloc (Hid.out (by assumption)) _)) hbx); have hnx := HK.out.size; obtain ⟨hcx, hfx⟩ := bcell hbx; have hsx := hbx.size; (try simp at hsx); (try have hsy := Nat.lt_of_succ_le hsx); (try have hlx := Nat.lt_of_lt_of_le (by assumption) hsx)))
      all_goals
        go_wp2_with fail
        go_meet
        refine ⟨_, rfl, rfl, ?_, ?_, ?_⟩
        · go_simp
        · go_simp
        · first | exact st_alloc (Hid.out (by assumption)) _ | exact st_set (st_set (Hid.out (by assumption)) (by dsimp only; omega) _) (by dsimp only; omega) _
    case rest =>
      obtain ⟨g', rfl, rfl, e0, e1, hb⟩ := hcut
      have g0 := keepc hb G0.out
      have g1 := keepc hb G1.out
      have CB3 := hide (st_trans CB2.out hb)
      clear hb
      go_wp2_with (go_at_call 24; refine (eq_frac _ _ _).mono ?_; rintro e w1 ⟨rfl, hb1⟩)
      go_ret
      exact ⟨rfl, st_trans CB3.out hb1⟩

end Go.Proofs.Ytodjnmjdilgocaa
