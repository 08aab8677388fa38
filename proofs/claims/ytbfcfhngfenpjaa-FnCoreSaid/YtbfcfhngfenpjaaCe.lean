/-
  Contracts on cores: what lies between two depths.
  Conditions: the slice reads as a list of pieces.
-/
import Derived.Test.YtbfcfhngfenpjaaCd
import Derived.Deep.DeepCutAuto
namespace Go.Proofs.Ytbfcfhngfenpjaa
open Go.RowKit Co

theorem isDepth_as {n : Int} {o : Bool} (h : decide (0 ≤ n ∧ n ≤ 30000) = o) (w : World) :
    Calls Try.prog 51 #[.int .i64 n] w fun e w' => e = .returned (.bool o) ∧ Below w.heap.size w w' := by
  subst h
  go_enter Try.func51, Try.ntmps51
  by_cases h1 : 0 ≤ n
  · by_cases h2 : n ≤ 30000
    · go_wp2
      go_ret
      exact ⟨ret_bool (by rw [decide_eq_true (by omega)]), st_refl _⟩
    · go_wp2
      go_ret
      exact ⟨ret_bool (by rw [decide_eq_false (by omega)]), st_refl _⟩
  · have e : decide (0 ≤ n ∧ n ≤ 30000) = false := decide_eq_false (by omega)
    rw [e]
    go_wp2
    go_ret
    exact ⟨rfl, st_refl _⟩
/-- two depths in order -/
def spB (t b : Int) : Bool := decide (0 ≤ t ∧ t ≤ b ∧ b ≤ 30000)
theorem isSpan_as {t b : Int} {o : Bool} (h : spB t b = o) (w : World) :
    Calls Try.prog 49 #[.int .i64 t, .int .i64 b] w fun e w' => e = .returned (.bool o) ∧ Below w.heap.size w w' := by
  subst h
  go_enter Try.func49, Try.ntmps49
  by_cases h1 : 0 ≤ t ∧ t ≤ 30000
  · by_cases h2 : 0 ≤ b ∧ b ≤ 30000
    · by_cases h3 : t ≤ b
      · have e : Hid (spB t b = true) := by show _ = _; unfold spB; exact decide_eq_true (by omega)
        go_wp2_with fail
        refine (isDepth_as (decide_eq_true h1) _).mono ?_
        rintro e w1 ⟨rfl, hb1⟩
        have B1 := hide hb1
        clear hb1
        go_wp2_with fail
        refine (isDepth_as (decide_eq_true h2) _).mono ?_
        rintro e w2 ⟨rfl, hb2⟩
        have B2 := hide (st_trans B1.out hb2)
        clear hb2
        go_wp2
        go_ret
        exact ⟨ret_bool e.out.symm, B2.out⟩
      · have e : Hid (spB t b = false) := by show _ = _; unfold spB; exact decide_eq_false (by omega)
        go_wp2_with fail
        refine (isDepth_as (decide_eq_true h1) _).mono ?_
        rintro e w1 ⟨rfl, hb1⟩
        have B1 := hide hb1
        clear hb1
        go_wp2_with fail
        refine (isDepth_as (decide_eq_true h2) _).mono ?_
        rintro e w2 ⟨rfl, hb2⟩
        have B2 := hide (st_trans B1.out hb2)
        clear hb2
        go_wp2
        go_ret
        exact ⟨ret_bool (by rw [e.out]; exact decide_eq_false (by omega)), B2.out⟩
    · have e : Hid (spB t b = false) := by show _ = _; unfold spB; exact decide_eq_false (by omega)
      go_wp2_with fail
      refine (isDepth_as (decide_eq_true h1) _).mono ?_
      rintro e w1 ⟨rfl, hb1⟩
      have B1 := hide hb1
      clear hb1
      go_wp2_with fail
      refine (isDepth_as (decide_eq_false h2) _).mono ?_
      rintro e w2 ⟨rfl, hb2⟩
      have B2 := hide (st_trans B1.out hb2)
      clear hb2
      go_wp2
      go_ret
      exact ⟨ret_bool e.out.symm, B2.out⟩
  · have e : Hid (spB t b = false) := by show _ = _; unfold spB; exact decide_eq_false (by omega)
    go_wp2_with fail
    refine (isDepth_as (decide_eq_false h1) _).mono ?_
    rintro e w1 ⟨rfl, hb1⟩
    have B1 := hide hb1
    clear hb1
    go_wp2
    go_ret
    exact ⟨ret_bool e.out.symm, B1.out⟩
set_option maxHeartbeats 1000000 in
theorem overlap_as {x y t b o : Int} (hx : 0 ≤ x ∧ x ≤ 30000) (hy : 0 ≤ y ∧ y ≤ 30000) (ht : 0 ≤ t ∧ t ≤ 30000) (hb : 0 ≤ b ∧ b ≤ 30000) (ho : max 0 (min y b - max x t) = o) (w : World) :
    Calls Try.prog 50 #[.agg #[.int .i64 x, .int .i64 y], .agg #[.int .i64 t, .int .i64 b]] w fun e w' => e = .returned (.int .i64 o) ∧ Below w.heap.size w w' := by
  have m1 : 0 ≤ max x t ∧ max x t ≤ 30000 := by omega
  have m2 : 0 ≤ min y b ∧ min y b ≤ 30000 := by omega
  have HO := hide ho
  clear ho
  go_enter Try.func50, Try.ntmps50
  go_wp2
  go_ret
  exact ⟨ret_int HO.out, st_alloc (st_alloc (st_refl w) _) _⟩

/-- what lies between, so far -/
def BtwSo (t b : Int) (l : List (Int × Int)) (k : Nat) (acc : List (Int × Int)) : Prop := btw t b l = acc ++ btw t b (l.drop k)
theorem BtwSo.start (t b : Int) (l : List (Int × Int)) : BtwSo t b l 0 [] := rfl
theorem BtwSo.yes {t b : Int} {l acc : List (Int × Int)} {k : Nat} {x y : Int} (h : BtwSo t b l k acc) (hk : k < l.length) (hp : l[k] = (x, y)) (hlt : max x t < min y b) : BtwSo t b l (k + 1) (acc ++ [(max x t, min y b)]) := by
  unfold BtwSo at h ⊢
  rw [h, List.drop_eq_getElem_cons hk, hp]
  conv => lhs; unfold btw
  rw [if_pos hlt]
  simp
theorem BtwSo.no {t b : Int} {l acc : List (Int × Int)} {k : Nat} {x y : Int} (h : BtwSo t b l k acc) (hk : k < l.length) (hp : l[k] = (x, y)) (hlt : ¬ max x t < min y b) : BtwSo t b l (k + 1) acc := by
  unfold BtwSo at h ⊢
  rw [h, List.drop_eq_getElem_cons hk, hp]
  conv => lhs; unfold btw
  rw [if_neg hlt]
theorem BtwSo.done {t b : Int} {l acc : List (Int × Int)} {k : Nat} (h : BtwSo t b l k acc) (hk : l.length ≤ k) : acc = btw t b l := by
  unfold BtwSo at h
  rw [h, List.drop_eq_nil_of_le hk, btw, List.append_nil]
theorem btw_len (t b : Int) : ∀ l : List (Int × Int), (btw t b l).length ≤ l.length := by
  intro l
  induction l with
  | nil => exact Nat.le_refl _
  | cons p r ih =>
    unfold btw
    split
    · simpa using ih
    · simp; omega
theorem BtwSo.len {t b : Int} {l acc : List (Int × Int)} {k : Nat} (h : BtwSo t b l k acc) : acc.length ≤ l.length := by
  have h1 := btw_len t b l
  unfold BtwSo at h
  rw [h, List.length_append] at h1
  omega
/-- does CoreBetween answer -/
def btwO (t b : Int) (l : List (Int × Int)) : Bool := vB l && spB t b
/-- what CoreBetween answers -/
def btwV (t b : Int) (l : List (Int × Int)) : List (Int × Int) := if btwO t b l then btw t b l else []
theorem Gives2.at {L : List (Int × Int)} {o o' : Bool} {w w' : World} {e : Ending} (h : o' = o) (k : Gives2 L o w e w') : Gives2 L o' w e w' := by rw [h]; exact k
theorem spB_parts {t b : Int} (h : spB t b = true) : 0 ≤ t ∧ t ≤ b ∧ b ≤ 30000 := by unfold spB at h; exact of_decide_eq_true h
theorem In_of_spB {t b : Int} (h : spB t b = false) (h1 : 0 ≤ t ∧ t ≤ 30000) : ¬ (t ≤ b ∧ b ≤ 30000) := by unfold spB at h; have := of_decide_eq_false h; omega

set_option maxHeartbeats 3200000 in
theorem between_impl (ao : Option Addr) (len cap : Nat) (l : List (Int × Int)) (t b : Int) (w : World) (h : Rs w ao len cap l) :
    Calls Try.prog 38 #[.slice ao len cap, .int .i64 t, .int .i64 b] w (Gives2 (btwV t b l) (btwO t b l) w) := by
  obtain ⟨i0, hi0, hz0, hz1, hz2⟩ := info_parts info_piece
  have hl := h.hlen
  subst hl
  have hc := h.hcap
  have hm := h.hmax
  unfold maxLen at hm
  have H := hide h
  clear h
  go_enter Try.func38, Try.ntmps38
  go_wp2_with fail
  refine (valid_impl ao _ cap l w H.out).mono ?_
  rintro e w0 ⟨rfl, hb⟩
  have B0 := hide hb
  have O0 := hide (Ow.nil w0 w.heap.size)
  clear hb
  cases hv : vB l
  · have VO : Hid (btwO t b l = false) := by show _ = _; unfold btwO; rw [hv]; rfl
    have V : Hid (btwV t b l = []) := by show _ = _; unfold btwV; rw [VO.out]; rfl
    go_wp2
    go_ret2
    exact Gives2.at VO.out ⟨_, rfl, by rw [V.out]; exact O0.out, B0.out⟩
  · have VL := hide hv
    have h20 := vB_len hv
    cases hs : spB t b
    · have VO : Hid (btwO t b l = false) := by show _ = _; unfold btwO; rw [hs, Bool.and_false]
      have V : Hid (btwV t b l = []) := by show _ = _; unfold btwV; rw [VO.out]; rfl
      have HS := hide hs
      clear hs
      go_wp2_with fail
      refine (isSpan_as HS.out _).mono ?_
      rintro e w1 ⟨rfl, hb1⟩
      have B1 := hide (st_trans B0.out hb1)
      have O1 := hide (O0.out.below hb1)
      clear hb1
      go_wp2
      go_ret2
      exact Gives2.at VO.out ⟨_, rfl, by rw [V.out]; exact O1.out, B1.out⟩
    · have VO : Hid (btwO t b l = true) := by show _ = _; unfold btwO; rw [hs, hv]; rfl
      have V : Hid (btwV t b l = btw t b l) := by show _ = _; unfold btwV; rw [VO.out]; rfl
      have HS := hide hs
      have hsp := spB_parts hs
      clear hs
      go_wp2_with fail
      refine (isSpan_as HS.out _).mono ?_
      rintro e w1 ⟨rfl, hb1⟩
      have B1 := hide (st_trans B0.out hb1)
      have O1 := hide (O0.out.below hb1)
      clear hb1
      go_wp2
      clear hv
      go_loopw [8, 24] (fun v i wr => ∃ (k : Nat) (acc : List (Int × Int)), i = .int .i64 k ∧ BtwSo t b l k acc ∧ Ow wr w.heap.size v acc ∧ Below w.heap.size w wr) (fun _ i _ => l.length - (intOf i).toNat)
      case atStart => exact ⟨0, [], rfl, BtwSo.start t b l, O1.out, B1.out⟩
      case round =>
        obtain ⟨k, acc, rfl, hG, hown, hb⟩ := hrel
        have hal := hG.len
        have B2 := hide hb
        have hsz : w.heap.size ≤ wr.heap.size := B2.out.size
        have OW := hide hown
        clear hown
        by_cases hkl : k < l.length
        · obtain ⟨bb, off, rfl, hbs, hc⟩ := H.out.cell (by omega)
          have d0 := keepc hb (hc k hkl).1
          have d1 := keepc hb (hc k hkl).2
          have T2 := vB_top VL.out k hkl
          obtain ⟨p, hp⟩ : ∃ p, l[k] = p := ⟨_, rfl⟩
          obtain ⟨x, y⟩ := p
          rw [hp] at d0 d1 T2
          dsimp only at d0 d1 T2
          have GY := hide (fun hlt => BtwSo.yes hG hkl hp hlt)
          have GN := hide (fun hlt => BtwSo.no hG hkl hp hlt)
          have hbw : ¬ bb = wr.heap.size := by omega
          have hwb : ¬ wr.heap.size = bb := by omega
          have m1 : 0 ≤ max x t ∧ max x t ≤ 30000 := by omega
          have m2 : 0 ≤ min y b ∧ min y b ≤ 30000 := by omega
          clear hc hb hp hG
          have F0 : Hid ((wr.alloc (.cells #[.int .i64 x, .int .i64 y] 32)).cell? ⟨wr.heap.size, 0, none⟩ = some (.int .i64 x)) := by show _ = _; go_simp
          have F1 : Hid ((wr.alloc (.cells #[.int .i64 x, .int .i64 y] 32)).cell? ⟨wr.heap.size, 1, none⟩ = some (.int .i64 y)) := by show _ = _; go_simp
          by_cases hlt : max x t < min y b
          · have G2 := hide (GY.out hlt)
            have ho : Hid (max 0 (min y b - max x t) = min y b - max x t) := by show _ = _; omega
            clear GY GN
            go_wp2_with fail
            refine (overlap_as (by omega) (by omega) (by omega) (by omega) ho.out _).mono ?_
            rintro e wq ⟨rfl, hbq⟩
            have f0 := keepc hbq F0.out
            have f1 := keepc hbq F1.out
            have B3 := hide (st_trans (st_alloc B2.out _) hbq)
            have O3 := hide ((OW.out.alloc _).below hbq)
            clear hbq d0 d1
            have E5 : Hid (max x t + (min y b - max x t) = min y b) := by show _ = _; omega
            have hpos : (0 : Int) < min y b - max x t := by omega
            have hsq : w.heap.size ≤ wq.heap.size := B3.out.size
            clear ho
            go_wp2_with (at_builtin; refine wpList_append_lies _ rfl (.tmp 39) (.tmp 45) 25 rfl w.heap.size 32 i0 _ 2 16 Try.underlying25 hi0 hz0 hz1 hz2 rfl (by omega) _ (acc.length) (fl acc) rfl (World.ownsRow.alloc O3.out _) ⟨wq.heap.size, 0, none⟩ 1 1 [.int .i64 (max x t), .int .i64 (max x t + (min y b - max x t))] rfl rfl (World.news_of_block (cs := #[.int .i64 (max x t), .int .i64 (max x t + (min y b - max x t))]) (t := 32) (fr := (0, 0)) (heap_alloc_new wq _)) (by simp [Value.oneCell']) (by omega) (by unfold maxLen; omega) (by omega) (by simp; omega) ((World.alloc wq _).heap.size) rfl ?_; intro gg cap' w1 hown1 hgrow hat hltg)
            rw [E5.out] at hown1
            have O4 := hide (Ow.app hown1)
            have B4 := hide (below_app O3.out B3.out (st_alloc (st_refl wq) _) hgrow)
            clear hown1 hgrow hat hltg
            go_wp2
            go_roundw
            case rel => exact ⟨k + 1, _, by go_num, G2.out, O4.out, B4.out⟩
            case measure => simp [intOf]; omega
          · have G2 := hide (GN.out hlt)
            have ho : Hid (max 0 (min y b - max x t) = 0) := by show _ = _; omega
            clear GY GN
            go_wp2_with fail
            refine (overlap_as (by omega) (by omega) (by omega) (by omega) ho.out _).mono ?_
            rintro e wq ⟨rfl, hbq⟩
            have B3 := hide (st_trans (st_alloc B2.out _) hbq)
            have O3 := hide ((OW.out.alloc _).below hbq)
            clear hbq d0 d1
            go_wp2
            go_roundw
            case rel => exact ⟨k + 1, _, by go_num, G2.out, O3.out, B3.out⟩
            case measure => simp [intOf]; omega
        · have V2 := hide (hG.done (by omega))
          clear hG hb
          go_wp2
          go_ret2
          exact Gives2.at VO.out ⟨_, rfl, by rw [V.out, ← V2.out]; exact OW.out, B2.out⟩

set_option maxHeartbeats 3200000 in
theorem between_spec (ao : Option Addr) (len cap : Nat) (l : List (Int × Int)) (t b : Int) (w : World) (h : Rs w ao len cap l) :
    Calls Try.prog 37 #[.slice ao len cap, .int .i64 t, .int .i64 b] w (Gives2 (btwV t b l) (btwO t b l) w) := by
  obtain ⟨i0, hi0, hz0, hz1, hz2⟩ := info_parts info_piece
  have hl := h.hlen
  subst hl
  have hc := h.hcap
  have hm := h.hmax
  unfold maxLen at hm
  have H := hide h
  clear h
  go_enter Try.func37, Try.ntmps37
  go_wp2_with fail
  refine (valid_spec ao _ cap l _ (H.out.keep (st_alloc (st_refl w) _))).mono ?_
  rintro e w0 ⟨rfl, hb⟩
  have B0 := hide (st_trans (st_alloc (st_refl w) _) hb)
  have O0 := hide (Ow.below (base := w.heap.size) (w := w.alloc (.cells #[] 32)) (v := .slice (some ⟨w.heap.size, 0, none⟩) 0 0) (l := []) (World.ownsRow_made w #[] 0 (Nat.le_refl _) (Nat.zero_le _) rfl) hb)
  clear hb
  cases hv : vB l
  · have VO : Hid (btwO t b l = false) := by show _ = _; unfold btwO; rw [hv]; rfl
    have V : Hid (btwV t b l = []) := by show _ = _; unfold btwV; rw [VO.out]; rfl
    go_wp2
    go_ret2
    exact Gives2.at VO.out ⟨_, rfl, by rw [V.out]; exact O0.out, B0.out⟩
  · have VL := hide hv
    have h20 := vB_len hv
    cases hs : spB t b
    · have VO : Hid (btwO t b l = false) := by show _ = _; unfold btwO; rw [hs, Bool.and_false]
      have V : Hid (btwV t b l = []) := by show _ = _; unfold btwV; rw [VO.out]; rfl
      have HS := hide hs
      clear hs
      by_cases h1 : 0 ≤ t ∧ t ≤ 30000
      · have h2 := hide (In_of_spB HS.out h1)
        go_wp2_with fail
        refine (l6In_as (decide_eq_true h1) _).mono ?_
        rintro e w1 ⟨rfl, hb1⟩
        have B1 := hide (st_trans B0.out hb1)
        have O1 := hide (O0.out.below hb1)
        clear hb1
        go_wp2_with fail
        refine (l6In_as (decide_eq_false h2.out) _).mono ?_
        rintro e w2 ⟨rfl, hb2⟩
        have B2 := hide (st_trans B1.out hb2)
        have O2 := hide (O1.out.below hb2)
        clear hb2
        go_wp2
        go_ret2
        exact Gives2.at VO.out ⟨_, rfl, by rw [V.out]; exact O2.out, B2.out⟩
      · go_wp2_with fail
        refine (l6In_as (decide_eq_false h1) _).mono ?_
        rintro e w1 ⟨rfl, hb1⟩
        have B1 := hide (st_trans B0.out hb1)
        have O1 := hide (O0.out.below hb1)
        clear hb1
        go_wp2
        go_ret2
        exact Gives2.at VO.out ⟨_, rfl, by rw [V.out]; exact O1.out, B1.out⟩
    · have VO : Hid (btwO t b l = true) := by show _ = _; unfold btwO; rw [hs, hv]; rfl
      have V : Hid (btwV t b l = btw t b l) := by show _ = _; unfold btwV; rw [VO.out]; rfl
      have hsp := spB_parts hs
      clear hs
      go_wp2_with fail
      refine (l6In_as (decide_eq_true (by omega)) _).mono ?_
      rintro e w3 ⟨rfl, hb3⟩
      have B3 := hide (st_trans B0.out hb3)
      have O3 := hide (O0.out.below hb3)
      clear hb3
      go_wp2_with fail
      refine (l6In_as (decide_eq_true (by omega)) _).mono ?_
      rintro e w1 ⟨rfl, hb1⟩
      have B1 := hide (st_trans B3.out hb1)
      have O1 := hide (O3.out.below hb1)
      clear hb1
      go_wp2
      clear hv
      go_loopw [8, 9] (fun v i wr => ∃ (k : Nat) (acc : List (Int × Int)), i = .int .i64 k ∧ BtwSo t b l k acc ∧ Ow wr w.heap.size v acc ∧ Below w.heap.size w wr) (fun _ i _ => l.length - (intOf i).toNat)
      case atStart => exact ⟨0, [], rfl, BtwSo.start t b l, O1.out, B1.out⟩
      case round =>
        obtain ⟨k, acc, rfl, hG, hown, hb⟩ := hrel
        have hal := hG.len
        have B2 := hide hb
        have hsz : w.heap.size ≤ wr.heap.size := B2.out.size
        have OW := hide hown
        clear hown
        by_cases hkl : k < l.length
        · obtain ⟨bb, off, rfl, hbs, hc⟩ := H.out.cell (by omega)
          have d0 := keepc hb (hc k hkl).1
          have d1 := keepc hb (hc k hkl).2
          have T2 := vB_top VL.out k hkl
          obtain ⟨p, hp⟩ : ∃ p, l[k] = p := ⟨_, rfl⟩
          obtain ⟨x, y⟩ := p
          rw [hp] at d0 d1 T2
          dsimp only at d0 d1 T2
          have GY := hide (fun hlt => BtwSo.yes hG hkl hp hlt)
          have GN := hide (fun hlt => BtwSo.no hG hkl hp hlt)
          have hbw : ¬ bb = wr.heap.size := by omega
          have hwb : ¬ wr.heap.size = bb := by omega
          have m1 : 0 ≤ max x t ∧ max x t ≤ 30000 := by omega
          have m2 : 0 ≤ min y b ∧ min y b ≤ 30000 := by omega
          clear hc hb hp hG
          have hkz : (k : Int) < l.length := by omega
          have hk0 : (0 : Int) ≤ (k : Int) := by omega
          go_upto_region 7 with fail
          go_cut [10] (fun s wx => s = .pointer (some ⟨wr.heap.size, 0, none⟩) ∧ wx.cell? ⟨wr.heap.size, 0, none⟩ = some (.int .i64 (max x t)) ∧ wx.cell? ⟨wr.heap.size, 1, none⟩ = some (.int .i64 (min y b)) ∧ Below wr.heap.size wr wx)
          case first =>
            have HK0 := hide (st_refl wr)
            have HKd := hide (st_drew HK0.out)
            go_region_held3 (fun w' => w'.cell? ⟨bb, off + k * 2, none⟩ = some (.int .i64 x) ∧ w'.cell? ⟨bb, off + k * 2 + 1, none⟩ = some (.int .i64 y)) (first | go_keep) (fail)
            all_goals
              go_wp2_with fail
              go_meet
              refine ⟨rfl, ?_, ?_, ?_⟩
              · go_simp
              · go_simp
              · first | exact st_alloc (Hid.out (by assumption)) _ | exact st_set (st_set (st_alloc (Hid.out (by assumption)) _) (by dsimp only; omega) _) (by dsimp only; omega) _ | exact st_drew (st_alloc HK0.out _)
          case rest =>
            obtain ⟨rfl, f0, f1, hbc⟩ := hcut
            have B3 := hide (st_trans B2.out hbc)
            have O3 := hide (OW.out.below hbc)
            have hsq : w.heap.size ≤ wc.heap.size := B3.out.size
            clear hbc d0 d1
            by_cases hlt : max x t < min y b
            · have G2 := hide (GY.out hlt)
              clear GY GN
              go_wp2_with (at_builtin; refine wpList_append_lies _ rfl (.tmp 53) (.tmp 55) 25 rfl w.heap.size 32 i0 _ 2 16 Try.underlying25 hi0 hz0 hz1 hz2 rfl (by omega) _ (acc.length) (fl acc) rfl (World.ownsRow.alloc O3.out _) ⟨wc.heap.size, 0, none⟩ 1 1 [.int .i64 (max x t), .int .i64 (min y b)] rfl rfl (World.news_of_block (cs := #[.int .i64 (max x t), .int .i64 (min y b)]) (t := 32) (fr := (0, 0)) (heap_alloc_new wc _)) (by simp [Value.oneCell']) (by omega) (by unfold maxLen; omega) (by omega) (by simp; omega) ((World.alloc wc _).heap.size) rfl ?_; intro gg cap' w1 hown1 hgrow hat hltg)
              have O4 := hide (Ow.app hown1)
              have B4 := hide (below_app O3.out B3.out (st_alloc (st_refl wc) _) hgrow)
              clear hown1 hgrow hat hltg
              go_wp2
              go_roundw
              case rel => exact ⟨k + 1, _, by go_num, G2.out, O4.out, B4.out⟩
              case measure => simp [intOf]; omega
            · have G2 := hide (GN.out hlt)
              clear GY GN
              go_wp2
              go_roundw
              case rel => exact ⟨k + 1, _, by go_num, G2.out, O3.out, B3.out⟩
              case measure => simp [intOf]; omega
        · have V2 := hide (hG.done (by omega))
          clear hG hb
          go_wp2
          go_ret2
          exact Gives2.at VO.out ⟨_, rfl, by rw [V.out, ← V2.out]; exact OW.out, B2.out⟩

end Go.Proofs.Ytbfcfhngfenpjaa
