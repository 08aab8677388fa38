/-
  The helpers of the exact laws on cores: copying, comparing, marking, looking at the marks.
  Conditions: the slices read as lists of pieces.
-/
import Derived.Test.YtbfcfhngfenpjaaCe
namespace Go.Proofs.Ytbfcfhngfenpjaa
open Go.RowKit Co

theorem size_any (ao : Option Addr) (len cap : Nat) (w : World) (hm : len ≤ 9223372036854775807) (hl : len ≤ 1048576) :
    Calls Try.prog 16 #[.slice ao len cap, .int .i64 1048576] w fun e w' => e = .returned (.int .i64 (1048576 - len)) ∧ Below w.heap.size w w' := by
  have h1 : (0 : Int) ≤ 1048576 - (len : Int) := by omega
  go_enter Try.func16, Try.ntmps16
  go_wp2
  go_ret
  exact ⟨rfl, st_refl w⟩
theorem size_over (ao : Option Addr) (len cap : Nat) (w : World) (hm : len ≤ 9223372036854775807) (hl : 1048576 < len) :
    Calls Try.prog 16 #[.slice ao len cap, .int .i64 1048576] w fun e w' => e = .returned (.int .i64 (-1)) ∧ Below w.heap.size w w' := by
  have h1 : ¬ (0 : Int) ≤ 1048576 - (len : Int) := by omega
  have h2 : 1048576 - (len : Int) < 0 := by omega
  go_enter Try.func16, Try.ntmps16
  go_wp2
  go_ret
  exact ⟨rfl, st_refl w⟩

theorem to_piece (x y : Int) (w : World) : Calls Try.prog 40 #[.agg #[.int .i64 x, .int .i64 y]] w fun e w' => e = .returned (.agg #[.int .i64 x, .int .i64 y]) ∧ Below w.heap.size w w' := by
  go_enter Try.func40, Try.ntmps40
  go_wp2
  refine bodyPost_ret (v := .agg #[.int .i64 x, .int .i64 y]) (by simp [results, Try.results40, go_sem]) rfl ⟨rfl, ?_⟩
  go_grown
theorem eq_piece (x y : Int) (w : World) : Calls Try.prog 41 #[.agg #[.int .i64 x, .int .i64 y], .agg #[.int .i64 x, .int .i64 y]] w fun e w' => e = .returned (.bool true) ∧ Below w.heap.size w w' := by
  go_enter Try.func41, Try.ntmps41
  go_wp2
  go_ret
  exact ⟨rfl, st_alloc (st_alloc (st_refl _) _) _⟩

theorem Ow.set2 {w : World} {base g cap : Nat} {l : List (Int × Int)} (h : Ow w base (.slice (some ⟨g, 0, none⟩) l.length cap) l) (i : Nat) (hi : i < l.length) (x y : Int) :
    Ow ((w.setCell ⟨g, i * 2, none⟩ (.int .i64 x)).setCell ⟨g, i * 2 + 1, none⟩ (.int .i64 y)) base (.slice (some ⟨g, 0, none⟩) l.length cap) (l.set i (x, y)) := by
  have h1 := Ow.set0 h i hi x
  have e : (l.set i (x, l[i].2)).length = l.length := List.length_set
  rw [← e] at h1 ⊢
  have h2 := Ow.set1 h1 i (by rw [e]; exact hi) y
  simp only [List.getElem_set_self, List.set_set] at h2
  exact h2
/-- a copy, k of whose pieces are laid -/
def mk (l : List (Int × Int)) (k : Nat) : List (Int × Int) := l.take k ++ List.replicate (l.length - k) (0, 0)
theorem mk_zero (l : List (Int × Int)) : mk l 0 = List.replicate l.length (0, 0) := by simp [mk]
theorem mk_len (l : List (Int × Int)) (k : Nat) (h : k ≤ l.length) : (mk l k).length = l.length := by simp [mk]; omega
theorem mk_all (l : List (Int × Int)) (k : Nat) (h : l.length ≤ k) : mk l k = l := by
  unfold mk
  rw [List.take_of_length_le h, show l.length - k = 0 from by omega]
  simp
theorem mk_at (l : List (Int × Int)) (k : Nat) (h : k < l.length) : (mk l k)[k]? = some (0, 0) := by
  unfold mk
  rw [List.getElem?_append_right (by rw [List.length_take]; omega), List.length_take]
  rw [show k - min k l.length = 0 from by omega, List.getElem?_replicate, if_pos (by omega)]
theorem mk_set (l : List (Int × Int)) (k : Nat) (h : k < l.length) (p : Int × Int) (hp : l[k] = p) : (mk l k).set k p = mk l (k + 1) := by
  unfold mk
  rw [List.set_append_right _ _ (by rw [List.length_take]; omega), List.length_take, show k - min k l.length = 0 from by omega]
  rw [show l.length - k = (l.length - (k + 1)) + 1 from by omega, List.replicate_succ, List.set_cons_zero]
  rw [List.take_succ_eq_append_getElem h, hp]
  simp

set_option maxHeartbeats 3200000 in
theorem to_pieces (ao : Option Addr) (len cap : Nat) (l : List (Int × Int)) (w : World) (h : Rs w ao len cap l) (hn : l.length ≤ 1048576) :
    Calls Try.prog 18 #[.slice ao len cap] w (Gives l w) := by
  obtain ⟨i0, hi0, hz0, hz1, hz2⟩ := info_parts info_piece
  have hl := h.hlen
  subst hl
  have hc := h.hcap
  have hm := h.hmax
  unfold maxLen at hm
  have H := hide h
  clear h
  go_enter Try.func18, Try.ntmps18
  go_wp2_with (refine wpList_make_full _ rfl (.tmp 6) (.tmp 6) 25 rfl w.heap.size 32 i0 (.agg #[.int .i64 0, .int .i64 0]) 2 Try.underlying25 hi0 hz0 hz1 .i64 .i64 (l.length : Int) (l.length : Int) l.length rfl rfl rfl rfl (by rw [hz2]; omega) (by unfold maxLen; omega) (Nat.le_refl _) ?_; intro w1 hown1 hgrow1)
  have O1 : Hid (Ow w1 w.heap.size (.slice (some ⟨w.heap.size, 0, none⟩) l.length l.length) (mk l 0)) := by
    show World.ownsRow _ _ _ _ _ _ _
    rw [mk_zero, fl_zero, List.length_replicate]
    exact hown1
  have B1 : Hid (Below w.heap.size w w1) := below_grown (st_refl w) hgrow1 (Nat.le_refl _) (fun k hk => by cases hk)
  clear hown1 hgrow1
  go_wp2
  go_loopw [4] (fun i wr => ∃ k : Nat, i = .int .i64 k ∧ k ≤ l.length ∧ Ow wr w.heap.size (.slice (some ⟨w.heap.size, 0, none⟩) l.length l.length) (mk l k) ∧ Below w.heap.size w wr) (fun i _ => l.length - (intOf i).toNat)
  case atStart => exact ⟨0, rfl, Nat.zero_le _, O1.out, B1.out⟩
  case round =>
    obtain ⟨k, rfl, hk, hown, hb⟩ := hrel
    have B2 := hide hb
    have hsz : w.heap.size ≤ wr.heap.size := B2.out.size
    by_cases hkl : k < l.length
    · obtain ⟨bb, off, rfl, hbs, hc⟩ := H.out.cell (by omega)
      have d0 := keepc hb (hc k hkl).1
      have d1 := keepc hb (hc k hkl).2
      obtain ⟨p, hp⟩ : ∃ p, l[k] = p := ⟨_, rfl⟩
      obtain ⟨x, y⟩ := p
      rw [hp] at d0 d1
      dsimp only at d0 d1
      have M := hide (mk_set l k hkl _ hp)
      have ML := hide (mk_len l k hk)
      have MG : Hid (∀ hh : k < (mk l k).length, (mk l k)[k] = (0, 0)) := fun hh => by have MA := mk_at l k hkl; rw [List.getElem?_eq_getElem hh] at MA; exact Option.some.inj MA
      have O2 : Hid (Ow wr w.heap.size (.slice (some ⟨w.heap.size, 0, none⟩) (mk l k).length l.length) (mk l k)) := by show Ow _ _ _ _; rw [ML.out]; exact hown
      clear hc hb hp hown
      go_wp2_with fail
      refine (to_piece x y _).mono ?_
      rintro e w2 ⟨rfl, hb2⟩
      have B3 := hide (st_trans B2.out hb2)
      have O3 := hide (O2.out.below hb2)
      obtain ⟨c0, c1, z0, z1⟩ := Ow.cells O3.out k (by rw [ML.out]; exact hkl)
      rw [MG.out] at c0 c1
      dsimp only at c0 c1
      have hs2 : w.heap.size ≤ w2.heap.size := B3.out.size
      clear hb2 d0 d1
      go_wp2
      go_roundw
      case rel =>
        refine ⟨k + 1, by go_num, by omega, ?_, st_set (st_set B3.out (Nat.le_refl _) _) (Nat.le_refl _) _⟩
        have h4 := Ow.set2 O3.out k (by rw [ML.out]; exact hkl) x y
        rw [M.out, ML.out] at h4
        exact h4
      case measure => simp [intOf]; omega
    · have M := hide (mk_all l k (by omega))
      have OW := hide hown
      clear hb hown
      go_wp2
      go_ret
      exact ⟨_, rfl, by rw [M.out] at OW; exact OW.out, B2.out⟩

set_option maxHeartbeats 3200000 in
/-- eqPieceS, of two slices that read as one list -/
theorem eq_pieces (ao bo : Option Addr) (len cap len' cap' : Nat) (l : List (Int × Int)) (w : World) (h : Rs w ao len cap l) (h' : Rs w bo len' cap' l) :
    Calls Try.prog 20 #[.slice ao len cap, .slice bo len' cap'] w fun e w' => e = .returned (.bool true) ∧ Below w.heap.size w w' := by
  have hl := h.hlen
  subst hl
  have hl' := h'.hlen
  subst hl'
  have hc := h.hcap
  have hm := h.hmax
  unfold maxLen at hm
  have hc' := h'.hcap
  have hm' := h'.hmax
  unfold maxLen at hm'
  have H := hide h
  have H' := hide h'
  clear h h'
  go_enter Try.func20, Try.ntmps20
  go_wp2
  go_loopw [5] (fun i wr => ∃ k : Nat, i = .int .i64 k ∧ k ≤ l.length ∧ Below w.heap.size w wr) (fun i _ => l.length - (intOf i).toNat)
  case atStart => exact ⟨0, rfl, Nat.zero_le _, st_refl w⟩
  case round =>
    obtain ⟨k, rfl, hk, hb⟩ := hrel
    have B2 := hide hb
    by_cases hkl : k < l.length
    · obtain ⟨ba, oa, rfl, hba, hca⟩ := H.out.cell (by omega)
      obtain ⟨bb, ob, rfl, hbb, hcb⟩ := H'.out.cell (by omega)
      have d0 := keepc hb (hca k hkl).1
      have d1 := keepc hb (hca k hkl).2
      have e0 := keepc hb (hcb k hkl).1
      have e1 := keepc hb (hcb k hkl).2
      generalize l[k].1 = x at *
      generalize l[k].2 = y at *
      have hkz : (k : Int) < l.length := by omega
      have hk0 : (0 : Int) ≤ (k : Int) := by omega
      clear hca hcb hb
      go_upto_region 6 with fail
      go_cut [26] (fun s wx => s = .bool false ∧ Below w.heap.size w wx)
      case first =>
        have HK0 := hide (st_refl wr)
        have HKd := hide (st_drew HK0.out)
        go_region_with ((go_at_call 41; refine (eq_piece x y _).mono ?_; rintro e wx ⟨rfl, hbx⟩; have HK := hide (st_trans (a := wr) (Hid.out (by assumption)) hbx)))
        all_goals
          go_wp2_with fail
          go_meet
          exact ⟨rfl, st_trans B2.out HK.out⟩
      case rest =>
        obtain ⟨rfl, hbc⟩ := hcut
        have B3 := hide hbc
        clear hbc
        go_wp2
        go_roundw
        case rel => exact ⟨k + 1, by go_num, by omega, B3.out⟩
        case measure => simp [intOf]; omega
    · clear hb
      go_wp2
      go_ret
      exact ⟨rfl, B2.out⟩

/-- the marks from m on -/
def marks (m : Int) : Nat → List (Int × Int)
  | 0 => []
  | n + 1 => (m, m + 1) :: marks (m + 2) n
theorem marks_len : ∀ (n : Nat) (m : Int), (marks m n).length = n := by
  intro n
  induction n with
  | zero => intro m; rfl
  | succ n ih => intro m; simp [marks, ih]
theorem marks_get : ∀ (n : Nat) (m : Int) (i : Nat), i < n → (marks m n)[i]? = some (m + 2 * i, m + 2 * i + 1) := by
  intro n
  induction n with
  | zero => intro m i h; omega
  | succ n ih =>
    intro m i h
    cases i with
    | zero => simp [marks]
    | succ i =>
      show (marks (m + 2) n)[i]? = _
      rw [ih (m + 2) i (by omega)]
      congr 2
      · omega
      · omega
/-- a list whose first k pieces are marked -/
def mkd (m : Int) (l : List (Int × Int)) (k : Nat) : List (Int × Int) := marks m k ++ l.drop k
theorem marks_snoc : ∀ (n : Nat) (m : Int), marks m (n + 1) = marks m n ++ [(m + 2 * n, m + 2 * n + 1)] := by
  intro n
  induction n with
  | zero => intro m; simp [marks]
  | succ n ih =>
    intro m
    show (m, m + 1) :: marks (m + 2) (n + 1) = _
    rw [ih (m + 2), show m + 2 + 2 * (n : Int) = m + 2 * ((n + 1 : Nat) : Int) from by omega]
    rfl
theorem mkd_zero (m : Int) (l : List (Int × Int)) : mkd m l 0 = l := rfl
theorem mkd_len (m : Int) (l : List (Int × Int)) (k : Nat) (h : k ≤ l.length) : (mkd m l k).length = l.length := by simp [mkd, marks_len]; omega
theorem mkd_all (m : Int) (l : List (Int × Int)) : mkd m l l.length = marks m l.length := by simp [mkd]
theorem mkd_set (m : Int) (l : List (Int × Int)) (k : Nat) (h : k < l.length) : (mkd m l k).set k (m + 2 * k, m + 2 * k + 1) = mkd m l (k + 1) := by
  unfold mkd
  rw [List.set_append_right _ _ (by rw [marks_len]; exact Nat.le_refl _), marks_len, Nat.sub_self, List.drop_eq_getElem_cons h, List.set_cons_zero, marks_snoc]
  simp

/-- markPieceS writes its marks, and turns nothing else that was there -/
def Marked (base : Nat) (v : Value) (n : Nat) (m : Int) (w : World) (e : Ending) (w' : World) : Prop :=
  e = .returned (.int .i64 (m + 2 * n)) ∧ Ow w' base v (marks m n) ∧ w.grownBy w' v.ownBlock
set_option maxHeartbeats 3200000 in
theorem mark_pieces (base : Nat) (v : Value) (l : List (Int × Int)) (m : Int) (w : World) (h : Ow w base v l) (hn : l.length ≤ 1048576) (hm0 : 0 ≤ m) (hm1 : m ≤ 4) :
    Calls Try.prog 33 #[v, .int .i64 m] w (Marked base v l.length m w) := by
  rcases h.form with ⟨rfl, rfl⟩ | ⟨g, cap, rfl, hb, hg, hnc, hcm⟩
  · go_enter Try.func33, Try.ntmps33
    go_wp2
    refine wp_loop_rounds 1 ?_
    rw [rounds_succ]
    go_wp2
    go_ret
    exact ⟨ret_int (by simp), Ow.nil _ _, World.grownBy.refl _ _⟩
  · unfold maxLen at hcm
    have H := hide h
    clear h
    go_enter Try.func33, Try.ntmps33
    go_wp2
    go_loopw [1, 5] (fun s i wr => ∃ k : Nat, i = .int .i64 k ∧ s = .int .i64 (m + 2 * k) ∧ k ≤ l.length ∧ Ow wr base (.slice (some ⟨g, 0, none⟩) l.length cap) (mkd m l k) ∧ w.grownBy wr (some g)) (fun _ i _ => l.length - (intOf i).toNat)
    case atStart => exact ⟨0, rfl, by simp, Nat.zero_le _, H.out, World.grownBy.refl _ _⟩
    case round =>
      obtain ⟨k, rfl, rfl, hk, hown, hgr⟩ := hrel
      by_cases hkl : k < l.length
      · have M := hide (mkd_set m l k hkl)
        have ML := hide (mkd_len m l k hk)
        have G2 := hide hgr
        have O2 : Hid (Ow wr base (.slice (some ⟨g, 0, none⟩) (mkd m l k).length cap) (mkd m l k)) := by show Ow _ _ _ _; rw [ML.out]; exact hown
        obtain ⟨c0, c1, z0, z1⟩ := Ow.cells O2.out k (by rw [ML.out]; exact hkl)
        obtain ⟨a, ha⟩ : ∃ a, wr.cell? ⟨g, k * 2, none⟩ = some a := ⟨_, c0⟩
        obtain ⟨b, hb2⟩ : ∃ b, wr.cell? ⟨g, k * 2 + 1, none⟩ = some b := ⟨_, c1⟩
        have hkk : (k : Int) ≤ 1048576 := by omega
        clear c0 c1 hown hgr
        go_wp2
        go_roundw
        case rel =>
          have h4 := Ow.set2 O2.out k (by rw [ML.out]; exact hkl) (m + 2 * k) (m + 2 * k + 1)
          rw [M.out, ML.out] at h4
          refine ⟨k + 1, by go_num, by congr 1; omega, by omega, h4, ?_⟩
          refine grown_trans G2.out ⟨rfl, rfl, rfl, by simp [World.setCell], fun j hj hne => ?_⟩
          exact (Below.heap_setCell _ _ _ _ (fun e => hne (by rw [e]))).trans (Below.heap_setCell _ _ _ _ (fun e => hne (by rw [e])))
        case measure => simp [intOf]; omega
      · obtain rfl : k = l.length := by omega
        have G2 := hide hgr
        have O2 : Hid (Ow wr base (.slice (some ⟨g, 0, none⟩) l.length cap) (marks m l.length)) := by show Ow _ _ _ _; rw [← mkd_all m l]; exact hown
        clear hown hgr
        go_wp2
        go_ret
        exact ⟨rfl, O2.out, G2.out⟩

set_option maxHeartbeats 3200000 in
theorem held_pieces (ao : Option Addr) (len cap : Nat) (n : Nat) (m : Int) (w : World) (h : Rs w ao len cap (marks m n)) (hn : n ≤ 1048576) (hm0 : 0 ≤ m) (hm1 : m ≤ 4) :
    Calls Try.prog 34 #[.slice ao len cap, .int .i64 m] w fun e w' => e = .returned (.int .i64 (m + 2 * n)) ∧ Below w.heap.size w w' := by
  have hl := h.hlen
  rw [marks_len] at hl
  subst hl
  have hc := h.hcap
  have hm := h.hmax
  unfold maxLen at hm
  have H := hide h
  clear h
  go_enter Try.func34, Try.ntmps34
  go_wp2
  go_loopw [1, 5] (fun s i wr => ∃ k : Nat, i = .int .i64 k ∧ s = .int .i64 (m + 2 * k) ∧ k ≤ len ∧ Below w.heap.size w wr) (fun _ i _ => len - (intOf i).toNat)
  case atStart => exact ⟨0, rfl, by simp, Nat.zero_le _, st_refl w⟩
  case round =>
    obtain ⟨k, rfl, rfl, hk, hb⟩ := hrel
    have B2 := hide hb
    by_cases hkl : k < len
    · obtain ⟨bb, off, rfl, hbs, hc⟩ := H.out.cell (by omega)
      have hkm : k < (marks m len).length := by rw [marks_len]; exact hkl
      have g := marks_get len m k hkl
      rw [List.getElem?_eq_getElem hkm] at g
      have d0 := keepc hb (hc k hkm).1
      have d1 := keepc hb (hc k hkm).2
      rw [Option.some.inj g] at d0 d1
      dsimp only at d0 d1
      have hkk : (k : Int) ≤ 1048576 := by omega
      clear hc hb g hkm
      go_wp2
      go_roundw
      case rel => exact ⟨k + 1, by go_num, by congr 1; omega, by omega, B2.out⟩
      case measure => simp [intOf]; omega
    · obtain rfl : k = len := by omega
      clear hb
      go_wp2
      go_ret
      exact ⟨rfl, B2.out⟩

theorem Ow.rs' {w : World} {base n cap : Nat} {ao : Option Addr} {l : List (Int × Int)} (h : Ow w base (.slice ao n cap) l) (hi : In64 l) : Rs w ao n cap l := by
  obtain ⟨ao', cap', e, k⟩ := h.rs hi
  simp only [Value.slice.injEq] at e
  obtain ⟨rfl, rfl, rfl⟩ := e
  exact k
theorem Ow.shape' {w : World} {base : Nat} {v : Value} {l : List (Int × Int)} (h : Ow w base v l) : ∃ ao cap, v = .slice ao l.length cap := h.shape
theorem marks_in64 (m : Int) (n : Nat) (hm0 : 0 ≤ m) (hm1 : m ≤ 4) (hn : n ≤ 1048576) : In64 (marks m n) := by
  intro i hi
  have hi' : i < n := by rw [marks_len] at hi; exact hi
  have g := marks_get n m i hi'
  rw [List.getElem?_eq_getElem hi] at g
  rw [Option.some.inj g]
  unfold I64
  dsimp only
  omega
theorem Rs.i64 {w : World} {ao : Option Addr} {len cap : Nat} {l : List (Int × Int)} (h : Rs w ao len cap l) : In64 l := h.int
theorem In64.of_vB {l : List (Int × Int)} (h : vB l = true) : In64 l := fun i hi => by have := vB_top h i hi; unfold I64; omega
theorem In64.nil : In64 [] := fun _ hi => absurd hi (Nat.not_lt_zero _)
theorem gapsV_in64 (l : List (Int × Int)) : In64 (gapsV l) ∧ (gapsV l).length ≤ 20 := by
  unfold gapsV
  cases hv : vB l with
  | false => exact ⟨In64.nil, by simp⟩
  | true =>
    have := gaps_valid hv
    exact ⟨In64.of_vB this.1, vB_len this.1⟩
theorem jF_in : ∀ {r : List (Int × Int)} {q : Int × Int} {P : Int → Prop}, P q.1 → P q.2 → (∀ p ∈ r, P p.1 ∧ P p.2) → ∀ p ∈ jF q r, P p.1 ∧ P p.2 := by
  intro r
  induction r with
  | nil => intro q P h1 h2 _ p hp; simp [jF] at hp; subst hp; exact ⟨h1, h2⟩
  | cons s r ih =>
    intro q P h1 h2 hr p hp
    unfold jF at hp
    have hs := hr s (by simp)
    have hr' : ∀ p ∈ r, P p.1 ∧ P p.2 := fun p hp => hr p (by simp [hp])
    split at hp
    · exact ih (q := (q.1, s.2)) h1 hs.2 hr' p hp
    · rcases List.mem_cons.1 hp with rfl | hp
      · exact ⟨h1, h2⟩
      · exact ih hs.1 hs.2 hr' p hp
theorem joinV_in64 (l : List (Int × Int)) : In64 (joinV l) ∧ (joinV l).length ≤ 20 := by
  unfold joinV
  cases hv : vB l with
  | false => exact ⟨In64.nil, by simp⟩
  | true =>
    refine ⟨?_, Nat.le_trans (join_len l) (vB_len hv)⟩
    have hm := (In64.of_vB hv).mem
    refine In64.of_mem ?_
    show ∀ p ∈ join l, I64 p.1 ∧ I64 p.2
    cases l with
    | nil => intro p hp; cases hp
    | cons s r => exact jF_in (P := I64) (hm s (by simp)).1 (hm s (by simp)).2 (fun p hp => hm p (by simp [hp]))
theorem btw_in64 {t b : Int} : ∀ {l : List (Int × Int)}, (0 ≤ t ∧ t ≤ 30000) → (0 ≤ b ∧ b ≤ 30000) → (∀ p ∈ l, (0 ≤ p.1 ∧ p.1 ≤ 30000) ∧ (0 ≤ p.2 ∧ p.2 ≤ 30000)) → ∀ p ∈ btw t b l, I64 p.1 ∧ I64 p.2 := by
  intro l
  induction l with
  | nil => intro _ _ _ p hp; cases hp
  | cons s r ih =>
    intro ht hb hl p hp
    have hs := hl s (by simp)
    have hr := fun p hp => hl p (List.mem_cons_of_mem _ hp)
    unfold btw at hp
    split at hp
    · rcases List.mem_cons.1 hp with rfl | hp
      · unfold I64; dsimp only; omega
      · exact ih ht hb hr p hp
    · exact ih ht hb hr p hp
theorem btwV_in64 (t b : Int) (l : List (Int × Int)) : In64 (btwV t b l) ∧ (btwV t b l).length ≤ 20 := by
  unfold btwV
  cases hv : btwO t b l with
  | false => exact ⟨In64.nil, by simp⟩
  | true =>
    unfold btwO at hv
    rw [Bool.and_eq_true] at hv
    have hs := spB_parts hv.2
    refine ⟨In64.of_mem (btw_in64 (by omega) (by omega) fun p hp => ?_), Nat.le_trans (btw_len t b l) (vB_len hv.1)⟩
    have := vF_top (vB_iff.1 hv.1).1 p hp
    omega
end Go.Proofs.Ytbfcfhngfenpjaa
