/-
  The library's reading of any text.
  Conditions: the library's table of powers of ten and its two error variables hold what start-up lays.
-/
import Derived.Test.YtaikebigaiimaaaDoorVe
import Derived.Test.YtaikebigaiimaaaDoorTz
import Derived.WalkSmall
namespace Go.Proofs.YtaikebigaiimaaaDoor
open Go.RowKit

/-- the two error variables of strconv hold an error -/
def Errs (w : World) : Prop := (∃ t p, w.var? Tryd.prog "strconv.ErrSyntax" = some #[.iface t p]) ∧ (∃ t p, w.var? Tryd.prog "strconv.ErrRange" = some #[.iface t p])
theorem var_keep {w w' : World} {n : String} {g : Nat} {v : Value} (hg : Tryd.prog.globalNamed n = some g) (hb : Below w.heap.size w w') (h : w.var? Tryd.prog n = some #[v]) : w'.var? Tryd.prog n = some #[v] :=
  var?_below hb hg (World.block_lt_of_cell? w ⟨g, 0, none⟩ (u := v) (by have h0 := World.var?_cell hg h 0; simpa using h0)) h
theorem gES : Tryd.prog.globalNamed "strconv.ErrSyntax" = some 1 := by kernel_rfl
theorem gER : Tryd.prog.globalNamed "strconv.ErrRange" = some 2 := by kernel_rfl
theorem Errs.keep {w w' : World} (h : Errs w) (hb : Below w.heap.size w w') : Errs w' := by
  obtain ⟨⟨t, p, h1⟩, u, q, h2⟩ := h
  exact ⟨⟨t, p, var_keep gES hb h1⟩, u, q, var_keep gER hb h2⟩
theorem starE : "*" ++ "errors.errorString" = "*errors.errorString" := by decide
theorem rowE (u : TypeId) (h : Tryd.prog.typeName? 3 u = some "*errors.errorString") : u = 90 :=
  typeName_ptr_named (nm := "errors.errorString") (by rw [starE]; kernel_rfl) (by kernel_rfl) (by decide) u (by rw [starE]; exact h)
theorem errs_of5 {W : World} (h : laidMetH Tryd.prog laid5 W) : Errs W := by
  rw [MakeChecks.laidMetH_plain _ _ _ (by kernel_rfl)] at h
  have h3 := laidMet.tail (laidMet.tail (laidMet.tail h))
  obtain ⟨a0, s0, hv0, -, -, -⟩ := laid_sentinel h3 gER (show (Tryd.prog.globals[2]?).map (·.type) = some 43 by kernel_rfl) Tryd.underlying43 rowE Tryd.underlying90 Tryd.underlying92 rfl rfl Tryd.underlying9 (by kernel_rfl) (by kernel_rfl)
  obtain ⟨a1, s1, hv1, -, -, -⟩ := laid_sentinel (laidMet.tail h3) gES (show (Tryd.prog.globals[1]?).map (·.type) = some 43 by kernel_rfl) Tryd.underlying43 rowE Tryd.underlying90 Tryd.underlying92 rfl rfl Tryd.underlying9 (by kernel_rfl) (by kernel_rfl)
  exact ⟨⟨_, _, hv1⟩, _, _, hv0⟩
/-- how strconv.Atoi ends: a number, or an error -/
def Atoied (w : World) (e : Ending) (w' : World) : Prop :=
  ((∃ v : Int, e = .returned (.tuple #[.int .i64 v, .nilIface])) ∨ ∃ (v : Int) (t : TypeId) (N : Nat), e = .returned (.tuple #[.int .i64 v, .iface t (.pointer (some ⟨N, 0, none⟩))])) ∧ Below w.heap.size w w'
theorem atoi_any (l : List UInt8) (w : World) (hl : l.length ≤ 3000000) (hE : Errs w) : Calls Tryd.prog 28 #[.string (tx l)] w (Atoied w) := by
  obtain ⟨⟨t, p, h1⟩, u, q, h2⟩ := hE
  have hsz : (tx l).size ≤ 3000000 := by rw [tx_size]; exact hl
  cases h : Lib.atoiAll (tx l).data.toList
  · exact (Any.strconv_Atoi_ok Tryd.laysC172 (tx l) (by omega) _ h w).mono fun _ _ ⟨he, hw⟩ => ⟨.inl ⟨_, he⟩, by
      rcases hw with rfl | ⟨t, rfl⟩
      · exact st_refl _
      · exact Lib.bytesWorld_below _ _ _⟩
  · exact (Any.strconv_Atoi_syntax_var Tryd.laysC172 (tx l) (by omega) h t p w h1).mono fun _ _ ⟨N, he, _, _, hb⟩ => ⟨.inr ⟨_, _, N, he⟩, hb⟩
  · exact (Any.strconv_Atoi_range_var Tryd.laysC172 (tx l) (by omega) h u q w h2).mono fun _ _ ⟨N, he, _, _, hb⟩ => ⟨.inr ⟨_, _, N, he⟩, hb⟩
theorem index_none : ∀ (p : List UInt8), (∀ c ∈ p, c ≠ 32) → Lib.indexByte p 32 = -1 := by
  intro p
  induction p with
  | nil => intro _; rfl
  | cons a r ih =>
    intro h
    have h1 := ih (fun c hc => h c (List.mem_cons_of_mem _ hc))
    have h2 : (a == 32) = false := beq_eq_false_iff_ne.2 (h a (List.mem_cons_self ..))
    show (if (a == 32) = true then (0 : Int) else if (Lib.indexByte r 32 == -1) = true then -1 else Lib.indexByte r 32 + 1) = _
    rw [h2, h1]
    rfl
set_option maxHeartbeats 1000000 in
theorem cut_lite_no (p : List UInt8) (hp : ∀ c ∈ p, c ≠ 32) (w : World) :
    Calls Tryd.prog 41 #[.string (tx p), .string ⟨#[32]⟩] w fun e w' => e = .returned (.tuple #[.string (tx p), .string (tx []), .bool false]) ∧ Below w.heap.size w w' := by
  have hi := index_none p hp
  have X := hide (Tryd.stringslite_Index_one (tx p) 32 w)
  have hi2 : Lib.indexByte (tx p).data.toList 32 = -1 := hi
  clear hp hi
  go_enter Tryd.func41, Tryd.ntmps41
  go_wp2_with fail
  refine (X.out).mono ?_
  rintro e w1 ⟨rfl, rfl⟩
  rw [hi2]
  clear X hi2
  go_wp2
  refine bodyPost_ret (v := .tuple #[.string (tx p), .string (tx []), .bool false]) (by simp [results, Tryd.results41, go_sem]; rfl) rfl ⟨rfl, st_refl _⟩
set_option maxHeartbeats 1000000 in
theorem cut_no (p : List UInt8) (hp : ∀ c ∈ p, c ≠ 32) (w : World) :
    Calls Tryd.prog 27 #[.string (tx p), .string ⟨#[32]⟩] w fun e w' => e = .returned (.tuple #[.string (tx p), .string (tx []), .bool false]) ∧ Below w.heap.size w w' := by
  have X := hide (cut_lite_no p hp w)
  clear hp
  go_enter Tryd.func27, Tryd.ntmps27
  go_wp2_with fail
  refine (X.out).mono ?_
  rintro e w1 ⟨rfl, hb⟩
  have B1 := hide hb
  clear hb X
  go_wp2
  refine bodyPost_ret (v := .tuple #[.string (tx p), .string (tx []), .bool false]) (by simp [results, Tryd.results27, go_sem]) rfl ⟨rfl, B1.out⟩
theorem pre_no (l : List UInt8) : ∀ c ∈ pre l, c ≠ 32 := by
  induction l with
  | nil => intro c h; cases h
  | cons a r ih =>
    unfold pre
    cases h : a == 32
    · intro c hc
      rcases List.mem_cons.1 hc with rfl | hc
      · exact beq_eq_false_iff_ne.1 h
      · exact ih c hc
    · intro c hc; cases hc
theorem post_form (l : List UInt8) : post l = [] ∨ ∃ q, post l = 32 :: q := by
  induction l with
  | nil => exact .inl rfl
  | cons a r ih =>
    unfold post
    cases h : a == 32
    · exact ih
    · exact .inr ⟨r, by rw [beq_iff_eq.1 h]; rfl⟩
theorem pre_app : ∀ (p q : List UInt8), (∀ c ∈ p, c ≠ 32) → pre (p ++ 32 :: q) = p ∧ post (p ++ 32 :: q) = 32 :: q := by
  intro p q
  induction p with
  | nil => intro _; exact ⟨rfl, rfl⟩
  | cons a r ih =>
    intro h
    have h1 := ih (fun c hc => h c (List.mem_cons_of_mem _ hc))
    have h2 : (a == 32) = false := beq_eq_false_iff_ne.2 (h a (List.mem_cons_self ..))
    show (if (a == 32) = true then [] else a :: pre (r ++ 32 :: q)) = _ ∧ (if (a == 32) = true then a :: (r ++ 32 :: q) else post (r ++ 32 :: q)) = _
    rw [h2]
    exact ⟨by show a :: pre _ = _; rw [h1.1], h1.2⟩
/-- strings.Cut at the first blank, there or not -/
theorem cut_any (l : List UInt8) (hl : l.length ≤ 2000000) : ∃ (p q : List UInt8) (f : Bool), p.length ≤ l.length ∧ ∀ w, Calls Tryd.prog 27 #[.string (tx l), .string ⟨#[32]⟩] w fun e w' => e = .returned (.tuple #[.string (tx p), .string (tx q), .bool f]) ∧ Below w.heap.size w w' := by
  have hpp := pre_post l
  rcases post_form l with h | ⟨q, h⟩
  · rw [h, List.append_nil] at hpp
    have hn := pre_no l
    rw [hpp] at hn
    exact ⟨l, [], false, Nat.le_refl _, cut_no l hn⟩
  · rw [h] at hpp
    have hz : (pre l).length + (q.length + 1) = l.length := by rw [← hpp, List.length_append, hpp]; rfl
    refine ⟨pre l, q, true, by omega, fun w => ?_⟩
    have := cut_yes (pre l) q (pre_no l) (by omega) w
    rw [hpp] at this
    exact this
theorem fb_year {z : Int} (h : yOk z = true) : fb (yL z) = true ∧ fv (yL z) = z := by
  obtain ⟨m, q, hc, hm1, hm2, hy⟩ := yL_cut h
  obtain ⟨h1, h2⟩ := pre_app (Lib.decDigits m) q (dec_no32 m)
  rw [← hc] at h1 h2
  have hd : dv (pre (yL z)) = m := by rw [h1]; exact dv_dec m (by omega)
  have hv : yv (yL z) = z := by
    unfold yv
    rw [h2, hd]
    rcases hy with ⟨_, hy2, rfl⟩ | ⟨_, hy2, rfl⟩
    · rw [if_neg (by decide)]; exact hy2
    · rw [if_pos rfl]; omega
  have hb : fb (yL z) = true := by unfold fb; rw [hd, hv]; exact decide_eq_true ⟨by omega, rfl⟩
  exact ⟨hb, by rw [fv_yes hb, hv]⟩
theorem fb_is {l : List UInt8} (h : fb l = true) : ∃ z, yOk z = true ∧ yL z = l ∧ fv l = z := by
  have hv := fv_yes h
  unfold fb at h
  rw [decide_eq_true_iff] at h
  cases ho : yOk (yv l) with
  | true => exact ⟨_, ho, h.2, hv⟩
  | false =>
    have h1 := yL_no ho
    rw [h.2] at h1
    have h2 := h.1
    rw [h1] at h2
    exact absurd h2 (by decide)
end Go.Proofs.YtaikebigaiimaaaDoor
