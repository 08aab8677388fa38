/-
  The contracts of the program's and the reference's functions on fractions: each computes the plain function of XFp.
  Conditions: none on the values beyond int64.
-/
import Derived.Test.YtaikebigaiimaaaDoorProg
import Derived.Test.YtaikebigaiimaaaDoorGp
import Derived.WalkKit
import Derived.WalkSpells
import Derived.WalkLawsBesides
import Derived.Lib.Hide
import Derived.BigQuiet
import Derived.Deep.QuietTactic
import Derived.Handy
namespace Go.Proofs.YtaikebigaiimaaaDoor.Fx
open Go.RowKit Fr

theorem ret_int {k : IntKind} {a b : Int} (h : a = b) : Ending.returned (.int k a) = .returned (.int k b) := by rw [h]

theorem tmod_bd {a b B : Int} (h1 : -B ≤ a) (h2 : a ≤ B) : -B ≤ a.tmod b ∧ a.tmod b ≤ B := by
  have h : (a.tmod b).natAbs ≤ a.natAbs := by rw [Int.natAbs_tmod]; exact Nat.mod_le _ _
  omega

set_option maxHeartbeats 1000000 in
/-- the program's gcd -/
theorem gcd_impl (a b : Int) (w : World) (ha1 : -4000000000000000000 ≤ a) (ha2 : a ≤ 4000000000000000000) (hb1 : -4000000000000000000 ≤ b) (hb2 : b ≤ 4000000000000000000) :
    Calls Tryd.prog 47 #[.int .i64 a, .int .i64 b] w fun e w' => e = .returned (.int .i64 (Int.gcd a b)) ∧ ∃ n, w' = w.drewN n := by
  go_enter Tryd.func47, Tryd.ntmps47
  go_wp2
  go_loopw [0, 1] (fun u v wr => ∃ x y : Int, u = .int .i64 x ∧ v = .int .i64 y ∧ -4000000000000000000 ≤ x ∧ x ≤ 4000000000000000000 ∧ -4000000000000000000 ≤ y ∧ y ≤ 4000000000000000000 ∧ Int.gcd x y = Int.gcd a b ∧ ∃ n, wr = w.drewN n) (fun _ v _ => (intOf v).natAbs)
  case atStart => exact ⟨a, b, rfl, rfl, ha1, ha2, hb1, hb2, rfl, 0, rfl⟩
  case round =>
    obtain ⟨x, y, rfl, rfl, hx1, hx2, hy1, hy2, hg, n, rfl⟩ := hrel
    by_cases hy : y = 0
    · subst hy
      have G : Hid (Int.gcd a b = x.natAbs) := by show Int.gcd a b = x.natAbs; rw [← hg]; simp
      clear hg
      go_wp2
      all_goals
        go_ret
        exact ⟨ret_int (by rw [G.out]; omega), n, rfl⟩
    · have hm := tmod_bd (b := y) hx1 hx2
      have hlt := tmod_lt x hy
      have G : Hid (Int.gcd y (x.tmod y) = Int.gcd a b) := (gcd_step x y).trans hg
      have hy' : (y != 0) = true := by simpa using hy
      clear hg
      go_wp2
      go_region
      all_goals
        go_roundw
        case rel =>
          repeat apply Exists.intro
          exact ⟨⟨y, x.tmod y, rfl, rfl, by omega, by omega, by omega, by omega, G.out, n + 1, rfl⟩, rfl⟩
        case measure => simp [intOf]; exact Nat.mod_lt _ (by omega)

set_option maxHeartbeats 1000000 in
/-- the reference's gcd -/
theorem gcd_spec (a b : Int) (w : World) (ha1 : 0 ≤ a) (ha2 : a ≤ 4000000000000000000) (hb1 : 0 ≤ b) (hb2 : b ≤ 4000000000000000000) :
    Calls Tryd.prog 45 #[.int .i64 a, .int .i64 b] w fun e w' => e = .returned (.int .i64 (Int.gcd a b)) ∧ w = w' := by
  go_enter Tryd.func45, Tryd.ntmps45
  go_wp2
  go_loop [0, 1] (fun u v => ∃ x y : Int, u = .int .i64 x ∧ v = .int .i64 y ∧ 0 ≤ x ∧ x ≤ 4000000000000000000 ∧ 0 ≤ y ∧ y ≤ 4000000000000000000 ∧ Int.gcd x y = Int.gcd a b) (fun _ v => (intOf v).natAbs)
  case atStart => exact ⟨a, b, rfl, rfl, ha1, ha2, hb1, hb2, rfl⟩
  case round =>
    obtain ⟨x, y, rfl, rfl, hx1, hx2, hy1, hy2, hg⟩ := hrel
    by_cases hy : y = 0
    · subst hy
      have G : Hid (Int.gcd a b = x.natAbs) := by show Int.gcd a b = x.natAbs; rw [← hg]; simp
      clear hg
      go_wp2
      go_ret
      exact ⟨ret_int (by rw [G.out]; omega), rfl⟩
    · have hm1 : 0 ≤ x % y := Int.emod_nonneg x hy
      have hm2 : x % y < y := Int.emod_lt_of_pos x (by omega)
      have G : Hid (Int.gcd y (x % y) = Int.gcd a b) := by
        show Int.gcd y (x % y) = Int.gcd a b
        rw [← hg, ← gcd_step x y, Int.tmod_eq_emod_of_nonneg hx1]
      have hy' : (y != 0) = true := by simpa using hy
      clear hg
      go_wp2
      go_round
      case rel => first | exact ⟨y, x % y, rfl, rfl, by omega, by omega, by omega, by omega, G.out⟩ | ((repeat apply Exists.intro); exact ⟨⟨y, x % y, rfl, rfl, by omega, by omega, by omega, by omega, G.out⟩, rfl⟩)
      case measure => simp [intOf]; omega

theorem ret_bool {a b : Bool} (h : a = b) : Ending.returned (.bool a) = .returned (.bool b) := by rw [h]
theorem okB_no {n d : Int} (h : ¬ (1 ≤ d ∧ d ≤ 1000000000 ∧ -1000000000 ≤ n ∧ n ≤ 1000000000)) : false = okB n d := by
  symm; rw [Bool.eq_false_iff, Ne, okB_iff]; exact fun ⟨a, b, c, e, _⟩ => h ⟨a, b, c, e⟩
theorem okB_in {n d : Int} (h1 : 1 ≤ d) (h2 : d ≤ 1000000000) (h3 : -1000000000 ≤ n) (h4 : n ≤ 1000000000) : ((Int.gcd n d : Int) == 1) = okB n d := by
  rw [Bool.eq_iff_iff, okB_iff, beq_iff_eq]
  exact ⟨fun h => ⟨h1, h2, h3, h4, by omega⟩, fun h => by have := h.co; omega⟩

theorem st_refl (w : World) : Below w.heap.size w w := Below.refl _ _
theorem st_trans {a b c : World} (h : Below a.heap.size a b) (k : Below b.heap.size b c) : Below a.heap.size a c := h.trans (k.mono h.size)
theorem st_alloc {a b : World} (h : Below a.heap.size a b) (o : Obj) : Below a.heap.size a (b.alloc o) := h.alloc h.size o
theorem st_dN {a b : World} (h : Below a.heap.size a b) (n : Nat) : Below a.heap.size a (b.drewN n) := ⟨h.os, h.tape, h.output, h.size, h.block⟩
theorem st_drew {a b : World} (h : Below a.heap.size a b) : Below a.heap.size a b.drew := h.drew

set_option maxHeartbeats 1000000 in
theorem fv_impl (n d : Int) (w : World) (hn1 : -9223372036854775808 ≤ n) (hn2 : n ≤ 9223372036854775807) (hd1 : -9223372036854775808 ≤ d) (hd2 : d ≤ 9223372036854775807) :
    Calls Tryd.prog 39 #[.agg #[.int .i64 n, .int .i64 d]] w fun e w' => e = .returned (.bool (okB n d)) ∧ Below w.heap.size w w' := by
  go_enter Tryd.func39, Tryd.ntmps39
  go_wp2_with (go_at_call 47; refine (gcd_impl _ _ _ (by omega) (by omega) (by omega) (by omega)).mono ?_; rintro e w' ⟨rfl, k, rfl⟩)
  all_goals
    go_ret
    first | exact ⟨ret_bool (okB_no (by omega)), st_alloc (st_refl _) _⟩ | exact ⟨ret_bool (okB_in (by omega) (by omega) (by omega) (by omega)), st_dN (st_alloc (st_refl _) _) _⟩

/-- l2Abs -/
theorem abs_spec (n : Int) (w : World) (h1 : -9000000000000000000 ≤ n) (h2 : n ≤ 9000000000000000000) :
    Calls Tryd.prog 46 #[.int .i64 n] w fun e w' => e = .returned (.int .i64 n.natAbs) ∧ w = w' := by
  go_enter Tryd.func46, Tryd.ntmps46
  go_wp2
  all_goals
    go_ret
    exact ⟨ret_int (by omega), rfl⟩
def inB (n a b : Int) : Bool := decide (a ≤ n ∧ n ≤ b)
theorem inB_yes {n a b : Int} (h1 : a ≤ n) (h2 : n ≤ b) : inB n a b = true := decide_eq_true ⟨h1, h2⟩
theorem inB_no {n a b : Int} (h : ¬ (a ≤ n ∧ n ≤ b)) : inB n a b = false := decide_eq_false h
/-- l6In -/
theorem in_spec (n a b : Int) (w : World) :
    Calls Tryd.prog 37 #[.int .i64 n, .int .i64 a, .int .i64 b] w fun e w' => e = .returned (.bool (inB n a b)) ∧ w = w' := by
  go_enter Tryd.func37, Tryd.ntmps37
  go_wp2
  all_goals
    go_ret
    first
      | exact ⟨ret_bool (inB_no (by omega)).symm, rfl⟩
      | (refine ⟨ret_bool ?_, rfl⟩; unfold inB; rw [decide_eq_decide]; omega)
theorem okB_abs {n d : Int} (h1 : 1 ≤ d) (h2 : d ≤ 1000000000) (h3 : -1000000000 ≤ n) (h4 : n ≤ 1000000000) : ((Int.gcd (n.natAbs : Int) d : Int) == 1) = okB n d := by
  rw [← okB_in h1 h2 h3 h4]
  congr 2
theorem quiet_left {P : Program} {f : FuncId} {args : Array Value} {w : World} {n : Nat} {v : Value}
    (h : Calls P f args (w.drewN n) fun e w' => e = .returned v ∧ w.drewN n = w') : Calls P f args (w.drewN n) fun e w'' => e = .returned v ∧ ∃ m, w'' = w.drewN m :=
  h.mono fun _ _ ⟨he, hm⟩ => ⟨he, n, hm.symm⟩
set_option maxHeartbeats 1000000 in
theorem fv_spec (n d : Int) (w : World) (hn1 : -9223372036854775808 ≤ n) (hn2 : n ≤ 9223372036854775807) (hd1 : -9223372036854775808 ≤ d) (hd2 : d ≤ 9223372036854775807) :
    Calls Tryd.prog 38 #[.agg #[.int .i64 n, .int .i64 d]] w fun e w' => e = .returned (.bool (okB n d)) ∧ Below w.heap.size w w' := by
  by_cases h : 1 ≤ d ∧ d ≤ 1000000000 ∧ -1000000000 ≤ n ∧ n ≤ 1000000000
  · obtain ⟨h1, h2, h3, h4⟩ := h
    have d1 := inB_yes h1 h2
    have d2 := inB_yes h3 h4
    go_enter Tryd.func38, Tryd.ntmps38
    go_wp2_with (go_at_call 37; refine (in_spec _ _ _ _).mono ?_; rintro e w' ⟨rfl, rfl⟩)
    clear d1 d2
    go_quiet ((first | (go_at_call 46; exact quiet_left (abs_spec n _ (by omega) (by omega))) | (go_at_call 45; exact quiet_left (gcd_spec _ _ _ (by omega) (by omega) (by omega) (by omega)))))
    go_wp2
    go_ret
    exact ⟨ret_bool (okB_abs h1 h2 h3 h4), st_dN (st_alloc (st_refl _) _) _⟩
  · have E : Hid (false = okB n d) := okB_no h
    by_cases hd : 1 ≤ d ∧ d ≤ 1000000000
    · have d1 := inB_yes hd.1 hd.2
      have d2 : inB n (-1000000000) 1000000000 = false := inB_no (by omega)
      go_enter Tryd.func38, Tryd.ntmps38
      go_wp2_with (go_at_call 37; refine (in_spec _ _ _ _).mono ?_; rintro e w' ⟨rfl, rfl⟩)
      go_ret
      exact ⟨ret_bool E.out, st_alloc (st_refl _) _⟩
    · have d1 := inB_no hd
      go_enter Tryd.func38, Tryd.ntmps38
      go_wp2_with (go_at_call 37; refine (in_spec _ _ _ _).mono ?_; rintro e w' ⟨rfl, rfl⟩)
      go_ret
      exact ⟨ret_bool E.out, st_alloc (st_refl _) _⟩

theorem tdiv_bd {a b B : Int} (h1 : -B ≤ a) (h2 : a ≤ B) : -B ≤ a.tdiv b ∧ a.tdiv b ≤ B := by
  have h : (a.tdiv b).natAbs ≤ a.natAbs := by rw [Int.natAbs_tdiv]; exact Nat.div_le_self _ _
  omega

theorem gcd_implG (a b g : Int) (w : World) (hg : (Int.gcd a b : Int) = g) (ha1 : -4000000000000000000 ≤ a) (ha2 : a ≤ 4000000000000000000) (hb1 : -4000000000000000000 ≤ b) (hb2 : b ≤ 4000000000000000000) :
    Calls Tryd.prog 47 #[.int .i64 a, .int .i64 b] w fun e w' => e = .returned (.int .i64 g) ∧ ∃ n, w' = w.drewN n := by
  subst hg
  exact gcd_impl a b w ha1 ha2 hb1 hb2
theorem hide {p : Prop} (h : p) : Hid p := h
theorem gcd_le {a b : Int} (hb : b ≠ 0) : (Int.gcd a b : Int) ≤ b.natAbs := by
  have := Int.gcd_le_natAbs_right a hb
  omega
theorem q_pos {a b g : Int} (hg : (Int.gcd a b : Int) = g) (hb : 0 ≤ b) : qN a b = a.tdiv g ∧ qD a b = b.tdiv g := by
  unfold qN qD gS; rw [if_neg (by omega), hg]; exact ⟨rfl, rfl⟩
theorem q_neg {a b g : Int} (hg : (Int.gcd a b : Int) = g) (hb : b < 0) : qN a b = -(a.tdiv g) ∧ qD a b = -(b.tdiv g) := by
  unfold qN qD gS; rw [if_pos hb, hg, Int.tdiv_neg, Int.tdiv_neg]; exact ⟨rfl, rfl⟩
theorem of_yes {a b x y : Int} (h0 : b ≠ 0) (h1 : -4000000000000000000 ≤ a) (h2 : a ≤ 4000000000000000000) (h3 : -4000000000000000000 ≤ b) (h4 : b ≤ 4000000000000000000)
    (hx : qN a b = x) (hy : qD a b = y) (hv : okB x y = true) : ofOk a b = true ∧ ofN a b = x ∧ ofD a b = y := by
  have hk : ofOk a b = true := by
    unfold ofOk
    rw [hx, hy, hv, Bool.and_true, decide_eq_true_iff]
    exact ⟨h0, h1, h2, h3, h4⟩
  unfold ofN ofD
  rw [if_pos hk, if_pos hk]
  exact ⟨hk, hx, hy⟩
theorem of_not {a b x y : Int} (hx : qN a b = x) (hy : qD a b = y) (hv : okB x y = false) : ofOk a b = false ∧ ofN a b = 0 ∧ ofD a b = 0 := by
  have hk : ofOk a b = false := by unfold ofOk; rw [hx, hy, hv, Bool.and_false]
  exact ⟨hk, of_no hk⟩
theorem of_out {a b : Int} (h : ¬ (b ≠ 0 ∧ -4000000000000000000 ≤ a ∧ a ≤ 4000000000000000000 ∧ -4000000000000000000 ≤ b ∧ b ≤ 4000000000000000000)) : ofOk a b = false ∧ ofN a b = 0 ∧ ofD a b = 0 := by
  have hk : ofOk a b = false := by unfold ofOk; rw [decide_eq_false h, Bool.false_and]
  exact ⟨hk, of_no hk⟩
theorem ret_frac {n d n' d' : Int} {o o' : Bool} (h1 : n' = n) (h2 : d' = d) (h3 : o' = o) :
    Ending.returned (.tuple #[.agg #[.int .i64 n, .int .i64 d], .bool o]) = .returned (.tuple #[.agg #[.int .i64 n', .int .i64 d'], .bool o']) := by rw [h1, h2, h3]

theorem bcell {W w1 : World} (hb : Below W.heap.size W w1) : (∀ b o, b < W.heap.size → w1.cell? ⟨b, o, none⟩ = W.cell? ⟨b, o, none⟩) ∧ (∀ b o, b < W.heap.size → w1.frozen? ⟨b, o, none⟩ = W.frozen? ⟨b, o, none⟩) :=
  ⟨fun b o h => hb.cell (p := ⟨b, o, none⟩) h, fun b o h => hb.frozen (p := ⟨b, o, none⟩) h⟩
theorem keepc {W w1 : World} {a : Addr} {v : Value} (hb : Below W.heap.size W w1) (h : W.cell? a = some v) : w1.cell? a = some v := (hb.cell (World.block_lt_of_cell? W a h)).trans h
theorem keepf {W w1 : World} {a : Addr} {v : Value} (hb : Below W.heap.size W w1) (h : W.cell? a = some v) (hf : W.frozen? a = false) : w1.frozen? a = false := (hb.frozen (World.block_lt_of_cell? W a h)).trans hf
theorem st_set {a b : World} (h : Below a.heap.size a b) {p : Addr} (hp : a.heap.size ≤ p.block) (u : Value) : Below a.heap.size a (b.setCell p u) := h.setCell hp u

end Go.Proofs.YtaikebigaiimaaaDoor.Fx
