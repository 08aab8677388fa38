/-
  The contracts of the functions on cores.
  Conditions: the slice reads as a list of pieces.
-/
import Derived.Test.YtbfcfhngfenpjaaProg
import Derived.Test.YtbfcfhngfenpjaaCp
import Derived.WalkKit
import Derived.WalkSpells
import Derived.WalkLawsBesides
import Derived.Lib.Hide
import Derived.Lib.MinMax
import Derived.BigQuiet
import Derived.Deep.QuietTactic
import Derived.Handy
import Derived.Deep.RegionWith
namespace Go.Proofs.Ytbfcfhngfenpjaa
open Go.RowKit Co

theorem hide {p : Prop} (h : p) : Hid p := h
theorem st_refl (w : World) : Below w.heap.size w w := Below.refl _ _
theorem st_trans {a b c : World} (h : Below a.heap.size a b) (k : Below b.heap.size b c) : Below a.heap.size a c := h.trans (k.mono h.size)
theorem st_alloc {a b : World} (h : Below a.heap.size a b) (o : Obj) : Below a.heap.size a (b.alloc o) := h.alloc h.size o
theorem st_dN {a b : World} (h : Below a.heap.size a b) (n : Nat) : Below a.heap.size a (b.drewN n) := ⟨h.os, h.tape, h.output, h.size, h.block⟩
theorem st_drew {a b : World} (h : Below a.heap.size a b) : Below a.heap.size a b.drew := h.drew
theorem bcell {W w1 : World} (hb : Below W.heap.size W w1) : (∀ b o, b < W.heap.size → w1.cell? ⟨b, o, none⟩ = W.cell? ⟨b, o, none⟩) ∧ (∀ b o, b < W.heap.size → w1.frozen? ⟨b, o, none⟩ = W.frozen? ⟨b, o, none⟩) :=
  ⟨fun b o h => hb.cell (p := ⟨b, o, none⟩) h, fun b o h => hb.frozen (p := ⟨b, o, none⟩) h⟩
theorem keepc {W w1 : World} {a : Addr} {v : Value} (hb : Below W.heap.size W w1) (h : W.cell? a = some v) : w1.cell? a = some v := (hb.cell (World.block_lt_of_cell? W a h)).trans h
theorem keepf {W w1 : World} {a : Addr} {v : Value} (hb : Below W.heap.size W w1) (h : W.cell? a = some v) (hf : W.frozen? a = false) : w1.frozen? a = false := (hb.frozen (World.block_lt_of_cell? W a h)).trans hf
theorem st_set {a b : World} (h : Below a.heap.size a b) {p : Addr} (hp : a.heap.size ≤ p.block) (u : Value) : Below a.heap.size a (b.setCell p u) := h.setCell hp u
theorem name_world (W : World) : ∃ W0 : World, W0 = W := ⟨W, rfl⟩
theorem ret_bool {a b : Bool} (h : a = b) : Ending.returned (.bool a) = .returned (.bool b) := by rw [h]
theorem ret_int {k : IntKind} {a b : Int} (h : a = b) : Ending.returned (.int k a) = .returned (.int k b) := by rw [h]

def I64 (n : Int) : Prop := -9223372036854775808 ≤ n ∧ n ≤ 9223372036854775807
/-- the slice (ao, len, cap) reads as the list l of pieces -/
structure Rs (w : World) (ao : Option Addr) (len cap : Nat) (l : List (Int × Int)) : Prop where
  hlen : len = l.length
  hcap : len ≤ cap
  hmax : cap ≤ maxLen
  int : ∀ i (h : i < l.length), I64 l[i].1 ∧ I64 l[i].2
  cell : 0 < len → ∃ b off, ao = some ⟨b, off, none⟩ ∧ b < w.heap.size ∧ ∀ i (h : i < l.length), w.cell? ⟨b, off + i * 2, none⟩ = some (.int .i64 l[i].1) ∧ w.cell? ⟨b, off + i * 2 + 1, none⟩ = some (.int .i64 l[i].2)

set_option maxHeartbeats 1000000 in
theorem valid_impl (ao : Option Addr) (len cap : Nat) (l : List (Int × Int)) (w : World) (h : Rs w ao len cap l) :
    Calls Try.prog 19 #[.slice ao len cap] w fun e w' => e = .returned (.bool (vB l)) ∧ Below w.heap.size w w' := by
  have hl := h.hlen
  have hc := h.hcap
  have hm := h.hmax
  unfold maxLen at hm
  have H := hide h
  clear h
  go_enter Try.func19, Try.ntmps19
  go_wp2
  go_loopw [3, 8] (fun v i wr => ∃ (k : Nat) (t : Int), v = .int .i64 t ∧ i = .int .i64 k ∧ k ≤ l.length ∧ vF 0 l = vF t (l.drop k) ∧ Below w.heap.size w wr) (fun _ i _ => l.length - (intOf i).toNat)
  case atStart => exact ⟨0, 0, rfl, rfl, Nat.zero_le _, rfl, st_refl w⟩
  case round =>
    obtain ⟨k, t, rfl, rfl, hk, hv, hb⟩ := hrel
    have B1 := hide hb
    by_cases hkl : k < l.length
    · obtain ⟨b, off, rfl, hbs, hc⟩ := H.out.cell (by omega)
      obtain ⟨c0, c1⟩ := hc k hkl
      have d0 := keepc hb c0
      have d1 := keepc hb c1
      clear hc c0 c1 hb
      rw [List.drop_eq_getElem_cons hkl] at hv
      have HI := H.out.int k hkl
      generalize hx : l[k] = p at *
      obtain ⟨x, y⟩ := p
      dsimp only at d0 d1 HI
      have hs : w.heap.size ≤ wr.heap.size := B1.out.size
      by_cases h1 : x < t
      · have V : Hid (vB l = false) := by
          show vB l = false
          unfold vB; rw [hv]; unfold vF; rw [decide_eq_false (by omega), Bool.false_and, Bool.false_and]
        clear hv
        go_wp2
        go_ret
        exact ⟨ret_bool V.out.symm, st_alloc B1.out _⟩
      · by_cases h2 : y ≤ x
        · have V : Hid (vB l = false) := by
            show vB l = false
            unfold vB; rw [hv]; unfold vF; rw [decide_eq_false (by omega), Bool.false_and, Bool.false_and]
          clear hv
          go_wp2
          go_ret
          exact ⟨ret_bool V.out.symm, st_alloc B1.out _⟩
        · by_cases h3 : 30000 < y
          · have V : Hid (vB l = false) := by
              show vB l = false
              unfold vB; rw [hv]; unfold vF; rw [decide_eq_false (by omega), Bool.false_and, Bool.false_and]
            clear hv
            go_wp2
            go_ret
            exact ⟨ret_bool V.out.symm, st_alloc B1.out _⟩
          · have V : Hid (vF 0 l = vF y (l.drop (k + 1))) := by
              show vF 0 l = _
              rw [hv]; conv => lhs; unfold vF
              rw [decide_eq_true (by omega), Bool.true_and]
            clear hv
            go_wp2
            go_roundw
            case rel =>
              first | exact ⟨k + 1, y, rfl, by simp, by omega, V.out, st_alloc B1.out _⟩ | ((repeat apply Exists.intro); exact ⟨⟨k + 1, y, rfl, by simp, by omega, V.out, st_alloc B1.out _⟩, rfl⟩)
            case measure => simp [intOf]; omega
    · have hd : l.drop k = [] := List.drop_eq_nil_of_le (by omega)
      have V : Hid (vB l = decide (l.length ≤ 20)) := by
        show vB l = _
        unfold vB; rw [hv, hd]; unfold vF; rw [Bool.true_and]
      clear hv hd
      go_wp2
      go_ret
      exact ⟨ret_bool (by rw [V.out]; simp; omega), B1.out⟩

theorem l6In_as {n a b : Int} {o : Bool} (h : decide (a ≤ n ∧ n ≤ b) = o) (w : World) :
    Calls Try.prog 48 #[.int .i64 n, .int .i64 a, .int .i64 b] w fun e w' => e = .returned (.bool o) ∧ Below w.heap.size w w' := by
  subst h
  go_enter Try.func48, Try.ntmps48
  by_cases h1 : a ≤ n
  · by_cases h2 : n ≤ b
    · go_wp2
      go_ret
      exact ⟨ret_bool (by rw [decide_eq_true (by omega)]), st_refl _⟩
    · go_wp2
      go_ret
      exact ⟨ret_bool (by rw [decide_eq_false (by omega)]), st_refl _⟩
  · have e : decide (a ≤ n ∧ n ≤ b) = false := decide_eq_false (by omega)
    rw [e]
    go_wp2
    go_ret
    exact ⟨rfl, st_refl _⟩
def pB (x y : Int) : Bool := decide (0 ≤ x ∧ x < y ∧ y ≤ 30000)
theorem l3_as {x y : Int} {o : Bool} (h : pB x y = o) (w : World) :
    Calls Try.prog 39 #[.agg #[.int .i64 x, .int .i64 y]] w fun e w' => e = .returned (.bool o) ∧ Below w.heap.size w w' := by
  subst h
  go_enter Try.func39, Try.ntmps39
  by_cases h1 : 0 ≤ x ∧ x ≤ 30000
  · by_cases h2 : 0 ≤ y ∧ y ≤ 30000
    · by_cases h3 : x < y
      · have e : Hid (pB x y = true) := by show _ = _; unfold pB; exact decide_eq_true (by omega)
        go_wp2_with fail
        refine (l6In_as (decide_eq_true h1) _).mono ?_
        rintro e w1 ⟨rfl, hb1⟩
        have B1 := hide (st_trans (st_alloc (st_refl _) _) hb1)
        have c0 := keepc hb1 (v := .int .i64 x) (a := ⟨w.heap.size, 0, none⟩) (by go_simp)
        have c1 := keepc hb1 (v := .int .i64 y) (a := ⟨w.heap.size, 1, none⟩) (by go_simp)
        clear hb1
        go_wp2_with fail
        refine (l6In_as (decide_eq_true h2) _).mono ?_
        rintro e w2 ⟨rfl, hb2⟩
        have B2 := hide (st_trans B1.out hb2)
        have d0 := keepc hb2 c0
        have d1 := keepc hb2 c1
        clear hb2 c0 c1
        go_wp2
        go_ret
        exact ⟨ret_bool e.out.symm, B2.out⟩
      · have e : Hid (pB x y = false) := by show _ = _; unfold pB; exact decide_eq_false (by omega)
        go_wp2_with fail
        refine (l6In_as (decide_eq_true h1) _).mono ?_
        rintro e w1 ⟨rfl, hb1⟩
        have B1 := hide (st_trans (st_alloc (st_refl _) _) hb1)
        have c0 := keepc hb1 (v := .int .i64 x) (a := ⟨w.heap.size, 0, none⟩) (by go_simp)
        have c1 := keepc hb1 (v := .int .i64 y) (a := ⟨w.heap.size, 1, none⟩) (by go_simp)
        clear hb1
        go_wp2_with fail
        refine (l6In_as (decide_eq_true h2) _).mono ?_
        rintro e w2 ⟨rfl, hb2⟩
        have B2 := hide (st_trans B1.out hb2)
        have d0 := keepc hb2 c0
        have d1 := keepc hb2 c1
        clear hb2 c0 c1
        go_wp2
        go_ret
        exact ⟨ret_bool (by rw [e.out]; exact decide_eq_false (by omega)), B2.out⟩
    · have e : Hid (pB x y = false) := by show _ = _; unfold pB; exact decide_eq_false (by omega)
      go_wp2_with fail
      refine (l6In_as (decide_eq_true h1) _).mono ?_
      rintro e w1 ⟨rfl, hb1⟩
      have B1 := hide (st_trans (st_alloc (st_refl _) _) hb1)
      have c0 := keepc hb1 (v := .int .i64 x) (a := ⟨w.heap.size, 0, none⟩) (by go_simp)
      have c1 := keepc hb1 (v := .int .i64 y) (a := ⟨w.heap.size, 1, none⟩) (by go_simp)
      clear hb1
      go_wp2_with fail
      refine (l6In_as (decide_eq_false h2) _).mono ?_
      rintro e w2 ⟨rfl, hb2⟩
      have B2 := hide (st_trans B1.out hb2)
      have d0 := keepc hb2 c0
      have d1 := keepc hb2 c1
      clear hb2 c0 c1
      go_wp2
      go_ret
      exact ⟨ret_bool e.out.symm, B2.out⟩
  · have e : Hid (pB x y = false) := by show _ = _; unfold pB; exact decide_eq_false (by omega)
    go_wp2_with fail
    refine (l6In_as (decide_eq_false h1) _).mono ?_
    rintro e w1 ⟨rfl, hb1⟩
    have B1 := hide (st_trans (st_alloc (st_refl _) _) hb1)
    have c0 := keepc hb1 (v := .int .i64 x) (a := ⟨w.heap.size, 0, none⟩) (by go_simp)
    have c1 := keepc hb1 (v := .int .i64 y) (a := ⟨w.heap.size, 1, none⟩) (by go_simp)
    clear hb1
    go_wp2
    go_ret
    exact ⟨ret_bool e.out.symm, B1.out⟩

/-- where a core's piece k begins at the earliest -/
def bef (l : List (Int × Int)) (k : Nat) : Int := if k = 0 then 0 else (l.getD (k - 1) (0, 0)).2
end Go.Proofs.Ytbfcfhngfenpjaa
