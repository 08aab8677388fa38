/-
  Words for slices of pieces: what the call itself has made; how it is kept, read, written.
  Conditions: none.
-/
import Derived.Test.YtbfcfhngfenpjaaCa
import Derived.Test.YtbfcfhngfenpjaaDraw
import Derived.OwnWalk
import Derived.Laws.OwnMore
namespace Go.Proofs.Ytbfcfhngfenpjaa
open Go.RowKit Co

/-- the cells of a list of pieces -/
def fl : List (Int × Int) → List Value
  | [] => []
  | p :: r => .int .i64 p.1 :: .int .i64 p.2 :: fl r
theorem fl_append (a b : List (Int × Int)) : fl (a ++ b) = fl a ++ fl b := by
  induction a with
  | nil => rfl
  | cons p r ih => show _ :: _ :: fl (r ++ b) = _; rw [ih]; rfl
theorem fl_length (l : List (Int × Int)) : (fl l).length = l.length * 2 := by
  induction l with
  | nil => rfl
  | cons p r ih => show (fl r).length + 1 + 1 = _; rw [ih, List.length_cons]; omega
theorem fl_get : ∀ (l : List (Int × Int)) (i : Nat) (h : i < l.length), (fl l)[i * 2]? = some (.int .i64 l[i].1) ∧ (fl l)[i * 2 + 1]? = some (.int .i64 l[i].2) := by
  intro l
  induction l with
  | nil => intro i h; exact absurd h (Nat.not_lt_zero _)
  | cons p r ih =>
    intro i h
    cases i with
    | zero => exact ⟨rfl, rfl⟩
    | succ i =>
      have := ih i (by simpa using h)
      rw [show (i + 1) * 2 = i * 2 + 1 + 1 from by omega]
      exact this
theorem fl_one (l : List (Int × Int)) : ∀ u ∈ fl l, u.oneCell' = true := by
  induction l with
  | nil => intro u hu; cases hu
  | cons p r ih =>
    intro u hu
    rcases List.mem_cons.1 hu with rfl | hu
    · rfl
    · rcases List.mem_cons.1 hu with rfl | hu
      · rfl
      · exact ih u hu
theorem fl_set0 : ∀ (l : List (Int × Int)) (i : Nat) (h : i < l.length) (x : Int), (fl l).set (i * 2) (.int .i64 x) = fl (l.set i (x, l[i].2)) := by
  intro l
  induction l with
  | nil => intro i h; exact absurd h (Nat.not_lt_zero _)
  | cons p r ih =>
    intro i h x
    cases i with
    | zero => rfl
    | succ i =>
      have := ih i (by simpa using h) x
      rw [show (i + 1) * 2 = i * 2 + 1 + 1 from by omega]
      show _ :: _ :: (fl r).set (i * 2) _ = _
      rw [this]; rfl
theorem fl_set1 : ∀ (l : List (Int × Int)) (i : Nat) (h : i < l.length) (y : Int), (fl l).set (i * 2 + 1) (.int .i64 y) = fl (l.set i (l[i].1, y)) := by
  intro l
  induction l with
  | nil => intro i h; exact absurd h (Nat.not_lt_zero _)
  | cons p r ih =>
    intro i h y
    cases i with
    | zero => rfl
    | succ i =>
      have := ih i (by simpa using h) y
      rw [show (i + 1) * 2 + 1 = i * 2 + 1 + 1 + 1 from by omega]
      show _ :: _ :: (fl r).set (i * 2 + 1) _ = _
      rw [this]; rfl
theorem fl_zero (n : Nat) : fl (List.replicate n (0, 0)) = (madeCells #[.int .i64 0, .int .i64 0] (n * 2)).toList := by
  apply List.ext_getElem?
  intro j
  by_cases hj : j < n * 2
  · have h2 : j / 2 < (List.replicate n ((0, 0) : Int × Int)).length := by simp; omega
    obtain ⟨g0, g1⟩ := fl_get _ _ h2
    simp only [List.getElem_replicate] at g0 g1
    rcases Nat.mod_two_eq_zero_or_one j with e | e
    · rw [show j / 2 * 2 = j from by omega] at g0
      rw [g0]
      simp [madeCells, hj, e]
    · rw [show j / 2 * 2 + 1 = j from by omega] at g1
      rw [g1]
      simp [madeCells, hj, e]
  · rw [List.getElem?_eq_none (by rw [fl_length]; simp; omega)]
    simp [madeCells, hj]

theorem info_piece : (Try.prog.info? 32).map (fun i => (i.zero, i.size, i.bytes)) = some (some (.agg #[.int .i64 0, .int .i64 0]), 2, 16) := by kernel_rfl

/-- the slice value v, made by the call (from block base on), holds the pieces l -/
def Ow (w : World) (base : Nat) (v : Value) (l : List (Int × Int)) : Prop := w.ownsRow base 32 2 v l.length (fl l)
/-- every number is an int64 -/
def In64 (l : List (Int × Int)) : Prop := ∀ i (h : i < l.length), I64 l[i].1 ∧ I64 l[i].2
theorem In64.of_mem {l : List (Int × Int)} (h : ∀ p ∈ l, I64 p.1 ∧ I64 p.2) : In64 l := fun _ hi => h _ (List.getElem_mem hi)
theorem In64.mem {l : List (Int × Int)} (h : In64 l) : ∀ p ∈ l, I64 p.1 ∧ I64 p.2 := fun p hp => by
  obtain ⟨i, hi, rfl⟩ := List.getElem_of_mem hp
  exact h i hi
theorem Ow.nil (w : World) (base : Nat) : Ow w base (.slice none 0 0) [] := World.ownsRow_nil w base _ 2
theorem Ow.lt {w : World} {base : Nat} {v : Value} {l : List (Int × Int)} (h : Ow w base v l) : ∀ k, v.ownBlock = some k → base ≤ k ∧ k < w.heap.size := World.ownsRow.lt h
theorem Ow.below {w w' : World} {base : Nat} {v : Value} {l : List (Int × Int)} (h : Ow w base v l) (hb : Below w.heap.size w w') : Ow w' base v l :=
  World.ownsRow.kept h (row := none) ⟨hb.os, hb.tape, hb.output, hb.size, fun k hk _ => hb.block k hk⟩ (by cases hv : v.ownBlock <;> simp)
theorem Ow.alloc {w : World} {base : Nat} {v : Value} {l : List (Int × Int)} (h : Ow w base v l) (o : Obj) : Ow (w.alloc o) base v l := World.ownsRow.alloc h o
theorem Ow.drew {w : World} {base : Nat} {v : Value} {l : List (Int × Int)} (h : Ow w base v l) : Ow w.drew base v l := h
theorem Ow.dN {w : World} {base : Nat} {v : Value} {l : List (Int × Int)} (h : Ow w base v l) (n : Nat) : Ow (w.drewN n) base v l := h
theorem Ow.far {w w' : World} {base : Nat} {v : Value} {l : List (Int × Int)} {row : Option Nat} (h : Ow w base v l) (hg : w.grownBy w' row) (hne : ∀ k, v.ownBlock = some k → row ≠ some k) : Ow w' base v l :=
  World.ownsRow.kept h hg (by
    cases hv : v.ownBlock with
    | none => exact .inl rfl
    | some k => exact .inr (fun e => hne k hv e.symm))
/-- the shape of what is owned -/
theorem Ow.form {w : World} {base : Nat} {v : Value} {l : List (Int × Int)} (h : Ow w base v l) :
    (v = .slice none 0 0 ∧ l = []) ∨ ∃ g cap, v = .slice (some ⟨g, 0, none⟩) l.length cap ∧ base ≤ g ∧ g < w.heap.size ∧ l.length ≤ cap ∧ cap ≤ maxLen := by
  rcases h.2 with ⟨rfl, h0⟩ | ⟨g, cap, cur, rfl, hb, hg, hnc, hcm, _, _⟩
  · exact .inl ⟨rfl, List.eq_nil_of_length_eq_zero h0⟩
  · exact .inr ⟨g, cap, rfl, hb, (Array.getElem?_eq_some_iff.1 hg).1, hnc, hcm⟩
theorem Ow.cells {w : World} {base g cap : Nat} {l : List (Int × Int)} (h : Ow w base (.slice (some ⟨g, 0, none⟩) l.length cap) l) :
    ∀ i (hi : i < l.length), w.cell? ⟨g, i * 2, none⟩ = some (.int .i64 l[i].1) ∧ w.cell? ⟨g, i * 2 + 1, none⟩ = some (.int .i64 l[i].2) ∧ w.frozen? ⟨g, i * 2, none⟩ = false ∧ w.frozen? ⟨g, i * 2 + 1, none⟩ = false := by
  intro i hi
  obtain ⟨g0, g1⟩ := fl_get l i hi
  exact ⟨(World.ownsRow.cellAt h (i * 2) (by omega)).trans g0, (World.ownsRow.cellAt h (i * 2 + 1) (by omega)).trans g1, World.ownsRow.frozenAt h _, World.ownsRow.frozenAt h _⟩
theorem Ow.rs {w : World} {base : Nat} {v : Value} {l : List (Int × Int)} (h : Ow w base v l) (hi : In64 l) : ∃ ao cap, v = .slice ao l.length cap ∧ Rs w ao l.length cap l := by
  rcases h.form with ⟨rfl, rfl⟩ | ⟨g, cap, rfl, hb, hg, hnc, hcm⟩
  · exact ⟨none, 0, rfl, ⟨rfl, Nat.le_refl _, Nat.zero_le _, hi, fun h => absurd h (Nat.lt_irrefl _)⟩⟩
  · refine ⟨_, cap, rfl, ⟨rfl, hnc, hcm, hi, fun _ => ⟨g, 0, rfl, hg, fun i hi => ?_⟩⟩⟩
    obtain ⟨c0, c1, _, _⟩ := Ow.cells h i hi
    rw [Nat.zero_add]
    exact ⟨c0, c1⟩
theorem Ow.set0 {w : World} {base g cap : Nat} {l : List (Int × Int)} (h : Ow w base (.slice (some ⟨g, 0, none⟩) l.length cap) l) (i : Nat) (hi : i < l.length) (x : Int) :
    Ow (w.setCell ⟨g, i * 2, none⟩ (.int .i64 x)) base (.slice (some ⟨g, 0, none⟩) l.length cap) (l.set i (x, l[i].2)) := by
  have := (World.ownsRow.stored h (i * 2) (.int .i64 x)).1
  rw [fl_set0 l i hi] at this
  unfold Ow
  rw [List.length_set]
  exact this
theorem Ow.set1 {w : World} {base g cap : Nat} {l : List (Int × Int)} (h : Ow w base (.slice (some ⟨g, 0, none⟩) l.length cap) l) (i : Nat) (hi : i < l.length) (y : Int) :
    Ow (w.setCell ⟨g, i * 2 + 1, none⟩ (.int .i64 y)) base (.slice (some ⟨g, 0, none⟩) l.length cap) (l.set i (l[i].1, y)) := by
  have := (World.ownsRow.stored h (i * 2 + 1) (.int .i64 y)).1
  rw [fl_set1 l i hi] at this
  unfold Ow
  rw [List.length_set]
  exact this
theorem Rs.keep {w w' : World} {ao : Option Addr} {len cap : Nat} {l : List (Int × Int)} (h : Rs w ao len cap l) (hb : Below w.heap.size w w') : Rs w' ao len cap l :=
  ⟨h.hlen, h.hcap, h.hmax, h.int, fun h0 => by
    obtain ⟨b, off, e, hlt, hc⟩ := h.cell h0
    exact ⟨b, off, e, Nat.lt_of_lt_of_le hlt hb.size, fun i hi => ⟨keepc hb (hc i hi).1, keepc hb (hc i hi).2⟩⟩⟩
theorem below_grown {B : Nat} {a b c : World} {row : Option Nat} (h : Below B a b) (hg : b.grownBy c row) (hB : B ≤ b.heap.size) (hr : ∀ k, row = some k → B ≤ k) : Below B a c := h.grown hg hB hr
end Go.Proofs.Ytbfcfhngfenpjaa
