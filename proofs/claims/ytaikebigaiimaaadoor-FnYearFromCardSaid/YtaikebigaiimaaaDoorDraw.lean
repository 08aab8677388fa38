/-
  The drawing of a law's input from bytes: the reader (l6Open, pick): it answers a number in its range, and turns its own block alone.
  Conditions: the bytes can be read; the reader has been asked fewer than a million times.
-/
import Derived.Test.YtaikebigaiimaaaDoorProg
import Derived.WalkKit
import Derived.WalkSpells
import Derived.WalkLawsBesides
import Derived.Lib.Hide
import Derived.Laws.BitsAllLaws
import Derived.BigQuiet
import Derived.Deep.QuietTactic
import Derived.Handy
namespace Go.Proofs.YtaikebigaiimaaaDoor
open Go.RowKit

theorem i64_xor_nat (a b : Nat) (ha : a < 4611686018427387904) (hb : b < 4611686018427387904) : bits .xor .i64 (a : Int) (b : Int) = ((a ^^^ b : Nat) : Int) := by
  have hx : a ^^^ b < 2 ^ 62 := Nat.xor_lt_two_pow (by omega) (by omega)
  have h1 : (BitVec.ofInt 64 (a : Int)).toNat = a := by rw [BitVec.ofInt_natCast, BitVec.toNat_ofNat]; omega
  have h2 : (BitVec.ofInt 64 (b : Int)).toNat = b := by rw [BitVec.ofInt_natCast, BitVec.toNat_ofNat]; omega
  show IntKind.i64.wrap ((BitVec.ofInt 64 (a : Int) ^^^ BitVec.ofInt 64 (b : Int)).toNat : Int) = _
  rw [BitVec.toNat_xor, h1, h2, IntKind.wrap_i64]
  omega
theorem i64_xor (a b : Int) (h1 : 0 ≤ a) (h2 : a < 4611686018427387904) (h3 : 0 ≤ b) (h4 : b < 4611686018427387904) : 0 ≤ bits .xor .i64 a b ∧ bits .xor .i64 a b < 4611686018427387904 := by
  obtain ⟨A, rfl⟩ := Int.eq_ofNat_of_zero_le h1
  obtain ⟨B, rfl⟩ := Int.eq_ofNat_of_zero_le h3
  rw [i64_xor_nat A B (by omega) (by omega)]
  have hx : A ^^^ B < 2 ^ 62 := Nat.xor_lt_two_pow (by omega) (by omega)
  omega

theorem pick_range {m X : Int} (hm : 1 ≤ m) (h1 : 0 ≤ X) (h2 : X < 4611686018427387904) : 0 ≤ (bits .xor .i64 X (X / 64)).tmod m ∧ (bits .xor .i64 X (X / 64)).tmod m < m := by
  obtain ⟨h3, _⟩ := i64_xor X (X / 64) h1 h2 (by omega) (by omega)
  rw [Int.tmod_eq_emod_of_nonneg h3]
  exact ⟨Int.emod_nonneg _ (by omega), Int.emod_lt_of_pos _ (by omega)⟩
/-- the bytes of a code: cells in a block that is not the reader's -/
def Bytes (w : World) (A : Option Addr) (n g : Nat) : Prop :=
  0 < n → ∃ b off, A = some ⟨b, off, none⟩ ∧ b < g ∧ b < w.heap.size ∧ ∀ i, i < n → ∃ u : Int, w.cell? ⟨b, off + i, none⟩ = some (.int .u8 u) ∧ 0 ≤ u ∧ u ≤ 255
/-- a reader lies in block g, and has been asked at most N times -/
def Rd (w : World) (g N : Nat) : Prop :=
  ∃ (A : Option Addr) (n c p : Nat), w.heap[g]? = some (.cells #[.slice A n c, .int .i64 p] 58 (0, 0)) ∧ p ≤ N ∧ n ≤ 2000 ∧ Bytes w A n g
/-- a number from 0 to m-1 was picked; the reader alone has turned -/
def Picked (m : Int) (w : World) (g N : Nat) (e : Ending) (w' : World) : Prop :=
  ∃ x : Int, e = .returned (.int .i64 x) ∧ 0 ≤ x ∧ x < m ∧ Rd w' g (N + 1) ∧ w.grownBy w' (some g)

theorem Bytes.keep {w w' : World} {A : Option Addr} {n g : Nat} (h : Bytes w A n g) (hg : w.grownBy w' (some g)) : Bytes w' A n g := by
  intro hn
  obtain ⟨b, off, rfl, hb, hlt, hc⟩ := h hn
  refine ⟨b, off, rfl, hb, Nat.lt_of_lt_of_le hlt hg.size, fun i hi => ?_⟩
  obtain ⟨u, hu, h1, h2⟩ := hc i hi
  exact ⟨u, hg.cell hu (fun e => Nat.ne_of_lt hb (Option.some.inj e)), h1, h2⟩
theorem grown_set {w : World} {g : Nat} (o : Nat) (u : Value) : w.grownBy (w.setCell ⟨g, o, none⟩ u) (some g) :=
  ⟨rfl, rfl, rfl, by simp [World.setCell], fun k _ hne => Below.heap_setCell w ⟨g, o, none⟩ u k (fun e => hne (by rw [e]))⟩
theorem grown_drewN {a w : World} {row : Option Nat} (h : a.grownBy w row) (n : Nat) : a.grownBy (w.drewN n) row := ⟨h.os, h.tape, h.output, h.size, h.block⟩
theorem grown_drew {a w : World} {row : Option Nat} (h : a.grownBy w row) : a.grownBy w.drew row := ⟨h.os, h.tape, h.output, h.size, h.block⟩
theorem grown_trans {a b c : World} {row : Option Nat} (h : a.grownBy b row) (k : b.grownBy c row) : a.grownBy c row :=
  ⟨k.os.trans h.os, k.tape.trans h.tape, k.output.trans h.output, Nat.le_trans h.size k.size, fun i hi hne => (k.block i (Nat.lt_of_lt_of_le hi h.size) hne).trans (h.block i hi hne)⟩
theorem grown_alloc {a w : World} {row : Option Nat} (h : a.grownBy w row) (o : Obj) : a.grownBy (w.alloc o) row :=
  ⟨h.os, h.tape, h.output, Nat.le_trans h.size (by simp), fun i hi hne => (Below.heap_alloc w o i (Nat.lt_of_lt_of_le hi h.size)).trans (h.block i hi hne)⟩
theorem Rd.mono {w : World} {g N M : Nat} (h : Rd w g N) (hm : N ≤ M) : Rd w g M := by
  obtain ⟨A, n, c, p, h1, h2, h3, h4⟩ := h
  exact ⟨A, n, c, p, h1, by omega, h3, h4⟩
theorem Rd.lt {w : World} {g N : Nat} (h : Rd w g N) : g < w.heap.size := by
  obtain ⟨A, n, c, p, h1, _⟩ := h
  rcases Nat.lt_or_ge g w.heap.size with hlt | hge
  · exact hlt
  · rw [Array.getElem?_eq_none hge] at h1; cases h1
/-- a reader is kept by whatever turns neither it nor its bytes -/
theorem Rd.kept {w w' : World} {g N : Nat} (h : Rd w g N) {row : Option Nat} (hg : w.grownBy w' row) (hr : ∀ k, row = some k → w.heap.size ≤ k) : Rd w' g N := by
  have hlt := h.lt
  obtain ⟨A, n, c, p, h1, h2, h3, h4⟩ := h
  refine ⟨A, n, c, p, (hg.block g hlt (fun e => by have := hr g e.symm; omega)).trans h1, h2, h3, fun hn => ?_⟩
  obtain ⟨b, off, rfl, hb, hbl, hc⟩ := h4 hn
  refine ⟨b, off, rfl, hb, Nat.lt_of_lt_of_le hbl hg.size, fun i hi => ?_⟩
  obtain ⟨u, hu, k1, k2⟩ := hc i hi
  exact ⟨u, hg.cell hu (fun e => by have := hr b e.symm; omega), k1, k2⟩

section
variable {w : World} {g : Nat}
theorem rd_set {A : Option Addr} {n c p N : Nat} (h : w.heap[g]? = some (.cells #[.slice A n c, .int .i64 p] 58 (0, 0))) (hp : p ≤ N) (hn : n ≤ 2000) (hb : Bytes w A n g) :
    Rd (w.setCell ⟨g, 1, none⟩ (.int .i64 ((p : Int) + 1))) g (N + 1) := by
  refine ⟨A, n, c, p + 1, ?_, by omega, hn, hb.keep (grown_set 1 _)⟩
  simp [World.setCell, Array.getElem?_modify, h]
theorem rd_drewN {N : Nat} (h : Rd w g N) (k : Nat) : Rd (w.drewN k) g N := h
theorem rd_drew {N : Nat} (h : Rd w g N) : Rd w.drew g N := h
end

set_option maxHeartbeats 1000000 in
theorem pick_any (g N : Nat) (m : Int) (w : World) (h : Rd w g N) (hN : N ≤ 1000000) (hm : 1 ≤ m) (hm2 : m ≤ 1000000000) :
    Calls Tryd.prog 35 #[.pointer (some ⟨g, 0, none⟩), .int .i64 m] w (Picked m w g N) := by
  obtain ⟨A, n, c, p, h1, h2, h3, h4⟩ := h
  have c0 : w.cell? ⟨g, 0, none⟩ = some (.slice A n c) := by simp [World.cell?, h1]
  have c1 : w.cell? ⟨g, 1, none⟩ = some (.int .i64 p) := by simp [World.cell?, h1]
  have f1 : w.frozen? ⟨g, 1, none⟩ = false := by simp [World.frozen?, h1]
  have R := Lib.hid (rd_set h1 h2 h3 h4)
  clear h1
  have hn0 : ¬ m < 1 := by omega
  have hm0 : (m == 0) = false := by simp; omega
  by_cases hz : n = 0
  · subst hz
    go_enter Tryd.func35, Tryd.ntmps35
    go_wp2
    go_ret
    exact ⟨0, rfl, by omega, by omega, R.out, grown_set 1 _⟩
  · obtain ⟨b, off, rfl, hbg0, hbl, hby⟩ := h4 (by omega)
    have hbg : b ≠ g := Nat.ne_of_lt hbg0
    have hgb : ¬ g = b := fun e => hbg e.symm
    have hn1 : ((n : Int) == 0) = false := by simp; omega
    by_cases hk : p < n
    · obtain ⟨u, hu, hu1, hu2⟩ := hby p hk
      have hmod1 : 0 ≤ u % m := Int.emod_nonneg u (by omega)
      have hmod2 : u % m < m := Int.emod_lt_of_pos u (by omega)
      have hX := Lib.hid hby
      clear hby h4
      go_enter Tryd.func35, Tryd.ntmps35
      go_wp2
      go_ret
      exact ⟨_, rfl, hmod1, hmod2, R.out, grown_set 1 _⟩
    · obtain ⟨u, hu, hu1, hu2⟩ := hby (p % n) (Nat.mod_lt _ (by omega))
      obtain ⟨v, hv, hv1, hv2⟩ := hby ((p * 7 + 3) % n) (Nat.mod_lt _ (by omega))
      clear hby h4
      have q1 : 0 ≤ (p : Int) % (n : Int) := Int.emod_nonneg _ (by omega)
      have q2 : (p : Int) % (n : Int) < (n : Int) := Int.emod_lt_of_pos _ (by omega)
      have q3 : 0 ≤ ((p : Int) * 7 + 3) % (n : Int) := Int.emod_nonneg _ (by omega)
      have q4 : ((p : Int) * 7 + 3) % (n : Int) < (n : Int) := Int.emod_lt_of_pos _ (by omega)
      have q5 : 0 ≤ (p : Int) / (n : Int) := Int.ediv_nonneg (by omega) (by omega)
      have q6 : (p : Int) / (n : Int) ≤ (p : Int) := Int.ediv_le_self _ (by omega)
      have q7 : ((p : Int) % (n : Int)).toNat = p % n := by omega
      have q8 : (((p : Int) * 7 + 3) % (n : Int)).toNat = (p * 7 + 3) % n := by
        have e : ((p : Int) * 7 + 3) % (n : Int) = (((p * 7 + 3) % n : Nat) : Int) := by rw [Int.natCast_emod]; rfl
        rw [e]; rfl
      have X := Lib.hid (pick_range (m := m) (X := u * 131 + v * 1117 + (p : Int) * 29 + (p : Int) / (n : Int) * 53) hm (by omega) (by omega))
      go_enter Tryd.func35, Tryd.ntmps35
      go_wp2
      go_quiet (fail)
      go_wp2
      go_ret
      exact ⟨_, rfl, X.out.1, X.out.2, rd_drewN R.out _, grown_drewN (grown_set 1 _) _⟩

/-- bytes that came in: nil, or a row of cells -/
def Code (w : World) (a : Option Addr) (len cap : Nat) : Prop :=
  len ≤ cap ∧ cap ≤ maxLen ∧ (0 < len → ∃ b off, a = some ⟨b, off, none⟩ ∧ b < w.heap.size ∧ ∀ i, i < len → ∃ u : Int, w.cell? ⟨b, off + i, none⟩ = some (.int .u8 u) ∧ 0 ≤ u ∧ u ≤ 255)
/-- a reader was made -/
def Opened (w : World) (e : Ending) (w' : World) : Prop :=
  ∃ g : Nat, e = .returned (.pointer (some ⟨g, 0, none⟩)) ∧ w.heap.size ≤ g ∧ Rd w' g 0 ∧ Below w.heap.size w w'

theorem rd_new {w : World} {A : Option Addr} {n c : Nat} (hn : n ≤ 2000) (h : 0 < n → ∃ b off, A = some ⟨b, off, none⟩ ∧ b < w.heap.size ∧ ∀ i, i < n → ∃ u : Int, w.cell? ⟨b, off + i, none⟩ = some (.int .u8 u) ∧ 0 ≤ u ∧ u ≤ 255) :
    Rd (w.alloc (.cells #[.slice A n c, .int .i64 0] 58)) w.heap.size 0 := by
  refine ⟨A, n, c, 0, heap_alloc_new w _, Nat.le_refl _, hn, fun h0 => ?_⟩
  obtain ⟨b, off, rfl, hb, hc⟩ := h h0
  refine ⟨b, off, rfl, hb, by simp; omega, fun i hi => ?_⟩
  obtain ⟨u, hu, k1, k2⟩ := hc i hi
  exact ⟨u, (World.cell?_alloc_lt w _ _ hb).trans hu, k1, k2⟩

set_option maxHeartbeats 1000000 in
theorem open_any (a : Option Addr) (len cap : Nat) (w : World) (h : Code w a len cap) :
    Calls Tryd.prog 30 #[.slice a len cap] w (Opened w) := by
  obtain ⟨h1, h2, h3⟩ := h
  unfold maxLen at h2
  by_cases hl : len ≤ 2000
  · have R := Lib.hid (rd_new (c := cap) hl h3)
    clear h3
    go_enter Tryd.func30, Tryd.ntmps30
    go_wp2
    go_ret
    exact ⟨w.heap.size, rfl, Nat.le_refl _, R.out, (Below.refl _ _).alloc (Nat.le_refl _) _⟩
  · obtain ⟨b, off, rfl, hb, hc⟩ := h3 (by omega)
    have R := Lib.hid (rd_new (w := w) (A := some ⟨b, off, none⟩) (n := 2000) (c := cap) (Nat.le_refl _) (fun _ => ⟨b, off, rfl, hb, fun i hi => hc i (by omega)⟩))
    clear hc h3
    go_enter Tryd.func30, Tryd.ntmps30
    go_wp2
    go_ret
    exact ⟨w.heap.size, rfl, Nat.le_refl _, R.out, (Below.refl _ _).alloc (Nat.le_refl _) _⟩

/-- a store into a block made after the reader -/
theorem Rd.setNew {w : World} {g N : Nat} (h : Rd w g N) {p : Addr} (hp : g < p.block) (u : Value) : Rd (w.setCell p u) g N := by
  obtain ⟨A, n, c, q, h1, h2, h3, h4⟩ := h
  refine ⟨A, n, c, q, (Below.heap_setCell w p u g (by omega)).trans h1, h2, h3, fun hn => ?_⟩
  obtain ⟨b, off, rfl, hb, hbl, hc⟩ := h4 hn
  refine ⟨b, off, rfl, hb, by simpa [World.setCell] using hbl, fun i hi => ?_⟩
  obtain ⟨v, hv, k1, k2⟩ := hc i hi
  refine ⟨v, (World.cell?_setCell_other _ _ _ _ ?_).trans hv, k1, k2⟩
  rintro rfl
  dsimp only at hp
  omega
theorem grown_of_below {a b : World} (h : Below a.heap.size a b) (row : Option Nat) : a.grownBy b row := ⟨h.os, h.tape, h.output, h.size, fun i hi _ => h.block i hi⟩
theorem Rd.below {w w' : World} {g N : Nat} (h : Rd w g N) (hb : Below w.heap.size w w') : Rd w' g N := h.kept (grown_of_below hb none) (fun _ e => by cases e)
theorem Rd.alloc {w : World} {g N : Nat} (h : Rd w g N) (o : Obj) : Rd (w.alloc o) g N := h.kept (World.grownBy_alloc w o none) (fun _ e => by cases e)
theorem grown_below {a w w' : World} {row : Option Nat} (h : a.grownBy w row) (hb : Below w.heap.size w w') : a.grownBy w' row := grown_trans h (grown_of_below hb row)
theorem grown_setNew {a w : World} {row : Option Nat} (h : a.grownBy w row) {p : Addr} (hp : a.heap.size ≤ p.block) (u : Value) : a.grownBy (w.setCell p u) row :=
  ⟨h.os, h.tape, h.output, by simpa [World.setCell] using h.size, fun i hi hne => (Below.heap_setCell w p u i (by omega)).trans (h.block i hi hne)⟩
theorem old_frozen {W w' : World} {g b o : Nat} {v : Value} (hg : W.grownBy w' (some g)) (h : W.cell? ⟨b, o, none⟩ = some v) (hf : W.frozen? ⟨b, o, none⟩ = false) (hne : b ≠ g) : w'.frozen? ⟨b, o, none⟩ = false :=
  (World.frozen?_of_block (hg.block b (World.block_lt_of_cell? W _ h) (fun e => hne (Option.some.inj e)))).trans hf
theorem old_cell {W w' : World} {g b o : Nat} {v : Value} (hg : W.grownBy w' (some g)) (h : W.cell? ⟨b, o, none⟩ = some v) (hne : b ≠ g) : w'.cell? ⟨b, o, none⟩ = some v :=
  hg.cell h (fun e => hne (Option.some.inj e))
end Go.Proofs.YtaikebigaiimaaaDoor
