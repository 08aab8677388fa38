/-
  Numbers in decimals, and the texts of years.
  Conditions: the library's table of powers of ten holds what start-up lays.
-/
import Derived.Test.YtaikebigaiimaaaDoorProg
import Derived.Test.YtaikebigaiimaaaDoorShelf
import Derived.WalkKit
import Derived.WalkSpells
import Derived.WalkLawsBesides
import Derived.Lib.Hide
import Derived.Lib.SmallJoins
import Derived.Lib.ItoaMem
import Derived.Laws.BytesArg
import Derived.BigQuiet
import Derived.Deep.QuietTactic
import Derived.Handy
import Derived.Deep.RegionWith
namespace Go.Proofs.YtaikebigaiimaaaDoor
open Go.RowKit

theorem hide {p : Prop} (h : p) : Hid p := h
theorem st_refl (w : World) : Below w.heap.size w w := Below.refl _ _
theorem st_trans {a b c : World} (h : Below a.heap.size a b) (k : Below b.heap.size b c) : Below a.heap.size a c := h.trans (k.mono h.size)
theorem st_alloc {a b : World} (h : Below a.heap.size a b) (o : Obj) : Below a.heap.size a (b.alloc o) := h.alloc h.size o
theorem st_dN {a b : World} (h : Below a.heap.size a b) (n : Nat) : Below a.heap.size a (b.drewN n) := ⟨h.os, h.tape, h.output, h.size, h.block⟩
theorem st_drew {a b : World} (h : Below a.heap.size a b) : Below a.heap.size a b.drew := h.drew
theorem keepc {W w1 : World} {a : Addr} {v : Value} (hb : Below W.heap.size W w1) (h : W.cell? a = some v) : w1.cell? a = some v := (hb.cell (World.block_lt_of_cell? W a h)).trans h
theorem st_set {a b : World} (h : Below a.heap.size a b) {p : Addr} (hp : a.heap.size ≤ p.block) (u : Value) : Below a.heap.size a (b.setCell p u) := h.setCell hp u
theorem ret_bool {a b : Bool} (h : a = b) : Ending.returned (.bool a) = .returned (.bool b) := by rw [h]
theorem ret_int {k : IntKind} {a b : Int} (h : a = b) : Ending.returned (.int k a) = .returned (.int k b) := by rw [h]
theorem ret_str {a b : ByteArray} (h : a = b) : Ending.returned (.string a) = .returned (.string b) := by rw [h]

/-- a text of bytes -/
def tx (l : List UInt8) : ByteArray := ⟨l.toArray⟩
theorem tx_append (a b : List UInt8) : tx a ++ tx b = tx (a ++ b) := by
  apply ByteArray.ext
  simp [tx]
theorem tx_inj {a b : List UInt8} (h : tx a = tx b) : a = b := by
  have := congrArg (fun x => x.data.toList) h
  simpa [tx] using this

/-- the table of powers of ten lies as start-up lays it -/
def Tab (w : World) : Prop := Lib.TabIs Tryd.prog w "internal/strconv.uint64pow10" .u64 Lib.pow10Tab
theorem Tab.keep {w w' : World} (h : Tab w) (hb : Below w.heap.size w w') : Tab w' := Joins.tab_stays (B := w.heap.size) (by kernel_rfl : Tryd.prog.globalNamed "internal/strconv.uint64pow10" = some 3) h hb (Nat.le_refl _)
theorem below_grow {w : World} (k : Nat) (os : Array Obj) : Below w.heap.size w (Sort.grow (w.drewN k) os) := by
  refine ⟨rfl, rfl, rfl, ?_, fun j hj => ?_⟩
  · show w.heap.size ≤ (w.heap ++ os).size
    simp
  · show (w.heap ++ os)[j]? = _
    exact Array.getElem?_append_left hj
theorem itoa_any (n : Int) (w : World) (h : Tab w) (h0 : -9223372036854775808 ≤ n) (h1 : n ≤ 9223372036854775807) :
    Calls Tryd.prog 32 #[.int .i64 n] w fun e w' => e = .returned (.string (tx (Lib.itoa n))) ∧ Below w.heap.size w w' :=
  (Tryd.strconv_Itoa n h0 h1 w h).mono fun _ _ ⟨he, k, os, hw⟩ => ⟨he, by subst hw; exact below_grow k os⟩

/-- string(b), b of one byte -/
theorem conv_at (W : World) (b : Nat) (x : Int) (h : W.cell? ⟨b, 0, none⟩ = some (.int .u8 x)) :
    (convert 25 9 (.slice (some ⟨b, 0, none⟩) 1 1)).run Tryd.prog W = .ok (.string (strOfNums [x])) W :=
  run_convert_bytes_arg W 25 5 Tryd.underlying25 Tryd.underlying5 b 0 1 1 [x] rfl (fun i hi => by
    obtain rfl : i = 0 := by omega
    simpa using h) 9 Tryd.underlying9
theorem conv_one (W : World) (x : Int) : (convert 25 9 (.slice (some ⟨W.heap.size, 0, none⟩) 1 1)).run Tryd.prog (W.alloc (.cells #[.int .u8 x] 5)) = .ok (.string (strOfNums [x])) (W.alloc (.cells #[.int .u8 x] 5)) :=
  conv_at _ _ _ (by go_simp)
theorem conv_drew (W : World) (x : Int) : (convert 25 9 (.slice (some ⟨W.heap.size, 0, none⟩) 1 1)).run Tryd.prog (W.alloc (.cells #[.int .u8 x] 5)).drew = .ok (.string (strOfNums [x])) (W.alloc (.cells #[.int .u8 x] 5)).drew :=
  conv_at _ _ _ (by go_simp)
theorem str_one (x : Int) : strOfNums [x] = tx [UInt8.ofNat x.toNat] := rfl
theorem dec_len_pow : ∀ (k n : Nat), n < 10 ^ (k + 1) → (Lib.decDigits n).length ≤ k + 1 := by
  intro k
  induction k with
  | zero =>
    intro n h
    rw [Lib.decDigits, dif_pos (by simpa using h)]
    simp
  | succ k ih =>
    intro n h
    by_cases h10 : n < 10
    · rw [Lib.decDigits, dif_pos h10]
      simp
    · rw [Lib.decDigits, dif_neg h10, List.length_append]
      have := ih (n / 10) (by rw [Nat.pow_succ] at h; omega)
      simp
      omega
theorem ten10 : (10 : Nat) ^ (9 + 1) = 10000000000 := by decide
theorem dec_len (n : Nat) (h : n ≤ 2000000000) : (Lib.decDigits n).length ≤ 10 := dec_len_pow 9 n (by rw [ten10]; omega)
theorem cell_first (w : World) (x : Value) (T : TypeId) : ((w.alloc (.cells #[x] T)).drew).cell? ⟨w.heap.size, 0, none⟩ = some x := by go_simp
theorem tx_size (l : List UInt8) : (tx l).size = l.length := by simp [tx, ByteArray.size]
set_option maxRecDepth 100000 in
theorem dec_nat (m : Nat) : ∀ (n : Nat) (w : World), n ≤ m → n ≤ 2000000000 →
    Calls Tryd.prog 34 #[.int .i64 n] w fun e w' => e = .returned (.string (tx (Lib.decDigits n))) ∧ Below w.heap.size w w' := by
  induction m with
  | zero =>
    intro n w hn hb
    have hn10 : (n : Int) < 10 := by omega
    have D : Hid (strOfNums [48 + (n : Int)] = tx (Lib.decDigits n)) := by
      show _ = _
      rw [str_one, Lib.decDigits, dif_pos (by omega)]
      rfl
    have hcv := conv_one
    go_enter Tryd.func34, Tryd.ntmps34
    go_wp2_with fail
    go_ret
    exact ⟨ret_str D.out, st_alloc (st_refl w) _⟩
  | succ m ih =>
    intro n w hn hb
    by_cases h10 : n < 10
    · have hn10 : (n : Int) < 10 := by omega
      have D : Hid (strOfNums [48 + (n : Int)] = tx (Lib.decDigits n)) := by
        show _ = _
        rw [str_one, Lib.decDigits, dif_pos (by omega)]
        rfl
      have hcv := conv_one
      clear ih
      go_enter Tryd.func34, Tryd.ntmps34
      go_wp2_with fail
      go_ret
      exact ⟨ret_str D.out, st_alloc (st_refl w) _⟩
    · obtain ⟨q, hq⟩ : ∃ q, n / 10 = q := ⟨_, rfl⟩
      obtain ⟨r, hr⟩ : ∃ r, n % 10 = r := ⟨_, rfl⟩
      have IH := hide (fun W => ih q W (by omega) (by omega))
      have D : Hid (tx (Lib.decDigits q) ++ strOfNums [48 + (r : Int)] = tx (Lib.decDigits n)) := by
        show _ = _
        conv => rhs; rw [Lib.decDigits, dif_neg (by omega)]
        rw [str_one, tx_append, hq, hr]
        rfl
      have hcv := conv_one
      have hcd := conv_drew
      have e1 : (n : Int).tdiv 10 = (q : Int) := by rw [Int.tdiv_eq_ediv_of_nonneg (by omega)]; omega
      have e2 : (n : Int).tmod 10 = (r : Int) := by rw [Int.tmod_eq_emod_of_nonneg (by omega)]; omega
      have e3 : IntKind.i64.wrap (q : Int) = (q : Int) := IntWalk.i64_in _ (by omega)
      have e4 : IntKind.i64.wrap (r : Int) = (r : Int) := IntWalk.i64_in _ (by omega)
      have e5 : IntKind.i64.wrap (48 + (r : Int)) = 48 + (r : Int) := IntWalk.i64_in _ (by omega)
      have e6 : IntKind.u8.wrap (48 + (r : Int)) = 48 + (r : Int) := by rw [IntKind.wrap_u8]; omega
      have z1 : (tx (Lib.decDigits q)).size ≤ 10 := by rw [tx_size]; exact dec_len q (by omega)
      have z2 : (strOfNums [48 + (r : Int)]).size ≤ 1 := by rw [strOfNums_size]; exact Nat.le_refl _
      have hn10 : ¬ (n : Int) < 10 := by omega
      have HK0 := hide (st_refl w)
      have HKd := hide (st_drew HK0.out)
      clear ih hn hb
      go_enter Tryd.func34, Tryd.ntmps34
      go_wp2_with fail
      go_region_with ((go_at_call 34; refine (IH.out _).mono ?_; rintro e wx ⟨rfl, hbx⟩; (first | (have hcx := conv_at wx w.heap.size (48 + (r : Int)) (keepc hbx (cell_first w _ _))) | skip); have HK := hide (st_trans (a := w) (by first | exact Hid.out (by assumption) | exact st_alloc (Hid.out (by assumption)) _ | exact st_drew (st_alloc HK0.out _)) hbx)))
      all_goals
        go_wp2
        go_ret
        exact ⟨ret_str D.out, by first | exact HK.out | exact st_alloc HK.out _⟩
theorem itoa_nat (n : Nat) : Lib.itoa n = Lib.decDigits n := by unfold Lib.itoa; rw [if_neg (by omega)]; rfl
theorem itoa_neg (n : Nat) (h : 0 < n) : Lib.itoa (-(n : Int)) = 45 :: Lib.decDigits n := by unfold Lib.itoa; rw [if_pos (by omega)]; simp
set_option maxRecDepth 100000 in
/-- the reference's decimals are the library's -/
theorem dec_any (n : Int) (w : World) (h0 : -2000000000 ≤ n) (h1 : n ≤ 2000000000) :
    Calls Tryd.prog 34 #[.int .i64 n] w fun e w' => e = .returned (.string (tx (Lib.itoa n))) ∧ Below w.heap.size w w' := by
  by_cases hn : 0 ≤ n
  · obtain ⟨m, rfl⟩ := Int.eq_ofNat_of_zero_le hn
    rw [itoa_nat]
    exact dec_nat m m w (Nat.le_refl _) (by omega)
  · obtain ⟨m, hm⟩ := Int.eq_ofNat_of_zero_le (show 0 ≤ -n by omega)
    obtain rfl : n = -(m : Int) := by omega
    have D := hide (itoa_neg m (by omega))
    have IH := hide (dec_nat m m w (Nat.le_refl _) (by omega))
    have z1 : (tx (Lib.decDigits m)).size ≤ 10 := by rw [tx_size]; exact dec_len m (by omega)
    have e1 : IntKind.i64.wrap (- -(m : Int)) = (m : Int) := by rw [Int.neg_neg]; exact IntWalk.i64_in _ (by omega)
    have hneg : -(m : Int) < 0 := by omega
    clear hm
    go_enter Tryd.func34, Tryd.ntmps34
    go_wp2_with fail
    refine IH.out.mono ?_
    rintro e w1 ⟨rfl, hb⟩
    have B1 := hide hb
    clear hb
    go_wp2
    go_ret
    exact ⟨ret_str (by rw [D.out]; exact tx_append [45] _), B1.out⟩
end Go.Proofs.YtaikebigaiimaaaDoor
