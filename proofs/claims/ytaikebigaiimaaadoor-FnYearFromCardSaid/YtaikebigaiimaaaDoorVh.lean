/-
  The drawing of a text to be read as a year, and the walk of the law FnYearFrom.
  Conditions: the bytes can be read; the library's table of powers of ten and its two error variables hold what start-up lays.
-/
import Derived.Test.YtaikebigaiimaaaDoorVg
import Derived.Test.YtaikebigaiimaaaDoorVc
import Derived.Test.YtaikebigaiimaaaDoorYe
namespace Go.Proofs.YtaikebigaiimaaaDoor
open Go.RowKit

/-- a text was picked of n -/
def PickedS (w : World) (g : Nat) (e : Ending) (w' : World) : Prop :=
  ∃ s : ByteArray, e = .returned (.string s) ∧ s.size ≤ 40 ∧ w.grownBy w' (some g)
set_option maxHeartbeats 1000000 in
theorem of_any (g N b n : Nat) (w : World) (h : Rd w g N) (hN : N ≤ 999990) (hb : b ≠ g) (hn1 : 1 ≤ n) (hn2 : n ≤ 100) (hc : ∀ i, i < n → ∃ s : ByteArray, s.size ≤ 40 ∧ w.cell? ⟨b, i, none⟩ = some (.string s)) :
    Calls Tryd.prog 36 #[.pointer (some ⟨g, 0, none⟩), .slice (some ⟨b, 0, none⟩) n n] w (PickedS w g) := by
  have R := hide h
  have HC := hide hc
  clear h hc
  go_enter Tryd.func36, Tryd.ntmps36
  go_wp2_with fail
  refine (pick_any g N n _ R.out (by omega) (by omega) (by omega)).mono ?_
  rintro e w1 ⟨x, rfl, hx1, hx2, _, hG⟩
  have G1 := hide hG
  clear hG
  obtain ⟨k, rfl⟩ := Int.eq_ofNat_of_zero_le hx1
  have hk : k < n := by omega
  obtain ⟨s, hs, hcell⟩ := HC.out k hk
  have hc1 := old_cell G1.out hcell hb
  clear hcell
  go_wp2
  go_ret
  exact ⟨s, rfl, hs, G1.out⟩
theorem yL_len (y : Int) : (yL y).length ≤ 15 := by
  cases h : yOk y
  · rw [yL_no h]; exact Nat.zero_le _
  · obtain ⟨p, b, hL, _, hp2, _⟩ := yL_tail h
    rw [hL, List.length_append]
    show p.length + 3 ≤ 15
    omega
/-- a text was drawn; nothing older has turned -/
def DrawnS (w : World) (e : Ending) (w' : World) : Prop :=
  ∃ l : List UInt8, e = .returned (.string (tx l)) ∧ l.length ≤ 40 ∧ Below w.heap.size w w'
theorem tx_of (s : ByteArray) : ∃ l, s = tx l := ⟨s.data.toList, by apply ByteArray.ext; simp [tx]⟩
set_option maxRecDepth 100000 in
set_option maxHeartbeats 1000000 in
theorem dDrawYearFrom (a : Option Addr) (len cap : Nat) (w : World) (h : Code w a len cap) : Calls Tryd.prog 17 #[.slice a len cap] w (DrawnS w) := by
  have H := hide h
  clear h
  go_enter Tryd.func17, Tryd.ntmps17
  go_wp2_with fail
  refine (open_any a len cap _ H.out).mono ?_
  rintro e w1 ⟨g, rfl, hg, hR, hB⟩
  have R1 := hide hR
  have B1 := hide hB
  clear hR hB
  go_wp2_with fail
  refine (year_any g 0 _ R1.out (by omega)).mono ?_
  rintro e w2 ⟨y, rfl, h1, h2, hR, hG⟩
  have B2 := hide (below_of B1.out hg hG)
  have R2 := hide hR
  clear hR hG
  go_wp2_with fail
  refine (text_spec y _).mono ?_
  rintro e w3 ⟨rfl, hb⟩
  have B3 := hide (st_trans B2.out hb)
  have R3 := hide (R2.out.below hb)
  clear hb
  obtain ⟨L, hL⟩ : ∃ L, yL y = L := ⟨_, rfl⟩
  have hlen : L.length ≤ 15 := by rw [← hL]; exact yL_len y
  rw [hL]
  have hsz : (tx L).size = L.length := tx_size L
  clear hL
  go_wp2_with fail
  refine (pick_any g _ 8 _ R3.out (by omega) (by omega) (by omega)).mono ?_
  rintro e w4 ⟨x, rfl, hx1, hx2, hR, hG⟩
  have B4 := hide (below_of B3.out hg hG)
  have R4 := hide hR
  clear hR hG
  have hlt := R4.out.lt
  by_cases c0 : x = 0
  · subst c0
    go_wp2_with fail
    refine (of_any g _ w4.heap.size 10 _ (R4.out.alloc _) (by omega) (by omega) (by omega) (by omega) (fun i hi => by
      rw [World.cell?_alloc_new]
      have hh : i = 0 ∨ i = 1 ∨ i = 2 ∨ i = 3 ∨ i = 4 ∨ i = 5 ∨ i = 6 ∨ i = 7 ∨ i = 8 ∨ i = 9 := by omega
      rcases hh with rfl | rfl | rfl | rfl | rfl | rfl | rfl | rfl | rfl | rfl <;> (refine ⟨_, ?_, rfl⟩; decide))).mono ?_
    rintro e w5 ⟨s, rfl, hs, hG⟩
    have B5 := hide (below_of (st_alloc B4.out _) hg hG)
    clear hG
    obtain ⟨l, rfl⟩ := tx_of s
    rw [tx_size] at hs
    go_wp2
    go_ret
    exact ⟨l, rfl, hs, B5.out⟩
  · by_cases c1 : x = 1
    · subst c1
      have e1 : tx L ++ (⟨#[32]⟩ : ByteArray) = tx (L ++ [32]) := tx_append L [32]
      go_wp2
      go_ret
      exact ⟨L ++ [32], rfl, by simp; omega, B4.out⟩
    · have d0 : (x == 0) = false := beq_eq_false_iff_ne.2 c0
      have d1 : (x == 1) = false := beq_eq_false_iff_ne.2 c1
      go_wp2
      go_ret
      exact ⟨L, rfl, by omega, B4.out⟩
end Go.Proofs.YtaikebigaiimaaaDoor
