/-
  The walk of the law FnYearFrom.
  Conditions: the bytes can be read; the library's table of powers of ten and its two error variables hold what start-up lays.
-/
import Derived.Test.YtaikebigaiimaaaDoorVh
namespace Go.Proofs.YtaikebigaiimaaaDoor
open Go.RowKit

theorem yL_last {y : Int} (h : yOk y = true) : ∃ p : List UInt8, yL y = p ++ [69] ∧ ∃ r, p = r ++ [67] := by
  obtain ⟨p, b, hL, _⟩ := yL_tail h
  exact ⟨p ++ [b, 67], by rw [hL, List.append_assoc]; rfl, p ++ [b], by rw [List.append_assoc]; rfl⟩
theorem last_ne {p r : List UInt8} {a b : UInt8} (h : p ++ [a] = r ++ [b]) : a = b := by
  have := congrArg List.getLast? h
  simpa using this
set_option maxRecDepth 100000 in
set_option maxHeartbeats 2000000 in
theorem walk_fnYearFrom (a : Option Addr) (len cap : Nat) (w : World) (h : Code w a len cap) (hT : Tab w) (hE : Errs w) : Calls Tryd.prog 5 #[.slice a len cap] w fun e w' => e = .returned (.bool true) ∧ Below w.heap.size w w' := by
  have hm : len ≤ 9223372036854775807 := by have h1 := h.1; have h2 := h.2.1; unfold maxLen at h2; omega
  have H := hide h
  have T := hide hT
  have E := hide hE
  clear h hT hE
  by_cases hl : 1048576 < len
  · go_enter Tryd.func5, Tryd.ntmps5
    go_wp2
    go_ret
    exact ⟨rfl, Below.refl _ _⟩
  go_enter Tryd.func5, Tryd.ntmps5
  go_wp2_with fail
  refine (dDrawYearFrom a len cap _ H.out).mono ?_
  rintro e w1 ⟨l, rfl, hz, hB⟩
  have B1 := hide hB
  clear hB
  go_wp2_with fail
  refine (from_impl l (by omega) _ (T.out.keep B1.out) (E.out.keep B1.out)).mono ?_
  rintro e w2 ⟨rfl, hb⟩
  have B2 := hide (st_trans B1.out hb)
  clear hb
  go_wp2_with fail
  refine (from_spec l _ (by omega)).mono ?_
  rintro e w3 ⟨rfl, hb⟩
  have B3 := hide (st_trans B2.out hb)
  clear hb
  cases ho : fb l
  · go_wp2
    go_ret
    exact ⟨rfl, B3.out⟩
  · obtain ⟨z, h1, h2, h3⟩ := fb_is ho
    rw [h3]
    obtain ⟨p, hp, r, hr⟩ := yL_last h1
    rw [h2] at hp
    have hsz : (tx l).size = p.length + 1 := by rw [tx_size, hp]; simp
    have hpz : p.length ≤ 40 := by rw [hp] at hz; simp at hz; omega
    have e0 : (tx l).extract 0 p.length = tx p := by rw [hp]; exact tx_cut0 _ _
    have e1 : tx l ++ (⟨#[32]⟩ : ByteArray) = tx (l ++ [32]) := tx_append l [32]
    have N1 : ∀ y, yOk y = true → yL y ≠ p := fun y hy e => by
      obtain ⟨q, hq, _⟩ := yL_last hy
      rw [e, hr] at hq
      exact absurd (last_ne hq) (by decide)
    have N2 : ∀ y, yOk y = true → yL y ≠ l ++ [32] := fun y hy e => by
      obtain ⟨q, hq, _⟩ := yL_last hy
      rw [e] at hq
      exact absurd (last_ne hq) (by decide)
    have P1 := hide (fun w => from_impl_no (l := p) N1 (by omega) w)
    have P2 := hide (fun w => from_impl_no (l := l ++ [32]) N2 (by rw [List.length_append]; show l.length + 1 ≤ _; omega) w)
    have TI := hide (text_impl z)
    rw [h2] at TI
    obtain ⟨k, hk⟩ : ∃ k, p.length = k := ⟨_, rfl⟩
    rw [hk] at hsz hpz e0
    clear h1 h2 h3 hp hr N1 N2 hk
    go_wp2_with fail
    refine (P1.out _ (T.out.keep B3.out) (E.out.keep B3.out)).mono ?_
    rintro e w4 ⟨rfl, hb⟩
    have B4 := hide (st_trans B3.out hb)
    clear hb P1
    go_wp2_with fail
    refine (P2.out _ (T.out.keep B4.out) (E.out.keep B4.out)).mono ?_
    rintro e w5 ⟨rfl, hb⟩
    have B5 := hide (st_trans B4.out hb)
    clear hb P2
    go_wp2_with fail
    refine (TI.out _ (T.out.keep B5.out)).mono ?_
    rintro e w6 ⟨rfl, hb⟩
    have B6 := hide (st_trans B5.out hb)
    clear hb TI
    go_wp2
    go_ret
    exact ⟨rfl, B6.out⟩
end Go.Proofs.YtaikebigaiimaaaDoor
