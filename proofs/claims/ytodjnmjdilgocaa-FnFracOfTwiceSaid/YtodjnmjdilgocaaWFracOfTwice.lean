/-
  The walk of the law FnFracOfTwice.
  Conditions: the bytes can be read.
-/
import Derived.Test.YtodjnmjdilgocaaFh
import Derived.Test.YtodjnmjdilgocaaFo
import Derived.Lib.MinMax
namespace Go.Proofs.Ytodjnmjdilgocaa
open Go.RowKit Fr

theorem fv_as {n d : Int} {o : Bool} (h : okB n d = o) (i : I64 n ∧ I64 d) (w : World) :
    Calls Try.prog 17 #[.agg #[.int .i64 n, .int .i64 d]] w fun e w' => e = .returned (.bool o) ∧ Below w.heap.size w w' := by
  subst h; exact fv_impl n d w i.1.1 i.1.2 i.2.1 i.2.2
theorem of_as {a b n d : Int} {o : Bool} (h : ofOk a b = o ∧ ofN a b = n ∧ ofD a b = d) (i : I64 a ∧ I64 b) (w : World) :
    Calls Try.prog 23 #[.int .i64 a, .int .i64 b] w (Fx w n d o) := by
  obtain ⟨rfl, rfl, rfl⟩ := h
  exact of_impl a b w i.1.1 i.1.2 i.2.1 i.2.2
theorem of_as' {a b n d : Int} {o : Bool} (h : ofOk a b = o ∧ ofN a b = n ∧ ofD a b = d) (i : I64 a ∧ I64 b) (w : World) :
    Calls Try.prog 22 #[.int .i64 a, .int .i64 b] w (Fx w n d o) := by
  obtain ⟨rfl, rfl, rfl⟩ := h
  exact of_spec a b w i.1.1 i.1.2 i.2.1 i.2.2

set_option maxHeartbeats 8000000 in
theorem walk_fnFracOfTwice (a : Option Addr) (len cap : Nat) (a' : Option Addr) (len' cap' : Nat) (w : World) (h : Code w a len cap) (h' : Code w a' len' cap') : Calls Try.prog 12 #[.slice a len cap, .slice a' len' cap'] w fun e w' => e = .returned (.bool true) ∧ Below w.heap.size w w' := by
  have hm : len ≤ 9223372036854775807 := by have h1 := h.1; have h2 := h.2.1; unfold maxLen at h2; omega
  have hm' : len' ≤ 9223372036854775807 := by have h1 := h'.1; have h2 := h'.2.1; unfold maxLen at h2; omega
  have H := hide h
  clear h
  by_cases hl : 1048576 < len
  · go_enter Try.func12, Try.ntmps12
    go_wp2
    go_ret
    exact ⟨rfl, Below.refl _ _⟩
  by_cases hl' : 1048576 < len'
  · go_enter Try.func12, Try.ntmps12
    go_wp2
    go_ret
    exact ⟨rfl, Below.refl _ _⟩
  go_enter Try.func12, Try.ntmps12
  go_wp2_with fail
  refine (dDrawFracOf a len cap _ H.out).mono ?_
  rintro e w1 ⟨x, y, rfl, hx, hy, hB⟩
  have B1 := hide hB
  clear hB
  have I1 : Hid (I64 x ∧ I64 y) := ⟨hx, hy⟩
  cases ho : ofOk x y
  · have HO := hide (And.intro ho (of_no ho))
    clear ho
    go_wp2_with fail
    refine (of_as HO.out I1.out _).mono ?_
    rintro e w2 ⟨rfl, hb⟩
    have B2 := hide (st_trans B1.out hb)
    clear hb
    go_wp2_with fail
    refine (of_as' HO.out I1.out _).mono ?_
    rintro e w3 ⟨rfl, hb⟩
    have B3 := hide (st_trans (st_alloc B2.out (.cells #[.int .i64 (0), .int .i64 (0)] 25)) hb)
    have k1 : w3.cell? ⟨w2.heap.size, 0, none⟩ = some (.int .i64 (0)) := keepc hb (by go_simp)
    have k2 : w3.cell? ⟨w2.heap.size, 1, none⟩ = some (.int .i64 (0)) := keepc hb (by go_simp)
    have k3 : w2.heap.size < w3.heap.size := by have hq := hb.size; (try simp at hq); omega
    clear hb
    go_wp2
    go_ret
    exact ⟨rfl, (st_alloc B3.out (.cells #[.int .i64 (0), .int .i64 (0)] 25))⟩
  · obtain ⟨ov, oe, ob⟩ := of_val ho
    have h9 := ov.b9
    have oo := ho
    unfold ofOk at oo
    rw [Bool.and_eq_true, decide_eq_true_iff] at oo
    obtain ⟨⟨q0, q1, q2, q3, q4⟩, -⟩ := oo
    obtain ⟨n, hn⟩ : ∃ z, ofN x y = z := ⟨_, rfl⟩
    obtain ⟨d, hd⟩ : ∃ z, ofD x y = z := ⟨_, rfl⟩
    have HS : Hid (∀ k : Int, k ≠ 0 → -4000000000000000000 ≤ k * x → k * x ≤ 4000000000000000000 → -4000000000000000000 ≤ k * y → k * y ≤ 4000000000000000000 → ofOk (k * x) (k * y) = true ∧ ofN (k * x) (k * y) = n ∧ ofD (k * x) (k * y) = d) := by
      intro k h1 h2 h3 h4 h5
      rw [← hn, ← hd]
      exact of_scale ho h1 h2 h3 h4 h5
    rw [hn, hd] at ov oe h9
    have HO := hide (And.intro ho (And.intro hn hd))
    have I3 : Hid (I64 n ∧ I64 d) := by show _ ∧ _; unfold I64; omega
    have HV := hide (okB_iff.2 ov)
    have H9 := hide h9
    have wx : IntKind.i64.wrap (0 - x) = -x := by rw [Int.zero_sub]; exact IntWalk.i64_in _ ⟨by omega, by omega⟩
    have wx2 : IntKind.i64.wrap (-x) = -x := IntWalk.i64_in _ ⟨by omega, by omega⟩
    have wy2 : IntKind.i64.wrap (-y) = -y := IntWalk.i64_in _ ⟨by omega, by omega⟩
    have wy : IntKind.i64.wrap (0 - y) = -y := by rw [Int.zero_sub]; exact IntWalk.i64_in _ ⟨by omega, by omega⟩
    clear ho hn hd ov oe h9 ob hx hy q1 q2 q3 q4 q0
    go_wp2_with fail
    refine (of_as HO.out I1.out _).mono ?_
    rintro e w2 ⟨rfl, hb⟩
    have B2 := hide (st_trans B1.out hb)
    clear hb
    go_wp2_with fail
    refine (of_as' HO.out I1.out _).mono ?_
    rintro e w3 ⟨rfl, hb⟩
    have B3 := hide (st_trans (st_alloc B2.out (.cells #[.int .i64 (n), .int .i64 (d)] 25)) hb)
    have k1 : w3.cell? ⟨w2.heap.size, 0, none⟩ = some (.int .i64 (n)) := keepc hb (by go_simp)
    have k2 : w3.cell? ⟨w2.heap.size, 1, none⟩ = some (.int .i64 (d)) := keepc hb (by go_simp)
    have k3 : w2.heap.size < w3.heap.size := by have hq := hb.size; (try simp at hq); omega
    clear hb
    have hr : (len' : Int) % 3 = 0 ∨ (len' : Int) % 3 = 1 ∨ (len' : Int) % 3 = 2 := by omega
    rcases hr with hr | hr | hr
    · by_cases zx : 100000000 < max x (-x)
      · go_wp2_with fail
        refine (fv_as HV.out I3.out _).mono ?_
        rintro e w4 ⟨rfl, hb⟩
        have B4 := hide (st_trans (st_alloc (st_alloc B3.out (.cells #[.int .i64 (n), .int .i64 (d)] 25)) (.cells #[.int .i64 2, .int .i64 3, .int .i64 7] 3)) hb)
        have k4 : w4.cell? ⟨w2.heap.size, 0, none⟩ = some (.int .i64 (n)) := keepc hb (by go_simp)
        have k5 : w4.cell? ⟨w2.heap.size, 1, none⟩ = some (.int .i64 (d)) := keepc hb (by go_simp)
        have k6 : w2.heap.size < w4.heap.size := by have hq := hb.size; (try simp at hq); omega
        have k7 : w4.cell? ⟨w3.heap.size, 0, none⟩ = some (.int .i64 (n)) := keepc hb (by go_simp)
        have k8 : w4.cell? ⟨w3.heap.size, 1, none⟩ = some (.int .i64 (d)) := keepc hb (by go_simp)
        have k9 : w3.heap.size < w4.heap.size := by have hq := hb.size; (try simp at hq); omega
        clear hb k1 k2 k3
        go_wp2
        go_ret
        exact ⟨rfl, B4.out⟩
      · by_cases zy : 100000000 < max y (-y)
        · go_wp2_with fail
          refine (fv_as HV.out I3.out _).mono ?_
          rintro e w4 ⟨rfl, hb⟩
          have B4 := hide (st_trans (st_alloc (st_alloc B3.out (.cells #[.int .i64 (n), .int .i64 (d)] 25)) (.cells #[.int .i64 2, .int .i64 3, .int .i64 7] 3)) hb)
          have k4 : w4.cell? ⟨w2.heap.size, 0, none⟩ = some (.int .i64 (n)) := keepc hb (by go_simp)
          have k5 : w4.cell? ⟨w2.heap.size, 1, none⟩ = some (.int .i64 (d)) := keepc hb (by go_simp)
          have k6 : w2.heap.size < w4.heap.size := by have hq := hb.size; (try simp at hq); omega
          have k7 : w4.cell? ⟨w3.heap.size, 0, none⟩ = some (.int .i64 (n)) := keepc hb (by go_simp)
          have k8 : w4.cell? ⟨w3.heap.size, 1, none⟩ = some (.int .i64 (d)) := keepc hb (by go_simp)
          have k9 : w3.heap.size < w4.heap.size := by have hq := hb.size; (try simp at hq); omega
          clear hb k1 k2 k3
          go_wp2
          go_ret
          exact ⟨rfl, B4.out⟩
        · have i2 : Hid (I64 (2 * x) ∧ I64 (2 * y)) := by show _ ∧ _; unfold I64; omega
          have wkx : IntKind.i64.wrap (2 * x) = 2 * x := IntWalk.i64_in _ ⟨by omega, by omega⟩
          have wky : IntKind.i64.wrap (2 * y) = 2 * y := IntWalk.i64_in _ ⟨by omega, by omega⟩
          have HK := hide (HS.out 2 (by omega) (by omega) (by omega) (by omega) (by omega))
          go_wp2_with fail
          refine (of_as HK.out i2.out _).mono ?_
          rintro e w4 ⟨rfl, hb⟩
          have B4 := hide (st_trans (st_alloc (st_alloc B3.out (.cells #[.int .i64 (n), .int .i64 (d)] 25)) (.cells #[.int .i64 2, .int .i64 3, .int .i64 7] 3)) hb)
          have k4 : w4.cell? ⟨w2.heap.size, 0, none⟩ = some (.int .i64 (n)) := keepc hb (by go_simp)
          have k5 : w4.cell? ⟨w2.heap.size, 1, none⟩ = some (.int .i64 (d)) := keepc hb (by go_simp)
          have k6 : w2.heap.size < w4.heap.size := by have hq := hb.size; (try simp at hq); omega
          have k7 : w4.cell? ⟨w3.heap.size, 0, none⟩ = some (.int .i64 (n)) := keepc hb (by go_simp)
          have k8 : w4.cell? ⟨w3.heap.size, 1, none⟩ = some (.int .i64 (d)) := keepc hb (by go_simp)
          have k9 : w3.heap.size < w4.heap.size := by have hq := hb.size; (try simp at hq); omega
          clear hb k1 k2 k3
          go_wp2
          go_ret
          exact ⟨rfl, (st_alloc B4.out (.cells #[.int .i64 (n), .int .i64 (d)] 25))⟩
    · by_cases zx : 100000000 < max x (-x)
      · go_wp2_with fail
        refine (fv_as HV.out I3.out _).mono ?_
        rintro e w4 ⟨rfl, hb⟩
        have B4 := hide (st_trans (st_alloc (st_alloc B3.out (.cells #[.int .i64 (n), .int .i64 (d)] 25)) (.cells #[.int .i64 2, .int .i64 3, .int .i64 7] 3)) hb)
        have k4 : w4.cell? ⟨w2.heap.size, 0, none⟩ = some (.int .i64 (n)) := keepc hb (by go_simp)
        have k5 : w4.cell? ⟨w2.heap.size, 1, none⟩ = some (.int .i64 (d)) := keepc hb (by go_simp)
        have k6 : w2.heap.size < w4.heap.size := by have hq := hb.size; (try simp at hq); omega
        have k7 : w4.cell? ⟨w3.heap.size, 0, none⟩ = some (.int .i64 (n)) := keepc hb (by go_simp)
        have k8 : w4.cell? ⟨w3.heap.size, 1, none⟩ = some (.int .i64 (d)) := keepc hb (by go_simp)
        have k9 : w3.heap.size < w4.heap.size := by have hq := hb.size; (try simp at hq); omega
        clear hb k1 k2 k3
        go_wp2
        go_ret
        exact ⟨rfl, B4.out⟩
      · by_cases zy : 100000000 < max y (-y)
        · go_wp2_with fail
          refine (fv_as HV.out I3.out _).mono ?_
          rintro e w4 ⟨rfl, hb⟩
          have B4 := hide (st_trans (st_alloc (st_alloc B3.out (.cells #[.int .i64 (n), .int .i64 (d)] 25)) (.cells #[.int .i64 2, .int .i64 3, .int .i64 7] 3)) hb)
          have k4 : w4.cell? ⟨w2.heap.size, 0, none⟩ = some (.int .i64 (n)) := keepc hb (by go_simp)
          have k5 : w4.cell? ⟨w2.heap.size, 1, none⟩ = some (.int .i64 (d)) := keepc hb (by go_simp)
          have k6 : w2.heap.size < w4.heap.size := by have hq := hb.size; (try simp at hq); omega
          have k7 : w4.cell? ⟨w3.heap.size, 0, none⟩ = some (.int .i64 (n)) := keepc hb (by go_simp)
          have k8 : w4.cell? ⟨w3.heap.size, 1, none⟩ = some (.int .i64 (d)) := keepc hb (by go_simp)
          have k9 : w3.heap.size < w4.heap.size := by have hq := hb.size; (try simp at hq); omega
          clear hb k1 k2 k3
          go_wp2
          go_ret
          exact ⟨rfl, B4.out⟩
        · have i2 : Hid (I64 (3 * x) ∧ I64 (3 * y)) := by show _ ∧ _; unfold I64; omega
          have wkx : IntKind.i64.wrap (3 * x) = 3 * x := IntWalk.i64_in _ ⟨by omega, by omega⟩
          have wky : IntKind.i64.wrap (3 * y) = 3 * y := IntWalk.i64_in _ ⟨by omega, by omega⟩
          have HK := hide (HS.out 3 (by omega) (by omega) (by omega) (by omega) (by omega))
          go_wp2_with fail
          refine (of_as HK.out i2.out _).mono ?_
          rintro e w4 ⟨rfl, hb⟩
          have B4 := hide (st_trans (st_alloc (st_alloc B3.out (.cells #[.int .i64 (n), .int .i64 (d)] 25)) (.cells #[.int .i64 2, .int .i64 3, .int .i64 7] 3)) hb)
          have k4 : w4.cell? ⟨w2.heap.size, 0, none⟩ = some (.int .i64 (n)) := keepc hb (by go_simp)
          have k5 : w4.cell? ⟨w2.heap.size, 1, none⟩ = some (.int .i64 (d)) := keepc hb (by go_simp)
          have k6 : w2.heap.size < w4.heap.size := by have hq := hb.size; (try simp at hq); omega
          have k7 : w4.cell? ⟨w3.heap.size, 0, none⟩ = some (.int .i64 (n)) := keepc hb (by go_simp)
          have k8 : w4.cell? ⟨w3.heap.size, 1, none⟩ = some (.int .i64 (d)) := keepc hb (by go_simp)
          have k9 : w3.heap.size < w4.heap.size := by have hq := hb.size; (try simp at hq); omega
          clear hb k1 k2 k3
          go_wp2
          go_ret
          exact ⟨rfl, (st_alloc B4.out (.cells #[.int .i64 (n), .int .i64 (d)] 25))⟩
    · by_cases zx : 100000000 < max x (-x)
      · go_wp2_with fail
        refine (fv_as HV.out I3.out _).mono ?_
        rintro e w4 ⟨rfl, hb⟩
        have B4 := hide (st_trans (st_alloc (st_alloc B3.out (.cells #[.int .i64 (n), .int .i64 (d)] 25)) (.cells #[.int .i64 2, .int .i64 3, .int .i64 7] 3)) hb)
        have k4 : w4.cell? ⟨w2.heap.size, 0, none⟩ = some (.int .i64 (n)) := keepc hb (by go_simp)
        have k5 : w4.cell? ⟨w2.heap.size, 1, none⟩ = some (.int .i64 (d)) := keepc hb (by go_simp)
        have k6 : w2.heap.size < w4.heap.size := by have hq := hb.size; (try simp at hq); omega
        have k7 : w4.cell? ⟨w3.heap.size, 0, none⟩ = some (.int .i64 (n)) := keepc hb (by go_simp)
        have k8 : w4.cell? ⟨w3.heap.size, 1, none⟩ = some (.int .i64 (d)) := keepc hb (by go_simp)
        have k9 : w3.heap.size < w4.heap.size := by have hq := hb.size; (try simp at hq); omega
        clear hb k1 k2 k3
        go_wp2
        go_ret
        exact ⟨rfl, B4.out⟩
      · by_cases zy : 100000000 < max y (-y)
        · go_wp2_with fail
          refine (fv_as HV.out I3.out _).mono ?_
          rintro e w4 ⟨rfl, hb⟩
          have B4 := hide (st_trans (st_alloc (st_alloc B3.out (.cells #[.int .i64 (n), .int .i64 (d)] 25)) (.cells #[.int .i64 2, .int .i64 3, .int .i64 7] 3)) hb)
          have k4 : w4.cell? ⟨w2.heap.size, 0, none⟩ = some (.int .i64 (n)) := keepc hb (by go_simp)
          have k5 : w4.cell? ⟨w2.heap.size, 1, none⟩ = some (.int .i64 (d)) := keepc hb (by go_simp)
          have k6 : w2.heap.size < w4.heap.size := by have hq := hb.size; (try simp at hq); omega
          have k7 : w4.cell? ⟨w3.heap.size, 0, none⟩ = some (.int .i64 (n)) := keepc hb (by go_simp)
          have k8 : w4.cell? ⟨w3.heap.size, 1, none⟩ = some (.int .i64 (d)) := keepc hb (by go_simp)
          have k9 : w3.heap.size < w4.heap.size := by have hq := hb.size; (try simp at hq); omega
          clear hb k1 k2 k3
          go_wp2
          go_ret
          exact ⟨rfl, B4.out⟩
        · have i2 : Hid (I64 (7 * x) ∧ I64 (7 * y)) := by show _ ∧ _; unfold I64; omega
          have wkx : IntKind.i64.wrap (7 * x) = 7 * x := IntWalk.i64_in _ ⟨by omega, by omega⟩
          have wky : IntKind.i64.wrap (7 * y) = 7 * y := IntWalk.i64_in _ ⟨by omega, by omega⟩
          have HK := hide (HS.out 7 (by omega) (by omega) (by omega) (by omega) (by omega))
          go_wp2_with fail
          refine (of_as HK.out i2.out _).mono ?_
          rintro e w4 ⟨rfl, hb⟩
          have B4 := hide (st_trans (st_alloc (st_alloc B3.out (.cells #[.int .i64 (n), .int .i64 (d)] 25)) (.cells #[.int .i64 2, .int .i64 3, .int .i64 7] 3)) hb)
          have k4 : w4.cell? ⟨w2.heap.size, 0, none⟩ = some (.int .i64 (n)) := keepc hb (by go_simp)
          have k5 : w4.cell? ⟨w2.heap.size, 1, none⟩ = some (.int .i64 (d)) := keepc hb (by go_simp)
          have k6 : w2.heap.size < w4.heap.size := by have hq := hb.size; (try simp at hq); omega
          have k7 : w4.cell? ⟨w3.heap.size, 0, none⟩ = some (.int .i64 (n)) := keepc hb (by go_simp)
          have k8 : w4.cell? ⟨w3.heap.size, 1, none⟩ = some (.int .i64 (d)) := keepc hb (by go_simp)
          have k9 : w3.heap.size < w4.heap.size := by have hq := hb.size; (try simp at hq); omega
          clear hb k1 k2 k3
          go_wp2
          go_ret
          exact ⟨rfl, (st_alloc B4.out (.cells #[.int .i64 (n), .int .i64 (d)] 25))⟩

end Go.Proofs.Ytodjnmjdilgocaa
