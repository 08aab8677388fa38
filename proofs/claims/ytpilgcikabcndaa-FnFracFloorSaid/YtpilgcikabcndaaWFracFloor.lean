/-
  The walk of the law FnFracFloor.
  Conditions: the bytes can be read.
-/
import Derived.Test.YtpilgcikabcndaaFg
namespace Go.Proofs.Ytpilgcikabcndaa
open Go.RowKit Fr

set_option maxHeartbeats 8000000 in
theorem walk_fnFracFloor (a : Option Addr) (len cap : Nat) (w : World) (h : Code w a len cap) : Calls Try.prog 3 #[.slice a len cap] w fun e w' => e = .returned (.bool true) ∧ Below w.heap.size w w' := by
  have hm : len ≤ 9223372036854775807 := by have h1 := h.1; have h2 := h.2.1; unfold maxLen at h2; omega
  have H := hide h
  clear h
  by_cases hl : 1048576 < len
  · go_enter Try.func3, Try.ntmps3
    go_wp2
    go_ret
    exact ⟨rfl, Below.refl _ _⟩
  go_enter Try.func3, Try.ntmps3
  go_wp2_with fail
  refine (dDrawFracFloor a len cap _ H.out).mono ?_
  rintro e w1 ⟨n, d, rfl, hS, hB⟩
  obtain ⟨s1, s2, s3, s4⟩ := hS
  have B1 := hide hB
  clear hB
  have i1 : I64 n := by unfold I64; omega
  have i2 : I64 d := by unfold I64; omega
  have I1 := hide i1
  have I2 := hide i2
  clear i1 i2
  cases ho : okB n d
  · go_wp2_with fail
    refine (floor_impl n d _ I1.out I2.out).mono ?_
    rintro e w2 ⟨rfl, hb⟩
    have B2 := hide (st_trans (st_alloc B1.out _) hb)
    have k1 : w2.cell? ⟨w1.heap.size, 0, none⟩ = some (.int .i64 (n)) := keepc hb (by go_simp)
    have k2 : w2.cell? ⟨w1.heap.size, 1, none⟩ = some (.int .i64 (d)) := keepc hb (by go_simp)
    have k3 : w1.heap.size < w2.heap.size := by have hq := hb.size; (try simp at hq); omega
    clear hb
    go_wp2_with fail
    refine (floor_spec n d _ I1.out I2.out).mono ?_
    rintro e w3 ⟨rfl, hb⟩
    have B3 := hide (st_trans B2.out hb)
    have k4 : w3.cell? ⟨w1.heap.size, 0, none⟩ = some (.int .i64 (n)) := keepc hb (by go_simp)
    have k5 : w3.cell? ⟨w1.heap.size, 1, none⟩ = some (.int .i64 (d)) := keepc hb (by go_simp)
    have k6 : w1.heap.size < w3.heap.size := by have hq := hb.size; (try simp at hq); omega
    clear hb k1 k2 k3
    go_wp2
    go_ret
    exact ⟨rfl, B3.out⟩
  · have hk := okB_iff.1 ho
    have e0 := floV_yes ho
    obtain ⟨f1, f2⟩ := flo_bound (n := n) hk.d1
    have fb := flo_small hk
    have h9 := hk.b9
    have hd := hk.d1
    obtain ⟨f, hf⟩ : ∃ x, flo n d = x := ⟨_, rfl⟩
    rw [hf] at e0 f1 f2 fb
    have p1 := mul_le 1000000001 1000000000 (x := f) (y := d) (by omega) (by omega) (by omega) (by omega)
    have p2 := mul_le 1000000002 1000000000 (x := f + 1) (y := d) (by omega) (by omega) (by omega) (by omega)
    have E1 : d = 1 → f = n := fun h1 => by rw [← hf, h1]; exact flo_one n
    have C1 : Calls Try.prog 17 #[.agg #[.int .i64 n, .int .i64 d]] = Calls Try.prog 17 #[.agg #[.int .i64 n, .int .i64 d]] := rfl
    clear C1
    have FI : Hid (∀ W, Calls Try.prog 17 #[.agg #[.int .i64 n, .int .i64 d]] W fun e w' => e = .returned (.tuple #[.int .i64 f, .bool true]) ∧ Below W.heap.size W w') := fun W => by
      have := floor_impl n d W I1.out I2.out
      rw [e0, ho] at this
      exact this
    have FS : Hid (∀ W, Calls Try.prog 18 #[.agg #[.int .i64 n, .int .i64 d]] W fun e w' => e = .returned (.tuple #[.int .i64 f, .bool true]) ∧ Below W.heap.size W w') := fun W => by
      have := floor_spec n d W I1.out I2.out
      rw [e0, ho] at this
      exact this
    have f3 : ¬ (f + 1) * d ≤ n := by omega
    clear hk e0 hf ho h9
    by_cases h1 : d = 1
    · obtain rfl := E1 h1
      subst h1
      clear E1
      go_wp2_with fail
      refine (FI.out _).mono ?_
      rintro e w2 ⟨rfl, hb⟩
      have B2 := hide (st_trans (st_alloc B1.out _) hb)
      have k1 : w2.cell? ⟨w1.heap.size, 0, none⟩ = some (.int .i64 (f)) := keepc hb (by go_simp)
      have k2 : w2.cell? ⟨w1.heap.size, 1, none⟩ = some (.int .i64 (1)) := keepc hb (by go_simp)
      have k3 : w1.heap.size < w2.heap.size := by have hq := hb.size; (try simp at hq); omega
      clear hb
      go_wp2_with fail
      refine (FS.out _).mono ?_
      rintro e w3 ⟨rfl, hb⟩
      have B3 := hide (st_trans B2.out hb)
      have k4 : w3.cell? ⟨w1.heap.size, 0, none⟩ = some (.int .i64 (f)) := keepc hb (by go_simp)
      have k5 : w3.cell? ⟨w1.heap.size, 1, none⟩ = some (.int .i64 (1)) := keepc hb (by go_simp)
      have k6 : w1.heap.size < w3.heap.size := by have hq := hb.size; (try simp at hq); omega
      clear hb k1 k2 k3
      go_wp2
      go_ret
      exact ⟨rfl, B3.out⟩
    · clear E1
      have h2 : 1 < d := by omega
      go_wp2_with fail
      refine (FI.out _).mono ?_
      rintro e w2 ⟨rfl, hb⟩
      have B2 := hide (st_trans (st_alloc B1.out _) hb)
      have k1 : w2.cell? ⟨w1.heap.size, 0, none⟩ = some (.int .i64 (n)) := keepc hb (by go_simp)
      have k2 : w2.cell? ⟨w1.heap.size, 1, none⟩ = some (.int .i64 (d)) := keepc hb (by go_simp)
      have k3 : w1.heap.size < w2.heap.size := by have hq := hb.size; (try simp at hq); omega
      clear hb
      go_wp2_with fail
      refine (FS.out _).mono ?_
      rintro e w3 ⟨rfl, hb⟩
      have B3 := hide (st_trans B2.out hb)
      have k4 : w3.cell? ⟨w1.heap.size, 0, none⟩ = some (.int .i64 (n)) := keepc hb (by go_simp)
      have k5 : w3.cell? ⟨w1.heap.size, 1, none⟩ = some (.int .i64 (d)) := keepc hb (by go_simp)
      have k6 : w1.heap.size < w3.heap.size := by have hq := hb.size; (try simp at hq); omega
      clear hb k1 k2 k3
      go_wp2
      go_ret
      exact ⟨rfl, B3.out⟩

end Go.Proofs.Ytpilgcikabcndaa
