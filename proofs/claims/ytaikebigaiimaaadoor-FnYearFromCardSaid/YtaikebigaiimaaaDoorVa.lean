/-
  Reading a year's text: the plain laws of digits, the cut at a byte, strconv.Atoi at digits.
  Conditions: none.
-/
import Derived.Test.YtaikebigaiimaaaDoorTd
import Derived.Test.YtaikebigaiimaaaDoorShelg
namespace Go.Proofs.YtaikebigaiimaaaDoor
open Go.RowKit

theorem dec_digit (n : Nat) : ∀ c ∈ Lib.decDigits n, 48 ≤ c.toNat ∧ c.toNat ≤ 57 := by
  induction n using Nat.strongRecOn with
  | _ n ih =>
    by_cases h : n < 10
    · rw [Lib.decDigits, dif_pos h]
      intro c hc
      rw [List.mem_singleton.1 hc, ub n h]
      omega
    · rw [Lib.decDigits, dif_neg h]
      intro c hc
      rcases List.mem_append.1 hc with hc | hc
      · exact ih (n / 10) (by omega) c hc
      · rw [List.mem_singleton.1 hc, ub (n % 10) (by omega)]
        omega
theorem dec_ne (n : Nat) : Lib.decDigits n ≠ [] := by
  rw [Lib.decDigits]
  split <;> simp
theorem parse_step (acc : Nat) (c : UInt8) (r : List UInt8) (h1 : 48 ≤ c.toNat) (h2 : c.toNat ≤ 57) (ha : acc < 1000000000) : Lib.parseUint10 acc (c :: r) = Lib.parseUint10 (acc * 10 + (c.toNat - 48)) r := by
  rw [Lib.parseUint10, if_pos ⟨h1, h2⟩, if_neg (by omega), if_neg (by omega)]
theorem parse_dec (n : Nat) (hn : n < 1000000000) : ∀ r, Lib.parseUint10 0 (Lib.decDigits n ++ r) = Lib.parseUint10 n r := by
  induction n using Nat.strongRecOn with
  | _ n ih =>
    intro r
    by_cases h : n < 10
    · rw [Lib.decDigits, dif_pos h]
      show Lib.parseUint10 0 (UInt8.ofNat (48 + n) :: r) = _
      rw [parse_step 0 _ r (by rw [ub n h]; omega) (by rw [ub n h]; omega) (by omega), ub n h]
      congr 1
      omega
    · rw [Lib.decDigits, dif_neg h, List.append_assoc, ih (n / 10) (by omega) (by omega)]
      show Lib.parseUint10 (n / 10) (UInt8.ofNat (48 + n % 10) :: r) = _
      rw [parse_step (n / 10) _ r (by rw [ub (n % 10) (by omega)]; omega) (by rw [ub (n % 10) (by omega)]; omega) (by omega), ub (n % 10) (by omega)]
      congr 1
      omega
theorem atoi_dec (n : Nat) (hn : n < 1000000000) : Lib.atoiAll (Lib.decDigits n) = .ok (n : Int) := by
  have hp : Lib.parseMag (Lib.decDigits n) = .ok n := by
    unfold Lib.parseMag
    rw [if_neg (dec_ne n)]
    have := parse_dec n hn []
    rw [List.append_nil] at this
    rw [this]
    rfl
  have hd := dec_digit n
  generalize Lib.decDigits n = l at *
  cases l with
  | nil => unfold Lib.parseMag at hp; rw [if_pos rfl] at hp; cases hp
  | cons c r =>
    have hc := hd c (List.mem_cons_self ..)
    have e1 : ¬ (c.toNat = 43 ∨ c.toNat = 45) := by omega
    have e2 : ¬ c.toNat = 45 := by omega
    unfold Lib.atoiAll
    dsimp only
    rw [if_neg e1, hp]
    dsimp only
    rw [if_neg (by omega), if_neg (by omega), if_neg e2]
theorem index_cut : ∀ (p q : List UInt8), (∀ c ∈ p, c ≠ 32) → Lib.indexByte (p ++ 32 :: q) 32 = p.length := by
  intro p q
  induction p with
  | nil => intro _; rfl
  | cons a r ih =>
    intro h
    have h1 := ih (fun c hc => h c (List.mem_cons_of_mem _ hc))
    have h2 : (a == 32) = false := beq_eq_false_iff_ne.2 (h a (List.mem_cons_self ..))
    show (if (a == 32) = true then (0 : Int) else if (Lib.indexByte (r ++ 32 :: q) 32 == -1) = true then -1 else Lib.indexByte (r ++ 32 :: q) 32 + 1) = _
    rw [h2, h1, if_neg (by simp), if_neg (by rw [beq_iff_eq]; omega), List.length_cons]
    omega
/-- strconv.Atoi at digits -/
theorem atoi_yes (n : Nat) (hn : n < 1000000000) (w : World) :
    Calls Tryd.prog 28 #[.string (tx (Lib.decDigits n))] w fun e w' => e = .returned (.tuple #[.int .i64 n, .nilIface]) ∧ Below w.heap.size w w' :=
  (Any.strconv_Atoi_ok Tryd.laysC172 (tx (Lib.decDigits n)) (by rw [tx_size]; have := dec_len_pow 8 n (by omega); omega) (n : Int) (atoi_dec n hn) w).mono fun _ _ ⟨he, hw⟩ => ⟨he, by
    rcases hw with rfl | ⟨t, rfl⟩
    · exact st_refl _
    · exact Lib.bytesWorld_below _ _ _⟩
theorem tx_cut0 (p q : List UInt8) : (tx (p ++ q)).extract 0 p.length = tx p := by
  apply ByteArray.ext
  simp [tx, ByteArray.data_extract]
theorem tx_cut1 (p q : List UInt8) : (tx (p ++ q)).extract p.length (p ++ q).length = tx q := by
  apply ByteArray.ext
  simp [tx, ByteArray.data_extract]
set_option maxHeartbeats 1000000 in
/-- stringslite.Cut at a blank that is there -/
theorem cut_lite (p q : List UInt8) (hp : ∀ c ∈ p, c ≠ 32) (hl : p.length + q.length ≤ 3000000) (w : World) :
    Calls Tryd.prog 41 #[.string (tx (p ++ 32 :: q)), .string ⟨#[32]⟩] w fun e w' => e = .returned (.tuple #[.string (tx p), .string (tx q), .bool true]) ∧ Below w.heap.size w w' := by
  have hi := index_cut p q hp
  obtain ⟨L, hL⟩ : ∃ L, p ++ 32 :: q = L := ⟨_, rfl⟩
  have hz : L.length = p.length + 1 + q.length := by rw [← hL]; simp; omega
  have K := hide hL
  obtain ⟨N, hN⟩ : ∃ N, p.length = N := ⟨_, rfl⟩
  have hz0 : L.length = N + 1 + q.length := by rw [hz, hN]
  have C0 : Hid ((tx L).extract 0 N = tx p) := by show _ = _; rw [← hL, ← hN]; exact tx_cut0 _ _
  have C1 : Hid ((tx L).extract (N + 1) (N + 1 + q.length) = tx q) := by
    show _ = _
    rw [← hz0]
    have := tx_cut1 (p ++ [32]) q
    rw [List.append_assoc] at this
    rw [← hL, ← hN]
    simpa using this
  rw [hL] at hi ⊢
  rw [hN] at hi hz hl
  have hsz : (tx L).size = L.length := tx_size L
  have X := hide (Tryd.stringslite_Index_one (tx L) 32 w)
  have hi2 : Lib.indexByte (tx L).data.toList 32 = N := hi
  clear hp hL hN hi hz0
  go_enter Tryd.func41, Tryd.ntmps41
  go_wp2_with fail
  refine (X.out).mono ?_
  rintro e w1 ⟨rfl, rfl⟩
  rw [hi2]
  clear X hi2
  go_wp2_with fail
  go_quiet (fail)
  go_wp2
  refine bodyPost_ret (v := .tuple #[.string ((tx L).extract 0 N), .string ((tx L).extract (N + 1) (N + 1 + q.length)), .bool true]) (by simp [results, Tryd.results41, go_sem]) rfl ⟨by rw [C0.out, C1.out], st_dN (st_refl _) _⟩
set_option maxHeartbeats 1000000 in
/-- strings.Cut at a blank that is there -/
theorem cut_yes (p q : List UInt8) (hp : ∀ c ∈ p, c ≠ 32) (hl : p.length + q.length ≤ 3000000) (w : World) :
    Calls Tryd.prog 27 #[.string (tx (p ++ 32 :: q)), .string ⟨#[32]⟩] w fun e w' => e = .returned (.tuple #[.string (tx p), .string (tx q), .bool true]) ∧ Below w.heap.size w w' := by
  have X := hide (cut_lite p q hp hl w)
  clear hp hl
  go_enter Tryd.func27, Tryd.ntmps27
  go_wp2_with fail
  refine (X.out).mono ?_
  rintro e w1 ⟨rfl, hb⟩
  have B1 := hide hb
  clear hb X
  go_wp2
  refine bodyPost_ret (v := .tuple #[.string (tx p), .string (tx q), .bool true]) (by simp [results, Tryd.results27, go_sem]) rfl ⟨rfl, B1.out⟩
/-- the text of a year, cut -/
theorem yL_cut {y : Int} (h : yOk y = true) : ∃ (m : Nat) (q : List UInt8), yL y = Lib.decDigits m ++ 32 :: q ∧ 1 ≤ m ∧ m ≤ 200001 ∧ ((0 < y ∧ (m : Int) = y ∧ q = [67, 69]) ∨ (y ≤ 0 ∧ (m : Int) = 1 - y ∧ q = [66, 67, 69])) := by
  have hy := yOk_iff.1 h
  unfold yL
  rw [h, if_pos rfl]
  by_cases hp : 0 < y
  · obtain ⟨m, rfl⟩ := Int.eq_ofNat_of_zero_le (show 0 ≤ y by omega)
    rw [if_pos hp, itoa_nat]
    exact ⟨m, [67, 69], rfl, by omega, by omega, .inl ⟨hp, rfl, rfl⟩⟩
  · obtain ⟨m, hm⟩ := Int.eq_ofNat_of_zero_le (show 0 ≤ 1 - y by omega)
    rw [if_neg hp, hm, itoa_nat]
    exact ⟨m, [66, 67, 69], rfl, by omega, by omega, .inr ⟨by omega, rfl, rfl⟩⟩
theorem dec_no32 (n : Nat) : ∀ c ∈ Lib.decDigits n, c ≠ 32 := fun c hc e => by
  have := (dec_digit n c hc).1
  rw [e] at this
  exact absurd this (by decide)
end Go.Proofs.YtaikebigaiimaaaDoor
