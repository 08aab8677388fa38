/-
  The walk of the law FnFracText.
  Conditions: the bytes can be read; the library's table of powers of ten holds what start-up lays.
-/
import Derived.Test.YtaikebigaiimaaaDoorGt
namespace Go.Proofs.YtaikebigaiimaaaDoor
open Go.RowKit Fr

def anyS (l : List UInt8) : Bool := l.any (fun b => b == 47)
theorem anyS_append (a b : List UInt8) : anyS (a ++ b) = (anyS a || anyS b) := List.any_append
theorem dig_no (n : Nat) (h : n < 10) : (UInt8.ofNat (48 + n) == 47) = false := by
  rw [beq_eq_false_iff_ne]
  intro e
  have := congrArg UInt8.toNat e
  rw [ub n h] at this
  have h2 : (47 : UInt8).toNat = 47 := rfl
  omega
theorem anyS_dec (n : Nat) : anyS (Lib.decDigits n) = false := by
  induction n using Nat.strongRecOn with
  | _ n ih =>
    by_cases h : n < 10
    · rw [Lib.decDigits, dif_pos h]
      unfold anyS
      rw [List.any_cons, dig_no n h]
      rfl
    · have h1 := ih (n / 10) (by omega)
      rw [Lib.decDigits, dif_neg h, anyS_append, h1]
      unfold anyS
      rw [List.any_cons, dig_no (n % 10) (by omega)]
      rfl
theorem anyS_itoa (n : Int) : anyS (Lib.itoa n) = false := by
  by_cases hn : 0 ≤ n
  · obtain ⟨m, rfl⟩ := Int.eq_ofNat_of_zero_le hn
    rw [itoa_nat, anyS_dec]
  · obtain ⟨m, hm⟩ := Int.eq_ofNat_of_zero_le (show 0 ≤ -n by omega)
    obtain rfl : n = -(m : Int) := by omega
    rw [itoa_neg m (by omega)]
    show ((45 : UInt8) == 47 || anyS (Lib.decDigits m)) = false
    rw [anyS_dec]
    rfl
theorem anyS_frac {n d : Int} (h : okB n d = true) : anyS (fL n d) = decide (1 < d) := by
  have hk := okB_iff.1 h
  have hd := hk.d1
  by_cases h1 : d = 1
  · subst h1
    rw [fL_one h, anyS_itoa]
    rfl
  · rw [fL_two h h1, anyS_append, anyS_append, anyS_itoa, anyS_itoa, decide_eq_true (by omega)]
    rfl
theorem itoa_minus {n : Int} (h : 0 < n) : Lib.itoa (-n) = 45 :: Lib.itoa n := by
  obtain ⟨m, rfl⟩ := Int.eq_ofNat_of_zero_le (show 0 ≤ n by omega)
  rw [itoa_neg m (by omega), itoa_nat]
theorem fL_minus {n d : Int} (h : okB n d = true) (hn : 0 < n) : fL (-n) d = 45 :: fL n d := by
  have h2 : okB (-n) d = true := by have h3 := ok_neg (okB_iff.1 h); rw [Int.zero_sub] at h3; exact okB_iff.2 h3
  by_cases h1 : d = 1
  · subst h1
    rw [fL_one h, fL_one h2, itoa_minus hn]
  · rw [fL_two h h1, fL_two h2 h1, itoa_minus hn]
    rfl
theorem fL_zero {d : Int} (h : okB 0 d = true) : d = 1 ∧ fL 0 d = [48] := by
  have hk := okB_iff.1 h
  have hd : d = 1 := by
    have h1 := hk.co
    have h2 := hk.d1
    rw [Int.gcd_zero_left] at h1
    omega
  subst hd
  refine ⟨rfl, ?_⟩
  rw [fL_one h]
  show Lib.itoa ((0 : Nat) : Int) = _
  rw [itoa_nat, Lib.decDigits, dif_pos (by omega)]
  rfl
theorem fL_ne {n d : Int} (h : okB n d = true) : fL n d ≠ [] := by
  intro e
  rcases Int.lt_trichotomy n 0 with hn | hn | hn
  · have h3 := ok_neg (okB_iff.1 h)
    rw [Int.zero_sub] at h3
    have := fL_minus (okB_iff.2 h3) (by omega)
    rw [Int.neg_neg, e] at this
    cases this
  · subst hn
    rw [(fL_zero h).2] at e
    cases e
  · by_cases h1 : d = 1
    · subst h1
      have h2 := fL_minus h hn
      have hz : Lib.itoa n = [] := (fL_one h).symm.trans e
      obtain ⟨m, rfl⟩ := Int.eq_ofNat_of_zero_le (show 0 ≤ n by omega)
      rw [itoa_nat] at hz
      have hv := valD_dec m
      rw [hz] at hv
      have : m = 0 := hv.symm
      omega
    · rw [fL_two h h1] at e
      simp at e
theorem idx_s (L : List UInt8) (k : Nat) (_ : k < L.length) (h : k < (tx L).size) : ((((tx L)[k]'h).toNat : Int) == 47) = (L[k] == 47) := by
  have e : (tx L)[k]'h = L[k] := rfl
  rw [e]
  by_cases c : L[k] = 47
  · rw [c]; rfl
  · rw [beq_eq_false_iff_ne.2 c, beq_eq_false_iff_ne]
    intro e2
    apply c
    apply UInt8.toNat_inj.1
    show L[k].toNat = 47
    omega
theorem fL_len {n d : Int} : (tx (fL n d)).size ≤ 23 := by
  cases h : okB n d
  · rw [fL_no h, tx_size]; exact Nat.zero_le _
  · have hk := okB_iff.1 h
    have := hk.n1; have := hk.n2; have := hk.d1; have := hk.d2
    have z1 := itoa_len n (by omega) (by omega)
    have z2 := itoa_len d (by omega) (by omega)
    rw [tx_size] at z1 z2 ⊢
    by_cases h1 : d = 1
    · subst h1
      rw [fL_one h]; omega
    · rw [fL_two h h1, List.length_append, List.length_append]
      show _ + 1 + _ ≤ 23
      omega

set_option maxRecDepth 100000 in
set_option maxHeartbeats 2000000 in
theorem walk_fnFracText (a : Option Addr) (len cap : Nat) (w : World) (h : Code w a len cap) (hT : Tab w) : Calls Tryd.prog 11 #[.slice a len cap] w fun e w' => e = .returned (.bool true) ∧ Below w.heap.size w w' := by
  have hm : len ≤ 9223372036854775807 := by have h1 := h.1; have h2 := h.2.1; unfold maxLen at h2; omega
  have H := hide h
  have T := hide hT
  clear h hT
  by_cases hl : 1048576 < len
  · go_enter Tryd.func11, Tryd.ntmps11
    go_wp2
    go_ret
    exact ⟨rfl, Below.refl _ _⟩
  go_enter Tryd.func11, Tryd.ntmps11
  go_wp2_with fail
  refine (Fx.dDrawFracText a len cap _ H.out).mono ?_
  rintro e w1 ⟨n, d, rfl, hS, hB⟩
  obtain ⟨s1, s2, s3, s4⟩ := hS
  have B1 := hide hB
  have G1 := hide (st_alloc B1.out (.cells #[.int .i64 n, .int .i64 d] 35))
  clear hB
  have C0 := hide (Fx.FrAt.new w1 n d 35)
  have FI := hide (frac_impl n d)
  have FS := hide (frac_spec n d)
  have FN := hide (frac_impl (-n) d)
  obtain ⟨L, hL⟩ : ∃ L, fL n d = L := ⟨_, rfl⟩
  rw [hL] at FI FS
  obtain ⟨M, hM⟩ : ∃ M, fL (-n) d = M := ⟨_, rfl⟩
  rw [hM] at FN
  have KL := hide hL
  have KM := hide hM
  have zL : (tx L).size ≤ 23 := by rw [← hL]; exact fL_len
  have zM : (tx M).size ≤ 23 := by rw [← hM]; exact fL_len
  clear hL hM
  go_wp2_with fail
  refine (FI.out _ (T.out.keep G1.out) (by omega) (by omega) (by omega) (by omega)).mono ?_
  rintro e w2 ⟨rfl, hb⟩
  have B2 := hide (st_trans G1.out hb)
  have C2 := hide (C0.out.below hb)
  obtain ⟨c0, c1⟩ := C2.out.cells
  clear hb C0
  go_wp2_with fail
  refine (FS.out _ (by omega) (by omega) (by omega) (by omega)).mono ?_
  rintro e w3 ⟨rfl, hb⟩
  have B3 := hide (st_trans B2.out hb)
  have C3 := hide (C2.out.below hb)
  clear hb c0 c1 C2
  cases ho : okB n d
  · have V : L = [] := by rw [← KL.out]; exact fL_no ho
    subst V
    have E0 := tx_none
    clear ho
    go_wp2
    go_ret
    exact ⟨rfl, B3.out⟩
  · have E1 : (tx L).toList.isEmpty = false := tx_full (by rw [← KL.out]; exact fL_ne ho)
    have HO := hide ho
    clear ho
    go_wp2_with fail
    have HC := hide C3
    have zl : L.length ≤ 23 := by rw [← tx_size]; exact zL
    have hsz : (tx L).size = L.length := tx_size L
    go_loopw [6, 7] (fun sv i wr => ∃ (k : Nat), sv = .bool (anyS (L.take k)) ∧ i = .int .i64 k ∧ k ≤ L.length ∧ Below w3.heap.size w3 wr) (fun _ i _ => L.length - (intOf i).toNat)
    case atStart => exact ⟨0, rfl, rfl, Nat.zero_le _, st_refl w3⟩
    case round =>
      obtain ⟨k, rfl, rfl, hk, hb⟩ := hrel
      have Bk := hide hb
      clear hb
      by_cases hkl : k < L.length
      · have hkz : (k : Int) < (L.length : Int) := by omega
        cases hs : anyS (L.take k)
        · have V : Hid ((L[k] == 47) = anyS (L.take (k + 1))) := by
            show _ = _
            rw [List.take_succ_eq_append_getElem hkl, anyS_append, hs]
            unfold anyS
            rw [List.any_cons]; simp
          clear hs
          go_wp2
          go_roundw
          case rel => exact ⟨k + 1, congrArg Value.bool ((idx_s L k hkl _).trans V.out), by simp, by omega, Bk.out⟩
          case measure => simp [intOf]; omega
        · have V : Hid (anyS (L.take (k + 1)) = true) := by
            show _ = _
            rw [List.take_succ_eq_append_getElem hkl, anyS_append, hs]; rfl
          clear hs
          go_wp2
          go_roundw
          case rel => exact ⟨k + 1, by rw [V.out], by simp, by omega, Bk.out⟩
          case measure => simp [intOf]; omega
      · have hd : L.take k = L := List.take_of_length_le (by omega)
        rw [hd]
        have A : Hid (anyS L = decide (1 < d)) := by show _ = _; rw [← KL.out]; exact anyS_frac HO.out
        obtain ⟨c0, c1⟩ := (HC.out.below Bk.out).cells
        clear hd
        have hk := okB_iff.1 HO.out
        have hb1 := hk.n1
        have hb2 := hk.n2
        have hb3 := hk.d1
        have hb4 := hk.d2
        clear hk
        rcases Int.lt_trichotomy n 0 with hn | hn | hn
        · have hM : L = 45 :: M := by
            have h3 := ok_neg (okB_iff.1 HO.out)
            rw [Int.zero_sub] at h3
            have := fL_minus (okB_iff.2 h3) (by omega)
            rw [Int.neg_neg, KL.out, KM.out] at this
            exact this
          have e3 : ((tx M).toList == (tx (45 :: L)).toList) = false := by
            rw [tx_list, tx_list, beq_eq_false_iff_ne, hM]
            intro e
            have := congrArg List.length e
            simp at this
            omega
          have e4 : ((tx (45 :: M)).toList == (tx L).toList) = true := by rw [hM]; exact beq_self_eq_true _
          clear hM
          have hn0 : (n == 0) = false := by rw [beq_eq_false_iff_ne]; omega
          have e1 : (⟨#[45]⟩ : ByteArray) ++ tx L = tx (45 :: L) := tx_append [45] L
          have e2 : (⟨#[45]⟩ : ByteArray) ++ tx M = tx (45 :: M) := tx_append [45] M
          by_cases h1 : 1 < d
          · have AA : anyS L = true := by rw [A.out]; exact decide_eq_true h1
            have dd : decide (1 < d) = true := decide_eq_true h1
            go_wp2_with fail
            refine (FN.out _ (T.out.keep (st_trans B3.out Bk.out)) (by omega) (by omega) (by omega) (by omega)).mono ?_
            rintro e w4 ⟨rfl, hb⟩
            have B4 := hide (st_trans Bk.out hb)
            obtain ⟨d0, d1⟩ := ((HC.out.below Bk.out).below hb).cells
            clear hb c0 c1
            go_wp2
            go_ret
            exact ⟨rfl, st_trans B3.out B4.out⟩
          · have AA : anyS L = false := by rw [A.out]; exact decide_eq_false h1
            have dd : decide (1 < d) = false := decide_eq_false h1
            go_wp2_with fail
            refine (FN.out _ (T.out.keep (st_trans B3.out Bk.out)) (by omega) (by omega) (by omega) (by omega)).mono ?_
            rintro e w4 ⟨rfl, hb⟩
            have B4 := hide (st_trans Bk.out hb)
            obtain ⟨d0, d1⟩ := ((HC.out.below Bk.out).below hb).cells
            clear hb c0 c1
            go_wp2
            go_ret
            exact ⟨rfl, st_trans B3.out B4.out⟩
        · subst hn
          obtain ⟨rfl, hz⟩ := fL_zero HO.out
          have eL : L = [48] := KL.out.symm.trans hz
          have eM : M = [48] := KM.out.symm.trans hz
          have AA : anyS L = false := by rw [eL]; rfl
          have e3 : (tx L).toList = [48] := by rw [eL]; exact tx_list _
          have e4 : (tx M).toList = [48] := by rw [eM]; exact tx_list _
          clear eL eM hz
          have F0 := FN.out
          rw [Int.neg_zero] at F0
          have FZ := hide F0
          clear F0
          go_wp2_with fail
          refine (FZ.out _ (T.out.keep (st_trans B3.out Bk.out)) (by omega) (by omega) (by omega) (by omega)).mono ?_
          rintro e w4 ⟨rfl, hb⟩
          have B4 := hide (st_trans Bk.out hb)
          obtain ⟨d0, d1⟩ := ((HC.out.below Bk.out).below hb).cells
          clear hb c0 c1
          go_wp2
          go_ret
          exact ⟨rfl, st_trans B3.out B4.out⟩
        · have hM : M = 45 :: L := by rw [← KL.out, ← KM.out]; exact fL_minus HO.out hn
          have e3 : ((tx M).toList == (tx (45 :: L)).toList) = true := by rw [hM]; exact beq_self_eq_true _
          clear hM
          have hn0 : (n == 0) = false := by rw [beq_eq_false_iff_ne]; omega
          have e1 : (⟨#[45]⟩ : ByteArray) ++ tx L = tx (45 :: L) := tx_append [45] L
          have e2 : (⟨#[45]⟩ : ByteArray) ++ tx M = tx (45 :: M) := tx_append [45] M
          by_cases h1 : 1 < d
          · have AA : anyS L = true := by rw [A.out]; exact decide_eq_true h1
            have dd : decide (1 < d) = true := decide_eq_true h1
            go_wp2_with fail
            refine (FN.out _ (T.out.keep (st_trans B3.out Bk.out)) (by omega) (by omega) (by omega) (by omega)).mono ?_
            rintro e w4 ⟨rfl, hb⟩
            have B4 := hide (st_trans Bk.out hb)
            obtain ⟨d0, d1⟩ := ((HC.out.below Bk.out).below hb).cells
            clear hb c0 c1
            go_wp2
            go_ret
            exact ⟨rfl, st_trans B3.out B4.out⟩
          · have AA : anyS L = false := by rw [A.out]; exact decide_eq_false h1
            have dd : decide (1 < d) = false := decide_eq_false h1
            go_wp2_with fail
            refine (FN.out _ (T.out.keep (st_trans B3.out Bk.out)) (by omega) (by omega) (by omega) (by omega)).mono ?_
            rintro e w4 ⟨rfl, hb⟩
            have B4 := hide (st_trans Bk.out hb)
            obtain ⟨d0, d1⟩ := ((HC.out.below Bk.out).below hb).cells
            clear hb c0 c1
            go_wp2
            go_ret
            exact ⟨rfl, st_trans B3.out B4.out⟩
end Go.Proofs.YtaikebigaiimaaaDoor
