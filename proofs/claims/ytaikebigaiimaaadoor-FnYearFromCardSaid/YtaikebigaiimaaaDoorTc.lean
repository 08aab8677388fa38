/-
  Plain laws of the texts of years: each year has its own text.
  Conditions: none.
-/
import Derived.Test.YtaikebigaiimaaaDoorTb
namespace Go.Proofs.YtaikebigaiimaaaDoor
open Go.RowKit

theorem ub (n : Nat) (h : n < 10) : (UInt8.ofNat (48 + n)).toNat = 48 + n := by
  rw [UInt8.toNat_ofNat']
  omega
def valD (l : List UInt8) : Nat := l.foldl (fun a c => a * 10 + (c.toNat - 48)) 0
theorem valD_dec (n : Nat) : valD (Lib.decDigits n) = n := by
  induction n using Nat.strongRecOn with
  | _ n ih =>
    by_cases h : n < 10
    · rw [Lib.decDigits, dif_pos h]
      simp only [valD, List.foldl_cons, List.foldl_nil]
      rw [ub n h]
      omega
    · have h1 := ih (n / 10) (by omega)
      rw [Lib.decDigits, dif_neg h]
      unfold valD at h1 ⊢
      rw [List.foldl_append, h1]
      simp only [List.foldl_cons, List.foldl_nil]
      rw [ub (n % 10) (by omega)]
      omega
theorem dec_inj {a b : Nat} (h : Lib.decDigits a = Lib.decDigits b) : a = b := by
  rw [← valD_dec a, h, valD_dec b]
theorem itoa_inj {a b : Int} (ha : 0 ≤ a) (hb : 0 ≤ b) (h : Lib.itoa a = Lib.itoa b) : a = b := by
  obtain ⟨m, rfl⟩ := Int.eq_ofNat_of_zero_le ha
  obtain ⟨n, rfl⟩ := Int.eq_ofNat_of_zero_le hb
  rw [itoa_nat, itoa_nat] at h
  rw [dec_inj h]
theorem tails {a b : List UInt8} (h : a ++ [32, 67, 69] = b ++ [32, 66, 67, 69]) : False := by
  have h1 := congrArg List.reverse h
  simp at h1
theorem yL_no {y : Int} (h : yOk y = false) : yL y = [] := by unfold yL; rw [h]; rfl
theorem yL_ne {y : Int} (h : yOk y = true) : yL y ≠ [] := by
  unfold yL
  rw [h, if_pos rfl]
  split <;> simp
theorem yL_inj {y z : Int} (hy : yOk y = true) (h : yL z = yL y) : z = y := by
  cases hz : yOk z with
  | false => exact absurd (h.symm.trans (yL_no hz)) (yL_ne hy)
  | true =>
    have a := yOk_iff.1 hy
    have b := yOk_iff.1 hz
    unfold yL at h
    rw [hy, hz, if_pos rfl, if_pos rfl] at h
    by_cases p : 0 < y
    · by_cases q : 0 < z
      · rw [if_pos p, if_pos q] at h
        exact itoa_inj (by omega) (by omega) (List.append_cancel_right h)
      · rw [if_pos p, if_neg q] at h
        exact (tails h.symm).elim
    · by_cases q : 0 < z
      · rw [if_neg p, if_pos q] at h
        exact (tails h).elim
      · rw [if_neg p, if_neg q] at h
        have := itoa_inj (by omega) (by omega) (List.append_cancel_right h)
        omega
theorem yL_other {y z : Int} (hy : yOk y = true) (h : z ≠ y) : ¬ tx (yL z) = tx (yL y) := fun e => h (yL_inj hy (tx_inj e))
end Go.Proofs.YtaikebigaiimaaaDoor
