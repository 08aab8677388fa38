/-
  How bytes that came in read: what the reader of a law's code asks.
  Conditions: none.
-/
import Derived.Test.YtaikebigaiimaaaDoorBase
import Derived.Test.YtaikebigaiimaaaDoorDraw
namespace Go.Proofs.YtaikebigaiimaaaDoor
open Go.ChangeShapes Go.WideShapes Go.ChangeAt Go.RowKit Go.Joins

theorem code_of_row {w : World} {a : Option Addr} {len cap : Nat} {zs : List Int} (h : IsRow .u8 w a len cap zs) : Code w a len cap := by
  rcases h with ⟨rfl, rfl, rfl, rfl⟩ | ⟨x, rfl, hl, hm, hz, hcell, hwz⟩
  · exact ⟨Nat.le_refl _, Nat.zero_le _, fun h => by omega⟩
  · refine ⟨hl, hm, fun h => ?_⟩
    obtain ⟨b, off, spot⟩ := x
    have hc := hcell 0 (by omega)
    have hspot : spot = none := by simpa [Addr.add] using World.cell?_spot hc
    subst hspot
    have hadd : ∀ i, Addr.add ⟨b, off, none⟩ i = ⟨b, off + i, none⟩ := fun i => by
      unfold Addr.add
      split <;> simp_all
    refine ⟨b, off, rfl, World.block_lt_of_cell? w _ hc, fun i hi => ⟨zs.getD i 0, (hadd i) ▸ hcell i (by omega), ?_, ?_⟩⟩
    · have h3 := bounds_u8 (hwz (zs.getD i 0) (by rw [List.getD_eq_getElem?_getD, List.getElem?_eq_getElem (by omega)]; simp))
      omega
    · have h3 := bounds_u8 (hwz (zs.getD i 0) (by rw [List.getD_eq_getElem?_getD, List.getElem?_eq_getElem (by omega)]; simp))
      omega
end Go.Proofs.YtaikebigaiimaaaDoor
