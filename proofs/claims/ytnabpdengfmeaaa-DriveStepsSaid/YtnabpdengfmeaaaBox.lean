/- A box of three cells: what is left of it where it or another is stored into. -/
import Derived.Test.YtnabpdengfmeaaaBounce
namespace Go.Proofs.Ytnabpdengfmeaaa
open Go.RowKit

/-- a box is stored into whole -/
def put3 (w : World) (B : Nat) (x y z : Value) : World := ((w.setCell ⟨B, 0, none⟩ x).setCell ⟨B, 1, none⟩ y).setCell ⟨B, 2, none⟩ z
theorem Box3.put {w : World} {B : Nat} {x y z : Value} (h : Box3 w B x y z) (x' y' z' : Value) : Box3 (put3 w B x' y' z') B x' y' z' := by
  obtain ⟨h0, h1, h2, h3, h4, h5, h6⟩ := h
  unfold put3
  have n01 : (⟨B, 0, none⟩ : Addr) ≠ ⟨B, 1, none⟩ := by simp
  have n02 : (⟨B, 0, none⟩ : Addr) ≠ ⟨B, 2, none⟩ := by simp
  have n12 : (⟨B, 1, none⟩ : Addr) ≠ ⟨B, 2, none⟩ := by simp
  refine ⟨by simpa using h0, ?_, ?_, ?_, by simpa using h4, by simpa using h5, by simpa using h6⟩
  · rw [World.cell?_setCell_other _ _ _ _ n02.symm, World.cell?_setCell_other _ _ _ _ n01.symm, World.cell?_setCell_same _ _ _ h1]
  · rw [World.cell?_setCell_other _ _ _ _ n12.symm]
    exact World.cell?_setCell_same _ _ _ ((World.cell?_setCell_other _ _ _ _ n01).trans h2)
  · exact World.cell?_setCell_same _ _ _ ((World.cell?_setCell_other _ _ _ _ n12).trans ((World.cell?_setCell_other _ _ _ _ n02).trans h3))
theorem Box3.put_far {w : World} {B C : Nat} {x y z : Value} (h : Box3 w B x y z) (hne : C ≠ B) (x' y' z' : Value) : Box3 (put3 w C x' y' z') B x y z := by
  obtain ⟨h0, h1, h2, h3, h4, h5, h6⟩ := h
  unfold put3
  have n : ∀ i j, (⟨C, i, none⟩ : Addr) ≠ ⟨B, j, none⟩ := fun i j q => hne (congrArg Addr.block q)
  refine ⟨by simpa using h0, ?_, ?_, ?_, by simpa using h4, by simpa using h5, by simpa using h6⟩
  · rw [World.cell?_setCell_other _ _ _ _ (n _ _), World.cell?_setCell_other _ _ _ _ (n _ _), World.cell?_setCell_other _ _ _ _ (n _ _), h1]
  · rw [World.cell?_setCell_other _ _ _ _ (n _ _), World.cell?_setCell_other _ _ _ _ (n _ _), World.cell?_setCell_other _ _ _ _ (n _ _), h2]
  · rw [World.cell?_setCell_other _ _ _ _ (n _ _), World.cell?_setCell_other _ _ _ _ (n _ _), World.cell?_setCell_other _ _ _ _ (n _ _), h3]
theorem below_put3 {B C : Nat} {a w : World} (h : Below B a w) (hC : B ≤ C) (x y z : Value) : Below B a (put3 w C x y z) := ((h.setCell hC _).setCell hC _).setCell hC _

theorem size_alloc (w : World) (o : Obj) : (w.alloc o).heap.size = w.heap.size + 1 := by simp
theorem Box3.far1 {w : World} {B C : Nat} {x y z : Value} (h : Box3 w B x y z) (hne : C ≠ B) (i : Nat) (u : Value) : Box3 (w.setCell ⟨C, i, none⟩ u) B x y z := by
  obtain ⟨h0, h1, h2, h3, h4, h5, h6⟩ := h
  have n : ∀ j, (⟨C, i, none⟩ : Addr) ≠ ⟨B, j, none⟩ := fun j q => hne (congrArg Addr.block q)
  refine ⟨by simpa using h0, ?_, ?_, ?_, by simpa using h4, by simpa using h5, by simpa using h6⟩
  · rw [World.cell?_setCell_other _ _ _ _ (n _), h1]
  · rw [World.cell?_setCell_other _ _ _ _ (n _), h2]
  · rw [World.cell?_setCell_other _ _ _ _ (n _), h3]
theorem Box3.set1 {w : World} {B : Nat} {x y z : Value} (h : Box3 w B x y z) (u : Value) : Box3 (w.setCell ⟨B, 1, none⟩ u) B x u z := by
  obtain ⟨h0, h1, h2, h3, h4, h5, h6⟩ := h
  refine ⟨by simpa using h0, ?_, World.cell?_setCell_same _ _ _ h2, ?_, by simpa using h4, by simpa using h5, by simpa using h6⟩
  · rw [World.cell?_setCell_other _ _ _ _ (by simp), h1]
  · rw [World.cell?_setCell_other _ _ _ _ (by simp), h3]

theorem Box3.set2 {w : World} {B : Nat} {x y z : Value} (h : Box3 w B x y z) (u : Value) : Box3 (w.setCell ⟨B, 2, none⟩ u) B x y u := by
  obtain ⟨h0, h1, h2, h3, h4, h5, h6⟩ := h
  refine ⟨by simpa using h0, ?_, ?_, World.cell?_setCell_same _ _ _ h3, by simpa using h4, by simpa using h5, by simpa using h6⟩
  · rw [World.cell?_setCell_other _ _ _ _ (by simp), h1]
  · rw [World.cell?_setCell_other _ _ _ _ (by simp), h2]
theorem Box3.set0 {w : World} {B : Nat} {x y z : Value} (h : Box3 w B x y z) (u : Value) : Box3 (w.setCell ⟨B, 0, none⟩ u) B u y z := by
  obtain ⟨h0, h1, h2, h3, h4, h5, h6⟩ := h
  refine ⟨by simpa using h0, World.cell?_setCell_same _ _ _ h1, ?_, ?_, by simpa using h4, by simpa using h5, by simpa using h6⟩
  · rw [World.cell?_setCell_other _ _ _ _ (by simp), h2]
  · rw [World.cell?_setCell_other _ _ _ _ (by simp), h3]
theorem Box3.drew {w : World} {B : Nat} {x y z : Value} (h : Box3 w B x y z) : Box3 w.drew B x y z := h
end Go.Proofs.Ytnabpdengfmeaaa
