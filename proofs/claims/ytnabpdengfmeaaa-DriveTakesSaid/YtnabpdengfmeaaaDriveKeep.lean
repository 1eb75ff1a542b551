/- Layer 7: what is left of a block of sixteen cells in a grown world. -/
import Derived.Test.YtnabpdengfmeaaaDriveCells
namespace Go.Proofs.Ytnabpdengfmeaaa
open Go.RowKit

theorem keep16 {w w' : World} {B : Nat} {c0 c1 c2 c3 c4 c5 c6 c7 c8 c9 c10 c11 c12 c13 c14 c15 : Value} (h : Below w.heap.size w w') (hc : Cells w B [c0, c1, c2, c3, c4, c5, c6, c7, c8, c9, c10, c11, c12, c13, c14, c15]) :
    w'.cell? ⟨B, 0, none⟩ = some c0 ∧ w'.cell? ⟨B, 1, none⟩ = some c1 ∧ w'.cell? ⟨B, 2, none⟩ = some c2 ∧ w'.cell? ⟨B, 3, none⟩ = some c3 ∧ w'.cell? ⟨B, 4, none⟩ = some c4 ∧ w'.cell? ⟨B, 5, none⟩ = some c5 ∧ w'.cell? ⟨B, 6, none⟩ = some c6 ∧ w'.cell? ⟨B, 7, none⟩ = some c7 ∧ w'.cell? ⟨B, 8, none⟩ = some c8 ∧ w'.cell? ⟨B, 9, none⟩ = some c9 ∧ w'.cell? ⟨B, 10, none⟩ = some c10 ∧ w'.cell? ⟨B, 11, none⟩ = some c11 ∧ w'.cell? ⟨B, 12, none⟩ = some c12 ∧ w'.cell? ⟨B, 13, none⟩ = some c13 ∧ w'.cell? ⟨B, 14, none⟩ = some c14 ∧ w'.cell? ⟨B, 15, none⟩ = some c15 := (Cells.at16 (hc.below h)).2
end Go.Proofs.Ytnabpdengfmeaaa
