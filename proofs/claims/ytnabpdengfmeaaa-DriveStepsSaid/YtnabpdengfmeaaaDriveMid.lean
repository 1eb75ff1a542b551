/- A struct of sixteen cells loaded from, and stored into, a block at one step. -/
import Derived.Test.YtnabpdengfmeaaaDriveCells
import Derived.Deep.MidRow
namespace Go.Proofs.Ytnabpdengfmeaaa
open Go.RowKit

theorem storeAll_eq (B : Nat) : ∀ (vs : List Value) (k : Nat) (w : World), w.setCells B k vs = storeAll w B k vs
  | [], _, _ => rfl
  | v :: vs, k, w => by
    show (w.setCell ⟨B, k, none⟩ v).setCells B (k + 1) vs = storeAll (w.setCell ⟨B, k, none⟩ v) B (k + 1) vs
    exact storeAll_eq B vs (k + 1) _
theorem info82 : (Try.prog.info? 82).map (·.size) = some 16 := by kernel_rfl
theorem Cells.there {w : World} {B : Nat} {cs : List Value} (h : Cells w B cs) : w.there B 0 cs.length := fun j hj => by
  rw [Nat.zero_add]
  exact ⟨by rw [(h.2 j hj).1]; rfl, (h.2 j hj).2⟩
theorem Cells.range {w : World} {B : Nat} {cs : List Value} (h : Cells w B cs) : w.rangeAt B 0 cs := fun j v hv => by
  have hj : j < cs.length := (List.getElem?_eq_some_iff.1 hv).1
  rw [Nat.zero_add, (h.2 j hj).1]
  simp [List.getD, hv]
theorem Cells.puts {w : World} {B : Nat} {cs : List Value} (h : Cells w B cs) (vs : List Value) (hl : vs.length = cs.length) : Cells (w.setCells B 0 vs) B vs := by rw [storeAll_eq]; exact h.put vs hl
theorem Cells.farPuts {w : World} {B C : Nat} {cs : List Value} (h : Cells w B cs) (hne : C ≠ B) (vs : List Value) : Cells (w.setCells C 0 vs) B cs := by rw [storeAll_eq]; exact Cells.farAll hne vs 0 w h
theorem below_puts {A b : Nat} {w0 w : World} (hb : A ≤ b) (vs : List Value) (h : Below A w0 w) : Below A w0 (w.setCells b 0 vs) := by rw [storeAll_eq]; exact below_storeAll hb vs 0 w h
end Go.Proofs.Ytnabpdengfmeaaa
