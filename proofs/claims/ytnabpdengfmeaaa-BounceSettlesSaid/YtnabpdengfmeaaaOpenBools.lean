/- What the frames have in common: a slice of truths that came in, read. -/
import Derived.Test.YtnabpdengfmeaaaBounceSettlesWalk
import Derived.ProofKit
import Derived.OpenShut
import Derived.Deep.Grids
namespace Go.Proofs.Ytnabpdengfmeaaa
open Go.ChangeShapes Go.WideShapes Go.ChangeAt Go.RowKit

set_option maxRecDepth 100000 in
theorem open_bools {H : Type} {enc : TypeId × Value → H} {W : World} {a : Option Addr} {len cap : Nat} {d : DataW H} {p : List MemPlace}
    (h : DataW.Trod enc Try.prog W 0 (fun _ => true) true 42 (.slice a len cap) d p) :
    ∃ l : List Bool, l.length = len ∧ len ≤ cap ∧ ReadsB W a l := by
  obtain ⟨fuel, hf⟩ := h
  rcases Deep.open_bools Try.underlying42 Try.underlying4 (by kernel_rfl) hf with ⟨hcs, _⟩ | ⟨x, l, c, B, hcs, _, hl, hm, _, hcell⟩
  · simp [Value.cells] at hcs
    obtain ⟨rfl, rfl, rfl⟩ := hcs
    exact ⟨[], rfl, Nat.le_refl _, by simp, .inl rfl⟩
  · simp [Value.cells] at hcs
    obtain ⟨rfl, rfl, rfl⟩ := hcs
    unfold maxLen at hm
    refine ⟨(List.range len).map B, by simp, hl, by simp; omega, ?_⟩
    by_cases h0 : len = 0
    · subst h0; exact .inl (by simp)
    · have hc := hcell 0 (by omega)
      obtain ⟨b, off, spot⟩ := x
      have hspot : spot = none := by simpa [Addr.add] using World.cell?_spot hc
      subst hspot
      refine .inr ⟨b, off, rfl, fun i hi => ?_⟩
      have hi' : i < len := by simpa using hi
      have hci := hcell i (by omega)
      have e : (⟨b, off, none⟩ : Addr).add i = ⟨b, off + i, none⟩ := by
        by_cases hi0 : i = 0
        · subst hi0; simp [Addr.add]
        · simp [Addr.add]; try omega
      rw [e] at hci
      rw [hci]
      simp [List.getD, hi']
end Go.Proofs.Ytnabpdengfmeaaa
