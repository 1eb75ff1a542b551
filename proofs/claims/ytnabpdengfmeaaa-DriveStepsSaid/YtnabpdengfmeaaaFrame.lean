/- What the frames of the proofs have in common: a slice of bytes that came in, read. -/
import Derived.Test.YtnabpdengfmeaaaSumLaws
import Derived.Test.YtnabpdengfmeaaaBase
import Derived.ProofKit
import Derived.OpenShut
import Derived.ShutString
import Derived.ChangeOld
import Derived.Below
namespace Go.Proofs.Ytnabpdengfmeaaa
open Go.ChangeShapes Go.WideShapes Go.ChangeAt Go.RowKit

theorem open_bytes {H : Type} {enc : TypeId × Value → H} {W : World} {a : Option Addr} {len cap : Nat} {d : DataW H} {p : List MemPlace}
    (h : DataW.Trod enc Try.prog W 0 (fun _ => true) true 23 (.slice a len cap) d p) :
    ∃ l : List Int, l.length = len ∧ len ≤ cap ∧ Reads W a l := by
  obtain ⟨fuel, hf⟩ := h
  rcases open_ints Try.underlying23 Try.underlying5 (by kernel_rfl) hf with ⟨hcs, _⟩ | ⟨x, l, c, zs, hcs, _, hl, hm, hz, _, hcell, hwz⟩
  · simp [Value.cells] at hcs
    obtain ⟨rfl, rfl, rfl⟩ := hcs
    exact ⟨[], rfl, Nat.le_refl _, by simp, by simp [Crc.Bytes], .inl rfl⟩
  · simp [Value.cells] at hcs
    obtain ⟨rfl, rfl, rfl⟩ := hcs
    have hz' : zs.length = cap := by simpa using hz
    unfold maxLen at hm
    have hB : Crc.Bytes zs := fun z hz => by have := bounds_u8 (hwz z hz); omega
    refine ⟨zs.take len, by simp; omega, hl, by simp; omega, Crc.bytes_take hB _, ?_⟩
    by_cases h0 : len = 0
    · subst h0; exact .inl (by simp)
    · have hc := hcell 0 (by omega)
      obtain ⟨b, off, spot⟩ := x
      have hspot : spot = none := by simpa [Addr.add] using World.cell?_spot hc
      subst hspot
      refine .inr ⟨b, off, rfl, fun i hi => ?_⟩
      have hi' : i < len := by simp at hi; omega
      have hci := hcell i (by omega)
      have e : (⟨b, off, none⟩ : Addr).add i = ⟨b, off + i, none⟩ := by
        by_cases hi0 : i = 0
        · subst hi0; simp [Addr.add]
        · simp [Addr.add]; try omega
      rw [e] at hci
      rw [hci]
      simp [List.getD, hi']
end Go.Proofs.Ytnabpdengfmeaaa
