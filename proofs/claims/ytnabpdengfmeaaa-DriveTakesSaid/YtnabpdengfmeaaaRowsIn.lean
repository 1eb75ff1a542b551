/- Slices of slices of bytes that came in, read. -/
import Derived.Test.YtnabpdengfmeaaaFrame
import Derived.Deep.Matrix
namespace Go.Proofs.Ytnabpdengfmeaaa
open Go.ChangeShapes Go.WideShapes Go.ChangeAt Go.RowKit

/-- A row: where it lies, its length, its capacity, its bytes. -/
structure Row where
  a : Option Addr
  n : Nat
  c : Nat
  z : List Int
/-- The slice of slices at a with len elements reads as the rows l. -/
def ReadsR (w : World) (a : Option Addr) (len : Nat) (l : Nat → Row) : Prop :=
  ∀ r, r < len → ∃ b off, a = some ⟨b, off, none⟩ ∧ b < w.heap.size ∧ w.cell? ⟨b, off + r, none⟩ = some (.slice (l r).a (l r).n (l r).c) ∧ (l r).n ≤ (l r).c ∧ (l r).z.length = (l r).n ∧ Reads w (l r).a (l r).z

theorem open_rows {H : Type} {enc : TypeId × Value → H} {W : World} {a : Option Addr} {len cap : Nat} {d : DataW H} {p : List MemPlace}
    (h : DataW.Trod enc Try.prog W 0 (fun _ => true) true 78 (.slice a len cap) d p) :
    ∃ l : Nat → Row, len ≤ 9223372036854775807 ∧ len ≤ cap ∧ ReadsR W a len l := by
  obtain ⟨fuel, hf⟩ := h
  rcases Deep.open_int_rows Try.underlying78 Try.underlying23 Try.underlying5 (by kernel_rfl) (by kernel_rfl) hf with ⟨hcs, _⟩ | ⟨x, n, c, A, L, C, Z, hcs, _, hl, hm, _, hr⟩
  · simp [Value.cells] at hcs
    obtain ⟨rfl, rfl, rfl⟩ := hcs
    exact ⟨fun _ => ⟨none, 0, 0, []⟩, by omega, Nat.le_refl _, fun r hr => by omega⟩
  · simp [Value.cells] at hcs
    obtain ⟨rfl, rfl, rfl⟩ := hcs
    unfold maxLen at hm
    refine ⟨fun r => ⟨A r, L r, C r, (Z r).take (L r)⟩, by omega, hl, fun r hlt => ?_⟩
    obtain ⟨hc, h1, h2, h3, h4, h5, h6⟩ := hr r (by omega)
    unfold maxLen at h2
    obtain ⟨b, off, spot⟩ := x
    have hspot : spot = none := by
      have h0 := (hr 0 (by omega)).1
      simpa [Addr.add] using World.cell?_spot h0
    subst hspot
    have e : (⟨b, off, none⟩ : Addr).add r = ⟨b, off + r, none⟩ := by
      by_cases hr0 : r = 0
      · subst hr0; simp [Addr.add]
      · simp [Addr.add]; try omega
    rw [e] at hc
    have hlen : ((Z r).take (L r)).length = L r := by rw [List.length_take, h3]; omega
    have hB : Crc.Bytes (Z r) := fun z hz => by have := bounds_u8 (h4 z hz); omega
    refine ⟨b, off, rfl, cell_lt hc, hc, h1, hlen, by rw [hlen]; omega, Crc.bytes_take hB _, ?_⟩
    by_cases h0 : L r = 0
    · exact .inl (by simp [h0])
    · cases hA : A r with
      | none => have := h5 hA; omega
      | some ad =>
        have hcell := (h6 ad hA).2
        obtain ⟨g, o, sp⟩ := ad
        have hsp : sp = none := by
          have q0 := hcell 0 (by omega)
          simpa [Addr.add] using World.cell?_spot q0
        subst hsp
        refine .inr ⟨g, o, hA, fun i hi => ?_⟩
        have hi' : i < L r := by rw [hlen] at hi; exact hi
        have q := hcell i (by omega)
        have e : (⟨g, o, none⟩ : Addr).add i = ⟨g, o + i, none⟩ := by
          by_cases hi0 : i = 0
          · subst hi0; simp [Addr.add]
          · simp [Addr.add]; try omega
        rw [e] at q
        rw [q]
        simp [List.getD, hi']
end Go.Proofs.Ytnabpdengfmeaaa
