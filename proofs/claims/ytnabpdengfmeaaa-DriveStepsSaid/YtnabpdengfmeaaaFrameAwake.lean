/- Layer 3: the fixed answer with which each law of the layer begins. -/
import Derived.Test.YtnabpdengfmeaaaFrameRef
import Derived.Test.YtnabpdengfmeaaaFrameSpoil
import Derived.Test.YtnabpdengfmeaaaBounce
import Derived.Test.YtnabpdengfmeaaaSame
namespace Go.Proofs.Ytnabpdengfmeaaa
open Go.RowKit

theorem feed_v (a b c d : Int) : feedV ⟨a, b, c, d⟩ = .tuple #[.agg #[.int .i64 a, .int .i64 b, .int .i64 c], .int .i64 d] := rfl
theorem Own.open13 {w : World} {base : Nat} {v : Value} {l : List Int} (h : Own w base v l) (hl : l.length = 13) : ∃ g cap, v = .slice (some ⟨g, 0, none⟩) 13 cap ∧ base ≤ g ∧ 13 ≤ cap ∧ g < w.heap.size ∧
    (∀ i, i < 13 → w.cell? ⟨g, i, none⟩ = some (.int .u8 (l.getD i 0))) ∧ Reads w (some ⟨g, 0, none⟩) l := by
  obtain ⟨a, cap, hv, hc, hr⟩ := h.form
  rcases h.2.2 with ⟨e, h0⟩ | ⟨g, cap', cur, e, hg, hh, r⟩
  · omega
  · rw [hl] at hv e hc
    rw [e] at hv
    injection hv with h1 h2 h3
    subst h1
    have hgl : g < w.heap.size := (Array.getElem?_eq_some_iff.1 hh).1
    refine ⟨g, cap', e, hg, by omega, hgl, fun i hi => ?_, hr⟩
    rcases hr.2.2 with e0 | ⟨b, off, e1, hc⟩
    · rw [e0] at hl; simp at hl
    · injection e1 with e1
      injection e1 with e2 e3
      subst e2 e3
      have := hc i (by omega)
      rwa [Nat.zero_add] at this

set_option maxHeartbeats 4000000 in
set_option maxRecDepth 100000 in
theorem awake03 (w : World) : Calls Try.prog 37 #[] w fun e w' => e = .returned (.bool true) ∧ Below w.heap.size w w' := by
  have HRF := Lib.hid (Fr.read_frame (sign := 70) (seq := 5) (w := 7) 127 (-1) (by omega) (by omega) (by omega) (by omega) (by omega))
  have HPL := Lib.hid (show putL 70 127 5 7 (-1) = Fr.frameL 70 5 7 (-1) from rfl)
  go_enter Try.func37, Try.ntmps37
  go_wp2_with fail
  refine (putFeed_any _ _ _ _).mono ?_
  rw [HPL.out]
  rintro e w1 ⟨v, rfl, hown, hb⟩
  obtain ⟨g, cap, rfl, hg, hcap, hgl, hc, hr⟩ := hown.open13 (Fr.frameL_len _ _ _ _)
  have c0 : w1.cell? ⟨g, 0, none⟩ = some (.int .u8 70) := hc 0 (by omega)
  have c3 : w1.cell? ⟨g, 3, none⟩ = some (.int .u8 255) := hc 3 (by omega)
  have HC0 := Lib.hid c0
  have HC3 := Lib.hid c3
  have HR := Lib.hid hr
  have HB := Lib.hid hb
  clear c0 c3 hc hr hb hown
  have HL := Lib.hid (Fr.frameL_len 70 5 7 (-1))
  have he : putE 127 5 7 = 0 := rfl
  rw [he]
  clear he
  go_wp2_with fail
  refine (readFeed_any _ _ _ (Fr.frameL 70 5 7 (-1)) _ HL.out hcap HR.out).mono ?_
  rw [HRF.out, feed_v]
  rintro e w2 ⟨rfl, hb⟩
  have c0 : w2.cell? ⟨g, 0, none⟩ = some (.int .u8 70) := (hb.cell (p := ⟨g, 0, none⟩) hgl).trans HC0.out
  have c3 : w2.cell? ⟨g, 3, none⟩ = some (.int .u8 255) := (hb.cell (p := ⟨g, 3, none⟩) hgl).trans HC3.out
  have HB2 := Lib.hid (HB.out.trans (hb.mono HB.out.size))
  have hgl2 : g < w2.heap.size := Nat.lt_of_lt_of_le hgl hb.size
  clear hb
  go_wp2
  go_ret
  have hb2 := HB2.out
  have hs2 := hb2.size
  exact ⟨rfl, by go_grown⟩
end Go.Proofs.Ytnabpdengfmeaaa
