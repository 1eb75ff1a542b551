/- The law FrameReads of layer 3, walked. -/
import Derived.Test.YtnabpdengfmeaaaFrameAwake
namespace Go.Proofs.Ytnabpdengfmeaaa
open Go.RowKit

set_option maxHeartbeats 4000000 in
set_option maxRecDepth 100000 in
theorem frameReads (a : Option Addr) (len cap : Nat) (l : List Int) (w : World) (hl : l.length = len) (hcap : len ≤ cap) (h : Reads w a l) :
    Calls Try.prog 13 #[.slice a len cap] w fun e w' => e = .returned (.bool true) ∧ Below w.heap.size w w' := by
  have HA := Lib.hid h; clear h
  have HL := Lib.hid hl; clear hl
  have D : (40 : Int) < (len : Int) ∨ (len : Int) ≤ 40 := by omega
  rcases D with D | D
  all_goals
    go_enter Try.func13, Try.ntmps13
    go_wp2_with fail
    refine (awake03 _).mono ?_
    rintro e w1 ⟨rfl, hb⟩
    have HA1 := Lib.hid ((HA.out.below hb).take 40)
    have H1 := Lib.hid hb
    clear hb
    have CO := Lib.hid (cut_or (l := l) (len := len) (m := 40) HL.out (by first | exact Or.inl ⟨D, rfl⟩ | exact Or.inr ⟨D, rfl⟩))
    generalize l.take 40 = m at *
    generalize hg : Fr.readN 70 127 m = G at *
    generalize hs : Fr.readN 83 7 m = S at *
    have HG := Lib.hid hg
    have HS := Lib.hid hs
    clear hg hs
    obtain ⟨g0, g1, g2, g3⟩ := G
    obtain ⟨s0, s1, s2, s3⟩ := S
    go_wp2_with fail
    refine (readFeed_any _ _ _ m _ CO.out (by omega) HA1.out).mono ?_
    rw [HG.out, feed_v]
    rintro e w2 ⟨rfl, hb⟩
    have HA2 := Lib.hid (HA1.out.below hb)
    have H2 := Lib.hid (H1.out.trans (hb.mono H1.out.size))
    clear hb HA1 H1
    go_wp2_with fail
    refine (rread_any _ _ _ _ _ m _ CO.out (by omega) (HA2.out.below ((Below.refl _ _).alloc (Nat.le_refl _) _))).mono ?_
    rw [HG.out, got_v]
    rintro e w3 ⟨rfl, hb⟩
    have BX := Lib.hid ((Box3.new w2 (.int .i64 g0) (.int .i64 g1) (.int .i64 g2) 49).below hb)
    have HA3 := Lib.hid (HA2.out.below (((Below.refl w2.heap.size w2).alloc (Nat.le_refl _) _).trans (hb.mono (by simp))))
    have H3 := Lib.hid ((H2.out.alloc H2.out.size _).trans (hb.mono (by have := H2.out.size; simp; omega)))
    clear hb HA2 H2
    obtain ⟨z, k0, k1, k2, f0', f1', f2'⟩ := BX.out
    go_wp2_with fail
    refine (readSet_any _ _ _ m _ CO.out (by omega) HA3.out).mono ?_
    rw [HS.out, feed_v]
    rintro e w4 ⟨rfl, hb⟩
    have HA4 := Lib.hid (HA3.out.below hb)
    have H4 := Lib.hid (H3.out.trans (hb.mono H3.out.size))
    clear hb HA3 H3 BX z k0 k1 k2 f0' f1' f2'
    go_wp2_with fail
    refine (rread_any _ _ _ _ _ m _ CO.out (by omega) (HA4.out.below ((Below.refl _ _).alloc (Nat.le_refl _) _))).mono ?_
    rw [HS.out, got_v]
    rintro e w5 ⟨rfl, hb⟩
    have BX := Lib.hid ((Box3.new w4 (.int .i64 s0) (.int .i64 s1) (.int .i64 s2) 56).below hb)
    have H5 := Lib.hid ((H4.out.alloc H4.out.size _).trans (hb.mono (by have := H4.out.size; simp; omega)))
    clear hb HA4 H4
    obtain ⟨z, k0, k1, k2, f0', f1', f2'⟩ := BX.out
    go_wp2
    go_ret
    exact ⟨rfl, H5.out⟩
end Go.Proofs.Ytnabpdengfmeaaa
