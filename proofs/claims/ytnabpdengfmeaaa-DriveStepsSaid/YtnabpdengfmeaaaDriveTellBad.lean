/- Layer 7: the contract of drive.Tell of a wrong drive. -/
import Derived.Test.YtnabpdengfmeaaaDriveTell
namespace Go.Proofs.Ytnabpdengfmeaaa
open Go.RowKit

set_option maxHeartbeats 8000000 in
set_option maxRecDepth 100000 in
theorem tell_bad (st wl wm wt pc po mc mo hc ho a q : Int) (pv mv hv k : Bool) (want clear : Bool) (target : Int) (w : World) (hr : rightD ⟨st, ⟨wl, wm, wt⟩, ⟨pc, pv, po⟩, ⟨mc, mv, mo⟩, ⟨hc, hv, ho⟩, a, k, q⟩ = false) :
    Calls Try.prog 62 #[.agg #[.int .i64 st, .int .i64 wl, .int .i64 wm, .int .i64 wt, .int .i64 pc, .bool pv, .int .i64 po, .int .i64 mc, .bool mv, .int .i64 mo, .int .i64 hc, .bool hv, .int .i64 ho, .int .i64 a, .bool k, .int .i64 q], .bool want, .bool clear, .int .i64 target] w fun e w' =>
      e = .returned (.tuple #[Dr.val ⟨0, ⟨0, 0, 0⟩, ⟨0, false, 0⟩, ⟨0, false, 0⟩, ⟨0, false, 0⟩, 0, false, 0⟩, .slice none 0 0]) ∧ Below w.heap.size w w' := by
  have HR := Lib.hid hr
  clear hr
  go_enter Try.func62, Try.ntmps62
  go_wp2_with fail
  have BD := Lib.hid ((Cells.new w (Dr.cs ⟨st, ⟨wl, wm, wt⟩, ⟨pc, pv, po⟩, ⟨mc, mv, mo⟩, ⟨hc, hv, ho⟩, a, k, q⟩) 82).below ((Below.refl _ _).alloc (Nat.le_refl _) (.cells #[.int .i64 0, .int .i64 0, .int .i64 0, .int .i64 0, .int .i64 0, .bool false, .int .i64 0, .int .i64 0, .bool false, .int .i64 0, .int .i64 0, .bool false, .int .i64 0, .int .i64 0, .bool false, .int .i64 0] 82)))
  have BZ := Lib.hid (Cells.new (w.alloc (.cells #[.int .i64 st, .int .i64 wl, .int .i64 wm, .int .i64 wt, .int .i64 pc, .bool pv, .int .i64 po, .int .i64 mc, .bool mv, .int .i64 mo, .int .i64 hc, .bool hv, .int .i64 ho, .int .i64 a, .bool k, .int .i64 q] 82)) [.int .i64 0, .int .i64 0, .int .i64 0, .int .i64 0, .int .i64 0, .bool false, .int .i64 0, .int .i64 0, .bool false, .int .i64 0, .int .i64 0, .bool false, .int .i64 0, .int .i64 0, .bool false, .int .i64 0] 82)
  have H0 := Lib.hid (show Below w.heap.size w ((w.alloc (.cells #[.int .i64 st, .int .i64 wl, .int .i64 wm, .int .i64 wt, .int .i64 pc, .bool pv, .int .i64 po, .int .i64 mc, .bool mv, .int .i64 mo, .int .i64 hc, .bool hv, .int .i64 ho, .int .i64 a, .bool k, .int .i64 q] 82)).alloc (.cells #[.int .i64 0, .int .i64 0, .int .i64 0, .int .i64 0, .int .i64 0, .bool false, .int .i64 0, .int .i64 0, .bool false, .int .i64 0, .int .i64 0, .bool false, .int .i64 0, .int .i64 0, .bool false, .int .i64 0] 82)) from by go_grown)
  simp only [size_alloc] at BZ
  refine (dright_any _ _ _ _ _ _ _ _ _ _ _ _ _ _ _ _ _).mono ?_
  rw [HR.out]
  rintro e w1 ⟨rfl, hb⟩
  have BD1 := Lib.hid (BD.out.below hb)
  have BZ1 := Lib.hid (BZ.out.below hb)
  have H1 := Lib.hid (H0.out.trans (hb.mono H0.out.size))
  clear hb BD BZ H0 HR
  generalize hbz : w.heap.size + 1 = bz at BZ1 ⊢
  generalize hbd : w.heap.size = bd at BD1 ⊢
  have HBS := Lib.hid (show w.heap.size ≤ bd ∧ w.heap.size ≤ bz by omega)
  have hne : bd ≠ bz := by omega
  clear hbz hbd
  obtain ⟨y, y0, y1, y2, y3, y4, y5, y6, y7, y8, y9, y10, y11, y12, y13, y14, y15⟩ := Cells.at16 (show Cells w1 bz [.int .i64 0, .int .i64 0, .int .i64 0, .int .i64 0, .int .i64 0, .bool false, .int .i64 0, .int .i64 0, .bool false, .int .i64 0, .int .i64 0, .bool false, .int .i64 0, .int .i64 0, .bool false, .int .i64 0] from BZ1.out)
  obtain ⟨f0, f1, f2, f3, f4, f5, f6, f7, f8, f9, f10, f11, f12, f13, f14, f15⟩ := Cells.free16 BZ1.out
  go_wp2_with fail
  have BZF := Lib.hid (show Cells ((((((((((((((((((w1).setCell ⟨bz, 0, none⟩ (.int .i64 0)).setCell ⟨bz, 1, none⟩ (.int .i64 0)).setCell ⟨bz, 2, none⟩ (.int .i64 0)).setCell ⟨bz, 3, none⟩ (.int .i64 0)).setCell ⟨bz, 4, none⟩ (.int .i64 0)).setCell ⟨bz, 5, none⟩ (.bool false)).setCell ⟨bz, 6, none⟩ (.int .i64 0)).setCell ⟨bz, 7, none⟩ (.int .i64 0)).setCell ⟨bz, 8, none⟩ (.bool false)).setCell ⟨bz, 9, none⟩ (.int .i64 0)).setCell ⟨bz, 10, none⟩ (.int .i64 0)).setCell ⟨bz, 11, none⟩ (.bool false)).setCell ⟨bz, 12, none⟩ (.int .i64 0)).setCell ⟨bz, 13, none⟩ (.int .i64 0)).setCell ⟨bz, 14, none⟩ (.bool false)).setCell ⟨bz, 15, none⟩ (.int .i64 0))) bz _ from BZ1.out.put (Dr.cs ⟨0, ⟨0, 0, 0⟩, ⟨0, false, 0⟩, ⟨0, false, 0⟩, ⟨0, false, 0⟩, 0, false, 0⟩) rfl)
  have HFF := Lib.hid (show Below w.heap.size w ((((((((((((((((((w1).setCell ⟨bz, 0, none⟩ (.int .i64 0)).setCell ⟨bz, 1, none⟩ (.int .i64 0)).setCell ⟨bz, 2, none⟩ (.int .i64 0)).setCell ⟨bz, 3, none⟩ (.int .i64 0)).setCell ⟨bz, 4, none⟩ (.int .i64 0)).setCell ⟨bz, 5, none⟩ (.bool false)).setCell ⟨bz, 6, none⟩ (.int .i64 0)).setCell ⟨bz, 7, none⟩ (.int .i64 0)).setCell ⟨bz, 8, none⟩ (.bool false)).setCell ⟨bz, 9, none⟩ (.int .i64 0)).setCell ⟨bz, 10, none⟩ (.int .i64 0)).setCell ⟨bz, 11, none⟩ (.bool false)).setCell ⟨bz, 12, none⟩ (.int .i64 0)).setCell ⟨bz, 13, none⟩ (.int .i64 0)).setCell ⟨bz, 14, none⟩ (.bool false)).setCell ⟨bz, 15, none⟩ (.int .i64 0))) from below_storeAll HBS.out.2 (Dr.cs ⟨0, ⟨0, 0, 0⟩, ⟨0, false, 0⟩, ⟨0, false, 0⟩, ⟨0, false, 0⟩, 0, false, 0⟩) 0 _ H1.out)
  clear y y0 y1 y2 y3 y4 y5 y6 y7 y8 y9 y10 y11 y12 y13 y14 y15 f0 f1 f2 f3 f4 f5 f6 f7 f8 f9 f10 f11 f12 f13 f14 f15
  generalize (((((((((((((((((w1).setCell ⟨bz, 0, none⟩ (.int .i64 0)).setCell ⟨bz, 1, none⟩ (.int .i64 0)).setCell ⟨bz, 2, none⟩ (.int .i64 0)).setCell ⟨bz, 3, none⟩ (.int .i64 0)).setCell ⟨bz, 4, none⟩ (.int .i64 0)).setCell ⟨bz, 5, none⟩ (.bool false)).setCell ⟨bz, 6, none⟩ (.int .i64 0)).setCell ⟨bz, 7, none⟩ (.int .i64 0)).setCell ⟨bz, 8, none⟩ (.bool false)).setCell ⟨bz, 9, none⟩ (.int .i64 0)).setCell ⟨bz, 10, none⟩ (.int .i64 0)).setCell ⟨bz, 11, none⟩ (.bool false)).setCell ⟨bz, 12, none⟩ (.int .i64 0)).setCell ⟨bz, 13, none⟩ (.int .i64 0)).setCell ⟨bz, 14, none⟩ (.bool false)).setCell ⟨bz, 15, none⟩ (.int .i64 0)) = wF at *
  obtain ⟨y, y0, y1, y2, y3, y4, y5, y6, y7, y8, y9, y10, y11, y12, y13, y14, y15⟩ := Cells.at16 (show Cells wF bz [.int .i64 0, .int .i64 0, .int .i64 0, .int .i64 0, .int .i64 0, .bool false, .int .i64 0, .int .i64 0, .bool false, .int .i64 0, .int .i64 0, .bool false, .int .i64 0, .int .i64 0, .bool false, .int .i64 0] from BZF.out)
  refine bodyPost_ret (v := .tuple #[Dr.val ⟨0, ⟨0, 0, 0⟩, ⟨0, false, 0⟩, ⟨0, false, 0⟩, ⟨0, false, 0⟩, 0, false, 0⟩, .slice none 0 0]) (by simp [results, Try.results62, go_sem, Dr.val, Dr.cs, y0, y1, y2, y3, y4, y5, y6, y7, y8, y9, y10, y11, y12, y13, y14, y15]) rfl ⟨rfl, HFF.out⟩
end Go.Proofs.Ytnabpdengfmeaaa
