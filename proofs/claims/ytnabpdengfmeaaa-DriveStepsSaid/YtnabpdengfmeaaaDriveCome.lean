/- Layer 7: the contract of drive.Come. (Written by a program of mine, gen_drivecome.py.) -/
import Derived.Test.YtnabpdengfmeaaaDriveCells
import Derived.Test.YtnabpdengfmeaaaWatchCome
namespace Go.Proofs.Ytnabpdengfmeaaa
open Go.RowKit

set_option maxHeartbeats 8000000 in
set_option maxRecDepth 100000 in
theorem dcome_bad (st wl wm wt pc po mc mo hc ho a q : Int) (pv mv hv k : Bool) (ad : Option Addr) (len cap : Nat) (w : World) (hr : rightD ⟨st, ⟨wl, wm, wt⟩, ⟨pc, pv, po⟩, ⟨mc, mv, mo⟩, ⟨hc, hv, ho⟩, a, k, q⟩ = false) :
    Calls Try.prog 60 #[.agg #[.int .i64 st, .int .i64 wl, .int .i64 wm, .int .i64 wt, .int .i64 pc, .bool pv, .int .i64 po, .int .i64 mc, .bool mv, .int .i64 mo, .int .i64 hc, .bool hv, .int .i64 ho, .int .i64 a, .bool k, .int .i64 q], .slice ad len cap] w fun e w' => e = .returned (Dr.val ⟨0, ⟨0, 0, 0⟩, ⟨0, false, 0⟩, ⟨0, false, 0⟩, ⟨0, false, 0⟩, 0, false, 0⟩) ∧ Below w.heap.size w w' := by
  have HR := Lib.hid hr
  clear hr
  go_enter Try.func60, Try.ntmps60
  go_wp2_with fail
  have BD := Lib.hid (show Cells ((w.alloc (.cells #[.int .i64 st, .int .i64 wl, .int .i64 wm, .int .i64 wt, .int .i64 pc, .bool pv, .int .i64 po, .int .i64 mc, .bool mv, .int .i64 mo, .int .i64 hc, .bool hv, .int .i64 ho, .int .i64 a, .bool k, .int .i64 q] 82)).alloc (.cells #[.int .i64 0, .int .i64 0, .int .i64 0, .int .i64 0, .int .i64 0, .bool false, .int .i64 0, .int .i64 0, .bool false, .int .i64 0, .int .i64 0, .bool false, .int .i64 0, .int .i64 0, .bool false, .int .i64 0] 82)) w.heap.size (Dr.cs ⟨st, ⟨wl, wm, wt⟩, ⟨pc, pv, po⟩, ⟨mc, mv, mo⟩, ⟨hc, hv, ho⟩, a, k, q⟩) from (Cells.new w (Dr.cs ⟨st, ⟨wl, wm, wt⟩, ⟨pc, pv, po⟩, ⟨mc, mv, mo⟩, ⟨hc, hv, ho⟩, a, k, q⟩) 82).below ((Below.refl _ _).alloc (Nat.le_refl _) (.cells #[.int .i64 0, .int .i64 0, .int .i64 0, .int .i64 0, .int .i64 0, .bool false, .int .i64 0, .int .i64 0, .bool false, .int .i64 0, .int .i64 0, .bool false, .int .i64 0, .int .i64 0, .bool false, .int .i64 0] 82)))
  have BZ := Lib.hid (Cells.new (w.alloc (.cells #[.int .i64 st, .int .i64 wl, .int .i64 wm, .int .i64 wt, .int .i64 pc, .bool pv, .int .i64 po, .int .i64 mc, .bool mv, .int .i64 mo, .int .i64 hc, .bool hv, .int .i64 ho, .int .i64 a, .bool k, .int .i64 q] 82)) [.int .i64 0, .int .i64 0, .int .i64 0, .int .i64 0, .int .i64 0, .bool false, .int .i64 0, .int .i64 0, .bool false, .int .i64 0, .int .i64 0, .bool false, .int .i64 0, .int .i64 0, .bool false, .int .i64 0] 82)
  have H0 := Lib.hid (show Below w.heap.size w ((w.alloc (.cells #[.int .i64 st, .int .i64 wl, .int .i64 wm, .int .i64 wt, .int .i64 pc, .bool pv, .int .i64 po, .int .i64 mc, .bool mv, .int .i64 mo, .int .i64 hc, .bool hv, .int .i64 ho, .int .i64 a, .bool k, .int .i64 q] 82)).alloc (.cells #[.int .i64 0, .int .i64 0, .int .i64 0, .int .i64 0, .int .i64 0, .bool false, .int .i64 0, .int .i64 0, .bool false, .int .i64 0, .int .i64 0, .bool false, .int .i64 0, .int .i64 0, .bool false, .int .i64 0] 82)) from by go_grown)
  simp only [size_alloc] at BZ
  refine (dright_any _ _ _ _ _ _ _ _ _ _ _ _ _ _ _ _ _).mono ?_
  rw [HR.out]
  rintro e w1 ⟨rfl, hb⟩
  have BD1 := Lib.hid (BD.out.below hb)
  have BZ1 := Lib.hid (BZ.out.below hb)
  have H1 := Lib.hid (H0.out.trans (hb.mono H0.out.size))
  clear hb BD BZ H0
  generalize hbz : w.heap.size + 1 = bz at BZ1 ⊢
  generalize hbd : w.heap.size = bd at BD1 ⊢
  have HBS := Lib.hid (show w.heap.size ≤ bd ∧ w.heap.size ≤ bz by omega)
  have hne : bd ≠ bz := by omega
  clear hbz hbd
  obtain ⟨y, y0, y1, y2, y3, y4, y5, y6, y7, y8, y9, y10, y11, y12, y13, y14, y15⟩ := Cells.at16 BZ1.out
  obtain ⟨f0, f1, f2, f3, f4, f5, f6, f7, f8, f9, f10, f11, f12, f13, f14, f15⟩ := Cells.free16 BZ1.out
  go_wp2_with fail
  have BZF := Lib.hid (show Cells ((((((((((((((((((w1).setCell ⟨bz, 0, none⟩ (.int .i64 0)).setCell ⟨bz, 1, none⟩ (.int .i64 0)).setCell ⟨bz, 2, none⟩ (.int .i64 0)).setCell ⟨bz, 3, none⟩ (.int .i64 0)).setCell ⟨bz, 4, none⟩ (.int .i64 0)).setCell ⟨bz, 5, none⟩ (.bool false)).setCell ⟨bz, 6, none⟩ (.int .i64 0)).setCell ⟨bz, 7, none⟩ (.int .i64 0)).setCell ⟨bz, 8, none⟩ (.bool false)).setCell ⟨bz, 9, none⟩ (.int .i64 0)).setCell ⟨bz, 10, none⟩ (.int .i64 0)).setCell ⟨bz, 11, none⟩ (.bool false)).setCell ⟨bz, 12, none⟩ (.int .i64 0)).setCell ⟨bz, 13, none⟩ (.int .i64 0)).setCell ⟨bz, 14, none⟩ (.bool false)).setCell ⟨bz, 15, none⟩ (.int .i64 0))) bz _ from BZ1.out.put (Dr.cs ⟨0, ⟨0, 0, 0⟩, ⟨0, false, 0⟩, ⟨0, false, 0⟩, ⟨0, false, 0⟩, 0, false, 0⟩) rfl)
  have HFF := Lib.hid (show Below w.heap.size w ((((((((((((((((((w1).setCell ⟨bz, 0, none⟩ (.int .i64 0)).setCell ⟨bz, 1, none⟩ (.int .i64 0)).setCell ⟨bz, 2, none⟩ (.int .i64 0)).setCell ⟨bz, 3, none⟩ (.int .i64 0)).setCell ⟨bz, 4, none⟩ (.int .i64 0)).setCell ⟨bz, 5, none⟩ (.bool false)).setCell ⟨bz, 6, none⟩ (.int .i64 0)).setCell ⟨bz, 7, none⟩ (.int .i64 0)).setCell ⟨bz, 8, none⟩ (.bool false)).setCell ⟨bz, 9, none⟩ (.int .i64 0)).setCell ⟨bz, 10, none⟩ (.int .i64 0)).setCell ⟨bz, 11, none⟩ (.bool false)).setCell ⟨bz, 12, none⟩ (.int .i64 0)).setCell ⟨bz, 13, none⟩ (.int .i64 0)).setCell ⟨bz, 14, none⟩ (.bool false)).setCell ⟨bz, 15, none⟩ (.int .i64 0))) from below_storeAll HBS.out.2 (Dr.cs ⟨0, ⟨0, 0, 0⟩, ⟨0, false, 0⟩, ⟨0, false, 0⟩, ⟨0, false, 0⟩, 0, false, 0⟩) 0 _ H1.out)
  clear y y0 y1 y2 y3 y4 y5 y6 y7 y8 y9 y10 y11 y12 y13 y14 y15 f0 f1 f2 f3 f4 f5 f6 f7 f8 f9 f10 f11 f12 f13 f14 f15 
  generalize (((((((((((((((((w1).setCell ⟨bz, 0, none⟩ (.int .i64 0)).setCell ⟨bz, 1, none⟩ (.int .i64 0)).setCell ⟨bz, 2, none⟩ (.int .i64 0)).setCell ⟨bz, 3, none⟩ (.int .i64 0)).setCell ⟨bz, 4, none⟩ (.int .i64 0)).setCell ⟨bz, 5, none⟩ (.bool false)).setCell ⟨bz, 6, none⟩ (.int .i64 0)).setCell ⟨bz, 7, none⟩ (.int .i64 0)).setCell ⟨bz, 8, none⟩ (.bool false)).setCell ⟨bz, 9, none⟩ (.int .i64 0)).setCell ⟨bz, 10, none⟩ (.int .i64 0)).setCell ⟨bz, 11, none⟩ (.bool false)).setCell ⟨bz, 12, none⟩ (.int .i64 0)).setCell ⟨bz, 13, none⟩ (.int .i64 0)).setCell ⟨bz, 14, none⟩ (.bool false)).setCell ⟨bz, 15, none⟩ (.int .i64 0)) = wF at *
  obtain ⟨y, y0, y1, y2, y3, y4, y5, y6, y7, y8, y9, y10, y11, y12, y13, y14, y15⟩ := Cells.at16 BZF.out
  refine bodyPost_ret (v := Dr.val ⟨0, ⟨0, 0, 0⟩, ⟨0, false, 0⟩, ⟨0, false, 0⟩, ⟨0, false, 0⟩, 0, false, 0⟩) (by simp [results, Try.results60, go_sem, Dr.val, Dr.cs, y0, y1, y2, y3, y4, y5, y6, y7, y8, y9, y10, y11, y12, y13, y14, y15]) rfl ⟨rfl, HFF.out⟩

set_option maxHeartbeats 8000000 in
set_option maxRecDepth 100000 in
theorem dcome_no (st wl wm wt pc po mc mo hc ho a q : Int) (pv mv hv k : Bool) (ad : Option Addr) (len cap : Nat) (z : List Int) (w : World) (tl tm tt ts td tp : Int) (hr : rightD ⟨st, ⟨wl, wm, wt⟩, ⟨pc, pv, po⟩, ⟨mc, mv, mo⟩, ⟨hc, hv, ho⟩, a, k, q⟩ = true) (hl : z.length = len) (hcap : len ≤ cap) (h : Reads w ad z) (hT : comeG ⟨wl, wm, wt⟩ (Fr.readN 70 127 z) = ⟨⟨tl, tm, tt⟩, ts, td, tp, false⟩) :
    Calls Try.prog 60 #[.agg #[.int .i64 st, .int .i64 wl, .int .i64 wm, .int .i64 wt, .int .i64 pc, .bool pv, .int .i64 po, .int .i64 mc, .bool mv, .int .i64 mo, .int .i64 hc, .bool hv, .int .i64 ho, .int .i64 a, .bool k, .int .i64 q], .slice ad len cap] w fun e w' => e = .returned (Dr.val ⟨st, ⟨tl, tm, tt⟩, ⟨pc, pv, po⟩, ⟨mc, mv, mo⟩, ⟨hc, hv, ho⟩, a, k, q⟩) ∧ Below w.heap.size w w' := by
  have HR := Lib.hid hr
  have HL := Lib.hid hl
  have HA := Lib.hid h
  have HT := Lib.hid hT
  clear hr hl h hT
  go_enter Try.func60, Try.ntmps60
  go_wp2_with fail
  have BD := Lib.hid (show Cells ((w.alloc (.cells #[.int .i64 st, .int .i64 wl, .int .i64 wm, .int .i64 wt, .int .i64 pc, .bool pv, .int .i64 po, .int .i64 mc, .bool mv, .int .i64 mo, .int .i64 hc, .bool hv, .int .i64 ho, .int .i64 a, .bool k, .int .i64 q] 82)).alloc (.cells #[.int .i64 0, .int .i64 0, .int .i64 0, .int .i64 0, .int .i64 0, .bool false, .int .i64 0, .int .i64 0, .bool false, .int .i64 0, .int .i64 0, .bool false, .int .i64 0, .int .i64 0, .bool false, .int .i64 0] 82)) w.heap.size (Dr.cs ⟨st, ⟨wl, wm, wt⟩, ⟨pc, pv, po⟩, ⟨mc, mv, mo⟩, ⟨hc, hv, ho⟩, a, k, q⟩) from (Cells.new w (Dr.cs ⟨st, ⟨wl, wm, wt⟩, ⟨pc, pv, po⟩, ⟨mc, mv, mo⟩, ⟨hc, hv, ho⟩, a, k, q⟩) 82).below ((Below.refl _ _).alloc (Nat.le_refl _) (.cells #[.int .i64 0, .int .i64 0, .int .i64 0, .int .i64 0, .int .i64 0, .bool false, .int .i64 0, .int .i64 0, .bool false, .int .i64 0, .int .i64 0, .bool false, .int .i64 0, .int .i64 0, .bool false, .int .i64 0] 82)))
  have BZ := Lib.hid (Cells.new (w.alloc (.cells #[.int .i64 st, .int .i64 wl, .int .i64 wm, .int .i64 wt, .int .i64 pc, .bool pv, .int .i64 po, .int .i64 mc, .bool mv, .int .i64 mo, .int .i64 hc, .bool hv, .int .i64 ho, .int .i64 a, .bool k, .int .i64 q] 82)) [.int .i64 0, .int .i64 0, .int .i64 0, .int .i64 0, .int .i64 0, .bool false, .int .i64 0, .int .i64 0, .bool false, .int .i64 0, .int .i64 0, .bool false, .int .i64 0, .int .i64 0, .bool false, .int .i64 0] 82)
  have H0 := Lib.hid (show Below w.heap.size w ((w.alloc (.cells #[.int .i64 st, .int .i64 wl, .int .i64 wm, .int .i64 wt, .int .i64 pc, .bool pv, .int .i64 po, .int .i64 mc, .bool mv, .int .i64 mo, .int .i64 hc, .bool hv, .int .i64 ho, .int .i64 a, .bool k, .int .i64 q] 82)).alloc (.cells #[.int .i64 0, .int .i64 0, .int .i64 0, .int .i64 0, .int .i64 0, .bool false, .int .i64 0, .int .i64 0, .bool false, .int .i64 0, .int .i64 0, .bool false, .int .i64 0, .int .i64 0, .bool false, .int .i64 0] 82)) from by go_grown)
  simp only [size_alloc] at BZ
  refine (dright_any _ _ _ _ _ _ _ _ _ _ _ _ _ _ _ _ _).mono ?_
  rw [HR.out]
  rintro e w1 ⟨rfl, hb⟩
  have BD1 := Lib.hid (BD.out.below hb)
  have BZ1 := Lib.hid (BZ.out.below hb)
  have H1 := Lib.hid (H0.out.trans (hb.mono H0.out.size))
  clear hb BD BZ H0
  generalize hbz : w.heap.size + 1 = bz at BZ1 ⊢
  generalize hbd : w.heap.size = bd at BD1 ⊢
  have HBS := Lib.hid (show w.heap.size ≤ bd ∧ w.heap.size ≤ bz by omega)
  have hne : bd ≠ bz := by omega
  clear hbz hbd
  obtain ⟨y, y0, y1, y2, y3, y4, y5, y6, y7, y8, y9, y10, y11, y12, y13, y14, y15⟩ := Cells.at16 BD1.out
  go_wp2_with fail
  refine (wcome_any _ _ _ _ _ _ z _ HL.out hcap (HA.out.below H1.out)).mono ?_
  rw [HT.out, took_val]
  rintro e w2 ⟨rfl, hb⟩
  have BD2 := Lib.hid (BD1.out.below hb)
  have BZ2 := Lib.hid (BZ1.out.below hb)
  have H2 := Lib.hid (H1.out.trans (hb.mono H1.out.size))
  clear hb BD1 BZ1 H1 y y0 y1 y2 y3 y4 y5 y6 y7 y8 y9 y10 y11 y12 y13 y14 y15
  have BWN := Lib.hid ((Box3.new w2 (.int .i64 tl) (.int .i64 tm) (.int .i64 tt) 71).below ((Below.refl _ _).alloc (Nat.le_refl _) (.cells #[.int .i64 ts, .int .i64 td, .int .i64 tp] 49)))
  have BF := Lib.hid (Box3.new (w2.alloc (.cells #[.int .i64 tl, .int .i64 tm, .int .i64 tt] 71)) (.int .i64 ts) (.int .i64 td) (.int .i64 tp) 49)
  have hs2 := H2.out.size
  have BD3 := Lib.hid (BD2.out.below (show Below w2.heap.size w2 ((w2.alloc (.cells #[.int .i64 tl, .int .i64 tm, .int .i64 tt] 71)).alloc (.cells #[.int .i64 ts, .int .i64 td, .int .i64 tp] 49)) from by go_grown))
  have BZ3 := Lib.hid (BZ2.out.below (show Below w2.heap.size w2 ((w2.alloc (.cells #[.int .i64 tl, .int .i64 tm, .int .i64 tt] 71)).alloc (.cells #[.int .i64 ts, .int .i64 td, .int .i64 tp] 49)) from by go_grown))
  have H3 := Lib.hid (show Below w.heap.size w ((w2.alloc (.cells #[.int .i64 tl, .int .i64 tm, .int .i64 tt] 71)).alloc (.cells #[.int .i64 ts, .int .i64 td, .int .i64 tp] 49)) from by have hb2 := H2.out; go_grown)
  simp only [size_alloc] at BF
  have hn1 : bd ≠ w2.heap.size := by have := BD2.out.1; omega
  have hn2 : bz ≠ w2.heap.size := by have := BZ2.out.1; omega
  have hn3 : bd ≠ w2.heap.size + 1 := by have := BD2.out.1; omega
  clear hs2
  go_upto_region 4 with (fail)
  clear BD2 BZ2 H2
  generalize (w2.alloc (.cells #[.int .i64 tl, .int .i64 tm, .int .i64 tt] 71)).alloc (.cells #[.int .i64 ts, .int .i64 td, .int .i64 tp] 49) = w3 at *
  generalize w2.heap.size + 1 = bf at *
  generalize w2.heap.size = bw at *
  obtain ⟨u0, u1, u2, u3, u4, u5, u6⟩ := BWN.out
  obtain ⟨y, y0, y1, y2, y3, y4, y5, y6, y7, y8, y9, y10, y11, y12, y13, y14, y15⟩ := Cells.at16 BD3.out
  obtain ⟨f0, f1, f2, f3, f4, f5, f6, f7, f8, f9, f10, f11, f12, f13, f14, f15⟩ := Cells.free16 BD3.out
  go_upto_region 6 with (fail)
  have BD4 := Lib.hid (show Cells (((w3.setCell ⟨bd, 1, none⟩ (.int .i64 tl)).setCell ⟨bd, 2, none⟩ (.int .i64 tm)).setCell ⟨bd, 3, none⟩ (.int .i64 tt)) bd (Dr.cs ⟨st, ⟨tl, tm, tt⟩, ⟨pc, pv, po⟩, ⟨mc, mv, mo⟩, ⟨hc, hv, ho⟩, a, k, q⟩) from ((BD3.out.set 1 (.int .i64 tl)).set 2 (.int .i64 tm)).set 3 (.int .i64 tt))
  have BZ4 := Lib.hid (((BZ3.out.far hne 1 (.int .i64 tl)).far hne 2 (.int .i64 tm)).far hne 3 (.int .i64 tt))
  have H4 := Lib.hid (((H3.out.setCell (p := ⟨bd, 1, none⟩) HBS.out.1 (.int .i64 tl)).setCell (p := ⟨bd, 2, none⟩) HBS.out.1 (.int .i64 tm)).setCell (p := ⟨bd, 3, none⟩) HBS.out.1 (.int .i64 tt))
  clear u0 u1 u2 u3 u4 u5 u6 y y0 y1 y2 y3 y4 y5 y6 y7 y8 y9 y10 y11 y12 y13 y14 y15 f0 f1 f2 f3 f4 f5 f6 f7 f8 f9 f10 f11 f12 f13 f14 f15 BD3 BZ3 H3
  generalize ((w3.setCell ⟨bd, 1, none⟩ (.int .i64 tl)).setCell ⟨bd, 2, none⟩ (.int .i64 tm)).setCell ⟨bd, 3, none⟩ (.int .i64 tt) = w4 at *
  obtain ⟨y, y0, y1, y2, y3, y4, y5, y6, y7, y8, y9, y10, y11, y12, y13, y14, y15⟩ := Cells.at16 BD4.out
  obtain ⟨zz, z0, z1, z2, z3, z4, z5, z6, z7, z8, z9, z10, z11, z12, z13, z14, z15⟩ := Cells.at16 BZ4.out
  obtain ⟨f0, f1, f2, f3, f4, f5, f6, f7, f8, f9, f10, f11, f12, f13, f14, f15⟩ := Cells.free16 BZ4.out
  go_wp2_with fail
  have BZF := Lib.hid (show Cells ((((((((((((((((((w4).setCell ⟨bz, 0, none⟩ (.int .i64 st)).setCell ⟨bz, 1, none⟩ (.int .i64 tl)).setCell ⟨bz, 2, none⟩ (.int .i64 tm)).setCell ⟨bz, 3, none⟩ (.int .i64 tt)).setCell ⟨bz, 4, none⟩ (.int .i64 pc)).setCell ⟨bz, 5, none⟩ (.bool pv)).setCell ⟨bz, 6, none⟩ (.int .i64 po)).setCell ⟨bz, 7, none⟩ (.int .i64 mc)).setCell ⟨bz, 8, none⟩ (.bool mv)).setCell ⟨bz, 9, none⟩ (.int .i64 mo)).setCell ⟨bz, 10, none⟩ (.int .i64 hc)).setCell ⟨bz, 11, none⟩ (.bool hv)).setCell ⟨bz, 12, none⟩ (.int .i64 ho)).setCell ⟨bz, 13, none⟩ (.int .i64 a)).setCell ⟨bz, 14, none⟩ (.bool k)).setCell ⟨bz, 15, none⟩ (.int .i64 q))) bz _ from BZ4.out.put (Dr.cs ⟨st, ⟨tl, tm, tt⟩, ⟨pc, pv, po⟩, ⟨mc, mv, mo⟩, ⟨hc, hv, ho⟩, a, k, q⟩) rfl)
  have HFF := Lib.hid (show Below w.heap.size w ((((((((((((((((((w4).setCell ⟨bz, 0, none⟩ (.int .i64 st)).setCell ⟨bz, 1, none⟩ (.int .i64 tl)).setCell ⟨bz, 2, none⟩ (.int .i64 tm)).setCell ⟨bz, 3, none⟩ (.int .i64 tt)).setCell ⟨bz, 4, none⟩ (.int .i64 pc)).setCell ⟨bz, 5, none⟩ (.bool pv)).setCell ⟨bz, 6, none⟩ (.int .i64 po)).setCell ⟨bz, 7, none⟩ (.int .i64 mc)).setCell ⟨bz, 8, none⟩ (.bool mv)).setCell ⟨bz, 9, none⟩ (.int .i64 mo)).setCell ⟨bz, 10, none⟩ (.int .i64 hc)).setCell ⟨bz, 11, none⟩ (.bool hv)).setCell ⟨bz, 12, none⟩ (.int .i64 ho)).setCell ⟨bz, 13, none⟩ (.int .i64 a)).setCell ⟨bz, 14, none⟩ (.bool k)).setCell ⟨bz, 15, none⟩ (.int .i64 q))) from below_storeAll HBS.out.2 (Dr.cs ⟨st, ⟨tl, tm, tt⟩, ⟨pc, pv, po⟩, ⟨mc, mv, mo⟩, ⟨hc, hv, ho⟩, a, k, q⟩) 0 _ H4.out)
  clear y y0 y1 y2 y3 y4 y5 y6 y7 y8 y9 y10 y11 y12 y13 y14 y15 f0 f1 f2 f3 f4 f5 f6 f7 f8 f9 f10 f11 f12 f13 f14 f15 zz z0 z1 z2 z3 z4 z5 z6 z7 z8 z9 z10 z11 z12 z13 z14 z15
  generalize (((((((((((((((((w4).setCell ⟨bz, 0, none⟩ (.int .i64 st)).setCell ⟨bz, 1, none⟩ (.int .i64 tl)).setCell ⟨bz, 2, none⟩ (.int .i64 tm)).setCell ⟨bz, 3, none⟩ (.int .i64 tt)).setCell ⟨bz, 4, none⟩ (.int .i64 pc)).setCell ⟨bz, 5, none⟩ (.bool pv)).setCell ⟨bz, 6, none⟩ (.int .i64 po)).setCell ⟨bz, 7, none⟩ (.int .i64 mc)).setCell ⟨bz, 8, none⟩ (.bool mv)).setCell ⟨bz, 9, none⟩ (.int .i64 mo)).setCell ⟨bz, 10, none⟩ (.int .i64 hc)).setCell ⟨bz, 11, none⟩ (.bool hv)).setCell ⟨bz, 12, none⟩ (.int .i64 ho)).setCell ⟨bz, 13, none⟩ (.int .i64 a)).setCell ⟨bz, 14, none⟩ (.bool k)).setCell ⟨bz, 15, none⟩ (.int .i64 q)) = wF at *
  obtain ⟨y, y0, y1, y2, y3, y4, y5, y6, y7, y8, y9, y10, y11, y12, y13, y14, y15⟩ := Cells.at16 BZF.out
  refine bodyPost_ret (v := Dr.val ⟨st, ⟨tl, tm, tt⟩, ⟨pc, pv, po⟩, ⟨mc, mv, mo⟩, ⟨hc, hv, ho⟩, a, k, q⟩) (by simp [results, Try.results60, go_sem, Dr.val, Dr.cs, y0, y1, y2, y3, y4, y5, y6, y7, y8, y9, y10, y11, y12, y13, y14, y15]) rfl ⟨rfl, HFF.out⟩
end Go.Proofs.Ytnabpdengfmeaaa
