/- Layer 7: the contract of servitorref07.Come where the frame counts. (Written by a program of mine, gen_drivecome.py.) -/
import Derived.Test.YtnabpdengfmeaaaDriveCells
import Derived.Test.YtnabpdengfmeaaaDriveRef
namespace Go.Proofs.Ytnabpdengfmeaaa
open Go.RowKit

set_option maxHeartbeats 8000000 in
set_option maxRecDepth 100000 in
theorem rdcome_yes (st wl wm wt pc po mc mo hc ho a q : Int) (pv mv hv k : Bool) (ad : Option Addr) (len cap : Nat) (z : List Int) (w : World) (pc1 po1 mc1 mo1 hc1 ho1 : Int) (pv1 mv1 hv1 : Bool) (tl tm tt ts td tp : Int) (hl : z.length = len) (hcap : len ≤ cap) (h : Reads w ad z) (hT : comeG ⟨wl, wm, wt⟩ (Fr.readN 70 127 z) = ⟨⟨tl, tm, tt⟩, ts, td, tp, true⟩) (ht0 : 0 ≤ td) (ht1 : td ≤ 127) (gp : rightB ⟨pc, pv, po⟩ = true) (gm : rightB ⟨mc, mv, mo⟩ = true) (gh : rightB ⟨hc, hv, ho⟩ = true) (hp : stepS ⟨pc, pv, po⟩ (td / 16 % 2 == 1) = ⟨pc1, pv1, po1⟩) (hm : stepS ⟨mc, mv, mo⟩ (td / 32 % 2 == 1) = ⟨mc1, mv1, mo1⟩) (hh : stepS ⟨hc, hv, ho⟩ (td / 64 % 2 == 1) = ⟨hc1, hv1, ho1⟩) :
    Calls Try.prog 66 #[.agg #[.int .i64 st, .int .i64 wl, .int .i64 wm, .int .i64 wt, .int .i64 pc, .bool pv, .int .i64 po, .int .i64 mc, .bool mv, .int .i64 mo, .int .i64 hc, .bool hv, .int .i64 ho, .int .i64 a, .bool k, .int .i64 q], .slice ad len cap] w fun e w' => e = .returned (Dr.val ⟨stateN td, ⟨tl, tm, tt⟩, ⟨pc1, pv1, po1⟩, ⟨mc1, mv1, mo1⟩, ⟨hc1, hv1, ho1⟩, tp, true, q⟩) ∧ Below w.heap.size w w' := by
  have HL := Lib.hid hl
  have HA := Lib.hid h
  have HT := Lib.hid hT
  have HSp := Lib.hid hp
  have HSm := Lib.hid hm
  have HSh := Lib.hid hh
  have HGp := Lib.hid gp
  have HGm := Lib.hid gm
  have HGh := Lib.hid gh
  clear hl h hT hp hm hh gp gm gh
  go_enter Try.func66, Try.ntmps66
  have BD1 := Lib.hid (show Cells ((w.alloc (.cells #[.int .i64 st, .int .i64 wl, .int .i64 wm, .int .i64 wt, .int .i64 pc, .bool pv, .int .i64 po, .int .i64 mc, .bool mv, .int .i64 mo, .int .i64 hc, .bool hv, .int .i64 ho, .int .i64 a, .bool k, .int .i64 q] 82)).alloc (.cells #[.int .i64 0, .int .i64 0, .int .i64 0, .int .i64 0, .int .i64 0, .bool false, .int .i64 0, .int .i64 0, .bool false, .int .i64 0, .int .i64 0, .bool false, .int .i64 0, .int .i64 0, .bool false, .int .i64 0] 82)) w.heap.size (Dr.cs ⟨st, ⟨wl, wm, wt⟩, ⟨pc, pv, po⟩, ⟨mc, mv, mo⟩, ⟨hc, hv, ho⟩, a, k, q⟩) from (Cells.new w (Dr.cs ⟨st, ⟨wl, wm, wt⟩, ⟨pc, pv, po⟩, ⟨mc, mv, mo⟩, ⟨hc, hv, ho⟩, a, k, q⟩) 82).below ((Below.refl _ _).alloc (Nat.le_refl _) (.cells #[.int .i64 0, .int .i64 0, .int .i64 0, .int .i64 0, .int .i64 0, .bool false, .int .i64 0, .int .i64 0, .bool false, .int .i64 0, .int .i64 0, .bool false, .int .i64 0, .int .i64 0, .bool false, .int .i64 0] 82)))
  have BZ1 := Lib.hid (Cells.new (w.alloc (.cells #[.int .i64 st, .int .i64 wl, .int .i64 wm, .int .i64 wt, .int .i64 pc, .bool pv, .int .i64 po, .int .i64 mc, .bool mv, .int .i64 mo, .int .i64 hc, .bool hv, .int .i64 ho, .int .i64 a, .bool k, .int .i64 q] 82)) [.int .i64 0, .int .i64 0, .int .i64 0, .int .i64 0, .int .i64 0, .bool false, .int .i64 0, .int .i64 0, .bool false, .int .i64 0, .int .i64 0, .bool false, .int .i64 0, .int .i64 0, .bool false, .int .i64 0] 82)
  have H1 := Lib.hid (show Below w.heap.size w ((w.alloc (.cells #[.int .i64 st, .int .i64 wl, .int .i64 wm, .int .i64 wt, .int .i64 pc, .bool pv, .int .i64 po, .int .i64 mc, .bool mv, .int .i64 mo, .int .i64 hc, .bool hv, .int .i64 ho, .int .i64 a, .bool k, .int .i64 q] 82)).alloc (.cells #[.int .i64 0, .int .i64 0, .int .i64 0, .int .i64 0, .int .i64 0, .bool false, .int .i64 0, .int .i64 0, .bool false, .int .i64 0, .int .i64 0, .bool false, .int .i64 0, .int .i64 0, .bool false, .int .i64 0] 82)) from by go_grown)
  simp only [size_alloc] at BZ1
  go_upto_region 1 with (fail)
  generalize (w.alloc (.cells #[.int .i64 st, .int .i64 wl, .int .i64 wm, .int .i64 wt, .int .i64 pc, .bool pv, .int .i64 po, .int .i64 mc, .bool mv, .int .i64 mo, .int .i64 hc, .bool hv, .int .i64 ho, .int .i64 a, .bool k, .int .i64 q] 82)).alloc (.cells #[.int .i64 0, .int .i64 0, .int .i64 0, .int .i64 0, .int .i64 0, .bool false, .int .i64 0, .int .i64 0, .bool false, .int .i64 0, .int .i64 0, .bool false, .int .i64 0, .int .i64 0, .bool false, .int .i64 0] 82) = w1 at *
  generalize hbz : w.heap.size + 1 = bz at BZ1 ⊢
  generalize hbd : w.heap.size = bd at BD1 ⊢
  have HBS := Lib.hid (show w.heap.size ≤ bd ∧ w.heap.size ≤ bz by omega)
  have hne : bd ≠ bz := by omega
  clear hbz hbd
  obtain ⟨y, y0, y1, y2, y3, y4, y5, y6, y7, y8, y9, y10, y11, y12, y13, y14, y15⟩ := Cells.at16 BD1.out
  go_wp2_with fail
  refine (rwcome_any _ _ _ _ _ _ z _ HL.out hcap (HA.out.below H1.out)).mono ?_
  rw [HT.out, took_val]
  rintro e w2 ⟨rfl, hb⟩
  have BD2 := Lib.hid (BD1.out.below hb)
  have BZ2 := Lib.hid (BZ1.out.below hb)
  have H2 := Lib.hid (H1.out.trans (hb.mono H1.out.size))
  clear hb BD1 BZ1 H1 y y0 y1 y2 y3 y4 y5 y6 y7 y8 y9 y10 y11 y12 y13 y14 y15
  have BWN := Lib.hid ((Box3.new w2 (.int .i64 tl) (.int .i64 tm) (.int .i64 tt) 71).below ((Below.refl _ _).alloc (Nat.le_refl _) (.cells #[.int .i64 ts, .int .i64 td, .int .i64 tp] 49)))
  have BF := Lib.hid (Box3.new (w2.alloc (.cells #[.int .i64 tl, .int .i64 tm, .int .i64 tt] 71)) (.int .i64 ts) (.int .i64 td) (.int .i64 tp) 49)
  have hs2 := H2.out.size
  have BD3 := Lib.hid (BD2.out.below (show Below w2.heap.size w2 ((w2.alloc (.cells #[.int .i64 tl, .int .i64 tm, .int .i64 tt] 71)).alloc (.cells #[.int .i64 ts, .int .i64 td, .int .i64 tp] 49)) from by go_grown))
  have BZ3 := Lib.hid (BZ2.out.below (show Below w2.heap.size w2 ((w2.alloc (.cells #[.int .i64 tl, .int .i64 tm, .int .i64 tt] 71)).alloc (.cells #[.int .i64 ts, .int .i64 td, .int .i64 tp] 49)) from by go_grown))
  have H3 := Lib.hid (show Below w.heap.size w ((w2.alloc (.cells #[.int .i64 tl, .int .i64 tm, .int .i64 tt] 71)).alloc (.cells #[.int .i64 ts, .int .i64 td, .int .i64 tp] 49)) from by have hb2 := H2.out; go_grown)
  simp only [size_alloc] at BF
  have hn1 : bd ≠ w2.heap.size := by have := BD2.out.1; omega
  have hn2 : bz ≠ w2.heap.size := by have := BZ2.out.1; omega
  have hn3 : bd ≠ w2.heap.size + 1 := by have := BD2.out.1; omega
  clear hs2
  go_upto_region 2 with (fail)
  clear BD2 BZ2 H2
  generalize (w2.alloc (.cells #[.int .i64 tl, .int .i64 tm, .int .i64 tt] 71)).alloc (.cells #[.int .i64 ts, .int .i64 td, .int .i64 tp] 49) = w3 at *
  generalize w2.heap.size + 1 = bf at *
  generalize w2.heap.size = bw at *
  obtain ⟨u0, u1, u2, u3, u4, u5, u6⟩ := BWN.out
  obtain ⟨y, y0, y1, y2, y3, y4, y5, y6, y7, y8, y9, y10, y11, y12, y13, y14, y15⟩ := Cells.at16 BD3.out
  obtain ⟨f0, f1, f2, f3, f4, f5, f6, f7, f8, f9, f10, f11, f12, f13, f14, f15⟩ := Cells.free16 BD3.out
  go_upto_region 4 with (fail)
  have BD4 := Lib.hid (show Cells (((w3.setCell ⟨bd, 1, none⟩ (.int .i64 tl)).setCell ⟨bd, 2, none⟩ (.int .i64 tm)).setCell ⟨bd, 3, none⟩ (.int .i64 tt)) bd (Dr.cs ⟨st, ⟨tl, tm, tt⟩, ⟨pc, pv, po⟩, ⟨mc, mv, mo⟩, ⟨hc, hv, ho⟩, a, k, q⟩) from ((BD3.out.set 1 (.int .i64 tl)).set 2 (.int .i64 tm)).set 3 (.int .i64 tt))
  have BZ4 := Lib.hid (((BZ3.out.far hne 1 (.int .i64 tl)).far hne 2 (.int .i64 tm)).far hne 3 (.int .i64 tt))
  have H4 := Lib.hid (((H3.out.setCell (p := ⟨bd, 1, none⟩) HBS.out.1 (.int .i64 tl)).setCell (p := ⟨bd, 2, none⟩) HBS.out.1 (.int .i64 tm)).setCell (p := ⟨bd, 3, none⟩) HBS.out.1 (.int .i64 tt))
  have BF4 := Lib.hid (((BF.out.far1 hn3 1 (.int .i64 tl)).far1 hn3 2 (.int .i64 tm)).far1 hn3 3 (.int .i64 tt))
  clear BF
  clear u0 u1 u2 u3 u4 u5 u6 y y0 y1 y2 y3 y4 y5 y6 y7 y8 y9 y10 y11 y12 y13 y14 y15 f0 f1 f2 f3 f4 f5 f6 f7 f8 f9 f10 f11 f12 f13 f14 f15 BD3 BZ3 H3
  generalize ((w3.setCell ⟨bd, 1, none⟩ (.int .i64 tl)).setCell ⟨bd, 2, none⟩ (.int .i64 tm)).setCell ⟨bd, 3, none⟩ (.int .i64 tt) = w4 at *
  obtain ⟨u0, u1, u2, u3, u4, u5, u6⟩ := BF4.out
  obtain ⟨y, y0, y1, y2, y3, y4, y5, y6, y7, y8, y9, y10, y11, y12, y13, y14, y15⟩ := Cells.at16 BD4.out
  obtain ⟨f0, f1, f2, f3, f4, f5, f6, f7, f8, f9, f10, f11, f12, f13, f14, f15⟩ := Cells.free16 BD4.out
  have hn4 : bf ≠ bd := hn3.symm
  go_wp2_with fail
  refine (rstate_any _ _).mono ?_
  rintro e wk ⟨rfl, rfl⟩
  go_upto_region 7 with (fail)
  have BD5 := Lib.hid (show Cells (((w4.setCell ⟨bd, 0, none⟩ (.int .i64 (stateN td))).setCell ⟨bd, 13, none⟩ (.int .i64 tp)).setCell ⟨bd, 14, none⟩ (.bool true)) bd (Dr.cs ⟨stateN td, ⟨tl, tm, tt⟩, ⟨pc, pv, po⟩, ⟨mc, mv, mo⟩, ⟨hc, hv, ho⟩, tp, true, q⟩) from ((BD4.out.set 0 (.int .i64 (stateN td))).set 13 (.int .i64 tp)).set 14 (.bool true))
  have BF5 := Lib.hid (((BF4.out.far1 hn3 0 (.int .i64 (stateN td))).far1 hn3 13 (.int .i64 tp)).far1 hn3 14 (.bool true))
  have BZ5 := Lib.hid (((BZ4.out.far hne 0 (.int .i64 (stateN td))).far hne 13 (.int .i64 tp)).far hne 14 (.bool true))
  have H5 := Lib.hid (((H4.out.setCell (p := ⟨bd, 0, none⟩) HBS.out.1 (.int .i64 (stateN td))).setCell (p := ⟨bd, 13, none⟩) HBS.out.1 (.int .i64 tp)).setCell (p := ⟨bd, 14, none⟩) HBS.out.1 (.bool true))
  clear u0 u1 u2 u3 u4 u5 u6 y y0 y1 y2 y3 y4 y5 y6 y7 y8 y9 y10 y11 y12 y13 y14 y15 f0 f1 f2 f3 f4 f5 f6 f7 f8 f9 f10 f11 f12 f13 f14 f15 BD4 BF4 BZ4 H4
  generalize ((w4.setCell ⟨bd, 0, none⟩ (.int .i64 (stateN td))).setCell ⟨bd, 13, none⟩ (.int .i64 tp)).setCell ⟨bd, 14, none⟩ (.bool true) = w5 at *
  obtain ⟨u0, u1, u2, u3, u4, u5, u6⟩ := BF5.out
  obtain ⟨y, y0, y1, y2, y3, y4, y5, y6, y7, y8, y9, y10, y11, y12, y13, y14, y15⟩ := Cells.at16 BD5.out
  go_wp2_with fail
  refine (switch_any _ _ _ _ _ HGp.out).mono ?_
  rw [HSp.out, sw_val]
  rintro e w6 ⟨rfl, hb⟩
  have BD6 := Lib.hid (BD5.out.below hb)
  have BF6 := Lib.hid (BF5.out.below hb)
  have BZ6 := Lib.hid (BZ5.out.below hb)
  have H6 := Lib.hid (H5.out.trans (hb.mono H5.out.size))
  clear hb HSp u0 u1 u2 u3 u4 u5 u6 y y0 y1 y2 y3 y4 y5 y6 y7 y8 y9 y10 y11 y12 y13 y14 y15 BD5 BF5 BZ5 H5
  obtain ⟨y, y0, y1, y2, y3, y4, y5, y6, y7, y8, y9, y10, y11, y12, y13, y14, y15⟩ := Cells.at16 BD6.out
  obtain ⟨f0, f1, f2, f3, f4, f5, f6, f7, f8, f9, f10, f11, f12, f13, f14, f15⟩ := Cells.free16 BD6.out
  go_upto_region 8 with (fail)
  have BD7 := Lib.hid (show Cells (((w6.setCell ⟨bd, 4, none⟩ (.int .i64 pc1)).setCell ⟨bd, 5, none⟩ (.bool pv1)).setCell ⟨bd, 6, none⟩ (.int .i64 po1)) bd (Dr.cs ⟨stateN td, ⟨tl, tm, tt⟩, ⟨pc1, pv1, po1⟩, ⟨mc, mv, mo⟩, ⟨hc, hv, ho⟩, tp, true, q⟩) from ((BD6.out.set 4 (.int .i64 pc1)).set 5 (.bool pv1)).set 6 (.int .i64 po1))
  have BF7 := Lib.hid (((BF6.out.far1 hn3 4 (.int .i64 pc1)).far1 hn3 5 (.bool pv1)).far1 hn3 6 (.int .i64 po1))
  have BZ7 := Lib.hid (((BZ6.out.far hne 4 (.int .i64 pc1)).far hne 5 (.bool pv1)).far hne 6 (.int .i64 po1))
  have H7 := Lib.hid (((H6.out.setCell (p := ⟨bd, 4, none⟩) HBS.out.1 (.int .i64 pc1)).setCell (p := ⟨bd, 5, none⟩) HBS.out.1 (.bool pv1)).setCell (p := ⟨bd, 6, none⟩) HBS.out.1 (.int .i64 po1))
  clear y y0 y1 y2 y3 y4 y5 y6 y7 y8 y9 y10 y11 y12 y13 y14 y15 f0 f1 f2 f3 f4 f5 f6 f7 f8 f9 f10 f11 f12 f13 f14 f15 BD6 BF6 BZ6 H6
  generalize (((w6.setCell ⟨bd, 4, none⟩ (.int .i64 pc1)).setCell ⟨bd, 5, none⟩ (.bool pv1)).setCell ⟨bd, 6, none⟩ (.int .i64 po1)) = w7 at *
  obtain ⟨u0, u1, u2, u3, u4, u5, u6⟩ := BF7.out
  obtain ⟨y, y0, y1, y2, y3, y4, y5, y6, y7, y8, y9, y10, y11, y12, y13, y14, y15⟩ := Cells.at16 BD7.out
  go_wp2_with fail
  refine (switch_any _ _ _ _ _ HGm.out).mono ?_
  rw [HSm.out, sw_val]
  rintro e w8 ⟨rfl, hb⟩
  have BD8 := Lib.hid (BD7.out.below hb)
  have BF8 := Lib.hid (BF7.out.below hb)
  have BZ8 := Lib.hid (BZ7.out.below hb)
  have H8 := Lib.hid (H7.out.trans (hb.mono H7.out.size))
  clear hb HSm u0 u1 u2 u3 u4 u5 u6 y y0 y1 y2 y3 y4 y5 y6 y7 y8 y9 y10 y11 y12 y13 y14 y15 BD7 BF7 BZ7 H7
  obtain ⟨y, y0, y1, y2, y3, y4, y5, y6, y7, y8, y9, y10, y11, y12, y13, y14, y15⟩ := Cells.at16 BD8.out
  obtain ⟨f0, f1, f2, f3, f4, f5, f6, f7, f8, f9, f10, f11, f12, f13, f14, f15⟩ := Cells.free16 BD8.out
  go_upto_region 9 with (fail)
  have BD9 := Lib.hid (show Cells (((w8.setCell ⟨bd, 7, none⟩ (.int .i64 mc1)).setCell ⟨bd, 8, none⟩ (.bool mv1)).setCell ⟨bd, 9, none⟩ (.int .i64 mo1)) bd (Dr.cs ⟨stateN td, ⟨tl, tm, tt⟩, ⟨pc1, pv1, po1⟩, ⟨mc1, mv1, mo1⟩, ⟨hc, hv, ho⟩, tp, true, q⟩) from ((BD8.out.set 7 (.int .i64 mc1)).set 8 (.bool mv1)).set 9 (.int .i64 mo1))
  have BF9 := Lib.hid (((BF8.out.far1 hn3 7 (.int .i64 mc1)).far1 hn3 8 (.bool mv1)).far1 hn3 9 (.int .i64 mo1))
  have BZ9 := Lib.hid (((BZ8.out.far hne 7 (.int .i64 mc1)).far hne 8 (.bool mv1)).far hne 9 (.int .i64 mo1))
  have H9 := Lib.hid (((H8.out.setCell (p := ⟨bd, 7, none⟩) HBS.out.1 (.int .i64 mc1)).setCell (p := ⟨bd, 8, none⟩) HBS.out.1 (.bool mv1)).setCell (p := ⟨bd, 9, none⟩) HBS.out.1 (.int .i64 mo1))
  clear y y0 y1 y2 y3 y4 y5 y6 y7 y8 y9 y10 y11 y12 y13 y14 y15 f0 f1 f2 f3 f4 f5 f6 f7 f8 f9 f10 f11 f12 f13 f14 f15 BD8 BF8 BZ8 H8
  generalize (((w8.setCell ⟨bd, 7, none⟩ (.int .i64 mc1)).setCell ⟨bd, 8, none⟩ (.bool mv1)).setCell ⟨bd, 9, none⟩ (.int .i64 mo1)) = w9 at *
  obtain ⟨u0, u1, u2, u3, u4, u5, u6⟩ := BF9.out
  obtain ⟨y, y0, y1, y2, y3, y4, y5, y6, y7, y8, y9, y10, y11, y12, y13, y14, y15⟩ := Cells.at16 BD9.out
  go_wp2_with fail
  refine (switch_any _ _ _ _ _ HGh.out).mono ?_
  rw [HSh.out, sw_val]
  rintro e w10 ⟨rfl, hb⟩
  have BD10 := Lib.hid (BD9.out.below hb)
  have BF10 := Lib.hid (BF9.out.below hb)
  have BZ10 := Lib.hid (BZ9.out.below hb)
  have H10 := Lib.hid (H9.out.trans (hb.mono H9.out.size))
  clear hb HSh u0 u1 u2 u3 u4 u5 u6 y y0 y1 y2 y3 y4 y5 y6 y7 y8 y9 y10 y11 y12 y13 y14 y15 BD9 BF9 BZ9 H9
  obtain ⟨y, y0, y1, y2, y3, y4, y5, y6, y7, y8, y9, y10, y11, y12, y13, y14, y15⟩ := Cells.at16 BD10.out
  obtain ⟨f0, f1, f2, f3, f4, f5, f6, f7, f8, f9, f10, f11, f12, f13, f14, f15⟩ := Cells.free16 BD10.out
  go_upto_region 10 with (fail)
  have BD11 := Lib.hid (show Cells (((w10.setCell ⟨bd, 10, none⟩ (.int .i64 hc1)).setCell ⟨bd, 11, none⟩ (.bool hv1)).setCell ⟨bd, 12, none⟩ (.int .i64 ho1)) bd (Dr.cs ⟨stateN td, ⟨tl, tm, tt⟩, ⟨pc1, pv1, po1⟩, ⟨mc1, mv1, mo1⟩, ⟨hc1, hv1, ho1⟩, tp, true, q⟩) from ((BD10.out.set 10 (.int .i64 hc1)).set 11 (.bool hv1)).set 12 (.int .i64 ho1))
  have BF11 := Lib.hid (((BF10.out.far1 hn3 10 (.int .i64 hc1)).far1 hn3 11 (.bool hv1)).far1 hn3 12 (.int .i64 ho1))
  have BZ11 := Lib.hid (((BZ10.out.far hne 10 (.int .i64 hc1)).far hne 11 (.bool hv1)).far hne 12 (.int .i64 ho1))
  have H11 := Lib.hid (((H10.out.setCell (p := ⟨bd, 10, none⟩) HBS.out.1 (.int .i64 hc1)).setCell (p := ⟨bd, 11, none⟩) HBS.out.1 (.bool hv1)).setCell (p := ⟨bd, 12, none⟩) HBS.out.1 (.int .i64 ho1))
  clear y y0 y1 y2 y3 y4 y5 y6 y7 y8 y9 y10 y11 y12 y13 y14 y15 f0 f1 f2 f3 f4 f5 f6 f7 f8 f9 f10 f11 f12 f13 f14 f15 BD10 BF10 BZ10 H10
  generalize (((w10.setCell ⟨bd, 10, none⟩ (.int .i64 hc1)).setCell ⟨bd, 11, none⟩ (.bool hv1)).setCell ⟨bd, 12, none⟩ (.int .i64 ho1)) = w11 at *
  clear BF11
  obtain ⟨y, y0, y1, y2, y3, y4, y5, y6, y7, y8, y9, y10, y11, y12, y13, y14, y15⟩ := Cells.at16 BD11.out
  obtain ⟨zz, z0, z1, z2, z3, z4, z5, z6, z7, z8, z9, z10, z11, z12, z13, z14, z15⟩ := Cells.at16 BZ11.out
  obtain ⟨f0, f1, f2, f3, f4, f5, f6, f7, f8, f9, f10, f11, f12, f13, f14, f15⟩ := Cells.free16 BZ11.out
  go_wp2_with fail
  have BZF := Lib.hid (show Cells ((((((((((((((((((w11).setCell ⟨bz, 0, none⟩ (.int .i64 (stateN td))).setCell ⟨bz, 1, none⟩ (.int .i64 tl)).setCell ⟨bz, 2, none⟩ (.int .i64 tm)).setCell ⟨bz, 3, none⟩ (.int .i64 tt)).setCell ⟨bz, 4, none⟩ (.int .i64 pc1)).setCell ⟨bz, 5, none⟩ (.bool pv1)).setCell ⟨bz, 6, none⟩ (.int .i64 po1)).setCell ⟨bz, 7, none⟩ (.int .i64 mc1)).setCell ⟨bz, 8, none⟩ (.bool mv1)).setCell ⟨bz, 9, none⟩ (.int .i64 mo1)).setCell ⟨bz, 10, none⟩ (.int .i64 hc1)).setCell ⟨bz, 11, none⟩ (.bool hv1)).setCell ⟨bz, 12, none⟩ (.int .i64 ho1)).setCell ⟨bz, 13, none⟩ (.int .i64 tp)).setCell ⟨bz, 14, none⟩ (.bool true)).setCell ⟨bz, 15, none⟩ (.int .i64 q))) bz _ from BZ11.out.put (Dr.cs ⟨stateN td, ⟨tl, tm, tt⟩, ⟨pc1, pv1, po1⟩, ⟨mc1, mv1, mo1⟩, ⟨hc1, hv1, ho1⟩, tp, true, q⟩) rfl)
  have HFF := Lib.hid (show Below w.heap.size w ((((((((((((((((((w11).setCell ⟨bz, 0, none⟩ (.int .i64 (stateN td))).setCell ⟨bz, 1, none⟩ (.int .i64 tl)).setCell ⟨bz, 2, none⟩ (.int .i64 tm)).setCell ⟨bz, 3, none⟩ (.int .i64 tt)).setCell ⟨bz, 4, none⟩ (.int .i64 pc1)).setCell ⟨bz, 5, none⟩ (.bool pv1)).setCell ⟨bz, 6, none⟩ (.int .i64 po1)).setCell ⟨bz, 7, none⟩ (.int .i64 mc1)).setCell ⟨bz, 8, none⟩ (.bool mv1)).setCell ⟨bz, 9, none⟩ (.int .i64 mo1)).setCell ⟨bz, 10, none⟩ (.int .i64 hc1)).setCell ⟨bz, 11, none⟩ (.bool hv1)).setCell ⟨bz, 12, none⟩ (.int .i64 ho1)).setCell ⟨bz, 13, none⟩ (.int .i64 tp)).setCell ⟨bz, 14, none⟩ (.bool true)).setCell ⟨bz, 15, none⟩ (.int .i64 q))) from below_storeAll HBS.out.2 (Dr.cs ⟨stateN td, ⟨tl, tm, tt⟩, ⟨pc1, pv1, po1⟩, ⟨mc1, mv1, mo1⟩, ⟨hc1, hv1, ho1⟩, tp, true, q⟩) 0 _ H11.out)
  clear y y0 y1 y2 y3 y4 y5 y6 y7 y8 y9 y10 y11 y12 y13 y14 y15 f0 f1 f2 f3 f4 f5 f6 f7 f8 f9 f10 f11 f12 f13 f14 f15 zz z0 z1 z2 z3 z4 z5 z6 z7 z8 z9 z10 z11 z12 z13 z14 z15
  generalize (((((((((((((((((w11).setCell ⟨bz, 0, none⟩ (.int .i64 (stateN td))).setCell ⟨bz, 1, none⟩ (.int .i64 tl)).setCell ⟨bz, 2, none⟩ (.int .i64 tm)).setCell ⟨bz, 3, none⟩ (.int .i64 tt)).setCell ⟨bz, 4, none⟩ (.int .i64 pc1)).setCell ⟨bz, 5, none⟩ (.bool pv1)).setCell ⟨bz, 6, none⟩ (.int .i64 po1)).setCell ⟨bz, 7, none⟩ (.int .i64 mc1)).setCell ⟨bz, 8, none⟩ (.bool mv1)).setCell ⟨bz, 9, none⟩ (.int .i64 mo1)).setCell ⟨bz, 10, none⟩ (.int .i64 hc1)).setCell ⟨bz, 11, none⟩ (.bool hv1)).setCell ⟨bz, 12, none⟩ (.int .i64 ho1)).setCell ⟨bz, 13, none⟩ (.int .i64 tp)).setCell ⟨bz, 14, none⟩ (.bool true)).setCell ⟨bz, 15, none⟩ (.int .i64 q)) = wF at *
  obtain ⟨y, y0, y1, y2, y3, y4, y5, y6, y7, y8, y9, y10, y11, y12, y13, y14, y15⟩ := Cells.at16 BZF.out
  refine bodyPost_ret (v := Dr.val ⟨stateN td, ⟨tl, tm, tt⟩, ⟨pc1, pv1, po1⟩, ⟨mc1, mv1, mo1⟩, ⟨hc1, hv1, ho1⟩, tp, true, q⟩) (by simp [results, Try.results66, go_sem, Dr.val, Dr.cs, y0, y1, y2, y3, y4, y5, y6, y7, y8, y9, y10, y11, y12, y13, y14, y15]) rfl ⟨rfl, HFF.out⟩
end Go.Proofs.Ytnabpdengfmeaaa
