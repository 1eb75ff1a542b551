/- Layer 7: the contract of servitorref07.Tell. -/
import Derived.Test.YtnabpdengfmeaaaDriveTell
import Derived.Test.YtnabpdengfmeaaaFrameRef
namespace Go.Proofs.Ytnabpdengfmeaaa
open Go.RowKit

set_option maxHeartbeats 8000000 in
set_option maxRecDepth 100000 in
theorem rtell_255 (st wl wm wt pc po mc mo hc ho a q : Int) (pv mv hv k : Bool) (want clear : Bool) (target : Int) (w : World) (hq0 : 0 ≤ q) (hq1 : q ≤ 255) (h255 : q = 255) :
    Calls Try.prog 65 #[.agg #[.int .i64 st, .int .i64 wl, .int .i64 wm, .int .i64 wt, .int .i64 pc, .bool pv, .int .i64 po, .int .i64 mc, .bool mv, .int .i64 mo, .int .i64 hc, .bool hv, .int .i64 ho, .int .i64 a, .bool k, .int .i64 q], .bool want, .bool clear, .int .i64 target] w fun e w' =>
      ∃ v, e = .returned (.tuple #[Dr.val ⟨st, ⟨wl, wm, wt⟩, ⟨pc, pv, po⟩, ⟨mc, mv, mo⟩, ⟨hc, hv, ho⟩, a, k, tellQ q⟩, v]) ∧ Own w' w.heap.size v (putL 83 7 q (controlN st want clear) target) ∧ Below w.heap.size w w' := by
  have H255 := Lib.hid h255
  clear h255
  go_enter Try.func65, Try.ntmps65
  have BD := Lib.hid (show Cells ((w.alloc (.cells #[.int .i64 st, .int .i64 wl, .int .i64 wm, .int .i64 wt, .int .i64 pc, .bool pv, .int .i64 po, .int .i64 mc, .bool mv, .int .i64 mo, .int .i64 hc, .bool hv, .int .i64 ho, .int .i64 a, .bool k, .int .i64 q] 82)).alloc (.cells #[.int .i64 0, .int .i64 0, .int .i64 0, .int .i64 0, .int .i64 0, .bool false, .int .i64 0, .int .i64 0, .bool false, .int .i64 0, .int .i64 0, .bool false, .int .i64 0, .int .i64 0, .bool false, .int .i64 0] 82)) w.heap.size (Dr.cs ⟨st, ⟨wl, wm, wt⟩, ⟨pc, pv, po⟩, ⟨mc, mv, mo⟩, ⟨hc, hv, ho⟩, a, k, q⟩) from (Cells.new w (Dr.cs ⟨st, ⟨wl, wm, wt⟩, ⟨pc, pv, po⟩, ⟨mc, mv, mo⟩, ⟨hc, hv, ho⟩, a, k, q⟩) 82).below ((Below.refl _ _).alloc (Nat.le_refl _) (.cells #[.int .i64 0, .int .i64 0, .int .i64 0, .int .i64 0, .int .i64 0, .bool false, .int .i64 0, .int .i64 0, .bool false, .int .i64 0, .int .i64 0, .bool false, .int .i64 0, .int .i64 0, .bool false, .int .i64 0] 82)))
  have BZ := Lib.hid (Cells.new (w.alloc (.cells #[.int .i64 st, .int .i64 wl, .int .i64 wm, .int .i64 wt, .int .i64 pc, .bool pv, .int .i64 po, .int .i64 mc, .bool mv, .int .i64 mo, .int .i64 hc, .bool hv, .int .i64 ho, .int .i64 a, .bool k, .int .i64 q] 82)) [.int .i64 0, .int .i64 0, .int .i64 0, .int .i64 0, .int .i64 0, .bool false, .int .i64 0, .int .i64 0, .bool false, .int .i64 0, .int .i64 0, .bool false, .int .i64 0, .int .i64 0, .bool false, .int .i64 0] 82)
  have H0 := Lib.hid (show Below w.heap.size w ((w.alloc (.cells #[.int .i64 st, .int .i64 wl, .int .i64 wm, .int .i64 wt, .int .i64 pc, .bool pv, .int .i64 po, .int .i64 mc, .bool mv, .int .i64 mo, .int .i64 hc, .bool hv, .int .i64 ho, .int .i64 a, .bool k, .int .i64 q] 82)).alloc (.cells #[.int .i64 0, .int .i64 0, .int .i64 0, .int .i64 0, .int .i64 0, .bool false, .int .i64 0, .int .i64 0, .bool false, .int .i64 0, .int .i64 0, .bool false, .int .i64 0, .int .i64 0, .bool false, .int .i64 0] 82)) from by go_grown)
  simp only [size_alloc] at BZ
  go_wp2_with fail
  have BD1 := BD
  have BZ1 := BZ
  have H1 := H0
  clear BD BZ H0
  generalize (w.alloc (.cells #[.int .i64 st, .int .i64 wl, .int .i64 wm, .int .i64 wt, .int .i64 pc, .bool pv, .int .i64 po, .int .i64 mc, .bool mv, .int .i64 mo, .int .i64 hc, .bool hv, .int .i64 ho, .int .i64 a, .bool k, .int .i64 q] 82)).alloc (.cells #[.int .i64 0, .int .i64 0, .int .i64 0, .int .i64 0, .int .i64 0, .bool false, .int .i64 0, .int .i64 0, .bool false, .int .i64 0, .int .i64 0, .bool false, .int .i64 0, .int .i64 0, .bool false, .int .i64 0] 82) = w1 at *
  generalize hbz : w.heap.size + 1 = bz at BZ1 ⊢
  generalize hbd : w.heap.size = bd at BD1 ⊢
  have HBS := Lib.hid (show w.heap.size ≤ bd ∧ w.heap.size ≤ bz by omega)
  have hne : bd ≠ bz := by omega
  clear hbz hbd
  obtain ⟨y, y0, y1, y2, y3, y4, y5, y6, y7, y8, y9, y10, y11, y12, y13, y14, y15⟩ := Cells.at16 BD1.out
  go_region_held3 (fun w' => w'.cell? ⟨bd, 15, none⟩ = some (.int .i64 q) ∧ w'.cell? ⟨bd, 0, none⟩ = some (.int .i64 st))
    (exact ⟨((show Below w1.heap.size w1 _ from by go_grown).cell (p := ⟨bd, 15, none⟩) y).trans y15, ((show Below w1.heap.size w1 _ from by go_grown).cell (p := ⟨bd, 0, none⟩) y).trans y0⟩)
    (first
      | (go_at_call 49; refine (rcontrol_any _ _ _ _).mono ?_; rintro e wk ⟨rfl, rfl⟩)
      | (go_at_call 40; refine (rput_any 83 7 _ _ _ _ (by omega) (by omega) (by omega)).mono ?_; rintro e wk ⟨v, rfl, hown, hb⟩; have hbw := Below.trans (show Below w1.heap.size w1 _ from by go_grown) (hb.mono (show w1.heap.size ≤ _ from by first | exact Nat.le_refl _ | (simp; done) | (simp; omega))); have hbs := hbw.size)
      | fail)
  have BD2 := Lib.hid (BD1.out.below hbw)
  have BZ2 := Lib.hid (BZ1.out.below hbw)
  have H2 := Lib.hid (H1.out.trans (hbw.mono H1.out.size))
  have OW := Lib.hid (show Own wk w1.heap.size v _ from hown)
  have hl1 : bd < w1.heap.size := y
  have hl2 : bz < w1.heap.size := BZ1.out.1
  clear hb hbw hbs hown BD1 BZ1 H1 y y0 y1 y2 y3 y4 y5 y6 y7 y8 y9 y10 y11 y12 y13 y14 y15
  obtain ⟨y, y0, y1, y2, y3, y4, y5, y6, y7, y8, y9, y10, y11, y12, y13, y14, y15⟩ := Cells.at16 BD2.out
  obtain ⟨f0, f1, f2, f3, f4, f5, f6, f7, f8, f9, f10, f11, f12, f13, f14, f15⟩ := Cells.free16 BD2.out
  obtain ⟨qn, hqn⟩ : ∃ qn : Int, qn = 0 := ⟨_, rfl⟩
  have TQ := Lib.hid (show tellQ q = qn by have h255 := H255.out; unfold tellQ; omega)
  have QN := Lib.hid hqn
  have h255 := H255.out
  subst h255
  clear hqn
  go_upto_region 5 with (fail)
  have BD3 := Lib.hid (show Cells ((wk.setCell ⟨bd, 15, none⟩ (.int .i64 256)).setCell ⟨bd, 15, none⟩ (.int .i64 0)) bd (Dr.cs ⟨st, ⟨wl, wm, wt⟩, ⟨pc, pv, po⟩, ⟨mc, mv, mo⟩, ⟨hc, hv, ho⟩, a, k, 0⟩) from (BD2.out.set 15 (.int .i64 256)).set 15 (.int .i64 0))
  have BZ3 := Lib.hid ((BZ2.out.far hne 15 (.int .i64 256)).far hne 15 (.int .i64 0))
  have OW3 := Lib.hid ((OW.out.far hl1 15 (.int .i64 256)).far hl1 15 (.int .i64 0))
  have H3 := Lib.hid ((H2.out.setCell (p := ⟨bd, 15, none⟩) HBS.out.1 (.int .i64 256)).setCell (p := ⟨bd, 15, none⟩) HBS.out.1 (.int .i64 0))
  clear y y0 y1 y2 y3 y4 y5 y6 y7 y8 y9 y10 y11 y12 y13 y14 y15 f0 f1 f2 f3 f4 f5 f6 f7 f8 f9 f10 f11 f12 f13 f14 f15 BD2 BZ2 OW H2
  generalize (wk.setCell ⟨bd, 15, none⟩ (.int .i64 256)).setCell ⟨bd, 15, none⟩ (.int .i64 0) = w3 at *
  rw [← QN.out] at BD3
  obtain ⟨y, y0, y1, y2, y3, y4, y5, y6, y7, y8, y9, y10, y11, y12, y13, y14, y15⟩ := Cells.at16 BD3.out
  obtain ⟨z, z0, z1, z2, z3, z4, z5, z6, z7, z8, z9, z10, z11, z12, z13, z14, z15⟩ := Cells.at16 BZ3.out
  obtain ⟨f0, f1, f2, f3, f4, f5, f6, f7, f8, f9, f10, f11, f12, f13, f14, f15⟩ := Cells.free16 BZ3.out
  go_wp2_with fail
  have BZ4 := Lib.hid (show Cells ((((((((((((((((((w3).setCell ⟨bz, 0, none⟩ (.int .i64 st)).setCell ⟨bz, 1, none⟩ (.int .i64 wl)).setCell ⟨bz, 2, none⟩ (.int .i64 wm)).setCell ⟨bz, 3, none⟩ (.int .i64 wt)).setCell ⟨bz, 4, none⟩ (.int .i64 pc)).setCell ⟨bz, 5, none⟩ (.bool pv)).setCell ⟨bz, 6, none⟩ (.int .i64 po)).setCell ⟨bz, 7, none⟩ (.int .i64 mc)).setCell ⟨bz, 8, none⟩ (.bool mv)).setCell ⟨bz, 9, none⟩ (.int .i64 mo)).setCell ⟨bz, 10, none⟩ (.int .i64 hc)).setCell ⟨bz, 11, none⟩ (.bool hv)).setCell ⟨bz, 12, none⟩ (.int .i64 ho)).setCell ⟨bz, 13, none⟩ (.int .i64 a)).setCell ⟨bz, 14, none⟩ (.bool k)).setCell ⟨bz, 15, none⟩ (.int .i64 (qn)))) bz _ from BZ3.out.put (Dr.cs ⟨st, ⟨wl, wm, wt⟩, ⟨pc, pv, po⟩, ⟨mc, mv, mo⟩, ⟨hc, hv, ho⟩, a, k, qn⟩) rfl)
  have OW4 := Lib.hid (show Own ((((((((((((((((((w3).setCell ⟨bz, 0, none⟩ (.int .i64 st)).setCell ⟨bz, 1, none⟩ (.int .i64 wl)).setCell ⟨bz, 2, none⟩ (.int .i64 wm)).setCell ⟨bz, 3, none⟩ (.int .i64 wt)).setCell ⟨bz, 4, none⟩ (.int .i64 pc)).setCell ⟨bz, 5, none⟩ (.bool pv)).setCell ⟨bz, 6, none⟩ (.int .i64 po)).setCell ⟨bz, 7, none⟩ (.int .i64 mc)).setCell ⟨bz, 8, none⟩ (.bool mv)).setCell ⟨bz, 9, none⟩ (.int .i64 mo)).setCell ⟨bz, 10, none⟩ (.int .i64 hc)).setCell ⟨bz, 11, none⟩ (.bool hv)).setCell ⟨bz, 12, none⟩ (.int .i64 ho)).setCell ⟨bz, 13, none⟩ (.int .i64 a)).setCell ⟨bz, 14, none⟩ (.bool k)).setCell ⟨bz, 15, none⟩ (.int .i64 (qn)))) w1.heap.size v _ from OW3.out.farAll hl2 (Dr.cs ⟨st, ⟨wl, wm, wt⟩, ⟨pc, pv, po⟩, ⟨mc, mv, mo⟩, ⟨hc, hv, ho⟩, a, k, qn⟩) 0)
  have H4 := Lib.hid (show Below w.heap.size w ((((((((((((((((((w3).setCell ⟨bz, 0, none⟩ (.int .i64 st)).setCell ⟨bz, 1, none⟩ (.int .i64 wl)).setCell ⟨bz, 2, none⟩ (.int .i64 wm)).setCell ⟨bz, 3, none⟩ (.int .i64 wt)).setCell ⟨bz, 4, none⟩ (.int .i64 pc)).setCell ⟨bz, 5, none⟩ (.bool pv)).setCell ⟨bz, 6, none⟩ (.int .i64 po)).setCell ⟨bz, 7, none⟩ (.int .i64 mc)).setCell ⟨bz, 8, none⟩ (.bool mv)).setCell ⟨bz, 9, none⟩ (.int .i64 mo)).setCell ⟨bz, 10, none⟩ (.int .i64 hc)).setCell ⟨bz, 11, none⟩ (.bool hv)).setCell ⟨bz, 12, none⟩ (.int .i64 ho)).setCell ⟨bz, 13, none⟩ (.int .i64 a)).setCell ⟨bz, 14, none⟩ (.bool k)).setCell ⟨bz, 15, none⟩ (.int .i64 (qn)))) from below_storeAll HBS.out.2 (Dr.cs ⟨st, ⟨wl, wm, wt⟩, ⟨pc, pv, po⟩, ⟨mc, mv, mo⟩, ⟨hc, hv, ho⟩, a, k, qn⟩) 0 _ H3.out)
  clear y y0 y1 y2 y3 y4 y5 y6 y7 y8 y9 y10 y11 y12 y13 y14 y15 z z0 z1 z2 z3 z4 z5 z6 z7 z8 z9 z10 z11 z12 z13 z14 z15 f0 f1 f2 f3 f4 f5 f6 f7 f8 f9 f10 f11 f12 f13 f14 f15 BD3 BZ3 OW3 H3
  generalize (((((((((((((((((w3).setCell ⟨bz, 0, none⟩ (.int .i64 st)).setCell ⟨bz, 1, none⟩ (.int .i64 wl)).setCell ⟨bz, 2, none⟩ (.int .i64 wm)).setCell ⟨bz, 3, none⟩ (.int .i64 wt)).setCell ⟨bz, 4, none⟩ (.int .i64 pc)).setCell ⟨bz, 5, none⟩ (.bool pv)).setCell ⟨bz, 6, none⟩ (.int .i64 po)).setCell ⟨bz, 7, none⟩ (.int .i64 mc)).setCell ⟨bz, 8, none⟩ (.bool mv)).setCell ⟨bz, 9, none⟩ (.int .i64 mo)).setCell ⟨bz, 10, none⟩ (.int .i64 hc)).setCell ⟨bz, 11, none⟩ (.bool hv)).setCell ⟨bz, 12, none⟩ (.int .i64 ho)).setCell ⟨bz, 13, none⟩ (.int .i64 a)).setCell ⟨bz, 14, none⟩ (.bool k)).setCell ⟨bz, 15, none⟩ (.int .i64 (qn))) = w4 at *
  obtain ⟨y, y0, y1, y2, y3, y4, y5, y6, y7, y8, y9, y10, y11, y12, y13, y14, y15⟩ := Cells.at16 BZ4.out
  refine bodyPost_ret (v := .tuple #[Dr.val ⟨st, ⟨wl, wm, wt⟩, ⟨pc, pv, po⟩, ⟨mc, mv, mo⟩, ⟨hc, hv, ho⟩, a, k, qn⟩, v]) (by simp [results, Try.results65, go_sem, dr_val, y0, y1, y2, y3, y4, y5, y6, y7, y8, y9, y10, y11, y12, y13, y14, y15]) rfl ⟨v, by rw [TQ.out], own_up OW4.out (Nat.le_trans HBS.out.1 (Nat.le_of_lt hl1)), H4.out⟩

set_option maxHeartbeats 8000000 in
set_option maxRecDepth 100000 in
theorem rtell_less (st wl wm wt pc po mc mo hc ho a q : Int) (pv mv hv k : Bool) (want clear : Bool) (target : Int) (w : World) (hq0 : 0 ≤ q) (hq1 : q ≤ 255) (h255 : ¬ q = 255) :
    Calls Try.prog 65 #[.agg #[.int .i64 st, .int .i64 wl, .int .i64 wm, .int .i64 wt, .int .i64 pc, .bool pv, .int .i64 po, .int .i64 mc, .bool mv, .int .i64 mo, .int .i64 hc, .bool hv, .int .i64 ho, .int .i64 a, .bool k, .int .i64 q], .bool want, .bool clear, .int .i64 target] w fun e w' =>
      ∃ v, e = .returned (.tuple #[Dr.val ⟨st, ⟨wl, wm, wt⟩, ⟨pc, pv, po⟩, ⟨mc, mv, mo⟩, ⟨hc, hv, ho⟩, a, k, tellQ q⟩, v]) ∧ Own w' w.heap.size v (putL 83 7 q (controlN st want clear) target) ∧ Below w.heap.size w w' := by
  go_enter Try.func65, Try.ntmps65
  have BD := Lib.hid (show Cells ((w.alloc (.cells #[.int .i64 st, .int .i64 wl, .int .i64 wm, .int .i64 wt, .int .i64 pc, .bool pv, .int .i64 po, .int .i64 mc, .bool mv, .int .i64 mo, .int .i64 hc, .bool hv, .int .i64 ho, .int .i64 a, .bool k, .int .i64 q] 82)).alloc (.cells #[.int .i64 0, .int .i64 0, .int .i64 0, .int .i64 0, .int .i64 0, .bool false, .int .i64 0, .int .i64 0, .bool false, .int .i64 0, .int .i64 0, .bool false, .int .i64 0, .int .i64 0, .bool false, .int .i64 0] 82)) w.heap.size (Dr.cs ⟨st, ⟨wl, wm, wt⟩, ⟨pc, pv, po⟩, ⟨mc, mv, mo⟩, ⟨hc, hv, ho⟩, a, k, q⟩) from (Cells.new w (Dr.cs ⟨st, ⟨wl, wm, wt⟩, ⟨pc, pv, po⟩, ⟨mc, mv, mo⟩, ⟨hc, hv, ho⟩, a, k, q⟩) 82).below ((Below.refl _ _).alloc (Nat.le_refl _) (.cells #[.int .i64 0, .int .i64 0, .int .i64 0, .int .i64 0, .int .i64 0, .bool false, .int .i64 0, .int .i64 0, .bool false, .int .i64 0, .int .i64 0, .bool false, .int .i64 0, .int .i64 0, .bool false, .int .i64 0] 82)))
  have BZ := Lib.hid (Cells.new (w.alloc (.cells #[.int .i64 st, .int .i64 wl, .int .i64 wm, .int .i64 wt, .int .i64 pc, .bool pv, .int .i64 po, .int .i64 mc, .bool mv, .int .i64 mo, .int .i64 hc, .bool hv, .int .i64 ho, .int .i64 a, .bool k, .int .i64 q] 82)) [.int .i64 0, .int .i64 0, .int .i64 0, .int .i64 0, .int .i64 0, .bool false, .int .i64 0, .int .i64 0, .bool false, .int .i64 0, .int .i64 0, .bool false, .int .i64 0, .int .i64 0, .bool false, .int .i64 0] 82)
  have H0 := Lib.hid (show Below w.heap.size w ((w.alloc (.cells #[.int .i64 st, .int .i64 wl, .int .i64 wm, .int .i64 wt, .int .i64 pc, .bool pv, .int .i64 po, .int .i64 mc, .bool mv, .int .i64 mo, .int .i64 hc, .bool hv, .int .i64 ho, .int .i64 a, .bool k, .int .i64 q] 82)).alloc (.cells #[.int .i64 0, .int .i64 0, .int .i64 0, .int .i64 0, .int .i64 0, .bool false, .int .i64 0, .int .i64 0, .bool false, .int .i64 0, .int .i64 0, .bool false, .int .i64 0, .int .i64 0, .bool false, .int .i64 0] 82)) from by go_grown)
  simp only [size_alloc] at BZ
  go_wp2_with fail
  have BD1 := BD
  have BZ1 := BZ
  have H1 := H0
  clear BD BZ H0
  generalize (w.alloc (.cells #[.int .i64 st, .int .i64 wl, .int .i64 wm, .int .i64 wt, .int .i64 pc, .bool pv, .int .i64 po, .int .i64 mc, .bool mv, .int .i64 mo, .int .i64 hc, .bool hv, .int .i64 ho, .int .i64 a, .bool k, .int .i64 q] 82)).alloc (.cells #[.int .i64 0, .int .i64 0, .int .i64 0, .int .i64 0, .int .i64 0, .bool false, .int .i64 0, .int .i64 0, .bool false, .int .i64 0, .int .i64 0, .bool false, .int .i64 0, .int .i64 0, .bool false, .int .i64 0] 82) = w1 at *
  generalize hbz : w.heap.size + 1 = bz at BZ1 ⊢
  generalize hbd : w.heap.size = bd at BD1 ⊢
  have HBS := Lib.hid (show w.heap.size ≤ bd ∧ w.heap.size ≤ bz by omega)
  have hne : bd ≠ bz := by omega
  clear hbz hbd
  obtain ⟨y, y0, y1, y2, y3, y4, y5, y6, y7, y8, y9, y10, y11, y12, y13, y14, y15⟩ := Cells.at16 BD1.out
  go_region_held3 (fun w' => w'.cell? ⟨bd, 15, none⟩ = some (.int .i64 q) ∧ w'.cell? ⟨bd, 0, none⟩ = some (.int .i64 st))
    (exact ⟨((show Below w1.heap.size w1 _ from by go_grown).cell (p := ⟨bd, 15, none⟩) y).trans y15, ((show Below w1.heap.size w1 _ from by go_grown).cell (p := ⟨bd, 0, none⟩) y).trans y0⟩)
    (first
      | (go_at_call 49; refine (rcontrol_any _ _ _ _).mono ?_; rintro e wk ⟨rfl, rfl⟩)
      | (go_at_call 40; refine (rput_any 83 7 _ _ _ _ (by omega) (by omega) (by omega)).mono ?_; rintro e wk ⟨v, rfl, hown, hb⟩; have hbw := Below.trans (show Below w1.heap.size w1 _ from by go_grown) (hb.mono (show w1.heap.size ≤ _ from by first | exact Nat.le_refl _ | (simp; done) | (simp; omega))); have hbs := hbw.size)
      | fail)
  have BD2 := Lib.hid (BD1.out.below hbw)
  have BZ2 := Lib.hid (BZ1.out.below hbw)
  have H2 := Lib.hid (H1.out.trans (hbw.mono H1.out.size))
  have OW := Lib.hid (show Own wk w1.heap.size v _ from hown)
  have hl1 : bd < w1.heap.size := y
  have hl2 : bz < w1.heap.size := BZ1.out.1
  clear hb hbw hbs hown BD1 BZ1 H1 y y0 y1 y2 y3 y4 y5 y6 y7 y8 y9 y10 y11 y12 y13 y14 y15
  obtain ⟨y, y0, y1, y2, y3, y4, y5, y6, y7, y8, y9, y10, y11, y12, y13, y14, y15⟩ := Cells.at16 BD2.out
  obtain ⟨f0, f1, f2, f3, f4, f5, f6, f7, f8, f9, f10, f11, f12, f13, f14, f15⟩ := Cells.free16 BD2.out
  obtain ⟨qn, hqn⟩ : ∃ qn : Int, qn = q + 1 := ⟨_, rfl⟩
  have TQ := Lib.hid (show tellQ q = qn by unfold tellQ; omega)
  have QN := Lib.hid hqn
  have h256 : (q + 1 == 256) = false := beq_eq_false_iff_ne.2 (by omega)
  clear hqn h255
  go_upto_region 5 with (fail)
  have BD3 := Lib.hid (show Cells (wk.setCell ⟨bd, 15, none⟩ (.int .i64 (q + 1))) bd (Dr.cs ⟨st, ⟨wl, wm, wt⟩, ⟨pc, pv, po⟩, ⟨mc, mv, mo⟩, ⟨hc, hv, ho⟩, a, k, (q + 1)⟩) from BD2.out.set 15 (.int .i64 (q + 1)))
  have BZ3 := Lib.hid (BZ2.out.far hne 15 (.int .i64 (q + 1)))
  have OW3 := Lib.hid (OW.out.far hl1 15 (.int .i64 (q + 1)))
  have H3 := Lib.hid (H2.out.setCell (p := ⟨bd, 15, none⟩) HBS.out.1 (.int .i64 (q + 1)))
  clear y y0 y1 y2 y3 y4 y5 y6 y7 y8 y9 y10 y11 y12 y13 y14 y15 f0 f1 f2 f3 f4 f5 f6 f7 f8 f9 f10 f11 f12 f13 f14 f15 BD2 BZ2 OW H2
  generalize wk.setCell ⟨bd, 15, none⟩ (.int .i64 (q + 1)) = w3 at *
  rw [← QN.out] at BD3
  obtain ⟨y, y0, y1, y2, y3, y4, y5, y6, y7, y8, y9, y10, y11, y12, y13, y14, y15⟩ := Cells.at16 BD3.out
  obtain ⟨z, z0, z1, z2, z3, z4, z5, z6, z7, z8, z9, z10, z11, z12, z13, z14, z15⟩ := Cells.at16 BZ3.out
  obtain ⟨f0, f1, f2, f3, f4, f5, f6, f7, f8, f9, f10, f11, f12, f13, f14, f15⟩ := Cells.free16 BZ3.out
  go_wp2_with fail
  have BZ4 := Lib.hid (show Cells ((((((((((((((((((w3).setCell ⟨bz, 0, none⟩ (.int .i64 st)).setCell ⟨bz, 1, none⟩ (.int .i64 wl)).setCell ⟨bz, 2, none⟩ (.int .i64 wm)).setCell ⟨bz, 3, none⟩ (.int .i64 wt)).setCell ⟨bz, 4, none⟩ (.int .i64 pc)).setCell ⟨bz, 5, none⟩ (.bool pv)).setCell ⟨bz, 6, none⟩ (.int .i64 po)).setCell ⟨bz, 7, none⟩ (.int .i64 mc)).setCell ⟨bz, 8, none⟩ (.bool mv)).setCell ⟨bz, 9, none⟩ (.int .i64 mo)).setCell ⟨bz, 10, none⟩ (.int .i64 hc)).setCell ⟨bz, 11, none⟩ (.bool hv)).setCell ⟨bz, 12, none⟩ (.int .i64 ho)).setCell ⟨bz, 13, none⟩ (.int .i64 a)).setCell ⟨bz, 14, none⟩ (.bool k)).setCell ⟨bz, 15, none⟩ (.int .i64 (qn)))) bz _ from BZ3.out.put (Dr.cs ⟨st, ⟨wl, wm, wt⟩, ⟨pc, pv, po⟩, ⟨mc, mv, mo⟩, ⟨hc, hv, ho⟩, a, k, qn⟩) rfl)
  have OW4 := Lib.hid (show Own ((((((((((((((((((w3).setCell ⟨bz, 0, none⟩ (.int .i64 st)).setCell ⟨bz, 1, none⟩ (.int .i64 wl)).setCell ⟨bz, 2, none⟩ (.int .i64 wm)).setCell ⟨bz, 3, none⟩ (.int .i64 wt)).setCell ⟨bz, 4, none⟩ (.int .i64 pc)).setCell ⟨bz, 5, none⟩ (.bool pv)).setCell ⟨bz, 6, none⟩ (.int .i64 po)).setCell ⟨bz, 7, none⟩ (.int .i64 mc)).setCell ⟨bz, 8, none⟩ (.bool mv)).setCell ⟨bz, 9, none⟩ (.int .i64 mo)).setCell ⟨bz, 10, none⟩ (.int .i64 hc)).setCell ⟨bz, 11, none⟩ (.bool hv)).setCell ⟨bz, 12, none⟩ (.int .i64 ho)).setCell ⟨bz, 13, none⟩ (.int .i64 a)).setCell ⟨bz, 14, none⟩ (.bool k)).setCell ⟨bz, 15, none⟩ (.int .i64 (qn)))) w1.heap.size v _ from OW3.out.farAll hl2 (Dr.cs ⟨st, ⟨wl, wm, wt⟩, ⟨pc, pv, po⟩, ⟨mc, mv, mo⟩, ⟨hc, hv, ho⟩, a, k, qn⟩) 0)
  have H4 := Lib.hid (show Below w.heap.size w ((((((((((((((((((w3).setCell ⟨bz, 0, none⟩ (.int .i64 st)).setCell ⟨bz, 1, none⟩ (.int .i64 wl)).setCell ⟨bz, 2, none⟩ (.int .i64 wm)).setCell ⟨bz, 3, none⟩ (.int .i64 wt)).setCell ⟨bz, 4, none⟩ (.int .i64 pc)).setCell ⟨bz, 5, none⟩ (.bool pv)).setCell ⟨bz, 6, none⟩ (.int .i64 po)).setCell ⟨bz, 7, none⟩ (.int .i64 mc)).setCell ⟨bz, 8, none⟩ (.bool mv)).setCell ⟨bz, 9, none⟩ (.int .i64 mo)).setCell ⟨bz, 10, none⟩ (.int .i64 hc)).setCell ⟨bz, 11, none⟩ (.bool hv)).setCell ⟨bz, 12, none⟩ (.int .i64 ho)).setCell ⟨bz, 13, none⟩ (.int .i64 a)).setCell ⟨bz, 14, none⟩ (.bool k)).setCell ⟨bz, 15, none⟩ (.int .i64 (qn)))) from below_storeAll HBS.out.2 (Dr.cs ⟨st, ⟨wl, wm, wt⟩, ⟨pc, pv, po⟩, ⟨mc, mv, mo⟩, ⟨hc, hv, ho⟩, a, k, qn⟩) 0 _ H3.out)
  clear y y0 y1 y2 y3 y4 y5 y6 y7 y8 y9 y10 y11 y12 y13 y14 y15 z z0 z1 z2 z3 z4 z5 z6 z7 z8 z9 z10 z11 z12 z13 z14 z15 f0 f1 f2 f3 f4 f5 f6 f7 f8 f9 f10 f11 f12 f13 f14 f15 BD3 BZ3 OW3 H3
  generalize (((((((((((((((((w3).setCell ⟨bz, 0, none⟩ (.int .i64 st)).setCell ⟨bz, 1, none⟩ (.int .i64 wl)).setCell ⟨bz, 2, none⟩ (.int .i64 wm)).setCell ⟨bz, 3, none⟩ (.int .i64 wt)).setCell ⟨bz, 4, none⟩ (.int .i64 pc)).setCell ⟨bz, 5, none⟩ (.bool pv)).setCell ⟨bz, 6, none⟩ (.int .i64 po)).setCell ⟨bz, 7, none⟩ (.int .i64 mc)).setCell ⟨bz, 8, none⟩ (.bool mv)).setCell ⟨bz, 9, none⟩ (.int .i64 mo)).setCell ⟨bz, 10, none⟩ (.int .i64 hc)).setCell ⟨bz, 11, none⟩ (.bool hv)).setCell ⟨bz, 12, none⟩ (.int .i64 ho)).setCell ⟨bz, 13, none⟩ (.int .i64 a)).setCell ⟨bz, 14, none⟩ (.bool k)).setCell ⟨bz, 15, none⟩ (.int .i64 (qn))) = w4 at *
  obtain ⟨y, y0, y1, y2, y3, y4, y5, y6, y7, y8, y9, y10, y11, y12, y13, y14, y15⟩ := Cells.at16 BZ4.out
  refine bodyPost_ret (v := .tuple #[Dr.val ⟨st, ⟨wl, wm, wt⟩, ⟨pc, pv, po⟩, ⟨mc, mv, mo⟩, ⟨hc, hv, ho⟩, a, k, qn⟩, v]) (by simp [results, Try.results65, go_sem, dr_val, y0, y1, y2, y3, y4, y5, y6, y7, y8, y9, y10, y11, y12, y13, y14, y15]) rfl ⟨v, by rw [TQ.out], own_up OW4.out (Nat.le_trans HBS.out.1 (Nat.le_of_lt hl1)), H4.out⟩

theorem rtell_good (st wl wm wt pc po mc mo hc ho a q : Int) (pv mv hv k : Bool) (want clear : Bool) (target : Int) (w : World) (hq0 : 0 ≤ q) (hq1 : q ≤ 255) :
    Calls Try.prog 65 #[.agg #[.int .i64 st, .int .i64 wl, .int .i64 wm, .int .i64 wt, .int .i64 pc, .bool pv, .int .i64 po, .int .i64 mc, .bool mv, .int .i64 mo, .int .i64 hc, .bool hv, .int .i64 ho, .int .i64 a, .bool k, .int .i64 q], .bool want, .bool clear, .int .i64 target] w fun e w' =>
      ∃ v, e = .returned (.tuple #[Dr.val ⟨st, ⟨wl, wm, wt⟩, ⟨pc, pv, po⟩, ⟨mc, mv, mo⟩, ⟨hc, hv, ho⟩, a, k, tellQ q⟩, v]) ∧ Own w' w.heap.size v (putL 83 7 q (controlN st want clear) target) ∧ Below w.heap.size w w' := by
  by_cases h : q = 255
  · exact rtell_255 st wl wm wt pc po mc mo hc ho a q pv mv hv k want clear target w hq0 hq1 h
  · exact rtell_less st wl wm wt pc po mc mo hc ho a q pv mv hv k want clear target w hq0 hq1 h
end Go.Proofs.Ytnabpdengfmeaaa
