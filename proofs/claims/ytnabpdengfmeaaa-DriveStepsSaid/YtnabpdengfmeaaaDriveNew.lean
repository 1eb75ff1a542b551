/- Layer 7: the contract of drive.New. (Written by a program of mine, gen_drivenew.py.) -/
import Derived.Test.YtnabpdengfmeaaaDriveCells
namespace Go.Proofs.Ytnabpdengfmeaaa
open Go.RowKit

set_option maxHeartbeats 8000000 in
set_option maxRecDepth 100000 in
theorem dnew_less (limit count : Int) (w : World) (h : ¬ (1 ≤ limit ∧ limit ≤ 100)) : Calls Try.prog 59 #[.int .i64 limit, .int .i64 count] w fun e w' =>
    e = .returned (.tuple #[Dr.val ⟨0, ⟨0, 0, 0⟩, ⟨0, false, 0⟩, ⟨0, false, 0⟩, ⟨0, false, 0⟩, 0, false, 0⟩, .int .i64 1]) ∧ Below w.heap.size w w' := by
  have N1 := Lib.hid (show wnewW limit = ⟨0, 0, 0⟩ by simp [wnewW, h])
  have N2 := Lib.hid (show wnewE limit = 1 by simp [wnewE, h])
  clear h
  go_enter Try.func59, Try.ntmps59
  go_wp2_with fail
  have BZ := Lib.hid (Cells.new w [.int .i64 0, .int .i64 0, .int .i64 0, .int .i64 0, .int .i64 0, .bool false, .int .i64 0, .int .i64 0, .bool false, .int .i64 0, .int .i64 0, .bool false, .int .i64 0, .int .i64 0, .bool false, .int .i64 0] 82)
  have H0 := Lib.hid ((Below.refl w.heap.size w).alloc (Nat.le_refl _) (.cells #[.int .i64 0, .int .i64 0, .int .i64 0, .int .i64 0, .int .i64 0, .bool false, .int .i64 0, .int .i64 0, .bool false, .int .i64 0, .int .i64 0, .bool false, .int .i64 0, .int .i64 0, .bool false, .int .i64 0] 82))
  refine (wnew_any _ _).mono ?_
  rw [N1.out, N2.out, wt_val]
  rintro e w1 ⟨rfl, hb⟩
  have BZ1 := Lib.hid (BZ.out.below hb)
  have H1 := Lib.hid (H0.out.trans (hb.mono H0.out.size))
  clear hb BZ H0
  have HX := Lib.hid (H1.out.alloc H1.out.size (.cells #[.int .i64 0, .int .i64 0, .int .i64 0] 71))
  have BZX := Lib.hid (BZ1.out.below ((Below.refl _ _).alloc (Nat.le_refl _) (.cells #[.int .i64 0, .int .i64 0, .int .i64 0] 71)))
  clear BZ1 H1
  go_upto_region 3 with (fail)
  generalize w1.alloc (.cells #[.int .i64 0, .int .i64 0, .int .i64 0] 71) = wX at *
  generalize hbz : w.heap.size = bz at BZX ⊢
  have HBZ := Lib.hid (Nat.le_of_eq hbz)
  clear hbz
  obtain ⟨y, y0, y1, y2, y3, y4, y5, y6, y7, y8, y9, y10, y11, y12, y13, y14, y15⟩ := Cells.at16 BZX.out
  obtain ⟨f0, f1, f2, f3, f4, f5, f6, f7, f8, f9, f10, f11, f12, f13, f14, f15⟩ := Cells.free16 BZX.out
  go_wp2_with fail
  have BZF := Lib.hid (show Cells ((((((((((((((((((wX).setCell ⟨bz, 0, none⟩ (.int .i64 0)).setCell ⟨bz, 1, none⟩ (.int .i64 0)).setCell ⟨bz, 2, none⟩ (.int .i64 0)).setCell ⟨bz, 3, none⟩ (.int .i64 0)).setCell ⟨bz, 4, none⟩ (.int .i64 0)).setCell ⟨bz, 5, none⟩ (.bool false)).setCell ⟨bz, 6, none⟩ (.int .i64 0)).setCell ⟨bz, 7, none⟩ (.int .i64 0)).setCell ⟨bz, 8, none⟩ (.bool false)).setCell ⟨bz, 9, none⟩ (.int .i64 0)).setCell ⟨bz, 10, none⟩ (.int .i64 0)).setCell ⟨bz, 11, none⟩ (.bool false)).setCell ⟨bz, 12, none⟩ (.int .i64 0)).setCell ⟨bz, 13, none⟩ (.int .i64 0)).setCell ⟨bz, 14, none⟩ (.bool false)).setCell ⟨bz, 15, none⟩ (.int .i64 0))) bz _ from BZX.out.put (Dr.cs ⟨0, ⟨0, 0, 0⟩, ⟨0, false, 0⟩, ⟨0, false, 0⟩, ⟨0, false, 0⟩, 0, false, 0⟩) rfl)
  have HFF := Lib.hid (show Below w.heap.size w ((((((((((((((((((wX).setCell ⟨bz, 0, none⟩ (.int .i64 0)).setCell ⟨bz, 1, none⟩ (.int .i64 0)).setCell ⟨bz, 2, none⟩ (.int .i64 0)).setCell ⟨bz, 3, none⟩ (.int .i64 0)).setCell ⟨bz, 4, none⟩ (.int .i64 0)).setCell ⟨bz, 5, none⟩ (.bool false)).setCell ⟨bz, 6, none⟩ (.int .i64 0)).setCell ⟨bz, 7, none⟩ (.int .i64 0)).setCell ⟨bz, 8, none⟩ (.bool false)).setCell ⟨bz, 9, none⟩ (.int .i64 0)).setCell ⟨bz, 10, none⟩ (.int .i64 0)).setCell ⟨bz, 11, none⟩ (.bool false)).setCell ⟨bz, 12, none⟩ (.int .i64 0)).setCell ⟨bz, 13, none⟩ (.int .i64 0)).setCell ⟨bz, 14, none⟩ (.bool false)).setCell ⟨bz, 15, none⟩ (.int .i64 0))) from below_storeAll HBZ.out (Dr.cs ⟨0, ⟨0, 0, 0⟩, ⟨0, false, 0⟩, ⟨0, false, 0⟩, ⟨0, false, 0⟩, 0, false, 0⟩) 0 _ HX.out)
  clear y y0 y1 y2 y3 y4 y5 y6 y7 y8 y9 y10 y11 y12 y13 y14 y15 f0 f1 f2 f3 f4 f5 f6 f7 f8 f9 f10 f11 f12 f13 f14 f15 
  generalize (((((((((((((((((wX).setCell ⟨bz, 0, none⟩ (.int .i64 0)).setCell ⟨bz, 1, none⟩ (.int .i64 0)).setCell ⟨bz, 2, none⟩ (.int .i64 0)).setCell ⟨bz, 3, none⟩ (.int .i64 0)).setCell ⟨bz, 4, none⟩ (.int .i64 0)).setCell ⟨bz, 5, none⟩ (.bool false)).setCell ⟨bz, 6, none⟩ (.int .i64 0)).setCell ⟨bz, 7, none⟩ (.int .i64 0)).setCell ⟨bz, 8, none⟩ (.bool false)).setCell ⟨bz, 9, none⟩ (.int .i64 0)).setCell ⟨bz, 10, none⟩ (.int .i64 0)).setCell ⟨bz, 11, none⟩ (.bool false)).setCell ⟨bz, 12, none⟩ (.int .i64 0)).setCell ⟨bz, 13, none⟩ (.int .i64 0)).setCell ⟨bz, 14, none⟩ (.bool false)).setCell ⟨bz, 15, none⟩ (.int .i64 0)) = wF at *
  obtain ⟨y, y0, y1, y2, y3, y4, y5, y6, y7, y8, y9, y10, y11, y12, y13, y14, y15⟩ := Cells.at16 BZF.out
  refine bodyPost_ret (v := .tuple #[Dr.val ⟨0, ⟨0, 0, 0⟩, ⟨0, false, 0⟩, ⟨0, false, 0⟩, ⟨0, false, 0⟩, 0, false, 0⟩, .int .i64 1]) (by simp [results, Try.results59, go_sem, Dr.val, Dr.cs, y0, y1, y2, y3, y4, y5, y6, y7, y8, y9, y10, y11, y12, y13, y14, y15]) rfl ⟨rfl, HFF.out⟩

set_option maxHeartbeats 8000000 in
set_option maxRecDepth 100000 in
theorem dnew_more (limit count : Int) (w : World) (h : 1 ≤ limit ∧ limit ≤ 100) (h' : ¬ (1 ≤ count ∧ count ≤ 20)) : Calls Try.prog 59 #[.int .i64 limit, .int .i64 count] w fun e w' =>
    e = .returned (.tuple #[Dr.val ⟨0, ⟨0, 0, 0⟩, ⟨0, false, 0⟩, ⟨0, false, 0⟩, ⟨0, false, 0⟩, 0, false, 0⟩, .int .i64 1]) ∧ Below w.heap.size w w' := by
  have N1 := Lib.hid (show wnewW limit = ⟨limit, 0, -1⟩ by simp [wnewW, h])
  have N2 := Lib.hid (show wnewE limit = 0 by simp [wnewE, h])
  have M1 := Lib.hid (show newS count false = ⟨0, false, 0⟩ by simp [newS, h'])
  have M2 := Lib.hid (show newE count = 1 by simp [newE, h'])
  clear h h'
  go_enter Try.func59, Try.ntmps59
  go_wp2_with fail
  have BZ := Lib.hid (Cells.new w [.int .i64 0, .int .i64 0, .int .i64 0, .int .i64 0, .int .i64 0, .bool false, .int .i64 0, .int .i64 0, .bool false, .int .i64 0, .int .i64 0, .bool false, .int .i64 0, .int .i64 0, .bool false, .int .i64 0] 82)
  have H0 := Lib.hid ((Below.refl w.heap.size w).alloc (Nat.le_refl _) (.cells #[.int .i64 0, .int .i64 0, .int .i64 0, .int .i64 0, .int .i64 0, .bool false, .int .i64 0, .int .i64 0, .bool false, .int .i64 0, .int .i64 0, .bool false, .int .i64 0, .int .i64 0, .bool false, .int .i64 0] 82))
  refine (wnew_any _ _).mono ?_
  rw [N1.out, N2.out, wt_val]
  rintro e w1 ⟨rfl, hb⟩
  have BZ1 := Lib.hid (BZ.out.below hb)
  have H1 := Lib.hid (H0.out.trans (hb.mono H0.out.size))
  clear hb BZ H0
  have BW := Lib.hid (Box3.new w1 (.int .i64 limit) (.int .i64 0) (.int .i64 (-1)) 71)
  have H2 := Lib.hid (H1.out.alloc H1.out.size (.cells #[.int .i64 limit, .int .i64 0, .int .i64 (-1)] 71))
  have BZ2 := Lib.hid (BZ1.out.below ((Below.refl _ _).alloc (Nat.le_refl _) (.cells #[.int .i64 limit, .int .i64 0, .int .i64 (-1)] 71)))
  clear BZ1 H1
  go_wp2_with fail
  generalize w1.alloc (.cells #[.int .i64 limit, .int .i64 0, .int .i64 (-1)] 71) = w2 at *
  generalize w1.heap.size = bw at *
  refine (bnew_any _ _ _).mono ?_
  rw [M1.out, M2.out, sw_val]
  rintro e w3 ⟨rfl, hb⟩
  have HX := Lib.hid ((H2.out.trans (hb.mono H2.out.size)).alloc (H2.out.trans (hb.mono H2.out.size)).size (.cells #[.int .i64 0, .bool false, .int .i64 0] 35))
  have BZX := Lib.hid ((BZ2.out.below hb).below ((Below.refl _ _).alloc (Nat.le_refl _) (.cells #[.int .i64 0, .bool false, .int .i64 0] 35)))
  have BWX := Lib.hid ((BW.out.below hb).below ((Below.refl _ _).alloc (Nat.le_refl _) (.cells #[.int .i64 0, .bool false, .int .i64 0] 35)))
  have BSX := Lib.hid (Box3.new w3 (.int .i64 0) (.bool false) (.int .i64 0) 35)
  clear hb BZ2 H2 BW
  go_upto_region 6 with (fail)
  generalize w3.alloc (.cells #[.int .i64 0, .bool false, .int .i64 0] 35) = wX at *
  generalize w3.heap.size = bs at *
  generalize hbz : w.heap.size = bz at BZX ⊢
  have HBZ := Lib.hid (Nat.le_of_eq hbz)
  clear hbz
  obtain ⟨y, y0, y1, y2, y3, y4, y5, y6, y7, y8, y9, y10, y11, y12, y13, y14, y15⟩ := Cells.at16 BZX.out
  obtain ⟨f0, f1, f2, f3, f4, f5, f6, f7, f8, f9, f10, f11, f12, f13, f14, f15⟩ := Cells.free16 BZX.out
  go_wp2_with fail
  have BZF := Lib.hid (show Cells ((((((((((((((((((wX).setCell ⟨bz, 0, none⟩ (.int .i64 0)).setCell ⟨bz, 1, none⟩ (.int .i64 0)).setCell ⟨bz, 2, none⟩ (.int .i64 0)).setCell ⟨bz, 3, none⟩ (.int .i64 0)).setCell ⟨bz, 4, none⟩ (.int .i64 0)).setCell ⟨bz, 5, none⟩ (.bool false)).setCell ⟨bz, 6, none⟩ (.int .i64 0)).setCell ⟨bz, 7, none⟩ (.int .i64 0)).setCell ⟨bz, 8, none⟩ (.bool false)).setCell ⟨bz, 9, none⟩ (.int .i64 0)).setCell ⟨bz, 10, none⟩ (.int .i64 0)).setCell ⟨bz, 11, none⟩ (.bool false)).setCell ⟨bz, 12, none⟩ (.int .i64 0)).setCell ⟨bz, 13, none⟩ (.int .i64 0)).setCell ⟨bz, 14, none⟩ (.bool false)).setCell ⟨bz, 15, none⟩ (.int .i64 0))) bz _ from BZX.out.put (Dr.cs ⟨0, ⟨0, 0, 0⟩, ⟨0, false, 0⟩, ⟨0, false, 0⟩, ⟨0, false, 0⟩, 0, false, 0⟩) rfl)
  have HFF := Lib.hid (show Below w.heap.size w ((((((((((((((((((wX).setCell ⟨bz, 0, none⟩ (.int .i64 0)).setCell ⟨bz, 1, none⟩ (.int .i64 0)).setCell ⟨bz, 2, none⟩ (.int .i64 0)).setCell ⟨bz, 3, none⟩ (.int .i64 0)).setCell ⟨bz, 4, none⟩ (.int .i64 0)).setCell ⟨bz, 5, none⟩ (.bool false)).setCell ⟨bz, 6, none⟩ (.int .i64 0)).setCell ⟨bz, 7, none⟩ (.int .i64 0)).setCell ⟨bz, 8, none⟩ (.bool false)).setCell ⟨bz, 9, none⟩ (.int .i64 0)).setCell ⟨bz, 10, none⟩ (.int .i64 0)).setCell ⟨bz, 11, none⟩ (.bool false)).setCell ⟨bz, 12, none⟩ (.int .i64 0)).setCell ⟨bz, 13, none⟩ (.int .i64 0)).setCell ⟨bz, 14, none⟩ (.bool false)).setCell ⟨bz, 15, none⟩ (.int .i64 0))) from below_storeAll HBZ.out (Dr.cs ⟨0, ⟨0, 0, 0⟩, ⟨0, false, 0⟩, ⟨0, false, 0⟩, ⟨0, false, 0⟩, 0, false, 0⟩) 0 _ HX.out)
  clear y y0 y1 y2 y3 y4 y5 y6 y7 y8 y9 y10 y11 y12 y13 y14 y15 f0 f1 f2 f3 f4 f5 f6 f7 f8 f9 f10 f11 f12 f13 f14 f15 
  generalize (((((((((((((((((wX).setCell ⟨bz, 0, none⟩ (.int .i64 0)).setCell ⟨bz, 1, none⟩ (.int .i64 0)).setCell ⟨bz, 2, none⟩ (.int .i64 0)).setCell ⟨bz, 3, none⟩ (.int .i64 0)).setCell ⟨bz, 4, none⟩ (.int .i64 0)).setCell ⟨bz, 5, none⟩ (.bool false)).setCell ⟨bz, 6, none⟩ (.int .i64 0)).setCell ⟨bz, 7, none⟩ (.int .i64 0)).setCell ⟨bz, 8, none⟩ (.bool false)).setCell ⟨bz, 9, none⟩ (.int .i64 0)).setCell ⟨bz, 10, none⟩ (.int .i64 0)).setCell ⟨bz, 11, none⟩ (.bool false)).setCell ⟨bz, 12, none⟩ (.int .i64 0)).setCell ⟨bz, 13, none⟩ (.int .i64 0)).setCell ⟨bz, 14, none⟩ (.bool false)).setCell ⟨bz, 15, none⟩ (.int .i64 0)) = wF at *
  obtain ⟨y, y0, y1, y2, y3, y4, y5, y6, y7, y8, y9, y10, y11, y12, y13, y14, y15⟩ := Cells.at16 BZF.out
  refine bodyPost_ret (v := .tuple #[Dr.val ⟨0, ⟨0, 0, 0⟩, ⟨0, false, 0⟩, ⟨0, false, 0⟩, ⟨0, false, 0⟩, 0, false, 0⟩, .int .i64 1]) (by simp [results, Try.results59, go_sem, Dr.val, Dr.cs, y0, y1, y2, y3, y4, y5, y6, y7, y8, y9, y10, y11, y12, y13, y14, y15]) rfl ⟨rfl, HFF.out⟩

set_option maxHeartbeats 8000000 in
set_option maxRecDepth 100000 in
theorem dnew_good (limit count : Int) (w : World) (h : 1 ≤ limit ∧ limit ≤ 100) (h' : 1 ≤ count ∧ count ≤ 20) : Calls Try.prog 59 #[.int .i64 limit, .int .i64 count] w fun e w' =>
    e = .returned (.tuple #[Dr.val ⟨0, ⟨limit, 0, -1⟩, ⟨count, false, 0⟩, ⟨count, false, 0⟩, ⟨count, false, 0⟩, 0, false, 0⟩, .int .i64 0]) ∧ Below w.heap.size w w' := by
  have N1 := Lib.hid (show wnewW limit = ⟨limit, 0, -1⟩ by simp [wnewW, h])
  have N2 := Lib.hid (show wnewE limit = 0 by simp [wnewE, h])
  have M1 := Lib.hid (show newS count false = ⟨count, false, 0⟩ by simp [newS, h'])
  have M2 := Lib.hid (show newE count = 0 by simp [newE, h'])
  clear h h'
  go_enter Try.func59, Try.ntmps59
  go_wp2_with fail
  have BZ := Lib.hid (Cells.new w [.int .i64 0, .int .i64 0, .int .i64 0, .int .i64 0, .int .i64 0, .bool false, .int .i64 0, .int .i64 0, .bool false, .int .i64 0, .int .i64 0, .bool false, .int .i64 0, .int .i64 0, .bool false, .int .i64 0] 82)
  have H0 := Lib.hid ((Below.refl w.heap.size w).alloc (Nat.le_refl _) (.cells #[.int .i64 0, .int .i64 0, .int .i64 0, .int .i64 0, .int .i64 0, .bool false, .int .i64 0, .int .i64 0, .bool false, .int .i64 0, .int .i64 0, .bool false, .int .i64 0, .int .i64 0, .bool false, .int .i64 0] 82))
  refine (wnew_any _ _).mono ?_
  rw [N1.out, N2.out, wt_val]
  rintro e w1 ⟨rfl, hb⟩
  have BZ1 := Lib.hid (BZ.out.below hb)
  have H1 := Lib.hid (H0.out.trans (hb.mono H0.out.size))
  clear hb BZ H0
  have BW := Lib.hid (Box3.new w1 (.int .i64 limit) (.int .i64 0) (.int .i64 (-1)) 71)
  have H2 := Lib.hid (H1.out.alloc H1.out.size (.cells #[.int .i64 limit, .int .i64 0, .int .i64 (-1)] 71))
  have BZ2 := Lib.hid (BZ1.out.below ((Below.refl _ _).alloc (Nat.le_refl _) (.cells #[.int .i64 limit, .int .i64 0, .int .i64 (-1)] 71)))
  clear BZ1 H1
  go_wp2_with fail
  generalize w1.alloc (.cells #[.int .i64 limit, .int .i64 0, .int .i64 (-1)] 71) = w2 at *
  generalize w1.heap.size = bw at *
  refine (bnew_any _ _ _).mono ?_
  rw [M1.out, M2.out, sw_val]
  rintro e w3 ⟨rfl, hb⟩
  have HX := Lib.hid ((H2.out.trans (hb.mono H2.out.size)).alloc (H2.out.trans (hb.mono H2.out.size)).size (.cells #[.int .i64 count, .bool false, .int .i64 0] 35))
  have BZX := Lib.hid ((BZ2.out.below hb).below ((Below.refl _ _).alloc (Nat.le_refl _) (.cells #[.int .i64 count, .bool false, .int .i64 0] 35)))
  have BWX := Lib.hid ((BW.out.below hb).below ((Below.refl _ _).alloc (Nat.le_refl _) (.cells #[.int .i64 count, .bool false, .int .i64 0] 35)))
  have BSX := Lib.hid (Box3.new w3 (.int .i64 count) (.bool false) (.int .i64 0) 35)
  clear hb BZ2 H2 BW
  go_upto_region 7 with (fail)
  generalize w3.alloc (.cells #[.int .i64 count, .bool false, .int .i64 0] 35) = wX at *
  generalize w3.heap.size = bs at *
  obtain ⟨u0, u1, u2, u3, u4, u5, u6⟩ := BWX.out
  obtain ⟨s0, s1, s2, s3, s4, s5, s6⟩ := BSX.out
  generalize hbz : w.heap.size = bz at BZX ⊢
  have HBZ := Lib.hid (Nat.le_of_eq hbz)
  clear hbz
  obtain ⟨y, y0, y1, y2, y3, y4, y5, y6, y7, y8, y9, y10, y11, y12, y13, y14, y15⟩ := Cells.at16 BZX.out
  obtain ⟨f0, f1, f2, f3, f4, f5, f6, f7, f8, f9, f10, f11, f12, f13, f14, f15⟩ := Cells.free16 BZX.out
  go_wp2_with fail
  have BZF := Lib.hid (show Cells ((((((((((((((((((wX).setCell ⟨bz, 0, none⟩ (.int .i64 0)).setCell ⟨bz, 1, none⟩ (.int .i64 limit)).setCell ⟨bz, 2, none⟩ (.int .i64 0)).setCell ⟨bz, 3, none⟩ (.int .i64 (-1))).setCell ⟨bz, 4, none⟩ (.int .i64 count)).setCell ⟨bz, 5, none⟩ (.bool false)).setCell ⟨bz, 6, none⟩ (.int .i64 0)).setCell ⟨bz, 7, none⟩ (.int .i64 count)).setCell ⟨bz, 8, none⟩ (.bool false)).setCell ⟨bz, 9, none⟩ (.int .i64 0)).setCell ⟨bz, 10, none⟩ (.int .i64 count)).setCell ⟨bz, 11, none⟩ (.bool false)).setCell ⟨bz, 12, none⟩ (.int .i64 0)).setCell ⟨bz, 13, none⟩ (.int .i64 0)).setCell ⟨bz, 14, none⟩ (.bool false)).setCell ⟨bz, 15, none⟩ (.int .i64 0))) bz _ from BZX.out.put (Dr.cs ⟨0, ⟨limit, 0, -1⟩, ⟨count, false, 0⟩, ⟨count, false, 0⟩, ⟨count, false, 0⟩, 0, false, 0⟩) rfl)
  have HFF := Lib.hid (show Below w.heap.size w ((((((((((((((((((wX).setCell ⟨bz, 0, none⟩ (.int .i64 0)).setCell ⟨bz, 1, none⟩ (.int .i64 limit)).setCell ⟨bz, 2, none⟩ (.int .i64 0)).setCell ⟨bz, 3, none⟩ (.int .i64 (-1))).setCell ⟨bz, 4, none⟩ (.int .i64 count)).setCell ⟨bz, 5, none⟩ (.bool false)).setCell ⟨bz, 6, none⟩ (.int .i64 0)).setCell ⟨bz, 7, none⟩ (.int .i64 count)).setCell ⟨bz, 8, none⟩ (.bool false)).setCell ⟨bz, 9, none⟩ (.int .i64 0)).setCell ⟨bz, 10, none⟩ (.int .i64 count)).setCell ⟨bz, 11, none⟩ (.bool false)).setCell ⟨bz, 12, none⟩ (.int .i64 0)).setCell ⟨bz, 13, none⟩ (.int .i64 0)).setCell ⟨bz, 14, none⟩ (.bool false)).setCell ⟨bz, 15, none⟩ (.int .i64 0))) from below_storeAll HBZ.out (Dr.cs ⟨0, ⟨limit, 0, -1⟩, ⟨count, false, 0⟩, ⟨count, false, 0⟩, ⟨count, false, 0⟩, 0, false, 0⟩) 0 _ HX.out)
  clear y y0 y1 y2 y3 y4 y5 y6 y7 y8 y9 y10 y11 y12 y13 y14 y15 f0 f1 f2 f3 f4 f5 f6 f7 f8 f9 f10 f11 f12 f13 f14 f15 u0 u1 u2 u3 u4 u5 u6 s0 s1 s2 s3 s4 s5 s6
  generalize (((((((((((((((((wX).setCell ⟨bz, 0, none⟩ (.int .i64 0)).setCell ⟨bz, 1, none⟩ (.int .i64 limit)).setCell ⟨bz, 2, none⟩ (.int .i64 0)).setCell ⟨bz, 3, none⟩ (.int .i64 (-1))).setCell ⟨bz, 4, none⟩ (.int .i64 count)).setCell ⟨bz, 5, none⟩ (.bool false)).setCell ⟨bz, 6, none⟩ (.int .i64 0)).setCell ⟨bz, 7, none⟩ (.int .i64 count)).setCell ⟨bz, 8, none⟩ (.bool false)).setCell ⟨bz, 9, none⟩ (.int .i64 0)).setCell ⟨bz, 10, none⟩ (.int .i64 count)).setCell ⟨bz, 11, none⟩ (.bool false)).setCell ⟨bz, 12, none⟩ (.int .i64 0)).setCell ⟨bz, 13, none⟩ (.int .i64 0)).setCell ⟨bz, 14, none⟩ (.bool false)).setCell ⟨bz, 15, none⟩ (.int .i64 0)) = wF at *
  obtain ⟨y, y0, y1, y2, y3, y4, y5, y6, y7, y8, y9, y10, y11, y12, y13, y14, y15⟩ := Cells.at16 BZF.out
  refine bodyPost_ret (v := .tuple #[Dr.val ⟨0, ⟨limit, 0, -1⟩, ⟨count, false, 0⟩, ⟨count, false, 0⟩, ⟨count, false, 0⟩, 0, false, 0⟩, .int .i64 0]) (by simp [results, Try.results59, go_sem, Dr.val, Dr.cs, y0, y1, y2, y3, y4, y5, y6, y7, y8, y9, y10, y11, y12, y13, y14, y15]) rfl ⟨rfl, HFF.out⟩

theorem dnew_any (limit count : Int) (w : World) : Calls Try.prog 59 #[.int .i64 limit, .int .i64 count] w fun e w' =>
    e = .returned (.tuple #[Dr.val (newD limit count), .int .i64 (newDE limit count)]) ∧ Below w.heap.size w w' := by
  by_cases h : 1 ≤ limit ∧ limit ≤ 100
  · by_cases h' : 1 ≤ count ∧ count ≤ 20
    · rw [show newD limit count = ⟨0, ⟨limit, 0, -1⟩, ⟨count, false, 0⟩, ⟨count, false, 0⟩, ⟨count, false, 0⟩, 0, false, 0⟩ by unfold newD; rw [if_pos ⟨h, h'⟩], show newDE limit count = 0 by unfold newDE; rw [if_pos ⟨h, h'⟩]]
      exact dnew_good limit count w h h'
    · rw [show newD limit count = ⟨0, ⟨0, 0, 0⟩, ⟨0, false, 0⟩, ⟨0, false, 0⟩, ⟨0, false, 0⟩, 0, false, 0⟩ by unfold newD; rw [if_neg (fun q => h' q.2)], show newDE limit count = 1 by unfold newDE; rw [if_neg (fun q => h' q.2)]]
      exact dnew_more limit count w h h'
  · rw [show newD limit count = ⟨0, ⟨0, 0, 0⟩, ⟨0, false, 0⟩, ⟨0, false, 0⟩, ⟨0, false, 0⟩, 0, false, 0⟩ by unfold newD; rw [if_neg (fun q => h q.1)], show newDE limit count = 1 by unfold newDE; rw [if_neg (fun q => h q.1)]]
    exact dnew_less limit count w h
end Go.Proofs.Ytnabpdengfmeaaa
