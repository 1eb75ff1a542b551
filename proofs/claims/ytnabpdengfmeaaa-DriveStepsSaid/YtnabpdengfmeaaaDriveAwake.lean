/- Layer 7: the fixed answer with which each law of the layer begins. (Written by a program of mine, gen_driveawake.py.) -/
import Derived.Test.YtnabpdengfmeaaaDriveComeAll
import Derived.Test.YtnabpdengfmeaaaDriveNew
import Derived.Test.YtnabpdengfmeaaaFrameAwake
namespace Go.Proofs.Ytnabpdengfmeaaa
open Go.RowKit

set_option maxHeartbeats 8000000 in
set_option maxRecDepth 100000 in
theorem awake07 (w : World) : Calls Try.prog 58 #[] w fun e w' => e = .returned (.bool true) ∧ Below w.heap.size w w' := by
  have C1 := Lib.hid (show comeD ⟨0, ⟨2, 0, (-1)⟩, ⟨1, false, 0⟩, ⟨1, false, 0⟩, ⟨1, false, 0⟩, 0, false, 0⟩ (Fr.readN 70 127 (Fr.frameL 70 9 23 5)) = ⟨3, ⟨2, 0, 9⟩, ⟨1, true, 0⟩, ⟨1, false, 0⟩, ⟨1, false, 0⟩, 5, true, 0⟩ by
    rw [Fr.read_frame (sign := 70) (seq := 9) (w := 23) 127 5 (by omega) (by omega) (by omega) (by omega) (by omega)]; rfl)
  have HPL := Lib.hid (show putL 70 127 9 23 5 = Fr.frameL 70 9 23 5 from rfl)
  have HPE := Lib.hid (show putE 127 9 23 = 0 from rfl)
  have N1 := Lib.hid (show newD 2 1 = ⟨0, ⟨2, 0, (-1)⟩, ⟨1, false, 0⟩, ⟨1, false, 0⟩, ⟨1, false, 0⟩, 0, false, 0⟩ from rfl)
  have N2 := Lib.hid (show newDE 2 1 = 0 from rfl)
  go_enter Try.func58, Try.ntmps58
  go_wp2_with fail
  refine (dnew_any _ _ _).mono ?_
  rw [N1.out, N2.out, dr_val]
  rintro e w1 ⟨rfl, hb⟩
  have H1 := Lib.hid (hb.alloc hb.size (.cells #[.int .i64 0, .int .i64 2, .int .i64 0, .int .i64 (-1), .int .i64 1, .bool false, .int .i64 0, .int .i64 1, .bool false, .int .i64 0, .int .i64 1, .bool false, .int .i64 0, .int .i64 0, .bool false, .int .i64 0] 82))
  have B1 := Lib.hid (show Cells (w1.alloc (.cells #[.int .i64 0, .int .i64 2, .int .i64 0, .int .i64 (-1), .int .i64 1, .bool false, .int .i64 0, .int .i64 1, .bool false, .int .i64 0, .int .i64 1, .bool false, .int .i64 0, .int .i64 0, .bool false, .int .i64 0] 82)) w1.heap.size (Dr.cs ⟨0, ⟨2, 0, (-1)⟩, ⟨1, false, 0⟩, ⟨1, false, 0⟩, ⟨1, false, 0⟩, 0, false, 0⟩) from Cells.new w1 (Dr.cs ⟨0, ⟨2, 0, (-1)⟩, ⟨1, false, 0⟩, ⟨1, false, 0⟩, ⟨1, false, 0⟩, 0, false, 0⟩) 82)
  have HSZ := Lib.hid hb.size
  clear hb
  go_wp2_with fail
  generalize w1.alloc (.cells #[.int .i64 0, .int .i64 2, .int .i64 0, .int .i64 (-1), .int .i64 1, .bool false, .int .i64 0, .int .i64 1, .bool false, .int .i64 0, .int .i64 1, .bool false, .int .i64 0, .int .i64 0, .bool false, .int .i64 0] 82) = w2 at *
  generalize w1.heap.size = b at *
  refine (rput_any _ _ _ _ _ _ (by omega) (by omega) (by omega)).mono ?_
  rw [HPL.out, HPE.out]
  rintro e w3 ⟨v, rfl, hown, hb⟩
  have B3 := Lib.hid (B1.out.below hb)
  have H3 := Lib.hid (H1.out.trans (hb.mono H1.out.size))
  obtain ⟨g, cap, rfl, hg, hcap, hgl, hc, hr⟩ := hown.open13 (Fr.frameL_len _ _ _ _)
  have HR := Lib.hid hr
  clear hb hown hc hr hg hgl H1 B1
  have HL := Lib.hid (Fr.frameL_len 70 9 23 5)
  generalize Fr.frameL 70 9 23 5 = L at *
  obtain ⟨y, y0, y1, y2, y3, y4, y5, y6, y7, y8, y9, y10, y11, y12, y13, y14, y15⟩ := Cells.at16 B3.out
  go_wp2_with fail
  refine (dcome_any ⟨0, ⟨2, 0, (-1)⟩, ⟨1, false, 0⟩, ⟨1, false, 0⟩, ⟨1, false, 0⟩, 0, false, 0⟩ _ _ _ L _ HL.out hcap HR.out).mono ?_
  rw [C1.out, dr_val]
  rintro e w4 ⟨rfl, hb⟩
  have B4 := Lib.hid (B3.out.below hb)
  have H4 := Lib.hid (H3.out.trans (hb.mono H3.out.size))
  clear hb y y0 y1 y2 y3 y4 y5 y6 y7 y8 y9 y10 y11 y12 y13 y14 y15 H3 B3
  obtain ⟨y, y0, y1, y2, y3, y4, y5, y6, y7, y8, y9, y10, y11, y12, y13, y14, y15⟩ := Cells.at16 B4.out
  obtain ⟨f0, f1, f2, f3, f4, f5, f6, f7, f8, f9, f10, f11, f12, f13, f14, f15⟩ := Cells.free16 B4.out
  go_upto_region 4 with (fail)
  have B5 := Lib.hid (show Cells ((((((((((((((((((w4).setCell ⟨b, 0, none⟩ (.int .i64 3)).setCell ⟨b, 1, none⟩ (.int .i64 2)).setCell ⟨b, 2, none⟩ (.int .i64 0)).setCell ⟨b, 3, none⟩ (.int .i64 9)).setCell ⟨b, 4, none⟩ (.int .i64 1)).setCell ⟨b, 5, none⟩ (.bool true)).setCell ⟨b, 6, none⟩ (.int .i64 0)).setCell ⟨b, 7, none⟩ (.int .i64 1)).setCell ⟨b, 8, none⟩ (.bool false)).setCell ⟨b, 9, none⟩ (.int .i64 0)).setCell ⟨b, 10, none⟩ (.int .i64 1)).setCell ⟨b, 11, none⟩ (.bool false)).setCell ⟨b, 12, none⟩ (.int .i64 0)).setCell ⟨b, 13, none⟩ (.int .i64 5)).setCell ⟨b, 14, none⟩ (.bool true)).setCell ⟨b, 15, none⟩ (.int .i64 0))) b _ from B4.out.put (Dr.cs ⟨3, ⟨2, 0, 9⟩, ⟨1, true, 0⟩, ⟨1, false, 0⟩, ⟨1, false, 0⟩, 5, true, 0⟩) rfl)
  have H5 := Lib.hid (show Below w.heap.size w ((((((((((((((((((w4).setCell ⟨b, 0, none⟩ (.int .i64 3)).setCell ⟨b, 1, none⟩ (.int .i64 2)).setCell ⟨b, 2, none⟩ (.int .i64 0)).setCell ⟨b, 3, none⟩ (.int .i64 9)).setCell ⟨b, 4, none⟩ (.int .i64 1)).setCell ⟨b, 5, none⟩ (.bool true)).setCell ⟨b, 6, none⟩ (.int .i64 0)).setCell ⟨b, 7, none⟩ (.int .i64 1)).setCell ⟨b, 8, none⟩ (.bool false)).setCell ⟨b, 9, none⟩ (.int .i64 0)).setCell ⟨b, 10, none⟩ (.int .i64 1)).setCell ⟨b, 11, none⟩ (.bool false)).setCell ⟨b, 12, none⟩ (.int .i64 0)).setCell ⟨b, 13, none⟩ (.int .i64 5)).setCell ⟨b, 14, none⟩ (.bool true)).setCell ⟨b, 15, none⟩ (.int .i64 0))) from below_storeAll HSZ.out (Dr.cs ⟨3, ⟨2, 0, 9⟩, ⟨1, true, 0⟩, ⟨1, false, 0⟩, ⟨1, false, 0⟩, 5, true, 0⟩) 0 _ H4.out)
  clear y y0 y1 y2 y3 y4 y5 y6 y7 y8 y9 y10 y11 y12 y13 y14 y15 f0 f1 f2 f3 f4 f5 f6 f7 f8 f9 f10 f11 f12 f13 f14 f15 B4 H4
  generalize (((((((((((((((((w4).setCell ⟨b, 0, none⟩ (.int .i64 3)).setCell ⟨b, 1, none⟩ (.int .i64 2)).setCell ⟨b, 2, none⟩ (.int .i64 0)).setCell ⟨b, 3, none⟩ (.int .i64 9)).setCell ⟨b, 4, none⟩ (.int .i64 1)).setCell ⟨b, 5, none⟩ (.bool true)).setCell ⟨b, 6, none⟩ (.int .i64 0)).setCell ⟨b, 7, none⟩ (.int .i64 1)).setCell ⟨b, 8, none⟩ (.bool false)).setCell ⟨b, 9, none⟩ (.int .i64 0)).setCell ⟨b, 10, none⟩ (.int .i64 1)).setCell ⟨b, 11, none⟩ (.bool false)).setCell ⟨b, 12, none⟩ (.int .i64 0)).setCell ⟨b, 13, none⟩ (.int .i64 5)).setCell ⟨b, 14, none⟩ (.bool true)).setCell ⟨b, 15, none⟩ (.int .i64 0)) = w5 at *
  obtain ⟨y, y0, y1, y2, y3, y4, y5, y6, y7, y8, y9, y10, y11, y12, y13, y14, y15⟩ := Cells.at16 B5.out
  go_wp2
  go_ret
  exact ⟨rfl, H5.out⟩
end Go.Proofs.Ytnabpdengfmeaaa
