/- Layer 4: the fixed answer with which each law of the layer begins. -/
import Derived.Test.YtnabpdengfmeaaaWatchRef
namespace Go.Proofs.Ytnabpdengfmeaaa
open Go.RowKit

theorem reads_nil (w : World) : Reads w none [] := ⟨by simp, by simp [Crc.Bytes], .inl rfl⟩
theorem readN_nil : Fr.readN 70 127 [] = ⟨0, 0, 0, 4⟩ := rfl

set_option maxHeartbeats 8000000 in
set_option maxRecDepth 100000 in
theorem awake04 (w : World) : Calls Try.prog 51 #[] w fun e w' => e = .returned (.bool true) ∧ Below w.heap.size w w' := by
  have C1 := Lib.hid (show comeG ⟨2, 0, -1⟩ (Fr.readN 70 127 []) = ⟨⟨2, 1, -1⟩, 0, 0, 0, false⟩ by rw [readN_nil]; rfl)
  have C2 := Lib.hid (show comeG ⟨2, 1, -1⟩ (Fr.readN 70 127 []) = ⟨⟨2, 2, -1⟩, 0, 0, 0, false⟩ by rw [readN_nil]; rfl)
  have C3 := Lib.hid (show comeG ⟨2, 2, -1⟩ (Fr.readN 70 127 (Fr.frameL 70 0 1 9)) = ⟨⟨2, 0, 0⟩, 0, 1, 9, true⟩ by
    rw [Fr.read_frame (sign := 70) (seq := 0) (w := 1) 127 9 (by omega) (by omega) (by omega) (by omega) (by omega)]; rfl)
  have HPL := Lib.hid (show putL 70 127 0 1 9 = Fr.frameL 70 0 1 9 from rfl)
  have HPE := Lib.hid (show putE 127 0 1 = 0 from rfl)
  have N1 := Lib.hid (show wnewW 2 = ⟨2, 0, -1⟩ from rfl)
  have N2 := Lib.hid (show wnewE 2 = 0 from rfl)
  have O1 := Lib.hid (show overB ⟨2, 2, -1⟩ = true from rfl)
  have O2 := Lib.hid (show overB ⟨2, 0, 0⟩ = false from rfl)
  go_enter Try.func51, Try.ntmps51
  go_wp2_with fail
  refine (wnew_any _ _).mono ?_
  rw [N1.out, N2.out, wt_val]
  rintro e w1 ⟨rfl, hb⟩
  have H1 := Lib.hid (hb.alloc hb.size (.cells #[.int .i64 2, .int .i64 0, .int .i64 (-1)] 71))
  have B1 := Lib.hid (Box3.new w1 (.int .i64 2) (.int .i64 0) (.int .i64 (-1)) 71)
  have HSZ := Lib.hid hb.size
  clear hb
  go_wp2_with fail
  have HX := Lib.hid H1.out.size
  have HG := HSZ
  generalize w1.alloc (.cells #[.int .i64 2, .int .i64 0, .int .i64 (-1)] 71) = w2 at *
  generalize w1.heap.size = b at *
  obtain ⟨x0, x1, x2, x3, x4, x5, x6⟩ := B1.out
  refine (wcome_any _ _ _ _ _ _ [] _ rfl (Nat.le_refl 0) (reads_nil _)).mono ?_
  rw [C1.out, took_val]
  rintro e w3 ⟨rfl, hb⟩
  have H3 := Lib.hid (H1.out.trans (hb.mono H1.out.size))
  have B3 := Lib.hid (B1.out.below hb)
  clear hb x0 x1 x2 x3 x4 x5 x6 H1 B1 HX
  obtain ⟨x0, x1, x2, x3, x4, x5, x6⟩ := B3.out
  go_wp2_with fail
  have B4 := Lib.hid (show Box3 ((((w3).setCell ⟨b, 0, none⟩ (.int .i64 2)).setCell ⟨b, 1, none⟩ (.int .i64 1)).setCell ⟨b, 2, none⟩ (.int .i64 (-1))) b _ _ _ from B3.out.put (.int .i64 2) (.int .i64 1) (.int .i64 (-1)))
  have H4 := Lib.hid (show Below w.heap.size w ((((w3).setCell ⟨b, 0, none⟩ (.int .i64 2)).setCell ⟨b, 1, none⟩ (.int .i64 1)).setCell ⟨b, 2, none⟩ (.int .i64 (-1))) from by have hb3 := H3.out; have hg := HG.out; go_grown)
  clear x0 x1 x2 x3 x4 x5 x6 H3 B3
  generalize (((w3).setCell ⟨b, 0, none⟩ (.int .i64 2)).setCell ⟨b, 1, none⟩ (.int .i64 1)).setCell ⟨b, 2, none⟩ (.int .i64 (-1)) = w4 at *
  refine (wcome_any _ _ _ _ _ _ [] _ rfl (Nat.le_refl 0) (reads_nil _)).mono ?_
  rw [C2.out, took_val]
  rintro e w5 ⟨rfl, hb⟩
  have H5 := Lib.hid (H4.out.trans (hb.mono H4.out.size))
  have B5 := Lib.hid (B4.out.below hb)
  clear hb H4 B4
  obtain ⟨x0, x1, x2, x3, x4, x5, x6⟩ := B5.out
  go_wp2_with fail
  have B6 := Lib.hid (show Box3 ((((w5).setCell ⟨b, 0, none⟩ (.int .i64 2)).setCell ⟨b, 1, none⟩ (.int .i64 2)).setCell ⟨b, 2, none⟩ (.int .i64 (-1))) b _ _ _ from B5.out.put (.int .i64 2) (.int .i64 2) (.int .i64 (-1)))
  have H6 := Lib.hid (show Below w.heap.size w ((((w5).setCell ⟨b, 0, none⟩ (.int .i64 2)).setCell ⟨b, 1, none⟩ (.int .i64 2)).setCell ⟨b, 2, none⟩ (.int .i64 (-1))) from by have hb3 := H5.out; have hg := HG.out; go_grown)
  clear x0 x1 x2 x3 x4 x5 x6 H5 B5
  generalize (((w5).setCell ⟨b, 0, none⟩ (.int .i64 2)).setCell ⟨b, 1, none⟩ (.int .i64 2)).setCell ⟨b, 2, none⟩ (.int .i64 (-1)) = w6 at *
  refine (rput_any _ _ _ _ _ _ (by omega) (by omega) (by omega)).mono ?_
  rw [HPL.out, HPE.out]
  rintro e w7 ⟨v, rfl, hown, hb⟩
  have B7 := Lib.hid (B6.out.below hb)
  have H7 := Lib.hid (H6.out.trans (hb.mono H6.out.size))
  obtain ⟨g, cap, rfl, hg, hcap, hgl, hc, hr⟩ := hown.open13 (Fr.frameL_len _ _ _ _)
  have HR := Lib.hid hr
  clear hb hown hc hr hg hgl H6 B6
  have HL := Lib.hid (Fr.frameL_len 70 0 1 9)
  generalize Fr.frameL 70 0 1 9 = L at *
  obtain ⟨x0, x1, x2, x3, x4, x5, x6⟩ := B7.out
  go_wp2_with fail
  refine (wcome_any _ _ _ _ _ _ L _ HL.out hcap HR.out).mono ?_
  rw [C3.out, took_val]
  rintro e w8 ⟨rfl, hb⟩
  have B8 := Lib.hid (B7.out.below hb)
  have H8 := Lib.hid (H7.out.trans (hb.mono H7.out.size))
  clear hb x0 x1 x2 x3 x4 x5 x6 H7 B7
  have HS8 := Lib.hid H8.out.size
  obtain ⟨x0, x1, x2, x3, x4, x5, x6⟩ := B8.out
  have y0 := Nat.lt_succ_of_lt x0
  have y1 := Nat.lt_succ_of_lt y0
  go_wp2_with fail
  have BV := Lib.hid ((Box3.new w8 (.int .i64 2) (.int .i64 0) (.int .i64 0) 71).below ((Below.refl _ _).alloc (Nat.le_refl _) (.cells #[.int .i64 0, .int .i64 1, .int .i64 9] 49)))
  have BF := Lib.hid (Box3.new (w8.alloc (.cells #[.int .i64 2, .int .i64 0, .int .i64 0] 71)) (.int .i64 0) (.int .i64 1) (.int .i64 9) 49)
  have H9 := Lib.hid (show Below w.heap.size w ((w8.alloc (.cells #[.int .i64 2, .int .i64 0, .int .i64 0] 71)).alloc (.cells #[.int .i64 0, .int .i64 1, .int .i64 9] 49)) from by have hb8 := H8.out; have hs8 := HS8.out; go_grown)
  simp only [size_alloc] at BF
  clear x0 x1 x2 x3 x4 x5 x6 y0 y1 B8 H8 HS8
  generalize (w8.alloc (.cells #[.int .i64 2, .int .i64 0, .int .i64 0] 71)).alloc (.cells #[.int .i64 0, .int .i64 1, .int .i64 9] 49) = w9 at *
  refine (wover_any _ _ _ _).mono ?_
  rw [O1.out]
  rintro e w10 ⟨rfl, hb⟩
  have BV1 := Lib.hid (BV.out.below hb)
  have BF1 := Lib.hid (BF.out.below hb)
  have H10 := Lib.hid (H9.out.trans (hb.mono H9.out.size))
  clear hb BV BF H9
  obtain ⟨x0, x1, x2, x3, x4, x5, x6⟩ := BV1.out
  go_wp2_with fail
  refine (wover_any _ _ _ _).mono ?_
  rw [O2.out]
  rintro e w11 ⟨rfl, hb⟩
  have BF2 := Lib.hid (BF1.out.below hb)
  have H11 := Lib.hid (H10.out.trans (hb.mono H10.out.size))
  clear hb x0 x1 x2 x3 x4 x5 x6
  obtain ⟨x0, x1, x2, x3, x4, x5, x6⟩ := BF2.out
  go_wp2
  go_ret
  exact ⟨rfl, H11.out⟩
end Go.Proofs.Ytnabpdengfmeaaa
