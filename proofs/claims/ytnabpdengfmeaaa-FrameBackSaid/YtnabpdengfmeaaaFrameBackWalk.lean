/- The law FrameBack of layer 3, walked. -/
import Derived.Test.YtnabpdengfmeaaaFrameAwake
namespace Go.Proofs.Ytnabpdengfmeaaa
open Go.RowKit

/-- The second half: a set is put and read. -/
theorem putL_ok {sign most seq wd p : Int} (h : putOk most seq wd = true) : putL sign most seq wd p = Fr.frameL sign seq wd p := by simp [putL, h]

set_option maxHeartbeats 8000000 in
set_option maxRecDepth 100000 in
theorem frameBack (f0 f1 f2 s0 s1 s2 : Int) (w : World) (hf : -9223372036854775808 ≤ f2 ∧ f2 ≤ 9223372036854775807) (hs : -9223372036854775808 ≤ s2 ∧ s2 ≤ 9223372036854775807) :
    Calls Try.prog 14 #[.agg #[.int .i64 f0, .int .i64 f1, .int .i64 f2], .agg #[.int .i64 s0, .int .i64 s1, .int .i64 s2]] w fun e w' => e = .returned (.bool true) ∧ Below w.heap.size w w' := by
  have HF := Lib.hid (show putOk 127 f0 f1 = true → Fr.readN 70 127 (Fr.frameL 70 f0 f1 f2) = ⟨f0, f1, f2, 0⟩ ∧ Fr.readN 83 7 (Fr.frameL 70 f0 f1 f2) = ⟨0, 0, 0, 5⟩ from fun h => by
    obtain ⟨h1, h2, h3, h4⟩ := (putOk_iff _ _ _).1 h
    exact ⟨Fr.read_frame 127 f2 (by omega) (by omega) (by omega) (by omega) hf, Fr.read_other 7 f2 (by omega) (by omega) (by omega) (by omega)⟩)
  have HS := Lib.hid (show putOk 7 s0 s1 = true → Fr.readN 83 7 (Fr.frameL 83 s0 s1 s2) = ⟨s0, s1, s2, 0⟩ ∧ Fr.readN 70 127 (Fr.frameL 83 s0 s1 s2) = ⟨0, 0, 0, 5⟩ from fun h => by
    obtain ⟨h1, h2, h3, h4⟩ := (putOk_iff _ _ _).1 h
    exact ⟨Fr.read_frame 7 s2 (by omega) (by omega) (by omega) (by omega) hs, Fr.read_other 127 s2 (by omega) (by omega) (by omega) (by omega)⟩)
  clear hf hs
  have EF := Lib.hid (show putE 127 f0 f1 = if putOk 127 f0 f1 = true then 0 else 1 from rfl)
  have ES := Lib.hid (show putE 7 s0 s1 = if putOk 7 s0 s1 = true then 0 else 1 from rfl)
  go_enter Try.func14, Try.ntmps14
  go_wp2_with fail
  have BF := Lib.hid ((Box3.new w (.int .i64 f0) (.int .i64 f1) (.int .i64 f2) 49).below ((Below.refl _ _).alloc (Nat.le_refl _) (.cells #[.int .i64 s0, .int .i64 s1, .int .i64 s2] 56)))
  have BS := Lib.hid (Box3.new (w.alloc (.cells #[.int .i64 f0, .int .i64 f1, .int .i64 f2] 49)) (.int .i64 s0) (.int .i64 s1) (.int .i64 s2) 56)
  have H0 := Lib.hid (show Below w.heap.size w ((w.alloc (.cells #[.int .i64 f0, .int .i64 f1, .int .i64 f2] 49)).alloc (.cells #[.int .i64 s0, .int .i64 s1, .int .i64 s2] 56)) from by go_grown)
  rw [show (w.alloc (.cells #[.int .i64 f0, .int .i64 f1, .int .i64 f2] 49)).heap.size = w.heap.size + 1 by simp] at BS
  refine (awake03 _).mono ?_
  rintro e w1 ⟨rfl, hb⟩
  have BF1 := Lib.hid (BF.out.below hb)
  have BS1 := Lib.hid (BS.out.below hb)
  have H1 := Lib.hid (H0.out.trans (hb.mono H0.out.size))
  clear hb BF BS H0
  obtain ⟨z, k0, k1, k2, f0', f1', f2'⟩ := BF1.out
  go_wp2_with fail
  refine (putFeed_any _ _ _ _).mono ?_
  rintro e w2 ⟨v, rfl, hown, hb⟩
  have HV := Lib.hid hown
  have BF2 := Lib.hid (BF1.out.below hb)
  have BS2 := Lib.hid (BS1.out.below hb)
  have H2 := Lib.hid (H1.out.trans (hb.mono H1.out.size))
  clear hown hb BF1 BS1 H1 z k0 k1 k2 f0' f1' f2'
  obtain ⟨z, k0, k1, k2, f0', f1', f2'⟩ := BF2.out
  cases hok : putOk 127 f0 f1
  case' true =>
    have RF := Lib.hid (HF.out hok)
    rw [show putE 127 f0 f1 = 0 by rw [EF.out, if_pos hok]]
    have hown := HV.out
    rw [putL_ok hok] at hown
    clear HV hok EF HF
    obtain ⟨g, cap, rfl, hg, hcap, hgl, _, hr⟩ := hown.open13 (Fr.frameL_len _ _ _ _)
    have HR := Lib.hid hr
    have HL := Lib.hid (Fr.frameL_len 70 f0 f1 f2)
    clear hown hr hg hgl
    generalize Fr.frameL 70 f0 f1 f2 = L at *
    go_wp2_with fail
    refine (readFeed_any _ _ _ L _ HL.out hcap HR.out).mono ?_
    rw [RF.out.1, feed_v]
    rintro e w3 ⟨rfl, hb⟩
    have HR3 := Lib.hid ((HR.out.below hb).below ((Below.refl _ _).alloc (Nat.le_refl _) (.cells #[.int .i64 f0, .int .i64 f1, .int .i64 f2] 49)))
    have BF3 := Lib.hid (BF2.out.below hb)
    have BS3 := Lib.hid (BS2.out.below hb)
    have H3 := Lib.hid (H2.out.trans (hb.mono H2.out.size))
    have BG := Lib.hid (Box3.new w3 (.int .i64 f0) (.int .i64 f1) (.int .i64 f2) 49)
    clear hb BF2 BS2 H2 HR z k0 k1 k2 f0' f1' f2'
    go_wp2_with fail
    refine (readSet_any _ _ _ L _ HL.out hcap HR3.out).mono ?_
    rw [RF.out.2, feed_v]
    rintro e w4 ⟨rfl, hb⟩
    have BF4 := Lib.hid ((BF3.out.below ((Below.refl _ _).alloc (Nat.le_refl _) (.cells #[.int .i64 f0, .int .i64 f1, .int .i64 f2] 49))).below hb)
    have BS4 := Lib.hid ((BS3.out.below ((Below.refl _ _).alloc (Nat.le_refl _) (.cells #[.int .i64 f0, .int .i64 f1, .int .i64 f2] 49))).below hb)
    have BG4 := Lib.hid (BG.out.below hb)
    have H4 := Lib.hid ((H3.out.alloc H3.out.size _).trans (hb.mono (by have := H3.out.size; simp; omega)))
    have HZ4 := H4.out.size
    clear hb BF3 BS3 H3 HR3 BG RF
    obtain ⟨z, k0, k1, k2, f0', f1', f2'⟩ := BF4.out
    obtain ⟨y, j0, j1, j2, e0', e1', e2'⟩ := BG4.out
    have y1 := Nat.lt_succ_of_lt y
    have z1 := Nat.lt_succ_of_lt z
    obtain ⟨x, i0, i1, i2, _, _, _⟩ := BS4.out
    have x1 := Nat.lt_succ_of_lt x
    go_wp2_with fail
    have BS5 := Lib.hid (BS4.out.below ((Below.refl _ _).alloc (Nat.le_refl _) (.cells #[.int .i64 0, .int .i64 0, .int .i64 0] 56)))
    have H5 := Lib.hid (H4.out.alloc HZ4 (.cells #[.int .i64 0, .int .i64 0, .int .i64 0] 56))
    clear z k0 k1 k2 f0' f1' f2' y j0 j1 j2 e0' e1' e2' y1 z1 x x1 i0 i1 i2 BF4 BG4 BS4 H4 HZ4
  case' false =>
    rw [show putE 127 f0 f1 = 1 by rw [EF.out, if_neg (by rw [hok]; simp)]]
    clear HV hok EF HF
    have BS5 := BS2
    have H5 := H2
    clear z k0 k1 k2 f0' f1' f2' BF2 BS2 H2
    obtain ⟨z, k0, k1, k2, f0', f1', f2'⟩ := BS5.out
    go_wp2_with fail
    clear z k0 k1 k2 f0' f1' f2'
  all_goals
    refine (putSet_any _ _ _ _).mono ?_
    rintro e w6 ⟨v, rfl, hown, hb⟩
    have HV := Lib.hid hown
    have BS6 := Lib.hid (BS5.out.below hb)
    have H6 := Lib.hid (H5.out.trans (hb.mono H5.out.size))
    clear hown hb BS5 H5
    cases hok : putOk 7 s0 s1
  case' true.true | false.true =>
    have RS := Lib.hid (HS.out hok)
    rw [show putE 7 s0 s1 = 0 by rw [ES.out, if_pos hok]]
    have hown := HV.out
    rw [putL_ok hok] at hown
    clear HV hok ES HS
    obtain ⟨g, cap, rfl, hg, hcap, hgl, _, hr⟩ := hown.open13 (Fr.frameL_len _ _ _ _)
    have HR := Lib.hid hr
    have HL := Lib.hid (Fr.frameL_len 83 s0 s1 s2)
    clear hown hr hg hgl
    generalize Fr.frameL 83 s0 s1 s2 = M at *
    go_wp2_with fail
    refine (readSet_any _ _ _ M _ HL.out hcap HR.out).mono ?_
    rw [RS.out.1, feed_v]
    rintro e w7 ⟨rfl, hb⟩
    have HR7 := Lib.hid ((HR.out.below hb).below ((Below.refl _ _).alloc (Nat.le_refl _) (.cells #[.int .i64 s0, .int .i64 s1, .int .i64 s2] 56)))
    have BS7 := Lib.hid (BS6.out.below hb)
    have H7 := Lib.hid (H6.out.trans (hb.mono H6.out.size))
    have BG := Lib.hid (Box3.new w7 (.int .i64 s0) (.int .i64 s1) (.int .i64 s2) 56)
    clear hb BS6 H6 HR
    go_wp2_with fail
    refine (readFeed_any _ _ _ M _ HL.out hcap HR7.out).mono ?_
    rw [RS.out.2, feed_v]
    rintro e w8 ⟨rfl, hb⟩
    have BS8 := Lib.hid ((BS7.out.below ((Below.refl _ _).alloc (Nat.le_refl _) (.cells #[.int .i64 s0, .int .i64 s1, .int .i64 s2] 56))).below hb)
    have BG8 := Lib.hid (BG.out.below hb)
    have hb8 := (H7.out.alloc H7.out.size _).trans (hb.mono (by have := H7.out.size; simp; omega))
    have hs8 := hb8.size
    clear hb BS7 H7 HR7 BG RS
    obtain ⟨z, k0, k1, k2, f0', f1', f2'⟩ := BS8.out
    obtain ⟨y, j0, j1, j2, e0', e1', e2'⟩ := BG8.out
    have y1 := Nat.lt_succ_of_lt y
    have z1 := Nat.lt_succ_of_lt z
    have HB8 := Lib.hid hb8
    clear hb8
    go_wp2
    go_ret
    have hb8 := HB8.out
    exact ⟨rfl, by go_grown⟩
  all_goals
    rw [show putE 7 s0 s1 = 1 by rw [ES.out, if_neg (by rw [hok]; simp)]]
    clear HV hok ES HS
    go_wp2
    go_ret
    exact ⟨rfl, H6.out⟩
end Go.Proofs.Ytnabpdengfmeaaa
