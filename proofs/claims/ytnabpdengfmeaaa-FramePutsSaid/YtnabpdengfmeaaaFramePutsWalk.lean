/- The law FramePuts of layer 3, walked. -/
import Derived.Test.YtnabpdengfmeaaaFrameAwake
namespace Go.Proofs.Ytnabpdengfmeaaa
open Go.RowKit

theorem putL_len (sign most seq wd p : Int) : (putL sign most seq wd p).length ≤ 13 := by
  unfold putL; split
  · rw [Fr.frameL_len]; omega
  · simp
theorem sameB_self (l : List Int) : sameB l l = true := decide_eq_true rfl

set_option maxHeartbeats 4000000 in
set_option maxRecDepth 100000 in
theorem framePuts (f0 f1 f2 s0 s1 s2 : Int) (w : World) :
    Calls Try.prog 12 #[.agg #[.int .i64 f0, .int .i64 f1, .int .i64 f2], .agg #[.int .i64 s0, .int .i64 s1, .int .i64 s2]] w fun e w' => e = .returned (.bool true) ∧ Below w.heap.size w w' := by
  have P13 := Lib.hid (putL_len 70 127 f0 f1 f2)
  have S13 := Lib.hid (putL_len 83 7 s0 s1 s2)
  go_enter Try.func12, Try.ntmps12
  go_wp2_with fail
  have BF := Lib.hid ((Box3.new w (.int .i64 f0) (.int .i64 f1) (.int .i64 f2) 49).below ((Below.refl _ _).alloc (Nat.le_refl _) (.cells #[.int .i64 s0, .int .i64 s1, .int .i64 s2] 56)))
  have BS := Lib.hid (Box3.new (w.alloc (.cells #[.int .i64 f0, .int .i64 f1, .int .i64 f2] 49)) (.int .i64 s0) (.int .i64 s1) (.int .i64 s2) 56)
  have H0 := Lib.hid (show Below w.heap.size w ((w.alloc (.cells #[.int .i64 f0, .int .i64 f1, .int .i64 f2] 49)).alloc (.cells #[.int .i64 s0, .int .i64 s1, .int .i64 s2] 56)) from by go_grown)
  rw [show (w.alloc (.cells #[.int .i64 f0, .int .i64 f1, .int .i64 f2] 49)).heap.size = w.heap.size + 1 by simp] at BS
  refine (awake03 _).mono ?_
  rintro e w1 ⟨rfl, hb⟩
  have BF1 := Lib.hid (BF.out.below hb)
  have BS1 := Lib.hid (BS.out.below hb)
  have H1 := Lib.hid (H0.out.trans (hb.mono H0.out.size))
  clear hb BF BS H0
  obtain ⟨z, k0, k1, k2, f0', f1', f2'⟩ := BF1.out
  go_wp2_with fail
  refine (putFeed_any _ _ _ _).mono ?_
  rintro e w2 ⟨v, rfl, hown, hb⟩
  have HV := Lib.hid hown
  have BF2 := Lib.hid (BF1.out.below hb)
  have BS2 := Lib.hid (BS1.out.below hb)
  have H2 := Lib.hid (H1.out.trans (hb.mono H1.out.size))
  clear hown hb BF1 BS1 H1 z k0 k1 k2 f0' f1' f2'
  obtain ⟨z, k0, k1, k2, f0', f1', f2'⟩ := BF2.out
  generalize hE : putE 127 f0 f1 = E
  have HE := Lib.hid hE
  clear hE
  go_wp2_with fail
  refine (rput_any _ _ _ _ _ _ (by omega) (by omega) (by omega)).mono ?_
  rw [HE.out]
  rintro e w3 ⟨u, rfl, hown, hb⟩
  obtain ⟨av, cv, rfl, hcv, hrv⟩ := (HV.out.below hb).form
  obtain ⟨au, cu, rfl, hcu, hru⟩ := hown.form
  have RV := Lib.hid hrv
  have RU := Lib.hid hru
  have BS3 := Lib.hid (BS2.out.below hb)
  have H3 := Lib.hid (H2.out.trans (hb.mono H2.out.size))
  clear hown hb BF2 BS2 H2 HV z k0 k1 k2 f0' f1' f2' hcv hcu hrv hru
  have SS := Lib.hid (sameB_self (putL 70 127 f0 f1 f2))
  generalize putL 70 127 f0 f1 f2 = L at *
  go_wp2_with fail
  refine (same_any _ _ _ _ _ _ L L _ rfl RV.out rfl RU.out (by have := P13.out; omega)).mono ?_
  rw [SS.out]
  rintro e w4 ⟨rfl, n, hw4⟩
  have BS4 := Lib.hid (show Box3 w4 _ _ _ _ by rw [hw4]; exact BS3.out.drewN n)
  have H4 := Lib.hid (show Below w.heap.size w w4 by rw [hw4]; exact below_drewN H3.out n)
  clear hw4 BS3 H3 RV RU
  obtain ⟨z, k0, k1, k2, f0', f1', f2'⟩ := BS4.out
  have te : (E == E) = true := beq_self_eq_true E
  have tn : (E != E) = false := by simp
  go_wp2_with fail
  refine (putSet_any _ _ _ _).mono ?_
  rintro e w5 ⟨v, rfl, hown, hb⟩
  have HV := Lib.hid hown
  have BS5 := Lib.hid (BS4.out.below hb)
  have H5 := Lib.hid (H4.out.trans (hb.mono H4.out.size))
  clear hown hb BS4 H4 z k0 k1 k2 f0' f1' f2' te tn
  obtain ⟨z, k0, k1, k2, f0', f1', f2'⟩ := BS5.out
  generalize hE : putE 7 s0 s1 = D
  have HD := Lib.hid hE
  clear hE
  go_wp2_with fail
  refine (rput_any _ _ _ _ _ _ (by omega) (by omega) (by omega)).mono ?_
  rw [HD.out]
  rintro e w6 ⟨u, rfl, hown, hb⟩
  obtain ⟨av, cv, rfl, hcv, hrv⟩ := (HV.out.below hb).form
  obtain ⟨au, cu, rfl, hcu, hru⟩ := hown.form
  have RV := Lib.hid hrv
  have RU := Lib.hid hru
  have H6 := Lib.hid (H5.out.trans (hb.mono H5.out.size))
  clear hown hb BS5 H5 HV z k0 k1 k2 f0' f1' f2' hcv hcu hrv hru
  have SS := Lib.hid (sameB_self (putL 83 7 s0 s1 s2))
  generalize putL 83 7 s0 s1 s2 = M at *
  go_wp2_with fail
  refine (same_any _ _ _ _ _ _ M M _ rfl RV.out rfl RU.out (by have := S13.out; omega)).mono ?_
  rw [SS.out]
  rintro e w7 ⟨rfl, n, hw7⟩
  have H7 := Lib.hid (show Below w.heap.size w w7 by rw [hw7]; exact below_drewN H6.out n)
  clear hw7
  have te : (D == D) = true := beq_self_eq_true D
  go_wp2
  go_ret
  exact ⟨rfl, H7.out⟩
end Go.Proofs.Ytnabpdengfmeaaa
