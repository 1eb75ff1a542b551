/- The law DriveSpoilt of layer 7, walked. -/
import Derived.Test.YtnabpdengfmeaaaDriveAwake
import Derived.Test.YtnabpdengfmeaaaFrameSpoiltWalk
import Derived.Test.YtnabpdengfmeaaaDriveKeep
import Derived.Deep.RegionHeld3
namespace Go.Proofs.Ytnabpdengfmeaaa
open Go.RowKit

theorem comeD_err (d : Dr) (e : Int) (he : e ≠ 0) : comeD d ⟨0, 0, 0, e⟩ = comeD d ⟨0, 0, 0, 4⟩ := by
  have : comeG d.w ⟨0, 0, 0, e⟩ = comeG d.w ⟨0, 0, 0, 4⟩ := by
    by_cases h : wrightB d.w = true
    · simp [comeG, h, he]
    · simp [comeG, h]
  unfold comeD
  rw [this]

set_option maxHeartbeats 8000000 in
set_option maxRecDepth 100000 in
theorem driveSpoilt (st wl wm wt pc po mc mo hc ho a q : Int) (pv mv hv k : Bool) (f0 f1 f2 at_ x y : Int) (w : World) (hx0 : 0 ≤ x) (hx1 : x ≤ 255) (hy0 : 0 ≤ y) (hy1 : y ≤ 255) :
    Calls Try.prog 21 #[.agg #[.int .i64 st, .int .i64 wl, .int .i64 wm, .int .i64 wt, .int .i64 pc, .bool pv, .int .i64 po, .int .i64 mc, .bool mv, .int .i64 mo, .int .i64 hc, .bool hv, .int .i64 ho, .int .i64 a, .bool k, .int .i64 q], .agg #[.int .i64 f0, .int .i64 f1, .int .i64 f2], .int .i64 at_, .int .u8 x, .int .u8 y] w fun e w' => e = .returned (.bool true) ∧ Below w.heap.size w w' := by
  cases hok : putOk 127 f0 f1 with
  | false =>
    as_aux_lemma =>
    have E1 := Lib.hid (show putE 127 f0 f1 = 1 by rw [show putE 127 f0 f1 = if putOk 127 f0 f1 = true then 0 else 1 from rfl, if_neg (by rw [hok]; simp)])
    clear hok
    go_enter Try.func21, Try.ntmps21
    go_wp2_with fail
    have BF := Lib.hid (Box3.new (w.alloc (.cells #[.int .i64 st, .int .i64 wl, .int .i64 wm, .int .i64 wt, .int .i64 pc, .bool pv, .int .i64 po, .int .i64 mc, .bool mv, .int .i64 mo, .int .i64 hc, .bool hv, .int .i64 ho, .int .i64 a, .bool k, .int .i64 q] 82)) (.int .i64 f0) (.int .i64 f1) (.int .i64 f2) 49)
    have H0 := Lib.hid (show Below w.heap.size w ((w.alloc (.cells #[.int .i64 st, .int .i64 wl, .int .i64 wm, .int .i64 wt, .int .i64 pc, .bool pv, .int .i64 po, .int .i64 mc, .bool mv, .int .i64 mo, .int .i64 hc, .bool hv, .int .i64 ho, .int .i64 a, .bool k, .int .i64 q] 82)).alloc (.cells #[.int .i64 f0, .int .i64 f1, .int .i64 f2] 49)) from by go_grown)
    simp only [size_alloc] at BF
    refine (awake07 _).mono ?_
    rintro e w1 ⟨rfl, hb⟩
    have BF1 := Lib.hid (BF.out.below hb)
    have H1 := Lib.hid (H0.out.trans (hb.mono H0.out.size))
    clear hb BF H0
    obtain ⟨z, k0, k1, k2, f0', f1', f2'⟩ := BF1.out
    go_wp2_with fail
    refine (rput_any _ _ _ _ _ _ (by omega) (by omega) (by omega)).mono ?_
    rw [E1.out]
    rintro e w2 ⟨v, rfl, hown, hb⟩
    have H2 := Lib.hid (H1.out.trans (hb.mono H1.out.size))
    clear hown hb BF1 H1 z k0 k1 k2 f0' f1' f2'
    go_wp2
    go_ret
    exact ⟨rfl, H2.out⟩
  | true =>
    obtain ⟨q1, q2, q3, q4⟩ := (putOk_iff _ _ _).1 hok
    have FF := Lib.hid (Fr.frame_fits (sign := 70) (seq := f0) (w := f1) f2 (by omega) (by omega) (by omega))
    have E1 := Lib.hid (show putE 127 f0 f1 = 0 by rw [show putE 127 f0 f1 = if putOk 127 f0 f1 = true then 0 else 1 from rfl, if_pos hok])
    have PL := Lib.hid (show putL 70 127 f0 f1 f2 = Fr.frameL 70 f0 f1 f2 by simp [putL, hok])
    clear hok q1 q2 q3 q4
    go_enter Try.func21, Try.ntmps21
    go_wp2_with fail
    have BF := Lib.hid (Box3.new (w.alloc (.cells #[.int .i64 st, .int .i64 wl, .int .i64 wm, .int .i64 wt, .int .i64 pc, .bool pv, .int .i64 po, .int .i64 mc, .bool mv, .int .i64 mo, .int .i64 hc, .bool hv, .int .i64 ho, .int .i64 a, .bool k, .int .i64 q] 82)) (.int .i64 f0) (.int .i64 f1) (.int .i64 f2) 49)
    have BD := Lib.hid (show Cells ((w.alloc (.cells #[.int .i64 st, .int .i64 wl, .int .i64 wm, .int .i64 wt, .int .i64 pc, .bool pv, .int .i64 po, .int .i64 mc, .bool mv, .int .i64 mo, .int .i64 hc, .bool hv, .int .i64 ho, .int .i64 a, .bool k, .int .i64 q] 82)).alloc (.cells #[.int .i64 f0, .int .i64 f1, .int .i64 f2] 49)) w.heap.size (Dr.cs ⟨st, ⟨wl, wm, wt⟩, ⟨pc, pv, po⟩, ⟨mc, mv, mo⟩, ⟨hc, hv, ho⟩, a, k, q⟩) from (Cells.new w (Dr.cs ⟨st, ⟨wl, wm, wt⟩, ⟨pc, pv, po⟩, ⟨mc, mv, mo⟩, ⟨hc, hv, ho⟩, a, k, q⟩) 82).below ((Below.refl _ _).alloc (Nat.le_refl _) (.cells #[.int .i64 f0, .int .i64 f1, .int .i64 f2] 49)))
    have H0 := Lib.hid (show Below w.heap.size w ((w.alloc (.cells #[.int .i64 st, .int .i64 wl, .int .i64 wm, .int .i64 wt, .int .i64 pc, .bool pv, .int .i64 po, .int .i64 mc, .bool mv, .int .i64 mo, .int .i64 hc, .bool hv, .int .i64 ho, .int .i64 a, .bool k, .int .i64 q] 82)).alloc (.cells #[.int .i64 f0, .int .i64 f1, .int .i64 f2] 49)) from by go_grown)
    simp only [size_alloc] at BF
    refine (awake07 _).mono ?_
    rintro e w1 ⟨rfl, hb⟩
    have BF1 := Lib.hid (BF.out.below hb)
    have BD1 := Lib.hid (BD.out.below hb)
    have H1 := Lib.hid (H0.out.trans (hb.mono H0.out.size))
    clear hb BF BD H0
    obtain ⟨z, k0, k1, k2, f0', f1', f2'⟩ := BF1.out
    go_wp2_with fail
    refine (rput_any _ _ _ _ _ _ (by omega) (by omega) (by omega)).mono ?_
    rw [E1.out, PL.out]
    rintro e w2 ⟨v, rfl, hown, hb⟩
    have BD2 := Lib.hid (BD1.out.below hb)
    have H2 := Lib.hid (H1.out.trans (hb.mono H1.out.size))
    obtain ⟨g, cap, rfl, hg, hcap, hgl, hcells, hr⟩ := hown.open13 (Fr.frameL_len _ _ _ _)
    have hne : g ≠ w.heap.size := by have := BD1.out.1; omega
    have HGW := Lib.hid (Nat.le_trans H1.out.size hg)
    have hfr := Own.free13 hown (Fr.frameL_len _ _ _ _)
    have HF13 := Lib.hid (Fr.frameL_len 70 f0 f1 f2)
    generalize Fr.frameL 70 f0 f1 f2 = L at *
    have HR := Lib.hid hr
    have HCE := Lib.hid hcells
    have HFR := Lib.hid hfr
    have HB := Lib.hid hr.2.1
    clear BD1 BF1 H1 z k0 k1 k2 f0' f1' f2' E1 PL hown hr hcells hfr hb hg
    generalize w.heap.size = bd at BD2 hne ⊢
    by_cases hneg : at_ < 0
    · as_aux_lemma =>
      go_wp2
      go_ret
      exact ⟨rfl, H2.out⟩
    by_cases hbig : 12 ≤ at_
    · as_aux_lemma =>
      go_wp2
      go_ret
      exact ⟨rfl, H2.out⟩
    obtain ⟨n, rfl⟩ := Int.eq_ofNat_of_zero_le (show 0 ≤ at_ by omega)
    have hn : n < 12 := by omega
    have d1 : decide ((n : Int) < 0) = false := decide_eq_false hneg
    have d2 : decide ((12 : Int) ≤ (n : Int)) = false := decide_eq_false hbig
    clear hneg hbig
    by_cases hxy : x = 0 ∧ y = 0
    · as_aux_lemma =>
      obtain ⟨rfl, rfl⟩ := hxy
      go_wp2
      go_ret
      exact ⟨rfl, H2.out⟩
    have V := Lib.hid (show (x == 0) = false ∨ (x == 0) = true ∧ (y == 0) = false by
      by_cases hx : x = 0
      · exact .inr ⟨by simp [hx], by rw [beq_eq_false_iff_ne]; exact fun hy => hxy ⟨hx, hy⟩⟩
      · exact .inl (by rw [beq_eq_false_iff_ne]; exact hx))
    have HXY := Lib.hid hxy
    clear hxy
    go_upto_region 4 with (fail)
    go_cut [42] (fun b wx => b = .bool false ∧ wx = w2)
    case first =>
      rcases V.out with e1 | ⟨e1, e2⟩
      all_goals
        go_wp2_with fail
        go_meet
        exact ⟨rfl, rfl⟩
    case rest =>
      obtain ⟨rfl, rfl⟩ := hcut
      have SL := Lib.hid ((spoil_len L n x y).trans HF13.out)
      have SF := Lib.hid (show Fr.sumFits (spoil L n x y) = false by
        rw [← Bool.not_eq_true]
        intro h
        exact HXY.out ((spoil_fits L HF13.out HB.out FF.out n (by omega) x y hx0 hx1 hy0 hy1 (by omega)).1 h))
      have BY := Crc.bytes_at HB.out n
      have BY1 := Crc.bytes_at HB.out (n + 1)
      have XB := Lib.hid (x8_in BY.1 (show L.getD n 0 ≤ 255 by omega) hx0 hx1)
      have X2 := Lib.hid (x8_in BY1.1 (show L.getD (n + 1) 0 ≤ 255 by omega) hy0 hy1)
      have R3 := HR.out.set13 n (by rw [HF13.out]; omega) XB.out.1 XB.out.2
      have RS := Lib.hid (show Reads ((wc.setCell ⟨g, n, none⟩ (.int .u8 (x8 (L.getD n 0) x))).setCell ⟨g, n + 1, none⟩ (.int .u8 (x8 (L.getD (n + 1) 0) y))) (some ⟨g, 0, none⟩) (spoil L n x y) from
            R3.set13 (n + 1) (by rw [List.length_set, HF13.out]; omega) X2.out.1 X2.out.2)
      have BD5 := Lib.hid ((BD2.out.far hne n (.int .u8 (x8 (L.getD n 0) x))).far hne (n + 1) (.int .u8 (x8 (L.getD (n + 1) 0) y)))
      have H5 := Lib.hid ((H2.out.setCell (p := ⟨g, n, none⟩) HGW.out (.int .u8 (x8 (L.getD n 0) x))).setCell (p := ⟨g, n + 1, none⟩) HGW.out (.int .u8 (x8 (L.getD (n + 1) 0) y)))
      have k0 := HCE.out n (by omega)
      have k1 := HCE.out (n + 1) (by omega)
      have f0' := HFR.out n
      have f1' := HFR.out (n + 1)
      clear R3 X2 XB HXY V HB HFR HCE HR FF BD2 H2
      have C1 := Lib.hid (show comeD ⟨st, ⟨wl, wm, wt⟩, ⟨pc, pv, po⟩, ⟨mc, mv, mo⟩, ⟨hc, hv, ho⟩, a, k, q⟩ (Fr.readN 70 127 (spoil L n x y)) = comeD ⟨st, ⟨wl, wm, wt⟩, ⟨pc, pv, po⟩, ⟨mc, mv, mo⟩, ⟨hc, hv, ho⟩, a, k, q⟩ ⟨0, 0, 0, 4⟩ by rw [readN_unfit 70 127 _ SL.out SF.out]; exact comeD_err _ _ (by omega))
      have C2 := Lib.hid (show comeD ⟨st, ⟨wl, wm, wt⟩, ⟨pc, pv, po⟩, ⟨mc, mv, mo⟩, ⟨hc, hv, ho⟩, a, k, q⟩ (Fr.readN 70 127 []) = comeD ⟨st, ⟨wl, wm, wt⟩, ⟨pc, pv, po⟩, ⟨mc, mv, mo⟩, ⟨hc, hv, ho⟩, a, k, q⟩ ⟨0, 0, 0, 4⟩ from rfl)
      generalize hX : comeD ⟨st, ⟨wl, wm, wt⟩, ⟨pc, pv, po⟩, ⟨mc, mv, mo⟩, ⟨hc, hv, ho⟩, a, k, q⟩ ⟨0, 0, 0, 4⟩ = X at C1 C2
      clear hX
      obtain ⟨xs, ⟨xl, xm, xt⟩, ⟨xpc, xpv, xpo⟩, ⟨xmc, xmv, xmo⟩, ⟨xhc, xhv, xho⟩, xa, xk, xq⟩ := X
      generalize L.getD n 0 = z0 at *
      generalize L.getD (n + 1) 0 = z1 at *
      generalize spoil L n x y = S at *
      clear HF13 SF hgl
      go_upto_region 8 with (fail)
      clear k0 k1 f0' f1'
      unfold x8 at RS BD5 H5
      generalize (wc.setCell ⟨g, n, none⟩ (.int .u8 (bits .xor .u8 z0 x))).setCell ⟨g, n + 1, none⟩ (.int .u8 (bits .xor .u8 z1 y)) = w5 at *
      obtain ⟨u, u0, u1, u2, u3, u4, u5, u6, u7, u8, u9, u10, u11, u12, u13, u14, u15⟩ := Cells.at16 BD5.out
      have tok1 : True := trivial
      go_region_held3 (fun w' => w'.cell? ⟨bd, 0, none⟩ = some (.int .i64 st) ∧ w'.cell? ⟨bd, 1, none⟩ = some (.int .i64 wl) ∧ w'.cell? ⟨bd, 2, none⟩ = some (.int .i64 wm) ∧ w'.cell? ⟨bd, 3, none⟩ = some (.int .i64 wt) ∧ w'.cell? ⟨bd, 4, none⟩ = some (.int .i64 pc) ∧ w'.cell? ⟨bd, 5, none⟩ = some (.bool pv) ∧ w'.cell? ⟨bd, 6, none⟩ = some (.int .i64 po) ∧ w'.cell? ⟨bd, 7, none⟩ = some (.int .i64 mc) ∧ w'.cell? ⟨bd, 8, none⟩ = some (.bool mv) ∧ w'.cell? ⟨bd, 9, none⟩ = some (.int .i64 mo) ∧ w'.cell? ⟨bd, 10, none⟩ = some (.int .i64 hc) ∧ w'.cell? ⟨bd, 11, none⟩ = some (.bool hv) ∧ w'.cell? ⟨bd, 12, none⟩ = some (.int .i64 ho) ∧ w'.cell? ⟨bd, 13, none⟩ = some (.int .i64 a) ∧ w'.cell? ⟨bd, 14, none⟩ = some (.bool k) ∧ w'.cell? ⟨bd, 15, none⟩ = some (.int .i64 q))
        (exact keep16 (by go_grown) BD5.out)
        (first
          | (have _t := tok1; go_at_call 60; refine (dcome_any ⟨st, ⟨wl, wm, wt⟩, ⟨pc, pv, po⟩, ⟨mc, mv, mo⟩, ⟨hc, hv, ho⟩, a, k, q⟩ (some ⟨g, 0, none⟩) 13 cap S _ SL.out hcap (RS.out.below (show Below w5.heap.size w5 _ from by go_grown))).mono ?_; rw [C1.out, dr_val]; rintro e wk ⟨rfl, hb⟩; have hbw := Below.trans (show Below w5.heap.size w5 _ from by go_grown) (hb.mono (by first | exact Nat.le_refl _ | (simp; done) | (simp; omega))); have hbs := hbw.size; clear hb tok1 _t)
          | (go_at_call 60; refine (dcome_any ⟨st, ⟨wl, wm, wt⟩, ⟨pc, pv, po⟩, ⟨mc, mv, mo⟩, ⟨hc, hv, ho⟩, a, k, q⟩ none 0 0 [] _ rfl (Nat.le_refl 0) (reads_nil _)).mono ?_; rw [C2.out, dr_val]; rintro e wl ⟨rfl, hb⟩; have hbx := hbw.trans (hb.mono hbs); have hby := hbx.size; clear hb)
          | fail)
      all_goals
        have HH := Lib.hid (H5.out.trans (hbx.mono H5.out.size))
        clear hbx hby hbw hbs u u0 u1 u2 u3 u4 u5 u6 u7 u8 u9 u10 u11 u12 u13 u14 u15
        go_wp2
        go_ret
        exact ⟨rfl, HH.out⟩
end Go.Proofs.Ytnabpdengfmeaaa
