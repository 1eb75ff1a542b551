/- The law DriveTold of layer 7, walked. -/
import Derived.Test.YtnabpdengfmeaaaDriveAwake
import Derived.Test.YtnabpdengfmeaaaDriveTell
namespace Go.Proofs.Ytnabpdengfmeaaa
open Go.RowKit

theorem controlN_bd (s : Int) (want clear : Bool) : 0 ≤ controlN s want clear ∧ controlN s want clear ≤ 7 := by
  unfold controlN; split <;> (try split) <;> (try split) <;> (try split) <;> omega
theorem rightD_q {st a q : Int} {wt : Wt} {p m h : Sw} {k : Bool} (hr : rightD ⟨st, wt, p, m, h, a, k, q⟩ = true) : (0 ≤ q ∧ q ≤ 255) ∧ ∀ q' : Int, 0 ≤ q' → q' ≤ 255 → rightD ⟨st, wt, p, m, h, a, k, q'⟩ = true := by
  simp only [rightD, Bool.and_eq_true, decide_eq_true_iff] at hr ⊢
  obtain ⟨⟨⟨⟨h1, h2⟩, h3⟩, h4⟩, h5⟩ := hr
  exact ⟨⟨h3, h4⟩, fun q' g1 g2 => ⟨⟨⟨⟨h1, h2⟩, g1⟩, g2⟩, h5⟩⟩

set_option maxHeartbeats 8000000 in
set_option maxRecDepth 100000 in
theorem driveTold (st wl wm wt pc po mc mo hc ho a q : Int) (pv mv hv k : Bool) (target c : Int) (w : World) (hc0 : 0 ≤ c) (hc1 : c ≤ 65535) (ht : -9223372036854775808 ≤ target ∧ target ≤ 9223372036854775807) :
    Calls Try.prog 22 #[.agg #[.int .i64 st, .int .i64 wl, .int .i64 wm, .int .i64 wt, .int .i64 pc, .bool pv, .int .i64 po, .int .i64 mc, .bool mv, .int .i64 mo, .int .i64 hc, .bool hv, .int .i64 ho, .int .i64 a, .bool k, .int .i64 q], .int .i64 target, .int .u16 c] w fun e w' => e = .returned (.bool true) ∧ Below w.heap.size w w' := by
  have HTG := Lib.hid ht
  clear ht
  cases hr : rightD ⟨st, ⟨wl, wm, wt⟩, ⟨pc, pv, po⟩, ⟨mc, mv, mo⟩, ⟨hc, hv, ho⟩, a, k, q⟩ with
  | false => as_aux_lemma =>
    have HR := Lib.hid hr
    clear hr
    go_enter Try.func22, Try.ntmps22
    go_wp2_with fail
    have B0 := Lib.hid (Cells.new w (Dr.cs ⟨st, ⟨wl, wm, wt⟩, ⟨pc, pv, po⟩, ⟨mc, mv, mo⟩, ⟨hc, hv, ho⟩, a, k, q⟩) 82)
    refine (awake07 _).mono ?_
    rintro e w1 ⟨rfl, hb⟩
    have B1 := Lib.hid (B0.out.below hb)
    have H1 := Lib.hid (((Below.refl w.heap.size w).alloc (Nat.le_refl _) _).trans (hb.mono (by simp)))
    clear hb B0
    obtain ⟨y, y0, y1, y2, y3, y4, y5, y6, y7, y8, y9, y10, y11, y12, y13, y14, y15⟩ := Cells.at16 B1.out
    go_wp2_with fail
    refine (dright_any _ _ _ _ _ _ _ _ _ _ _ _ _ _ _ _ _).mono ?_
    rw [HR.out]
    rintro e w2 ⟨rfl, hb⟩
    have H2 := Lib.hid (H1.out.trans (hb.mono H1.out.size))
    clear hb
    go_wp2
    go_ret
    exact ⟨rfl, H2.out⟩
  | true => as_aux_lemma =>
    obtain ⟨⟨hq0, hq1⟩, hq⟩ := rightD_q hr
    have HQ := Lib.hid hq
    have HR := Lib.hid hr
    have HQB := Lib.hid (And.intro hq0 hq1)
    clear hr hq hq0 hq1
    go_enter Try.func22, Try.ntmps22
    go_wp2_with fail
    have B0 := Lib.hid (Cells.new w (Dr.cs ⟨st, ⟨wl, wm, wt⟩, ⟨pc, pv, po⟩, ⟨mc, mv, mo⟩, ⟨hc, hv, ho⟩, a, k, q⟩) 82)
    refine (awake07 _).mono ?_
    rintro e w1 ⟨rfl, hb⟩
    have B1 := Lib.hid (B0.out.below hb)
    have H1 := Lib.hid (((Below.refl w.heap.size w).alloc (Nat.le_refl _) _).trans (hb.mono (by simp)))
    clear hb B0
    obtain ⟨y, y0, y1, y2, y3, y4, y5, y6, y7, y8, y9, y10, y11, y12, y13, y14, y15⟩ := Cells.at16 B1.out
    go_wp2_with fail
    refine (dright_any _ _ _ _ _ _ _ _ _ _ _ _ _ _ _ _ _).mono ?_
    rw [HR.out]
    rintro e w2 ⟨rfl, hb⟩
    have B2 := Lib.hid (B1.out.below hb)
    have H2 := Lib.hid (H1.out.trans (hb.mono H1.out.size))
    clear hb y y0 y1 y2 y3 y4 y5 y6 y7 y8 y9 y10 y11 y12 y13 y14 y15 B1 H1 HR
    go_wp2
    have HB := Lib.hid (Nat.le_refl w.heap.size)
    generalize hbd : w.heap.size = b at B2 ⊢
    have HBD := Lib.hid (show w.heap.size ≤ b by omega)
    clear hbd HB
    have hm0 : (0 : Int) ≤ c % 600 := by omega
    have hm1 : c % 600 < 600 := by omega
    go_loopw [7] (fun i wr => ∃ (n : Nat) (q : Int), n ≤ 600 ∧ i = .int .i64 n ∧ 0 ≤ q ∧ q ≤ 255 ∧ Cells wr b (Dr.cs ⟨st, ⟨wl, wm, wt⟩, ⟨pc, pv, po⟩, ⟨mc, mv, mo⟩, ⟨hc, hv, ho⟩, a, k, q⟩) ∧ Below w.heap.size w wr) (fun i _ => 600 - (intOf i).toNat)
    case atStart => exact ⟨0, q, by omega, rfl, HQB.out.1, HQB.out.2, B2.out, H2.out⟩
    case round =>
      clear HQB B2 H2
      obtain ⟨n, q, hn, rfl, hq0, hq1, hB, hH⟩ := hrel
      have B3 := Lib.hid hB
      have H3 := Lib.hid hH
      clear hB hH
      obtain ⟨wo, rfl⟩ : ∃ wo : World, wo = wr := ⟨_, rfl⟩
      by_cases hlt : (n : Int) < c % 600
      · have d1 : decide ((n : Int) < c % 600) = true := decide_eq_true hlt
        obtain ⟨y, y0, y1, y2, y3, y4, y5, y6, y7, y8, y9, y10, y11, y12, y13, y14, y15⟩ := Cells.at16 B3.out
        have CB := controlN_bd st true false
        have PL := Lib.hid (show putL 83 7 q (controlN st true false) target = Fr.frameL 83 q (controlN st true false) target by
          have : putOk 7 q (controlN st true false) = true := by rw [putOk_iff]; exact ⟨hq0, hq1, CB.1, CB.2⟩
          simp [putL, this])
        have RF := Lib.hid (Fr.read_frame (sign := 83) (seq := q) (w := controlN st true false) 7 target (by omega) ⟨hq0, by omega⟩ CB (by omega) HTG.out)
        clear CB
        go_wp2_with fail
        refine (tell_good _ _ _ _ _ _ _ _ _ _ _ _ _ _ _ _ _ _ _ _ (HQ.out _ hq0 hq1) hq0 hq1).mono ?_
        rw [PL.out, dr_val, show tellQ q = (q + 1) % 256 from rfl]
        rintro e w3 ⟨v, rfl, hown, hb⟩
        obtain ⟨g, cap, rfl, hg, hcap, hgl, hcells, hrd⟩ := hown.open13 (Fr.frameL_len _ _ _ _)
        have B4 := Lib.hid (B3.out.below hb)
        have H4 := Lib.hid (H3.out.trans (hb.mono H3.out.size))
        have RD := Lib.hid (hrd.below (show Below w3.heap.size w3 (w3.alloc (.cells #[.int .i64 st, .int .i64 wl, .int .i64 wm, .int .i64 wt, .int .i64 pc, .bool pv, .int .i64 po, .int .i64 mc, .bool mv, .int .i64 mo, .int .i64 hc, .bool hv, .int .i64 ho, .int .i64 a, .bool k, .int .i64 ((q + 1) % 256)] 82)) from by go_grown))
        have HL := Lib.hid (Fr.frameL_len 83 q (controlN st true false) target)
        clear hb hown hcells hrd hg hgl B3 H3 PL y y0 y1 y2 y3 y4 y5 y6 y7 y8 y9 y10 y11 y12 y13 y14 y15
        generalize Fr.frameL 83 q (controlN st true false) target = L at *
        have BN := Lib.hid (show Cells (w3.alloc (.cells #[.int .i64 st, .int .i64 wl, .int .i64 wm, .int .i64 wt, .int .i64 pc, .bool pv, .int .i64 po, .int .i64 mc, .bool mv, .int .i64 mo, .int .i64 hc, .bool hv, .int .i64 ho, .int .i64 a, .bool k, .int .i64 ((q + 1) % 256)] 82)) w3.heap.size (Dr.cs ⟨st, ⟨wl, wm, wt⟩, ⟨pc, pv, po⟩, ⟨mc, mv, mo⟩, ⟨hc, hv, ho⟩, a, k, (q + 1) % 256⟩) from Cells.new w3 (Dr.cs ⟨st, ⟨wl, wm, wt⟩, ⟨pc, pv, po⟩, ⟨mc, mv, mo⟩, ⟨hc, hv, ho⟩, a, k, (q + 1) % 256⟩) 82)
        have B5 := Lib.hid (B4.out.below (show Below w3.heap.size w3 (w3.alloc (.cells #[.int .i64 st, .int .i64 wl, .int .i64 wm, .int .i64 wt, .int .i64 pc, .bool pv, .int .i64 po, .int .i64 mc, .bool mv, .int .i64 mo, .int .i64 hc, .bool hv, .int .i64 ho, .int .i64 a, .bool k, .int .i64 ((q + 1) % 256)] 82)) from by go_grown))
        have H5 := Lib.hid (show Below w.heap.size w (w3.alloc (.cells #[.int .i64 st, .int .i64 wl, .int .i64 wm, .int .i64 wt, .int .i64 pc, .bool pv, .int .i64 po, .int .i64 mc, .bool mv, .int .i64 mo, .int .i64 hc, .bool hv, .int .i64 ho, .int .i64 a, .bool k, .int .i64 ((q + 1) % 256)] 82)) from H4.out.alloc H4.out.size _)
        have hne : b ≠ w3.heap.size := by have := B4.out.1; omega
        have HBN := Lib.hid H4.out.size
        clear B4 H4
        go_wp2_with fail
        generalize w3.alloc (.cells #[.int .i64 st, .int .i64 wl, .int .i64 wm, .int .i64 wt, .int .i64 pc, .bool pv, .int .i64 po, .int .i64 mc, .bool mv, .int .i64 mo, .int .i64 hc, .bool hv, .int .i64 ho, .int .i64 a, .bool k, .int .i64 ((q + 1) % 256)] 82) = w4 at *
        generalize w3.heap.size = bn at *
        as_aux_lemma =>
          refine (rread_any 83 7 _ _ _ L _ HL.out hcap RD.out).mono ?_
          rw [RF.out, got_v]
          rintro e w5 ⟨rfl, hb⟩
          have B6 := Lib.hid (B5.out.below hb)
          have BN6 := Lib.hid (BN.out.below hb)
          have H6 := Lib.hid (H5.out.trans (hb.mono H5.out.size))
          clear hb B5 BN H5 RF RD HL
          obtain ⟨y, y0, y1, y2, y3, y4, y5, y6, y7, y8, y9, y10, y11, y12, y13, y14, y15⟩ := Cells.at16 B6.out
          obtain ⟨z, z0, z1, z2, z3, z4, z5, z6, z7, z8, z9, z10, z11, z12, z13, z14, z15⟩ := Cells.at16 BN6.out
          obtain ⟨f0, f1, f2, f3, f4, f5, f6, f7, f8, f9, f10, f11, f12, f13, f14, f15⟩ := Cells.free16 BN6.out
          go_upto_region 13 with (fail)
          have BN7 := Lib.hid (show Cells (w5.setCell ⟨bn, 15, none⟩ (.int .i64 q)) bn (Dr.cs ⟨st, ⟨wl, wm, wt⟩, ⟨pc, pv, po⟩, ⟨mc, mv, mo⟩, ⟨hc, hv, ho⟩, a, k, q⟩) from BN6.out.set 15 (.int .i64 q))
          have B7 := Lib.hid (B6.out.far hne.symm 15 (.int .i64 q))
          have H7 := Lib.hid (H6.out.setCell (p := ⟨bn, 15, none⟩) HBN.out (.int .i64 q))
          clear y y0 y1 y2 y3 y4 y5 y6 y7 y8 y9 y10 y11 y12 y13 y14 y15 z z0 z1 z2 z3 z4 z5 z6 z7 z8 z9 z10 z11 z12 z13 z14 z15 f0 f1 f2 f3 f4 f5 f6 f7 f8 f9 f10 f11 f12 f13 f14 f15 B6 BN6 H6
          generalize w5.setCell ⟨bn, 15, none⟩ (.int .i64 q) = w6 at *
          as_aux_lemma =>
            obtain ⟨y, y0, y1, y2, y3, y4, y5, y6, y7, y8, y9, y10, y11, y12, y13, y14, y15⟩ := Cells.at16 B7.out
            obtain ⟨z, z0, z1, z2, z3, z4, z5, z6, z7, z8, z9, z10, z11, z12, z13, z14, z15⟩ := Cells.at16 BN7.out
            obtain ⟨f0, f1, f2, f3, f4, f5, f6, f7, f8, f9, f10, f11, f12, f13, f14, f15⟩ := Cells.free16 B7.out
            go_wp2
            go_roundw
            case rel => exact ⟨n + 1, (q + 1) % 256, by omega, by go_num, by omega, by omega, B7.out.set 15 (.int .i64 ((q + 1) % 256)), H7.out.setCell (p := ⟨b, 15, none⟩) HBD.out (.int .i64 ((q + 1) % 256))⟩
            case measure => simp [intOf]; omega
      · have d1 : decide ((n : Int) < c % 600) = false := decide_eq_false hlt
        go_wp2
        go_ret
        exact ⟨rfl, H3.out⟩
end Go.Proofs.Ytnabpdengfmeaaa
