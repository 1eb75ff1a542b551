/- The law DriveTakes of layer 7, walked. (Written by a program of mine, gen_drivetakes.py.) -/
import Derived.Test.YtnabpdengfmeaaaDriveAwake
import Derived.Test.YtnabpdengfmeaaaTakesRegs
import Derived.Test.YtnabpdengfmeaaaDriveLaws
import Derived.Test.YtnabpdengfmeaaaDriveKeep
import Derived.Test.YtnabpdengfmeaaaDriveMid
import Derived.Test.YtnabpdengfmeaaaRowsIn
import Derived.Deep.DeepCutAuto
namespace Go.Proofs.Ytnabpdengfmeaaa
open Go.RowKit


set_option maxHeartbeats 8000000 in
set_option maxRecDepth 100000 in
theorem driveTakes (limit count : Int) (a : Option Addr) (len cap : Nat) (l : Nat → Row) (w : World) (hlen : len ≤ 9223372036854775807) (h : ReadsR w a len l) :
    Calls Try.prog 20 #[.int .i64 limit, .int .i64 count, .slice a len cap] w fun e w' => e = .returned (.bool true) ∧ Below w.heap.size w w' := by
  have HA := Lib.hid h
  clear h
  by_cases hok : (1 ≤ limit ∧ limit ≤ 100) ∧ 1 ≤ count ∧ count ≤ 20
  case' neg =>
    as_aux_lemma =>
    have N1 := Lib.hid (show newD limit count = zeroD by simp only [newD, if_neg hok]; rfl)
    have N2 := Lib.hid (show newDE limit count = 1 by simp only [newDE, if_neg hok])
    clear hok
    go_enter Try.func20, Try.ntmps20
    go_wp2_with fail
    refine (awake07 _).mono ?_
    rintro e w1 ⟨rfl, hb⟩
    have H1 := Lib.hid hb
    clear hb
    go_wp2_with fail
    refine (dnew_any _ _ _).mono ?_
    rw [N1.out, N2.out, zeroD, dr_val]
    rintro e w2 ⟨rfl, hb⟩
    have HS := Lib.hid (Nat.le_trans H1.out.size hb.size)
    have H2 := Lib.hid ((H1.out.trans (hb.mono H1.out.size)).alloc HS.out (.cells #[.int .i64 0, .int .i64 0, .int .i64 0, .int .i64 0, .int .i64 0, .bool false, .int .i64 0, .int .i64 0, .bool false, .int .i64 0, .int .i64 0, .bool false, .int .i64 0, .int .i64 0, .bool false, .int .i64 0] 82))
    clear hb H1
    go_wp2
    go_ret
    exact ⟨rfl, H2.out⟩
  case' pos =>
    have N1 := Lib.hid (show newD limit count = ⟨0, ⟨limit, 0, -1⟩, ⟨count, false, 0⟩, ⟨count, false, 0⟩, ⟨count, false, 0⟩, 0, false, 0⟩ by simp only [newD, if_pos hok])
    have N2 := Lib.hid (show newDE limit count = 0 by simp only [newDE, if_pos hok])
    have R0 := Lib.hid (show rightD ⟨0, ⟨limit, 0, -1⟩, ⟨count, false, 0⟩, ⟨count, false, 0⟩, ⟨count, false, 0⟩, 0, false, 0⟩ = true from rightD_of ((right_iff count 0 false).2 ⟨hok.2.1, hok.2.2, by omega, by omega⟩) ((right_iff count 0 false).2 ⟨hok.2.1, hok.2.2, by omega, by omega⟩) ((right_iff count 0 false).2 ⟨hok.2.1, hok.2.2, by omega, by omega⟩) rfl rfl ((wright_iff limit 0 (-1)).2 ⟨hok.1.1, hok.1.2, by omega, by omega, by omega, by omega⟩) (by simp) (by simp) (by simp) (by simp) (.inr rfl))
    clear hok
    go_enter Try.func20, Try.ntmps20
    go_wp2_with fail
    refine (awake07 _).mono ?_
    rintro e w1 ⟨rfl, hb⟩
    have H1 := Lib.hid hb
    clear hb
    go_wp2_with fail
    refine (dnew_any _ _ _).mono ?_
    rw [N1.out, N2.out, dr_val]
    rintro e w2 ⟨rfl, hb⟩
    have B2 := Lib.hid (show Cells (w2.alloc (.cells #[.int .i64 0, .int .i64 limit, .int .i64 0, .int .i64 (-1), .int .i64 count, .bool false, .int .i64 0, .int .i64 count, .bool false, .int .i64 0, .int .i64 count, .bool false, .int .i64 0, .int .i64 0, .bool false, .int .i64 0] 82)) w2.heap.size (Dr.cs ⟨0, ⟨limit, 0, -1⟩, ⟨count, false, 0⟩, ⟨count, false, 0⟩, ⟨count, false, 0⟩, 0, false, 0⟩) from Cells.new w2 (Dr.cs ⟨0, ⟨limit, 0, -1⟩, ⟨count, false, 0⟩, ⟨count, false, 0⟩, ⟨count, false, 0⟩, 0, false, 0⟩) 82)
    have HS := Lib.hid (Nat.le_trans H1.out.size hb.size)
    have H2 := Lib.hid ((H1.out.trans (hb.mono H1.out.size)).alloc HS.out (.cells #[.int .i64 0, .int .i64 limit, .int .i64 0, .int .i64 (-1), .int .i64 count, .bool false, .int .i64 0, .int .i64 count, .bool false, .int .i64 0, .int .i64 count, .bool false, .int .i64 0, .int .i64 0, .bool false, .int .i64 0] 82))
    clear hb H1 N1 N2
    go_wp2_with fail
    generalize w2.alloc (.cells #[.int .i64 0, .int .i64 limit, .int .i64 0, .int .i64 (-1), .int .i64 count, .bool false, .int .i64 0, .int .i64 count, .bool false, .int .i64 0, .int .i64 count, .bool false, .int .i64 0, .int .i64 0, .bool false, .int .i64 0] 82) = w3 at *
    generalize w2.heap.size = b at *
    go_loopw [9] (fun i wr => ∃ (k : Nat) (x : Dr), k ≤ len ∧ k ≤ 300 ∧ i = .int .i64 k ∧ rightD x = true ∧ Cells wr b (Dr.cs x) ∧ Below w.heap.size w wr) (fun i _ => 300 - (intOf i).toNat)
    case atStart => exact ⟨0, _, by omega, by omega, rfl, R0.out, B2.out, H2.out⟩
    case round =>
      clear B2 H2 R0
      obtain ⟨k, ⟨dst, ⟨dwl, dwm, dwt⟩, ⟨dpc, dpv, dpo⟩, ⟨dmc, dmv, dmo⟩, ⟨dhc, dhv, dho⟩, da, dk, dq⟩, hk, hk3, rfl, hR, hB, hH⟩ := hrel
      have HB := Lib.hid hB
      have HH := Lib.hid hH
      have HR := Lib.hid hR
      clear hB hH hR
      by_cases hlt : k < len
      case' neg =>
        go_wp2
        go_ret
        exact ⟨rfl, HH.out⟩
      case' pos =>
        by_cases hlt3 : k < 300
        case' neg =>
          have d1 : decide ((k : Int) < 300) = false := decide_eq_false (by omega)
          go_wp2
          go_ret
          exact ⟨rfl, HH.out⟩
        case' pos =>
          obtain ⟨ba, oa, rfl, hba, hca, hnc, hzl, hzr⟩ := HA.out k hlt
          have hc : wr.cell? ⟨ba, oa + k, none⟩ = some (.slice (l k).a (l k).n (l k).c) := (HH.out.cell (p := ⟨ba, oa + k, none⟩) hba).trans hca
          have HZ := Lib.hid (hzr.below HH.out)
          have HZL := Lib.hid hzl
          have hzm := hzr.1
          clear hca hzr hzl
          generalize (l k).a = ra at *
          generalize (l k).c = rc at *
          generalize (l k).z = z at *
          generalize (l k).n = rn at *
          have hrn : (rn : Int) ≤ 9223372036854775807 := by have := HZL.out; omega
          by_cases h40 : 40 < rn
          case' pos =>
            go_wp2
            go_ret
            exact ⟨rfl, HH.out⟩
          case' neg =>
            obtain ⟨y, y0, y1, y2, y3, y4, y5, y6, y7, y8, y9, y10, y11, y12, y13, y14, y15⟩ := Cells.at16 (show Cells wr b [.int .i64 dst, .int .i64 dwl, .int .i64 dwm, .int .i64 dwt, .int .i64 dpc, .bool dpv, .int .i64 dpo, .int .i64 dmc, .bool dmv, .int .i64 dmo, .int .i64 dhc, .bool dhv, .int .i64 dho, .int .i64 da, .bool dk, .int .i64 dq] from HB.out)
            go_upto_region 11 with (fail)
            obtain ⟨⟨xst, ⟨xwl, xwm, xwt⟩, ⟨xpc, xpv, xpo⟩, ⟨xmc, xmv, xmo⟩, ⟨xhc, xhv, xho⟩, xa, xk, xq⟩, hX⟩ : ∃ X, comeD ⟨dst, ⟨dwl, dwm, dwt⟩, ⟨dpc, dpv, dpo⟩, ⟨dmc, dmv, dmo⟩, ⟨dhc, dhv, dho⟩, da, dk, dq⟩ (Fr.readN 70 127 z) = X := ⟨_, rfl⟩
            have LX := Lib.hid (comeD_law HZ.out.2.1 HR.out hX)
            have HX := Lib.hid hX
            clear hX
            go_cut [10] (fun n wx => ∃ bn : Nat, n = .pointer (some ⟨bn, 0, none⟩) ∧ Cells wx bn (Dr.cs ⟨xst, ⟨xwl, xwm, xwt⟩, ⟨xpc, xpv, xpo⟩, ⟨xmc, xmv, xmo⟩, ⟨xhc, xhv, xho⟩, xa, xk, xq⟩) ∧ wr.heap.size ≤ bn ∧ Below wr.heap.size wr wx)
            case first =>
              have hbr : ba < wr.heap.size := Nat.lt_of_lt_of_le hba HH.out.size
              refine takesCome hlt hlt3 hlen hbr hc hnc HZL.out HZ.out HB.out HX.out ?_
              intro t0 t1 t2 t3 t4 t5 bN wX hX1 hX2 hX3
              go_wp2_with fail
              go_meet
              exact ⟨bN, rfl, hX1, hX2, hX3⟩
            case rest =>
              obtain ⟨bn, rfl, hBN, hbn, hW⟩ := hcut
              obtain ⟨hRX, hq, hM, hY⟩ := LX.out
              obtain rfl : xq = dq := hq
              have HRX := Lib.hid hRX
              have HM := Lib.hid hM
              have HY := Lib.hid hY
              have hbr : ba < wr.heap.size := Nat.lt_of_lt_of_le hba HH.out.size
              have BN := Lib.hid hBN
              have HB2 := Lib.hid (HB.out.below hW)
              have HH2 := Lib.hid (HH.out.trans (hW.mono HH.out.size))
              have HZ2 := Lib.hid (HZ.out.below hW)
              replace hc := (hW.cell (p := ⟨ba, oa + k, none⟩) hbr).trans hc
              have hne : b ≠ bn := by have := HB.out.1; omega
              have hba2 : ba ≠ bn := by omega
              have HBN := Lib.hid (Nat.le_trans HH.out.size hbn)
              clear hRX hM hY hBN hW hbn hbr HB HH HZ LX HX HR y y0 y1 y2 y3 y4 y5 y6 y7 y8 y9 y10 y11 y12 y13 y14 y15
              obtain ⟨v, v0, v1, v2, v3, v4, v5, v6, v7, v8, v9, v10, v11, v12, v13, v14, v15⟩ := Cells.at16 (show Cells wc bn [.int .i64 xst, .int .i64 xwl, .int .i64 xwm, .int .i64 xwt, .int .i64 xpc, .bool xpv, .int .i64 xpo, .int .i64 xmc, .bool xmv, .int .i64 xmo, .int .i64 xhc, .bool xhv, .int .i64 xho, .int .i64 xa, .bool xk, .int .i64 xq] from BN.out)
              go_wp2_with fail
              refine (dright_any _ _ _ _ _ _ _ _ _ _ _ _ _ _ _ _ _).mono ?_
              rw [HRX.out]
              rintro e w5 ⟨rfl, hb⟩
              replace hc := (hb.cell (p := ⟨ba, oa + k, none⟩) (Nat.lt_of_lt_of_le hba HH2.out.size)).trans hc
              have BN5 := Lib.hid (BN.out.below hb)
              have HB5 := Lib.hid (HB2.out.below hb)
              have HH5 := Lib.hid (HH2.out.trans (hb.mono HH2.out.size))
              have HZ5 := Lib.hid (HZ2.out.below hb)
              clear hb v v0 v1 v2 v3 v4 v5 v6 v7 v8 v9 v10 v11 v12 v13 v14 v15 BN HB2 HH2 HZ2
              obtain ⟨v, v0, v1, v2, v3, v4, v5, v6, v7, v8, v9, v10, v11, v12, v13, v14, v15⟩ := Cells.at16 (show Cells w5 bn [.int .i64 xst, .int .i64 xwl, .int .i64 xwm, .int .i64 xwt, .int .i64 xpc, .bool xpv, .int .i64 xpo, .int .i64 xmc, .bool xmv, .int .i64 xmo, .int .i64 xhc, .bool xhv, .int .i64 xho, .int .i64 xa, .bool xk, .int .i64 xq] from BN5.out)
              obtain ⟨y, y0, y1, y2, y3, y4, y5, y6, y7, y8, y9, y10, y11, y12, y13, y14, y15⟩ := Cells.at16 (show Cells w5 b [.int .i64 dst, .int .i64 dwl, .int .i64 dwm, .int .i64 dwt, .int .i64 dpc, .bool dpv, .int .i64 dpo, .int .i64 dmc, .bool dmv, .int .i64 dmo, .int .i64 dhc, .bool dhv, .int .i64 dho, .int .i64 da, .bool dk, .int .i64 xq] from HB5.out)
              go_upto_if 58 with (fail)
              go_cut [10] (fun p wx => p = .pointer (some ⟨bn, 0, none⟩) ∧ Below w5.heap.size w5 wx)
              case first =>
                by_cases hm : 0 < xwm
                case' neg =>
                  have d1 : decide (0 < xwm) = false := decide_eq_false hm
                  go_wp2_with fail
                  go_meet
                  exact ⟨rfl, Below.refl _ _⟩
                case' pos =>
                  have d1 : decide (0 < xwm) = true := decide_eq_true hm
                  have e := HM.out hm
                  simp only [Dr.mk.injEq, Sw.mk.injEq, true_and, and_true] at e
                  obtain ⟨rfl, ⟨rfl, rfl, rfl⟩, ⟨rfl, rfl, rfl⟩, ⟨rfl, rfl, rfl⟩, rfl, rfl⟩ := e
                  clear HM HY HRX HZ5
                  as_aux_lemma =>
                  go_upto_region 16 with (fail)
                  have BM := Lib.hid (show Cells (w5.alloc (.cells #[.int .i64 xst, .int .i64 xwl, .int .i64 xwm, .int .i64 xwt, .int .i64 xpc, .bool xpv, .int .i64 xpo, .int .i64 xmc, .bool xmv, .int .i64 xmo, .int .i64 xhc, .bool xhv, .int .i64 xho, .int .i64 xa, .bool xk, .int .i64 xq] 82)) w5.heap.size (Dr.cs ⟨xst, ⟨xwl, xwm, xwt⟩, ⟨xpc, xpv, xpo⟩, ⟨xmc, xmv, xmo⟩, ⟨xhc, xhv, xho⟩, xa, xk, xq⟩) from Cells.new w5 (Dr.cs ⟨xst, ⟨xwl, xwm, xwt⟩, ⟨xpc, xpv, xpo⟩, ⟨xmc, xmv, xmo⟩, ⟨xhc, xhv, xho⟩, xa, xk, xq⟩) 82)
                  have HB6 := Lib.hid (HB5.out.below (show Below w5.heap.size w5 (w5.alloc (.cells #[.int .i64 xst, .int .i64 xwl, .int .i64 xwm, .int .i64 xwt, .int .i64 xpc, .bool xpv, .int .i64 xpo, .int .i64 xmc, .bool xmv, .int .i64 xmo, .int .i64 xhc, .bool xhv, .int .i64 xho, .int .i64 xa, .bool xk, .int .i64 xq] 82)) from by go_grown))
                  have H6 := Lib.hid (show Below w5.heap.size w5 (w5.alloc (.cells #[.int .i64 xst, .int .i64 xwl, .int .i64 xwm, .int .i64 xwt, .int .i64 xpc, .bool xpv, .int .i64 xpo, .int .i64 xmc, .bool xmv, .int .i64 xmo, .int .i64 xhc, .bool xhv, .int .i64 xho, .int .i64 xa, .bool xk, .int .i64 xq] 82)) from by go_grown)
                  have hnm : w5.heap.size ≠ b := by have := HB5.out.1; omega
                  have HBM := Lib.hid (Nat.le_refl w5.heap.size)
                  clear hc v v0 v1 v2 v3 v4 v5 v6 v7 v8 v9 v10 v11 v12 v13 v14 v15 y y0 y1 y2 y3 y4 y5 y6 y7 y8 y9 y10 y11 y12 y13 y14 y15 BN5
                  generalize w5.alloc (.cells #[.int .i64 xst, .int .i64 xwl, .int .i64 xwm, .int .i64 xwt, .int .i64 xpc, .bool xpv, .int .i64 xpo, .int .i64 xmc, .bool xmv, .int .i64 xmo, .int .i64 xhc, .bool xhv, .int .i64 xho, .int .i64 xa, .bool xk, .int .i64 xq] 82) = w6 at *
                  generalize hbm : w5.heap.size = bm at BM HB6 hnm HBM ⊢
                  rw [hbm] at H6
                  obtain ⟨y, y0, y1, y2, y3, y4, y5, y6, y7, y8, y9, y10, y11, y12, y13, y14, y15⟩ := Cells.at16 (show Cells w6 b [.int .i64 xst, .int .i64 dwl, .int .i64 dwm, .int .i64 dwt, .int .i64 xpc, .bool xpv, .int .i64 xpo, .int .i64 xmc, .bool xmv, .int .i64 xmo, .int .i64 xhc, .bool xhv, .int .i64 xho, .int .i64 xa, .bool xk, .int .i64 xq] from HB6.out)
                  obtain ⟨v, v0, v1, v2, v3, v4, v5, v6, v7, v8, v9, v10, v11, v12, v13, v14, v15⟩ := Cells.at16 (show Cells w6 bm [.int .i64 xst, .int .i64 xwl, .int .i64 xwm, .int .i64 xwt, .int .i64 xpc, .bool xpv, .int .i64 xpo, .int .i64 xmc, .bool xmv, .int .i64 xmo, .int .i64 xhc, .bool xhv, .int .i64 xho, .int .i64 xa, .bool xk, .int .i64 xq] from BM.out)
                  obtain ⟨f0, f1, f2, f3, f4, f5, f6, f7, f8, f9, f10, f11, f12, f13, f14, f15⟩ := Cells.free16 (show Cells w6 bm [.int .i64 xst, .int .i64 xwl, .int .i64 xwm, .int .i64 xwt, .int .i64 xpc, .bool xpv, .int .i64 xpo, .int .i64 xmc, .bool xmv, .int .i64 xmo, .int .i64 xhc, .bool xhv, .int .i64 xho, .int .i64 xa, .bool xk, .int .i64 xq] from BM.out)
                  go_upto_region 17 with (fail)
                  have BM7 := Lib.hid (show Cells (((w6.setCell ⟨bm, 1, none⟩ (.int .i64 dwl)).setCell ⟨bm, 2, none⟩ (.int .i64 dwm)).setCell ⟨bm, 3, none⟩ (.int .i64 dwt)) bm (Dr.cs ⟨xst, ⟨dwl, dwm, dwt⟩, ⟨xpc, xpv, xpo⟩, ⟨xmc, xmv, xmo⟩, ⟨xhc, xhv, xho⟩, xa, xk, xq⟩) from ((BM.out.set 1 (.int .i64 dwl)).set 2 (.int .i64 dwm)).set 3 (.int .i64 dwt))
                  have HB7 := Lib.hid (((HB6.out.far hnm 1 (.int .i64 dwl)).far hnm 2 (.int .i64 dwm)).far hnm 3 (.int .i64 dwt))
                  have H7 := Lib.hid (((H6.out.setCell (p := ⟨bm, 1, none⟩) (Nat.le_refl bm) (.int .i64 dwl)).setCell (p := ⟨bm, 2, none⟩) (Nat.le_refl bm) (.int .i64 dwm)).setCell (p := ⟨bm, 3, none⟩) (Nat.le_refl bm) (.int .i64 dwt))
                  clear y y0 y1 y2 y3 y4 y5 y6 y7 y8 y9 y10 y11 y12 y13 y14 y15 v v0 v1 v2 v3 v4 v5 v6 v7 v8 v9 v10 v11 v12 v13 v14 v15 f0 f1 f2 f3 f4 f5 f6 f7 f8 f9 f10 f11 f12 f13 f14 f15 HB6 BM H6
                  generalize ((w6.setCell ⟨bm, 1, none⟩ (.int .i64 dwl)).setCell ⟨bm, 2, none⟩ (.int .i64 dwm)).setCell ⟨bm, 3, none⟩ (.int .i64 dwt) = w7 at *
                  as_aux_lemma =>
                  obtain ⟨y, y0, y1, y2, y3, y4, y5, y6, y7, y8, y9, y10, y11, y12, y13, y14, y15⟩ := Cells.at16 (show Cells w7 b [.int .i64 xst, .int .i64 dwl, .int .i64 dwm, .int .i64 dwt, .int .i64 xpc, .bool xpv, .int .i64 xpo, .int .i64 xmc, .bool xmv, .int .i64 xmo, .int .i64 xhc, .bool xhv, .int .i64 xho, .int .i64 xa, .bool xk, .int .i64 xq] from HB7.out)
                  obtain ⟨v, v0, v1, v2, v3, v4, v5, v6, v7, v8, v9, v10, v11, v12, v13, v14, v15⟩ := Cells.at16 (show Cells w7 bm [.int .i64 xst, .int .i64 dwl, .int .i64 dwm, .int .i64 dwt, .int .i64 xpc, .bool xpv, .int .i64 xpo, .int .i64 xmc, .bool xmv, .int .i64 xmo, .int .i64 xhc, .bool xhv, .int .i64 xho, .int .i64 xa, .bool xk, .int .i64 xq] from BM7.out)
                  go_wp2_with fail
                  go_meet
                  exact ⟨rfl, by rw [hbm]; exact H7.out⟩
              case rest =>
                obtain ⟨rfl, hW⟩ := hcut
                have hbr : ba < w5.heap.size := Nat.lt_of_lt_of_le hba HH5.out.size
                have BN8 := Lib.hid (BN5.out.below hW)
                have HB8 := Lib.hid (HB5.out.below hW)
                have HH8 := Lib.hid (HH5.out.trans (hW.mono HH5.out.size))
                have HZ8 := Lib.hid (HZ5.out.below hW)
                replace hc := (hW.cell (p := ⟨ba, oa + k, none⟩) hbr).trans hc
                clear hW hbr BN5 HB5 HH5 HZ5 HM v v0 v1 v2 v3 v4 v5 v6 v7 v8 v9 v10 v11 v12 v13 v14 v15 y y0 y1 y2 y3 y4 y5 y6 y7 y8 y9 y10 y11 y12 y13 y14 y15
                obtain ⟨⟨ywl, ywm, ywt⟩, hYW⟩ : ∃ W, (comeG ⟨xwl, xwm, xwt⟩ (Fr.readN 70 127 z)).w = W := ⟨_, rfl⟩
                have HYE := Lib.hid (show comeD ⟨xst, ⟨xwl, xwm, xwt⟩, ⟨xpc, xpv, xpo⟩, ⟨xmc, xmv, xmo⟩, ⟨xhc, xhv, xho⟩, xa, xk, xq⟩ (Fr.readN 70 127 z) = ⟨xst, ⟨ywl, ywm, ywt⟩, ⟨xpc, xpv, xpo⟩, ⟨xmc, xmv, xmo⟩, ⟨xhc, xhv, xho⟩, xa, xk, xq⟩ from HY.out.trans (by rw [hYW]))
                clear HY hYW
                generalize wc = w8 at *
                go_upto_region 19 with (fail)
                go_cut [12] (fun n wx => ∃ bq : Nat, n = .pointer (some ⟨bq, 0, none⟩) ∧ Cells wx bq (Dr.cs ⟨xst, ⟨ywl, ywm, ywt⟩, ⟨xpc, xpv, xpo⟩, ⟨xmc, xmv, xmo⟩, ⟨xhc, xhv, xho⟩, xa, xk, xq⟩) ∧ w8.heap.size ≤ bq ∧ Below w8.heap.size w8 wx)
                case first =>
                  have hbr : ba < w8.heap.size := Nat.lt_of_lt_of_le hba HH8.out.size
                  refine takesAgain hlt hlt3 hlen hbr hc hnc HZL.out HZ8.out BN8.out HYE.out ?_
                  intro t0 t1 t2 t3 t4 t5 bN wX hX1 hX2 hX3
                  go_wp2_with fail
                  go_meet
                  exact ⟨bN, rfl, hX1, hX2, hX3⟩
                case rest =>
                  obtain ⟨bq, rfl, hBY, hby, hW⟩ := hcut
                  have BY := Lib.hid hBY
                  have BN9 := Lib.hid (BN8.out.below hW)
                  have HB9 := Lib.hid (HB8.out.below hW)
                  have HH9 := Lib.hid (HH8.out.trans (hW.mono HH8.out.size))
                  have hn1 : bq ≠ bn := by have := BN8.out.1; omega
                  have hn2 : bq ≠ b := by have := HB8.out.1; omega
                  have HBY := Lib.hid (Nat.le_trans HH8.out.size hby)
                  clear hBY hby hW BN8 HB8 HH8 HZ8 HYE hc
                  as_aux_lemma =>
                  obtain ⟨v, v0, v1, v2, v3, v4, v5, v6, v7, v8, v9, v10, v11, v12, v13, v14, v15⟩ := Cells.at16 (show Cells wc bn [.int .i64 xst, .int .i64 xwl, .int .i64 xwm, .int .i64 xwt, .int .i64 xpc, .bool xpv, .int .i64 xpo, .int .i64 xmc, .bool xmv, .int .i64 xmo, .int .i64 xhc, .bool xhv, .int .i64 xho, .int .i64 xa, .bool xk, .int .i64 xq] from BN9.out)
                  obtain ⟨u, u0, u1, u2, u3, u4, u5, u6, u7, u8, u9, u10, u11, u12, u13, u14, u15⟩ := Cells.at16 (show Cells wc bq [.int .i64 xst, .int .i64 ywl, .int .i64 ywm, .int .i64 ywt, .int .i64 xpc, .bool xpv, .int .i64 xpo, .int .i64 xmc, .bool xmv, .int .i64 xmo, .int .i64 xhc, .bool xhv, .int .i64 xho, .int .i64 xa, .bool xk, .int .i64 xq] from BY.out)
                  obtain ⟨f0, f1, f2, f3, f4, f5, f6, f7, f8, f9, f10, f11, f12, f13, f14, f15⟩ := Cells.free16 (show Cells wc bq [.int .i64 xst, .int .i64 ywl, .int .i64 ywm, .int .i64 ywt, .int .i64 xpc, .bool xpv, .int .i64 xpo, .int .i64 xmc, .bool xmv, .int .i64 xmo, .int .i64 xhc, .bool xhv, .int .i64 xho, .int .i64 xa, .bool xk, .int .i64 xq] from BY.out)
                  go_upto_region 21 with (fail)
                  have BY10 := Lib.hid (show Cells (((wc.setCell ⟨bq, 1, none⟩ (.int .i64 xwl)).setCell ⟨bq, 2, none⟩ (.int .i64 xwm)).setCell ⟨bq, 3, none⟩ (.int .i64 xwt)) bq (Dr.cs ⟨xst, ⟨xwl, xwm, xwt⟩, ⟨xpc, xpv, xpo⟩, ⟨xmc, xmv, xmo⟩, ⟨xhc, xhv, xho⟩, xa, xk, xq⟩) from ((BY.out.set 1 (.int .i64 xwl)).set 2 (.int .i64 xwm)).set 3 (.int .i64 xwt))
                  have BN10 := Lib.hid (((BN9.out.far hn1 1 (.int .i64 xwl)).far hn1 2 (.int .i64 xwm)).far hn1 3 (.int .i64 xwt))
                  have HB10 := Lib.hid (((HB9.out.far hn2 1 (.int .i64 xwl)).far hn2 2 (.int .i64 xwm)).far hn2 3 (.int .i64 xwt))
                  have HH10 := Lib.hid (((HH9.out.setCell (p := ⟨bq, 1, none⟩) HBY.out (.int .i64 xwl)).setCell (p := ⟨bq, 2, none⟩) HBY.out (.int .i64 xwm)).setCell (p := ⟨bq, 3, none⟩) HBY.out (.int .i64 xwt))
                  clear v v0 v1 v2 v3 v4 v5 v6 v7 v8 v9 v10 v11 v12 v13 v14 v15 u u0 u1 u2 u3 u4 u5 u6 u7 u8 u9 u10 u11 u12 u13 u14 u15 f0 f1 f2 f3 f4 f5 f6 f7 f8 f9 f10 f11 f12 f13 f14 f15 BY BN9 HB9 HH9
                  generalize ((wc.setCell ⟨bq, 1, none⟩ (.int .i64 xwl)).setCell ⟨bq, 2, none⟩ (.int .i64 xwm)).setCell ⟨bq, 3, none⟩ (.int .i64 xwt) = w10 at *
                  as_aux_lemma =>
                  obtain ⟨v, v0, v1, v2, v3, v4, v5, v6, v7, v8, v9, v10, v11, v12, v13, v14, v15⟩ := Cells.at16 (show Cells w10 bn [.int .i64 xst, .int .i64 xwl, .int .i64 xwm, .int .i64 xwt, .int .i64 xpc, .bool xpv, .int .i64 xpo, .int .i64 xmc, .bool xmv, .int .i64 xmo, .int .i64 xhc, .bool xhv, .int .i64 xho, .int .i64 xa, .bool xk, .int .i64 xq] from BN10.out)
                  obtain ⟨u, u0, u1, u2, u3, u4, u5, u6, u7, u8, u9, u10, u11, u12, u13, u14, u15⟩ := Cells.at16 (show Cells w10 bq [.int .i64 xst, .int .i64 xwl, .int .i64 xwm, .int .i64 xwt, .int .i64 xpc, .bool xpv, .int .i64 xpo, .int .i64 xmc, .bool xmv, .int .i64 xmo, .int .i64 xhc, .bool xhv, .int .i64 xho, .int .i64 xa, .bool xk, .int .i64 xq] from BY10.out)
                  go_upto_region 23 with (fail)
                  clear u u0 u1 u2 u3 u4 u5 u6 u7 u8 u9 u10 u11 u12 u13 u14 u15
                  as_aux_lemma =>
                  have HT := Lib.hid HB10.out.there
                  have HB11 := Lib.hid (show Cells (w10.setCells b 0 (#[.int .i64 xst, .int .i64 xwl, .int .i64 xwm, .int .i64 xwt, .int .i64 xpc, .bool xpv, .int .i64 xpo, .int .i64 xmc, .bool xmv, .int .i64 xmo, .int .i64 xhc, .bool xhv, .int .i64 xho, .int .i64 xa, .bool xk, .int .i64 xq] : Array Value).toList) b (Dr.cs ⟨xst, ⟨xwl, xwm, xwt⟩, ⟨xpc, xpv, xpo⟩, ⟨xmc, xmv, xmo⟩, ⟨xhc, xhv, xho⟩, xa, xk, xq⟩) from HB10.out.puts (Dr.cs ⟨xst, ⟨xwl, xwm, xwt⟩, ⟨xpc, xpv, xpo⟩, ⟨xmc, xmv, xmo⟩, ⟨xhc, xhv, xho⟩, xa, xk, xq⟩) rfl)
                  have HH11 := Lib.hid (show Below w.heap.size w (w10.setCells b 0 (#[.int .i64 xst, .int .i64 xwl, .int .i64 xwm, .int .i64 xwt, .int .i64 xpc, .bool xpv, .int .i64 xpo, .int .i64 xmc, .bool xmv, .int .i64 xmo, .int .i64 xhc, .bool xhv, .int .i64 xho, .int .i64 xa, .bool xk, .int .i64 xq] : Array Value).toList) from below_puts HS.out (Dr.cs ⟨xst, ⟨xwl, xwm, xwt⟩, ⟨xpc, xpv, xpo⟩, ⟨xmc, xmv, xmo⟩, ⟨xhc, xhv, xho⟩, xa, xk, xq⟩) HH10.out)
                  first | go_values | go_skip | go_guarded | go_step | go_upon
                  first | go_values | go_skip | go_guarded | go_step | go_upon
                  first | go_values | go_skip | go_guarded | go_step | go_upon
                  first | go_values | go_skip | go_guarded | go_step | go_upon
                  first | go_values | go_skip | go_guarded | go_step | go_upon
                  refine wp_store_mid 82 (.tmp 7) (.tmp 78) rfl b 0 #[.int .i64 xst, .int .i64 xwl, .int .i64 xwm, .int .i64 xwt, .int .i64 xpc, .bool xpv, .int .i64 xpo, .int .i64 xmc, .bool xmv, .int .i64 xmo, .int .i64 xhc, .bool xhv, .int .i64 xho, .int .i64 xa, .bool xk, .int .i64 xq] rfl rfl HT.out info82 (by simp [Value.oneCell']) ?_
                  clear HT HB10 HH10 v v0 v1 v2 v3 v4 v5 v6 v7 v8 v9 v10 v11 v12 v13 v14 v15
                  generalize w10.setCells b 0 (#[.int .i64 xst, .int .i64 xwl, .int .i64 xwm, .int .i64 xwt, .int .i64 xpc, .bool xpv, .int .i64 xpo, .int .i64 xmc, .bool xmv, .int .i64 xmo, .int .i64 xhc, .bool xhv, .int .i64 xho, .int .i64 xa, .bool xk, .int .i64 xq] : Array Value).toList = w11 at *
                  go_wp2
                  go_roundw
                  case rel => exact ⟨k + 1, ⟨xst, ⟨xwl, xwm, xwt⟩, ⟨xpc, xpv, xpo⟩, ⟨xmc, xmv, xmo⟩, ⟨xhc, xhv, xho⟩, xa, xk, xq⟩, by omega, by omega, by go_num, HRX.out, HB11.out, HH11.out⟩
                  case measure => simp [intOf]; omega
end Go.Proofs.Ytnabpdengfmeaaa
