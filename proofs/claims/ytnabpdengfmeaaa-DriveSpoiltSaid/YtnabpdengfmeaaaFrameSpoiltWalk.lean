/- The law FrameSpoilt of layer 3, walked. -/
import Derived.Test.YtnabpdengfmeaaaFrameAwake
import Derived.Deep.DeepCutAuto
namespace Go.Proofs.Ytnabpdengfmeaaa
open Go.RowKit

theorem Reads.set13 {w : World} {g : Nat} {l : List Int} (h : Reads w (some ⟨g, 0, none⟩) l) (i : Nat) (hi : i < l.length) {u : Int} (h0 : 0 ≤ u) (h1 : u ≤ 255) :
    Reads (w.setCell ⟨g, i, none⟩ (.int .u8 u)) (some ⟨g, 0, none⟩) (l.set i u) := by
  refine ⟨by simpa using h.1, bytes_set h.2.1 i h0 (by omega), ?_⟩
  rcases h.2.2 with e | ⟨b, off, e, hc⟩
  · rw [e] at hi; simp at hi
  · injection e with e
    injection e with e1 e2
    subst e1 e2
    refine .inr ⟨g, 0, rfl, fun j hj => ?_⟩
    rw [List.length_set] at hj
    have hcj := hc j hj
    by_cases e : i = j
    · subst e
      rw [Nat.zero_add] at hcj ⊢
      rw [World.cell?_setCell_same _ _ _ hcj]
      simp [List.getD, hi]
    · rw [World.cell?_setCell_other _ _ _ _ (by simp), hcj]
      simp [List.getD, e]
theorem Reads.far {w : World} {g b : Nat} {l : List Int} (h : Reads w (some ⟨g, 0, none⟩) l) (hne : b ≠ g) (i : Nat) (v : Value) : Reads (w.setCell ⟨b, i, none⟩ v) (some ⟨g, 0, none⟩) l := by
  refine ⟨h.1, h.2.1, ?_⟩
  rcases h.2.2 with e | ⟨b', off, e, hc⟩
  · exact .inl e
  · injection e with e
    injection e with e1 e2
    subst e1 e2
    refine .inr ⟨g, 0, rfl, fun j hj => ?_⟩
    rw [World.cell?_setCell_other _ _ _ _ (by simp)]
    exact hc j hj
theorem Own.free13 {w : World} {base g cap : Nat} {l : List Int} (h : Own w base (.slice (some ⟨g, 0, none⟩) 13 cap) l) (hl : l.length = 13) (i : Nat) : w.frozen? ⟨g, i, none⟩ = false := by
  have := h.2
  rw [hl] at this
  exact this.frozenAt i

theorem run_min40 (w : World) (a : Nat) : (Builtin.min_ #[3, 3] 3 #[.int .i64 a, .int .i64 40]).run Try.prog w = .ok (.int .i64 (min a 40 : Nat)) w := by
  simp only [Builtin.min_, List.foldlM, Builtin.min2]
  simp
  omega

set_option maxHeartbeats 8000000 in
set_option maxRecDepth 100000 in
theorem frameSpoilt (f0 f1 f2 at_ x y : Int) (a : Option Addr) (len cap : Nat) (l : List Int) (w : World) (hf : -9223372036854775808 ≤ f2 ∧ f2 ≤ 9223372036854775807)
    (hx0 : 0 ≤ x) (hx1 : x ≤ 255) (hy0 : 0 ≤ y) (hy1 : y ≤ 255) (hl : l.length = len) (hcap : len ≤ cap) (h : Reads w a l) :
    Calls Try.prog 11 #[.agg #[.int .i64 f0, .int .i64 f1, .int .i64 f2], .int .i64 at_, .int .u8 x, .int .u8 y, .slice a len cap] w fun e w' => e = .returned (.bool true) ∧ Below w.heap.size w w' := by
  have HA := Lib.hid h; clear h
  have HL := Lib.hid hl; clear hl
  cases hok : putOk 127 f0 f1 with
  | false =>
    have E1 := Lib.hid (show putE 127 f0 f1 = 1 by rw [show putE 127 f0 f1 = if putOk 127 f0 f1 = true then 0 else 1 from rfl, if_neg (by rw [hok]; simp)])
    clear hok
    go_enter Try.func11, Try.ntmps11
    go_wp2_with fail
    have BF := Lib.hid (Box3.new w (.int .i64 f0) (.int .i64 f1) (.int .i64 f2) 49)
    refine (awake03 _).mono ?_
    rintro e w1 ⟨rfl, hb⟩
    have BF1 := Lib.hid (BF.out.below hb)
    have H1 := Lib.hid (((Below.refl w.heap.size w).alloc (Nat.le_refl _) _).trans (hb.mono (by simp)))
    clear hb BF
    obtain ⟨z, k0, k1, k2, f0', f1', f2'⟩ := BF1.out
    go_wp2_with fail
    refine (putFeed_any _ _ _ _).mono ?_
    rw [E1.out]
    rintro e w2 ⟨v, rfl, hown, hb⟩
    have H2 := Lib.hid (H1.out.trans (hb.mono H1.out.size))
    clear hown hb BF1 H1 z k0 k1 k2 f0' f1' f2'
    go_wp2
    go_ret
    exact ⟨rfl, H2.out⟩
  | true =>
    obtain ⟨q1, q2, q3, q4⟩ := (putOk_iff _ _ _).1 hok
    have RF := Lib.hid (Fr.read_frame (sign := 70) (seq := f0) (w := f1) 127 f2 (by omega) (by omega) (by omega) (by omega) hf)
    have FF := Lib.hid (Fr.frame_fits (sign := 70) (seq := f0) (w := f1) f2 (by omega) (by omega) (by omega))
    have E1 := Lib.hid (show putE 127 f0 f1 = 0 by rw [show putE 127 f0 f1 = if putOk 127 f0 f1 = true then 0 else 1 from rfl, if_pos hok])
    have PL := Lib.hid (show putL 70 127 f0 f1 f2 = Fr.frameL 70 f0 f1 f2 by simp [putL, hok])
    clear hok q1 q2 q3 q4 hf
    go_enter Try.func11, Try.ntmps11
    go_wp2_with fail
    have BF := Lib.hid (Box3.new w (.int .i64 f0) (.int .i64 f1) (.int .i64 f2) 49)
    refine (awake03 _).mono ?_
    rintro e w1 ⟨rfl, hb⟩
    have BF1 := Lib.hid (BF.out.below hb)
    have H1 := Lib.hid (((Below.refl w.heap.size w).alloc (Nat.le_refl _) _).trans (hb.mono (by simp)))
    clear hb BF
    obtain ⟨z, k0, k1, k2, f0', f1', f2'⟩ := BF1.out
    go_wp2_with fail
    refine (putFeed_any _ _ _ _).mono ?_
    rw [E1.out, PL.out]
    rintro e w2 ⟨v, rfl, hown, hb⟩
    have H2 := Lib.hid (H1.out.trans (hb.mono H1.out.size))
    clear BF1 H1 z k0 k1 k2 f0' f1' f2' E1 PL
    obtain ⟨g, cap0, rfl, hg, hcap0, hgl, _, hr⟩ := hown.open13 (Fr.frameL_len _ _ _ _)
    have HR := Lib.hid hr
    have HF13 := Lib.hid (Fr.frameL_len 70 f0 f1 f2)
    generalize Fr.frameL 70 f0 f1 f2 = F at *
    clear hown hr hb
    by_cases hneg : at_ < 0
    · go_wp2
      go_ret
      exact ⟨rfl, H2.out⟩
    by_cases hbig : 13 ≤ at_
    · go_wp2
      go_ret
      exact ⟨rfl, H2.out⟩
    obtain ⟨n, rfl⟩ := Int.eq_ofNat_of_zero_le (show 0 ≤ at_ by omega)
    have hn : n < 13 := by omega
    have d1 : decide ((n : Int) < 0) = false := decide_eq_false hneg
    have d2 : decide ((13 : Int) ≤ (n : Int)) = false := decide_eq_false hbig
    clear hneg hbig
    go_wp2_with fail
    refine (copy_any _ _ _ F _ HF13.out (by rw [HF13.out]; omega) HR.out).mono ?_
    rintro e w3 ⟨v, rfl, hown, hb⟩
    obtain ⟨c, cap1, rfl, hc, hcap1, hcl, hcells, hrc⟩ := hown.open13 HF13.out
    have hfr := Own.free13 hown HF13.out
    have H3 := Lib.hid hb
    have k0 := hcells n hn
    have f0' := hfr n
    have BY := Crc.bytes_at hrc.2.1 n
    have RC := Lib.hid hrc
    have HCE := Lib.hid hcells
    have HFR := Lib.hid hfr
    have HB := Lib.hid hrc.2.1
    clear hown hb hrc hcells hfr
    have SN := Lib.hid (spoil_none F HB.out n)
    have SF := Lib.hid (fun y => spoil_fits F HF13.out HB.out FF.out n hn x y hx0 hx1)
    have SL := Lib.hid (spoil_len F n)
    have XB := Lib.hid (x8_in BY.1 (show F.getD n 0 ≤ 255 by omega) hx0 hx1)
    have R3 := Lib.hid (RC.out.set13 n (by rw [HF13.out]; omega) XB.out.1 XB.out.2)
    have H4 := Lib.hid (H3.out.setCell (p := ⟨c, n, none⟩) hc (.int .u8 (x8 (F.getD n 0) x)))
    have ES := Lib.hid (show n = 12 → spoil F n x 0 = F.set n (x8 (F.getD n 0) x) from fun h => by unfold spoil; exact List.set_eq_of_length_le (by rw [List.length_set, HF13.out]; omega))
    have BY1 := Crc.bytes_at HB.out (n + 1)
    have X2 := Lib.hid (x8_in BY1.1 (show F.getD (n + 1) 0 ≤ 255 by omega) hy0 hy1)
    have RS := Lib.hid (show n < 12 → Reads ((w3.setCell ⟨c, n, none⟩ (.int .u8 (x8 (F.getD n 0) x))).setCell ⟨c, n + 1, none⟩ (.int .u8 (x8 (F.getD (n + 1) 0) y))) (some ⟨c, 0, none⟩) (spoil F n x y) from fun h =>
          R3.out.set13 (n + 1) (by rw [List.length_set, HF13.out]; omega) X2.out.1 X2.out.2)
    have k1 := Lib.hid (show n < 12 → _ from fun h => HCE.out (n + 1) (by omega))
    have f1' := HFR.out (n + 1)
    clear BY1 X2 XB HCE HFR RC
    generalize F.getD n 0 = z0 at *
    generalize F.getD (n + 1) 0 = z1 at *
    go_upto_if 47 with (fail)
    go_cut [3] (fun y' wx => ∃ (Y : Int) (S : List Int), y' = .int .u8 Y ∧ Reads wx (some ⟨c, 0, none⟩) S ∧ S.length = 13 ∧ (Fr.sumFits S = true ↔ x = 0 ∧ Y = 0) ∧ (x = 0 → Y = 0 → S = F) ∧ Below w2.heap.size w2 wx)
    case first =>
      by_cases h12 : n < 12
      · have d3 : decide ((n : Int) < 12) = true := decide_eq_true (by omega)
        have k1' := k1.out h12
        have G5 := Lib.hid (H4.out.setCell (p := ⟨c, n + 1, none⟩) hc (.int .u8 (x8 z1 y)))
        have SF5 := Lib.hid (SF.out y hy0 hy1 (by omega))
        have SL5 := Lib.hid ((SL.out x y).trans HF13.out)
        have SN5 := Lib.hid (show x = 0 → y = 0 → spoil F n x y = F from fun h1 h2 => by rw [h1, h2, SN.out])
        go_wp2_with fail
        go_meet
        exact ⟨y, spoil F n x y, rfl, RS.out h12, SL5.out, SF5.out, SN5.out, G5.out⟩
      · have d3 : decide ((n : Int) < 12) = false := decide_eq_false (by omega)
        have SF5 := Lib.hid (SF.out 0 (by omega) (by omega) (by omega))
        have SL5 := Lib.hid ((SL.out x 0).trans HF13.out)
        have SN5 := Lib.hid (show x = 0 → (0 : Int) = 0 → spoil F n x 0 = F from fun h1 _ => by rw [h1, SN.out])
        go_wp2_with fail
        go_meet
        exact ⟨0, spoil F n x 0, rfl, by rw [ES.out (by omega)]; exact R3.out, SL5.out, by have := SF5.out; simpa using this, by have := SN5.out; simpa using this, H4.out⟩
    case rest =>
      obtain ⟨Y, S, rfl, hRS, hSL, hSF, hSN, hG⟩ := hcut
      have RS := Lib.hid hRS
      have SL5 := Lib.hid hSL
      have SF5 := Lib.hid hSF
      have SN5 := Lib.hid hSN
      have G5 := Lib.hid hG
      clear hRS hSL hSF hSN hG k1 f1' ES R3 H4 SN SF SL k0 f0' BY H3
      obtain ⟨r0, r1, r2, r3, hg⟩ : ∃ r0 r1 r2 r3 : Int, Fr.readN 70 127 S = ⟨r0, r1, r2, r3⟩ := ⟨_, _, _, _, rfl⟩
      have HG := Lib.hid hg
      clear hg
      have V := Lib.hid (show (r3 == 0) = true ∧ (x == 0) = true ∧ (Y == 0) = true ∨ (r3 == 0) = false ∧ (x == 0) = true ∧ (Y == 0) = false ∨ (r3 == 0) = false ∧ (x == 0) = false by
        cases hS : Fr.sumFits S with
        | true =>
          obtain ⟨hx, hy⟩ := SF5.out.1 hS
          have e := HG.out
          rw [SN5.out hx hy, RF.out] at e
          injection e with _ _ _ e
          exact .inl ⟨by simp [← e], by simp [hx], by simp [hy]⟩
        | false =>
          have hr := readN_unfit 70 127 S SL5.out hS
          rw [HG.out] at hr
          injection hr with _ _ _ e
          by_cases hx : x = 0
          · refine .inr (.inl ⟨by simp [e], by simp [hx], ?_⟩)
            rw [beq_eq_false_iff_ne]; intro hy; rw [SF5.out.2 ⟨hx, hy⟩] at hS; cases hS
          · exact .inr (.inr ⟨by simp [e], by rw [beq_eq_false_iff_ne]; exact hx⟩))
      go_wp2_with fail
      refine (readFeed_any _ _ _ S _ SL5.out hcap1 RS.out).mono ?_
      rw [HG.out, feed_v]
      rintro e w6 ⟨rfl, hb⟩
      have G6 := Lib.hid (G5.out.trans (hb.mono G5.out.size))
      clear hb G5 RS SL5 HG hcap1 hcl hc
      have hn13 : (n : Int) ≤ 13 := by omega
      have hnc : (n : Int) ≤ (cap0 : Int) := by omega
      go_wp2_with fail
      have G7 := Lib.hid (G6.out.alloc G6.out.size (.cells #[.int .i64 r0, .int .i64 r1, .int .i64 r2] 49))
      have TL := Lib.hid (show (F.take n).length = n by rw [List.length_take, HF13.out]; omega)
      have TR := Lib.hid (show Fr.readN 70 127 (F.take n) = ⟨0, 0, 0, 4⟩ by unfold Fr.readN; rw [TL.out, if_pos hn])
      clear G6
      refine (readFeed_any _ _ _ (F.take n) _ TL.out (by omega) ((HR.out.below G7.out).take n)).mono ?_
      rw [TR.out, feed_v]
      rintro e w8 ⟨rfl, hb⟩
      have G8 := Lib.hid ((G7.out.trans (hb.mono G7.out.size)).alloc (by have := (G7.out.trans (hb.mono G7.out.size)).size; omega) (.cells #[.int .i64 0, .int .i64 0, .int .i64 0] 49))
      clear hb G7

      go_upto_region 13 with (fail)
      generalize w8.alloc (.cells #[.int .i64 0, .int .i64 0, .int .i64 0] 49) = w9 at *
      go_cut [80] (fun b wx => b = .bool false ∧ wx = w9)
      case first =>
        rcases V.out with ⟨e1, e2, e3⟩ | ⟨e1, e2, e3⟩ | ⟨e1, e2⟩
        all_goals
          go_wp2_with fail
          go_meet
          exact ⟨rfl, rfl⟩
      case rest =>
        obtain ⟨rfl, rfl⟩ := hcut
        have HMN := fun (w : World) => run_min40 w len
        have HM := Lib.hid (show (l.take 40).length = min len 40 by rw [List.length_take, HL.out]; omega)
        have hk0 : (0 : Int) ≤ ((min len 40 : Nat) : Int) := by omega
        have hk1 : ((min len 40 : Nat) : Int) ≤ (cap : Int) := by omega
        have hk2 : ((min len 40 : Nat) : Int) ≤ 40 := by omega
        generalize min len 40 = m at *
        have D : ((len : Int) == 0) = false ∧ (∃ r0 r1 r2, Fr.readN 70 127 (F ++ l.take 40) = ⟨r0, r1, r2, 13⟩) ∨ ((len : Int) == 0) = true ∧ (∃ r0 r1 r2, Fr.readN 70 127 (F ++ l.take 40) = ⟨r0, r1, r2, 0⟩) := by
          by_cases h0 : len = 0
          · refine .inr ⟨by simp [h0], f0, f1, f2, ?_⟩
            have : l = [] := List.eq_nil_of_length_eq_zero (by rw [HL.out, h0])
            rw [this]; simpa using RF.out
          · refine .inl ⟨by rw [beq_eq_false_iff_ne]; omega, 0, 0, 0, ?_⟩
            unfold Fr.readN
            rw [if_neg (by simp [HF13.out]), if_pos (by simp [HF13.out, HL.out]; omega)]
        obtain ⟨t0, t1, t2, t3, hh, hD⟩ : ∃ t0 t1 t2 t3, Fr.readN 70 127 (F ++ l.take 40) = ⟨t0, t1, t2, t3⟩ ∧ (((len : Int) == 0) = true ∨ ((len : Int) == 0) = false ∧ t3 = 13) := by
          rcases D with ⟨h, r0, r1, r2, hr⟩ | ⟨h, r0, r1, r2, hr⟩
          · exact ⟨r0, r1, r2, 13, hr, .inr ⟨h, rfl⟩⟩
          · exact ⟨r0, r1, r2, 0, hr, .inl h⟩
        have HH := Lib.hid hh
        have HD := Lib.hid hD
        clear hh hD D
        go_wp2_with fail
        have HG9 := Lib.hid (H2.out.trans (G8.out.mono H2.out.size))
        have RA9 := Lib.hid ((HA.out.below HG9.out).take 40)
        have RB9 := Lib.hid (HR.out.below G8.out)
        clear G8
        go_region_held3 (fun _ => True) (first | trivial | go_keep)
          (first
            | (go_at_call 29; refine (copy_any _ _ _ F _ HF13.out (by rw [HF13.out]; omega) (RB9.out.below (by go_grown))).mono ?_; rintro e wa ⟨v, rfl, hown, hb⟩; have hbx := Below.trans (show Below wc.heap.size wc _ from by go_grown) hb; have tok : True := trivial)
            | (go_at_call 39; refine (readFeed_any _ _ _ (F ++ l.take 40) _ HK.out hc4 (HR4.out.below (by go_grown))).mono ?_; rw [HH.out, feed_v]; rintro e wb ⟨rfl, hb5⟩; have hbz := Below.trans hby (Below.trans (show Below wc.heap.size w4 _ from by go_grown) (hb5.mono hby.size)))
            | (have tok2 := tok; refine step_append_bytes (by rfl) (.tmp 83) (.tmp 88) (by rfl) wc.heap.size _ F (by rfl) hown _ _ _ (l.take 40) (by rfl) HM.out ((RA9.out.below hbx).below (by go_grown)) (by rw [HF13.out, HM.out]; omega) hbx.size ?_; intro v4 w4 hown4 hb4; have hby := Below.trans hbx (Below.trans (show Below wc.heap.size wa _ from by go_grown) hb4); obtain ⟨a4, c4, hv4, hc4, hr4⟩ := hown4.form; generalize hk : (F ++ l.take 40).length = k at hv4 hc4; have HK := Lib.hid hk; have HR4 := Lib.hid hr4; subst hv4; clear tok hk hr4 hown hown4)
            | fail)
        all_goals
          have HZ := Lib.hid (HG9.out.trans (hbz.mono HG9.out.size))
          clear hb hbx hb4 hby hb5 hbz hc4 HMN
          rcases HD.out with e0 | ⟨e0, rfl⟩
          all_goals
            go_wp2
            go_ret
            exact ⟨rfl, HZ.out⟩
end Go.Proofs.Ytnabpdengfmeaaa
