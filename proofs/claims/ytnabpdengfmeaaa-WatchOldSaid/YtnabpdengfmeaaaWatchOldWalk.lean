/- The law WatchOld of layer 4, walked. -/
import Derived.Test.YtnabpdengfmeaaaWatchAwake
namespace Go.Proofs.Ytnabpdengfmeaaa
open Go.RowKit

theorem old_not {first r : Int} (h0 : 0 ≤ first) (h1 : first ≤ 255) (r0 : 0 ≤ r) (r1 : r ≤ 128) : newerB ((first + 256 - r) % 256) first = false := by
  have e : decide (first < 0) = false := decide_eq_false (by omega)
  unfold newerB
  rw [e, Bool.false_or, Bool.and_eq_false_iff]
  by_cases h : 1 ≤ ((first + 256 - r) % 256 - first) % 256
  · exact .inr (decide_eq_false (by omega))
  · exact .inl (decide_eq_false h)

set_option maxHeartbeats 8000000 in
set_option maxRecDepth 100000 in
theorem watchOld (limit first : Int) (a : Option Addr) (len cap : Nat) (l : List Int) (w : World) (hl : l.length = len) (h : Reads w a l) :
    Calls Try.prog 19 #[.int .i64 limit, .int .i64 first, .slice a len cap] w fun e w' => e = .returned (.bool true) ∧ Below w.heap.size w w' := by
  have hlen := h.1
  have HA := Lib.hid h; clear h
  have HL := Lib.hid hl; clear hl
  by_cases hok : (1 ≤ limit ∧ limit ≤ 100) ∧ 0 ≤ first ∧ first ≤ 255
  case' pos =>
    obtain ⟨⟨g1, g2⟩, g3, g4⟩ := hok
    have N1 := Lib.hid (show wnewW limit = ⟨limit, 0, -1⟩ by simp [wnewW, g1, g2])
    have N2 := Lib.hid (show wnewE limit = 0 by simp [wnewE, g1, g2])
    have hpo := (putOk_iff 127 first 1).2 ⟨g3, g4, by omega, by omega⟩
    have P1 := Lib.hid (show putL 70 127 first 1 0 = Fr.frameL 70 first 1 0 by simp [putL, hpo])
    have P2 := Lib.hid (show putE 127 first 1 = 0 by simp [putE, hpo])
    have C1 := Lib.hid (show comeG ⟨limit, 0, -1⟩ (Fr.readN 70 127 (Fr.frameL 70 first 1 0)) = ⟨⟨limit, 0, first⟩, first, 1, 0, true⟩ by
      rw [Fr.read_frame (sign := 70) (seq := first) (w := 1) 127 0 (by omega) (by omega) (by omega) (by omega) (by omega)]
      unfold comeG
      rw [if_pos ((wright_iff limit 0 (-1)).2 (by omega)), if_pos ⟨rfl, by simp [newerB]⟩])
    clear hpo
    go_enter Try.func19, Try.ntmps19
    go_wp2_with fail
    refine (awake04 _).mono ?_
    rintro e w1 ⟨rfl, hb⟩
    have H1 := Lib.hid hb
    clear hb
    go_wp2_with fail
    refine (wnew_any _ _).mono ?_
    rw [N1.out, N2.out, wt_val]
    rintro e w2 ⟨rfl, hb⟩
    have B2 := Lib.hid (Box3.new w2 (.int .i64 limit) (.int .i64 0) (.int .i64 (-1)) 71)
    have HS := Lib.hid (Nat.le_trans H1.out.size hb.size)
    have H2 := Lib.hid ((H1.out.trans (hb.mono H1.out.size)).alloc HS.out (.cells #[.int .i64 limit, .int .i64 0, .int .i64 (-1)] 71))
    clear hb H1
    go_wp2_with fail
    generalize w2.alloc (.cells #[.int .i64 limit, .int .i64 0, .int .i64 (-1)] 71) = w3 at *
    generalize w2.heap.size = b at *
    refine (rput_any _ _ _ _ _ _ (by omega) (by omega) (by omega)).mono ?_
    rw [P1.out, P2.out]
    rintro e w4 ⟨v, rfl, hown, hb⟩
    have B4 := Lib.hid (B2.out.below hb)
    have H4 := Lib.hid (H2.out.trans (hb.mono H2.out.size))
    obtain ⟨g, cap0, rfl, hg, hcap0, hgl, hc, hr⟩ := hown.open13 (Fr.frameL_len _ _ _ _)
    have HR := Lib.hid hr
    clear hb hown hc hr hg hgl B2 H2
    have HF := Lib.hid (Fr.frameL_len 70 first 1 0)
    generalize Fr.frameL 70 first 1 0 = F at *
    obtain ⟨x0, x1, x2, x3, x4, x5, x6⟩ := B4.out
    go_wp2_with fail
    refine (wcome_any _ _ _ _ _ _ F _ HF.out hcap0 HR.out).mono ?_
    rw [C1.out, took_val]
    rintro e w5 ⟨rfl, hb⟩
    have B5 := Lib.hid (B4.out.below hb)
    have H5 := Lib.hid (H4.out.trans (hb.mono H4.out.size))
    clear hb x0 x1 x2 x3 x4 x5 x6 B4 H4
    obtain ⟨x0, x1, x2, x3, x4, x5, x6⟩ := B5.out
    have xs := Nat.lt_succ_of_lt x0
    go_wp2_with fail
    have B6 := Lib.hid ((show Box3 ((((w5).setCell ⟨b, 0, none⟩ (.int .i64 limit)).setCell ⟨b, 1, none⟩ (.int .i64 0)).setCell ⟨b, 2, none⟩ (.int .i64 first)) b _ _ _ from B5.out.put (.int .i64 limit) (.int .i64 0) (.int .i64 first)).below ((Below.refl _ _).alloc (Nat.le_refl _) (.cells #[.int .i64 first, .int .i64 1, .int .i64 0] 49)))
    have H6 := Lib.hid (show Below w.heap.size w (((((w5).setCell ⟨b, 0, none⟩ (.int .i64 limit)).setCell ⟨b, 1, none⟩ (.int .i64 0)).setCell ⟨b, 2, none⟩ (.int .i64 first)).alloc (.cells #[.int .i64 first, .int .i64 1, .int .i64 0] 49)) from by have hb3 := H5.out; have hg := HS.out; have hz := hb3.size; go_grown)
    clear x0 x1 x2 x3 x4 x5 x6 xs H5 B5 HR HF C1 P1 P2 N1 N2
    generalize ((((w5).setCell ⟨b, 0, none⟩ (.int .i64 limit)).setCell ⟨b, 1, none⟩ (.int .i64 0)).setCell ⟨b, 2, none⟩ (.int .i64 first)).alloc (.cells #[.int .i64 first, .int .i64 1, .int .i64 0] 49) = w6 at *
    go_loopw [13] (fun i wr => ∃ (k : Nat) (m : Int), k ≤ len ∧ k ≤ 300 ∧ i = .int .i64 k ∧ 0 ≤ m ∧ m ≤ limit ∧ Box3 wr b (.int .i64 limit) (.int .i64 m) (.int .i64 first) ∧ Below w.heap.size w wr) (fun i _ => 300 - (intOf i).toNat)
    case atStart => exact ⟨0, 0, by omega, by omega, rfl, by omega, by omega, B6.out, H6.out⟩
    case round =>
      clear B6 H6
      obtain ⟨k, m, hk, hk3, rfl, hm0, hm1, hB, hH⟩ := hrel
      have HB := Lib.hid hB
      have HH := Lib.hid hH
      clear hB hH
      by_cases hlt : k < len
      · by_cases hlt3 : k < 300
        · obtain ⟨ba, oa, rfl, hba, hca⟩ := HA.out.spot k (by rw [HL.out]; exact hlt)
          have hc : wr.cell? ⟨ba, oa + k, none⟩ = some (.int .u8 (l.getD k 0)) := (HH.out.cell (p := ⟨ba, oa + k, none⟩) hba).trans hca
          have hz := Crc.bytes_at HA.out.2.1 k
          clear hca
          generalize l.getD k 0 = z at *
          have ON := Lib.hid (old_not g3 g4 (show 0 ≤ z % 129 by omega) (show z % 129 ≤ 128 by omega))
          have hs0 : 0 ≤ (first + 256 - z % 129) % 256 := by omega
          have hs1 : (first + 256 - z % 129) % 256 ≤ 255 := by omega
          have hr0 : 0 ≤ z % 129 := by omega
          have hr1 : z % 129 ≤ 128 := by omega
          have hpo := (putOk_iff 127 ((first + 256 - z % 129) % 256) 1).2 ⟨hs0, hs1, by omega, by omega⟩
          have P1 := Lib.hid (show putL 70 127 ((first + 256 - z % 129) % 256) 1 7 = Fr.frameL 70 ((first + 256 - z % 129) % 256) 1 7 by simp [putL, hpo])
          have C1 := Lib.hid (show comeG ⟨limit, m, first⟩ (Fr.readN 70 127 (Fr.frameL 70 ((first + 256 - z % 129) % 256) 1 7)) = ⟨⟨limit, if m < limit then m + 1 else limit, first⟩, 0, 0, 0, false⟩ by
            rw [Fr.read_frame (sign := 70) (w := 1) 127 7 (by omega) (by omega) (by omega) (by omega) (by omega)]
            unfold comeG
            rw [if_pos ((wright_iff limit m first).2 (by omega)), if_neg (by intro h; rw [ON.out] at h; simp at h)])
          have hM : 0 ≤ (if m < limit then m + 1 else limit) ∧ (if m < limit then m + 1 else limit) ≤ limit := by split <;> omega
          clear hpo ON
          generalize (if m < limit then m + 1 else limit) = M at *
          go_wp2_with fail
          generalize (first + 256 - z % 129) % 256 = q at *
          refine (rput_any _ _ _ _ _ _ (by omega) (by omega) (by omega)).mono ?_
          rw [P1.out]
          rintro e w8 ⟨v, rfl, hown, hb⟩
          have HB8 := Lib.hid (HB.out.below hb)
          have HH8 := Lib.hid (HH.out.trans (hb.mono HH.out.size))
          obtain ⟨g', cap1, rfl, hg, hcap1, hgl, hcc, hr⟩ := hown.open13 (Fr.frameL_len _ _ _ _)
          have HR := Lib.hid hr
          clear hb hown hcc hr hg hgl HB HH hc
          have HF := Lib.hid (Fr.frameL_len 70 q 1 7)
          generalize Fr.frameL 70 q 1 7 = F1 at *
          obtain ⟨x0, x1, x2, x3, x4, x5, x6⟩ := HB8.out
          go_wp2_with fail
          refine (wcome_any _ _ _ _ _ _ F1 _ HF.out hcap1 HR.out).mono ?_
          rw [C1.out, took_val]
          rintro e w9 ⟨rfl, hb⟩
          have HB9 := Lib.hid (HB8.out.below hb)
          have HH9 := Lib.hid (HH8.out.trans (hb.mono HH8.out.size))
          clear hb x0 x1 x2 x3 x4 x5 x6 HB8 HH8 HR HF C1
          have te : (first != first) = false := by simp
          go_upto_region 17 with (fail)
          have hsz9 := HH9.out.size
          have BN := Lib.hid ((Box3.new w9 (.int .i64 limit) (.int .i64 M) (.int .i64 first) 71).below ((Below.refl _ _).alloc (Nat.le_refl _) (.cells #[.int .i64 0, .int .i64 0, .int .i64 0] 49)))
          have HB10 := Lib.hid (HB9.out.below (show Below w9.heap.size w9 ((w9.alloc (.cells #[.int .i64 limit, .int .i64 M, .int .i64 first] 71)).alloc (.cells #[.int .i64 0, .int .i64 0, .int .i64 0] 49)) from by go_grown))
          have HH10 := Lib.hid (show Below w.heap.size w ((w9.alloc (.cells #[.int .i64 limit, .int .i64 M, .int .i64 first] 71)).alloc (.cells #[.int .i64 0, .int .i64 0, .int .i64 0] 49)) from by have hb9 := HH9.out; go_grown)
          have hne : b ≠ w9.heap.size := by have := HB9.out.1; omega
          clear HB9 HH9
          generalize (w9.alloc (.cells #[.int .i64 limit, .int .i64 M, .int .i64 first] 71)).alloc (.cells #[.int .i64 0, .int .i64 0, .int .i64 0] 49) = w10 at *
          generalize w9.heap.size = bn at *
          obtain ⟨x0, x1, x2, x3, x4, x5, x6⟩ := HB10.out
          obtain ⟨y0, y1, y2, y3, y4, y5, y6⟩ := BN.out
          go_wp2_with fail
          go_roundw
          case rel =>
            refine ⟨k + 1, M, by omega, by omega, by go_num, hM.1, hM.2, HB10.out.put (.int .i64 limit) (.int .i64 M) (.int .i64 first), ?_⟩
            have hb10 := HH10.out
            have hg := HS.out
            go_grown
          case measure => simp [intOf]; omega
        · have d1 : decide ((k : Int) < 300) = false := decide_eq_false (by omega)
          go_wp2
          go_ret
          exact ⟨rfl, HH.out⟩
      · go_wp2
        go_ret
        exact ⟨rfl, HH.out⟩
  case' neg =>
    have BAD := Lib.hid (show (wnewE limit != 0) = true ∨ (wnewE limit != 0) = false ∧ (putE 127 first 1 != 0) = true by
      by_cases h1 : 1 ≤ limit ∧ limit ≤ 100
      · refine .inr ⟨by simp [wnewE, h1], ?_⟩
        have : putOk 127 first 1 = false := by
          rw [← Bool.not_eq_true, putOk_iff]; intro h; exact hok ⟨h1, h.1, h.2.1⟩
        simp [putE, this]
      · exact .inl (by simp [wnewE, h1]))
    clear hok
    generalize hE : wnewE limit = E at *
    generalize hG : putE 127 first 1 = G at *
    generalize hN : wnewW limit = N at *
    obtain ⟨n0, n1, n2⟩ := N
    have KE := Lib.hid hE
    have KG := Lib.hid hG
    have KN := Lib.hid hN
    clear hE hG hN
    go_enter Try.func19, Try.ntmps19
    go_wp2_with fail
    refine (awake04 _).mono ?_
    rintro e w1 ⟨rfl, hb⟩
    have H1 := Lib.hid hb
    clear hb
    go_wp2_with fail
    refine (wnew_any _ _).mono ?_
    rw [KN.out, KE.out, wt_val]
    rintro e w2 ⟨rfl, hb⟩
    have HS := Lib.hid (Nat.le_trans H1.out.size hb.size)
    have H2 := Lib.hid ((H1.out.trans (hb.mono H1.out.size)).alloc HS.out (.cells #[.int .i64 n0, .int .i64 n1, .int .i64 n2] 71))
    clear hb H1
    go_wp2_with fail
    refine (rput_any _ _ _ _ _ _ (by omega) (by omega) (by omega)).mono ?_
    rw [KG.out]
    rintro e w4 ⟨v, rfl, hown, hb⟩
    have H4 := Lib.hid (H2.out.trans (hb.mono H2.out.size))
    clear hb hown H2
    rcases BAD.out with e1 | ⟨e1, e2⟩
    all_goals
      go_wp2
      go_ret
      exact ⟨rfl, H4.out⟩
end Go.Proofs.Ytnabpdengfmeaaa
