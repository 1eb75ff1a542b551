/- The law WatchCounts of layer 4, walked. -/
import Derived.Test.YtnabpdengfmeaaaWatchAwake
import Derived.Test.YtnabpdengfmeaaaRowsIn
import Derived.Deep.DeepCutAuto
import Derived.Deep.RegionHeld3
namespace Go.Proofs.Ytnabpdengfmeaaa
open Go.RowKit

theorem come_two {l m t : Int} {z : List Int} (hr : wrightB ⟨l, m, t⟩ = true) (hB : Crc.Bytes z) :
    (∃ s d p, comeG ⟨l, m, t⟩ (Fr.readN 70 127 z) = ⟨⟨l, 0, s⟩, s, d, p, true⟩ ∧ 0 ≤ s ∧ s ≤ 255) ∨ comeG ⟨l, m, t⟩ (Fr.readN 70 127 z) = ⟨⟨l, if m < l then m + 1 else l, t⟩, 0, 0, 0, false⟩ := by
  have ho := readN_ok (most := 127) 70 hB
  unfold comeG
  rw [if_pos hr]
  by_cases h : (Fr.readN 70 127 z).err = 0 ∧ newerB (Fr.readN 70 127 z).seq t = true
  · rw [if_pos h]
    exact .inl ⟨_, _, _, rfl, (ho h.1).1, (ho h.1).2.1⟩
  · rw [if_neg h]; exact .inr rfl

theorem zb1 {w w5 : World} {x y z : Value} {T : TypeId} (hb : Below (w.alloc (.cells #[x, y, z] T)).drew.heap.size (w.alloc (.cells #[x, y, z] T)).drew w5) : Box3 w5 w.heap.size x y z := by
  have h : Box3 (w.alloc (.cells #[x, y, z] T)).drew w.heap.size x y z := Box3.new w x y z T
  exact h.below hb
theorem zb2 {w w5 : World} {x y z x' y' z' : Value} {T T' : TypeId} (hb : Below ((w.alloc (.cells #[x, y, z] T)).alloc (.cells #[x', y', z'] T')).drew.heap.size ((w.alloc (.cells #[x, y, z] T)).alloc (.cells #[x', y', z'] T')).drew w5) :
    Box3 w5 w.heap.size x y z ∧ Box3 w5 (w.heap.size + 1) x' y' z' := by
  have h1 : Box3 ((w.alloc (.cells #[x, y, z] T)).alloc (.cells #[x', y', z'] T')).drew w.heap.size x y z := ((Box3.new w x y z T).below ((Below.refl _ _).alloc (Nat.le_refl _) _)).drew
  have h2 : Box3 ((w.alloc (.cells #[x, y, z] T)).alloc (.cells #[x', y', z'] T')).drew (w.alloc (.cells #[x, y, z] T)).heap.size x' y' z' := Box3.new (w.alloc (.cells #[x, y, z] T)) x' y' z' T'
  rw [size_alloc] at h2
  exact ⟨h1.below hb, h2.below hb⟩
/-- what a watch must show behind some cycles of which the last s did not count -/
def Missing (limit s m t : Int) : Prop := 0 ≤ s ∧ s ≤ 300 ∧ -1 ≤ t ∧ t ≤ 255 ∧ m = if s < limit then s else limit

theorem miss_more {limit s m t : Int} (g1 : 1 ≤ limit) (g2 : limit ≤ 100) (h : Missing limit s m t) (hs : s < 300) :
    Missing limit (s + 1) (if m < limit then m + 1 else limit) t ∧ wrightB ⟨limit, if m < limit then m + 1 else limit, t⟩ = true ∧ overB ⟨limit, if m < limit then m + 1 else limit, t⟩ = decide (limit ≤ s + 1) := by
  obtain ⟨h1, h2, h3, h4, h5⟩ := h
  have e : (if m < limit then m + 1 else limit) = if s + 1 < limit then s + 1 else limit := by
    subst h5
    by_cases a : s < limit
    · rw [if_pos a, if_pos a]
      by_cases b : s + 1 < limit
      · rw [if_pos b]
      · rw [if_neg b]; omega
    · rw [if_neg a, if_neg (by omega), if_neg (by omega)]
  rw [e]
  have hr : wrightB ⟨limit, if s + 1 < limit then s + 1 else limit, t⟩ = true := (wright_iff _ _ _).2 (by split <;> omega)
  refine ⟨⟨by omega, by omega, h3, h4, rfl⟩, hr, ?_⟩
  unfold overB
  rw [hr, Bool.not_true, Bool.false_or, Bool.eq_iff_iff, beq_iff_eq, decide_eq_true_iff]
  simp only
  split <;> omega
theorem miss_none {limit t : Int} (g1 : 1 ≤ limit) (g2 : limit ≤ 100) (h1 : 0 ≤ t) (h2 : t ≤ 255) :
    Missing limit 0 0 t ∧ wrightB ⟨limit, 0, t⟩ = true ∧ overB ⟨limit, 0, t⟩ = false := by
  have hr : wrightB ⟨limit, 0, t⟩ = true := (wright_iff _ _ _).2 (by omega)
  refine ⟨⟨by omega, by omega, by omega, by omega, by rw [if_pos (by omega)]⟩, hr, ?_⟩
  unfold overB
  rw [hr, Bool.not_true, Bool.false_or, beq_eq_false_iff_ne]
  simp only
  omega

set_option maxHeartbeats 8000000 in
set_option maxRecDepth 100000 in
theorem watchCounts (limit : Int) (a : Option Addr) (len cap : Nat) (l : Nat → Row) (w : World) (hlen : len ≤ 9223372036854775807) (h : ReadsR w a len l) :
    Calls Try.prog 18 #[.int .i64 limit, .slice a len cap] w fun e w' => e = .returned (.bool true) ∧ Below w.heap.size w w' := by
  have HA := Lib.hid h; clear h
  by_cases hok : 1 ≤ limit ∧ limit ≤ 100
  case' pos =>
    obtain ⟨g1, g2⟩ := hok
    have N1 := Lib.hid (show wnewW limit = ⟨limit, 0, -1⟩ by simp [wnewW, g1, g2])
    have N2 := Lib.hid (show wnewE limit = 0 by simp [wnewE, g1, g2])
    go_enter Try.func18, Try.ntmps18
    go_wp2_with fail
    refine (awake04 _).mono ?_
    rintro e w1 ⟨rfl, hb⟩
    have H1 := Lib.hid hb
    clear hb
    go_wp2_with fail
    refine (wnew_any _ _).mono ?_
    rw [N1.out, N2.out, wt_val]
    rintro e w2 ⟨rfl, hb⟩
    have B2 := Lib.hid (Box3.new w2 (.int .i64 limit) (.int .i64 0) (.int .i64 (-1)) 71)
    have HS := Lib.hid (Nat.le_trans H1.out.size hb.size)
    have H2 := Lib.hid ((H1.out.trans (hb.mono H1.out.size)).alloc HS.out (.cells #[.int .i64 limit, .int .i64 0, .int .i64 (-1)] 71))
    clear hb H1
    go_wp2_with fail
    generalize w2.alloc (.cells #[.int .i64 limit, .int .i64 0, .int .i64 (-1)] 71) = w3 at *
    generalize w2.heap.size = b at *
    go_loopw [7, 8] (fun sv i wr => ∃ (k : Nat) (s m t : Int), k ≤ len ∧ k ≤ 300 ∧ i = .int .i64 k ∧ sv = .int .i64 s ∧ s ≤ k ∧ Missing limit s m t ∧ Box3 wr b (.int .i64 limit) (.int .i64 m) (.int .i64 t) ∧ Below w.heap.size w wr) (fun _ i _ => 300 - (intOf i).toNat)
    case atStart => exact ⟨0, 0, 0, -1, by omega, by omega, rfl, rfl, by omega, ⟨by omega, by omega, by omega, by omega, by rw [if_pos (by omega)]⟩, B2.out, H2.out⟩
    case round =>
      clear B2 H2 N1 N2
      obtain ⟨k, s, m, t, hk, hk3, rfl, rfl, hsk, hM, hB, hH⟩ := hrel
      have HB := Lib.hid hB
      have HH := Lib.hid hH
      have HM := Lib.hid hM
      clear hB hH hM
      by_cases hlt : k < len
      · by_cases hlt3 : k < 300
        · obtain ⟨ba, oa, rfl, hba, hca, hnc, hzl, hzr⟩ := HA.out k hlt
          have hc : wr.cell? ⟨ba, oa + k, none⟩ = some (.slice (l k).a (l k).n (l k).c) := (HH.out.cell (p := ⟨ba, oa + k, none⟩) hba).trans hca
          have HZ := Lib.hid (hzr.below HH.out)
          have HZL := Lib.hid hzl
          have hzm := hzr.1
          clear hca hzr hzl
          generalize (l k).a = ra at *
          generalize (l k).c = rc at *
          generalize (l k).z = z at *
          generalize (l k).n = rn at *
          have hrn : (rn : Int) ≤ 9223372036854775807 := by have := HZL.out; omega
          by_cases h40 : 40 < rn
          · go_wp2
            go_ret
            exact ⟨rfl, HH.out⟩
          · obtain ⟨x0, x1, x2, x3, x4, x5, x6⟩ := HB.out
            go_upto_region 12 with (fail)
            have WR := Lib.hid ((wright_iff limit m t).2 (by obtain ⟨q1, q2, q3, q4, q5⟩ := HM.out; split at q5 <;> omega))
            have CT := Lib.hid (come_two WR.out HZ.out.2.1)
            obtain ⟨⟨⟨tl, tm, tt⟩, ts, td, tp, tok⟩, hT⟩ : ∃ T, comeG ⟨limit, m, t⟩ (Fr.readN 70 127 z) = T := ⟨_, rfl⟩
            have HT := Lib.hid hT
            rw [hT] at CT
            clear hT
            go_cut [9, 10, 11] (fun n f okv wx => ∃ bn bf : Nat, n = .pointer (some ⟨bn, 0, none⟩) ∧ okv = .bool tok ∧ Box3 wx bn (.int .i64 tl) (.int .i64 tm) (.int .i64 tt) ∧ wr.heap.size ≤ bn ∧ Below wr.heap.size wr wx)
            case first =>
              have hbr : ba < wr.heap.size := Nat.lt_of_lt_of_le hba HH.out.size
              have n1 : b ≠ wr.heap.size := by omega
              have n2 : b ≠ wr.heap.size + 1 := by omega
              have n3 : ba ≠ wr.heap.size := by omega
              have n4 : ba ≠ wr.heap.size + 1 := by omega
              go_region_held3 (fun w' => w'.cell? ⟨b, 0, none⟩ = some (.int .i64 limit) ∧ w'.cell? ⟨b, 1, none⟩ = some (.int .i64 m) ∧ w'.cell? ⟨b, 2, none⟩ = some (.int .i64 t) ∧ w'.cell? ⟨ba, oa + k, none⟩ = some (.slice ra rn rc))
                (exact ⟨((show Below wr.heap.size wr _ from by go_grown).cell (p := ⟨b, 0, none⟩) x0).trans x1, ((show Below wr.heap.size wr _ from by go_grown).cell (p := ⟨b, 1, none⟩) x0).trans x2, ((show Below wr.heap.size wr _ from by go_grown).cell (p := ⟨b, 2, none⟩) x0).trans x3, ((show Below wr.heap.size wr _ from by go_grown).cell (p := ⟨ba, oa + k, none⟩) hbr).trans hc⟩)
                (first
                  | (go_at_call 53; refine (wcome_any _ _ _ _ _ _ z _ HZL.out hnc (HZ.out.below (by go_grown))).mono ?_; rw [HT.out, took_val]; rintro e w4 ⟨rfl, hb⟩; have hz4 := hb.size; simp at hz4; have m1 : b ≠ w4.heap.size := (by omega); have m2 : b ≠ w4.heap.size + 1 := (by omega); have m3 : ba ≠ w4.heap.size := (by omega); have m4 : ba ≠ w4.heap.size + 1 := (by omega); have hbw := Below.trans (show Below wr.heap.size wr _ from by go_grown) (hb.mono (show wr.heap.size ≤ _ by first | (simp; done) | (simp; omega))); first | (have qz := zb2 hb; obtain ⟨⟨qs, q0, q1, q2, p0, p1, p2⟩, ⟨ps, r0, r1, r2, v0, v1, v2⟩⟩ := qz) | (have qz := zb1 hb; obtain ⟨qs, q0, q1, q2, p0, p1, p2⟩ := qz) | skip)
                  | fail)
              · go_wp2_with fail
                go_meet
                exact ⟨w4.heap.size, 0, rfl, rfl, (Box3.new w4 (.int .i64 tl) (.int .i64 tm) (.int .i64 tt) 71).below ((Below.refl _ _).alloc (Nat.le_refl _) _), hz4, by go_grown⟩
              · go_wp2_with fail
                go_meet
                have hx := Box3.new (w4.alloc (.cells #[.int .i64 ts, .int .i64 td, .int .i64 tp] 49)) (.int .i64 tl) (.int .i64 tm) (.int .i64 tt) 71
                rw [size_alloc] at hx
                exact ⟨w4.heap.size + 1, 0, rfl, rfl, hx, by omega, by go_grown⟩
              · have hx := ((show Box3 w4 wr.heap.size (.int .i64 0) (.int .i64 0) (.int .i64 0) from ⟨qs, q0, q1, q2, p0, p1, p2⟩).put (.int .i64 tl) (.int .i64 tm) (.int .i64 tt)).below ((Below.refl _ _).alloc (Nat.le_refl _) (.cells #[.int .i64 ts, .int .i64 td, .int .i64 tp] 49))
                clear qs q0 q1 q2 p0 p1 p2
                go_wp2_with fail
                go_meet
                exact ⟨wr.heap.size, 0, rfl, rfl, hx, Nat.le_refl _, by go_grown⟩
              · have hx := ((show Box3 w4 wr.heap.size (.int .i64 0) (.int .i64 0) (.int .i64 0) from ⟨qs, q0, q1, q2, p0, p1, p2⟩).put (.int .i64 tl) (.int .i64 tm) (.int .i64 tt)).put_far (show wr.heap.size + 1 ≠ wr.heap.size by omega) (.int .i64 ts) (.int .i64 td) (.int .i64 tp)
                clear qs q0 q1 q2 p0 p1 p2 ps r0 r1 r2 v0 v1 v2
                go_wp2_with fail
                go_meet
                exact ⟨wr.heap.size, 0, rfl, rfl, hx, Nat.le_refl _, by go_grown⟩
              · have hx := Box3.new ((((w4).setCell ⟨wr.heap.size, 0, none⟩ (.int .i64 ts)).setCell ⟨wr.heap.size, 1, none⟩ (.int .i64 td)).setCell ⟨wr.heap.size, 2, none⟩ (.int .i64 tp)) (.int .i64 tl) (.int .i64 tm) (.int .i64 tt) 71
                rw [show ((((w4).setCell ⟨wr.heap.size, 0, none⟩ (.int .i64 ts)).setCell ⟨wr.heap.size, 1, none⟩ (.int .i64 td)).setCell ⟨wr.heap.size, 2, none⟩ (.int .i64 tp)).heap.size = w4.heap.size by simp] at hx
                clear qs q0 q1 q2 p0 p1 p2
                go_wp2_with fail
                go_meet
                exact ⟨w4.heap.size, 0, rfl, rfl, hx, by omega, by go_grown⟩
              · have hx := ((show Box3 w4 (wr.heap.size + 1) (.int .i64 0) (.int .i64 0) (.int .i64 0) from ⟨ps, r0, r1, r2, v0, v1, v2⟩).put (.int .i64 tl) (.int .i64 tm) (.int .i64 tt)).put_far (show wr.heap.size ≠ wr.heap.size + 1 by omega) (.int .i64 ts) (.int .i64 td) (.int .i64 tp)
                clear qs q0 q1 q2 p0 p1 p2 ps r0 r1 r2 v0 v1 v2
                go_wp2_with fail
                go_meet
                exact ⟨wr.heap.size + 1, 0, rfl, rfl, hx, by omega, by go_grown⟩
            case rest =>
              obtain ⟨bn, bf, rfl, rfl, hBN, hbn, hW⟩ := hcut
              have BN := Lib.hid hBN
              have HBC := Lib.hid (HB.out.below hW)
              have HHC := Lib.hid (HH.out.trans (hW.mono HH.out.size))
              have hne : b ≠ bn := by omega
              have hs3 : s < 300 := by omega
              clear hBN hW hbn x0 x1 x2 x3 x4 x5 x6 HB HH hc HZ HT
              rcases CT.out with ⟨q, d, p, e, q0, q1⟩ | e
              · injection e with e1 e2 e3 e4 e5
                injection e1 with e6 e7 e8
                subst e2 e3 e4 e5 e7 e8
                have e6' := e6.symm
                subst e6'
                have MS := Lib.hid (miss_none g1 g2 q0 q1)
                have dl : decide (limit ≤ 0) = false := decide_eq_false (by omega)
                clear CT
                obtain ⟨x0, x1, x2, x3, x4, x5, x6⟩ := BN.out
                go_wp2_with fail
                refine (wover_any _ _ _ _).mono ?_
                rw [MS.out.2.2]
                rintro e w5 ⟨rfl, hb⟩
                have BN5 := Lib.hid (BN.out.below hb)
                have HB5 := Lib.hid (HBC.out.below hb)
                have HH5 := Lib.hid (HHC.out.trans (hb.mono HHC.out.size))
                clear hb x0 x1 x2 x3 x4 x5 x6 BN HBC HHC
                obtain ⟨x0, x1, x2, x3, x4, x5, x6⟩ := BN5.out
                go_wp2_with fail
                refine (wright_any _ _ _ _).mono ?_
                rw [MS.out.2.1]
                rintro e w6 ⟨rfl, rfl⟩
                have BN6 := Lib.hid (BN5.out.below ((Below.refl _ _).alloc (Nat.le_refl _) (.cells #[.int .i64 limit, .int .i64 0, .int .i64 tt] 71)))
                have HB6 := Lib.hid (HB5.out.below ((Below.refl _ _).alloc (Nat.le_refl _) (.cells #[.int .i64 limit, .int .i64 0, .int .i64 tt] 71)))
                have HH6 := Lib.hid (HH5.out.alloc HH5.out.size (.cells #[.int .i64 limit, .int .i64 0, .int .i64 tt] 71))
                clear x0 x1 x2 x3 x4 x5 x6 BN5 HB5 HH5
                generalize w5.alloc (.cells #[.int .i64 limit, .int .i64 0, .int .i64 tt] 71) = w6 at *
                obtain ⟨x0, x1, x2, x3, x4, x5, x6⟩ := BN6.out
                obtain ⟨y0, y1, y2, y3, y4, y5, y6⟩ := HB6.out
                go_wp2
                go_roundw
                case rel =>
                  refine ⟨k + 1, 0, 0, tt, by omega, by omega, by go_num, rfl, by omega, MS.out.1, HB6.out.put (.int .i64 limit) (.int .i64 0) (.int .i64 tt), by have hb6 := HH6.out; have hg := HS.out; go_grown⟩
                case measure => simp [intOf]; omega
              · injection e with e1 e2 e3 e4 e5
                injection e1 with e6 e7 e8
                subst e2 e3 e4 e5
                have e6' := e6.symm
                have e8' := e8.symm
                subst e6' e8'
                have MS0 := miss_more g1 g2 HM.out hs3
                rw [← e7] at MS0
                have MS := Lib.hid MS0
                have hs0 := HM.out.1
                clear CT MS0 e7
                cases hd : decide (limit ≤ s + 1)
                all_goals
                  have MS22 := Lib.hid (MS.out.2.2.trans hd)
                  obtain ⟨x0, x1, x2, x3, x4, x5, x6⟩ := BN.out
                  go_wp2_with fail
                  refine (wover_any _ _ _ _).mono ?_
                  rw [MS22.out]
                  rintro e w5 ⟨rfl, hb⟩
                  have BN5 := Lib.hid (BN.out.below hb)
                  have HB5 := Lib.hid (HBC.out.below hb)
                  have HH5 := Lib.hid (HHC.out.trans (hb.mono HHC.out.size))
                  clear hb x0 x1 x2 x3 x4 x5 x6 BN HBC HHC
                  obtain ⟨x0, x1, x2, x3, x4, x5, x6⟩ := BN5.out
                  go_wp2_with fail
                  refine (wright_any _ _ _ _).mono ?_
                  rw [MS.out.2.1]
                  rintro e w6 ⟨rfl, rfl⟩
                  have BN6 := Lib.hid (BN5.out.below ((Below.refl _ _).alloc (Nat.le_refl _) (.cells #[.int .i64 limit, .int .i64 tm, .int .i64 t] 71)))
                  have HB6 := Lib.hid (HB5.out.below ((Below.refl _ _).alloc (Nat.le_refl _) (.cells #[.int .i64 limit, .int .i64 tm, .int .i64 t] 71)))
                  have HH6 := Lib.hid (HH5.out.alloc HH5.out.size (.cells #[.int .i64 limit, .int .i64 tm, .int .i64 t] 71))
                  clear x0 x1 x2 x3 x4 x5 x6 BN5 HB5 HH5
                  generalize w5.alloc (.cells #[.int .i64 limit, .int .i64 tm, .int .i64 t] 71) = w6 at *
                  obtain ⟨x0, x1, x2, x3, x4, x5, x6⟩ := BN6.out
                  obtain ⟨y0, y1, y2, y3, y4, y5, y6⟩ := HB6.out
                  go_wp2
                  go_roundw
                  case rel =>
                    refine ⟨k + 1, s + 1, tm, t, by omega, by omega, by go_num, rfl, by omega, MS.out.1, HB6.out.put (.int .i64 limit) (.int .i64 tm) (.int .i64 t), by have hb6 := HH6.out; have hg := HS.out; go_grown⟩
                  case measure => simp [intOf]; omega
        · have d1 : decide ((k : Int) < 300) = false := decide_eq_false (by omega)
          go_wp2
          go_ret
          exact ⟨rfl, HH.out⟩
      · go_wp2
        go_ret
        exact ⟨rfl, HH.out⟩
  case' neg =>
    have N2 := Lib.hid (show wnewE limit = 1 by simp [wnewE, hok])
    obtain ⟨n0, n1, n2, hn⟩ : ∃ n0 n1 n2, wnewW limit = ⟨n0, n1, n2⟩ := ⟨_, _, _, rfl⟩
    have N1 := Lib.hid hn
    clear hn hok
    go_enter Try.func18, Try.ntmps18
    go_wp2_with fail
    refine (awake04 _).mono ?_
    rintro e w1 ⟨rfl, hb⟩
    have H1 := Lib.hid hb
    clear hb
    go_wp2_with fail
    refine (wnew_any _ _).mono ?_
    rw [N1.out, N2.out, wt_val]
    rintro e w2 ⟨rfl, hb⟩
    have HS := Lib.hid (Nat.le_trans H1.out.size hb.size)
    have H2 := Lib.hid ((H1.out.trans (hb.mono H1.out.size)).alloc HS.out (.cells #[.int .i64 n0, .int .i64 n1, .int .i64 n2] 71))
    clear hb H1
    go_wp2
    go_ret
    exact ⟨rfl, H2.out⟩
end Go.Proofs.Ytnabpdengfmeaaa
