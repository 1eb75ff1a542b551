/- Layer 4: the document's answer (servitorref04.Right, Come) gives the same as the program. -/
import Derived.Test.YtnabpdengfmeaaaWatchCome
namespace Go.Proofs.Ytnabpdengfmeaaa
open Go.RowKit

set_option maxHeartbeats 2000000 in
set_option maxRecDepth 100000 in
theorem rwright_any (l m t : Int) (w : World) : Calls Try.prog 56 #[.agg #[.int .i64 l, .int .i64 m, .int .i64 t]] w fun e w' => e = .returned (.bool (wrightB ⟨l, m, t⟩)) ∧ w.alloc (.cells #[.int .i64 l, .int .i64 m, .int .i64 t] 71) = w' := by
  cases hr : wrightB ⟨l, m, t⟩ with
  | true =>
    obtain ⟨h1, h2, h3, h4, h5, h6⟩ := (wright_iff l m t).1 hr
    clear hr
    go_enter Try.func56, Try.ntmps56
    go_wp2
    go_ret
    exact ⟨rfl, rfl⟩
  | false =>
    have h := (wwrong_iff l m t).1 hr
    clear hr
    have k : l < 1 ∨ (1 ≤ l ∧ 100 < l) ∨ (1 ≤ l ∧ l ≤ 100 ∧ m < 0) ∨ (1 ≤ l ∧ l ≤ 100 ∧ 0 ≤ m ∧ l < m) ∨ (1 ≤ l ∧ l ≤ 100 ∧ 0 ≤ m ∧ m ≤ l ∧ t < -1) ∨ (1 ≤ l ∧ l ≤ 100 ∧ 0 ≤ m ∧ m ≤ l ∧ -1 ≤ t ∧ 255 < t) := by omega
    clear h
    rcases k with h | ⟨h1, h⟩ | ⟨h1, h2, h⟩ | ⟨h1, h2, h3, h⟩ | ⟨h1, h2, h3, h4, h⟩ | ⟨h1, h2, h3, h4, h5, h⟩
    all_goals
      go_enter Try.func56, Try.ntmps56
      go_wp2
      go_ret
      first | exact ⟨rfl, rfl⟩ | exact ⟨ret_eq (congrArg Value.bool (decide_eq_false (by omega))), rfl⟩


theorem hit_iff {s t d : Int} (hs0 : 0 ≤ s) (hs1 : s ≤ 255) (hd0 : 1 ≤ d) (hd1 : d ≤ 127) : (t + d) % 256 = s ↔ (s - t) % 256 = d := by omega
set_option maxHeartbeats 8000000 in
set_option maxRecDepth 100000 in
theorem rwcome_any (l m t : Int) (a : Option Addr) (len cap : Nat) (L : List Int) (w : World) (hl : L.length = len) (hc : len ≤ cap) (h : Reads w a L) :
    Calls Try.prog 54 #[.agg #[.int .i64 l, .int .i64 m, .int .i64 t], .slice a len cap] w fun e w' => e = .returned (comeG ⟨l, m, t⟩ (Fr.readN 70 127 L)).val ∧ Below w.heap.size w w' := by
  have HL := Lib.hid hl; clear hl
  have H := Lib.hid h; clear h
  cases hr : wrightB ⟨l, m, t⟩ with
  | false =>
    rw [show comeG ⟨l, m, t⟩ (Fr.readN 70 127 L) = ⟨⟨0, 0, 0⟩, 0, 0, 0, false⟩ by simp [comeG, hr], took_val]
    have HR := Lib.hid hr
    clear hr
    go_enter Try.func54, Try.ntmps54
    go_wp2_with (go_at_call 56; refine (rwright_any _ _ _ _).mono ?_; rw [HR.out]; rintro e w' ⟨rfl, rfl⟩)
    go_returns
    exact ⟨rfl, by go_grown⟩
  | true =>
    obtain ⟨h1, h2, h3, h4, h5, h6⟩ := (wright_iff l m t).1 hr
    have RO := Lib.hid (readN_ok (most := 127) 70 (L := L) H.out.2.1)
    have CG := Lib.hid (show comeG ⟨l, m, t⟩ (Fr.readN 70 127 L) = if (Fr.readN 70 127 L).err = 0 ∧ newerB (Fr.readN 70 127 L).seq t = true then ⟨⟨l, 0, (Fr.readN 70 127 L).seq⟩, (Fr.readN 70 127 L).seq, (Fr.readN 70 127 L).word, (Fr.readN 70 127 L).place, true⟩ else ⟨⟨l, if m < l then m + 1 else l, t⟩, 0, 0, 0, false⟩ by
      unfold comeG; rw [if_pos hr])
    have HR := Lib.hid hr
    clear hr
    generalize hg : Fr.readN 70 127 L = G at *
    have HG := Lib.hid hg
    clear hg
    obtain ⟨s, d, p, e⟩ := G
    simp only at RO
    generalize comeG ⟨l, m, t⟩ ⟨s, d, p, e⟩ = T at *
    have HC := Lib.hid hc
    clear hc
    go_enter Try.func54, Try.ntmps54
    go_wp2_with (go_at_call 56; refine (rwright_any _ _ _ _).mono ?_; rw [HR.out]; rintro e w' ⟨rfl, rfl⟩)
    have BW := Lib.hid ((Box3.new w (.int .i64 l) (.int .i64 m) (.int .i64 t) 71).below (show Below _ _ ((((w.alloc (.cells #[.int .i64 l, .int .i64 m, .int .i64 t] 71)).alloc (.cells #[.int .i64 0, .int .i64 0, .int .i64 0] 71)).alloc (.cells #[.int .i64 0, .int .i64 0, .int .i64 0] 49)).alloc (.cells #[.int .i64 l, .int .i64 m, .int .i64 t] 71)) from by go_grown))
    have BR := Lib.hid ((Box3.new (w.alloc (.cells #[.int .i64 l, .int .i64 m, .int .i64 t] 71)) (.int .i64 0) (.int .i64 0) (.int .i64 0) 71).below (show Below _ _ ((((w.alloc (.cells #[.int .i64 l, .int .i64 m, .int .i64 t] 71)).alloc (.cells #[.int .i64 0, .int .i64 0, .int .i64 0] 71)).alloc (.cells #[.int .i64 0, .int .i64 0, .int .i64 0] 49)).alloc (.cells #[.int .i64 l, .int .i64 m, .int .i64 t] 71)) from by go_grown))
    have BF := Lib.hid ((Box3.new ((w.alloc (.cells #[.int .i64 l, .int .i64 m, .int .i64 t] 71)).alloc (.cells #[.int .i64 0, .int .i64 0, .int .i64 0] 71)) (.int .i64 0) (.int .i64 0) (.int .i64 0) 49).below (show Below _ _ ((((w.alloc (.cells #[.int .i64 l, .int .i64 m, .int .i64 t] 71)).alloc (.cells #[.int .i64 0, .int .i64 0, .int .i64 0] 71)).alloc (.cells #[.int .i64 0, .int .i64 0, .int .i64 0] 49)).alloc (.cells #[.int .i64 l, .int .i64 m, .int .i64 t] 71)) from by go_grown))
    have H0 := Lib.hid (show Below w.heap.size w ((((w.alloc (.cells #[.int .i64 l, .int .i64 m, .int .i64 t] 71)).alloc (.cells #[.int .i64 0, .int .i64 0, .int .i64 0] 71)).alloc (.cells #[.int .i64 0, .int .i64 0, .int .i64 0] 49)).alloc (.cells #[.int .i64 l, .int .i64 m, .int .i64 t] 71)) from by go_grown)
    simp only [size_alloc] at BR BF
    generalize (((w.alloc (.cells #[.int .i64 l, .int .i64 m, .int .i64 t] 71)).alloc (.cells #[.int .i64 0, .int .i64 0, .int .i64 0] 71)).alloc (.cells #[.int .i64 0, .int .i64 0, .int .i64 0] 49)).alloc (.cells #[.int .i64 l, .int .i64 m, .int .i64 t] 71) = w4 at *
    refine (rread_any 70 127 _ _ _ L _ HL.out HC.out (H.out.below H0.out)).mono ?_
    rw [HG.out, got_v]
    rintro _ w5 ⟨rfl, hb⟩
    have BW5 := Lib.hid (BW.out.below hb)
    have BR5 := Lib.hid (BR.out.below hb)
    have BF5 := Lib.hid (BF.out.below hb)
    have H5 := Lib.hid (H0.out.trans (hb.mono H0.out.size))
    clear hb BW BR BF H0 HR
    obtain ⟨x0, x1, x2, x3, x4, x5, x6⟩ := BW5.out
    obtain ⟨y0, y1, y2, y3, y4, y5, y6⟩ := BR5.out
    obtain ⟨z0, z1, z2, z3, z4, z5, z6⟩ := BF5.out
    generalize hbf : w.heap.size + 1 + 1 = bf at z0 z1 z2 z3 z4 z5 z6 ⊢
    generalize hbr : w.heap.size + 1 = br at y0 y1 y2 y3 y4 y5 y6 ⊢
    generalize hbw : w.heap.size = bw at x0 x1 x2 x3 x4 x5 x6 ⊢
    have n1 : bw ≠ br := by omega
    have n2 : bw ≠ bf := by omega
    have n3 : br ≠ bf := by omega
    have n4 : bw ≠ w5.heap.size := by omega
    have n5 : br ≠ w5.heap.size := by omega
    have n6 : bf ≠ w5.heap.size := by omega
    have HBL := Lib.hid (show w.heap.size ≤ bw ∧ w.heap.size ≤ br ∧ w.heap.size ≤ bf by omega)
    rw [hbw] at BW5
    rw [hbr] at BR5
    rw [hbf] at BF5
    clear hbf hbr hbw
    by_cases he : e = 0
    · subst he
      obtain ⟨q1, q2, q3, q4, q5, q6⟩ := RO.out rfl
      clear RO
      by_cases ht : t < 0
      · have e1 : (t == -1) = true := beq_iff_eq.2 (by omega)
        have e2 : decide (0 ≤ t) = false := decide_eq_false (by omega)
        have CT := Lib.hid (show T.val = _ by rw [CG.out, if_pos ⟨rfl, by simp [newerB, ht]⟩, took_val])
        go_wp2_with fail
        go_loop [11, 12] (fun c i => ∃ k : Nat, 1 ≤ k ∧ k ≤ 128 ∧ i = .int .i64 k ∧ c = .bool true) (fun _ i => 128 - (intOf i).toNat)
        case atStart => exact ⟨1, by omega, by omega, rfl, rfl⟩
        case round =>
          obtain ⟨k, hk1, hk, rfl, rfl⟩ := hrel
          by_cases hlt : k < 128
          · have d1 : decide ((k : Int) ≤ 127) = true := decide_eq_true (by omega)
            go_wp2
            go_round
            case rel => exact ⟨k + 1, by omega, by omega, by go_num, rfl⟩
            case measure => simp [intOf]; omega
          · have d1 : decide ((k : Int) ≤ 127) = false := decide_eq_false (by omega)
            go_wp2_with fail
            have W7 := Lib.hid (show Below w.heap.size w ((((((w5.setCell ⟨br, 0, none⟩ (.int .i64 (l))).setCell ⟨br, 1, none⟩ (.int .i64 (0))).setCell ⟨br, 2, none⟩ (.int .i64 (s))).setCell ⟨bf, 0, none⟩ (.int .i64 (s))).setCell ⟨bf, 1, none⟩ (.int .i64 (d))).setCell ⟨bf, 2, none⟩ (.int .i64 (p))) from by
              have hb6 := H5.out; have hs6 := hb6.size; obtain ⟨g1, g2, g3⟩ := HBL.out; go_grown)
            have BR7 := Lib.hid (show Box3 ((((((w5.setCell ⟨br, 0, none⟩ (.int .i64 (l))).setCell ⟨br, 1, none⟩ (.int .i64 (0))).setCell ⟨br, 2, none⟩ (.int .i64 (s))).setCell ⟨bf, 0, none⟩ (.int .i64 (s))).setCell ⟨bf, 1, none⟩ (.int .i64 (d))).setCell ⟨bf, 2, none⟩ (.int .i64 (p))) br _ _ _ from (BR5.out.put (.int .i64 (l)) (.int .i64 (0)) (.int .i64 (s))).put_far n3.symm (.int .i64 (s)) (.int .i64 (d)) (.int .i64 (p)))
            have BF7 := Lib.hid (show Box3 ((((((w5.setCell ⟨br, 0, none⟩ (.int .i64 (l))).setCell ⟨br, 1, none⟩ (.int .i64 (0))).setCell ⟨br, 2, none⟩ (.int .i64 (s))).setCell ⟨bf, 0, none⟩ (.int .i64 (s))).setCell ⟨bf, 1, none⟩ (.int .i64 (d))).setCell ⟨bf, 2, none⟩ (.int .i64 (p))) bf _ _ _ from (BF5.out.put_far n3 (.int .i64 (l)) (.int .i64 (0)) (.int .i64 (s))).put (.int .i64 (s)) (.int .i64 (d)) (.int .i64 (p)))
            clear x0 x1 x2 x3 x4 x5 x6 y0 y1 y2 y3 y4 y5 y6 z0 z1 z2 z3 z4 z5 z6
            generalize (((((w5.setCell ⟨br, 0, none⟩ (.int .i64 (l))).setCell ⟨br, 1, none⟩ (.int .i64 (0))).setCell ⟨br, 2, none⟩ (.int .i64 (s))).setCell ⟨bf, 0, none⟩ (.int .i64 (s))).setCell ⟨bf, 1, none⟩ (.int .i64 (d))).setCell ⟨bf, 2, none⟩ (.int .i64 (p)) = w7 at *
            obtain ⟨y0, y1, y2, y3, y4, y5, y6⟩ := BR7.out
            obtain ⟨z0, z1, z2, z3, z4, z5, z6⟩ := BF7.out
            refine bodyPost_ret (v := .tuple #[.agg #[.int .i64 (l), .int .i64 (0), .int .i64 (s)], .agg #[.int .i64 (s), .int .i64 (d), .int .i64 (p)], .bool true]) (by simp [results, Try.results54, go_sem, y1, y2, y3, z1, z2, z3]) rfl ⟨by rw [CT.out], W7.out⟩
      · have e1 : (t == -1) = false := beq_eq_false_iff_ne.2 (by omega)
        have e2 : decide (0 ≤ t) = true := decide_eq_true (by omega)
        have HD := Lib.hid (show newerB s t = (decide (1 ≤ (s - t) % 256) && decide ((s - t) % 256 ≤ 127)) by simp [newerB, decide_eq_false ht])
        have HIT := Lib.hid (fun d hd0 hd1 => hit_iff (s := s) (t := t) (d := d) q1 q2 hd0 hd1)
        have hD : 0 ≤ (s - t) % 256 := by omega
        go_wp2_with fail
        go_loop [11, 12] (fun c i => ∃ k : Nat, 1 ≤ k ∧ k ≤ 128 ∧ i = .int .i64 k ∧ c = .bool (decide (1 ≤ (s - t) % 256) && decide ((s - t) % 256 < k))) (fun _ i => 128 - (intOf i).toNat)
        case atStart => exact ⟨1, by omega, by omega, rfl, congrArg Value.bool (by rw [Bool.eq_iff_iff]; simp)⟩
        case round =>
          obtain ⟨k, hk1, hk, rfl, rfl⟩ := hrel
          have HK := Lib.hid (HIT.out k (by omega))
          clear HIT
          generalize (s - t) % 256 = D at *
          by_cases hlt : k < 128
          · have d1 : decide ((k : Int) ≤ 127) = true := decide_eq_true (by omega)
            by_cases hh : D = k
            · have h1 : ((t + k) % 256 == s) = true := beq_iff_eq.2 ((HK.out (by omega)).2 hh)
              have RV := Lib.hid (show true = (decide (1 ≤ D) && decide (D < (k + 1 : Nat))) by simp; omega)
              clear hh
              generalize (decide (1 ≤ D) && decide (D < (k : Int))) = u
              go_wp2
              go_round
              case rel => exact ⟨k + 1, by omega, by omega, by go_num, congrArg Value.bool RV.out⟩
              case measure => simp [intOf]; omega
            · have h1 : ((t + k) % 256 == s) = false := beq_eq_false_iff_ne.2 (fun h => hh ((HK.out (by omega)).1 h))
              have RV := Lib.hid (show (decide (1 ≤ D) && decide (D < (k : Int))) = (decide (1 ≤ D) && decide (D < (k + 1 : Nat))) by
                rw [Bool.eq_iff_iff]; simp; omega)
              clear hh
              generalize (decide (1 ≤ D) && decide (D < (k : Int))) = u at *
              go_wp2
              go_round
              case rel => exact ⟨k + 1, by omega, by omega, by go_num, congrArg Value.bool RV.out⟩
              case measure => simp [intOf]; omega
          · obtain rfl : k = 128 := by omega
            have d1 : decide (((128 : Nat) : Int) ≤ 127) = false := by decide
            have HU := Lib.hid (show newerB s t = (decide (1 ≤ D) && decide (D < (128 : Nat))) by rw [HD.out, Bool.eq_iff_iff]; simp; omega)
            clear HD
            generalize (decide (1 ≤ D) && decide (D < ((128 : Nat) : Int))) = u at *
            cases u with
            | true =>
              have CT := Lib.hid (show T.val = _ by rw [CG.out, if_pos ⟨trivial, HU.out⟩, took_val])
              go_wp2_with fail
              have W7 := Lib.hid (show Below w.heap.size w ((((((w5.setCell ⟨br, 0, none⟩ (.int .i64 (l))).setCell ⟨br, 1, none⟩ (.int .i64 (0))).setCell ⟨br, 2, none⟩ (.int .i64 (s))).setCell ⟨bf, 0, none⟩ (.int .i64 (s))).setCell ⟨bf, 1, none⟩ (.int .i64 (d))).setCell ⟨bf, 2, none⟩ (.int .i64 (p))) from by
                have hb6 := H5.out; have hs6 := hb6.size; obtain ⟨g1, g2, g3⟩ := HBL.out; go_grown)
              have BR7 := Lib.hid (show Box3 ((((((w5.setCell ⟨br, 0, none⟩ (.int .i64 (l))).setCell ⟨br, 1, none⟩ (.int .i64 (0))).setCell ⟨br, 2, none⟩ (.int .i64 (s))).setCell ⟨bf, 0, none⟩ (.int .i64 (s))).setCell ⟨bf, 1, none⟩ (.int .i64 (d))).setCell ⟨bf, 2, none⟩ (.int .i64 (p))) br _ _ _ from (BR5.out.put (.int .i64 (l)) (.int .i64 (0)) (.int .i64 (s))).put_far n3.symm (.int .i64 (s)) (.int .i64 (d)) (.int .i64 (p)))
              have BF7 := Lib.hid (show Box3 ((((((w5.setCell ⟨br, 0, none⟩ (.int .i64 (l))).setCell ⟨br, 1, none⟩ (.int .i64 (0))).setCell ⟨br, 2, none⟩ (.int .i64 (s))).setCell ⟨bf, 0, none⟩ (.int .i64 (s))).setCell ⟨bf, 1, none⟩ (.int .i64 (d))).setCell ⟨bf, 2, none⟩ (.int .i64 (p))) bf _ _ _ from (BF5.out.put_far n3 (.int .i64 (l)) (.int .i64 (0)) (.int .i64 (s))).put (.int .i64 (s)) (.int .i64 (d)) (.int .i64 (p)))
              clear x0 x1 x2 x3 x4 x5 x6 y0 y1 y2 y3 y4 y5 y6 z0 z1 z2 z3 z4 z5 z6
              generalize (((((w5.setCell ⟨br, 0, none⟩ (.int .i64 (l))).setCell ⟨br, 1, none⟩ (.int .i64 (0))).setCell ⟨br, 2, none⟩ (.int .i64 (s))).setCell ⟨bf, 0, none⟩ (.int .i64 (s))).setCell ⟨bf, 1, none⟩ (.int .i64 (d))).setCell ⟨bf, 2, none⟩ (.int .i64 (p)) = w7 at *
              obtain ⟨y0, y1, y2, y3, y4, y5, y6⟩ := BR7.out
              obtain ⟨z0, z1, z2, z3, z4, z5, z6⟩ := BF7.out
              refine bodyPost_ret (v := .tuple #[.agg #[.int .i64 (l), .int .i64 (0), .int .i64 (s)], .agg #[.int .i64 (s), .int .i64 (d), .int .i64 (p)], .bool true]) (by simp [results, Try.results54, go_sem, y1, y2, y3, z1, z2, z3]) rfl ⟨by rw [CT.out], W7.out⟩
            | false =>
              by_cases hm : m < l
              · have CT := Lib.hid (show T.val = _ by rw [CG.out, if_neg (by intro h; rw [HU.out] at h; simp at h), if_pos hm, took_val])
                go_upto_region 14 with (fail)
                have W6 := Lib.hid (H5.out.setCell (p := ⟨bw, 1, none⟩) HBL.out.1 (.int .i64 (m + 1)))
                have BW6 := Lib.hid (BW5.out.set1 (.int .i64 (m + 1)))
                have BR6 := Lib.hid (BR5.out.far1 n1 1 (.int .i64 (m + 1)))
                have BF6 := Lib.hid (BF5.out.far1 n2 1 (.int .i64 (m + 1)))
                clear x0 x1 x2 x3 x4 x5 x6 y0 y1 y2 y3 y4 y5 y6 z0 z1 z2 z3 z4 z5 z6
                generalize w5.setCell ⟨bw, 1, none⟩ (.int .i64 (m + 1)) = w6 at *
                obtain ⟨x0, x1, x2, x3, x4, x5, x6⟩ := BW6.out
                obtain ⟨y0, y1, y2, y3, y4, y5, y6⟩ := BR6.out
                obtain ⟨z0, z1, z2, z3, z4, z5, z6⟩ := BF6.out
                go_wp2_with fail
                have W7 := Lib.hid (show Below w.heap.size w ((((((w6.setCell ⟨br, 0, none⟩ (.int .i64 (l))).setCell ⟨br, 1, none⟩ (.int .i64 (m + 1))).setCell ⟨br, 2, none⟩ (.int .i64 (t))).setCell ⟨bf, 0, none⟩ (.int .i64 (0))).setCell ⟨bf, 1, none⟩ (.int .i64 (0))).setCell ⟨bf, 2, none⟩ (.int .i64 (0))) from by
                  have hb6 := W6.out; have hs6 := hb6.size; obtain ⟨g1, g2, g3⟩ := HBL.out; go_grown)
                have BR7 := Lib.hid (show Box3 ((((((w6.setCell ⟨br, 0, none⟩ (.int .i64 (l))).setCell ⟨br, 1, none⟩ (.int .i64 (m + 1))).setCell ⟨br, 2, none⟩ (.int .i64 (t))).setCell ⟨bf, 0, none⟩ (.int .i64 (0))).setCell ⟨bf, 1, none⟩ (.int .i64 (0))).setCell ⟨bf, 2, none⟩ (.int .i64 (0))) br _ _ _ from (BR6.out.put (.int .i64 (l)) (.int .i64 (m + 1)) (.int .i64 (t))).put_far n3.symm (.int .i64 (0)) (.int .i64 (0)) (.int .i64 (0)))
                have BF7 := Lib.hid (show Box3 ((((((w6.setCell ⟨br, 0, none⟩ (.int .i64 (l))).setCell ⟨br, 1, none⟩ (.int .i64 (m + 1))).setCell ⟨br, 2, none⟩ (.int .i64 (t))).setCell ⟨bf, 0, none⟩ (.int .i64 (0))).setCell ⟨bf, 1, none⟩ (.int .i64 (0))).setCell ⟨bf, 2, none⟩ (.int .i64 (0))) bf _ _ _ from (BF6.out.put_far n3 (.int .i64 (l)) (.int .i64 (m + 1)) (.int .i64 (t))).put (.int .i64 (0)) (.int .i64 (0)) (.int .i64 (0)))
                clear x0 x1 x2 x3 x4 x5 x6 y0 y1 y2 y3 y4 y5 y6 z0 z1 z2 z3 z4 z5 z6
                generalize (((((w6.setCell ⟨br, 0, none⟩ (.int .i64 (l))).setCell ⟨br, 1, none⟩ (.int .i64 (m + 1))).setCell ⟨br, 2, none⟩ (.int .i64 (t))).setCell ⟨bf, 0, none⟩ (.int .i64 (0))).setCell ⟨bf, 1, none⟩ (.int .i64 (0))).setCell ⟨bf, 2, none⟩ (.int .i64 (0)) = w7 at *
                obtain ⟨y0, y1, y2, y3, y4, y5, y6⟩ := BR7.out
                obtain ⟨z0, z1, z2, z3, z4, z5, z6⟩ := BF7.out
                refine bodyPost_ret (v := .tuple #[.agg #[.int .i64 (l), .int .i64 (m + 1), .int .i64 (t)], .agg #[.int .i64 (0), .int .i64 (0), .int .i64 (0)], .bool false]) (by simp [results, Try.results54, go_sem, y1, y2, y3, z1, z2, z3]) rfl ⟨by rw [CT.out], W7.out⟩
              · have CT := Lib.hid (show T.val = _ by rw [CG.out, if_neg (by intro h; rw [HU.out] at h; simp at h), if_neg hm, took_val])
                obtain rfl : m = l := by omega
                have W6 := H5
                have BR6 := BR5
                have BF6 := BF5
                obtain ⟨w6, hw6⟩ : ∃ w6, w6 = w5 := ⟨_, rfl⟩
                subst hw6
                go_wp2_with fail
                have W7 := Lib.hid (show Below w.heap.size w ((((((w6.setCell ⟨br, 0, none⟩ (.int .i64 (m))).setCell ⟨br, 1, none⟩ (.int .i64 (m))).setCell ⟨br, 2, none⟩ (.int .i64 (t))).setCell ⟨bf, 0, none⟩ (.int .i64 (0))).setCell ⟨bf, 1, none⟩ (.int .i64 (0))).setCell ⟨bf, 2, none⟩ (.int .i64 (0))) from by
                  have hb6 := W6.out; have hs6 := hb6.size; obtain ⟨g1, g2, g3⟩ := HBL.out; go_grown)
                have BR7 := Lib.hid (show Box3 ((((((w6.setCell ⟨br, 0, none⟩ (.int .i64 (m))).setCell ⟨br, 1, none⟩ (.int .i64 (m))).setCell ⟨br, 2, none⟩ (.int .i64 (t))).setCell ⟨bf, 0, none⟩ (.int .i64 (0))).setCell ⟨bf, 1, none⟩ (.int .i64 (0))).setCell ⟨bf, 2, none⟩ (.int .i64 (0))) br _ _ _ from (BR6.out.put (.int .i64 (m)) (.int .i64 (m)) (.int .i64 (t))).put_far n3.symm (.int .i64 (0)) (.int .i64 (0)) (.int .i64 (0)))
                have BF7 := Lib.hid (show Box3 ((((((w6.setCell ⟨br, 0, none⟩ (.int .i64 (m))).setCell ⟨br, 1, none⟩ (.int .i64 (m))).setCell ⟨br, 2, none⟩ (.int .i64 (t))).setCell ⟨bf, 0, none⟩ (.int .i64 (0))).setCell ⟨bf, 1, none⟩ (.int .i64 (0))).setCell ⟨bf, 2, none⟩ (.int .i64 (0))) bf _ _ _ from (BF6.out.put_far n3 (.int .i64 (m)) (.int .i64 (m)) (.int .i64 (t))).put (.int .i64 (0)) (.int .i64 (0)) (.int .i64 (0)))
                clear x0 x1 x2 x3 x4 x5 x6 y0 y1 y2 y3 y4 y5 y6 z0 z1 z2 z3 z4 z5 z6
                generalize (((((w6.setCell ⟨br, 0, none⟩ (.int .i64 (m))).setCell ⟨br, 1, none⟩ (.int .i64 (m))).setCell ⟨br, 2, none⟩ (.int .i64 (t))).setCell ⟨bf, 0, none⟩ (.int .i64 (0))).setCell ⟨bf, 1, none⟩ (.int .i64 (0))).setCell ⟨bf, 2, none⟩ (.int .i64 (0)) = w7 at *
                obtain ⟨y0, y1, y2, y3, y4, y5, y6⟩ := BR7.out
                obtain ⟨z0, z1, z2, z3, z4, z5, z6⟩ := BF7.out
                refine bodyPost_ret (v := .tuple #[.agg #[.int .i64 (m), .int .i64 (m), .int .i64 (t)], .agg #[.int .i64 (0), .int .i64 (0), .int .i64 (0)], .bool false]) (by simp [results, Try.results54, go_sem, y1, y2, y3, z1, z2, z3]) rfl ⟨by rw [CT.out], W7.out⟩
    · have he1 : (e == 0) = false := beq_eq_false_iff_ne.2 he
      have CE := Lib.hid he
      clear he
      go_wp2_with fail
      go_loop [11, 12] (fun c i => ∃ k : Nat, 1 ≤ k ∧ k ≤ 128 ∧ i = .int .i64 k ∧ c = .bool false) (fun _ i => 128 - (intOf i).toNat)
      case atStart => exact ⟨1, by omega, by omega, rfl, rfl⟩
      case round =>
        obtain ⟨k, hk1, hk, rfl, rfl⟩ := hrel
        by_cases hlt : k < 128
        · have d1 : decide ((k : Int) ≤ 127) = true := decide_eq_true (by omega)
          go_wp2
          go_round
          case rel => exact ⟨k + 1, by omega, by omega, by go_num, rfl⟩
          case measure => simp [intOf]; omega
        · have d1 : decide ((k : Int) ≤ 127) = false := decide_eq_false (by omega)
          by_cases hm : m < l
          · have CT := Lib.hid (show T.val = _ by rw [CG.out, if_neg (by intro h; exact CE.out h.1), if_pos hm, took_val])
            go_upto_region 14 with (fail)
            have W6 := Lib.hid (H5.out.setCell (p := ⟨bw, 1, none⟩) HBL.out.1 (.int .i64 (m + 1)))
            have BW6 := Lib.hid (BW5.out.set1 (.int .i64 (m + 1)))
            have BR6 := Lib.hid (BR5.out.far1 n1 1 (.int .i64 (m + 1)))
            have BF6 := Lib.hid (BF5.out.far1 n2 1 (.int .i64 (m + 1)))
            clear x0 x1 x2 x3 x4 x5 x6 y0 y1 y2 y3 y4 y5 y6 z0 z1 z2 z3 z4 z5 z6
            generalize w5.setCell ⟨bw, 1, none⟩ (.int .i64 (m + 1)) = w6 at *
            obtain ⟨x0, x1, x2, x3, x4, x5, x6⟩ := BW6.out
            obtain ⟨y0, y1, y2, y3, y4, y5, y6⟩ := BR6.out
            obtain ⟨z0, z1, z2, z3, z4, z5, z6⟩ := BF6.out
            go_wp2_with fail
            have W7 := Lib.hid (show Below w.heap.size w ((((((w6.setCell ⟨br, 0, none⟩ (.int .i64 (l))).setCell ⟨br, 1, none⟩ (.int .i64 (m + 1))).setCell ⟨br, 2, none⟩ (.int .i64 (t))).setCell ⟨bf, 0, none⟩ (.int .i64 (0))).setCell ⟨bf, 1, none⟩ (.int .i64 (0))).setCell ⟨bf, 2, none⟩ (.int .i64 (0))) from by
              have hb6 := W6.out; have hs6 := hb6.size; obtain ⟨g1, g2, g3⟩ := HBL.out; go_grown)
            have BR7 := Lib.hid (show Box3 ((((((w6.setCell ⟨br, 0, none⟩ (.int .i64 (l))).setCell ⟨br, 1, none⟩ (.int .i64 (m + 1))).setCell ⟨br, 2, none⟩ (.int .i64 (t))).setCell ⟨bf, 0, none⟩ (.int .i64 (0))).setCell ⟨bf, 1, none⟩ (.int .i64 (0))).setCell ⟨bf, 2, none⟩ (.int .i64 (0))) br _ _ _ from (BR6.out.put (.int .i64 (l)) (.int .i64 (m + 1)) (.int .i64 (t))).put_far n3.symm (.int .i64 (0)) (.int .i64 (0)) (.int .i64 (0)))
            have BF7 := Lib.hid (show Box3 ((((((w6.setCell ⟨br, 0, none⟩ (.int .i64 (l))).setCell ⟨br, 1, none⟩ (.int .i64 (m + 1))).setCell ⟨br, 2, none⟩ (.int .i64 (t))).setCell ⟨bf, 0, none⟩ (.int .i64 (0))).setCell ⟨bf, 1, none⟩ (.int .i64 (0))).setCell ⟨bf, 2, none⟩ (.int .i64 (0))) bf _ _ _ from (BF6.out.put_far n3 (.int .i64 (l)) (.int .i64 (m + 1)) (.int .i64 (t))).put (.int .i64 (0)) (.int .i64 (0)) (.int .i64 (0)))
            clear x0 x1 x2 x3 x4 x5 x6 y0 y1 y2 y3 y4 y5 y6 z0 z1 z2 z3 z4 z5 z6
            generalize (((((w6.setCell ⟨br, 0, none⟩ (.int .i64 (l))).setCell ⟨br, 1, none⟩ (.int .i64 (m + 1))).setCell ⟨br, 2, none⟩ (.int .i64 (t))).setCell ⟨bf, 0, none⟩ (.int .i64 (0))).setCell ⟨bf, 1, none⟩ (.int .i64 (0))).setCell ⟨bf, 2, none⟩ (.int .i64 (0)) = w7 at *
            obtain ⟨y0, y1, y2, y3, y4, y5, y6⟩ := BR7.out
            obtain ⟨z0, z1, z2, z3, z4, z5, z6⟩ := BF7.out
            refine bodyPost_ret (v := .tuple #[.agg #[.int .i64 (l), .int .i64 (m + 1), .int .i64 (t)], .agg #[.int .i64 (0), .int .i64 (0), .int .i64 (0)], .bool false]) (by simp [results, Try.results54, go_sem, y1, y2, y3, z1, z2, z3]) rfl ⟨by rw [CT.out], W7.out⟩
          · have CT := Lib.hid (show T.val = _ by rw [CG.out, if_neg (by intro h; exact CE.out h.1), if_neg hm, took_val])
            obtain rfl : m = l := by omega
            have W6 := H5
            have BR6 := BR5
            have BF6 := BF5
            obtain ⟨w6, hw6⟩ : ∃ w6, w6 = w5 := ⟨_, rfl⟩
            subst hw6
            go_wp2_with fail
            have W7 := Lib.hid (show Below w.heap.size w ((((((w6.setCell ⟨br, 0, none⟩ (.int .i64 (m))).setCell ⟨br, 1, none⟩ (.int .i64 (m))).setCell ⟨br, 2, none⟩ (.int .i64 (t))).setCell ⟨bf, 0, none⟩ (.int .i64 (0))).setCell ⟨bf, 1, none⟩ (.int .i64 (0))).setCell ⟨bf, 2, none⟩ (.int .i64 (0))) from by
              have hb6 := W6.out; have hs6 := hb6.size; obtain ⟨g1, g2, g3⟩ := HBL.out; go_grown)
            have BR7 := Lib.hid (show Box3 ((((((w6.setCell ⟨br, 0, none⟩ (.int .i64 (m))).setCell ⟨br, 1, none⟩ (.int .i64 (m))).setCell ⟨br, 2, none⟩ (.int .i64 (t))).setCell ⟨bf, 0, none⟩ (.int .i64 (0))).setCell ⟨bf, 1, none⟩ (.int .i64 (0))).setCell ⟨bf, 2, none⟩ (.int .i64 (0))) br _ _ _ from (BR6.out.put (.int .i64 (m)) (.int .i64 (m)) (.int .i64 (t))).put_far n3.symm (.int .i64 (0)) (.int .i64 (0)) (.int .i64 (0)))
            have BF7 := Lib.hid (show Box3 ((((((w6.setCell ⟨br, 0, none⟩ (.int .i64 (m))).setCell ⟨br, 1, none⟩ (.int .i64 (m))).setCell ⟨br, 2, none⟩ (.int .i64 (t))).setCell ⟨bf, 0, none⟩ (.int .i64 (0))).setCell ⟨bf, 1, none⟩ (.int .i64 (0))).setCell ⟨bf, 2, none⟩ (.int .i64 (0))) bf _ _ _ from (BF6.out.put_far n3 (.int .i64 (m)) (.int .i64 (m)) (.int .i64 (t))).put (.int .i64 (0)) (.int .i64 (0)) (.int .i64 (0)))
            clear x0 x1 x2 x3 x4 x5 x6 y0 y1 y2 y3 y4 y5 y6 z0 z1 z2 z3 z4 z5 z6
            generalize (((((w6.setCell ⟨br, 0, none⟩ (.int .i64 (m))).setCell ⟨br, 1, none⟩ (.int .i64 (m))).setCell ⟨br, 2, none⟩ (.int .i64 (t))).setCell ⟨bf, 0, none⟩ (.int .i64 (0))).setCell ⟨bf, 1, none⟩ (.int .i64 (0))).setCell ⟨bf, 2, none⟩ (.int .i64 (0)) = w7 at *
            obtain ⟨y0, y1, y2, y3, y4, y5, y6⟩ := BR7.out
            obtain ⟨z0, z1, z2, z3, z4, z5, z6⟩ := BF7.out
            refine bodyPost_ret (v := .tuple #[.agg #[.int .i64 (m), .int .i64 (m), .int .i64 (t)], .agg #[.int .i64 (0), .int .i64 (0), .int .i64 (0)], .bool false]) (by simp [results, Try.results54, go_sem, y1, y2, y3, z1, z2, z3]) rfl ⟨by rw [CT.out], W7.out⟩
end Go.Proofs.Ytnabpdengfmeaaa
