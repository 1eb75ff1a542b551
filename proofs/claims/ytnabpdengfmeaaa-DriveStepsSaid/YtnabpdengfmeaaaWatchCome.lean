/- Layer 4: the contract of watch.Come. -/
import Derived.Test.YtnabpdengfmeaaaWatch
import Derived.Test.YtnabpdengfmeaaaBox
import Derived.Deep.DeepCutAuto
namespace Go.Proofs.Ytnabpdengfmeaaa
open Go.RowKit

set_option maxHeartbeats 8000000 in
set_option maxRecDepth 100000 in
theorem wcome_any (l m t : Int) (a : Option Addr) (len cap : Nat) (L : List Int) (w : World) (hl : L.length = len) (hc : len ≤ cap) (h : Reads w a L) :
    Calls Try.prog 53 #[.agg #[.int .i64 l, .int .i64 m, .int .i64 t], .slice a len cap] w fun e w' => e = .returned (comeG ⟨l, m, t⟩ (Fr.readN 70 127 L)).val ∧ Below w.heap.size w w' := by
  have HL := Lib.hid hl; clear hl
  have H := Lib.hid h; clear h
  cases hr : wrightB ⟨l, m, t⟩ with
  | false =>
    rw [show comeG ⟨l, m, t⟩ (Fr.readN 70 127 L) = ⟨⟨0, 0, 0⟩, 0, 0, 0, false⟩ by simp [comeG, hr], took_val]
    have HR := Lib.hid hr
    clear hr
    go_enter Try.func53, Try.ntmps53
    go_wp2_with (go_at_call 55; refine (wright_any _ _ _ _).mono ?_; rw [HR.out]; rintro e w' ⟨rfl, rfl⟩)
    go_returns
    exact ⟨rfl, by go_grown⟩
  | true =>
    obtain ⟨h1, h2, h3, h4, h5, h6⟩ := (wright_iff l m t).1 hr
    have RO := Lib.hid (readN_ok (most := 127) 70 (L := L) H.out.2.1)
    have CG := Lib.hid (show comeG ⟨l, m, t⟩ (Fr.readN 70 127 L) = if (Fr.readN 70 127 L).err = 0 ∧ newerB (Fr.readN 70 127 L).seq t = true then ⟨⟨l, 0, (Fr.readN 70 127 L).seq⟩, (Fr.readN 70 127 L).seq, (Fr.readN 70 127 L).word, (Fr.readN 70 127 L).place, true⟩ else ⟨⟨l, if m < l then m + 1 else l, t⟩, 0, 0, 0, false⟩ by
      unfold comeG; rw [if_pos hr])
    have HR := Lib.hid hr
    clear hr
    generalize hg : Fr.readN 70 127 L = G at *
    have HG := Lib.hid hg
    clear hg
    obtain ⟨s, d, p, e⟩ := G
    simp only at RO
    generalize comeG ⟨l, m, t⟩ ⟨s, d, p, e⟩ = T at *
    have HC := Lib.hid hc
    clear hc
    go_enter Try.func53, Try.ntmps53
    go_wp2_with (go_at_call 55; refine (wright_any _ _ _ _).mono ?_; rw [HR.out]; rintro e w' ⟨rfl, rfl⟩)
    have BW := Lib.hid ((Box3.new w (.int .i64 l) (.int .i64 m) (.int .i64 t) 71).below (show Below _ _ ((((w.alloc (.cells #[.int .i64 l, .int .i64 m, .int .i64 t] 71)).alloc (.cells #[.int .i64 0, .int .i64 0, .int .i64 0] 71)).alloc (.cells #[.int .i64 0, .int .i64 0, .int .i64 0] 49)).alloc (.cells #[.int .i64 l, .int .i64 m, .int .i64 t] 71)) from by go_grown))
    have BR := Lib.hid ((Box3.new (w.alloc (.cells #[.int .i64 l, .int .i64 m, .int .i64 t] 71)) (.int .i64 0) (.int .i64 0) (.int .i64 0) 71).below (show Below _ _ ((((w.alloc (.cells #[.int .i64 l, .int .i64 m, .int .i64 t] 71)).alloc (.cells #[.int .i64 0, .int .i64 0, .int .i64 0] 71)).alloc (.cells #[.int .i64 0, .int .i64 0, .int .i64 0] 49)).alloc (.cells #[.int .i64 l, .int .i64 m, .int .i64 t] 71)) from by go_grown))
    have BF := Lib.hid ((Box3.new ((w.alloc (.cells #[.int .i64 l, .int .i64 m, .int .i64 t] 71)).alloc (.cells #[.int .i64 0, .int .i64 0, .int .i64 0] 71)) (.int .i64 0) (.int .i64 0) (.int .i64 0) 49).below (show Below _ _ ((((w.alloc (.cells #[.int .i64 l, .int .i64 m, .int .i64 t] 71)).alloc (.cells #[.int .i64 0, .int .i64 0, .int .i64 0] 71)).alloc (.cells #[.int .i64 0, .int .i64 0, .int .i64 0] 49)).alloc (.cells #[.int .i64 l, .int .i64 m, .int .i64 t] 71)) from by go_grown))
    have H0 := Lib.hid (show Below w.heap.size w ((((w.alloc (.cells #[.int .i64 l, .int .i64 m, .int .i64 t] 71)).alloc (.cells #[.int .i64 0, .int .i64 0, .int .i64 0] 71)).alloc (.cells #[.int .i64 0, .int .i64 0, .int .i64 0] 49)).alloc (.cells #[.int .i64 l, .int .i64 m, .int .i64 t] 71)) from by go_grown)
    simp only [size_alloc] at BR BF
    generalize (((w.alloc (.cells #[.int .i64 l, .int .i64 m, .int .i64 t] 71)).alloc (.cells #[.int .i64 0, .int .i64 0, .int .i64 0] 71)).alloc (.cells #[.int .i64 0, .int .i64 0, .int .i64 0] 49)).alloc (.cells #[.int .i64 l, .int .i64 m, .int .i64 t] 71) = w4 at *
    refine (readFeed_any _ _ _ L _ HL.out HC.out (H.out.below H0.out)).mono ?_
    rw [HG.out, feed_v]
    rintro _ w5 ⟨rfl, hb⟩
    have BW5 := Lib.hid (BW.out.below hb)
    have BR5 := Lib.hid (BR.out.below hb)
    have BF5 := Lib.hid (BF.out.below hb)
    have H5 := Lib.hid (H0.out.trans (hb.mono H0.out.size))
    clear hb BW BR BF H0 HR
    obtain ⟨x0, x1, x2, x3, x4, x5, x6⟩ := BW5.out
    obtain ⟨y0, y1, y2, y3, y4, y5, y6⟩ := BR5.out
    obtain ⟨z0, z1, z2, z3, z4, z5, z6⟩ := BF5.out
    generalize hbf : w.heap.size + 1 + 1 = bf at z0 z1 z2 z3 z4 z5 z6 ⊢
    generalize hbr : w.heap.size + 1 = br at y0 y1 y2 y3 y4 y5 y6 ⊢
    generalize hbw : w.heap.size = bw at x0 x1 x2 x3 x4 x5 x6 ⊢
    have n1 : bw ≠ br := by omega
    have n2 : bw ≠ bf := by omega
    have n3 : br ≠ bf := by omega
    have n4 : bw ≠ w5.heap.size := by omega
    have n5 : br ≠ w5.heap.size := by omega
    have n6 : bf ≠ w5.heap.size := by omega
    have HBL := Lib.hid (show w.heap.size ≤ bw ∧ w.heap.size ≤ br ∧ w.heap.size ≤ bf by omega)
    clear hbf hbr hbw BW5 BR5 BF5
    by_cases he : e = 0
    · subst he
      obtain ⟨q1, q2, q3, q4, q5, q6⟩ := RO.out rfl
      have xs := Nat.lt_succ_of_lt x0
      cases hn : newerB s t with
      | true =>
        have CT := Lib.hid (show T.val = _ by rw [CG.out, if_pos ⟨rfl, hn⟩, took_val])
        have NQ := Lib.hid hn
        clear hn
        have BZ := Lib.hid (Box3.new w5 (.int .i64 s) (.int .i64 d) (.int .i64 p) 49)
        have BW0 := Lib.hid ((show Box3 w5 bw (.int .i64 l) (.int .i64 m) (.int .i64 t) from ⟨x0, x1, x2, x3, x4, x5, x6⟩).below ((Below.refl _ _).alloc (Nat.le_refl _) (.cells #[.int .i64 s, .int .i64 d, .int .i64 p] 49)))
        have BR0 := Lib.hid ((show Box3 w5 br (.int .i64 0) (.int .i64 0) (.int .i64 0) from ⟨y0, y1, y2, y3, y4, y5, y6⟩).below ((Below.refl _ _).alloc (Nat.le_refl _) (.cells #[.int .i64 s, .int .i64 d, .int .i64 p] 49)))
        have BF0 := Lib.hid ((show Box3 w5 bf (.int .i64 0) (.int .i64 0) (.int .i64 0) from ⟨z0, z1, z2, z3, z4, z5, z6⟩).below ((Below.refl _ _).alloc (Nat.le_refl _) (.cells #[.int .i64 s, .int .i64 d, .int .i64 p] 49)))
        have W0 := Lib.hid (H5.out.alloc H5.out.size (.cells #[.int .i64 s, .int .i64 d, .int .i64 p] 49))
        go_upto_region 7 with (go_at_call 71; refine (newer_any _ _ _ (by omega) (by omega) (by omega) (by omega)).mono ?_; rw [NQ.out]; rintro e w' ⟨rfl, rfl⟩)
        clear x0 x1 x2 x3 x4 x5 x6 y0 y1 y2 y3 y4 y5 y6 z0 z1 z2 z3 z4 z5 z6
        generalize w5.alloc (.cells #[.int .i64 s, .int .i64 d, .int .i64 p] 49) = w6 at *
        generalize w5.heap.size = bz at *
        obtain ⟨x0, x1, x2, x3, x4, x5, x6⟩ := BW0.out
        obtain ⟨z0, z1, z2, z3, z4, z5, z6⟩ := BZ.out
        go_region
        clear x0 x1 x2 x3 x4 x5 x6 z0 z1 z2 z3 z4 z5 z6
        have W8 := Lib.hid (show Below w.heap.size w ((w6.setCell ⟨bw, 1, none⟩ (.int .i64 0)).setCell ⟨bw, 2, none⟩ (.int .i64 s)).drew from by
          have hb6 := W0.out; have hs6 := hb6.size; obtain ⟨g1, g2, g3⟩ := HBL.out; go_grown)
        have BW8 := Lib.hid (((BW0.out.set1 (.int .i64 0)).set2 (.int .i64 s)).drew)
        have BR8 := Lib.hid (((BR0.out.far1 n1 1 (.int .i64 0)).far1 n1 2 (.int .i64 s)).drew)
        have BF8 := Lib.hid (((BF0.out.far1 n2 1 (.int .i64 0)).far1 n2 2 (.int .i64 s)).drew)
        have BZ8 := Lib.hid (((BZ.out.far1 n4 1 (.int .i64 0)).far1 n4 2 (.int .i64 s)).drew)
        clear BW0 BR0 BF0 BZ W0
        generalize ((w6.setCell ⟨bw, 1, none⟩ (.int .i64 0)).setCell ⟨bw, 2, none⟩ (.int .i64 s)).drew = w8 at *
        obtain ⟨x0, x1, x2, x3, x4, x5, x6⟩ := BW8.out
        obtain ⟨z0, z1, z2, z3, z4, z5, z6⟩ := BZ8.out
        obtain ⟨y0, y1, y2, y3, y4, y5, y6⟩ := BR8.out
        obtain ⟨v0, v1, v2, v3, v4, v5, v6⟩ := BF8.out
        go_wp2_with fail
        go_region
        have W7 := Lib.hid (show Below w.heap.size w (((((((w8.setCell ⟨br, 0, none⟩ (.int .i64 (l))).setCell ⟨br, 1, none⟩ (.int .i64 (0))).setCell ⟨br, 2, none⟩ (.int .i64 (s))).setCell ⟨bf, 0, none⟩ (.int .i64 (s))).setCell ⟨bf, 1, none⟩ (.int .i64 (d))).setCell ⟨bf, 2, none⟩ (.int .i64 (p))).drew) from by
          have hb6 := W8.out; have hs6 := hb6.size; obtain ⟨g1, g2, g3⟩ := HBL.out; go_grown)
        have BR7 := Lib.hid (show Box3 (((((((w8.setCell ⟨br, 0, none⟩ (.int .i64 (l))).setCell ⟨br, 1, none⟩ (.int .i64 (0))).setCell ⟨br, 2, none⟩ (.int .i64 (s))).setCell ⟨bf, 0, none⟩ (.int .i64 (s))).setCell ⟨bf, 1, none⟩ (.int .i64 (d))).setCell ⟨bf, 2, none⟩ (.int .i64 (p))).drew) br _ _ _ from ((BR8.out.put (.int .i64 (l)) (.int .i64 (0)) (.int .i64 (s))).put_far n3.symm (.int .i64 (s)) (.int .i64 (d)) (.int .i64 (p))).drew)
        have BF7 := Lib.hid (show Box3 (((((((w8.setCell ⟨br, 0, none⟩ (.int .i64 (l))).setCell ⟨br, 1, none⟩ (.int .i64 (0))).setCell ⟨br, 2, none⟩ (.int .i64 (s))).setCell ⟨bf, 0, none⟩ (.int .i64 (s))).setCell ⟨bf, 1, none⟩ (.int .i64 (d))).setCell ⟨bf, 2, none⟩ (.int .i64 (p))).drew) bf _ _ _ from ((BF8.out.put_far n3 (.int .i64 (l)) (.int .i64 (0)) (.int .i64 (s))).put (.int .i64 (s)) (.int .i64 (d)) (.int .i64 (p))).drew)
        clear x0 x1 x2 x3 x4 x5 x6 y0 y1 y2 y3 y4 y5 y6 v0 v1 v2 v3 v4 v5 v6 z0 z1 z2 z3 z4 z5 z6
        generalize ((((((w8.setCell ⟨br, 0, none⟩ (.int .i64 (l))).setCell ⟨br, 1, none⟩ (.int .i64 (0))).setCell ⟨br, 2, none⟩ (.int .i64 (s))).setCell ⟨bf, 0, none⟩ (.int .i64 (s))).setCell ⟨bf, 1, none⟩ (.int .i64 (d))).setCell ⟨bf, 2, none⟩ (.int .i64 (p))).drew = w7 at *
        go_wp2_with fail
        obtain ⟨y0, y1, y2, y3, y4, y5, y6⟩ := BR7.out
        obtain ⟨z0, z1, z2, z3, z4, z5, z6⟩ := BF7.out
        refine bodyPost_ret (v := .tuple #[.agg #[.int .i64 (l), .int .i64 (0), .int .i64 (s)], .agg #[.int .i64 (s), .int .i64 (d), .int .i64 (p)], .bool true]) (by simp [results, Try.results53, go_sem, y1, y2, y3, z1, z2, z3]) rfl ⟨by rw [CT.out], W7.out⟩
      | false =>
        have NQ := Lib.hid hn
        by_cases hm : m < l
        · have CT := Lib.hid (show T.val = _ by rw [CG.out, if_neg (by intro h; rw [NQ.out] at h; simp at h), if_pos hm, took_val])
          clear hn
          go_upto_region 6 with (go_at_call 71; refine (newer_any _ _ _ (by omega) (by omega) (by omega) (by omega)).mono ?_; rw [NQ.out]; rintro e w' ⟨rfl, rfl⟩)
          have W6 := Lib.hid (show Below w.heap.size w ((w5.setCell ⟨bw, 1, none⟩ (.int .i64 (m + 1))).alloc (.cells #[.int .i64 s, .int .i64 d, .int .i64 p] 49)) from by
            have hb5 := H5.out; have hs5 := hb5.size; obtain ⟨g1, g2, g3⟩ := HBL.out; go_grown)
          have BW6 := Lib.hid (((show Box3 w5 bw (.int .i64 l) (.int .i64 m) (.int .i64 t) from ⟨x0, x1, x2, x3, x4, x5, x6⟩).set1 (.int .i64 (m + 1))).below ((Below.refl _ _).alloc (Nat.le_refl _) (.cells #[.int .i64 s, .int .i64 d, .int .i64 p] 49)))
          have BR6 := Lib.hid (((show Box3 w5 br (.int .i64 0) (.int .i64 0) (.int .i64 0) from ⟨y0, y1, y2, y3, y4, y5, y6⟩).far1 n1 1 (.int .i64 (m + 1))).below ((Below.refl _ _).alloc (Nat.le_refl _) (.cells #[.int .i64 s, .int .i64 d, .int .i64 p] 49)))
          have BF6 := Lib.hid (((show Box3 w5 bf (.int .i64 0) (.int .i64 0) (.int .i64 0) from ⟨z0, z1, z2, z3, z4, z5, z6⟩).far1 n2 1 (.int .i64 (m + 1))).below ((Below.refl _ _).alloc (Nat.le_refl _) (.cells #[.int .i64 s, .int .i64 d, .int .i64 p] 49)))
          clear x0 x1 x2 x3 x4 x5 x6 y0 y1 y2 y3 y4 y5 y6 z0 z1 z2 z3 z4 z5 z6
          generalize (w5.setCell ⟨bw, 1, none⟩ (.int .i64 (m + 1))).alloc (.cells #[.int .i64 s, .int .i64 d, .int .i64 p] 49) = w6 at *
          obtain ⟨x0, x1, x2, x3, x4, x5, x6⟩ := BW6.out
          obtain ⟨y0, y1, y2, y3, y4, y5, y6⟩ := BR6.out
          obtain ⟨z0, z1, z2, z3, z4, z5, z6⟩ := BF6.out
          go_wp2_with fail
          have W7 := Lib.hid (show Below w.heap.size w ((((((w6.setCell ⟨br, 0, none⟩ (.int .i64 (l))).setCell ⟨br, 1, none⟩ (.int .i64 (m + 1))).setCell ⟨br, 2, none⟩ (.int .i64 (t))).setCell ⟨bf, 0, none⟩ (.int .i64 (0))).setCell ⟨bf, 1, none⟩ (.int .i64 (0))).setCell ⟨bf, 2, none⟩ (.int .i64 (0))) from by
            have hb6 := W6.out; have hs6 := hb6.size; obtain ⟨g1, g2, g3⟩ := HBL.out; go_grown)
          have BR7 := Lib.hid (show Box3 ((((((w6.setCell ⟨br, 0, none⟩ (.int .i64 (l))).setCell ⟨br, 1, none⟩ (.int .i64 (m + 1))).setCell ⟨br, 2, none⟩ (.int .i64 (t))).setCell ⟨bf, 0, none⟩ (.int .i64 (0))).setCell ⟨bf, 1, none⟩ (.int .i64 (0))).setCell ⟨bf, 2, none⟩ (.int .i64 (0))) br _ _ _ from (BR6.out.put (.int .i64 (l)) (.int .i64 (m + 1)) (.int .i64 (t))).put_far n3.symm (.int .i64 (0)) (.int .i64 (0)) (.int .i64 (0)))
          have BF7 := Lib.hid (show Box3 ((((((w6.setCell ⟨br, 0, none⟩ (.int .i64 (l))).setCell ⟨br, 1, none⟩ (.int .i64 (m + 1))).setCell ⟨br, 2, none⟩ (.int .i64 (t))).setCell ⟨bf, 0, none⟩ (.int .i64 (0))).setCell ⟨bf, 1, none⟩ (.int .i64 (0))).setCell ⟨bf, 2, none⟩ (.int .i64 (0))) bf _ _ _ from (BF6.out.put_far n3 (.int .i64 (l)) (.int .i64 (m + 1)) (.int .i64 (t))).put (.int .i64 (0)) (.int .i64 (0)) (.int .i64 (0)))
          clear x0 x1 x2 x3 x4 x5 x6 y0 y1 y2 y3 y4 y5 y6 z0 z1 z2 z3 z4 z5 z6
          generalize (((((w6.setCell ⟨br, 0, none⟩ (.int .i64 (l))).setCell ⟨br, 1, none⟩ (.int .i64 (m + 1))).setCell ⟨br, 2, none⟩ (.int .i64 (t))).setCell ⟨bf, 0, none⟩ (.int .i64 (0))).setCell ⟨bf, 1, none⟩ (.int .i64 (0))).setCell ⟨bf, 2, none⟩ (.int .i64 (0)) = w7 at *
          obtain ⟨y0, y1, y2, y3, y4, y5, y6⟩ := BR7.out
          obtain ⟨z0, z1, z2, z3, z4, z5, z6⟩ := BF7.out
          refine bodyPost_ret (v := .tuple #[.agg #[.int .i64 (l), .int .i64 (m + 1), .int .i64 (t)], .agg #[.int .i64 (0), .int .i64 (0), .int .i64 (0)], .bool false]) (by simp [results, Try.results53, go_sem, y1, y2, y3, z1, z2, z3]) rfl ⟨by rw [CT.out], W7.out⟩
        · have CT := Lib.hid (show T.val = _ by rw [CG.out, if_neg (by intro h; rw [NQ.out] at h; simp at h), if_neg hm, took_val])
          obtain rfl : m = l := by omega
          clear hn
          go_upto_region 6 with (go_at_call 71; refine (newer_any _ _ _ (by omega) (by omega) (by omega) (by omega)).mono ?_; rw [NQ.out]; rintro e w' ⟨rfl, rfl⟩)
          have W6 := Lib.hid (show Below w.heap.size w ((w5.setCell ⟨bw, 1, none⟩ (.int .i64 (m))).alloc (.cells #[.int .i64 s, .int .i64 d, .int .i64 p] 49)) from by
            have hb5 := H5.out; have hs5 := hb5.size; obtain ⟨g1, g2, g3⟩ := HBL.out; go_grown)
          have BW6 := Lib.hid (((show Box3 w5 bw (.int .i64 m) (.int .i64 m) (.int .i64 t) from ⟨x0, x1, x2, x3, x4, x5, x6⟩).set1 (.int .i64 (m))).below ((Below.refl _ _).alloc (Nat.le_refl _) (.cells #[.int .i64 s, .int .i64 d, .int .i64 p] 49)))
          have BR6 := Lib.hid (((show Box3 w5 br (.int .i64 0) (.int .i64 0) (.int .i64 0) from ⟨y0, y1, y2, y3, y4, y5, y6⟩).far1 n1 1 (.int .i64 (m))).below ((Below.refl _ _).alloc (Nat.le_refl _) (.cells #[.int .i64 s, .int .i64 d, .int .i64 p] 49)))
          have BF6 := Lib.hid (((show Box3 w5 bf (.int .i64 0) (.int .i64 0) (.int .i64 0) from ⟨z0, z1, z2, z3, z4, z5, z6⟩).far1 n2 1 (.int .i64 (m))).below ((Below.refl _ _).alloc (Nat.le_refl _) (.cells #[.int .i64 s, .int .i64 d, .int .i64 p] 49)))
          clear x0 x1 x2 x3 x4 x5 x6 y0 y1 y2 y3 y4 y5 y6 z0 z1 z2 z3 z4 z5 z6
          generalize (w5.setCell ⟨bw, 1, none⟩ (.int .i64 (m))).alloc (.cells #[.int .i64 s, .int .i64 d, .int .i64 p] 49) = w6 at *
          obtain ⟨x0, x1, x2, x3, x4, x5, x6⟩ := BW6.out
          obtain ⟨y0, y1, y2, y3, y4, y5, y6⟩ := BR6.out
          obtain ⟨z0, z1, z2, z3, z4, z5, z6⟩ := BF6.out
          go_wp2_with fail
          have W7 := Lib.hid (show Below w.heap.size w ((((((w6.setCell ⟨br, 0, none⟩ (.int .i64 (m))).setCell ⟨br, 1, none⟩ (.int .i64 (m))).setCell ⟨br, 2, none⟩ (.int .i64 (t))).setCell ⟨bf, 0, none⟩ (.int .i64 (0))).setCell ⟨bf, 1, none⟩ (.int .i64 (0))).setCell ⟨bf, 2, none⟩ (.int .i64 (0))) from by
            have hb6 := W6.out; have hs6 := hb6.size; obtain ⟨g1, g2, g3⟩ := HBL.out; go_grown)
          have BR7 := Lib.hid (show Box3 ((((((w6.setCell ⟨br, 0, none⟩ (.int .i64 (m))).setCell ⟨br, 1, none⟩ (.int .i64 (m))).setCell ⟨br, 2, none⟩ (.int .i64 (t))).setCell ⟨bf, 0, none⟩ (.int .i64 (0))).setCell ⟨bf, 1, none⟩ (.int .i64 (0))).setCell ⟨bf, 2, none⟩ (.int .i64 (0))) br _ _ _ from (BR6.out.put (.int .i64 (m)) (.int .i64 (m)) (.int .i64 (t))).put_far n3.symm (.int .i64 (0)) (.int .i64 (0)) (.int .i64 (0)))
          have BF7 := Lib.hid (show Box3 ((((((w6.setCell ⟨br, 0, none⟩ (.int .i64 (m))).setCell ⟨br, 1, none⟩ (.int .i64 (m))).setCell ⟨br, 2, none⟩ (.int .i64 (t))).setCell ⟨bf, 0, none⟩ (.int .i64 (0))).setCell ⟨bf, 1, none⟩ (.int .i64 (0))).setCell ⟨bf, 2, none⟩ (.int .i64 (0))) bf _ _ _ from (BF6.out.put_far n3 (.int .i64 (m)) (.int .i64 (m)) (.int .i64 (t))).put (.int .i64 (0)) (.int .i64 (0)) (.int .i64 (0)))
          clear x0 x1 x2 x3 x4 x5 x6 y0 y1 y2 y3 y4 y5 y6 z0 z1 z2 z3 z4 z5 z6
          generalize (((((w6.setCell ⟨br, 0, none⟩ (.int .i64 (m))).setCell ⟨br, 1, none⟩ (.int .i64 (m))).setCell ⟨br, 2, none⟩ (.int .i64 (t))).setCell ⟨bf, 0, none⟩ (.int .i64 (0))).setCell ⟨bf, 1, none⟩ (.int .i64 (0))).setCell ⟨bf, 2, none⟩ (.int .i64 (0)) = w7 at *
          obtain ⟨y0, y1, y2, y3, y4, y5, y6⟩ := BR7.out
          obtain ⟨z0, z1, z2, z3, z4, z5, z6⟩ := BF7.out
          refine bodyPost_ret (v := .tuple #[.agg #[.int .i64 (m), .int .i64 (m), .int .i64 (t)], .agg #[.int .i64 (0), .int .i64 (0), .int .i64 (0)], .bool false]) (by simp [results, Try.results53, go_sem, y1, y2, y3, z1, z2, z3]) rfl ⟨by rw [CT.out], W7.out⟩
    · have he1 : (e != 0) = true := bne_iff_ne.2 he
      have CE := Lib.hid he
      clear he
      by_cases hm : m < l
      · have CT := Lib.hid (show T.val = _ by rw [CG.out, if_neg (by intro h; exact CE.out h.1), if_pos hm, took_val])
        go_upto_region 6 with (fail)
        have W6 := Lib.hid (show Below w.heap.size w ((w5.setCell ⟨bw, 1, none⟩ (.int .i64 (m + 1))).alloc (.cells #[.int .i64 s, .int .i64 d, .int .i64 p] 49)) from by
          have hb5 := H5.out; have hs5 := hb5.size; obtain ⟨g1, g2, g3⟩ := HBL.out; go_grown)
        have BW6 := Lib.hid (((show Box3 w5 bw (.int .i64 l) (.int .i64 m) (.int .i64 t) from ⟨x0, x1, x2, x3, x4, x5, x6⟩).set1 (.int .i64 (m + 1))).below ((Below.refl _ _).alloc (Nat.le_refl _) (.cells #[.int .i64 s, .int .i64 d, .int .i64 p] 49)))
        have BR6 := Lib.hid (((show Box3 w5 br (.int .i64 0) (.int .i64 0) (.int .i64 0) from ⟨y0, y1, y2, y3, y4, y5, y6⟩).far1 n1 1 (.int .i64 (m + 1))).below ((Below.refl _ _).alloc (Nat.le_refl _) (.cells #[.int .i64 s, .int .i64 d, .int .i64 p] 49)))
        have BF6 := Lib.hid (((show Box3 w5 bf (.int .i64 0) (.int .i64 0) (.int .i64 0) from ⟨z0, z1, z2, z3, z4, z5, z6⟩).far1 n2 1 (.int .i64 (m + 1))).below ((Below.refl _ _).alloc (Nat.le_refl _) (.cells #[.int .i64 s, .int .i64 d, .int .i64 p] 49)))
        clear x0 x1 x2 x3 x4 x5 x6 y0 y1 y2 y3 y4 y5 y6 z0 z1 z2 z3 z4 z5 z6
        generalize (w5.setCell ⟨bw, 1, none⟩ (.int .i64 (m + 1))).alloc (.cells #[.int .i64 s, .int .i64 d, .int .i64 p] 49) = w6 at *
        obtain ⟨x0, x1, x2, x3, x4, x5, x6⟩ := BW6.out
        obtain ⟨y0, y1, y2, y3, y4, y5, y6⟩ := BR6.out
        obtain ⟨z0, z1, z2, z3, z4, z5, z6⟩ := BF6.out
        go_wp2_with fail
        have W7 := Lib.hid (show Below w.heap.size w ((((((w6.setCell ⟨br, 0, none⟩ (.int .i64 (l))).setCell ⟨br, 1, none⟩ (.int .i64 (m + 1))).setCell ⟨br, 2, none⟩ (.int .i64 (t))).setCell ⟨bf, 0, none⟩ (.int .i64 (0))).setCell ⟨bf, 1, none⟩ (.int .i64 (0))).setCell ⟨bf, 2, none⟩ (.int .i64 (0))) from by
          have hb6 := W6.out; have hs6 := hb6.size; obtain ⟨g1, g2, g3⟩ := HBL.out; go_grown)
        have BR7 := Lib.hid (show Box3 ((((((w6.setCell ⟨br, 0, none⟩ (.int .i64 (l))).setCell ⟨br, 1, none⟩ (.int .i64 (m + 1))).setCell ⟨br, 2, none⟩ (.int .i64 (t))).setCell ⟨bf, 0, none⟩ (.int .i64 (0))).setCell ⟨bf, 1, none⟩ (.int .i64 (0))).setCell ⟨bf, 2, none⟩ (.int .i64 (0))) br _ _ _ from (BR6.out.put (.int .i64 (l)) (.int .i64 (m + 1)) (.int .i64 (t))).put_far n3.symm (.int .i64 (0)) (.int .i64 (0)) (.int .i64 (0)))
        have BF7 := Lib.hid (show Box3 ((((((w6.setCell ⟨br, 0, none⟩ (.int .i64 (l))).setCell ⟨br, 1, none⟩ (.int .i64 (m + 1))).setCell ⟨br, 2, none⟩ (.int .i64 (t))).setCell ⟨bf, 0, none⟩ (.int .i64 (0))).setCell ⟨bf, 1, none⟩ (.int .i64 (0))).setCell ⟨bf, 2, none⟩ (.int .i64 (0))) bf _ _ _ from (BF6.out.put_far n3 (.int .i64 (l)) (.int .i64 (m + 1)) (.int .i64 (t))).put (.int .i64 (0)) (.int .i64 (0)) (.int .i64 (0)))
        clear x0 x1 x2 x3 x4 x5 x6 y0 y1 y2 y3 y4 y5 y6 z0 z1 z2 z3 z4 z5 z6
        generalize (((((w6.setCell ⟨br, 0, none⟩ (.int .i64 (l))).setCell ⟨br, 1, none⟩ (.int .i64 (m + 1))).setCell ⟨br, 2, none⟩ (.int .i64 (t))).setCell ⟨bf, 0, none⟩ (.int .i64 (0))).setCell ⟨bf, 1, none⟩ (.int .i64 (0))).setCell ⟨bf, 2, none⟩ (.int .i64 (0)) = w7 at *
        obtain ⟨y0, y1, y2, y3, y4, y5, y6⟩ := BR7.out
        obtain ⟨z0, z1, z2, z3, z4, z5, z6⟩ := BF7.out
        refine bodyPost_ret (v := .tuple #[.agg #[.int .i64 (l), .int .i64 (m + 1), .int .i64 (t)], .agg #[.int .i64 (0), .int .i64 (0), .int .i64 (0)], .bool false]) (by simp [results, Try.results53, go_sem, y1, y2, y3, z1, z2, z3]) rfl ⟨by rw [CT.out], W7.out⟩
      · have CT := Lib.hid (show T.val = _ by rw [CG.out, if_neg (by intro h; exact CE.out h.1), if_neg hm, took_val])
        obtain rfl : m = l := by omega
        go_upto_region 6 with (fail)
        have W6 := Lib.hid (show Below w.heap.size w ((w5.setCell ⟨bw, 1, none⟩ (.int .i64 (m))).alloc (.cells #[.int .i64 s, .int .i64 d, .int .i64 p] 49)) from by
          have hb5 := H5.out; have hs5 := hb5.size; obtain ⟨g1, g2, g3⟩ := HBL.out; go_grown)
        have BW6 := Lib.hid (((show Box3 w5 bw (.int .i64 m) (.int .i64 m) (.int .i64 t) from ⟨x0, x1, x2, x3, x4, x5, x6⟩).set1 (.int .i64 (m))).below ((Below.refl _ _).alloc (Nat.le_refl _) (.cells #[.int .i64 s, .int .i64 d, .int .i64 p] 49)))
        have BR6 := Lib.hid (((show Box3 w5 br (.int .i64 0) (.int .i64 0) (.int .i64 0) from ⟨y0, y1, y2, y3, y4, y5, y6⟩).far1 n1 1 (.int .i64 (m))).below ((Below.refl _ _).alloc (Nat.le_refl _) (.cells #[.int .i64 s, .int .i64 d, .int .i64 p] 49)))
        have BF6 := Lib.hid (((show Box3 w5 bf (.int .i64 0) (.int .i64 0) (.int .i64 0) from ⟨z0, z1, z2, z3, z4, z5, z6⟩).far1 n2 1 (.int .i64 (m))).below ((Below.refl _ _).alloc (Nat.le_refl _) (.cells #[.int .i64 s, .int .i64 d, .int .i64 p] 49)))
        clear x0 x1 x2 x3 x4 x5 x6 y0 y1 y2 y3 y4 y5 y6 z0 z1 z2 z3 z4 z5 z6
        generalize (w5.setCell ⟨bw, 1, none⟩ (.int .i64 (m))).alloc (.cells #[.int .i64 s, .int .i64 d, .int .i64 p] 49) = w6 at *
        obtain ⟨x0, x1, x2, x3, x4, x5, x6⟩ := BW6.out
        obtain ⟨y0, y1, y2, y3, y4, y5, y6⟩ := BR6.out
        obtain ⟨z0, z1, z2, z3, z4, z5, z6⟩ := BF6.out
        go_wp2_with fail
        have W7 := Lib.hid (show Below w.heap.size w ((((((w6.setCell ⟨br, 0, none⟩ (.int .i64 (m))).setCell ⟨br, 1, none⟩ (.int .i64 (m))).setCell ⟨br, 2, none⟩ (.int .i64 (t))).setCell ⟨bf, 0, none⟩ (.int .i64 (0))).setCell ⟨bf, 1, none⟩ (.int .i64 (0))).setCell ⟨bf, 2, none⟩ (.int .i64 (0))) from by
          have hb6 := W6.out; have hs6 := hb6.size; obtain ⟨g1, g2, g3⟩ := HBL.out; go_grown)
        have BR7 := Lib.hid (show Box3 ((((((w6.setCell ⟨br, 0, none⟩ (.int .i64 (m))).setCell ⟨br, 1, none⟩ (.int .i64 (m))).setCell ⟨br, 2, none⟩ (.int .i64 (t))).setCell ⟨bf, 0, none⟩ (.int .i64 (0))).setCell ⟨bf, 1, none⟩ (.int .i64 (0))).setCell ⟨bf, 2, none⟩ (.int .i64 (0))) br _ _ _ from (BR6.out.put (.int .i64 (m)) (.int .i64 (m)) (.int .i64 (t))).put_far n3.symm (.int .i64 (0)) (.int .i64 (0)) (.int .i64 (0)))
        have BF7 := Lib.hid (show Box3 ((((((w6.setCell ⟨br, 0, none⟩ (.int .i64 (m))).setCell ⟨br, 1, none⟩ (.int .i64 (m))).setCell ⟨br, 2, none⟩ (.int .i64 (t))).setCell ⟨bf, 0, none⟩ (.int .i64 (0))).setCell ⟨bf, 1, none⟩ (.int .i64 (0))).setCell ⟨bf, 2, none⟩ (.int .i64 (0))) bf _ _ _ from (BF6.out.put_far n3 (.int .i64 (m)) (.int .i64 (m)) (.int .i64 (t))).put (.int .i64 (0)) (.int .i64 (0)) (.int .i64 (0)))
        clear x0 x1 x2 x3 x4 x5 x6 y0 y1 y2 y3 y4 y5 y6 z0 z1 z2 z3 z4 z5 z6
        generalize (((((w6.setCell ⟨br, 0, none⟩ (.int .i64 (m))).setCell ⟨br, 1, none⟩ (.int .i64 (m))).setCell ⟨br, 2, none⟩ (.int .i64 (t))).setCell ⟨bf, 0, none⟩ (.int .i64 (0))).setCell ⟨bf, 1, none⟩ (.int .i64 (0))).setCell ⟨bf, 2, none⟩ (.int .i64 (0)) = w7 at *
        obtain ⟨y0, y1, y2, y3, y4, y5, y6⟩ := BR7.out
        obtain ⟨z0, z1, z2, z3, z4, z5, z6⟩ := BF7.out
        refine bodyPost_ret (v := .tuple #[.agg #[.int .i64 (m), .int .i64 (m), .int .i64 (t)], .agg #[.int .i64 (0), .int .i64 (0), .int .i64 (0)], .bool false]) (by simp [results, Try.results53, go_sem, y1, y2, y3, z1, z2, z3]) rfl ⟨by rw [CT.out], W7.out⟩
end Go.Proofs.Ytnabpdengfmeaaa
