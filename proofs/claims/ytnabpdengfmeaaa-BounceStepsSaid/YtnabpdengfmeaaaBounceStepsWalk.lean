/- The law BounceSteps of layer 5, walked. (Written by a program of mine, gen_bounce.py.) -/
import Derived.Test.YtnabpdengfmeaaaBounce
namespace Go.Proofs.Ytnabpdengfmeaaa
open Go.RowKit

set_option maxHeartbeats 8000000 in
set_option maxRecDepth 100000 in
theorem bounceSteps_good (count : Int) (value : Bool) (c o : Int) (v : Bool) (s : Bool) (w : World) (hn1 : 1 ≤ count) (hn2 : count ≤ 20) :
    Calls Try.prog 7 #[.int .i64 count, .bool value, .agg #[.int .i64 c, .bool v, .int .i64 o], .bool s] w fun e w' => e = .returned (.bool true) ∧ Below w.heap.size w w' := by
  have E1 := Lib.hid (show newS count value = ⟨count, value, 0⟩ by simp [newS]; omega)
  have E2 := Lib.hid (show newE count = 0 by simp [newE]; omega)
  cases hr : rightB ⟨c, v, o⟩ with
  | true =>
    obtain ⟨h1, h2, h3, h4⟩ := (right_iff c o v).1 hr
    have HR := Lib.hid hr
    clear hr
    have hd : decide (o ≤ c - 1) = true := decide_eq_true (by omega)
    cases hs : (s == v) with
    | true =>
      have ES := Lib.hid (show stepS ⟨c, v, o⟩ s = ⟨c, v, 0⟩ by have := HR.out; simp [stepS, this, beq_iff_eq.1 hs])
      go_enter Try.func7, Try.ntmps7
      go_wp2_with fail
      refine (awake05 _).mono ?_
      rintro e w1 ⟨rfl, hb⟩
      have B1 := Lib.hid ((Box3.new w (.int .i64 c) (.bool v) (.int .i64 o) 35).below hb)
      have H1 := Lib.hid (show Below w.heap.size w w1 from ((Below.refl w.heap.size w).alloc (Nat.le_refl _) _).trans (hb.mono (by simp)))
      clear hb
      go_wp2_with fail
      refine (bnew_any _ _ _).mono ?_
      rintro e w2 ⟨rfl, hb⟩
      rw [E1.out, E2.out, sw_val]
      have B2 := Lib.hid (B1.out.below hb)
      have H2 := Lib.hid (H1.out.trans (hb.mono H1.out.size))
      clear hb B1 H1
      obtain ⟨z2, k0, k1, k2, f0, f1, f2⟩ := B2.out
      have z3 : w.heap.size < w2.heap.size + 1 := by omega
      have z4 : w.heap.size < w2.heap.size + 1 + 1 := by omega
      have z5 : w.heap.size < w2.heap.size + 1 + 1 + 1 := by omega
      go_wp2_with fail
      refine (bright_any _ _ _ _).mono ?_
      rw [HR.out]
      rintro e w3 ⟨rfl, rfl⟩
      go_wp2_with fail
      have B13 := Lib.hid (Box3.new ((w2.alloc (.cells #[.int .i64 count, .bool value, .int .i64 0] 35)).alloc (.cells #[.int .i64 c, .bool v, .int .i64 o] 35)) (.int .i64 c) (.bool v) (.int .i64 0) 35)
      have B6 := Lib.hid (B2.out.below ((((Below.refl _ _).alloc (Nat.le_refl _) (.cells #[.int .i64 count, .bool value, .int .i64 0] 35)).alloc (by simp) (.cells #[.int .i64 c, .bool v, .int .i64 o] 35)).alloc (by simp; omega) (.cells #[.int .i64 c, .bool v, .int .i64 0] 35)))
      have H6 := Lib.hid (H2.out.trans ((((Below.refl w.heap.size w2).alloc (by omega) (.cells #[.int .i64 count, .bool value, .int .i64 0] 35)).alloc (by simp; omega) (.cells #[.int .i64 c, .bool v, .int .i64 o] 35)).alloc (by simp; omega) (.cells #[.int .i64 c, .bool v, .int .i64 0] 35)))
      have hz : ((w2.alloc (.cells #[.int .i64 count, .bool value, .int .i64 0] 35)).alloc (.cells #[.int .i64 c, .bool v, .int .i64 o] 35)).heap.size = w2.heap.size + 1 + 1 := by simp
      rw [hz] at B13
      clear hz B2 k0 k1 k2 f0 f1 f2
      generalize ((w2.alloc (.cells #[.int .i64 count, .bool value, .int .i64 0] 35)).alloc (.cells #[.int .i64 c, .bool v, .int .i64 o] 35)).alloc (.cells #[.int .i64 c, .bool v, .int .i64 0] 35) = w5 at *
      obtain ⟨y5, k0, k1, k2, _, _, _⟩ := B6.out
      obtain ⟨x5, j0, j1, j2, _, _, _⟩ := B13.out
      go_region_held3 (fun w' => w'.cell? ⟨w.heap.size, 0, none⟩ = some (.int .i64 c) ∧ w'.cell? ⟨w.heap.size, 1, none⟩ = some (.bool v) ∧ w'.cell? ⟨w.heap.size, 2, none⟩ = some (.int .i64 o) ∧
          w'.cell? ⟨w2.heap.size + 1 + 1, 0, none⟩ = some (.int .i64 c) ∧ w'.cell? ⟨w2.heap.size + 1 + 1, 1, none⟩ = some (.bool v) ∧ w'.cell? ⟨w2.heap.size + 1 + 1, 2, none⟩ = some (.int .i64 0))
        (first
          | go_keep
          | (go_split_ands
             refine ⟨?_, ?_, ?_, ?_, ?_, ?_⟩
             · (rw [hb.cell (by exact y5)]; assumption)
             · (rw [hb.cell (by exact y5)]; assumption)
             · (rw [hb.cell (by exact y5)]; assumption)
             · (rw [hb.cell (by exact x5)]; assumption)
             · (rw [hb.cell (by exact x5)]; assumption)
             · (rw [hb.cell (by exact x5)]; assumption)))
        ((go_at_call 33; refine (bstep_any _ _ _ _ _).mono ?_; rw [ES.out, sw_val]; rintro e w4 ⟨rfl, hb⟩))
      have HB4 := Lib.hid (H6.out.trans ((Below.refl w5.heap.size w5).drew.trans hb |>.mono H6.out.size))
      clear hb
      go_wp2
      go_ret
      exact ⟨rfl, HB4.out⟩
    | false =>
      have hsv : s = !v := by cases s <;> cases v <;> simp at hs ⊢
      have HSV := Lib.hid hsv
      clear hsv
      by_cases ho : o + 1 = c
      · have ho' : (o + 1 == c) = true := beq_iff_eq.2 ho
        have ES := Lib.hid (show stepS ⟨c, v, o⟩ s = ⟨c, !v, 0⟩ by have h := HR.out; rw [HSV.out]; simp [stepS, h, ho])
        clear ho
        go_enter Try.func7, Try.ntmps7
        go_wp2_with fail
        refine (awake05 _).mono ?_
        rintro e w1 ⟨rfl, hb⟩
        have B1 := Lib.hid ((Box3.new w (.int .i64 c) (.bool v) (.int .i64 o) 35).below hb)
        have H1 := Lib.hid (show Below w.heap.size w w1 from ((Below.refl w.heap.size w).alloc (Nat.le_refl _) _).trans (hb.mono (by simp)))
        clear hb
        go_wp2_with fail
        refine (bnew_any _ _ _).mono ?_
        rintro e w2 ⟨rfl, hb⟩
        rw [E1.out, E2.out, sw_val]
        have B2 := Lib.hid (B1.out.below hb)
        have H2 := Lib.hid (H1.out.trans (hb.mono H1.out.size))
        clear hb B1 H1
        obtain ⟨z2, k0, k1, k2, f0, f1, f2⟩ := B2.out
        have z3 : w.heap.size < w2.heap.size + 1 := by omega
        have z4 : w.heap.size < w2.heap.size + 1 + 1 := by omega
        have z5 : w.heap.size < w2.heap.size + 1 + 1 + 1 := by omega
        go_wp2_with fail
        refine (bright_any _ _ _ _).mono ?_
        rw [HR.out]
        rintro e w3 ⟨rfl, rfl⟩
        go_wp2_with fail
        have B13 := Lib.hid (Box3.new ((w2.alloc (.cells #[.int .i64 count, .bool value, .int .i64 0] 35)).alloc (.cells #[.int .i64 c, .bool v, .int .i64 o] 35)) (.int .i64 c) (.bool (!v)) (.int .i64 0) 35)
        have B6 := Lib.hid (B2.out.below ((((Below.refl _ _).alloc (Nat.le_refl _) (.cells #[.int .i64 count, .bool value, .int .i64 0] 35)).alloc (by simp) (.cells #[.int .i64 c, .bool v, .int .i64 o] 35)).alloc (by simp; omega) (.cells #[.int .i64 c, .bool (!v), .int .i64 0] 35)))
        have H6 := Lib.hid (H2.out.trans ((((Below.refl w.heap.size w2).alloc (by omega) (.cells #[.int .i64 count, .bool value, .int .i64 0] 35)).alloc (by simp; omega) (.cells #[.int .i64 c, .bool v, .int .i64 o] 35)).alloc (by simp; omega) (.cells #[.int .i64 c, .bool (!v), .int .i64 0] 35)))
        have hz : ((w2.alloc (.cells #[.int .i64 count, .bool value, .int .i64 0] 35)).alloc (.cells #[.int .i64 c, .bool v, .int .i64 o] 35)).heap.size = w2.heap.size + 1 + 1 := by simp
        rw [hz] at B13
        clear hz B2 k0 k1 k2 f0 f1 f2
        generalize ((w2.alloc (.cells #[.int .i64 count, .bool value, .int .i64 0] 35)).alloc (.cells #[.int .i64 c, .bool v, .int .i64 o] 35)).alloc (.cells #[.int .i64 c, .bool (!v), .int .i64 0] 35) = w5 at *
        obtain ⟨y5, k0, k1, k2, _, _, _⟩ := B6.out
        obtain ⟨x5, j0, j1, j2, _, _, _⟩ := B13.out
        go_region_held3 (fun w' => w'.cell? ⟨w.heap.size, 0, none⟩ = some (.int .i64 c) ∧ w'.cell? ⟨w.heap.size, 1, none⟩ = some (.bool v) ∧ w'.cell? ⟨w.heap.size, 2, none⟩ = some (.int .i64 o) ∧
            w'.cell? ⟨w2.heap.size + 1 + 1, 0, none⟩ = some (.int .i64 c) ∧ w'.cell? ⟨w2.heap.size + 1 + 1, 1, none⟩ = some (.bool (!v)) ∧ w'.cell? ⟨w2.heap.size + 1 + 1, 2, none⟩ = some (.int .i64 0))
          (first
            | go_keep
            | (go_split_ands
               refine ⟨?_, ?_, ?_, ?_, ?_, ?_⟩
               · (rw [hb.cell (by exact y5)]; assumption)
               · (rw [hb.cell (by exact y5)]; assumption)
               · (rw [hb.cell (by exact y5)]; assumption)
               · (rw [hb.cell (by exact x5)]; assumption)
               · (rw [hb.cell (by exact x5)]; assumption)
               · (rw [hb.cell (by exact x5)]; assumption)))
          ((go_at_call 33; refine (bstep_any _ _ _ _ _).mono ?_; rw [ES.out, sw_val]; rintro e w4 ⟨rfl, hb⟩))
        have HB4 := Lib.hid (H6.out.trans ((Below.refl w5.heap.size w5).drew.trans hb |>.mono H6.out.size))
        clear hb
        go_wp2
        go_ret
        exact ⟨rfl, HB4.out⟩
      · have ho' : (o + 1 == c) = false := beq_eq_false_iff_ne.2 ho
        have ES := Lib.hid (show stepS ⟨c, v, o⟩ s = ⟨c, v, o + 1⟩ by have h := HR.out; rw [HSV.out]; simp [stepS, h, ho])
        clear ho
        go_enter Try.func7, Try.ntmps7
        go_wp2_with fail
        refine (awake05 _).mono ?_
        rintro e w1 ⟨rfl, hb⟩
        have B1 := Lib.hid ((Box3.new w (.int .i64 c) (.bool v) (.int .i64 o) 35).below hb)
        have H1 := Lib.hid (show Below w.heap.size w w1 from ((Below.refl w.heap.size w).alloc (Nat.le_refl _) _).trans (hb.mono (by simp)))
        clear hb
        go_wp2_with fail
        refine (bnew_any _ _ _).mono ?_
        rintro e w2 ⟨rfl, hb⟩
        rw [E1.out, E2.out, sw_val]
        have B2 := Lib.hid (B1.out.below hb)
        have H2 := Lib.hid (H1.out.trans (hb.mono H1.out.size))
        clear hb B1 H1
        obtain ⟨z2, k0, k1, k2, f0, f1, f2⟩ := B2.out
        have z3 : w.heap.size < w2.heap.size + 1 := by omega
        have z4 : w.heap.size < w2.heap.size + 1 + 1 := by omega
        have z5 : w.heap.size < w2.heap.size + 1 + 1 + 1 := by omega
        go_wp2_with fail
        refine (bright_any _ _ _ _).mono ?_
        rw [HR.out]
        rintro e w3 ⟨rfl, rfl⟩
        go_wp2_with fail
        have B13 := Lib.hid (Box3.new ((w2.alloc (.cells #[.int .i64 count, .bool value, .int .i64 0] 35)).alloc (.cells #[.int .i64 c, .bool v, .int .i64 o] 35)) (.int .i64 c) (.bool v) (.int .i64 (o + 1)) 35)
        have B6 := Lib.hid (B2.out.below ((((Below.refl _ _).alloc (Nat.le_refl _) (.cells #[.int .i64 count, .bool value, .int .i64 0] 35)).alloc (by simp) (.cells #[.int .i64 c, .bool v, .int .i64 o] 35)).alloc (by simp; omega) (.cells #[.int .i64 c, .bool v, .int .i64 (o + 1)] 35)))
        have H6 := Lib.hid (H2.out.trans ((((Below.refl w.heap.size w2).alloc (by omega) (.cells #[.int .i64 count, .bool value, .int .i64 0] 35)).alloc (by simp; omega) (.cells #[.int .i64 c, .bool v, .int .i64 o] 35)).alloc (by simp; omega) (.cells #[.int .i64 c, .bool v, .int .i64 (o + 1)] 35)))
        have hz : ((w2.alloc (.cells #[.int .i64 count, .bool value, .int .i64 0] 35)).alloc (.cells #[.int .i64 c, .bool v, .int .i64 o] 35)).heap.size = w2.heap.size + 1 + 1 := by simp
        rw [hz] at B13
        clear hz B2 k0 k1 k2 f0 f1 f2
        generalize ((w2.alloc (.cells #[.int .i64 count, .bool value, .int .i64 0] 35)).alloc (.cells #[.int .i64 c, .bool v, .int .i64 o] 35)).alloc (.cells #[.int .i64 c, .bool v, .int .i64 (o + 1)] 35) = w5 at *
        obtain ⟨y5, k0, k1, k2, _, _, _⟩ := B6.out
        obtain ⟨x5, j0, j1, j2, _, _, _⟩ := B13.out
        go_region_held3 (fun w' => w'.cell? ⟨w.heap.size, 0, none⟩ = some (.int .i64 c) ∧ w'.cell? ⟨w.heap.size, 1, none⟩ = some (.bool v) ∧ w'.cell? ⟨w.heap.size, 2, none⟩ = some (.int .i64 o) ∧
            w'.cell? ⟨w2.heap.size + 1 + 1, 0, none⟩ = some (.int .i64 c) ∧ w'.cell? ⟨w2.heap.size + 1 + 1, 1, none⟩ = some (.bool v) ∧ w'.cell? ⟨w2.heap.size + 1 + 1, 2, none⟩ = some (.int .i64 (o + 1)))
          (first
            | go_keep
            | (go_split_ands
               refine ⟨?_, ?_, ?_, ?_, ?_, ?_⟩
               · (rw [hb.cell (by exact y5)]; assumption)
               · (rw [hb.cell (by exact y5)]; assumption)
               · (rw [hb.cell (by exact y5)]; assumption)
               · (rw [hb.cell (by exact x5)]; assumption)
               · (rw [hb.cell (by exact x5)]; assumption)
               · (rw [hb.cell (by exact x5)]; assumption)))
          ((go_at_call 33; refine (bstep_any _ _ _ _ _).mono ?_; rw [ES.out, sw_val]; rintro e w4 ⟨rfl, hb⟩))
        have HB4 := Lib.hid (H6.out.trans ((Below.refl w5.heap.size w5).drew.trans hb |>.mono H6.out.size))
        clear hb
        go_wp2
        go_ret
        exact ⟨rfl, HB4.out⟩
  | false =>
    have hw := (wrong_iff c o v).1 hr
    have ES := Lib.hid (show stepS ⟨c, v, o⟩ s = ⟨0, false, 0⟩ by simp [stepS, hr])
    have HR := Lib.hid hr
    clear hr
    have hw' : c < 1 ∨ (1 ≤ c ∧ 20 < c) ∨ (1 ≤ c ∧ c ≤ 20 ∧ o < 0) ∨ (1 ≤ c ∧ c ≤ 20 ∧ 0 ≤ o ∧ c ≤ o) := by omega
    clear hw
    rcases hw' with h1 | ⟨h1, h2⟩ | ⟨h1, h2, h3⟩ | ⟨h1, h2, h3, h4⟩
    · have hq : True := trivial
      go_enter Try.func7, Try.ntmps7
      go_wp2_with fail
      refine (awake05 _).mono ?_
      rintro e w1 ⟨rfl, hb⟩
      have B1 := Lib.hid ((Box3.new w (.int .i64 c) (.bool v) (.int .i64 o) 35).below hb)
      have H1 := Lib.hid (show Below w.heap.size w w1 from ((Below.refl w.heap.size w).alloc (Nat.le_refl _) _).trans (hb.mono (by simp)))
      clear hb
      go_wp2_with fail
      refine (bnew_any _ _ _).mono ?_
      rintro e w2 ⟨rfl, hb⟩
      rw [E1.out, E2.out, sw_val]
      have B2 := Lib.hid (B1.out.below hb)
      have H2 := Lib.hid (H1.out.trans (hb.mono H1.out.size))
      clear hb B1 H1
      obtain ⟨z2, k0, k1, k2, f0, f1, f2⟩ := B2.out
      have z3 : w.heap.size < w2.heap.size + 1 := by omega
      have z4 : w.heap.size < w2.heap.size + 1 + 1 := by omega
      have z5 : w.heap.size < w2.heap.size + 1 + 1 + 1 := by omega
      go_wp2_with fail
      refine (bright_any _ _ _ _).mono ?_
      rw [HR.out]
      rintro e w3 ⟨rfl, rfl⟩
      go_wp2_with fail
      have B13 := Lib.hid (Box3.new ((w2.alloc (.cells #[.int .i64 count, .bool value, .int .i64 0] 35)).alloc (.cells #[.int .i64 c, .bool v, .int .i64 o] 35)) (.int .i64 0) (.bool false) (.int .i64 0) 35)
      have B6 := Lib.hid (B2.out.below ((((Below.refl _ _).alloc (Nat.le_refl _) (.cells #[.int .i64 count, .bool value, .int .i64 0] 35)).alloc (by simp) (.cells #[.int .i64 c, .bool v, .int .i64 o] 35)).alloc (by simp; omega) (.cells #[.int .i64 0, .bool false, .int .i64 0] 35)))
      have H6 := Lib.hid (H2.out.trans ((((Below.refl w.heap.size w2).alloc (by omega) (.cells #[.int .i64 count, .bool value, .int .i64 0] 35)).alloc (by simp; omega) (.cells #[.int .i64 c, .bool v, .int .i64 o] 35)).alloc (by simp; omega) (.cells #[.int .i64 0, .bool false, .int .i64 0] 35)))
      have hz : ((w2.alloc (.cells #[.int .i64 count, .bool value, .int .i64 0] 35)).alloc (.cells #[.int .i64 c, .bool v, .int .i64 o] 35)).heap.size = w2.heap.size + 1 + 1 := by simp
      rw [hz] at B13
      clear hz B2 k0 k1 k2 f0 f1 f2
      generalize ((w2.alloc (.cells #[.int .i64 count, .bool value, .int .i64 0] 35)).alloc (.cells #[.int .i64 c, .bool v, .int .i64 o] 35)).alloc (.cells #[.int .i64 0, .bool false, .int .i64 0] 35) = w5 at *
      obtain ⟨y5, k0, k1, k2, _, _, _⟩ := B6.out
      obtain ⟨x5, j0, j1, j2, _, _, _⟩ := B13.out
      go_region_held3 (fun w' => w'.cell? ⟨w.heap.size, 0, none⟩ = some (.int .i64 c) ∧ w'.cell? ⟨w.heap.size, 1, none⟩ = some (.bool v) ∧ w'.cell? ⟨w.heap.size, 2, none⟩ = some (.int .i64 o) ∧
          w'.cell? ⟨w2.heap.size + 1 + 1, 0, none⟩ = some (.int .i64 0) ∧ w'.cell? ⟨w2.heap.size + 1 + 1, 1, none⟩ = some (.bool false) ∧ w'.cell? ⟨w2.heap.size + 1 + 1, 2, none⟩ = some (.int .i64 0))
        (first
          | go_keep
          | (go_split_ands
             refine ⟨?_, ?_, ?_, ?_, ?_, ?_⟩
             · (rw [hb.cell (by exact y5)]; assumption)
             · (rw [hb.cell (by exact y5)]; assumption)
             · (rw [hb.cell (by exact y5)]; assumption)
             · (rw [hb.cell (by exact x5)]; assumption)
             · (rw [hb.cell (by exact x5)]; assumption)
             · (rw [hb.cell (by exact x5)]; assumption)))
        ((go_at_call 33; refine (bstep_any _ _ _ _ _).mono ?_; rw [ES.out, sw_val]; rintro e w4 ⟨rfl, hb⟩))
      have HB4 := Lib.hid (H6.out.trans ((Below.refl w5.heap.size w5).drew.trans hb |>.mono H6.out.size))
      clear hb
      go_wp2
      go_ret
      exact ⟨rfl, HB4.out⟩
    · have hq : True := trivial
      go_enter Try.func7, Try.ntmps7
      go_wp2_with fail
      refine (awake05 _).mono ?_
      rintro e w1 ⟨rfl, hb⟩
      have B1 := Lib.hid ((Box3.new w (.int .i64 c) (.bool v) (.int .i64 o) 35).below hb)
      have H1 := Lib.hid (show Below w.heap.size w w1 from ((Below.refl w.heap.size w).alloc (Nat.le_refl _) _).trans (hb.mono (by simp)))
      clear hb
      go_wp2_with fail
      refine (bnew_any _ _ _).mono ?_
      rintro e w2 ⟨rfl, hb⟩
      rw [E1.out, E2.out, sw_val]
      have B2 := Lib.hid (B1.out.below hb)
      have H2 := Lib.hid (H1.out.trans (hb.mono H1.out.size))
      clear hb B1 H1
      obtain ⟨z2, k0, k1, k2, f0, f1, f2⟩ := B2.out
      have z3 : w.heap.size < w2.heap.size + 1 := by omega
      have z4 : w.heap.size < w2.heap.size + 1 + 1 := by omega
      have z5 : w.heap.size < w2.heap.size + 1 + 1 + 1 := by omega
      go_wp2_with fail
      refine (bright_any _ _ _ _).mono ?_
      rw [HR.out]
      rintro e w3 ⟨rfl, rfl⟩
      go_wp2_with fail
      have B13 := Lib.hid (Box3.new ((w2.alloc (.cells #[.int .i64 count, .bool value, .int .i64 0] 35)).alloc (.cells #[.int .i64 c, .bool v, .int .i64 o] 35)) (.int .i64 0) (.bool false) (.int .i64 0) 35)
      have B6 := Lib.hid (B2.out.below ((((Below.refl _ _).alloc (Nat.le_refl _) (.cells #[.int .i64 count, .bool value, .int .i64 0] 35)).alloc (by simp) (.cells #[.int .i64 c, .bool v, .int .i64 o] 35)).alloc (by simp; omega) (.cells #[.int .i64 0, .bool false, .int .i64 0] 35)))
      have H6 := Lib.hid (H2.out.trans ((((Below.refl w.heap.size w2).alloc (by omega) (.cells #[.int .i64 count, .bool value, .int .i64 0] 35)).alloc (by simp; omega) (.cells #[.int .i64 c, .bool v, .int .i64 o] 35)).alloc (by simp; omega) (.cells #[.int .i64 0, .bool false, .int .i64 0] 35)))
      have hz : ((w2.alloc (.cells #[.int .i64 count, .bool value, .int .i64 0] 35)).alloc (.cells #[.int .i64 c, .bool v, .int .i64 o] 35)).heap.size = w2.heap.size + 1 + 1 := by simp
      rw [hz] at B13
      clear hz B2 k0 k1 k2 f0 f1 f2
      generalize ((w2.alloc (.cells #[.int .i64 count, .bool value, .int .i64 0] 35)).alloc (.cells #[.int .i64 c, .bool v, .int .i64 o] 35)).alloc (.cells #[.int .i64 0, .bool false, .int .i64 0] 35) = w5 at *
      obtain ⟨y5, k0, k1, k2, _, _, _⟩ := B6.out
      obtain ⟨x5, j0, j1, j2, _, _, _⟩ := B13.out
      go_region_held3 (fun w' => w'.cell? ⟨w.heap.size, 0, none⟩ = some (.int .i64 c) ∧ w'.cell? ⟨w.heap.size, 1, none⟩ = some (.bool v) ∧ w'.cell? ⟨w.heap.size, 2, none⟩ = some (.int .i64 o) ∧
          w'.cell? ⟨w2.heap.size + 1 + 1, 0, none⟩ = some (.int .i64 0) ∧ w'.cell? ⟨w2.heap.size + 1 + 1, 1, none⟩ = some (.bool false) ∧ w'.cell? ⟨w2.heap.size + 1 + 1, 2, none⟩ = some (.int .i64 0))
        (first
          | go_keep
          | (go_split_ands
             refine ⟨?_, ?_, ?_, ?_, ?_, ?_⟩
             · (rw [hb.cell (by exact y5)]; assumption)
             · (rw [hb.cell (by exact y5)]; assumption)
             · (rw [hb.cell (by exact y5)]; assumption)
             · (rw [hb.cell (by exact x5)]; assumption)
             · (rw [hb.cell (by exact x5)]; assumption)
             · (rw [hb.cell (by exact x5)]; assumption)))
        ((go_at_call 33; refine (bstep_any _ _ _ _ _).mono ?_; rw [ES.out, sw_val]; rintro e w4 ⟨rfl, hb⟩))
      have HB4 := Lib.hid (H6.out.trans ((Below.refl w5.heap.size w5).drew.trans hb |>.mono H6.out.size))
      clear hb
      go_wp2
      go_ret
      exact ⟨rfl, HB4.out⟩
    · have hq : True := trivial
      go_enter Try.func7, Try.ntmps7
      go_wp2_with fail
      refine (awake05 _).mono ?_
      rintro e w1 ⟨rfl, hb⟩
      have B1 := Lib.hid ((Box3.new w (.int .i64 c) (.bool v) (.int .i64 o) 35).below hb)
      have H1 := Lib.hid (show Below w.heap.size w w1 from ((Below.refl w.heap.size w).alloc (Nat.le_refl _) _).trans (hb.mono (by simp)))
      clear hb
      go_wp2_with fail
      refine (bnew_any _ _ _).mono ?_
      rintro e w2 ⟨rfl, hb⟩
      rw [E1.out, E2.out, sw_val]
      have B2 := Lib.hid (B1.out.below hb)
      have H2 := Lib.hid (H1.out.trans (hb.mono H1.out.size))
      clear hb B1 H1
      obtain ⟨z2, k0, k1, k2, f0, f1, f2⟩ := B2.out
      have z3 : w.heap.size < w2.heap.size + 1 := by omega
      have z4 : w.heap.size < w2.heap.size + 1 + 1 := by omega
      have z5 : w.heap.size < w2.heap.size + 1 + 1 + 1 := by omega
      go_wp2_with fail
      refine (bright_any _ _ _ _).mono ?_
      rw [HR.out]
      rintro e w3 ⟨rfl, rfl⟩
      go_wp2_with fail
      have B13 := Lib.hid (Box3.new ((w2.alloc (.cells #[.int .i64 count, .bool value, .int .i64 0] 35)).alloc (.cells #[.int .i64 c, .bool v, .int .i64 o] 35)) (.int .i64 0) (.bool false) (.int .i64 0) 35)
      have B6 := Lib.hid (B2.out.below ((((Below.refl _ _).alloc (Nat.le_refl _) (.cells #[.int .i64 count, .bool value, .int .i64 0] 35)).alloc (by simp) (.cells #[.int .i64 c, .bool v, .int .i64 o] 35)).alloc (by simp; omega) (.cells #[.int .i64 0, .bool false, .int .i64 0] 35)))
      have H6 := Lib.hid (H2.out.trans ((((Below.refl w.heap.size w2).alloc (by omega) (.cells #[.int .i64 count, .bool value, .int .i64 0] 35)).alloc (by simp; omega) (.cells #[.int .i64 c, .bool v, .int .i64 o] 35)).alloc (by simp; omega) (.cells #[.int .i64 0, .bool false, .int .i64 0] 35)))
      have hz : ((w2.alloc (.cells #[.int .i64 count, .bool value, .int .i64 0] 35)).alloc (.cells #[.int .i64 c, .bool v, .int .i64 o] 35)).heap.size = w2.heap.size + 1 + 1 := by simp
      rw [hz] at B13
      clear hz B2 k0 k1 k2 f0 f1 f2
      generalize ((w2.alloc (.cells #[.int .i64 count, .bool value, .int .i64 0] 35)).alloc (.cells #[.int .i64 c, .bool v, .int .i64 o] 35)).alloc (.cells #[.int .i64 0, .bool false, .int .i64 0] 35) = w5 at *
      obtain ⟨y5, k0, k1, k2, _, _, _⟩ := B6.out
      obtain ⟨x5, j0, j1, j2, _, _, _⟩ := B13.out
      go_region_held3 (fun w' => w'.cell? ⟨w.heap.size, 0, none⟩ = some (.int .i64 c) ∧ w'.cell? ⟨w.heap.size, 1, none⟩ = some (.bool v) ∧ w'.cell? ⟨w.heap.size, 2, none⟩ = some (.int .i64 o) ∧
          w'.cell? ⟨w2.heap.size + 1 + 1, 0, none⟩ = some (.int .i64 0) ∧ w'.cell? ⟨w2.heap.size + 1 + 1, 1, none⟩ = some (.bool false) ∧ w'.cell? ⟨w2.heap.size + 1 + 1, 2, none⟩ = some (.int .i64 0))
        (first
          | go_keep
          | (go_split_ands
             refine ⟨?_, ?_, ?_, ?_, ?_, ?_⟩
             · (rw [hb.cell (by exact y5)]; assumption)
             · (rw [hb.cell (by exact y5)]; assumption)
             · (rw [hb.cell (by exact y5)]; assumption)
             · (rw [hb.cell (by exact x5)]; assumption)
             · (rw [hb.cell (by exact x5)]; assumption)
             · (rw [hb.cell (by exact x5)]; assumption)))
        ((go_at_call 33; refine (bstep_any _ _ _ _ _).mono ?_; rw [ES.out, sw_val]; rintro e w4 ⟨rfl, hb⟩))
      have HB4 := Lib.hid (H6.out.trans ((Below.refl w5.heap.size w5).drew.trans hb |>.mono H6.out.size))
      clear hb
      go_wp2
      go_ret
      exact ⟨rfl, HB4.out⟩
    · have hd : decide (o ≤ c - 1) = false := decide_eq_false (by omega)
      go_enter Try.func7, Try.ntmps7
      go_wp2_with fail
      refine (awake05 _).mono ?_
      rintro e w1 ⟨rfl, hb⟩
      have B1 := Lib.hid ((Box3.new w (.int .i64 c) (.bool v) (.int .i64 o) 35).below hb)
      have H1 := Lib.hid (show Below w.heap.size w w1 from ((Below.refl w.heap.size w).alloc (Nat.le_refl _) _).trans (hb.mono (by simp)))
      clear hb
      go_wp2_with fail
      refine (bnew_any _ _ _).mono ?_
      rintro e w2 ⟨rfl, hb⟩
      rw [E1.out, E2.out, sw_val]
      have B2 := Lib.hid (B1.out.below hb)
      have H2 := Lib.hid (H1.out.trans (hb.mono H1.out.size))
      clear hb B1 H1
      obtain ⟨z2, k0, k1, k2, f0, f1, f2⟩ := B2.out
      have z3 : w.heap.size < w2.heap.size + 1 := by omega
      have z4 : w.heap.size < w2.heap.size + 1 + 1 := by omega
      have z5 : w.heap.size < w2.heap.size + 1 + 1 + 1 := by omega
      go_wp2_with fail
      refine (bright_any _ _ _ _).mono ?_
      rw [HR.out]
      rintro e w3 ⟨rfl, rfl⟩
      go_wp2_with fail
      have B13 := Lib.hid (Box3.new ((w2.alloc (.cells #[.int .i64 count, .bool value, .int .i64 0] 35)).alloc (.cells #[.int .i64 c, .bool v, .int .i64 o] 35)) (.int .i64 0) (.bool false) (.int .i64 0) 35)
      have B6 := Lib.hid (B2.out.below ((((Below.refl _ _).alloc (Nat.le_refl _) (.cells #[.int .i64 count, .bool value, .int .i64 0] 35)).alloc (by simp) (.cells #[.int .i64 c, .bool v, .int .i64 o] 35)).alloc (by simp; omega) (.cells #[.int .i64 0, .bool false, .int .i64 0] 35)))
      have H6 := Lib.hid (H2.out.trans ((((Below.refl w.heap.size w2).alloc (by omega) (.cells #[.int .i64 count, .bool value, .int .i64 0] 35)).alloc (by simp; omega) (.cells #[.int .i64 c, .bool v, .int .i64 o] 35)).alloc (by simp; omega) (.cells #[.int .i64 0, .bool false, .int .i64 0] 35)))
      have hz : ((w2.alloc (.cells #[.int .i64 count, .bool value, .int .i64 0] 35)).alloc (.cells #[.int .i64 c, .bool v, .int .i64 o] 35)).heap.size = w2.heap.size + 1 + 1 := by simp
      rw [hz] at B13
      clear hz B2 k0 k1 k2 f0 f1 f2
      generalize ((w2.alloc (.cells #[.int .i64 count, .bool value, .int .i64 0] 35)).alloc (.cells #[.int .i64 c, .bool v, .int .i64 o] 35)).alloc (.cells #[.int .i64 0, .bool false, .int .i64 0] 35) = w5 at *
      obtain ⟨y5, k0, k1, k2, _, _, _⟩ := B6.out
      obtain ⟨x5, j0, j1, j2, _, _, _⟩ := B13.out
      go_region_held3 (fun w' => w'.cell? ⟨w.heap.size, 0, none⟩ = some (.int .i64 c) ∧ w'.cell? ⟨w.heap.size, 1, none⟩ = some (.bool v) ∧ w'.cell? ⟨w.heap.size, 2, none⟩ = some (.int .i64 o) ∧
          w'.cell? ⟨w2.heap.size + 1 + 1, 0, none⟩ = some (.int .i64 0) ∧ w'.cell? ⟨w2.heap.size + 1 + 1, 1, none⟩ = some (.bool false) ∧ w'.cell? ⟨w2.heap.size + 1 + 1, 2, none⟩ = some (.int .i64 0))
        (first
          | go_keep
          | (go_split_ands
             refine ⟨?_, ?_, ?_, ?_, ?_, ?_⟩
             · (rw [hb.cell (by exact y5)]; assumption)
             · (rw [hb.cell (by exact y5)]; assumption)
             · (rw [hb.cell (by exact y5)]; assumption)
             · (rw [hb.cell (by exact x5)]; assumption)
             · (rw [hb.cell (by exact x5)]; assumption)
             · (rw [hb.cell (by exact x5)]; assumption)))
        ((go_at_call 33; refine (bstep_any _ _ _ _ _).mono ?_; rw [ES.out, sw_val]; rintro e w4 ⟨rfl, hb⟩))
      have HB4 := Lib.hid (H6.out.trans ((Below.refl w5.heap.size w5).drew.trans hb |>.mono H6.out.size))
      clear hb
      go_wp2
      go_ret
      exact ⟨rfl, HB4.out⟩

set_option maxHeartbeats 8000000 in
set_option maxRecDepth 100000 in
theorem bounceSteps_less (count : Int) (value : Bool) (c o : Int) (v : Bool) (s : Bool) (w : World) (hn : count < 1) :
    Calls Try.prog 7 #[.int .i64 count, .bool value, .agg #[.int .i64 c, .bool v, .int .i64 o], .bool s] w fun e w' => e = .returned (.bool true) ∧ Below w.heap.size w w' := by
  have E1 := Lib.hid (show newS count value = ⟨0, false, 0⟩ by simp [newS]; omega)
  have E2 := Lib.hid (show newE count = 1 by simp [newE]; omega)
  cases hr : rightB ⟨c, v, o⟩ with
  | true =>
    obtain ⟨h1, h2, h3, h4⟩ := (right_iff c o v).1 hr
    have HR := Lib.hid hr
    clear hr
    have hd : decide (o ≤ c - 1) = true := decide_eq_true (by omega)
    cases hs : (s == v) with
    | true =>
      have ES := Lib.hid (show stepS ⟨c, v, o⟩ s = ⟨c, v, 0⟩ by have := HR.out; simp [stepS, this, beq_iff_eq.1 hs])
      go_enter Try.func7, Try.ntmps7
      go_wp2_with fail
      refine (awake05 _).mono ?_
      rintro e w1 ⟨rfl, hb⟩
      have B1 := Lib.hid ((Box3.new w (.int .i64 c) (.bool v) (.int .i64 o) 35).below hb)
      have H1 := Lib.hid (show Below w.heap.size w w1 from ((Below.refl w.heap.size w).alloc (Nat.le_refl _) _).trans (hb.mono (by simp)))
      clear hb
      go_wp2_with fail
      refine (bnew_any _ _ _).mono ?_
      rintro e w2 ⟨rfl, hb⟩
      rw [E1.out, E2.out, sw_val]
      have B2 := Lib.hid (B1.out.below hb)
      have H2 := Lib.hid (H1.out.trans (hb.mono H1.out.size))
      clear hb B1 H1
      obtain ⟨z2, k0, k1, k2, f0, f1, f2⟩ := B2.out
      have z3 : w.heap.size < w2.heap.size + 1 := by omega
      have z4 : w.heap.size < w2.heap.size + 1 + 1 := by omega
      have z5 : w.heap.size < w2.heap.size + 1 + 1 + 1 := by omega
      go_wp2_with fail
      refine (bright_any _ _ _ _).mono ?_
      rw [HR.out]
      rintro e w3 ⟨rfl, rfl⟩
      go_wp2_with fail
      have B13 := Lib.hid (Box3.new ((w2.alloc (.cells #[.int .i64 0, .bool false, .int .i64 0] 35)).alloc (.cells #[.int .i64 c, .bool v, .int .i64 o] 35)) (.int .i64 c) (.bool v) (.int .i64 0) 35)
      have B6 := Lib.hid (B2.out.below ((((Below.refl _ _).alloc (Nat.le_refl _) (.cells #[.int .i64 0, .bool false, .int .i64 0] 35)).alloc (by simp) (.cells #[.int .i64 c, .bool v, .int .i64 o] 35)).alloc (by simp; omega) (.cells #[.int .i64 c, .bool v, .int .i64 0] 35)))
      have H6 := Lib.hid (H2.out.trans ((((Below.refl w.heap.size w2).alloc (by omega) (.cells #[.int .i64 0, .bool false, .int .i64 0] 35)).alloc (by simp; omega) (.cells #[.int .i64 c, .bool v, .int .i64 o] 35)).alloc (by simp; omega) (.cells #[.int .i64 c, .bool v, .int .i64 0] 35)))
      have hz : ((w2.alloc (.cells #[.int .i64 0, .bool false, .int .i64 0] 35)).alloc (.cells #[.int .i64 c, .bool v, .int .i64 o] 35)).heap.size = w2.heap.size + 1 + 1 := by simp
      rw [hz] at B13
      clear hz B2 k0 k1 k2 f0 f1 f2
      generalize ((w2.alloc (.cells #[.int .i64 0, .bool false, .int .i64 0] 35)).alloc (.cells #[.int .i64 c, .bool v, .int .i64 o] 35)).alloc (.cells #[.int .i64 c, .bool v, .int .i64 0] 35) = w5 at *
      obtain ⟨y5, k0, k1, k2, _, _, _⟩ := B6.out
      obtain ⟨x5, j0, j1, j2, _, _, _⟩ := B13.out
      go_region_held3 (fun w' => w'.cell? ⟨w.heap.size, 0, none⟩ = some (.int .i64 c) ∧ w'.cell? ⟨w.heap.size, 1, none⟩ = some (.bool v) ∧ w'.cell? ⟨w.heap.size, 2, none⟩ = some (.int .i64 o) ∧
          w'.cell? ⟨w2.heap.size + 1 + 1, 0, none⟩ = some (.int .i64 c) ∧ w'.cell? ⟨w2.heap.size + 1 + 1, 1, none⟩ = some (.bool v) ∧ w'.cell? ⟨w2.heap.size + 1 + 1, 2, none⟩ = some (.int .i64 0))
        (first
          | go_keep
          | (go_split_ands
             refine ⟨?_, ?_, ?_, ?_, ?_, ?_⟩
             · (rw [hb.cell (by exact y5)]; assumption)
             · (rw [hb.cell (by exact y5)]; assumption)
             · (rw [hb.cell (by exact y5)]; assumption)
             · (rw [hb.cell (by exact x5)]; assumption)
             · (rw [hb.cell (by exact x5)]; assumption)
             · (rw [hb.cell (by exact x5)]; assumption)))
        ((go_at_call 33; refine (bstep_any _ _ _ _ _).mono ?_; rw [ES.out, sw_val]; rintro e w4 ⟨rfl, hb⟩))
      have HB4 := Lib.hid (H6.out.trans ((Below.refl w5.heap.size w5).drew.trans hb |>.mono H6.out.size))
      clear hb
      go_wp2
      go_ret
      exact ⟨rfl, HB4.out⟩
    | false =>
      have hsv : s = !v := by cases s <;> cases v <;> simp at hs ⊢
      have HSV := Lib.hid hsv
      clear hsv
      by_cases ho : o + 1 = c
      · have ho' : (o + 1 == c) = true := beq_iff_eq.2 ho
        have ES := Lib.hid (show stepS ⟨c, v, o⟩ s = ⟨c, !v, 0⟩ by have h := HR.out; rw [HSV.out]; simp [stepS, h, ho])
        clear ho
        go_enter Try.func7, Try.ntmps7
        go_wp2_with fail
        refine (awake05 _).mono ?_
        rintro e w1 ⟨rfl, hb⟩
        have B1 := Lib.hid ((Box3.new w (.int .i64 c) (.bool v) (.int .i64 o) 35).below hb)
        have H1 := Lib.hid (show Below w.heap.size w w1 from ((Below.refl w.heap.size w).alloc (Nat.le_refl _) _).trans (hb.mono (by simp)))
        clear hb
        go_wp2_with fail
        refine (bnew_any _ _ _).mono ?_
        rintro e w2 ⟨rfl, hb⟩
        rw [E1.out, E2.out, sw_val]
        have B2 := Lib.hid (B1.out.below hb)
        have H2 := Lib.hid (H1.out.trans (hb.mono H1.out.size))
        clear hb B1 H1
        obtain ⟨z2, k0, k1, k2, f0, f1, f2⟩ := B2.out
        have z3 : w.heap.size < w2.heap.size + 1 := by omega
        have z4 : w.heap.size < w2.heap.size + 1 + 1 := by omega
        have z5 : w.heap.size < w2.heap.size + 1 + 1 + 1 := by omega
        go_wp2_with fail
        refine (bright_any _ _ _ _).mono ?_
        rw [HR.out]
        rintro e w3 ⟨rfl, rfl⟩
        go_wp2_with fail
        have B13 := Lib.hid (Box3.new ((w2.alloc (.cells #[.int .i64 0, .bool false, .int .i64 0] 35)).alloc (.cells #[.int .i64 c, .bool v, .int .i64 o] 35)) (.int .i64 c) (.bool (!v)) (.int .i64 0) 35)
        have B6 := Lib.hid (B2.out.below ((((Below.refl _ _).alloc (Nat.le_refl _) (.cells #[.int .i64 0, .bool false, .int .i64 0] 35)).alloc (by simp) (.cells #[.int .i64 c, .bool v, .int .i64 o] 35)).alloc (by simp; omega) (.cells #[.int .i64 c, .bool (!v), .int .i64 0] 35)))
        have H6 := Lib.hid (H2.out.trans ((((Below.refl w.heap.size w2).alloc (by omega) (.cells #[.int .i64 0, .bool false, .int .i64 0] 35)).alloc (by simp; omega) (.cells #[.int .i64 c, .bool v, .int .i64 o] 35)).alloc (by simp; omega) (.cells #[.int .i64 c, .bool (!v), .int .i64 0] 35)))
        have hz : ((w2.alloc (.cells #[.int .i64 0, .bool false, .int .i64 0] 35)).alloc (.cells #[.int .i64 c, .bool v, .int .i64 o] 35)).heap.size = w2.heap.size + 1 + 1 := by simp
        rw [hz] at B13
        clear hz B2 k0 k1 k2 f0 f1 f2
        generalize ((w2.alloc (.cells #[.int .i64 0, .bool false, .int .i64 0] 35)).alloc (.cells #[.int .i64 c, .bool v, .int .i64 o] 35)).alloc (.cells #[.int .i64 c, .bool (!v), .int .i64 0] 35) = w5 at *
        obtain ⟨y5, k0, k1, k2, _, _, _⟩ := B6.out
        obtain ⟨x5, j0, j1, j2, _, _, _⟩ := B13.out
        go_region_held3 (fun w' => w'.cell? ⟨w.heap.size, 0, none⟩ = some (.int .i64 c) ∧ w'.cell? ⟨w.heap.size, 1, none⟩ = some (.bool v) ∧ w'.cell? ⟨w.heap.size, 2, none⟩ = some (.int .i64 o) ∧
            w'.cell? ⟨w2.heap.size + 1 + 1, 0, none⟩ = some (.int .i64 c) ∧ w'.cell? ⟨w2.heap.size + 1 + 1, 1, none⟩ = some (.bool (!v)) ∧ w'.cell? ⟨w2.heap.size + 1 + 1, 2, none⟩ = some (.int .i64 0))
          (first
            | go_keep
            | (go_split_ands
               refine ⟨?_, ?_, ?_, ?_, ?_, ?_⟩
               · (rw [hb.cell (by exact y5)]; assumption)
               · (rw [hb.cell (by exact y5)]; assumption)
               · (rw [hb.cell (by exact y5)]; assumption)
               · (rw [hb.cell (by exact x5)]; assumption)
               · (rw [hb.cell (by exact x5)]; assumption)
               · (rw [hb.cell (by exact x5)]; assumption)))
          ((go_at_call 33; refine (bstep_any _ _ _ _ _).mono ?_; rw [ES.out, sw_val]; rintro e w4 ⟨rfl, hb⟩))
        have HB4 := Lib.hid (H6.out.trans ((Below.refl w5.heap.size w5).drew.trans hb |>.mono H6.out.size))
        clear hb
        go_wp2
        go_ret
        exact ⟨rfl, HB4.out⟩
      · have ho' : (o + 1 == c) = false := beq_eq_false_iff_ne.2 ho
        have ES := Lib.hid (show stepS ⟨c, v, o⟩ s = ⟨c, v, o + 1⟩ by have h := HR.out; rw [HSV.out]; simp [stepS, h, ho])
        clear ho
        go_enter Try.func7, Try.ntmps7
        go_wp2_with fail
        refine (awake05 _).mono ?_
        rintro e w1 ⟨rfl, hb⟩
        have B1 := Lib.hid ((Box3.new w (.int .i64 c) (.bool v) (.int .i64 o) 35).below hb)
        have H1 := Lib.hid (show Below w.heap.size w w1 from ((Below.refl w.heap.size w).alloc (Nat.le_refl _) _).trans (hb.mono (by simp)))
        clear hb
        go_wp2_with fail
        refine (bnew_any _ _ _).mono ?_
        rintro e w2 ⟨rfl, hb⟩
        rw [E1.out, E2.out, sw_val]
        have B2 := Lib.hid (B1.out.below hb)
        have H2 := Lib.hid (H1.out.trans (hb.mono H1.out.size))
        clear hb B1 H1
        obtain ⟨z2, k0, k1, k2, f0, f1, f2⟩ := B2.out
        have z3 : w.heap.size < w2.heap.size + 1 := by omega
        have z4 : w.heap.size < w2.heap.size + 1 + 1 := by omega
        have z5 : w.heap.size < w2.heap.size + 1 + 1 + 1 := by omega
        go_wp2_with fail
        refine (bright_any _ _ _ _).mono ?_
        rw [HR.out]
        rintro e w3 ⟨rfl, rfl⟩
        go_wp2_with fail
        have B13 := Lib.hid (Box3.new ((w2.alloc (.cells #[.int .i64 0, .bool false, .int .i64 0] 35)).alloc (.cells #[.int .i64 c, .bool v, .int .i64 o] 35)) (.int .i64 c) (.bool v) (.int .i64 (o + 1)) 35)
        have B6 := Lib.hid (B2.out.below ((((Below.refl _ _).alloc (Nat.le_refl _) (.cells #[.int .i64 0, .bool false, .int .i64 0] 35)).alloc (by simp) (.cells #[.int .i64 c, .bool v, .int .i64 o] 35)).alloc (by simp; omega) (.cells #[.int .i64 c, .bool v, .int .i64 (o + 1)] 35)))
        have H6 := Lib.hid (H2.out.trans ((((Below.refl w.heap.size w2).alloc (by omega) (.cells #[.int .i64 0, .bool false, .int .i64 0] 35)).alloc (by simp; omega) (.cells #[.int .i64 c, .bool v, .int .i64 o] 35)).alloc (by simp; omega) (.cells #[.int .i64 c, .bool v, .int .i64 (o + 1)] 35)))
        have hz : ((w2.alloc (.cells #[.int .i64 0, .bool false, .int .i64 0] 35)).alloc (.cells #[.int .i64 c, .bool v, .int .i64 o] 35)).heap.size = w2.heap.size + 1 + 1 := by simp
        rw [hz] at B13
        clear hz B2 k0 k1 k2 f0 f1 f2
        generalize ((w2.alloc (.cells #[.int .i64 0, .bool false, .int .i64 0] 35)).alloc (.cells #[.int .i64 c, .bool v, .int .i64 o] 35)).alloc (.cells #[.int .i64 c, .bool v, .int .i64 (o + 1)] 35) = w5 at *
        obtain ⟨y5, k0, k1, k2, _, _, _⟩ := B6.out
        obtain ⟨x5, j0, j1, j2, _, _, _⟩ := B13.out
        go_region_held3 (fun w' => w'.cell? ⟨w.heap.size, 0, none⟩ = some (.int .i64 c) ∧ w'.cell? ⟨w.heap.size, 1, none⟩ = some (.bool v) ∧ w'.cell? ⟨w.heap.size, 2, none⟩ = some (.int .i64 o) ∧
            w'.cell? ⟨w2.heap.size + 1 + 1, 0, none⟩ = some (.int .i64 c) ∧ w'.cell? ⟨w2.heap.size + 1 + 1, 1, none⟩ = some (.bool v) ∧ w'.cell? ⟨w2.heap.size + 1 + 1, 2, none⟩ = some (.int .i64 (o + 1)))
          (first
            | go_keep
            | (go_split_ands
               refine ⟨?_, ?_, ?_, ?_, ?_, ?_⟩
               · (rw [hb.cell (by exact y5)]; assumption)
               · (rw [hb.cell (by exact y5)]; assumption)
               · (rw [hb.cell (by exact y5)]; assumption)
               · (rw [hb.cell (by exact x5)]; assumption)
               · (rw [hb.cell (by exact x5)]; assumption)
               · (rw [hb.cell (by exact x5)]; assumption)))
          ((go_at_call 33; refine (bstep_any _ _ _ _ _).mono ?_; rw [ES.out, sw_val]; rintro e w4 ⟨rfl, hb⟩))
        have HB4 := Lib.hid (H6.out.trans ((Below.refl w5.heap.size w5).drew.trans hb |>.mono H6.out.size))
        clear hb
        go_wp2
        go_ret
        exact ⟨rfl, HB4.out⟩
  | false =>
    have hw := (wrong_iff c o v).1 hr
    have ES := Lib.hid (show stepS ⟨c, v, o⟩ s = ⟨0, false, 0⟩ by simp [stepS, hr])
    have HR := Lib.hid hr
    clear hr
    have hw' : c < 1 ∨ (1 ≤ c ∧ 20 < c) ∨ (1 ≤ c ∧ c ≤ 20 ∧ o < 0) ∨ (1 ≤ c ∧ c ≤ 20 ∧ 0 ≤ o ∧ c ≤ o) := by omega
    clear hw
    rcases hw' with h1 | ⟨h1, h2⟩ | ⟨h1, h2, h3⟩ | ⟨h1, h2, h3, h4⟩
    · have hq : True := trivial
      go_enter Try.func7, Try.ntmps7
      go_wp2_with fail
      refine (awake05 _).mono ?_
      rintro e w1 ⟨rfl, hb⟩
      have B1 := Lib.hid ((Box3.new w (.int .i64 c) (.bool v) (.int .i64 o) 35).below hb)
      have H1 := Lib.hid (show Below w.heap.size w w1 from ((Below.refl w.heap.size w).alloc (Nat.le_refl _) _).trans (hb.mono (by simp)))
      clear hb
      go_wp2_with fail
      refine (bnew_any _ _ _).mono ?_
      rintro e w2 ⟨rfl, hb⟩
      rw [E1.out, E2.out, sw_val]
      have B2 := Lib.hid (B1.out.below hb)
      have H2 := Lib.hid (H1.out.trans (hb.mono H1.out.size))
      clear hb B1 H1
      obtain ⟨z2, k0, k1, k2, f0, f1, f2⟩ := B2.out
      have z3 : w.heap.size < w2.heap.size + 1 := by omega
      have z4 : w.heap.size < w2.heap.size + 1 + 1 := by omega
      have z5 : w.heap.size < w2.heap.size + 1 + 1 + 1 := by omega
      go_wp2_with fail
      refine (bright_any _ _ _ _).mono ?_
      rw [HR.out]
      rintro e w3 ⟨rfl, rfl⟩
      go_wp2_with fail
      have B13 := Lib.hid (Box3.new ((w2.alloc (.cells #[.int .i64 0, .bool false, .int .i64 0] 35)).alloc (.cells #[.int .i64 c, .bool v, .int .i64 o] 35)) (.int .i64 0) (.bool false) (.int .i64 0) 35)
      have B6 := Lib.hid (B2.out.below ((((Below.refl _ _).alloc (Nat.le_refl _) (.cells #[.int .i64 0, .bool false, .int .i64 0] 35)).alloc (by simp) (.cells #[.int .i64 c, .bool v, .int .i64 o] 35)).alloc (by simp; omega) (.cells #[.int .i64 0, .bool false, .int .i64 0] 35)))
      have H6 := Lib.hid (H2.out.trans ((((Below.refl w.heap.size w2).alloc (by omega) (.cells #[.int .i64 0, .bool false, .int .i64 0] 35)).alloc (by simp; omega) (.cells #[.int .i64 c, .bool v, .int .i64 o] 35)).alloc (by simp; omega) (.cells #[.int .i64 0, .bool false, .int .i64 0] 35)))
      have hz : ((w2.alloc (.cells #[.int .i64 0, .bool false, .int .i64 0] 35)).alloc (.cells #[.int .i64 c, .bool v, .int .i64 o] 35)).heap.size = w2.heap.size + 1 + 1 := by simp
      rw [hz] at B13
      clear hz B2 k0 k1 k2 f0 f1 f2
      generalize ((w2.alloc (.cells #[.int .i64 0, .bool false, .int .i64 0] 35)).alloc (.cells #[.int .i64 c, .bool v, .int .i64 o] 35)).alloc (.cells #[.int .i64 0, .bool false, .int .i64 0] 35) = w5 at *
      obtain ⟨y5, k0, k1, k2, _, _, _⟩ := B6.out
      obtain ⟨x5, j0, j1, j2, _, _, _⟩ := B13.out
      go_region_held3 (fun w' => w'.cell? ⟨w.heap.size, 0, none⟩ = some (.int .i64 c) ∧ w'.cell? ⟨w.heap.size, 1, none⟩ = some (.bool v) ∧ w'.cell? ⟨w.heap.size, 2, none⟩ = some (.int .i64 o) ∧
          w'.cell? ⟨w2.heap.size + 1 + 1, 0, none⟩ = some (.int .i64 0) ∧ w'.cell? ⟨w2.heap.size + 1 + 1, 1, none⟩ = some (.bool false) ∧ w'.cell? ⟨w2.heap.size + 1 + 1, 2, none⟩ = some (.int .i64 0))
        (first
          | go_keep
          | (go_split_ands
             refine ⟨?_, ?_, ?_, ?_, ?_, ?_⟩
             · (rw [hb.cell (by exact y5)]; assumption)
             · (rw [hb.cell (by exact y5)]; assumption)
             · (rw [hb.cell (by exact y5)]; assumption)
             · (rw [hb.cell (by exact x5)]; assumption)
             · (rw [hb.cell (by exact x5)]; assumption)
             · (rw [hb.cell (by exact x5)]; assumption)))
        ((go_at_call 33; refine (bstep_any _ _ _ _ _).mono ?_; rw [ES.out, sw_val]; rintro e w4 ⟨rfl, hb⟩))
      have HB4 := Lib.hid (H6.out.trans ((Below.refl w5.heap.size w5).drew.trans hb |>.mono H6.out.size))
      clear hb
      go_wp2
      go_ret
      exact ⟨rfl, HB4.out⟩
    · have hq : True := trivial
      go_enter Try.func7, Try.ntmps7
      go_wp2_with fail
      refine (awake05 _).mono ?_
      rintro e w1 ⟨rfl, hb⟩
      have B1 := Lib.hid ((Box3.new w (.int .i64 c) (.bool v) (.int .i64 o) 35).below hb)
      have H1 := Lib.hid (show Below w.heap.size w w1 from ((Below.refl w.heap.size w).alloc (Nat.le_refl _) _).trans (hb.mono (by simp)))
      clear hb
      go_wp2_with fail
      refine (bnew_any _ _ _).mono ?_
      rintro e w2 ⟨rfl, hb⟩
      rw [E1.out, E2.out, sw_val]
      have B2 := Lib.hid (B1.out.below hb)
      have H2 := Lib.hid (H1.out.trans (hb.mono H1.out.size))
      clear hb B1 H1
      obtain ⟨z2, k0, k1, k2, f0, f1, f2⟩ := B2.out
      have z3 : w.heap.size < w2.heap.size + 1 := by omega
      have z4 : w.heap.size < w2.heap.size + 1 + 1 := by omega
      have z5 : w.heap.size < w2.heap.size + 1 + 1 + 1 := by omega
      go_wp2_with fail
      refine (bright_any _ _ _ _).mono ?_
      rw [HR.out]
      rintro e w3 ⟨rfl, rfl⟩
      go_wp2_with fail
      have B13 := Lib.hid (Box3.new ((w2.alloc (.cells #[.int .i64 0, .bool false, .int .i64 0] 35)).alloc (.cells #[.int .i64 c, .bool v, .int .i64 o] 35)) (.int .i64 0) (.bool false) (.int .i64 0) 35)
      have B6 := Lib.hid (B2.out.below ((((Below.refl _ _).alloc (Nat.le_refl _) (.cells #[.int .i64 0, .bool false, .int .i64 0] 35)).alloc (by simp) (.cells #[.int .i64 c, .bool v, .int .i64 o] 35)).alloc (by simp; omega) (.cells #[.int .i64 0, .bool false, .int .i64 0] 35)))
      have H6 := Lib.hid (H2.out.trans ((((Below.refl w.heap.size w2).alloc (by omega) (.cells #[.int .i64 0, .bool false, .int .i64 0] 35)).alloc (by simp; omega) (.cells #[.int .i64 c, .bool v, .int .i64 o] 35)).alloc (by simp; omega) (.cells #[.int .i64 0, .bool false, .int .i64 0] 35)))
      have hz : ((w2.alloc (.cells #[.int .i64 0, .bool false, .int .i64 0] 35)).alloc (.cells #[.int .i64 c, .bool v, .int .i64 o] 35)).heap.size = w2.heap.size + 1 + 1 := by simp
      rw [hz] at B13
      clear hz B2 k0 k1 k2 f0 f1 f2
      generalize ((w2.alloc (.cells #[.int .i64 0, .bool false, .int .i64 0] 35)).alloc (.cells #[.int .i64 c, .bool v, .int .i64 o] 35)).alloc (.cells #[.int .i64 0, .bool false, .int .i64 0] 35) = w5 at *
      obtain ⟨y5, k0, k1, k2, _, _, _⟩ := B6.out
      obtain ⟨x5, j0, j1, j2, _, _, _⟩ := B13.out
      go_region_held3 (fun w' => w'.cell? ⟨w.heap.size, 0, none⟩ = some (.int .i64 c) ∧ w'.cell? ⟨w.heap.size, 1, none⟩ = some (.bool v) ∧ w'.cell? ⟨w.heap.size, 2, none⟩ = some (.int .i64 o) ∧
          w'.cell? ⟨w2.heap.size + 1 + 1, 0, none⟩ = some (.int .i64 0) ∧ w'.cell? ⟨w2.heap.size + 1 + 1, 1, none⟩ = some (.bool false) ∧ w'.cell? ⟨w2.heap.size + 1 + 1, 2, none⟩ = some (.int .i64 0))
        (first
          | go_keep
          | (go_split_ands
             refine ⟨?_, ?_, ?_, ?_, ?_, ?_⟩
             · (rw [hb.cell (by exact y5)]; assumption)
             · (rw [hb.cell (by exact y5)]; assumption)
             · (rw [hb.cell (by exact y5)]; assumption)
             · (rw [hb.cell (by exact x5)]; assumption)
             · (rw [hb.cell (by exact x5)]; assumption)
             · (rw [hb.cell (by exact x5)]; assumption)))
        ((go_at_call 33; refine (bstep_any _ _ _ _ _).mono ?_; rw [ES.out, sw_val]; rintro e w4 ⟨rfl, hb⟩))
      have HB4 := Lib.hid (H6.out.trans ((Below.refl w5.heap.size w5).drew.trans hb |>.mono H6.out.size))
      clear hb
      go_wp2
      go_ret
      exact ⟨rfl, HB4.out⟩
    · have hq : True := trivial
      go_enter Try.func7, Try.ntmps7
      go_wp2_with fail
      refine (awake05 _).mono ?_
      rintro e w1 ⟨rfl, hb⟩
      have B1 := Lib.hid ((Box3.new w (.int .i64 c) (.bool v) (.int .i64 o) 35).below hb)
      have H1 := Lib.hid (show Below w.heap.size w w1 from ((Below.refl w.heap.size w).alloc (Nat.le_refl _) _).trans (hb.mono (by simp)))
      clear hb
      go_wp2_with fail
      refine (bnew_any _ _ _).mono ?_
      rintro e w2 ⟨rfl, hb⟩
      rw [E1.out, E2.out, sw_val]
      have B2 := Lib.hid (B1.out.below hb)
      have H2 := Lib.hid (H1.out.trans (hb.mono H1.out.size))
      clear hb B1 H1
      obtain ⟨z2, k0, k1, k2, f0, f1, f2⟩ := B2.out
      have z3 : w.heap.size < w2.heap.size + 1 := by omega
      have z4 : w.heap.size < w2.heap.size + 1 + 1 := by omega
      have z5 : w.heap.size < w2.heap.size + 1 + 1 + 1 := by omega
      go_wp2_with fail
      refine (bright_any _ _ _ _).mono ?_
      rw [HR.out]
      rintro e w3 ⟨rfl, rfl⟩
      go_wp2_with fail
      have B13 := Lib.hid (Box3.new ((w2.alloc (.cells #[.int .i64 0, .bool false, .int .i64 0] 35)).alloc (.cells #[.int .i64 c, .bool v, .int .i64 o] 35)) (.int .i64 0) (.bool false) (.int .i64 0) 35)
      have B6 := Lib.hid (B2.out.below ((((Below.refl _ _).alloc (Nat.le_refl _) (.cells #[.int .i64 0, .bool false, .int .i64 0] 35)).alloc (by simp) (.cells #[.int .i64 c, .bool v, .int .i64 o] 35)).alloc (by simp; omega) (.cells #[.int .i64 0, .bool false, .int .i64 0] 35)))
      have H6 := Lib.hid (H2.out.trans ((((Below.refl w.heap.size w2).alloc (by omega) (.cells #[.int .i64 0, .bool false, .int .i64 0] 35)).alloc (by simp; omega) (.cells #[.int .i64 c, .bool v, .int .i64 o] 35)).alloc (by simp; omega) (.cells #[.int .i64 0, .bool false, .int .i64 0] 35)))
      have hz : ((w2.alloc (.cells #[.int .i64 0, .bool false, .int .i64 0] 35)).alloc (.cells #[.int .i64 c, .bool v, .int .i64 o] 35)).heap.size = w2.heap.size + 1 + 1 := by simp
      rw [hz] at B13
      clear hz B2 k0 k1 k2 f0 f1 f2
      generalize ((w2.alloc (.cells #[.int .i64 0, .bool false, .int .i64 0] 35)).alloc (.cells #[.int .i64 c, .bool v, .int .i64 o] 35)).alloc (.cells #[.int .i64 0, .bool false, .int .i64 0] 35) = w5 at *
      obtain ⟨y5, k0, k1, k2, _, _, _⟩ := B6.out
      obtain ⟨x5, j0, j1, j2, _, _, _⟩ := B13.out
      go_region_held3 (fun w' => w'.cell? ⟨w.heap.size, 0, none⟩ = some (.int .i64 c) ∧ w'.cell? ⟨w.heap.size, 1, none⟩ = some (.bool v) ∧ w'.cell? ⟨w.heap.size, 2, none⟩ = some (.int .i64 o) ∧
          w'.cell? ⟨w2.heap.size + 1 + 1, 0, none⟩ = some (.int .i64 0) ∧ w'.cell? ⟨w2.heap.size + 1 + 1, 1, none⟩ = some (.bool false) ∧ w'.cell? ⟨w2.heap.size + 1 + 1, 2, none⟩ = some (.int .i64 0))
        (first
          | go_keep
          | (go_split_ands
             refine ⟨?_, ?_, ?_, ?_, ?_, ?_⟩
             · (rw [hb.cell (by exact y5)]; assumption)
             · (rw [hb.cell (by exact y5)]; assumption)
             · (rw [hb.cell (by exact y5)]; assumption)
             · (rw [hb.cell (by exact x5)]; assumption)
             · (rw [hb.cell (by exact x5)]; assumption)
             · (rw [hb.cell (by exact x5)]; assumption)))
        ((go_at_call 33; refine (bstep_any _ _ _ _ _).mono ?_; rw [ES.out, sw_val]; rintro e w4 ⟨rfl, hb⟩))
      have HB4 := Lib.hid (H6.out.trans ((Below.refl w5.heap.size w5).drew.trans hb |>.mono H6.out.size))
      clear hb
      go_wp2
      go_ret
      exact ⟨rfl, HB4.out⟩
    · have hd : decide (o ≤ c - 1) = false := decide_eq_false (by omega)
      go_enter Try.func7, Try.ntmps7
      go_wp2_with fail
      refine (awake05 _).mono ?_
      rintro e w1 ⟨rfl, hb⟩
      have B1 := Lib.hid ((Box3.new w (.int .i64 c) (.bool v) (.int .i64 o) 35).below hb)
      have H1 := Lib.hid (show Below w.heap.size w w1 from ((Below.refl w.heap.size w).alloc (Nat.le_refl _) _).trans (hb.mono (by simp)))
      clear hb
      go_wp2_with fail
      refine (bnew_any _ _ _).mono ?_
      rintro e w2 ⟨rfl, hb⟩
      rw [E1.out, E2.out, sw_val]
      have B2 := Lib.hid (B1.out.below hb)
      have H2 := Lib.hid (H1.out.trans (hb.mono H1.out.size))
      clear hb B1 H1
      obtain ⟨z2, k0, k1, k2, f0, f1, f2⟩ := B2.out
      have z3 : w.heap.size < w2.heap.size + 1 := by omega
      have z4 : w.heap.size < w2.heap.size + 1 + 1 := by omega
      have z5 : w.heap.size < w2.heap.size + 1 + 1 + 1 := by omega
      go_wp2_with fail
      refine (bright_any _ _ _ _).mono ?_
      rw [HR.out]
      rintro e w3 ⟨rfl, rfl⟩
      go_wp2_with fail
      have B13 := Lib.hid (Box3.new ((w2.alloc (.cells #[.int .i64 0, .bool false, .int .i64 0] 35)).alloc (.cells #[.int .i64 c, .bool v, .int .i64 o] 35)) (.int .i64 0) (.bool false) (.int .i64 0) 35)
      have B6 := Lib.hid (B2.out.below ((((Below.refl _ _).alloc (Nat.le_refl _) (.cells #[.int .i64 0, .bool false, .int .i64 0] 35)).alloc (by simp) (.cells #[.int .i64 c, .bool v, .int .i64 o] 35)).alloc (by simp; omega) (.cells #[.int .i64 0, .bool false, .int .i64 0] 35)))
      have H6 := Lib.hid (H2.out.trans ((((Below.refl w.heap.size w2).alloc (by omega) (.cells #[.int .i64 0, .bool false, .int .i64 0] 35)).alloc (by simp; omega) (.cells #[.int .i64 c, .bool v, .int .i64 o] 35)).alloc (by simp; omega) (.cells #[.int .i64 0, .bool false, .int .i64 0] 35)))
      have hz : ((w2.alloc (.cells #[.int .i64 0, .bool false, .int .i64 0] 35)).alloc (.cells #[.int .i64 c, .bool v, .int .i64 o] 35)).heap.size = w2.heap.size + 1 + 1 := by simp
      rw [hz] at B13
      clear hz B2 k0 k1 k2 f0 f1 f2
      generalize ((w2.alloc (.cells #[.int .i64 0, .bool false, .int .i64 0] 35)).alloc (.cells #[.int .i64 c, .bool v, .int .i64 o] 35)).alloc (.cells #[.int .i64 0, .bool false, .int .i64 0] 35) = w5 at *
      obtain ⟨y5, k0, k1, k2, _, _, _⟩ := B6.out
      obtain ⟨x5, j0, j1, j2, _, _, _⟩ := B13.out
      go_region_held3 (fun w' => w'.cell? ⟨w.heap.size, 0, none⟩ = some (.int .i64 c) ∧ w'.cell? ⟨w.heap.size, 1, none⟩ = some (.bool v) ∧ w'.cell? ⟨w.heap.size, 2, none⟩ = some (.int .i64 o) ∧
          w'.cell? ⟨w2.heap.size + 1 + 1, 0, none⟩ = some (.int .i64 0) ∧ w'.cell? ⟨w2.heap.size + 1 + 1, 1, none⟩ = some (.bool false) ∧ w'.cell? ⟨w2.heap.size + 1 + 1, 2, none⟩ = some (.int .i64 0))
        (first
          | go_keep
          | (go_split_ands
             refine ⟨?_, ?_, ?_, ?_, ?_, ?_⟩
             · (rw [hb.cell (by exact y5)]; assumption)
             · (rw [hb.cell (by exact y5)]; assumption)
             · (rw [hb.cell (by exact y5)]; assumption)
             · (rw [hb.cell (by exact x5)]; assumption)
             · (rw [hb.cell (by exact x5)]; assumption)
             · (rw [hb.cell (by exact x5)]; assumption)))
        ((go_at_call 33; refine (bstep_any _ _ _ _ _).mono ?_; rw [ES.out, sw_val]; rintro e w4 ⟨rfl, hb⟩))
      have HB4 := Lib.hid (H6.out.trans ((Below.refl w5.heap.size w5).drew.trans hb |>.mono H6.out.size))
      clear hb
      go_wp2
      go_ret
      exact ⟨rfl, HB4.out⟩

set_option maxHeartbeats 8000000 in
set_option maxRecDepth 100000 in
theorem bounceSteps_more (count : Int) (value : Bool) (c o : Int) (v : Bool) (s : Bool) (w : World) (hn1 : 1 ≤ count) (hn2 : 20 < count) :
    Calls Try.prog 7 #[.int .i64 count, .bool value, .agg #[.int .i64 c, .bool v, .int .i64 o], .bool s] w fun e w' => e = .returned (.bool true) ∧ Below w.heap.size w w' := by
  have E1 := Lib.hid (show newS count value = ⟨0, false, 0⟩ by simp [newS]; omega)
  have E2 := Lib.hid (show newE count = 1 by simp [newE]; omega)
  cases hr : rightB ⟨c, v, o⟩ with
  | true =>
    obtain ⟨h1, h2, h3, h4⟩ := (right_iff c o v).1 hr
    have HR := Lib.hid hr
    clear hr
    have hd : decide (o ≤ c - 1) = true := decide_eq_true (by omega)
    cases hs : (s == v) with
    | true =>
      have ES := Lib.hid (show stepS ⟨c, v, o⟩ s = ⟨c, v, 0⟩ by have := HR.out; simp [stepS, this, beq_iff_eq.1 hs])
      go_enter Try.func7, Try.ntmps7
      go_wp2_with fail
      refine (awake05 _).mono ?_
      rintro e w1 ⟨rfl, hb⟩
      have B1 := Lib.hid ((Box3.new w (.int .i64 c) (.bool v) (.int .i64 o) 35).below hb)
      have H1 := Lib.hid (show Below w.heap.size w w1 from ((Below.refl w.heap.size w).alloc (Nat.le_refl _) _).trans (hb.mono (by simp)))
      clear hb
      go_wp2_with fail
      refine (bnew_any _ _ _).mono ?_
      rintro e w2 ⟨rfl, hb⟩
      rw [E1.out, E2.out, sw_val]
      have B2 := Lib.hid (B1.out.below hb)
      have H2 := Lib.hid (H1.out.trans (hb.mono H1.out.size))
      clear hb B1 H1
      obtain ⟨z2, k0, k1, k2, f0, f1, f2⟩ := B2.out
      have z3 : w.heap.size < w2.heap.size + 1 := by omega
      have z4 : w.heap.size < w2.heap.size + 1 + 1 := by omega
      have z5 : w.heap.size < w2.heap.size + 1 + 1 + 1 := by omega
      go_wp2_with fail
      refine (bright_any _ _ _ _).mono ?_
      rw [HR.out]
      rintro e w3 ⟨rfl, rfl⟩
      go_wp2_with fail
      have B13 := Lib.hid (Box3.new ((w2.alloc (.cells #[.int .i64 0, .bool false, .int .i64 0] 35)).alloc (.cells #[.int .i64 c, .bool v, .int .i64 o] 35)) (.int .i64 c) (.bool v) (.int .i64 0) 35)
      have B6 := Lib.hid (B2.out.below ((((Below.refl _ _).alloc (Nat.le_refl _) (.cells #[.int .i64 0, .bool false, .int .i64 0] 35)).alloc (by simp) (.cells #[.int .i64 c, .bool v, .int .i64 o] 35)).alloc (by simp; omega) (.cells #[.int .i64 c, .bool v, .int .i64 0] 35)))
      have H6 := Lib.hid (H2.out.trans ((((Below.refl w.heap.size w2).alloc (by omega) (.cells #[.int .i64 0, .bool false, .int .i64 0] 35)).alloc (by simp; omega) (.cells #[.int .i64 c, .bool v, .int .i64 o] 35)).alloc (by simp; omega) (.cells #[.int .i64 c, .bool v, .int .i64 0] 35)))
      have hz : ((w2.alloc (.cells #[.int .i64 0, .bool false, .int .i64 0] 35)).alloc (.cells #[.int .i64 c, .bool v, .int .i64 o] 35)).heap.size = w2.heap.size + 1 + 1 := by simp
      rw [hz] at B13
      clear hz B2 k0 k1 k2 f0 f1 f2
      generalize ((w2.alloc (.cells #[.int .i64 0, .bool false, .int .i64 0] 35)).alloc (.cells #[.int .i64 c, .bool v, .int .i64 o] 35)).alloc (.cells #[.int .i64 c, .bool v, .int .i64 0] 35) = w5 at *
      obtain ⟨y5, k0, k1, k2, _, _, _⟩ := B6.out
      obtain ⟨x5, j0, j1, j2, _, _, _⟩ := B13.out
      go_region_held3 (fun w' => w'.cell? ⟨w.heap.size, 0, none⟩ = some (.int .i64 c) ∧ w'.cell? ⟨w.heap.size, 1, none⟩ = some (.bool v) ∧ w'.cell? ⟨w.heap.size, 2, none⟩ = some (.int .i64 o) ∧
          w'.cell? ⟨w2.heap.size + 1 + 1, 0, none⟩ = some (.int .i64 c) ∧ w'.cell? ⟨w2.heap.size + 1 + 1, 1, none⟩ = some (.bool v) ∧ w'.cell? ⟨w2.heap.size + 1 + 1, 2, none⟩ = some (.int .i64 0))
        (first
          | go_keep
          | (go_split_ands
             refine ⟨?_, ?_, ?_, ?_, ?_, ?_⟩
             · (rw [hb.cell (by exact y5)]; assumption)
             · (rw [hb.cell (by exact y5)]; assumption)
             · (rw [hb.cell (by exact y5)]; assumption)
             · (rw [hb.cell (by exact x5)]; assumption)
             · (rw [hb.cell (by exact x5)]; assumption)
             · (rw [hb.cell (by exact x5)]; assumption)))
        ((go_at_call 33; refine (bstep_any _ _ _ _ _).mono ?_; rw [ES.out, sw_val]; rintro e w4 ⟨rfl, hb⟩))
      have HB4 := Lib.hid (H6.out.trans ((Below.refl w5.heap.size w5).drew.trans hb |>.mono H6.out.size))
      clear hb
      go_wp2
      go_ret
      exact ⟨rfl, HB4.out⟩
    | false =>
      have hsv : s = !v := by cases s <;> cases v <;> simp at hs ⊢
      have HSV := Lib.hid hsv
      clear hsv
      by_cases ho : o + 1 = c
      · have ho' : (o + 1 == c) = true := beq_iff_eq.2 ho
        have ES := Lib.hid (show stepS ⟨c, v, o⟩ s = ⟨c, !v, 0⟩ by have h := HR.out; rw [HSV.out]; simp [stepS, h, ho])
        clear ho
        go_enter Try.func7, Try.ntmps7
        go_wp2_with fail
        refine (awake05 _).mono ?_
        rintro e w1 ⟨rfl, hb⟩
        have B1 := Lib.hid ((Box3.new w (.int .i64 c) (.bool v) (.int .i64 o) 35).below hb)
        have H1 := Lib.hid (show Below w.heap.size w w1 from ((Below.refl w.heap.size w).alloc (Nat.le_refl _) _).trans (hb.mono (by simp)))
        clear hb
        go_wp2_with fail
        refine (bnew_any _ _ _).mono ?_
        rintro e w2 ⟨rfl, hb⟩
        rw [E1.out, E2.out, sw_val]
        have B2 := Lib.hid (B1.out.below hb)
        have H2 := Lib.hid (H1.out.trans (hb.mono H1.out.size))
        clear hb B1 H1
        obtain ⟨z2, k0, k1, k2, f0, f1, f2⟩ := B2.out
        have z3 : w.heap.size < w2.heap.size + 1 := by omega
        have z4 : w.heap.size < w2.heap.size + 1 + 1 := by omega
        have z5 : w.heap.size < w2.heap.size + 1 + 1 + 1 := by omega
        go_wp2_with fail
        refine (bright_any _ _ _ _).mono ?_
        rw [HR.out]
        rintro e w3 ⟨rfl, rfl⟩
        go_wp2_with fail
        have B13 := Lib.hid (Box3.new ((w2.alloc (.cells #[.int .i64 0, .bool false, .int .i64 0] 35)).alloc (.cells #[.int .i64 c, .bool v, .int .i64 o] 35)) (.int .i64 c) (.bool (!v)) (.int .i64 0) 35)
        have B6 := Lib.hid (B2.out.below ((((Below.refl _ _).alloc (Nat.le_refl _) (.cells #[.int .i64 0, .bool false, .int .i64 0] 35)).alloc (by simp) (.cells #[.int .i64 c, .bool v, .int .i64 o] 35)).alloc (by simp; omega) (.cells #[.int .i64 c, .bool (!v), .int .i64 0] 35)))
        have H6 := Lib.hid (H2.out.trans ((((Below.refl w.heap.size w2).alloc (by omega) (.cells #[.int .i64 0, .bool false, .int .i64 0] 35)).alloc (by simp; omega) (.cells #[.int .i64 c, .bool v, .int .i64 o] 35)).alloc (by simp; omega) (.cells #[.int .i64 c, .bool (!v), .int .i64 0] 35)))
        have hz : ((w2.alloc (.cells #[.int .i64 0, .bool false, .int .i64 0] 35)).alloc (.cells #[.int .i64 c, .bool v, .int .i64 o] 35)).heap.size = w2.heap.size + 1 + 1 := by simp
        rw [hz] at B13
        clear hz B2 k0 k1 k2 f0 f1 f2
        generalize ((w2.alloc (.cells #[.int .i64 0, .bool false, .int .i64 0] 35)).alloc (.cells #[.int .i64 c, .bool v, .int .i64 o] 35)).alloc (.cells #[.int .i64 c, .bool (!v), .int .i64 0] 35) = w5 at *
        obtain ⟨y5, k0, k1, k2, _, _, _⟩ := B6.out
        obtain ⟨x5, j0, j1, j2, _, _, _⟩ := B13.out
        go_region_held3 (fun w' => w'.cell? ⟨w.heap.size, 0, none⟩ = some (.int .i64 c) ∧ w'.cell? ⟨w.heap.size, 1, none⟩ = some (.bool v) ∧ w'.cell? ⟨w.heap.size, 2, none⟩ = some (.int .i64 o) ∧
            w'.cell? ⟨w2.heap.size + 1 + 1, 0, none⟩ = some (.int .i64 c) ∧ w'.cell? ⟨w2.heap.size + 1 + 1, 1, none⟩ = some (.bool (!v)) ∧ w'.cell? ⟨w2.heap.size + 1 + 1, 2, none⟩ = some (.int .i64 0))
          (first
            | go_keep
            | (go_split_ands
               refine ⟨?_, ?_, ?_, ?_, ?_, ?_⟩
               · (rw [hb.cell (by exact y5)]; assumption)
               · (rw [hb.cell (by exact y5)]; assumption)
               · (rw [hb.cell (by exact y5)]; assumption)
               · (rw [hb.cell (by exact x5)]; assumption)
               · (rw [hb.cell (by exact x5)]; assumption)
               · (rw [hb.cell (by exact x5)]; assumption)))
          ((go_at_call 33; refine (bstep_any _ _ _ _ _).mono ?_; rw [ES.out, sw_val]; rintro e w4 ⟨rfl, hb⟩))
        have HB4 := Lib.hid (H6.out.trans ((Below.refl w5.heap.size w5).drew.trans hb |>.mono H6.out.size))
        clear hb
        go_wp2
        go_ret
        exact ⟨rfl, HB4.out⟩
      · have ho' : (o + 1 == c) = false := beq_eq_false_iff_ne.2 ho
        have ES := Lib.hid (show stepS ⟨c, v, o⟩ s = ⟨c, v, o + 1⟩ by have h := HR.out; rw [HSV.out]; simp [stepS, h, ho])
        clear ho
        go_enter Try.func7, Try.ntmps7
        go_wp2_with fail
        refine (awake05 _).mono ?_
        rintro e w1 ⟨rfl, hb⟩
        have B1 := Lib.hid ((Box3.new w (.int .i64 c) (.bool v) (.int .i64 o) 35).below hb)
        have H1 := Lib.hid (show Below w.heap.size w w1 from ((Below.refl w.heap.size w).alloc (Nat.le_refl _) _).trans (hb.mono (by simp)))
        clear hb
        go_wp2_with fail
        refine (bnew_any _ _ _).mono ?_
        rintro e w2 ⟨rfl, hb⟩
        rw [E1.out, E2.out, sw_val]
        have B2 := Lib.hid (B1.out.below hb)
        have H2 := Lib.hid (H1.out.trans (hb.mono H1.out.size))
        clear hb B1 H1
        obtain ⟨z2, k0, k1, k2, f0, f1, f2⟩ := B2.out
        have z3 : w.heap.size < w2.heap.size + 1 := by omega
        have z4 : w.heap.size < w2.heap.size + 1 + 1 := by omega
        have z5 : w.heap.size < w2.heap.size + 1 + 1 + 1 := by omega
        go_wp2_with fail
        refine (bright_any _ _ _ _).mono ?_
        rw [HR.out]
        rintro e w3 ⟨rfl, rfl⟩
        go_wp2_with fail
        have B13 := Lib.hid (Box3.new ((w2.alloc (.cells #[.int .i64 0, .bool false, .int .i64 0] 35)).alloc (.cells #[.int .i64 c, .bool v, .int .i64 o] 35)) (.int .i64 c) (.bool v) (.int .i64 (o + 1)) 35)
        have B6 := Lib.hid (B2.out.below ((((Below.refl _ _).alloc (Nat.le_refl _) (.cells #[.int .i64 0, .bool false, .int .i64 0] 35)).alloc (by simp) (.cells #[.int .i64 c, .bool v, .int .i64 o] 35)).alloc (by simp; omega) (.cells #[.int .i64 c, .bool v, .int .i64 (o + 1)] 35)))
        have H6 := Lib.hid (H2.out.trans ((((Below.refl w.heap.size w2).alloc (by omega) (.cells #[.int .i64 0, .bool false, .int .i64 0] 35)).alloc (by simp; omega) (.cells #[.int .i64 c, .bool v, .int .i64 o] 35)).alloc (by simp; omega) (.cells #[.int .i64 c, .bool v, .int .i64 (o + 1)] 35)))
        have hz : ((w2.alloc (.cells #[.int .i64 0, .bool false, .int .i64 0] 35)).alloc (.cells #[.int .i64 c, .bool v, .int .i64 o] 35)).heap.size = w2.heap.size + 1 + 1 := by simp
        rw [hz] at B13
        clear hz B2 k0 k1 k2 f0 f1 f2
        generalize ((w2.alloc (.cells #[.int .i64 0, .bool false, .int .i64 0] 35)).alloc (.cells #[.int .i64 c, .bool v, .int .i64 o] 35)).alloc (.cells #[.int .i64 c, .bool v, .int .i64 (o + 1)] 35) = w5 at *
        obtain ⟨y5, k0, k1, k2, _, _, _⟩ := B6.out
        obtain ⟨x5, j0, j1, j2, _, _, _⟩ := B13.out
        go_region_held3 (fun w' => w'.cell? ⟨w.heap.size, 0, none⟩ = some (.int .i64 c) ∧ w'.cell? ⟨w.heap.size, 1, none⟩ = some (.bool v) ∧ w'.cell? ⟨w.heap.size, 2, none⟩ = some (.int .i64 o) ∧
            w'.cell? ⟨w2.heap.size + 1 + 1, 0, none⟩ = some (.int .i64 c) ∧ w'.cell? ⟨w2.heap.size + 1 + 1, 1, none⟩ = some (.bool v) ∧ w'.cell? ⟨w2.heap.size + 1 + 1, 2, none⟩ = some (.int .i64 (o + 1)))
          (first
            | go_keep
            | (go_split_ands
               refine ⟨?_, ?_, ?_, ?_, ?_, ?_⟩
               · (rw [hb.cell (by exact y5)]; assumption)
               · (rw [hb.cell (by exact y5)]; assumption)
               · (rw [hb.cell (by exact y5)]; assumption)
               · (rw [hb.cell (by exact x5)]; assumption)
               · (rw [hb.cell (by exact x5)]; assumption)
               · (rw [hb.cell (by exact x5)]; assumption)))
          ((go_at_call 33; refine (bstep_any _ _ _ _ _).mono ?_; rw [ES.out, sw_val]; rintro e w4 ⟨rfl, hb⟩))
        have HB4 := Lib.hid (H6.out.trans ((Below.refl w5.heap.size w5).drew.trans hb |>.mono H6.out.size))
        clear hb
        go_wp2
        go_ret
        exact ⟨rfl, HB4.out⟩
  | false =>
    have hw := (wrong_iff c o v).1 hr
    have ES := Lib.hid (show stepS ⟨c, v, o⟩ s = ⟨0, false, 0⟩ by simp [stepS, hr])
    have HR := Lib.hid hr
    clear hr
    have hw' : c < 1 ∨ (1 ≤ c ∧ 20 < c) ∨ (1 ≤ c ∧ c ≤ 20 ∧ o < 0) ∨ (1 ≤ c ∧ c ≤ 20 ∧ 0 ≤ o ∧ c ≤ o) := by omega
    clear hw
    rcases hw' with h1 | ⟨h1, h2⟩ | ⟨h1, h2, h3⟩ | ⟨h1, h2, h3, h4⟩
    · have hq : True := trivial
      go_enter Try.func7, Try.ntmps7
      go_wp2_with fail
      refine (awake05 _).mono ?_
      rintro e w1 ⟨rfl, hb⟩
      have B1 := Lib.hid ((Box3.new w (.int .i64 c) (.bool v) (.int .i64 o) 35).below hb)
      have H1 := Lib.hid (show Below w.heap.size w w1 from ((Below.refl w.heap.size w).alloc (Nat.le_refl _) _).trans (hb.mono (by simp)))
      clear hb
      go_wp2_with fail
      refine (bnew_any _ _ _).mono ?_
      rintro e w2 ⟨rfl, hb⟩
      rw [E1.out, E2.out, sw_val]
      have B2 := Lib.hid (B1.out.below hb)
      have H2 := Lib.hid (H1.out.trans (hb.mono H1.out.size))
      clear hb B1 H1
      obtain ⟨z2, k0, k1, k2, f0, f1, f2⟩ := B2.out
      have z3 : w.heap.size < w2.heap.size + 1 := by omega
      have z4 : w.heap.size < w2.heap.size + 1 + 1 := by omega
      have z5 : w.heap.size < w2.heap.size + 1 + 1 + 1 := by omega
      go_wp2_with fail
      refine (bright_any _ _ _ _).mono ?_
      rw [HR.out]
      rintro e w3 ⟨rfl, rfl⟩
      go_wp2_with fail
      have B13 := Lib.hid (Box3.new ((w2.alloc (.cells #[.int .i64 0, .bool false, .int .i64 0] 35)).alloc (.cells #[.int .i64 c, .bool v, .int .i64 o] 35)) (.int .i64 0) (.bool false) (.int .i64 0) 35)
      have B6 := Lib.hid (B2.out.below ((((Below.refl _ _).alloc (Nat.le_refl _) (.cells #[.int .i64 0, .bool false, .int .i64 0] 35)).alloc (by simp) (.cells #[.int .i64 c, .bool v, .int .i64 o] 35)).alloc (by simp; omega) (.cells #[.int .i64 0, .bool false, .int .i64 0] 35)))
      have H6 := Lib.hid (H2.out.trans ((((Below.refl w.heap.size w2).alloc (by omega) (.cells #[.int .i64 0, .bool false, .int .i64 0] 35)).alloc (by simp; omega) (.cells #[.int .i64 c, .bool v, .int .i64 o] 35)).alloc (by simp; omega) (.cells #[.int .i64 0, .bool false, .int .i64 0] 35)))
      have hz : ((w2.alloc (.cells #[.int .i64 0, .bool false, .int .i64 0] 35)).alloc (.cells #[.int .i64 c, .bool v, .int .i64 o] 35)).heap.size = w2.heap.size + 1 + 1 := by simp
      rw [hz] at B13
      clear hz B2 k0 k1 k2 f0 f1 f2
      generalize ((w2.alloc (.cells #[.int .i64 0, .bool false, .int .i64 0] 35)).alloc (.cells #[.int .i64 c, .bool v, .int .i64 o] 35)).alloc (.cells #[.int .i64 0, .bool false, .int .i64 0] 35) = w5 at *
      obtain ⟨y5, k0, k1, k2, _, _, _⟩ := B6.out
      obtain ⟨x5, j0, j1, j2, _, _, _⟩ := B13.out
      go_region_held3 (fun w' => w'.cell? ⟨w.heap.size, 0, none⟩ = some (.int .i64 c) ∧ w'.cell? ⟨w.heap.size, 1, none⟩ = some (.bool v) ∧ w'.cell? ⟨w.heap.size, 2, none⟩ = some (.int .i64 o) ∧
          w'.cell? ⟨w2.heap.size + 1 + 1, 0, none⟩ = some (.int .i64 0) ∧ w'.cell? ⟨w2.heap.size + 1 + 1, 1, none⟩ = some (.bool false) ∧ w'.cell? ⟨w2.heap.size + 1 + 1, 2, none⟩ = some (.int .i64 0))
        (first
          | go_keep
          | (go_split_ands
             refine ⟨?_, ?_, ?_, ?_, ?_, ?_⟩
             · (rw [hb.cell (by exact y5)]; assumption)
             · (rw [hb.cell (by exact y5)]; assumption)
             · (rw [hb.cell (by exact y5)]; assumption)
             · (rw [hb.cell (by exact x5)]; assumption)
             · (rw [hb.cell (by exact x5)]; assumption)
             · (rw [hb.cell (by exact x5)]; assumption)))
        ((go_at_call 33; refine (bstep_any _ _ _ _ _).mono ?_; rw [ES.out, sw_val]; rintro e w4 ⟨rfl, hb⟩))
      have HB4 := Lib.hid (H6.out.trans ((Below.refl w5.heap.size w5).drew.trans hb |>.mono H6.out.size))
      clear hb
      go_wp2
      go_ret
      exact ⟨rfl, HB4.out⟩
    · have hq : True := trivial
      go_enter Try.func7, Try.ntmps7
      go_wp2_with fail
      refine (awake05 _).mono ?_
      rintro e w1 ⟨rfl, hb⟩
      have B1 := Lib.hid ((Box3.new w (.int .i64 c) (.bool v) (.int .i64 o) 35).below hb)
      have H1 := Lib.hid (show Below w.heap.size w w1 from ((Below.refl w.heap.size w).alloc (Nat.le_refl _) _).trans (hb.mono (by simp)))
      clear hb
      go_wp2_with fail
      refine (bnew_any _ _ _).mono ?_
      rintro e w2 ⟨rfl, hb⟩
      rw [E1.out, E2.out, sw_val]
      have B2 := Lib.hid (B1.out.below hb)
      have H2 := Lib.hid (H1.out.trans (hb.mono H1.out.size))
      clear hb B1 H1
      obtain ⟨z2, k0, k1, k2, f0, f1, f2⟩ := B2.out
      have z3 : w.heap.size < w2.heap.size + 1 := by omega
      have z4 : w.heap.size < w2.heap.size + 1 + 1 := by omega
      have z5 : w.heap.size < w2.heap.size + 1 + 1 + 1 := by omega
      go_wp2_with fail
      refine (bright_any _ _ _ _).mono ?_
      rw [HR.out]
      rintro e w3 ⟨rfl, rfl⟩
      go_wp2_with fail
      have B13 := Lib.hid (Box3.new ((w2.alloc (.cells #[.int .i64 0, .bool false, .int .i64 0] 35)).alloc (.cells #[.int .i64 c, .bool v, .int .i64 o] 35)) (.int .i64 0) (.bool false) (.int .i64 0) 35)
      have B6 := Lib.hid (B2.out.below ((((Below.refl _ _).alloc (Nat.le_refl _) (.cells #[.int .i64 0, .bool false, .int .i64 0] 35)).alloc (by simp) (.cells #[.int .i64 c, .bool v, .int .i64 o] 35)).alloc (by simp; omega) (.cells #[.int .i64 0, .bool false, .int .i64 0] 35)))
      have H6 := Lib.hid (H2.out.trans ((((Below.refl w.heap.size w2).alloc (by omega) (.cells #[.int .i64 0, .bool false, .int .i64 0] 35)).alloc (by simp; omega) (.cells #[.int .i64 c, .bool v, .int .i64 o] 35)).alloc (by simp; omega) (.cells #[.int .i64 0, .bool false, .int .i64 0] 35)))
      have hz : ((w2.alloc (.cells #[.int .i64 0, .bool false, .int .i64 0] 35)).alloc (.cells #[.int .i64 c, .bool v, .int .i64 o] 35)).heap.size = w2.heap.size + 1 + 1 := by simp
      rw [hz] at B13
      clear hz B2 k0 k1 k2 f0 f1 f2
      generalize ((w2.alloc (.cells #[.int .i64 0, .bool false, .int .i64 0] 35)).alloc (.cells #[.int .i64 c, .bool v, .int .i64 o] 35)).alloc (.cells #[.int .i64 0, .bool false, .int .i64 0] 35) = w5 at *
      obtain ⟨y5, k0, k1, k2, _, _, _⟩ := B6.out
      obtain ⟨x5, j0, j1, j2, _, _, _⟩ := B13.out
      go_region_held3 (fun w' => w'.cell? ⟨w.heap.size, 0, none⟩ = some (.int .i64 c) ∧ w'.cell? ⟨w.heap.size, 1, none⟩ = some (.bool v) ∧ w'.cell? ⟨w.heap.size, 2, none⟩ = some (.int .i64 o) ∧
          w'.cell? ⟨w2.heap.size + 1 + 1, 0, none⟩ = some (.int .i64 0) ∧ w'.cell? ⟨w2.heap.size + 1 + 1, 1, none⟩ = some (.bool false) ∧ w'.cell? ⟨w2.heap.size + 1 + 1, 2, none⟩ = some (.int .i64 0))
        (first
          | go_keep
          | (go_split_ands
             refine ⟨?_, ?_, ?_, ?_, ?_, ?_⟩
             · (rw [hb.cell (by exact y5)]; assumption)
             · (rw [hb.cell (by exact y5)]; assumption)
             · (rw [hb.cell (by exact y5)]; assumption)
             · (rw [hb.cell (by exact x5)]; assumption)
             · (rw [hb.cell (by exact x5)]; assumption)
             · (rw [hb.cell (by exact x5)]; assumption)))
        ((go_at_call 33; refine (bstep_any _ _ _ _ _).mono ?_; rw [ES.out, sw_val]; rintro e w4 ⟨rfl, hb⟩))
      have HB4 := Lib.hid (H6.out.trans ((Below.refl w5.heap.size w5).drew.trans hb |>.mono H6.out.size))
      clear hb
      go_wp2
      go_ret
      exact ⟨rfl, HB4.out⟩
    · have hq : True := trivial
      go_enter Try.func7, Try.ntmps7
      go_wp2_with fail
      refine (awake05 _).mono ?_
      rintro e w1 ⟨rfl, hb⟩
      have B1 := Lib.hid ((Box3.new w (.int .i64 c) (.bool v) (.int .i64 o) 35).below hb)
      have H1 := Lib.hid (show Below w.heap.size w w1 from ((Below.refl w.heap.size w).alloc (Nat.le_refl _) _).trans (hb.mono (by simp)))
      clear hb
      go_wp2_with fail
      refine (bnew_any _ _ _).mono ?_
      rintro e w2 ⟨rfl, hb⟩
      rw [E1.out, E2.out, sw_val]
      have B2 := Lib.hid (B1.out.below hb)
      have H2 := Lib.hid (H1.out.trans (hb.mono H1.out.size))
      clear hb B1 H1
      obtain ⟨z2, k0, k1, k2, f0, f1, f2⟩ := B2.out
      have z3 : w.heap.size < w2.heap.size + 1 := by omega
      have z4 : w.heap.size < w2.heap.size + 1 + 1 := by omega
      have z5 : w.heap.size < w2.heap.size + 1 + 1 + 1 := by omega
      go_wp2_with fail
      refine (bright_any _ _ _ _).mono ?_
      rw [HR.out]
      rintro e w3 ⟨rfl, rfl⟩
      go_wp2_with fail
      have B13 := Lib.hid (Box3.new ((w2.alloc (.cells #[.int .i64 0, .bool false, .int .i64 0] 35)).alloc (.cells #[.int .i64 c, .bool v, .int .i64 o] 35)) (.int .i64 0) (.bool false) (.int .i64 0) 35)
      have B6 := Lib.hid (B2.out.below ((((Below.refl _ _).alloc (Nat.le_refl _) (.cells #[.int .i64 0, .bool false, .int .i64 0] 35)).alloc (by simp) (.cells #[.int .i64 c, .bool v, .int .i64 o] 35)).alloc (by simp; omega) (.cells #[.int .i64 0, .bool false, .int .i64 0] 35)))
      have H6 := Lib.hid (H2.out.trans ((((Below.refl w.heap.size w2).alloc (by omega) (.cells #[.int .i64 0, .bool false, .int .i64 0] 35)).alloc (by simp; omega) (.cells #[.int .i64 c, .bool v, .int .i64 o] 35)).alloc (by simp; omega) (.cells #[.int .i64 0, .bool false, .int .i64 0] 35)))
      have hz : ((w2.alloc (.cells #[.int .i64 0, .bool false, .int .i64 0] 35)).alloc (.cells #[.int .i64 c, .bool v, .int .i64 o] 35)).heap.size = w2.heap.size + 1 + 1 := by simp
      rw [hz] at B13
      clear hz B2 k0 k1 k2 f0 f1 f2
      generalize ((w2.alloc (.cells #[.int .i64 0, .bool false, .int .i64 0] 35)).alloc (.cells #[.int .i64 c, .bool v, .int .i64 o] 35)).alloc (.cells #[.int .i64 0, .bool false, .int .i64 0] 35) = w5 at *
      obtain ⟨y5, k0, k1, k2, _, _, _⟩ := B6.out
      obtain ⟨x5, j0, j1, j2, _, _, _⟩ := B13.out
      go_region_held3 (fun w' => w'.cell? ⟨w.heap.size, 0, none⟩ = some (.int .i64 c) ∧ w'.cell? ⟨w.heap.size, 1, none⟩ = some (.bool v) ∧ w'.cell? ⟨w.heap.size, 2, none⟩ = some (.int .i64 o) ∧
          w'.cell? ⟨w2.heap.size + 1 + 1, 0, none⟩ = some (.int .i64 0) ∧ w'.cell? ⟨w2.heap.size + 1 + 1, 1, none⟩ = some (.bool false) ∧ w'.cell? ⟨w2.heap.size + 1 + 1, 2, none⟩ = some (.int .i64 0))
        (first
          | go_keep
          | (go_split_ands
             refine ⟨?_, ?_, ?_, ?_, ?_, ?_⟩
             · (rw [hb.cell (by exact y5)]; assumption)
             · (rw [hb.cell (by exact y5)]; assumption)
             · (rw [hb.cell (by exact y5)]; assumption)
             · (rw [hb.cell (by exact x5)]; assumption)
             · (rw [hb.cell (by exact x5)]; assumption)
             · (rw [hb.cell (by exact x5)]; assumption)))
        ((go_at_call 33; refine (bstep_any _ _ _ _ _).mono ?_; rw [ES.out, sw_val]; rintro e w4 ⟨rfl, hb⟩))
      have HB4 := Lib.hid (H6.out.trans ((Below.refl w5.heap.size w5).drew.trans hb |>.mono H6.out.size))
      clear hb
      go_wp2
      go_ret
      exact ⟨rfl, HB4.out⟩
    · have hd : decide (o ≤ c - 1) = false := decide_eq_false (by omega)
      go_enter Try.func7, Try.ntmps7
      go_wp2_with fail
      refine (awake05 _).mono ?_
      rintro e w1 ⟨rfl, hb⟩
      have B1 := Lib.hid ((Box3.new w (.int .i64 c) (.bool v) (.int .i64 o) 35).below hb)
      have H1 := Lib.hid (show Below w.heap.size w w1 from ((Below.refl w.heap.size w).alloc (Nat.le_refl _) _).trans (hb.mono (by simp)))
      clear hb
      go_wp2_with fail
      refine (bnew_any _ _ _).mono ?_
      rintro e w2 ⟨rfl, hb⟩
      rw [E1.out, E2.out, sw_val]
      have B2 := Lib.hid (B1.out.below hb)
      have H2 := Lib.hid (H1.out.trans (hb.mono H1.out.size))
      clear hb B1 H1
      obtain ⟨z2, k0, k1, k2, f0, f1, f2⟩ := B2.out
      have z3 : w.heap.size < w2.heap.size + 1 := by omega
      have z4 : w.heap.size < w2.heap.size + 1 + 1 := by omega
      have z5 : w.heap.size < w2.heap.size + 1 + 1 + 1 := by omega
      go_wp2_with fail
      refine (bright_any _ _ _ _).mono ?_
      rw [HR.out]
      rintro e w3 ⟨rfl, rfl⟩
      go_wp2_with fail
      have B13 := Lib.hid (Box3.new ((w2.alloc (.cells #[.int .i64 0, .bool false, .int .i64 0] 35)).alloc (.cells #[.int .i64 c, .bool v, .int .i64 o] 35)) (.int .i64 0) (.bool false) (.int .i64 0) 35)
      have B6 := Lib.hid (B2.out.below ((((Below.refl _ _).alloc (Nat.le_refl _) (.cells #[.int .i64 0, .bool false, .int .i64 0] 35)).alloc (by simp) (.cells #[.int .i64 c, .bool v, .int .i64 o] 35)).alloc (by simp; omega) (.cells #[.int .i64 0, .bool false, .int .i64 0] 35)))
      have H6 := Lib.hid (H2.out.trans ((((Below.refl w.heap.size w2).alloc (by omega) (.cells #[.int .i64 0, .bool false, .int .i64 0] 35)).alloc (by simp; omega) (.cells #[.int .i64 c, .bool v, .int .i64 o] 35)).alloc (by simp; omega) (.cells #[.int .i64 0, .bool false, .int .i64 0] 35)))
      have hz : ((w2.alloc (.cells #[.int .i64 0, .bool false, .int .i64 0] 35)).alloc (.cells #[.int .i64 c, .bool v, .int .i64 o] 35)).heap.size = w2.heap.size + 1 + 1 := by simp
      rw [hz] at B13
      clear hz B2 k0 k1 k2 f0 f1 f2
      generalize ((w2.alloc (.cells #[.int .i64 0, .bool false, .int .i64 0] 35)).alloc (.cells #[.int .i64 c, .bool v, .int .i64 o] 35)).alloc (.cells #[.int .i64 0, .bool false, .int .i64 0] 35) = w5 at *
      obtain ⟨y5, k0, k1, k2, _, _, _⟩ := B6.out
      obtain ⟨x5, j0, j1, j2, _, _, _⟩ := B13.out
      go_region_held3 (fun w' => w'.cell? ⟨w.heap.size, 0, none⟩ = some (.int .i64 c) ∧ w'.cell? ⟨w.heap.size, 1, none⟩ = some (.bool v) ∧ w'.cell? ⟨w.heap.size, 2, none⟩ = some (.int .i64 o) ∧
          w'.cell? ⟨w2.heap.size + 1 + 1, 0, none⟩ = some (.int .i64 0) ∧ w'.cell? ⟨w2.heap.size + 1 + 1, 1, none⟩ = some (.bool false) ∧ w'.cell? ⟨w2.heap.size + 1 + 1, 2, none⟩ = some (.int .i64 0))
        (first
          | go_keep
          | (go_split_ands
             refine ⟨?_, ?_, ?_, ?_, ?_, ?_⟩
             · (rw [hb.cell (by exact y5)]; assumption)
             · (rw [hb.cell (by exact y5)]; assumption)
             · (rw [hb.cell (by exact y5)]; assumption)
             · (rw [hb.cell (by exact x5)]; assumption)
             · (rw [hb.cell (by exact x5)]; assumption)
             · (rw [hb.cell (by exact x5)]; assumption)))
        ((go_at_call 33; refine (bstep_any _ _ _ _ _).mono ?_; rw [ES.out, sw_val]; rintro e w4 ⟨rfl, hb⟩))
      have HB4 := Lib.hid (H6.out.trans ((Below.refl w5.heap.size w5).drew.trans hb |>.mono H6.out.size))
      clear hb
      go_wp2
      go_ret
      exact ⟨rfl, HB4.out⟩

theorem bounceSteps (count : Int) (value : Bool) (c o : Int) (v : Bool) (s : Bool) (w : World) :
    Calls Try.prog 7 #[.int .i64 count, .bool value, .agg #[.int .i64 c, .bool v, .int .i64 o], .bool s] w fun e w' => e = .returned (.bool true) ∧ Below w.heap.size w w' := by
  by_cases h1 : count < 1
  · exact bounceSteps_less count value c o v s w h1
  · by_cases h2 : 20 < count
    · exact bounceSteps_more count value c o v s w (by omega) h2
    · exact bounceSteps_good count value c o v s w (by omega) (by omega)
end Go.Proofs.Ytnabpdengfmeaaa
