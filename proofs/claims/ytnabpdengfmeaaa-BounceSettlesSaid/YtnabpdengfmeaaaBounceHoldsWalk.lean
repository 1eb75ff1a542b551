/- The law BounceHolds of layer 5, walked. -/
import Derived.Test.YtnabpdengfmeaaaBounce
namespace Go.Proofs.Ytnabpdengfmeaaa
open Go.RowKit

/-- a box is stored into whole -/
def store3 (w : World) (B : Nat) (x y z : Value) : World := ((w.setCell ⟨B, 0, none⟩ x).setCell ⟨B, 1, none⟩ y).setCell ⟨B, 2, none⟩ z
theorem Box3.store {w : World} {B : Nat} {x y z : Value} (h : Box3 w B x y z) (x' y' z' : Value) : Box3 (store3 w B x' y' z') B x' y' z' := by
  obtain ⟨h0, h1, h2, h3, h4, h5, h6⟩ := h
  unfold store3
  have n01 : (⟨B, 0, none⟩ : Addr) ≠ ⟨B, 1, none⟩ := by simp
  have n02 : (⟨B, 0, none⟩ : Addr) ≠ ⟨B, 2, none⟩ := by simp
  have n12 : (⟨B, 1, none⟩ : Addr) ≠ ⟨B, 2, none⟩ := by simp
  refine ⟨by simpa using h0, ?_, ?_, ?_, by simpa using h4, by simpa using h5, by simpa using h6⟩
  · rw [World.cell?_setCell_other _ _ _ _ n02.symm, World.cell?_setCell_other _ _ _ _ n01.symm, World.cell?_setCell_same _ _ _ h1]
  · rw [World.cell?_setCell_other _ _ _ _ n12.symm]
    exact World.cell?_setCell_same _ _ _ ((World.cell?_setCell_other _ _ _ _ n01).trans h2)
  · exact World.cell?_setCell_same _ _ _ ((World.cell?_setCell_other _ _ _ _ n12).trans ((World.cell?_setCell_other _ _ _ _ n02).trans h3))
theorem Box3.store_far {w : World} {B C : Nat} {x y z : Value} (h : Box3 w B x y z) (hne : C ≠ B) (x' y' z' : Value) : Box3 (store3 w C x' y' z') B x y z := by
  obtain ⟨h0, h1, h2, h3, h4, h5, h6⟩ := h
  unfold store3
  have n : ∀ i j, (⟨C, i, none⟩ : Addr) ≠ ⟨B, j, none⟩ := fun i j q => hne (congrArg Addr.block q)
  refine ⟨by simpa using h0, ?_, ?_, ?_, by simpa using h4, by simpa using h5, by simpa using h6⟩
  · rw [World.cell?_setCell_other _ _ _ _ (n _ _), World.cell?_setCell_other _ _ _ _ (n _ _), World.cell?_setCell_other _ _ _ _ (n _ _), h1]
  · rw [World.cell?_setCell_other _ _ _ _ (n _ _), World.cell?_setCell_other _ _ _ _ (n _ _), World.cell?_setCell_other _ _ _ _ (n _ _), h2]
  · rw [World.cell?_setCell_other _ _ _ _ (n _ _), World.cell?_setCell_other _ _ _ _ (n _ _), World.cell?_setCell_other _ _ _ _ (n _ _), h3]
theorem below_store3 {B C : Nat} {a w : World} (h : Below B a w) (hC : B ≤ C) (x y z : Value) : Below B a (store3 w C x y z) := ((h.setCell hC _).setCell hC _).setCell hC _

/-- how far a switch has come that is shown s -/
def Goes (c o : Int) (s : Bool) (k : Nat) (x : Sw) : Prop := rightB x = true ∧ x.c = c ∧ (x = ⟨c, s, 0⟩ ∨ (x.v = (!s) ∧ x.o = o + k) ∨ (k = 0 ∧ x.v = s))
theorem goes_start {c o : Int} {v : Bool} (s : Bool) (h : rightB ⟨c, v, o⟩ = true) : Goes c o s 0 ⟨c, v, o⟩ := by
  refine ⟨h, rfl, ?_⟩
  by_cases e : v = s
  · exact .inr (.inr ⟨rfl, e⟩)
  · exact .inr (.inl ⟨by cases v <;> cases s <;> simp at e ⊢, by simp⟩)
theorem goes_step {c o : Int} {s : Bool} {k : Nat} {x : Sw} (h : Goes c o s k x) : Goes c o s (k + 1) (stepS x s) := by
  obtain ⟨hr, hc, h⟩ := h
  obtain ⟨xc, xv, xo⟩ := x
  simp only at hc
  subst hc
  have hb := (right_iff xc xo xv).1 hr
  by_cases e : s = xv
  · subst e
    have e1 : stepS ⟨xc, s, xo⟩ s = ⟨xc, s, 0⟩ := by simp [stepS, hr]
    rw [e1]
    exact ⟨(right_iff _ _ _).2 (by omega), rfl, .inl rfl⟩
  · have hv : xv = !s := by cases s <;> cases xv <;> simp at e ⊢
    rcases h with h | ⟨_, h⟩ | ⟨_, h⟩
    · simp only [Sw.mk.injEq] at h; exact absurd h.2.1.symm e
    · simp only at h
      by_cases ho : xo + 1 = xc
      · have e1 : stepS ⟨xc, xv, xo⟩ s = ⟨xc, s, 0⟩ := by simp [stepS, hr, e, ho]
        rw [e1]
        exact ⟨(right_iff _ _ _).2 (by omega), rfl, .inl rfl⟩
      · have e1 : stepS ⟨xc, xv, xo⟩ s = ⟨xc, xv, xo + 1⟩ := by simp [stepS, hr, e, ho]
        rw [e1]
        exact ⟨(right_iff _ _ _).2 (by omega), rfl, .inr (.inl ⟨hv, by simp only; omega⟩)⟩
    · exact absurd h.symm e
theorem goes_end {c o : Int} {s : Bool} {k : Nat} {x : Sw} (h : Goes c o s k x) (hk : (k : Int) = c) (ho : 0 ≤ o) : x = ⟨c, s, 0⟩ := by
  obtain ⟨hr, hc, h⟩ := h
  obtain ⟨xc, xv, xo⟩ := x
  have hb := (right_iff xc xo xv).1 hr
  simp only at hc
  rcases h with h | ⟨_, h⟩ | ⟨h, _⟩
  · exact h
  · simp only at h; omega
  · omega
theorem stays (c : Int) (s : Bool) (h : 1 ≤ c ∧ c ≤ 20) : stepS ⟨c, s, 0⟩ s = ⟨c, s, 0⟩ := by
  have : rightB ⟨c, s, 0⟩ = true := (right_iff _ _ _).2 (by omega)
  simp [stepS, this]

set_option maxHeartbeats 4000000 in
set_option maxRecDepth 100000 in
theorem bounceHolds (c o : Int) (v s : Bool) (m : Int) (w : World) (hm0 : 0 ≤ m) (hm1 : m ≤ 255) :
    Calls Try.prog 9 #[.agg #[.int .i64 c, .bool v, .int .i64 o], .bool s, .int .u8 m] w fun e w' => e = .returned (.bool true) ∧ Below w.heap.size w w' := by
  cases hr : rightB ⟨c, v, o⟩ with
  | false =>
    have HR := Lib.hid hr
    clear hr
    go_enter Try.func9, Try.ntmps9
    go_wp2_with fail
    refine (awake05 _).mono ?_
    rintro e w1 ⟨rfl, hb⟩
    have B1 := Lib.hid ((Box3.new w (.int .i64 c) (.bool v) (.int .i64 o) 35).below hb)
    have H1 := Lib.hid (show Below w.heap.size w w1 from ((Below.refl w.heap.size w).alloc (Nat.le_refl _) _).trans (hb.mono (by simp)))
    clear hb
    obtain ⟨z1, k0, k1, k2, f0, f1, f2⟩ := B1.out
    go_wp2_with fail
    refine (bright_any _ _ _ _).mono ?_
    rw [HR.out]
    rintro e w3 ⟨rfl, rfl⟩
    go_wp2
    go_ret
    exact ⟨rfl, H1.out.alloc (by omega) _⟩
  | true =>
    obtain ⟨h1, h2, h3, h4⟩ := (right_iff c o v).1 hr
    have G0 := Lib.hid (goes_start s hr)
    have HR := Lib.hid hr
    clear hr
    go_enter Try.func9, Try.ntmps9
    go_wp2_with fail
    refine (awake05 _).mono ?_
    rintro e w1 ⟨rfl, hb⟩
    have B1 := Lib.hid ((Box3.new w (.int .i64 c) (.bool v) (.int .i64 o) 35).below hb)
    have H1 := Lib.hid (show Below w.heap.size w w1 from ((Below.refl w.heap.size w).alloc (Nat.le_refl _) _).trans (hb.mono (by simp)))
    clear hb
    obtain ⟨z1, k0, k1, k2, f0, f1, f2⟩ := B1.out
    go_wp2_with fail
    refine (bright_any _ _ _ _).mono ?_
    rw [HR.out]
    rintro e w3 ⟨rfl, rfl⟩
    have z2 : w.heap.size < w1.heap.size + 1 := by omega
    have z3 : w.heap.size < w1.heap.size + 1 + 1 := by omega
    go_wp2_with fail
    have BA := Lib.hid (B1.out.below (((Below.refl _ _).alloc (Nat.le_refl _) (.cells #[.int .i64 c, .bool v, .int .i64 o] 35)).alloc (by simp) (.cells #[.int .i64 c, .bool v, .int .i64 o] 35)))
    have BB := Lib.hid (Box3.new (w1.alloc (.cells #[.int .i64 c, .bool v, .int .i64 o] 35)) (.int .i64 c) (.bool v) (.int .i64 o) 35)
    have HB := Lib.hid ((H1.out.alloc (by omega) (.cells #[.int .i64 c, .bool v, .int .i64 o] 35)).alloc (by simp; omega) (.cells #[.int .i64 c, .bool v, .int .i64 o] 35))
    have hz : (w1.alloc (.cells #[.int .i64 c, .bool v, .int .i64 o] 35)).heap.size = w1.heap.size + 1 := by simp
    rw [hz] at BB
    clear hz k0 k1 k2 f0 f1 f2 B1 H1
    generalize (w1.alloc (Obj.cells #[Value.int IntKind.i64 c, Value.bool v, Value.int IntKind.i64 o] 35)).alloc (Obj.cells #[Value.int IntKind.i64 c, Value.bool v, Value.int IntKind.i64 o] 35) = w5 at *
    have hg : w.heap.size < w1.heap.size + 1 := z2
    generalize w1.heap.size + 1 = g at *
    clear z1 z2 z3
    go_loopw [8] (fun i wr => ∃ (k : Nat) (x : Sw), (k : Int) ≤ c ∧ i = .int .i64 k ∧ Goes c o s k x ∧ Box3 wr w.heap.size (.int .i64 c) (.bool v) (.int .i64 o) ∧ Box3 wr g (.int .i64 x.c) (.bool x.v) (.int .i64 x.o) ∧ Below w.heap.size w wr) (fun i _ => (c - intOf i).toNat)
    case atStart => exact ⟨0, ⟨c, v, o⟩, by omega, rfl, G0.out, BA.out, BB.out, HB.out⟩
    case round =>
      clear BA BB HB
      obtain ⟨k, ⟨xc, xv, xo⟩, hk, rfl, hG, hA, hX, hW⟩ := hrel
      simp only at hX
      by_cases hlt : (k : Int) < c
      · have HA := Lib.hid hA
        have HX := Lib.hid hX
        have HW := Lib.hid hW
        have HG := Lib.hid (goes_step hG)
        clear hA hX hW hG
        obtain ⟨a0, a1, a2, a3, _, _, _⟩ := HA.out
        obtain ⟨y0, y1, y2, y3, y4, y5, y6⟩ := HX.out
        go_wp2_with fail
        refine (bstep_any _ _ _ _ _).mono ?_
        rintro e w4 ⟨rfl, hb⟩
        generalize stepS ⟨xc, xv, xo⟩ s = y at *
        obtain ⟨yc, yv, yo⟩ := y
        rw [sw_val]
        have HA4 := Lib.hid (HA.out.below hb)
        have HX4 := Lib.hid (HX.out.below hb)
        have HW4 := Lib.hid (HW.out.trans (hb.mono HW.out.size))
        clear hb HA HX HW a0 a1 a2 a3 y0 y1 y2 y3 y4 y5 y6
        obtain ⟨y0, y1, y2, y3, y4, y5, y6⟩ := HX4.out
        go_wp2
        go_roundw
        case rel => exact ⟨k + 1, ⟨yc, yv, yo⟩, by omega, by go_num, HG.out, HA4.out.store_far (by omega) _ _ _, HX4.out.store _ _ _, below_store3 HW4.out (by omega) _ _ _⟩
        case measure => simp [intOf]; omega
      · have hx := goes_end hG (by omega) h3
        simp only [Sw.mk.injEq] at hx
        obtain ⟨rfl, rfl, rfl⟩ := hx
        have HA := Lib.hid hA
        have HX := Lib.hid hX
        have HW := Lib.hid hW
        clear hA hX hW hG G0
        obtain ⟨a0, a1, a2, a3, _, _, _⟩ := HA.out
        go_wp2_with fail
        have ES := Lib.hid (stays xc xv (by omega))
        obtain ⟨n, hn⟩ : ∃ n : Nat, (n : Int) = m % 50 := ⟨(m % 50).toNat, by omega⟩
        have hn9 : n < 50 := by omega
        have HN := Lib.hid hn
        clear hn
        obtain ⟨wo, rfl⟩ : ∃ wo : World, wo = wr := ⟨_, rfl⟩
        go_loopw [9] (fun i wr => ∃ (j : Nat), j ≤ n ∧ i = .int .i64 j ∧ Box3 wr w.heap.size (.int .i64 xc) (.bool v) (.int .i64 o) ∧ Box3 wr g (.int .i64 xc) (.bool xv) (.int .i64 0) ∧ Below w.heap.size w wr) (fun i _ => n - (intOf i).toNat)
        case atStart => exact ⟨0, by omega, rfl, HA.out, HX.out, HW.out⟩
        case round =>
          clear HA HX HW a0 a1 a2 a3
          obtain ⟨j, hj, rfl, hA, hX, hW⟩ := hrel
          have HA := Lib.hid hA
          have HX := Lib.hid hX
          have HW := Lib.hid hW
          clear hA hX hW
          obtain ⟨y0, y1, y2, y3, y4, y5, y6⟩ := HX.out
          by_cases hlt : j < n
          · have hd : (j : Int) < m % 50 := by have := HN.out; omega
            go_wp2_with fail
            refine (bstep_any _ _ _ _ _).mono ?_
            rw [ES.out, sw_val]
            rintro e w4 ⟨rfl, hb⟩
            have HA4 := Lib.hid (HA.out.below hb)
            have HX4 := Lib.hid (HX.out.below hb)
            have HW4 := Lib.hid (HW.out.trans (hb.mono HW.out.size))
            clear hb HA HX HW y0 y1 y2 y3 y4 y5 y6
            obtain ⟨y0, y1, y2, y3, y4, y5, y6⟩ := HX4.out
            go_wp2
            go_roundw
            case rel => exact ⟨j + 1, by omega, by go_num, HA4.out.store_far (by omega) _ _ _, HX4.out.store _ _ _, below_store3 HW4.out (by omega) _ _ _⟩
            case measure => simp [intOf]; omega
          · have hd : ¬ (j : Int) < m % 50 := by have := HN.out; omega
            go_wp2
            go_ret
            exact ⟨rfl, HW.out⟩
end Go.Proofs.Ytnabpdengfmeaaa
