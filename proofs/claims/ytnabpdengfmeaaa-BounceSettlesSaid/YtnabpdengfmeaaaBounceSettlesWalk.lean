/- The law BounceSettles of layer 5, walked. -/
import Derived.Test.YtnabpdengfmeaaaBounceHoldsWalk
import Derived.Deep.RegionHeld3
namespace Go.Proofs.Ytnabpdengfmeaaa
open Go.RowKit

/-- A slice of truths that can be read: its elements. -/
def ReadsB (w : World) (a : Option Addr) (l : List Bool) : Prop :=
  l.length ≤ 9223372036854775807 ∧ (l = [] ∨ ∃ b off, a = some ⟨b, off, none⟩ ∧ ∀ i, i < l.length → w.cell? ⟨b, off + i, none⟩ = some (.bool (l.getD i false)))
theorem ReadsB.spot {w : World} {a : Option Addr} {l : List Bool} (h : ReadsB w a l) (k : Nat) (hk : k < l.length) :
    ∃ b off, a = some ⟨b, off, none⟩ ∧ b < w.heap.size ∧ w.cell? ⟨b, off + k, none⟩ = some (.bool (l.getD k false)) := by
  rcases h.2 with rfl | ⟨b, off, rfl, hc⟩
  · simp at hk
  · exact ⟨b, off, rfl, block_lt_of_cell (hc k hk), hc k hk⟩

theorem zero_box {w w5 : World} {x y z : Value} {T : TypeId} (hb : Below (w.alloc (.cells #[x, y, z] T)).drew.heap.size (w.alloc (.cells #[x, y, z] T)).drew w5) : Box3 w5 w.heap.size x y z := by
  have h : Box3 (w.alloc (.cells #[x, y, z] T)).drew w.heap.size x y z := Box3.new w x y z T
  exact h.below hb

set_option maxHeartbeats 8000000 in
set_option maxRecDepth 100000 in
theorem bounceSettles (c : Int) (v : Bool) (a : Option Addr) (len cap : Nat) (l : List Bool) (w : World) (hl : l.length = len) (h : ReadsB w a l) :
    Calls Try.prog 8 #[.int .i64 c, .bool v, .slice a len cap] w fun e w' => e = .returned (.bool true) ∧ Below w.heap.size w w' := by
  have hlm : len ≤ 9223372036854775807 := by have := h.1; omega
  have HS := Lib.hid h; clear h
  have HL := Lib.hid hl; clear hl
  have HM := Lib.hid hlm; clear hlm
  by_cases hn : 1 ≤ c ∧ c ≤ 20
  · have E1 := Lib.hid (show newS c v = ⟨c, v, 0⟩ by simp [newS, hn])
    have E2 := Lib.hid (show newE c = 0 by simp [newE, hn])
    obtain ⟨h1, h2⟩ := hn
    go_enter Try.func8, Try.ntmps8
    go_wp2_with fail
    refine (awake05 _).mono ?_
    rintro e w1 ⟨rfl, hb⟩
    have H1 := Lib.hid hb
    clear hb
    go_wp2_with fail
    refine (bnew_any _ _ _).mono ?_
    rw [E1.out, E2.out, sw_val]
    rintro e w2 ⟨rfl, hb⟩
    have H2 := Lib.hid (H1.out.trans (hb.mono H1.out.size))
    clear hb H1
    go_wp2_with fail
    have BX := Lib.hid (Box3.new w2 (.int .i64 c) (.bool v) (.int .i64 0) 35)
    have HB := Lib.hid (H2.out.alloc H2.out.size (.cells #[.int .i64 c, .bool v, .int .i64 0] 35))
    have hg : w.heap.size ≤ w2.heap.size := H2.out.size
    generalize w2.alloc (Obj.cells #[Value.int IntKind.i64 c, Value.bool v, Value.int IntKind.i64 0] 35) = w3 at *
    generalize w2.heap.size = g at *
    clear H2
    go_loopw [9, 10] (fun r i wr => ∃ (k : Nat) (x : Sw), k ≤ len ∧ k ≤ 300 ∧ i = .int .i64 k ∧ r = .int .i64 x.o ∧ rightB x = true ∧ x.c = c ∧ Box3 wr g (.int .i64 x.c) (.bool x.v) (.int .i64 x.o) ∧ Below w.heap.size w wr) (fun _ i _ => 300 - (intOf i).toNat)
    case atStart => exact ⟨0, ⟨c, v, 0⟩, by omega, by omega, rfl, rfl, (right_iff _ _ _).2 (by omega), rfl, BX.out, HB.out⟩
    case round =>
      clear BX HB
      obtain ⟨k, ⟨xc, xv, xo⟩, hk, hk3, rfl, rfl, hr, rfl, hX, hW⟩ := hrel
      simp only at hX
      have HX := Lib.hid hX
      have HW := Lib.hid hW
      obtain ⟨_, _, b3, b4⟩ := (right_iff xc xo xv).1 hr
      have HR := Lib.hid hr
      clear hX hW hr
      obtain ⟨y0, y1, y2, y3, y4, y5, y6⟩ := HX.out
      have HM2 := HM.out
      by_cases hlt : k < len ∧ k < 300
      · obtain ⟨hlt, hlt3⟩ := hlt
        obtain ⟨b, off, rfl, hbs, hc0⟩ := HS.out.spot k (by have := HL.out; omega)
        have hc := (HW.out.cell hbs).trans hc0
        generalize l.getD k false = s at *
        clear hc0
        have hbl : b < wr.heap.size := by have := HW.out.size; omega
        cases hsv : (s == xv) with
        | true =>
          have ES := Lib.hid (show stepS ⟨xc, xv, xo⟩ s = ⟨xc, xv, 0⟩ by have := HR.out; simp [stepS, this, beq_iff_eq.1 hsv])
          have RN := Lib.hid (show rightB ⟨xc, xv, 0⟩ = true from (right_iff _ _ _).2 (by omega))
          have hrun : ((0 : Int) == xc) = false := beq_eq_false_iff_ne.2 (by omega)
          go_wp2_with fail
          go_quiet (fail)
          go_wp2_with fail
          have HX4 := Lib.hid (HX.out.drewN nq)
          have HW4 := Lib.hid (below_drewN HW.out nq)
          have hc4 : (wr.drewN nq).cell? ⟨b, off + k, none⟩ = some (.bool s) := hc
          have hb4 : b < (wr.drewN nq).heap.size := hbl
          clear HX HW hc hbl y0 y1 y2 y3 y4 y5 y6
          generalize wr.drewN nq = w4 at *
          obtain ⟨y0, y1, y2, y3, y4, y5, y6⟩ := HX4.out
          have n0 : w4.heap.size ≠ g := by omega
          have n3 : w4.heap.size ≠ b := by omega
          go_region_held3 (fun w' => w'.cell? ⟨g, 0, none⟩ = some (.int .i64 xc) ∧ w'.cell? ⟨g, 1, none⟩ = some (.bool xv) ∧ w'.cell? ⟨g, 2, none⟩ = some (.int .i64 xo) ∧ w'.cell? ⟨b, off + k, none⟩ = some (.bool s))
            (first
              | go_keep
              | (go_split_ands
                 refine ⟨?_, ?_, ?_, ?_⟩ <;> (first | (rw [hb.cell (by simp; omega)]; first | assumption | (go_simp; done)) | (rw [World.cell?_alloc_past _ _ _ (by assumption)]; assumption) | (rw [World.cell?_alloc_past _ _ _ (by assumption), hb.cell (by simp; omega)]; first | assumption | (go_simp; done)))))
            ((go_at_call 33; refine (bstep_any _ _ _ _ _).mono ?_; rw [ES.out, sw_val]; rintro e w5 ⟨rfl, hb⟩; have hz5 := hb.size; simp at hz5; have yg : g < w5.heap.size := (by omega); have yb : b < w5.heap.size := (by omega); try (have qz := zero_box hb; obtain ⟨qs, q0, q1, q2, p0, p1, p2⟩ := qz)))
          · rename_i hHeldX
            have HN := Lib.hid (Box3.new w5 (.int .i64 xc) (.bool xv) (.int .i64 0) 35)
            have HX5 := Lib.hid (Box3.below (w := w4.drew) HX4.out hb)
            have HX6 := Lib.hid (HX5.out.below ((Below.refl w5.heap.size w5).alloc (Nat.le_refl _) (.cells #[.int .i64 xc, .bool xv, .int .i64 0] 35)))
            have hw5 := HW4.out.drew.trans (hb.mono HW4.out.size)
            have HW6 := Lib.hid (hw5.alloc hw5.size (.cells #[.int .i64 xc, .bool xv, .int .i64 0] 35))
            have hg6 : w.heap.size ≤ w5.heap.size := hw5.size
            have hne : g ≠ w5.heap.size := by omega
            clear hw5 hb HX5 HX4 HW4 y1 y2 y3 y4 y5 y6 hc4 hb4 hHeldX
            generalize w5.alloc (Obj.cells #[Value.int IntKind.i64 xc, Value.bool xv, Value.int IntKind.i64 0] 35) = w6 at *
            generalize w5.heap.size = g6 at *
            obtain ⟨y0, y1, y2, y3, y4, y5, y6⟩ := HX6.out
            obtain ⟨x0, x1, x2, x3, x4, x5, x6⟩ := HN.out
            have x0' : g6 < w6.heap.size + 1 := by omega
            have y0' : g < w6.heap.size + 1 := by omega
            go_wp2_with fail
            refine (bright_any _ _ _ _).mono ?_
            rw [RN.out]
            rintro e w7 ⟨rfl, rfl⟩
            go_wp2
            go_roundw
            case rel => exact ⟨k + 1, ⟨xc, xv, 0⟩, by omega, by omega, by go_num, rfl, RN.out, rfl, (HX6.out.store _ _ _).below ((Below.refl _ _).alloc (Nat.le_refl _) _), (below_store3 HW6.out hg _ _ _).alloc (below_store3 HW6.out hg _ _ _).size _⟩
            case measure => simp [intOf]; omega
          · rename_i hHeldX
            have HN := Lib.hid (show Box3 (((w5.setCell ⟨w4.heap.size, 0, none⟩ (.int .i64 xc)).setCell ⟨w4.heap.size, 1, none⟩ (.bool xv)).setCell ⟨w4.heap.size, 2, none⟩ (.int .i64 0)) w4.heap.size (.int .i64 xc) (.bool xv) (.int .i64 0) from (zero_box hb).store _ _ _)
            have HX5 := Lib.hid (Box3.below (w := (w4.alloc (.cells #[.int .i64 0, .bool false, .int .i64 0] 35)).drew) (HX4.out.below (((Below.refl _ _).alloc (Nat.le_refl _) (.cells #[.int .i64 0, .bool false, .int .i64 0] 35)).drew)) hb)
            have HX6 := Lib.hid (show Box3 (((w5.setCell ⟨w4.heap.size, 0, none⟩ (.int .i64 xc)).setCell ⟨w4.heap.size, 1, none⟩ (.bool xv)).setCell ⟨w4.heap.size, 2, none⟩ (.int .i64 0)) g (.int .i64 xc) (.bool xv) (.int .i64 xo) from HX5.out.store_far (by omega) _ _ _)
            have hw5 := (HW4.out.alloc HW4.out.size (.cells #[.int .i64 0, .bool false, .int .i64 0] 35)).drew.trans (hb.mono (HW4.out.alloc HW4.out.size (.cells #[.int .i64 0, .bool false, .int .i64 0] 35)).drew.size)
            have HW6 := Lib.hid (show Below w.heap.size w (((w5.setCell ⟨w4.heap.size, 0, none⟩ (.int .i64 xc)).setCell ⟨w4.heap.size, 1, none⟩ (.bool xv)).setCell ⟨w4.heap.size, 2, none⟩ (.int .i64 0)) from below_store3 hw5 HW4.out.size _ _ _)
            have hg6 : w.heap.size ≤ w4.heap.size := HW4.out.size
            have hne : g ≠ w4.heap.size := by omega
            clear hw5 hb HX5 HX4 HW4 y1 y2 y3 y4 y5 y6 hc4 hb4 q0 q1 q2 p0 p1 p2 n0 n3 hHeldX
            generalize (((w5.setCell ⟨w4.heap.size, 0, none⟩ (.int .i64 xc)).setCell ⟨w4.heap.size, 1, none⟩ (.bool xv)).setCell ⟨w4.heap.size, 2, none⟩ (.int .i64 0)) = w6 at *
            generalize w4.heap.size = g6 at *
            obtain ⟨y0, y1, y2, y3, y4, y5, y6⟩ := HX6.out
            obtain ⟨x0, x1, x2, x3, x4, x5, x6⟩ := HN.out
            have x0' : g6 < w6.heap.size + 1 := by omega
            have y0' : g < w6.heap.size + 1 := by omega
            go_wp2_with fail
            refine (bright_any _ _ _ _).mono ?_
            rw [RN.out]
            rintro e w7 ⟨rfl, rfl⟩
            go_wp2
            go_roundw
            case rel => exact ⟨k + 1, ⟨xc, xv, 0⟩, by omega, by omega, by go_num, rfl, RN.out, rfl, (HX6.out.store _ _ _).below ((Below.refl _ _).alloc (Nat.le_refl _) _), (below_store3 HW6.out hg _ _ _).alloc (below_store3 HW6.out hg _ _ _).size _⟩
            case measure => simp [intOf]; omega
        | false =>
          have hsv' := beq_eq_false_iff_ne.1 hsv
          have HSV := Lib.hid hsv'
          clear hsv'
          by_cases ho : xo + 1 = xc
          · have hrun : (xo + 1 == xc) = true := beq_iff_eq.2 ho
            have ES := Lib.hid (show stepS ⟨xc, xv, xo⟩ s = ⟨xc, s, 0⟩ by have h := HR.out; have h2 := HSV.out; simp [stepS, h, h2, ho])
            have RN := Lib.hid (show rightB ⟨xc, s, 0⟩ = true from (right_iff _ _ _).2 (by omega))
            clear ho
            go_wp2_with fail
            go_quiet (fail)
            go_wp2_with fail
            have HX4 := Lib.hid (HX.out.drewN nq)
            have HW4 := Lib.hid (below_drewN HW.out nq)
            have hc4 : (wr.drewN nq).cell? ⟨b, off + k, none⟩ = some (.bool s) := hc
            have hb4 : b < (wr.drewN nq).heap.size := hbl
            clear HX HW hc hbl y0 y1 y2 y3 y4 y5 y6
            generalize wr.drewN nq = w4 at *
            obtain ⟨y0, y1, y2, y3, y4, y5, y6⟩ := HX4.out
            have n0 : w4.heap.size ≠ g := by omega
            have n3 : w4.heap.size ≠ b := by omega
            go_region_held3 (fun w' => w'.cell? ⟨g, 0, none⟩ = some (.int .i64 xc) ∧ w'.cell? ⟨g, 1, none⟩ = some (.bool xv) ∧ w'.cell? ⟨g, 2, none⟩ = some (.int .i64 xo) ∧ w'.cell? ⟨b, off + k, none⟩ = some (.bool s))
              (first
                | go_keep
                | (go_split_ands
                   refine ⟨?_, ?_, ?_, ?_⟩ <;> (first | (rw [hb.cell (by simp; omega)]; first | assumption | (go_simp; done)) | (rw [World.cell?_alloc_past _ _ _ (by assumption)]; assumption) | (rw [World.cell?_alloc_past _ _ _ (by assumption), hb.cell (by simp; omega)]; first | assumption | (go_simp; done)))))
              ((go_at_call 33; refine (bstep_any _ _ _ _ _).mono ?_; rw [ES.out, sw_val]; rintro e w5 ⟨rfl, hb⟩; have hz5 := hb.size; simp at hz5; have yg : g < w5.heap.size := (by omega); have yb : b < w5.heap.size := (by omega); try (have qz := zero_box hb; obtain ⟨qs, q0, q1, q2, p0, p1, p2⟩ := qz)))
            · rename_i hHeldX
              have HN := Lib.hid (Box3.new w5 (.int .i64 xc) (.bool s) (.int .i64 0) 35)
              have HX5 := Lib.hid (Box3.below (w := w4.drew) HX4.out hb)
              have HX6 := Lib.hid (HX5.out.below ((Below.refl w5.heap.size w5).alloc (Nat.le_refl _) (.cells #[.int .i64 xc, .bool s, .int .i64 0] 35)))
              have hw5 := HW4.out.drew.trans (hb.mono HW4.out.size)
              have HW6 := Lib.hid (hw5.alloc hw5.size (.cells #[.int .i64 xc, .bool s, .int .i64 0] 35))
              have hg6 : w.heap.size ≤ w5.heap.size := hw5.size
              have hne : g ≠ w5.heap.size := by omega
              clear hw5 hb HX5 HX4 HW4 y1 y2 y3 y4 y5 y6 hc4 hb4 hHeldX
              generalize w5.alloc (Obj.cells #[Value.int IntKind.i64 xc, Value.bool s, Value.int IntKind.i64 0] 35) = w6 at *
              generalize w5.heap.size = g6 at *
              obtain ⟨y0, y1, y2, y3, y4, y5, y6⟩ := HX6.out
              obtain ⟨x0, x1, x2, x3, x4, x5, x6⟩ := HN.out
              have x0' : g6 < w6.heap.size + 1 := by omega
              have y0' : g < w6.heap.size + 1 := by omega
              go_wp2_with fail
              refine (bright_any _ _ _ _).mono ?_
              rw [RN.out]
              rintro e w7 ⟨rfl, rfl⟩
              go_wp2
              go_roundw
              case rel => exact ⟨k + 1, ⟨xc, s, 0⟩, by omega, by omega, by go_num, rfl, RN.out, rfl, (HX6.out.store _ _ _).below ((Below.refl _ _).alloc (Nat.le_refl _) _), (below_store3 HW6.out hg _ _ _).alloc (below_store3 HW6.out hg _ _ _).size _⟩
              case measure => simp [intOf]; omega
            · rename_i hHeldX
              have HN := Lib.hid (show Box3 (((w5.setCell ⟨w4.heap.size, 0, none⟩ (.int .i64 xc)).setCell ⟨w4.heap.size, 1, none⟩ (.bool s)).setCell ⟨w4.heap.size, 2, none⟩ (.int .i64 0)) w4.heap.size (.int .i64 xc) (.bool s) (.int .i64 0) from (zero_box hb).store _ _ _)
              have HX5 := Lib.hid (Box3.below (w := (w4.alloc (.cells #[.int .i64 0, .bool false, .int .i64 0] 35)).drew) (HX4.out.below (((Below.refl _ _).alloc (Nat.le_refl _) (.cells #[.int .i64 0, .bool false, .int .i64 0] 35)).drew)) hb)
              have HX6 := Lib.hid (show Box3 (((w5.setCell ⟨w4.heap.size, 0, none⟩ (.int .i64 xc)).setCell ⟨w4.heap.size, 1, none⟩ (.bool s)).setCell ⟨w4.heap.size, 2, none⟩ (.int .i64 0)) g (.int .i64 xc) (.bool xv) (.int .i64 xo) from HX5.out.store_far (by omega) _ _ _)
              have hw5 := (HW4.out.alloc HW4.out.size (.cells #[.int .i64 0, .bool false, .int .i64 0] 35)).drew.trans (hb.mono (HW4.out.alloc HW4.out.size (.cells #[.int .i64 0, .bool false, .int .i64 0] 35)).drew.size)
              have HW6 := Lib.hid (show Below w.heap.size w (((w5.setCell ⟨w4.heap.size, 0, none⟩ (.int .i64 xc)).setCell ⟨w4.heap.size, 1, none⟩ (.bool s)).setCell ⟨w4.heap.size, 2, none⟩ (.int .i64 0)) from below_store3 hw5 HW4.out.size _ _ _)
              have hg6 : w.heap.size ≤ w4.heap.size := HW4.out.size
              have hne : g ≠ w4.heap.size := by omega
              clear hw5 hb HX5 HX4 HW4 y1 y2 y3 y4 y5 y6 hc4 hb4 q0 q1 q2 p0 p1 p2 n0 n3 hHeldX
              generalize (((w5.setCell ⟨w4.heap.size, 0, none⟩ (.int .i64 xc)).setCell ⟨w4.heap.size, 1, none⟩ (.bool s)).setCell ⟨w4.heap.size, 2, none⟩ (.int .i64 0)) = w6 at *
              generalize w4.heap.size = g6 at *
              obtain ⟨y0, y1, y2, y3, y4, y5, y6⟩ := HX6.out
              obtain ⟨x0, x1, x2, x3, x4, x5, x6⟩ := HN.out
              have x0' : g6 < w6.heap.size + 1 := by omega
              have y0' : g < w6.heap.size + 1 := by omega
              go_wp2_with fail
              refine (bright_any _ _ _ _).mono ?_
              rw [RN.out]
              rintro e w7 ⟨rfl, rfl⟩
              go_wp2
              go_roundw
              case rel => exact ⟨k + 1, ⟨xc, s, 0⟩, by omega, by omega, by go_num, rfl, RN.out, rfl, (HX6.out.store _ _ _).below ((Below.refl _ _).alloc (Nat.le_refl _) _), (below_store3 HW6.out hg _ _ _).alloc (below_store3 HW6.out hg _ _ _).size _⟩
              case measure => simp [intOf]; omega
          · have hrun : (xo + 1 == xc) = false := beq_eq_false_iff_ne.2 ho
            have ES := Lib.hid (show stepS ⟨xc, xv, xo⟩ s = ⟨xc, xv, (xo + 1)⟩ by have h := HR.out; have h2 := HSV.out; simp [stepS, h, h2, ho])
            have RN := Lib.hid (show rightB ⟨xc, xv, (xo + 1)⟩ = true from (right_iff _ _ _).2 (by omega))
            have ho' : xo + 1 < xc := by omega
            clear ho
            go_wp2_with fail
            go_quiet (fail)
            go_wp2_with fail
            have HX4 := Lib.hid (HX.out.drewN nq)
            have HW4 := Lib.hid (below_drewN HW.out nq)
            have hc4 : (wr.drewN nq).cell? ⟨b, off + k, none⟩ = some (.bool s) := hc
            have hb4 : b < (wr.drewN nq).heap.size := hbl
            clear HX HW hc hbl y0 y1 y2 y3 y4 y5 y6
            generalize wr.drewN nq = w4 at *
            obtain ⟨y0, y1, y2, y3, y4, y5, y6⟩ := HX4.out
            have n0 : w4.heap.size ≠ g := by omega
            have n3 : w4.heap.size ≠ b := by omega
            go_region_held3 (fun w' => w'.cell? ⟨g, 0, none⟩ = some (.int .i64 xc) ∧ w'.cell? ⟨g, 1, none⟩ = some (.bool xv) ∧ w'.cell? ⟨g, 2, none⟩ = some (.int .i64 xo) ∧ w'.cell? ⟨b, off + k, none⟩ = some (.bool s))
              (first
                | go_keep
                | (go_split_ands
                   refine ⟨?_, ?_, ?_, ?_⟩ <;> (first | (rw [hb.cell (by simp; omega)]; first | assumption | (go_simp; done)) | (rw [World.cell?_alloc_past _ _ _ (by assumption)]; assumption) | (rw [World.cell?_alloc_past _ _ _ (by assumption), hb.cell (by simp; omega)]; first | assumption | (go_simp; done)))))
              ((go_at_call 33; refine (bstep_any _ _ _ _ _).mono ?_; rw [ES.out, sw_val]; rintro e w5 ⟨rfl, hb⟩; have hz5 := hb.size; simp at hz5; have yg : g < w5.heap.size := (by omega); have yb : b < w5.heap.size := (by omega); try (have qz := zero_box hb; obtain ⟨qs, q0, q1, q2, p0, p1, p2⟩ := qz)))
            · rename_i hHeldX
              have HN := Lib.hid (Box3.new w5 (.int .i64 xc) (.bool xv) (.int .i64 (xo + 1)) 35)
              have HX5 := Lib.hid (Box3.below (w := w4.drew) HX4.out hb)
              have HX6 := Lib.hid (HX5.out.below ((Below.refl w5.heap.size w5).alloc (Nat.le_refl _) (.cells #[.int .i64 xc, .bool xv, .int .i64 (xo + 1)] 35)))
              have hw5 := HW4.out.drew.trans (hb.mono HW4.out.size)
              have HW6 := Lib.hid (hw5.alloc hw5.size (.cells #[.int .i64 xc, .bool xv, .int .i64 (xo + 1)] 35))
              have hg6 : w.heap.size ≤ w5.heap.size := hw5.size
              have hne : g ≠ w5.heap.size := by omega
              clear hw5 hb HX5 HX4 HW4 y1 y2 y3 y4 y5 y6 hc4 hb4 hHeldX
              generalize w5.alloc (Obj.cells #[Value.int IntKind.i64 xc, Value.bool xv, Value.int IntKind.i64 (xo + 1)] 35) = w6 at *
              generalize w5.heap.size = g6 at *
              obtain ⟨y0, y1, y2, y3, y4, y5, y6⟩ := HX6.out
              obtain ⟨x0, x1, x2, x3, x4, x5, x6⟩ := HN.out
              have x0' : g6 < w6.heap.size + 1 := by omega
              have y0' : g < w6.heap.size + 1 := by omega
              go_wp2_with fail
              refine (bright_any _ _ _ _).mono ?_
              rw [RN.out]
              rintro e w7 ⟨rfl, rfl⟩
              go_wp2
              go_roundw
              case rel => exact ⟨k + 1, ⟨xc, xv, (xo + 1)⟩, by omega, by omega, by go_num, rfl, RN.out, rfl, (HX6.out.store _ _ _).below ((Below.refl _ _).alloc (Nat.le_refl _) _), (below_store3 HW6.out hg _ _ _).alloc (below_store3 HW6.out hg _ _ _).size _⟩
              case measure => simp [intOf]; omega
            · rename_i hHeldX
              have HN := Lib.hid (show Box3 (((w5.setCell ⟨w4.heap.size, 0, none⟩ (.int .i64 xc)).setCell ⟨w4.heap.size, 1, none⟩ (.bool xv)).setCell ⟨w4.heap.size, 2, none⟩ (.int .i64 (xo + 1))) w4.heap.size (.int .i64 xc) (.bool xv) (.int .i64 (xo + 1)) from (zero_box hb).store _ _ _)
              have HX5 := Lib.hid (Box3.below (w := (w4.alloc (.cells #[.int .i64 0, .bool false, .int .i64 0] 35)).drew) (HX4.out.below (((Below.refl _ _).alloc (Nat.le_refl _) (.cells #[.int .i64 0, .bool false, .int .i64 0] 35)).drew)) hb)
              have HX6 := Lib.hid (show Box3 (((w5.setCell ⟨w4.heap.size, 0, none⟩ (.int .i64 xc)).setCell ⟨w4.heap.size, 1, none⟩ (.bool xv)).setCell ⟨w4.heap.size, 2, none⟩ (.int .i64 (xo + 1))) g (.int .i64 xc) (.bool xv) (.int .i64 xo) from HX5.out.store_far (by omega) _ _ _)
              have hw5 := (HW4.out.alloc HW4.out.size (.cells #[.int .i64 0, .bool false, .int .i64 0] 35)).drew.trans (hb.mono (HW4.out.alloc HW4.out.size (.cells #[.int .i64 0, .bool false, .int .i64 0] 35)).drew.size)
              have HW6 := Lib.hid (show Below w.heap.size w (((w5.setCell ⟨w4.heap.size, 0, none⟩ (.int .i64 xc)).setCell ⟨w4.heap.size, 1, none⟩ (.bool xv)).setCell ⟨w4.heap.size, 2, none⟩ (.int .i64 (xo + 1))) from below_store3 hw5 HW4.out.size _ _ _)
              have hg6 : w.heap.size ≤ w4.heap.size := HW4.out.size
              have hne : g ≠ w4.heap.size := by omega
              clear hw5 hb HX5 HX4 HW4 y1 y2 y3 y4 y5 y6 hc4 hb4 q0 q1 q2 p0 p1 p2 n0 n3 hHeldX
              generalize (((w5.setCell ⟨w4.heap.size, 0, none⟩ (.int .i64 xc)).setCell ⟨w4.heap.size, 1, none⟩ (.bool xv)).setCell ⟨w4.heap.size, 2, none⟩ (.int .i64 (xo + 1))) = w6 at *
              generalize w4.heap.size = g6 at *
              obtain ⟨y0, y1, y2, y3, y4, y5, y6⟩ := HX6.out
              obtain ⟨x0, x1, x2, x3, x4, x5, x6⟩ := HN.out
              have x0' : g6 < w6.heap.size + 1 := by omega
              have y0' : g < w6.heap.size + 1 := by omega
              go_wp2_with fail
              refine (bright_any _ _ _ _).mono ?_
              rw [RN.out]
              rintro e w7 ⟨rfl, rfl⟩
              go_wp2
              go_roundw
              case rel => exact ⟨k + 1, ⟨xc, xv, (xo + 1)⟩, by omega, by omega, by go_num, rfl, RN.out, rfl, (HX6.out.store _ _ _).below ((Below.refl _ _).alloc (Nat.le_refl _) _), (below_store3 HW6.out hg _ _ _).alloc (below_store3 HW6.out hg _ _ _).size _⟩
              case measure => simp [intOf]; omega
      · have hd : ¬ (k < len ∧ k < 300) := hlt
        have hout : (¬ k < len) ∨ (k < len ∧ ¬ k < 300) := by omega
        clear hlt hd
        rcases hout with h | ⟨h, h'⟩
        all_goals
          go_wp2
          go_ret
          exact ⟨rfl, HW.out⟩
  · have E1 := Lib.hid (show newS c v = ⟨0, false, 0⟩ by simp [newS, hn])
    have E2 := Lib.hid (show newE c = 1 by simp [newE, hn])
    clear hn
    go_enter Try.func8, Try.ntmps8
    go_wp2_with fail
    refine (awake05 _).mono ?_
    rintro e w1 ⟨rfl, hb⟩
    have H1 := Lib.hid hb
    clear hb
    go_wp2_with fail
    refine (bnew_any _ _ _).mono ?_
    rw [E1.out, E2.out, sw_val]
    rintro e w2 ⟨rfl, hb⟩
    have H2 := Lib.hid (H1.out.trans (hb.mono H1.out.size))
    clear hb H1
    go_wp2
    go_ret
    exact ⟨rfl, H2.out.alloc H2.out.size _⟩
end Go.Proofs.Ytnabpdengfmeaaa
