/- The law DriveSteps of layer 7, walked. -/
import Derived.Test.YtnabpdengfmeaaaDriveAwake
import Derived.Test.YtnabpdengfmeaaaDriveVal
import Derived.Test.YtnabpdengfmeaaaDriveLaws
import Derived.Test.YtnabpdengfmeaaaStepsLast
import Derived.Test.YtnabpdengfmeaaaSame
import Derived.Deep.DeepCutAuto
import Derived.Deep.RegionHeld3
namespace Go.Proofs.Ytnabpdengfmeaaa
open Go.RowKit

theorem run_min40 (w : World) (a : Nat) : (Builtin.min_ #[3, 3] 3 #[.int .i64 a, .int .i64 40]).run Try.prog w = .ok (.int .i64 (min a 40 : Nat)) w := by
  simp only [Builtin.min_, List.foldlM, Builtin.min2]
  simp
  omega

theorem controlN_bd' (s : Int) (want clear : Bool) : 0 ≤ controlN s want clear ∧ controlN s want clear ≤ 7 := by
  unfold controlN; split <;> (try split) <;> (try split) <;> (try split) <;> omega

def okB (limit count : Int) : Bool := decide ((1 ≤ limit ∧ limit ≤ 100) ∧ 1 ≤ count ∧ count ≤ 20)
def goodN (limit count : Int) : Dr := ⟨0, ⟨limit, 0, -1⟩, ⟨count, false, 0⟩, ⟨count, false, 0⟩, ⟨count, false, 0⟩, 0, false, 0⟩

set_option maxHeartbeats 8000000 in
set_option maxRecDepth 100000 in
theorem driveSteps (limit count : Int) (st wl wm wt pc po mc mo hc ho a q : Int) (pv mv hv k : Bool) (ad : Option Addr) (len cap : Nat) (z : List Int) (want clear : Bool) (target : Int) (w : World) (hl : z.length = len) (hcap : len ≤ cap) (h : Reads w ad z) :
    Calls Try.prog 23 #[.int .i64 limit, .int .i64 count, .agg #[.int .i64 st, .int .i64 wl, .int .i64 wm, .int .i64 wt, .int .i64 pc, .bool pv, .int .i64 po, .int .i64 mc, .bool mv, .int .i64 mo, .int .i64 hc, .bool hv, .int .i64 ho, .int .i64 a, .bool k, .int .i64 q], .slice ad len cap, .bool want, .bool clear, .int .i64 target] w fun e w' => e = .returned (.bool true) ∧ Below w.heap.size w w' := by
  have hlen := h.1
  have HA := Lib.hid h; clear h
  have HL := Lib.hid hl; clear hl
  have hmn := fun (w : World) => run_min40 w len
  have HM := Lib.hid (show (z.take 40).length = min len 40 by rw [List.length_take, HL.out]; omega)
  have hk0 : (0 : Int) ≤ ((min len 40 : Nat) : Int) := by omega
  have hk1 : ((min len 40 : Nat) : Int) ≤ (cap : Int) := by omega
  have hk2 : ((min len 40 : Nat) : Int) ≤ 40 := by omega
  generalize min len 40 = kl at *
  go_enter Try.func23, Try.ntmps23
  go_wp2_with fail
  obtain ⟨D, hD⟩ : ∃ D : Dr, ⟨st, ⟨wl, wm, wt⟩, ⟨pc, pv, po⟩, ⟨mc, mv, mo⟩, ⟨hc, hv, ho⟩, a, k, q⟩ = D := ⟨_, rfl⟩
  have hB0 : Cells (w.alloc (.cells #[.int .i64 st, .int .i64 wl, .int .i64 wm, .int .i64 wt, .int .i64 pc, .bool pv, .int .i64 po, .int .i64 mc, .bool mv, .int .i64 mo, .int .i64 hc, .bool hv, .int .i64 ho, .int .i64 a, .bool k, .int .i64 q] 82)) w.heap.size (Dr.cs ⟨st, ⟨wl, wm, wt⟩, ⟨pc, pv, po⟩, ⟨mc, mv, mo⟩, ⟨hc, hv, ho⟩, a, k, q⟩) := Cells.new w (Dr.cs ⟨st, ⟨wl, wm, wt⟩, ⟨pc, pv, po⟩, ⟨mc, mv, mo⟩, ⟨hc, hv, ho⟩, a, k, q⟩) 82
  rw [hD] at hB0
  clear hD
  have hT := HA.out.below (show Below w.heap.size w (w.alloc (.cells #[.int .i64 st, .int .i64 wl, .int .i64 wm, .int .i64 wt, .int .i64 pc, .bool pv, .int .i64 po, .int .i64 mc, .bool mv, .int .i64 mo, .int .i64 hc, .bool hv, .int .i64 ho, .int .i64 a, .bool k, .int .i64 q] 82)) from (Below.refl w.heap.size w).alloc (Nat.le_refl _) _)
  have hW := (show Below w.heap.size w (w.alloc (.cells #[.int .i64 st, .int .i64 wl, .int .i64 wm, .int .i64 wt, .int .i64 pc, .bool pv, .int .i64 po, .int .i64 mc, .bool mv, .int .i64 mo, .int .i64 hc, .bool hv, .int .i64 ho, .int .i64 a, .bool k, .int .i64 q] 82)) from (Below.refl w.heap.size w).alloc (Nat.le_refl _) _)
  have hS := (show w.heap.size < (w.alloc (.cells #[.int .i64 st, .int .i64 wl, .int .i64 wm, .int .i64 wt, .int .i64 pc, .bool pv, .int .i64 po, .int .i64 mc, .bool mv, .int .i64 mo, .int .i64 hc, .bool hv, .int .i64 ho, .int .i64 a, .bool k, .int .i64 q] 82)).heap.size by simp)
  clear HA
  generalize w.alloc (.cells #[.int .i64 st, .int .i64 wl, .int .i64 wm, .int .i64 wt, .int .i64 pc, .bool pv, .int .i64 po, .int .i64 mc, .bool mv, .int .i64 mo, .int .i64 hc, .bool hv, .int .i64 ho, .int .i64 a, .bool k, .int .i64 q] 82) = w0 at *
  generalize hbd : w.heap.size = b at hB0 hW hS ⊢
  have HBD := Lib.hid hbd
  have HA0 := Lib.hid hT
  have HW := Lib.hid hW
  have HSZ := Lib.hid hS
  have B0 := Lib.hid hB0
  clear hT hW hS hB0 hbd
  generalize Value.agg #[.int .i64 st, .int .i64 wl, .int .i64 wm, .int .i64 wt, .int .i64 pc, .bool pv, .int .i64 po, .int .i64 mc, .bool mv, .int .i64 mo, .int .i64 hc, .bool hv, .int .i64 ho, .int .i64 a, .bool k, .int .i64 q] = vd
  refine (awake07 _).mono ?_
  rintro e w1 ⟨rfl, hb⟩
  have B1 := Lib.hid (B0.out.below hb)
  have H1 := Lib.hid (HW.out.trans (hb.mono (by have := HSZ.out; omega)))
  have HA1 := Lib.hid (HA0.out.below hb)
  have hbd1 : b < w1.heap.size := B1.out.1
  clear hb B0 HW HA0 HSZ
  go_wp2_with fail
  obtain ⟨u, hu⟩ : ∃ u, okB limit count = u := ⟨_, rfl⟩
  obtain ⟨N, hN⟩ : ∃ N, newD limit count = N := ⟨_, rfl⟩
  obtain ⟨E, hE⟩ : ∃ E, newDE limit count = E := ⟨_, rfl⟩
  have NF := Lib.hid (show (u = true → N = goodN limit count ∧ E = 0) ∧ (u = false → N = zeroD ∧ E = 1) by
    constructor
    · intro h
      have h' : (1 ≤ limit ∧ limit ≤ 100) ∧ 1 ≤ count ∧ count ≤ 20 := of_decide_eq_true (hu.trans h)
      rw [← hN, ← hE, newD, newDE, if_pos h', if_pos h']
      exact ⟨rfl, rfl⟩
    · intro h
      have h' : ¬ ((1 ≤ limit ∧ limit ≤ 100) ∧ 1 ≤ count ∧ count ≤ 20) := of_decide_eq_false (hu.trans h)
      rw [← hN, ← hE, newD, newDE, if_neg h', if_neg h']
      exact ⟨rfl, rfl⟩)
  refine (dnew_any _ _ _).mono ?_
  rw [hN, hE]
  have HU := Lib.hid hu
  clear hu hN hE
  rintro e w2 ⟨rfl, hb⟩
  have B2 := Lib.hid (B1.out.below hb)
  have H2 := Lib.hid (H1.out.trans (hb.mono (by have := B1.out.1; omega)))
  have HA2 := Lib.hid (HA1.out.below hb)
  have HSZ2 := Lib.hid hb.size
  clear hb B1 H1 HA1
  go_upto_region 5 with (refine wpList_store_new (w0 := w2) (by rfl) _ _ (by rfl) (by rfl) N (by rfl) (by rfl) ?_; intro w3 hN3 hb3)
  have B3 := Lib.hid (B2.out.below hb3)
  have H3 := Lib.hid (H2.out.trans (hb3.mono (by have := B2.out.1; omega)))
  have HA3 := Lib.hid ((HA2.out.below hb3).take 40)
  generalize w2.heap.size = bn at hN3 ⊢
  have BN3 := Lib.hid hN3
  clear hN3 hb3 B2 H2 HA2 HSZ2
  go_cut [17] (fun v wx => v = .bool u ∧ w3 = wx)
  case first =>
    by_cases c1 : 1 ≤ limit
    case' neg =>
      obtain rfl : u = false := by rw [← HU.out]; exact decide_eq_false (by omega)
      have d1 : decide (1 ≤ limit) = false := decide_eq_false c1
      go_wp2_with fail
      go_meet
      exact ⟨rfl, rfl⟩
    case' pos =>
      by_cases c2 : limit ≤ 100
      case' neg =>
        obtain rfl : u = false := by rw [← HU.out]; exact decide_eq_false (by omega)
        have d1 : decide (limit ≤ 100) = false := decide_eq_false c2
        go_wp2_with fail
        go_meet
        exact ⟨rfl, rfl⟩
      case' pos =>
        by_cases c3 : 1 ≤ count
        case' neg =>
          obtain rfl : u = false := by rw [← HU.out]; exact decide_eq_false (by omega)
          have d1 : decide (1 ≤ count) = false := decide_eq_false c3
          go_wp2_with fail
          go_meet
          exact ⟨rfl, rfl⟩
        case' pos =>
          by_cases c4 : count ≤ 20
          case' neg =>
            obtain rfl : u = false := by rw [← HU.out]; exact decide_eq_false (by omega)
            have d1 : decide (count ≤ 20) = false := decide_eq_false c4
            go_wp2_with fail
            go_meet
            exact ⟨rfl, rfl⟩
          case' pos =>
            obtain rfl : u = true := by rw [← HU.out]; exact decide_eq_true (by omega)
            go_wp2_with fail
            go_meet
            exact ⟨rfl, rfl⟩
  case rest =>
    obtain ⟨rfl, rfl⟩ := hcut
    clear HU
    go_upto_region 6 with (fail)
    go_cut [68] (fun v wx => v = .bool false ∧ w3 = wx)
    case first =>
      cases u with
      | true =>
        obtain ⟨rfl, rfl⟩ := NF.out.1 rfl
        go_wp2_with fail
        go_meet
        exact ⟨rfl, rfl⟩
      | false =>
        obtain ⟨rfl, rfl⟩ := NF.out.2 rfl
        go_wp2_with (first | (refine wpList_load_dr (by rfl) _ (by rfl) bn (by rfl) zeroD BN3.out ?_; simp only [Act.put, List.setIfInBounds_toArray, List.set_cons_zero, List.set_cons_succ]) | (refine wpList_neq_dr (by rfl) _ _ (by rfl) zeroD (by rfl) (by rfl) ?_; simp only [Act.put, List.setIfInBounds_toArray, List.set_cons_zero, List.set_cons_succ]))
        go_meet
        exact ⟨rfl, rfl⟩
    case rest =>
      obtain ⟨rfl, rfl⟩ := hcut
      go_upto_region 9 with (fail)
      have BN4 := Lib.hid (BN3.out.below (show Below w3.heap.size w3 (w3.alloc (.cells #[.int .i64 count, .bool false, .int .i64 0] 35)) from by go_grown))
      go_cut [81] (fun v wx => v = .bool false ∧ Below w3.heap.size w3 wx)
      case first =>
        cases u with
        | true =>
          obtain ⟨rfl, rfl⟩ := NF.out.1 rfl
          go_wp2_with (first | (refine wpList_load_dr (by rfl) _ (by rfl) bn (by rfl) (goodN limit count) BN4.out ?_; simp only [Act.put, List.setIfInBounds_toArray, List.set_cons_zero, List.set_cons_succ]) | (refine wpList_neq_dr (by rfl) _ _ (by rfl) (goodN limit count) (by rfl) (by rfl) ?_; simp only [Act.put, List.setIfInBounds_toArray, List.set_cons_zero, List.set_cons_succ]))
          go_meet
          exact ⟨rfl, by go_grown⟩
        | false =>
          go_wp2_with fail
          go_meet
          exact ⟨rfl, by go_grown⟩
      case rest =>
        obtain ⟨rfl, hb⟩ := hcut
        have B5 := Lib.hid (B3.out.below hb)
        have H5 := Lib.hid (H3.out.trans (hb.mono (by have := B3.out.1; omega)))
        have HA5 := Lib.hid (HA3.out.below hb)
        clear hb B3 H3 HA3 BN3 BN4 NF
        generalize wc = w5 at *
        go_wp2_with (refine wpList_load_dr (by rfl) _ (by rfl) b (by rfl) D B5.out ?_; simp only [Act.put, List.setIfInBounds_toArray, List.set_cons_zero, List.set_cons_succ])
        refine (rdright_dr _ _).mono ?_
        obtain ⟨r, hr⟩ : ∃ r, rightD D = r := ⟨_, rfl⟩
        have HR := Lib.hid hr
        rw [hr]
        clear hr
        rintro e w6 ⟨rfl, hb⟩
        have B6 := Lib.hid (B5.out.below hb)
        have H6 := Lib.hid (H5.out.trans (hb.mono (by have := B5.out.1; omega)))
        have HA6 := Lib.hid (HA5.out.below hb)
        clear hb B5 H5 HA5
        go_wp2_with (refine wpList_load_dr (by rfl) _ (by rfl) b (by rfl) D B6.out ?_; simp only [Act.put, List.setIfInBounds_toArray, List.set_cons_zero, List.set_cons_succ])
        refine (dright_dr _ _).mono ?_
        rw [HR.out]
        rintro e w7 ⟨rfl, hb⟩
        have B7 := Lib.hid (B6.out.below hb)
        have H7 := Lib.hid (H6.out.trans (hb.mono (by have := B6.out.1; omega)))
        have HA7 := Lib.hid (HA6.out.below hb)
        clear hb B6 H6 HA6
        have e1 : (r != r) = false := by cases r <;> rfl
        have e2 : (r == r) = true := by cases r <;> rfl
        go_upto_region 14 with (fail)
        cases r with
        | false =>
          go_wp2_with (refine wpList_load_dr (by rfl) _ (by rfl) b (by rfl) D B7.out ?_; simp only [Act.put, List.setIfInBounds_toArray, List.set_cons_zero, List.set_cons_succ])
          refine (dcome_any D _ _ _ (z.take 40) _ HM.out (by omega) HA7.out).mono ?_
          rw [show comeD D (Fr.readN 70 127 (z.take 40)) = zeroD by unfold comeD; rw [HR.out]; rfl]
          rintro e w8 ⟨rfl, hb⟩
          have B8 := Lib.hid (B7.out.below hb)
          have H8 := Lib.hid (H7.out.trans (hb.mono (by have := B7.out.1; omega)))
          clear hb B7 H7 HA7
          go_upto_region 15 with (refine wpList_store_new (w0 := w8) (by rfl) _ _ (by rfl) (by rfl) zeroD (by rfl) (by rfl) ?_; intro w9 hX9 hb9; simp only [Act.put])
          have B9 := Lib.hid (B8.out.below hb9)
          have H9 := Lib.hid (H8.out.trans (hb9.mono (by have := B8.out.1; omega)))
          generalize w8.heap.size = bx at hX9 ⊢
          have BX9 := Lib.hid hX9
          clear hb9 hX9 B8 H8
          go_wp2_with (refine wpList_load_dr (by rfl) _ (by rfl) b (by rfl) D B9.out ?_; simp only [Act.put, List.setIfInBounds_toArray, List.set_cons_zero, List.set_cons_succ])
          refine (tell_bad_dr D _ _ _ _ HR.out).mono ?_
          rintro e wa ⟨rfl, hb⟩
          have Ba := Lib.hid (B9.out.below hb)
          have BXa := Lib.hid (BX9.out.below hb)
          have Ha := Lib.hid (H9.out.trans (hb.mono (by have := B9.out.1; omega)))
          clear hb B9 BX9 H9
          go_upto_region 16 with (refine wpList_store_new (w0 := wa) (by rfl) _ _ (by rfl) (by rfl) zeroD (by rfl) (by rfl) ?_; intro wb hYb hbb; simp only [Act.put])
          have Bb := Lib.hid (Ba.out.below hbb)
          have BXb := Lib.hid (BXa.out.below hbb)
          have Hb := Lib.hid (Ha.out.trans (hbb.mono (by have := Ba.out.1; omega)))
          generalize wa.heap.size = by1 at hYb ⊢
          have BYb := Lib.hid hYb
          clear hbb hYb Ba BXa Ha
          go_wp2_with (first | (refine wpList_load_dr (by rfl) _ (by rfl) b (by rfl) D Bb.out ?_; simp only [Act.put, List.setIfInBounds_toArray, List.set_cons_zero, List.set_cons_succ]) | (refine wpList_load_dr (by rfl) _ (by rfl) bx (by rfl) zeroD BXb.out ?_; simp only [Act.put, List.setIfInBounds_toArray, List.set_cons_zero, List.set_cons_succ]) | (refine wpList_load_dr (by rfl) _ (by rfl) by1 (by rfl) zeroD BYb.out ?_; simp only [Act.put, List.setIfInBounds_toArray, List.set_cons_zero, List.set_cons_succ]) | (refine wpList_eql_dr (by rfl) _ _ (by rfl) zeroD (by rfl) (by rfl) ?_; simp only [Act.put, List.setIfInBounds_toArray, List.set_cons_zero, List.set_cons_succ]))
          refine (lost_dr D _).mono ?_
          rw [show lostD D = true by unfold lostD; rw [HR.out]; rfl]
          rintro e wc1 ⟨rfl, hb⟩
          have Hc := Lib.hid (Hb.out.trans (hb.mono (by have := Bb.out.1; omega)))
          clear hb
          go_wp2
          go_ret
          exact ⟨rfl, by rw [HBD.out]; exact Hc.out⟩
        | true =>
          obtain ⟨q1, q2, q3, q4, q5, q6, q7, q8, hq0, hq1, q11⟩ := rightD_parts HR.out
          clear q1 q2 q3 q4 q5 q6 q7 q8 q11
          obtain ⟨X, hX⟩ : ∃ X, comeD D (Fr.readN 70 127 (z.take 40)) = X := ⟨_, rfl⟩
          have HX := Lib.hid hX
          clear hX
          have CB := controlN_bd' D.st want clear
          have PL := Lib.hid (show putL 83 7 D.q (controlN D.st want clear) target = Fr.frameL 83 D.q (controlN D.st want clear) target by
            have : putOk 7 D.q (controlN D.st want clear) = true := by rw [putOk_iff]; exact ⟨hq0, hq1, CB.1, CB.2⟩
            simp [putL, this])
          have HL13 := Lib.hid (Fr.frameL_len 83 D.q (controlN D.st want clear) target)
          have HQ0 := Lib.hid hq0
          have HQ1 := Lib.hid hq1
          clear CB hq0 hq1
          generalize Fr.frameL 83 D.q (controlN D.st want clear) target = L at PL HL13
          go_wp2_with (refine wpList_load_dr (by rfl) _ (by rfl) b (by rfl) D B7.out ?_; simp only [Act.put, List.setIfInBounds_toArray, List.set_cons_zero, List.set_cons_succ])
          refine (dcome_any D _ _ _ (z.take 40) _ HM.out (by omega) HA7.out).mono ?_
          rw [HX.out]
          rintro e w8 ⟨rfl, hb⟩
          have B8 := Lib.hid (B7.out.below hb)
          have HA8 := Lib.hid (HA7.out.below hb)
          have H8 := Lib.hid (H7.out.trans (hb.mono (by have := B7.out.1; omega)))
          clear hb B7 H7 HA7
          go_upto_region 15 with (refine wpList_store_new (w0 := w8) (by rfl) _ _ (by rfl) (by rfl) X (by rfl) (by rfl) ?_; intro w9 hX9 hb9; simp only [Act.put])
          have B9 := Lib.hid (B8.out.below hb9)
          have HA9 := Lib.hid (HA8.out.below hb9)
          have H9 := Lib.hid (H8.out.trans (hb9.mono (by have := B8.out.1; omega)))
          generalize w8.heap.size = bx at hX9 ⊢
          have BX9 := Lib.hid hX9
          clear hb9 hX9 B8 H8 HA8
          go_wp2_with (refine wpList_load_dr (by rfl) _ (by rfl) b (by rfl) D B9.out ?_; simp only [Act.put, List.setIfInBounds_toArray, List.set_cons_zero, List.set_cons_succ])
          refine (tell_good_dr D _ _ _ _ HR.out HQ0.out HQ1.out).mono ?_
          rw [PL.out]
          rintro e wa ⟨v, rfl, hown, hb⟩
          obtain ⟨g, cap1, rfl, hg, hcap1, hgl, hcells, hrd⟩ := hown.open13 HL13.out
          have Ba := Lib.hid (B9.out.below hb)
          have BXa := Lib.hid (BX9.out.below hb)
          have HAa := Lib.hid (HA9.out.below hb)
          have Ha := Lib.hid (H9.out.trans (hb.mono (by have := B9.out.1; omega)))
          have RDa := Lib.hid hrd
          clear hb B9 BX9 H9 HA9 hown hg hgl hcells hrd
          go_upto_region 16 with (refine wpList_store_new (w0 := wa) (by rfl) _ _ (by rfl) (by rfl) (toldD D) (by rfl) (by rfl) ?_; intro wb hYb hbb; simp only [Act.put])
          have Bb := Lib.hid (Ba.out.below hbb)
          have BXb := Lib.hid (BXa.out.below hbb)
          have HAb := Lib.hid (HAa.out.below hbb)
          have RDb := Lib.hid (RDa.out.below hbb)
          have Hb := Lib.hid (Ha.out.trans (hbb.mono (by have := Ba.out.1; omega)))
          generalize wa.heap.size = by1 at hYb ⊢
          have BYb := Lib.hid hYb
          clear hbb hYb Ba BXa Ha HAa RDa
          go_wp2_with (refine wpList_load_dr (by rfl) _ (by rfl) b (by rfl) D Bb.out ?_; simp only [Act.put, List.setIfInBounds_toArray, List.set_cons_zero, List.set_cons_succ])
          refine (rtell_good_dr D _ _ _ _ HQ0.out HQ1.out).mono ?_
          rw [PL.out]
          rintro e wd ⟨v, rfl, hown, hb⟩
          obtain ⟨g2, cap2, rfl, hg2, hcap2, hgl2, hcells, hrd⟩ := hown.open13 HL13.out
          have Bd := Lib.hid (Bb.out.below hb)
          have BXd := Lib.hid (BXb.out.below hb)
          have BYd := Lib.hid (BYb.out.below hb)
          have HAd := Lib.hid (HAb.out.below hb)
          have RDd := Lib.hid (RDb.out.below hb)
          have Hd := Lib.hid (Hb.out.trans (hb.mono (by have := Bb.out.1; omega)))
          have RTd := Lib.hid hrd
          clear hb Bb BXb BYb Hb HAb RDb hown hg2 hgl2 hcells hrd PL HQ0 HQ1
          go_upto_region 19 with (refine wpList_store_new (w0 := wd) (by rfl) _ _ (by rfl) (by rfl) (toldD D) (by rfl) (by rfl) ?_; intro we hZe hbe; simp only [Act.put])
          have Be := Lib.hid (Bd.out.below hbe)
          have BXe := Lib.hid (BXd.out.below hbe)
          have BYe := Lib.hid (BYd.out.below hbe)
          have HAe := Lib.hid (HAd.out.below hbe)
          have RDe := Lib.hid (RDd.out.below hbe)
          have RTe := Lib.hid (RTd.out.below hbe)
          have He := Lib.hid (Hd.out.trans (hbe.mono (by have := Bd.out.1; omega)))
          generalize wd.heap.size = bz at hZe ⊢
          have BZe := Lib.hid hZe
          clear hbe hZe Bd BXd BYd Hd HAd RDd RTd
          refine stepsLast HM.out (by omega) HAe.out HL13.out RDe.out RTe.out Be.out BXe.out BYe.out BZe.out HR.out HX.out ?_
          intro u126 u127 u128 u129 u130 u131 u132 u133 u134 u135 u136 u137 u138 u139 u140 u141 u142 u143 u144 u145 u146 u147 u148 u149 u150 u151 u152 wx hbx
          have Hx := Lib.hid (He.out.trans (hbx.mono (by have := Be.out.1; omega)))
          clear hbx
          go_wp2
          go_ret
          exact ⟨rfl, by rw [HBD.out]; exact Hx.out⟩
end Go.Proofs.Ytnabpdengfmeaaa
