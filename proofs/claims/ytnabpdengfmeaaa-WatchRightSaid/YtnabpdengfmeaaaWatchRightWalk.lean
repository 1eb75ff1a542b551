/- The law WatchRight of layer 4, walked. -/
import Derived.Test.YtnabpdengfmeaaaWatchAwake
import Derived.Deep.DeepCutAuto
import Derived.Deep.RegionHeld3
namespace Go.Proofs.Ytnabpdengfmeaaa
open Go.RowKit

theorem run_min40 (w : World) (a : Nat) : (Builtin.min_ #[3, 3] 3 #[.int .i64 a, .int .i64 40]).run Try.prog w = .ok (.int .i64 (min a 40 : Nat)) w := by
  simp only [Builtin.min_, List.foldlM, Builtin.min2]
  simp
  omega

theorem keep15 {w w' : World} {a b c d e : Nat} {p0 p1 p2 q0 q1 q2 r0 r1 r2 s0 s1 s2 t0 t1 t2 : Value} (ha : a < w.heap.size) (hb : b < w.heap.size) (hc : c < w.heap.size) (hd : d < w.heap.size) (he : e < w.heap.size) (h : Below w.heap.size w w')
    (h1 : w.cell? ⟨a, 0, none⟩ = some p0) (h2 : w.cell? ⟨a, 1, none⟩ = some p1) (h3 : w.cell? ⟨a, 2, none⟩ = some p2) (h4 : w.cell? ⟨b, 0, none⟩ = some q0) (h5 : w.cell? ⟨b, 1, none⟩ = some q1) (h6 : w.cell? ⟨b, 2, none⟩ = some q2)
    (h7 : w.cell? ⟨c, 0, none⟩ = some r0) (h8 : w.cell? ⟨c, 1, none⟩ = some r1) (h9 : w.cell? ⟨c, 2, none⟩ = some r2) (k1 : w.cell? ⟨d, 0, none⟩ = some s0) (k2 : w.cell? ⟨d, 1, none⟩ = some s1) (k3 : w.cell? ⟨d, 2, none⟩ = some s2)
    (k4 : w.cell? ⟨e, 0, none⟩ = some t0) (k5 : w.cell? ⟨e, 1, none⟩ = some t1) (k6 : w.cell? ⟨e, 2, none⟩ = some t2) :
    w'.cell? ⟨a, 0, none⟩ = some p0 ∧ w'.cell? ⟨a, 1, none⟩ = some p1 ∧ w'.cell? ⟨a, 2, none⟩ = some p2 ∧ w'.cell? ⟨b, 0, none⟩ = some q0 ∧ w'.cell? ⟨b, 1, none⟩ = some q1 ∧ w'.cell? ⟨b, 2, none⟩ = some q2 ∧
    w'.cell? ⟨c, 0, none⟩ = some r0 ∧ w'.cell? ⟨c, 1, none⟩ = some r1 ∧ w'.cell? ⟨c, 2, none⟩ = some r2 ∧ w'.cell? ⟨d, 0, none⟩ = some s0 ∧ w'.cell? ⟨d, 1, none⟩ = some s1 ∧ w'.cell? ⟨d, 2, none⟩ = some s2 ∧
    w'.cell? ⟨e, 0, none⟩ = some t0 ∧ w'.cell? ⟨e, 1, none⟩ = some t1 ∧ w'.cell? ⟨e, 2, none⟩ = some t2 :=
  ⟨(h.cell (p := ⟨a, 0, none⟩) ha).trans h1, (h.cell (p := ⟨a, 1, none⟩) ha).trans h2, (h.cell (p := ⟨a, 2, none⟩) ha).trans h3, (h.cell (p := ⟨b, 0, none⟩) hb).trans h4, (h.cell (p := ⟨b, 1, none⟩) hb).trans h5, (h.cell (p := ⟨b, 2, none⟩) hb).trans h6,
    (h.cell (p := ⟨c, 0, none⟩) hc).trans h7, (h.cell (p := ⟨c, 1, none⟩) hc).trans h8, (h.cell (p := ⟨c, 2, none⟩) hc).trans h9, (h.cell (p := ⟨d, 0, none⟩) hd).trans k1, (h.cell (p := ⟨d, 1, none⟩) hd).trans k2, (h.cell (p := ⟨d, 2, none⟩) hd).trans k3,
    (h.cell (p := ⟨e, 0, none⟩) he).trans k4, (h.cell (p := ⟨e, 1, none⟩) he).trans k5, (h.cell (p := ⟨e, 2, none⟩) he).trans k6⟩

set_option maxHeartbeats 8000000 in
set_option maxRecDepth 100000 in
theorem watchRight (limit l m t : Int) (a : Option Addr) (len cap : Nat) (z : List Int) (w : World) (hl : z.length = len) (hcap : len ≤ cap) (h : Reads w a z) :
    Calls Try.prog 17 #[.int .i64 limit, .agg #[.int .i64 l, .int .i64 m, .int .i64 t], .slice a len cap] w fun e w' => e = .returned (.bool true) ∧ Below w.heap.size w w' := by
  have hlen := h.1
  have HA := Lib.hid h; clear h
  have HL := Lib.hid hl; clear hl
  have hmn := fun (w : World) => run_min40 w len
  have HM := Lib.hid (show (z.take 40).length = min len 40 by rw [List.length_take, HL.out]; omega)
  have hk0 : (0 : Int) ≤ ((min len 40 : Nat) : Int) := by omega
  have hk1 : ((min len 40 : Nat) : Int) ≤ (cap : Int) := by omega
  have hk2 : ((min len 40 : Nat) : Int) ≤ 40 := by omega
  generalize min len 40 = k at *
  obtain ⟨u, hu⟩ : ∃ u, (decide (1 ≤ limit) && decide (limit ≤ 100)) = u := ⟨_, rfl⟩
  obtain ⟨⟨n0, n1, n2⟩, hN⟩ : ∃ N, wnewW limit = N := ⟨_, rfl⟩
  obtain ⟨E, hE⟩ : ∃ E, wnewE limit = E := ⟨_, rfl⟩
  have NF := Lib.hid (show (u = true → n0 = limit ∧ n1 = 0 ∧ n2 = -1 ∧ E = 0) ∧ (u = false → n0 = 0 ∧ n1 = 0 ∧ n2 = 0 ∧ E = 1) by
    constructor
    · intro h
      rw [← hu, Bool.and_eq_true, decide_eq_true_iff, decide_eq_true_iff] at h
      simp only [wnewW, wnewE, h.1, h.2, and_self, if_true, Wt.mk.injEq] at hN hE
      omega
    · intro h
      have h' : ¬ (1 ≤ limit ∧ limit ≤ 100) := by
        intro q
        rw [decide_eq_true q.1, decide_eq_true q.2] at hu
        rw [← hu] at h; simp at h
      simp only [wnewW, wnewE, h', if_false, Wt.mk.injEq] at hN hE
      omega)
  have HU := Lib.hid hu
  have HN := Lib.hid hN
  have HE := Lib.hid hE
  clear hu hN hE
  go_enter Try.func17, Try.ntmps17
  go_wp2_with fail
  have BW := Lib.hid (Box3.new w (.int .i64 l) (.int .i64 m) (.int .i64 t) 71)
  refine (awake04 _).mono ?_
  rintro e w1 ⟨rfl, hb⟩
  have BW1 := Lib.hid (BW.out.below hb)
  have H1 := Lib.hid (((Below.refl w.heap.size w).alloc (Nat.le_refl _) _).trans (hb.mono (by simp)))
  clear hb BW
  go_wp2_with fail
  refine (wnew_any _ _).mono ?_
  rw [HN.out, HE.out, wt_val]
  rintro e w2 ⟨rfl, hb⟩
  have BW2 := Lib.hid ((BW1.out.below hb).below ((Below.refl _ _).alloc (Nat.le_refl _) (.cells #[.int .i64 n0, .int .i64 n1, .int .i64 n2] 71)))
  have BN2 := Lib.hid (Box3.new w2 (.int .i64 n0) (.int .i64 n1) (.int .i64 n2) 71)
  have HS := Lib.hid (Nat.le_trans H1.out.size hb.size)
  have H2 := Lib.hid ((H1.out.trans (hb.mono H1.out.size)).alloc HS.out (.cells #[.int .i64 n0, .int .i64 n1, .int .i64 n2] 71))
  clear hb H1 BW1
  go_upto_region 5 with (fail)
  generalize w2.alloc (.cells #[.int .i64 n0, .int .i64 n1, .int .i64 n2] 71) = w3 at *
  generalize w2.heap.size = bn at *
  generalize w.heap.size = bw at BW2 ⊢
  go_cut [9] (fun v wx => v = .bool u ∧ wx = w3)
  case first =>
    by_cases h1 : 1 ≤ limit
    · by_cases h2 : limit ≤ 100
      · go_wp2_with fail
        go_meet
        exact ⟨congrArg Value.bool (by rw [← HU.out, decide_eq_true h1, decide_eq_true h2]; rfl), rfl⟩
      · have d2 : decide (limit ≤ 100) = false := decide_eq_false h2
        go_wp2_with fail
        go_meet
        exact ⟨congrArg Value.bool (by rw [← HU.out, d2, Bool.and_false]), rfl⟩
    · have d1 : decide (1 ≤ limit) = false := decide_eq_false h1
      go_wp2_with fail
      go_meet
      exact ⟨congrArg Value.bool (by rw [← HU.out, d1, Bool.false_and]), rfl⟩
  case rest =>
    obtain ⟨rfl, rfl⟩ := hcut
    go_upto_region 6 with (fail)
    go_cut [59] (fun v wx => v = .bool false ∧ wx = wc)
    case first =>
      obtain ⟨x0, x1, x2, x3, x4, x5, x6⟩ := BN2.out
      cases hu : u with
      | true =>
        obtain ⟨rfl, rfl, rfl, rfl⟩ := NF.out.1 hu
        subst hu
        go_wp2_with fail
        go_meet
        exact ⟨rfl, rfl⟩
      | false =>
        obtain ⟨rfl, rfl, rfl, rfl⟩ := NF.out.2 hu
        subst hu
        go_wp2_with fail
        go_meet
        exact ⟨rfl, rfl⟩
    case rest =>
      obtain ⟨rfl, rfl⟩ := hcut
      clear hmn HS NF HN HE HU BN2
      obtain ⟨⟨⟨tl, tm, tt⟩, ts, td, tp, tok⟩, hT⟩ : ∃ T, comeG ⟨l, m, t⟩ (Fr.readN 70 127 (z.take 40)) = T := ⟨_, rfl⟩
      have HT := Lib.hid hT
      clear hT
      have RA := Lib.hid ((HA.out.below H2.out).take 40)
      obtain ⟨x0, x1, x2, x3, x4, x5, x6⟩ := BW2.out
      go_wp2_with fail
      refine (wcome_any _ _ _ _ _ _ (z.take 40) _ HM.out (by omega) RA.out).mono ?_
      rw [HT.out, took_val]
      rintro e w4 ⟨rfl, hb⟩
      have BW4 := Lib.hid (BW2.out.below hb)
      have H4 := Lib.hid (H2.out.trans (hb.mono H2.out.size))
      have HS4 := Lib.hid H4.out.size
      clear hb x0 x1 x2 x3 x4 x5 x6 BW2 H2 RA
      obtain ⟨x0, x1, x2, x3, x4, x5, x6⟩ := BW4.out
      have y0 := Nat.lt_succ_of_lt x0
      have y1 := Nat.lt_succ_of_lt y0
      go_wp2_with fail
      have B1 := Lib.hid ((Box3.new w4 (.int .i64 tl) (.int .i64 tm) (.int .i64 tt) 71).below ((Below.refl _ _).alloc (Nat.le_refl _) (.cells #[.int .i64 ts, .int .i64 td, .int .i64 tp] 49)))
      have B2 := Lib.hid (Box3.new (w4.alloc (.cells #[.int .i64 tl, .int .i64 tm, .int .i64 tt] 71)) (.int .i64 ts) (.int .i64 td) (.int .i64 tp) 49)
      have BW5 := Lib.hid (BW4.out.below (show Below w4.heap.size w4 ((w4.alloc (.cells #[.int .i64 tl, .int .i64 tm, .int .i64 tt] 71)).alloc (.cells #[.int .i64 ts, .int .i64 td, .int .i64 tp] 49)) from by go_grown))
      have H5 := Lib.hid (show Below w.heap.size w ((w4.alloc (.cells #[.int .i64 tl, .int .i64 tm, .int .i64 tt] 71)).alloc (.cells #[.int .i64 ts, .int .i64 td, .int .i64 tp] 49)) from by have hb4 := H4.out; have hs4 := HS4.out; go_grown)
      simp only [size_alloc] at B2
      clear x0 x1 x2 x3 x4 x5 x6 y0 y1 BW4 H4 HS4
      generalize (w4.alloc (.cells #[.int .i64 tl, .int .i64 tm, .int .i64 tt] 71)).alloc (.cells #[.int .i64 ts, .int .i64 td, .int .i64 tp] 49) = w5 at *
      generalize w4.heap.size + 1 = b2 at *
      generalize w4.heap.size = b1 at *
      have RA := Lib.hid ((HA.out.below H5.out).take 40)
      refine (rwcome_any _ _ _ _ _ _ (z.take 40) _ HM.out (by omega) RA.out).mono ?_
      rw [HT.out, took_val]
      rintro e w6 ⟨rfl, hb⟩
      have BW6 := Lib.hid (BW5.out.below hb)
      have B16 := Lib.hid (B1.out.below hb)
      have B26 := Lib.hid (B2.out.below hb)
      have H6 := Lib.hid (H5.out.trans (hb.mono H5.out.size))
      have HS6 := Lib.hid H6.out.size
      clear hb B1 B2 BW5 H5 RA HT HM HA HL
      go_wp2_with fail
      have B3 := Lib.hid ((Box3.new w6 (.int .i64 tl) (.int .i64 tm) (.int .i64 tt) 71).below ((Below.refl _ _).alloc (Nat.le_refl _) (.cells #[.int .i64 ts, .int .i64 td, .int .i64 tp] 49)))
      have B4 := Lib.hid (Box3.new (w6.alloc (.cells #[.int .i64 tl, .int .i64 tm, .int .i64 tt] 71)) (.int .i64 ts) (.int .i64 td) (.int .i64 tp) 49)
      have BW7 := Lib.hid (BW6.out.below (show Below w6.heap.size w6 ((w6.alloc (.cells #[.int .i64 tl, .int .i64 tm, .int .i64 tt] 71)).alloc (.cells #[.int .i64 ts, .int .i64 td, .int .i64 tp] 49)) from by go_grown))
      have B17 := Lib.hid (B16.out.below (show Below w6.heap.size w6 ((w6.alloc (.cells #[.int .i64 tl, .int .i64 tm, .int .i64 tt] 71)).alloc (.cells #[.int .i64 ts, .int .i64 td, .int .i64 tp] 49)) from by go_grown))
      have B27 := Lib.hid (B26.out.below (show Below w6.heap.size w6 ((w6.alloc (.cells #[.int .i64 tl, .int .i64 tm, .int .i64 tt] 71)).alloc (.cells #[.int .i64 ts, .int .i64 td, .int .i64 tp] 49)) from by go_grown))
      have H7 := Lib.hid (show Below w.heap.size w ((w6.alloc (.cells #[.int .i64 tl, .int .i64 tm, .int .i64 tt] 71)).alloc (.cells #[.int .i64 ts, .int .i64 td, .int .i64 tp] 49)) from by have hb4 := H6.out; have hs4 := HS6.out; go_grown)
      simp only [size_alloc] at B4
      clear BW6 B16 B26 H6 HS6
      generalize (w6.alloc (.cells #[.int .i64 tl, .int .i64 tm, .int .i64 tt] 71)).alloc (.cells #[.int .i64 ts, .int .i64 td, .int .i64 tp] 49) = w7 at *
      generalize w6.heap.size + 1 = b4 at *
      generalize w6.heap.size = b3 at *
      have V : (∃ r o, wrightB ⟨l, m, t⟩ = r ∧ overB ⟨l, m, t⟩ = o ∧ (r = false ∧ o = true ∨ r = true ∧ o = true ∧ decide (l ≤ m) = true ∨ r = true ∧ o = false ∧ decide (l ≤ m) = false)) := by
        cases hr : wrightB ⟨l, m, t⟩ with
        | false => exact ⟨_, _, rfl, rfl, .inl ⟨rfl, by simp [overB, hr]⟩⟩
        | true =>
          obtain ⟨q1, q2, q3, q4, q5, q6⟩ := (wright_iff l m t).1 hr
          by_cases hm : m = l
          · exact ⟨_, _, rfl, rfl, .inr (.inl ⟨rfl, by simp [overB, hm], decide_eq_true (by omega)⟩)⟩
          · exact ⟨_, _, rfl, rfl, .inr (.inr ⟨rfl, by simp [overB, hr, hm], decide_eq_false (by omega)⟩)⟩
      obtain ⟨r, o, hr, ho, hV⟩ := V
      have HR := Lib.hid hr
      have HO := Lib.hid ho
      clear hr ho
      obtain ⟨x0, x1, x2, x3, x4, x5, x6⟩ := BW7.out
      obtain ⟨y0, y1, y2, y3, y4, y5, y6⟩ := B17.out
      obtain ⟨z0, z1, z2, z3, z4, z5, z6⟩ := B27.out
      obtain ⟨s0, s1, s2, s3, s4, s5, s6⟩ := B3.out
      obtain ⟨v0, v1, v2, v3, v4, v5, v6⟩ := B4.out
      clear x4 x5 x6 y4 y5 y6 z4 z5 z6 s4 s5 s6 v4 v5 v6
      rcases hV with ⟨rfl, rfl⟩ | ⟨rfl, rfl, dm⟩ | ⟨rfl, rfl, dm⟩
      · skip
        refine wp_region_held_drew (S := (fun w' => w'.cell? ⟨bw, 0, none⟩ = some (.int .i64 l) ∧ w'.cell? ⟨bw, 1, none⟩ = some (.int .i64 m) ∧ w'.cell? ⟨bw, 2, none⟩ = some (.int .i64 t) ∧ w'.cell? ⟨b1, 0, none⟩ = some (.int .i64 tl) ∧ w'.cell? ⟨b1, 1, none⟩ = some (.int .i64 tm) ∧ w'.cell? ⟨b1, 2, none⟩ = some (.int .i64 tt) ∧ w'.cell? ⟨b2, 0, none⟩ = some (.int .i64 ts) ∧ w'.cell? ⟨b2, 1, none⟩ = some (.int .i64 td) ∧ w'.cell? ⟨b2, 2, none⟩ = some (.int .i64 tp) ∧ w'.cell? ⟨b3, 0, none⟩ = some (.int .i64 tl) ∧ w'.cell? ⟨b3, 1, none⟩ = some (.int .i64 tm) ∧ w'.cell? ⟨b3, 2, none⟩ = some (.int .i64 tt) ∧ w'.cell? ⟨b4, 0, none⟩ = some (.int .i64 ts) ∧ w'.cell? ⟨b4, 1, none⟩ = some (.int .i64 td) ∧ w'.cell? ⟨b4, 2, none⟩ = some (.int .i64 tp))) (by kernel_rfl) ?_ (fun hHeld => ?_)
        · exact keep15 x0 y0 z0 s0 v0 (by go_grown) x1 x2 x3 y1 y2 y3 z1 z2 z3 s1 s2 s3 v1 v2 v3
        refine wpAnyH_take (i := 0) (oi := { dst := some 74, op := Op.load 71 (Operand.tmp 4), type := 71, pos := _, after := #[], guard := none }) (v := ?_) rfl (by kernel_rfl) (by kernel_rfl) (by kernel_rfl) (fun _ _ _ h => h) (Or.inl ⟨by rfl, ?_⟩) (by assumption) ?_
        rotate_left
        · first | (intro w hSw; (try dsimp only at hSw); go_simp; done) | (intro w hSw; (try dsimp only at hSw); go_simp; with_reducible rfl)
        try simp only [Act.put]
        try simp only [List.setIfInBounds_toArray]
        try simp only [List.set_cons_succ]
        try simp only [List.set_cons_zero]
        refine wpAnyH_take (i := 2) (oi := { dst := some 76, op := Op.load 71 (Operand.tmp 4), type := 71, pos := _, after := #[], guard := none }) (v := ?_) rfl (by kernel_rfl) (by kernel_rfl) (by kernel_rfl) (fun _ _ _ h => h) (Or.inl ⟨by rfl, ?_⟩) (by assumption) ?_
        rotate_left
        · first | (intro w hSw; (try dsimp only at hSw); go_simp; done) | (intro w hSw; (try dsimp only at hSw); go_simp; with_reducible rfl)
        try simp only [Act.put]
        try simp only [List.setIfInBounds_toArray]
        try simp only [List.set_cons_succ]
        try simp only [List.set_cons_zero]
        refine wpAnyH_ready (rs := [1]) (by kernel_rfl) (by simp) ?_
        refine AllReadyH.cons (o := { dst := some 75, op := Op.call { callee := Callee.value (Operand.func 55), args := #[Operand.tmp 74], argTypes := #[71] }, type := 4, pos := _, after := #[{ on := 0, ground := Ground.data }], guard := none }) rfl (fun K hK => ?_) AllReadyH.nil
        go_simp
        refine (wright_any _ _ _ _).mono ?_
        rw [HR.out]
        rintro e wk ⟨rfl, rfl⟩
        go_wp2_with fail
        refine hK.out _ _ ?_ (fun hHeld => ?_)
        · exact keep15 x0 y0 z0 s0 v0 (by go_grown) x1 x2 x3 y1 y2 y3 z1 z2 z3 s1 s2 s3 v1 v2 v3
        clear hK
        try simp only [Act.put]
        try simp only [List.setIfInBounds_toArray]
        try simp only [List.set_cons_succ]
        try simp only [List.set_cons_zero]
        refine wpAnyH_ready (rs := [3]) (by kernel_rfl) (by simp) ?_
        refine AllReadyH.cons (o := { dst := some 77, op := Op.call { callee := Callee.value (Operand.func 56), args := #[Operand.tmp 76], argTypes := #[71] }, type := 4, pos := _, after := #[{ on := 2, ground := Ground.data }, { on := 1, ground := Ground.chain }], guard := none }) rfl (fun K hK => ?_) AllReadyH.nil
        go_simp
        refine (rwright_any _ _ _ _).mono ?_
        rw [HR.out]
        rintro e wk ⟨rfl, rfl⟩
        go_wp2_with fail
        refine hK.out _ _ ?_ (fun hHeld => ?_)
        · exact keep15 x0 y0 z0 s0 v0 (by go_grown) x1 x2 x3 y1 y2 y3 z1 z2 z3 s1 s2 s3 v1 v2 v3
        clear hK
        try simp only [Act.put]
        try simp only [List.setIfInBounds_toArray]
        try simp only [List.set_cons_succ]
        try simp only [List.set_cons_zero]
        refine wpAnyH_take (i := 4) (oi := { dst := some 78, op := Op.binOp BinOp.eql 4 (Operand.tmp 75) (Operand.tmp 77) 4, type := 4, pos := _, after := #[{ on := 1, ground := Ground.data }, { on := 3, ground := Ground.data }], guard := none }) (v := ?_) rfl (by kernel_rfl) (by kernel_rfl) (by kernel_rfl) (fun _ _ _ h => h) (Or.inl ⟨by rfl, ?_⟩) (by assumption) ?_
        rotate_left
        · first | (intro w hSw; (try dsimp only at hSw); go_simp; done) | (intro w hSw; (try dsimp only at hSw); go_simp; with_reducible rfl)
        try simp only [Act.put]
        try simp only [List.setIfInBounds_toArray]
        try simp only [List.set_cons_succ]
        try simp only [List.set_cons_zero]
        refine wpAnyH_take (i := 5) (oi := { dst := some 79, op := Op.move (Operand.tmp 78), type := 4, pos := _, after := #[{ on := 4, ground := Ground.data }, { on := 3, ground := Ground.chain }], guard := none }) (v := ?_) rfl (by kernel_rfl) (by kernel_rfl) (by kernel_rfl) (fun _ _ _ h => h) (Or.inl ⟨by rfl, ?_⟩) (by assumption) ?_
        rotate_left
        · first | (intro w hSw; (try dsimp only at hSw); go_simp; done) | (intro w hSw; (try dsimp only at hSw); go_simp; with_reducible rfl)
        try simp only [Act.put]
        try simp only [List.setIfInBounds_toArray]
        try simp only [List.set_cons_succ]
        try simp only [List.set_cons_zero]
        refine wpAnyH_take (i := 6) (oi := { dst := some 80, op := Op.load 71 (Operand.tmp 10), type := 71, pos := _, after := #[{ on := 5, ground := Ground.guard }], guard := some (5, true) }) (v := ?_) rfl (by kernel_rfl) (by kernel_rfl) (by kernel_rfl) (fun _ _ _ h => h) (Or.inl ⟨by rfl, ?_⟩) (by assumption) ?_
        rotate_left
        · first | (intro w hSw; (try dsimp only at hSw); go_simp; done) | (intro w hSw; (try dsimp only at hSw); go_simp; with_reducible rfl)
        try simp only [Act.put]
        try simp only [List.setIfInBounds_toArray]
        try simp only [List.set_cons_succ]
        try simp only [List.set_cons_zero]
        refine wpAnyH_take (i := 7) (oi := { dst := some 81, op := Op.load 71 (Operand.tmp 13), type := 71, pos := _, after := #[{ on := 5, ground := Ground.guard }], guard := some (5, true) }) (v := ?_) rfl (by kernel_rfl) (by kernel_rfl) (by kernel_rfl) (fun _ _ _ h => h) (Or.inl ⟨by rfl, ?_⟩) (by assumption) ?_
        rotate_left
        · first | (intro w hSw; (try dsimp only at hSw); go_simp; done) | (intro w hSw; (try dsimp only at hSw); go_simp; with_reducible rfl)
        try simp only [Act.put]
        try simp only [List.setIfInBounds_toArray]
        try simp only [List.set_cons_succ]
        try simp only [List.set_cons_zero]
        refine wpAnyH_take (i := 8) (oi := { dst := some 82, op := Op.binOp BinOp.eql 71 (Operand.tmp 80) (Operand.tmp 81) 71, type := 4, pos := _, after := #[{ on := 6, ground := Ground.data }, { on := 7, ground := Ground.data }, { on := 5, ground := Ground.guard }], guard := some (5, true) }) (v := ?_) rfl (by kernel_rfl) (by kernel_rfl) (by kernel_rfl) (fun _ _ _ h => h) (Or.inl ⟨by rfl, ?_⟩) (by assumption) ?_
        rotate_left
        · first | (intro w hSw; (try dsimp only at hSw); go_simp; done) | (intro w hSw; (try dsimp only at hSw); go_simp; with_reducible rfl)
        try simp only [Act.put]
        try simp only [List.setIfInBounds_toArray]
        try simp only [List.set_cons_succ]
        try simp only [List.set_cons_zero]
        refine wpAnyH_take (i := 9) (oi := { dst := some 83, op := Op.pick (Operand.tmp 79) (Operand.tmp 82) (Operand.const (Value.bool false)), type := 4, pos := _, after := #[{ on := 5, ground := Ground.data }, { on := 8, ground := Ground.data }], guard := none }) (v := ?_) rfl (by kernel_rfl) (by kernel_rfl) (by kernel_rfl) (fun _ _ _ h => h) (Or.inl ⟨by rfl, ?_⟩) (by assumption) ?_
        rotate_left
        · first | (intro w hSw; (try dsimp only at hSw); go_simp; done) | (intro w hSw; (try dsimp only at hSw); go_simp; with_reducible rfl)
        try simp only [Act.put]
        try simp only [List.setIfInBounds_toArray]
        try simp only [List.set_cons_succ]
        try simp only [List.set_cons_zero]
        refine wpAnyH_take (i := 10) (oi := { dst := some 84, op := Op.move (Operand.tmp 83), type := 4, pos := _, after := #[{ on := 9, ground := Ground.data }, { on := 5, ground := Ground.chain }], guard := none }) (v := ?_) rfl (by kernel_rfl) (by kernel_rfl) (by kernel_rfl) (fun _ _ _ h => h) (Or.inl ⟨by rfl, ?_⟩) (by assumption) ?_
        rotate_left
        · first | (intro w hSw; (try dsimp only at hSw); go_simp; done) | (intro w hSw; (try dsimp only at hSw); go_simp; with_reducible rfl)
        try simp only [Act.put]
        try simp only [List.setIfInBounds_toArray]
        try simp only [List.set_cons_succ]
        try simp only [List.set_cons_zero]
        refine wpAnyH_take (i := 11) (oi := { dst := some 85, op := Op.load 49 (Operand.tmp 11), type := 49, pos := _, after := #[{ on := 10, ground := Ground.guard }], guard := some (10, true) }) (v := ?_) rfl (by kernel_rfl) (by kernel_rfl) (by kernel_rfl) (fun _ _ _ h => h) (Or.inl ⟨by rfl, ?_⟩) (by assumption) ?_
        rotate_left
        · first | (intro w hSw; (try dsimp only at hSw); go_simp; done) | (intro w hSw; (try dsimp only at hSw); go_simp; with_reducible rfl)
        try simp only [Act.put]
        try simp only [List.setIfInBounds_toArray]
        try simp only [List.set_cons_succ]
        try simp only [List.set_cons_zero]
        refine wpAnyH_take (i := 12) (oi := { dst := some 86, op := Op.load 49 (Operand.tmp 14), type := 49, pos := _, after := #[{ on := 10, ground := Ground.guard }], guard := some (10, true) }) (v := ?_) rfl (by kernel_rfl) (by kernel_rfl) (by kernel_rfl) (fun _ _ _ h => h) (Or.inl ⟨by rfl, ?_⟩) (by assumption) ?_
        rotate_left
        · first | (intro w hSw; (try dsimp only at hSw); go_simp; done) | (intro w hSw; (try dsimp only at hSw); go_simp; with_reducible rfl)
        try simp only [Act.put]
        try simp only [List.setIfInBounds_toArray]
        try simp only [List.set_cons_succ]
        try simp only [List.set_cons_zero]
        refine wpAnyH_take (i := 13) (oi := { dst := some 87, op := Op.binOp BinOp.eql 49 (Operand.tmp 85) (Operand.tmp 86) 49, type := 4, pos := _, after := #[{ on := 11, ground := Ground.data }, { on := 12, ground := Ground.data }, { on := 10, ground := Ground.guard }], guard := some (10, true) }) (v := ?_) rfl (by kernel_rfl) (by kernel_rfl) (by kernel_rfl) (fun _ _ _ h => h) (Or.inl ⟨by rfl, ?_⟩) (by assumption) ?_
        rotate_left
        · first | (intro w hSw; (try dsimp only at hSw); go_simp; done) | (intro w hSw; (try dsimp only at hSw); go_simp; with_reducible rfl)
        try simp only [Act.put]
        try simp only [List.setIfInBounds_toArray]
        try simp only [List.set_cons_succ]
        try simp only [List.set_cons_zero]
        refine wpAnyH_take (i := 14) (oi := { dst := some 88, op := Op.pick (Operand.tmp 84) (Operand.tmp 87) (Operand.const (Value.bool false)), type := 4, pos := _, after := #[{ on := 10, ground := Ground.data }, { on := 13, ground := Ground.data }], guard := none }) (v := ?_) rfl (by kernel_rfl) (by kernel_rfl) (by kernel_rfl) (fun _ _ _ h => h) (Or.inl ⟨by rfl, ?_⟩) (by assumption) ?_
        rotate_left
        · first | (intro w hSw; (try dsimp only at hSw); go_simp; done) | (intro w hSw; (try dsimp only at hSw); go_simp; with_reducible rfl)
        try simp only [Act.put]
        try simp only [List.setIfInBounds_toArray]
        try simp only [List.set_cons_succ]
        try simp only [List.set_cons_zero]
        refine wpAnyH_take (i := 15) (oi := { dst := some 89, op := Op.move (Operand.tmp 88), type := 4, pos := _, after := #[{ on := 14, ground := Ground.data }, { on := 10, ground := Ground.chain }], guard := none }) (v := ?_) rfl (by kernel_rfl) (by kernel_rfl) (by kernel_rfl) (fun _ _ _ h => h) (Or.inl ⟨by rfl, ?_⟩) (by assumption) ?_
        rotate_left
        · first | (intro w hSw; (try dsimp only at hSw); go_simp; done) | (intro w hSw; (try dsimp only at hSw); go_simp; with_reducible rfl)
        try simp only [Act.put]
        try simp only [List.setIfInBounds_toArray]
        try simp only [List.set_cons_succ]
        try simp only [List.set_cons_zero]
        refine wpAnyH_take (i := 16) (oi := { dst := some 90, op := Op.move (Operand.tmp 12), type := 4, pos := _, after := #[{ on := 15, ground := Ground.guard }], guard := some (15, true) }) (v := ?_) rfl (by kernel_rfl) (by kernel_rfl) (by kernel_rfl) (fun _ _ _ h => h) (Or.inl ⟨by rfl, ?_⟩) (by assumption) ?_
        rotate_left
        · first | (intro w hSw; (try dsimp only at hSw); go_simp; done) | (intro w hSw; (try dsimp only at hSw); go_simp; with_reducible rfl)
        try simp only [Act.put]
        try simp only [List.setIfInBounds_toArray]
        try simp only [List.set_cons_succ]
        try simp only [List.set_cons_zero]
        refine wpAnyH_take (i := 17) (oi := { dst := some 91, op := Op.move (Operand.tmp 15), type := 4, pos := _, after := #[{ on := 15, ground := Ground.guard }], guard := some (15, true) }) (v := ?_) rfl (by kernel_rfl) (by kernel_rfl) (by kernel_rfl) (fun _ _ _ h => h) (Or.inl ⟨by rfl, ?_⟩) (by assumption) ?_
        rotate_left
        · first | (intro w hSw; (try dsimp only at hSw); go_simp; done) | (intro w hSw; (try dsimp only at hSw); go_simp; with_reducible rfl)
        try simp only [Act.put]
        try simp only [List.setIfInBounds_toArray]
        try simp only [List.set_cons_succ]
        try simp only [List.set_cons_zero]
        refine wpAnyH_take (i := 18) (oi := { dst := some 92, op := Op.binOp BinOp.eql 4 (Operand.tmp 90) (Operand.tmp 91) 4, type := 4, pos := _, after := #[{ on := 16, ground := Ground.data }, { on := 17, ground := Ground.data }, { on := 15, ground := Ground.guard }], guard := some (15, true) }) (v := ?_) rfl (by kernel_rfl) (by kernel_rfl) (by kernel_rfl) (fun _ _ _ h => h) (Or.inl ⟨by rfl, ?_⟩) (by assumption) ?_
        rotate_left
        · first | (intro w hSw; (try dsimp only at hSw); go_simp; done) | (intro w hSw; (try dsimp only at hSw); go_simp; with_reducible rfl)
        try simp only [Act.put]
        try simp only [List.setIfInBounds_toArray]
        try simp only [List.set_cons_succ]
        try simp only [List.set_cons_zero]
        refine wpAnyH_take (i := 19) (oi := { dst := some 93, op := Op.pick (Operand.tmp 89) (Operand.tmp 92) (Operand.const (Value.bool false)), type := 4, pos := _, after := #[{ on := 15, ground := Ground.data }, { on := 18, ground := Ground.data }], guard := none }) (v := ?_) rfl (by kernel_rfl) (by kernel_rfl) (by kernel_rfl) (fun _ _ _ h => h) (Or.inl ⟨by rfl, ?_⟩) (by assumption) ?_
        rotate_left
        · first | (intro w hSw; (try dsimp only at hSw); go_simp; done) | (intro w hSw; (try dsimp only at hSw); go_simp; with_reducible rfl)
        try simp only [Act.put]
        try simp only [List.setIfInBounds_toArray]
        try simp only [List.set_cons_succ]
        try simp only [List.set_cons_zero]
        refine wpAnyH_take (i := 20) (oi := { dst := some 94, op := Op.move (Operand.tmp 93), type := 4, pos := _, after := #[{ on := 19, ground := Ground.data }, { on := 15, ground := Ground.chain }], guard := none }) (v := ?_) rfl (by kernel_rfl) (by kernel_rfl) (by kernel_rfl) (fun _ _ _ h => h) (Or.inl ⟨by rfl, ?_⟩) (by assumption) ?_
        rotate_left
        · first | (intro w hSw; (try dsimp only at hSw); go_simp; done) | (intro w hSw; (try dsimp only at hSw); go_simp; with_reducible rfl)
        try simp only [Act.put]
        try simp only [List.setIfInBounds_toArray]
        try simp only [List.set_cons_succ]
        try simp only [List.set_cons_zero]
        refine wpAnyH_take (i := 21) (oi := { dst := some 95, op := Op.load 71 (Operand.tmp 4), type := 71, pos := _, after := #[{ on := 20, ground := Ground.guard }], guard := some (20, true) }) (v := ?_) rfl (by kernel_rfl) (by kernel_rfl) (by kernel_rfl) (fun _ _ _ h => h) (Or.inl ⟨by rfl, ?_⟩) (by assumption) ?_
        rotate_left
        · first | (intro w hSw; (try dsimp only at hSw); go_simp; done) | (intro w hSw; (try dsimp only at hSw); go_simp; with_reducible rfl)
        try simp only [Act.put]
        try simp only [List.setIfInBounds_toArray]
        try simp only [List.set_cons_succ]
        try simp only [List.set_cons_zero]
        refine wpAnyH_take (i := 23) (oi := { dst := some 97, op := Op.load 71 (Operand.tmp 4), type := 71, pos := _, after := #[{ on := 20, ground := Ground.guard }], guard := some (20, true) }) (v := ?_) rfl (by kernel_rfl) (by kernel_rfl) (by kernel_rfl) (fun _ _ _ h => h) (Or.inl ⟨by rfl, ?_⟩) (by assumption) ?_
        rotate_left
        · first | (intro w hSw; (try dsimp only at hSw); go_simp; done) | (intro w hSw; (try dsimp only at hSw); go_simp; with_reducible rfl)
        try simp only [Act.put]
        try simp only [List.setIfInBounds_toArray]
        try simp only [List.set_cons_succ]
        try simp only [List.set_cons_zero]
        refine wpAnyH_ready (rs := [22]) (by kernel_rfl) (by simp) ?_
        refine AllReadyH.cons (o := { dst := some 96, op := Op.call { callee := Callee.value (Operand.func 57), args := #[Operand.tmp 95], argTypes := #[71] }, type := 4, pos := _, after := #[{ on := 21, ground := Ground.data }, { on := 20, ground := Ground.chain }, { on := 20, ground := Ground.guard }], guard := some (20, true) }) rfl (fun K hK => ?_) AllReadyH.nil
        go_simp
        refine (wover_any _ _ _ _).mono ?_
        rw [HO.out]
        rintro e wk ⟨rfl, hb⟩
        have hbw := Below.trans (show Below w7.heap.size w7 _ from by go_grown) (hb.mono (by first | (simp; done) | (simp; omega)))
        have hbs := hbw.size
        go_wp2_with fail
        refine hK.out _ _ ?_ (fun hHeld => ?_)
        · exact keep15 x0 y0 z0 s0 v0 (by go_grown) x1 x2 x3 y1 y2 y3 z1 z2 z3 s1 s2 s3 v1 v2 v3
        clear hK
        try simp only [Act.put]
        try simp only [List.setIfInBounds_toArray]
        try simp only [List.set_cons_succ]
        try simp only [List.set_cons_zero]
        refine wpAnyH_ready (rs := [24]) (by kernel_rfl) (by simp) ?_
        refine AllReadyH.cons (o := { dst := some 98, op := Op.call { callee := Callee.value (Operand.func 56), args := #[Operand.tmp 97], argTypes := #[71] }, type := 4, pos := _, after := #[{ on := 23, ground := Ground.data }, { on := 22, ground := Ground.chain }, { on := 20, ground := Ground.guard }], guard := some (20, true) }) rfl (fun K hK => ?_) AllReadyH.nil
        go_simp
        refine (rwright_any _ _ _ _).mono ?_
        rw [HR.out]
        rintro e wk ⟨rfl, rfl⟩
        go_wp2_with fail
        refine hK.out _ _ ?_ (fun hHeld => ?_)
        · exact keep15 x0 y0 z0 s0 v0 (by go_grown) x1 x2 x3 y1 y2 y3 z1 z2 z3 s1 s2 s3 v1 v2 v3
        clear hK
        try simp only [Act.put]
        try simp only [List.setIfInBounds_toArray]
        try simp only [List.set_cons_succ]
        try simp only [List.set_cons_zero]
        refine wpAnyH_take (i := 25) (oi := { dst := some 99, op := Op.unOp UnOp.not 4 (Operand.tmp 98), type := 4, pos := _, after := #[{ on := 24, ground := Ground.data }, { on := 20, ground := Ground.guard }], guard := some (20, true) }) (v := ?_) rfl (by kernel_rfl) (by kernel_rfl) (by kernel_rfl) (fun _ _ _ h => h) (Or.inl ⟨by rfl, ?_⟩) (by assumption) ?_
        rotate_left
        · first | (intro w hSw; (try dsimp only at hSw); go_simp; done) | (intro w hSw; (try dsimp only at hSw); go_simp; with_reducible rfl)
        try simp only [Act.put]
        try simp only [List.setIfInBounds_toArray]
        try simp only [List.set_cons_succ]
        try simp only [List.set_cons_zero]
        refine wpAnyH_take (i := 26) (oi := { dst := some 100, op := Op.move (Operand.tmp 99), type := 4, pos := _, after := #[{ on := 25, ground := Ground.data }, { on := 24, ground := Ground.chain }, { on := 20, ground := Ground.guard }], guard := some (20, true) }) (v := ?_) rfl (by kernel_rfl) (by kernel_rfl) (by kernel_rfl) (fun _ _ _ h => h) (Or.inl ⟨by rfl, ?_⟩) (by assumption) ?_
        rotate_left
        · first | (intro w hSw; (try dsimp only at hSw); go_simp; done) | (intro w hSw; (try dsimp only at hSw); go_simp; with_reducible rfl)
        try simp only [Act.put]
        try simp only [List.setIfInBounds_toArray]
        try simp only [List.set_cons_succ]
        try simp only [List.set_cons_zero]
        refine wpAnyH_take (i := 27) (oi := { dst := some 101, op := Op.fieldAddr 71 (Operand.tmp 4) 1, type := 0, pos := _, after := #[{ on := 26, ground := Ground.guard }], guard := some (26, false) }) (v := undef) rfl (by kernel_rfl) (by kernel_rfl) (by kernel_rfl) (fun _ _ _ h => h) (Or.inr ⟨by rfl, rfl⟩) (by assumption) ?_
        try simp only [Act.put]
        try simp only [List.setIfInBounds_toArray]
        try simp only [List.set_cons_succ]
        try simp only [List.set_cons_zero]
        refine wpAnyH_take (i := 28) (oi := { dst := some 102, op := Op.load 3 (Operand.tmp 101), type := 3, pos := _, after := #[{ on := 27, ground := Ground.data }, { on := 26, ground := Ground.guard }], guard := some (26, false) }) (v := undef) rfl (by kernel_rfl) (by kernel_rfl) (by kernel_rfl) (fun _ _ _ h => h) (Or.inr ⟨by rfl, rfl⟩) (by assumption) ?_
        try simp only [Act.put]
        try simp only [List.setIfInBounds_toArray]
        try simp only [List.set_cons_succ]
        try simp only [List.set_cons_zero]
        refine wpAnyH_take (i := 29) (oi := { dst := some 103, op := Op.fieldAddr 71 (Operand.tmp 4) 0, type := 0, pos := _, after := #[{ on := 26, ground := Ground.guard }], guard := some (26, false) }) (v := undef) rfl (by kernel_rfl) (by kernel_rfl) (by kernel_rfl) (fun _ _ _ h => h) (Or.inr ⟨by rfl, rfl⟩) (by assumption) ?_
        try simp only [Act.put]
        try simp only [List.setIfInBounds_toArray]
        try simp only [List.set_cons_succ]
        try simp only [List.set_cons_zero]
        refine wpAnyH_take (i := 30) (oi := { dst := some 104, op := Op.load 3 (Operand.tmp 103), type := 3, pos := _, after := #[{ on := 29, ground := Ground.data }, { on := 26, ground := Ground.guard }], guard := some (26, false) }) (v := undef) rfl (by kernel_rfl) (by kernel_rfl) (by kernel_rfl) (fun _ _ _ h => h) (Or.inr ⟨by rfl, rfl⟩) (by assumption) ?_
        try simp only [Act.put]
        try simp only [List.setIfInBounds_toArray]
        try simp only [List.set_cons_succ]
        try simp only [List.set_cons_zero]
        refine wpAnyH_take (i := 31) (oi := { dst := some 105, op := Op.binOp BinOp.geq 3 (Operand.tmp 102) (Operand.tmp 104) 3, type := 4, pos := _, after := #[{ on := 28, ground := Ground.data }, { on := 30, ground := Ground.data }, { on := 26, ground := Ground.guard }], guard := some (26, false) }) (v := undef) rfl (by kernel_rfl) (by kernel_rfl) (by kernel_rfl) (fun _ _ _ h => h) (Or.inr ⟨by rfl, rfl⟩) (by assumption) ?_
        try simp only [Act.put]
        try simp only [List.setIfInBounds_toArray]
        try simp only [List.set_cons_succ]
        try simp only [List.set_cons_zero]
        refine wpAnyH_take (i := 32) (oi := { dst := some 106, op := Op.pick (Operand.tmp 100) (Operand.const (Value.bool true)) (Operand.tmp 105), type := 4, pos := _, after := #[{ on := 26, ground := Ground.data }, { on := 31, ground := Ground.data }, { on := 20, ground := Ground.guard }], guard := some (20, true) }) (v := ?_) rfl (by kernel_rfl) (by kernel_rfl) (by kernel_rfl) (fun _ _ _ h => h) (Or.inl ⟨by rfl, ?_⟩) (by assumption) ?_
        rotate_left
        · first | (intro w hSw; (try dsimp only at hSw); go_simp; done) | (intro w hSw; (try dsimp only at hSw); go_simp; with_reducible rfl)
        try simp only [Act.put]
        try simp only [List.setIfInBounds_toArray]
        try simp only [List.set_cons_succ]
        try simp only [List.set_cons_zero]
        refine wpAnyH_take (i := 33) (oi := { dst := some 107, op := Op.binOp BinOp.eql 4 (Operand.tmp 96) (Operand.tmp 106) 4, type := 4, pos := _, after := #[{ on := 22, ground := Ground.data }, { on := 32, ground := Ground.data }, { on := 20, ground := Ground.guard }], guard := some (20, true) }) (v := ?_) rfl (by kernel_rfl) (by kernel_rfl) (by kernel_rfl) (fun _ _ _ h => h) (Or.inl ⟨by rfl, ?_⟩) (by assumption) ?_
        rotate_left
        · first | (intro w hSw; (try dsimp only at hSw); go_simp; done) | (intro w hSw; (try dsimp only at hSw); go_simp; with_reducible rfl)
        try simp only [Act.put]
        try simp only [List.setIfInBounds_toArray]
        try simp only [List.set_cons_succ]
        try simp only [List.set_cons_zero]
        refine wpAnyH_take (i := 34) (oi := { dst := some 108, op := Op.pick (Operand.tmp 94) (Operand.tmp 107) (Operand.const (Value.bool false)), type := 4, pos := _, after := #[{ on := 20, ground := Ground.data }, { on := 33, ground := Ground.data }], guard := none }) (v := ?_) rfl (by kernel_rfl) (by kernel_rfl) (by kernel_rfl) (fun _ _ _ h => h) (Or.inl ⟨by rfl, ?_⟩) (by assumption) ?_
        rotate_left
        · first | (intro w hSw; (try dsimp only at hSw); go_simp; done) | (intro w hSw; (try dsimp only at hSw); go_simp; with_reducible rfl)
        try simp only [Act.put]
        try simp only [List.setIfInBounds_toArray]
        try simp only [List.set_cons_succ]
        try simp only [List.set_cons_zero]
        refine wpAnyH_take (i := 35) (oi := { dst := some 6, op := Op.assign (Operand.tmp 108), type := 4, pos := _, after := #[{ on := 34, ground := Ground.data }, { on := 26, ground := Ground.chain }, { on := 0, ground := Ground.phase }, { on := 1, ground := Ground.phase }, { on := 2, ground := Ground.phase }, { on := 3, ground := Ground.phase }, { on := 4, ground := Ground.phase }, { on := 5, ground := Ground.phase }, { on := 6, ground := Ground.phase }, { on := 7, ground := Ground.phase }, { on := 8, ground := Ground.phase }, { on := 9, ground := Ground.phase }, { on := 10, ground := Ground.phase }, { on := 11, ground := Ground.phase }, { on := 12, ground := Ground.phase }, { on := 13, ground := Ground.phase }, { on := 14, ground := Ground.phase }, { on := 15, ground := Ground.phase }, { on := 16, ground := Ground.phase }, { on := 17, ground := Ground.phase }, { on := 18, ground := Ground.phase }, { on := 19, ground := Ground.phase }, { on := 20, ground := Ground.phase }, { on := 21, ground := Ground.phase }, { on := 22, ground := Ground.phase }, { on := 23, ground := Ground.phase }, { on := 24, ground := Ground.phase }, { on := 25, ground := Ground.phase }, { on := 26, ground := Ground.phase }, { on := 27, ground := Ground.phase }, { on := 28, ground := Ground.phase }, { on := 29, ground := Ground.phase }, { on := 30, ground := Ground.phase }, { on := 31, ground := Ground.phase }, { on := 32, ground := Ground.phase }, { on := 33, ground := Ground.phase }, { on := 34, ground := Ground.phase }], guard := none }) (v := ?_) rfl (by kernel_rfl) (by kernel_rfl) (by kernel_rfl) (fun _ _ _ h => h) (Or.inl ⟨by rfl, ?_⟩) (by assumption) ?_
        rotate_left
        · first | (intro w hSw; (try dsimp only at hSw); go_simp; done) | (intro w hSw; (try dsimp only at hSw); go_simp; with_reducible rfl)
        try simp only [Act.put]
        try simp only [List.setIfInBounds_toArray]
        try simp only [List.set_cons_succ]
        try simp only [List.set_cons_zero]
        refine wpAnyH_done (by kernel_rfl) ?_ _
        have hq := H7.out.trans (hbw.mono H7.out.size)
        have HQ := Lib.hid hq
        clear hb hbw hq x0 x1 x2 x3 y0 y1 y2 y3 z0 z1 z2 z3 s0 s1 s2 s3 v0 v1 v2 v3
        go_wp2
        go_ret
        have hq := HQ.out
        have hqs := hq.size
        exact ⟨rfl, by go_grown⟩
      all_goals
        go_region_held3 (fun w' => w'.cell? ⟨bw, 0, none⟩ = some (.int .i64 l) ∧ w'.cell? ⟨bw, 1, none⟩ = some (.int .i64 m) ∧ w'.cell? ⟨bw, 2, none⟩ = some (.int .i64 t) ∧
            w'.cell? ⟨b1, 0, none⟩ = some (.int .i64 tl) ∧ w'.cell? ⟨b1, 1, none⟩ = some (.int .i64 tm) ∧ w'.cell? ⟨b1, 2, none⟩ = some (.int .i64 tt) ∧
            w'.cell? ⟨b2, 0, none⟩ = some (.int .i64 ts) ∧ w'.cell? ⟨b2, 1, none⟩ = some (.int .i64 td) ∧ w'.cell? ⟨b2, 2, none⟩ = some (.int .i64 tp) ∧
            w'.cell? ⟨b3, 0, none⟩ = some (.int .i64 tl) ∧ w'.cell? ⟨b3, 1, none⟩ = some (.int .i64 tm) ∧ w'.cell? ⟨b3, 2, none⟩ = some (.int .i64 tt) ∧
            w'.cell? ⟨b4, 0, none⟩ = some (.int .i64 ts) ∧ w'.cell? ⟨b4, 1, none⟩ = some (.int .i64 td) ∧ w'.cell? ⟨b4, 2, none⟩ = some (.int .i64 tp))
          (exact keep15 x0 y0 z0 s0 v0 (by go_grown) x1 x2 x3 y1 y2 y3 z1 z2 z3 s1 s2 s3 v1 v2 v3)
          (first
            | (go_at_call 55; refine (wright_any _ _ _ _).mono ?_; rw [HR.out]; rintro e wk ⟨rfl, rfl⟩)
            | (go_at_call 56; refine (rwright_any _ _ _ _).mono ?_; rw [HR.out]; rintro e wk ⟨rfl, rfl⟩)
            | (go_at_call 57; refine (wover_any _ _ _ _).mono ?_; rw [HO.out]; rintro e wk ⟨rfl, hb⟩; have hbw := Below.trans (show Below w7.heap.size w7 _ from by go_grown) (hb.mono (by first | (simp; done) | (simp; omega))); have hbs := hbw.size)
            | fail)
        all_goals
          have hq := H7.out.trans (hbw.mono H7.out.size)
          have HQ := Lib.hid hq
          clear hb hbw hq x0 x1 x2 x3 y0 y1 y2 y3 z0 z1 z2 z3 s0 s1 s2 s3 v0 v1 v2 v3
          go_wp2
          go_ret
          have hq := HQ.out
          have hqs := hq.size
          exact ⟨rfl, by go_grown⟩
end Go.Proofs.Ytnabpdengfmeaaa
