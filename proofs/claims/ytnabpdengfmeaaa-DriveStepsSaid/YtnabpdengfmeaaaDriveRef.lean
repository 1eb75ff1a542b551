/- Layer 7: contracts of servitorref07.settled, Switch, Right. (Written by a program of mine, gen_driveref.py.) -/
import Derived.Test.YtnabpdengfmeaaaDriveRight
import Derived.Handy
namespace Go.Proofs.Ytnabpdengfmeaaa
open Go.RowKit

set_option maxHeartbeats 1000000 in
set_option maxRecDepth 100000 in
theorem settled_any (c o : Int) (v : Bool) (w : World) : Calls Try.prog 72 #[.agg #[.int .i64 c, .bool v, .int .i64 o]] w fun e w' => e = .returned (.bool (rightB ⟨c, v, o⟩)) ∧ w.alloc (.cells #[.int .i64 c, .bool v, .int .i64 o] 35) = w' := by
  cases hr : rightB ⟨c, v, o⟩ with
  | true =>
    obtain ⟨h1, h2, h3, h4⟩ := (right_iff c o v).1 hr
    clear hr
    go_enter Try.func72, Try.ntmps72
    go_wp2
    go_ret
    exact ⟨ret_eq (congrArg Value.bool (decide_eq_true (by omega))), rfl⟩
  | false =>
    have h := (wrong_iff c o v).1 hr
    clear hr
    rcases h with h | h | h | h
    all_goals
      go_enter Try.func72, Try.ntmps72
      go_wp2
      all_goals
        go_ret
        first | exact ⟨rfl, rfl⟩ | exact ⟨ret_eq (congrArg Value.bool (decide_eq_false (by omega))), rfl⟩

set_option maxHeartbeats 2000000 in
set_option maxRecDepth 100000 in
theorem switch_any (c o : Int) (v s : Bool) (w : World) (hr : rightB ⟨c, v, o⟩ = true) : Calls Try.prog 73 #[.agg #[.int .i64 c, .bool v, .int .i64 o], .bool s] w fun e w' =>
    e = .returned (Sw.val (stepS ⟨c, v, o⟩ s)) ∧ Below w.heap.size w w' := by
  obtain ⟨h1, h2, h3, h4⟩ := (right_iff c o v).1 hr
  by_cases hs : s = v
  · have e : stepS ⟨c, v, o⟩ s = ⟨c, v, 0⟩ := by simp [stepS, hr, hs]
    rw [e, sw_val]
    clear hr e
    subst hs
    go_enter Try.func73, Try.ntmps73
    go_wp2
    go_returns
    exact ⟨rfl, by go_grown⟩
  · have hs' : (s == v) = false := beq_eq_false_iff_ne.2 hs
    by_cases ho : o = c - 1
    · have e : stepS ⟨c, v, o⟩ s = ⟨c, s, 0⟩ := by simp [stepS, hr, hs]; omega
      rw [e, sw_val]
      have ho' : (o == c - 1) = true := beq_iff_eq.2 ho
      clear hr e ho hs
      go_enter Try.func73, Try.ntmps73
      go_wp2
      go_returns
      exact ⟨rfl, by go_grown⟩
    · have e : stepS ⟨c, v, o⟩ s = ⟨c, v, o + 1⟩ := by simp [stepS, hr, hs]; omega
      rw [e, sw_val]
      have ho' : (o == c - 1) = false := beq_eq_false_iff_ne.2 ho
      clear hr e ho hs
      go_enter Try.func73, Try.ntmps73
      go_wp2
      go_returns
      exact ⟨rfl, by go_grown⟩

set_option maxHeartbeats 16000000 in
set_option maxRecDepth 100000 in
theorem rdright_any (st wl wm wt pc po mc mo hc ho a q : Int) (pv mv hv k : Bool) (w : World) :
    Calls Try.prog 63 #[.agg #[.int .i64 st, .int .i64 wl, .int .i64 wm, .int .i64 wt, .int .i64 pc, .bool pv, .int .i64 po, .int .i64 mc, .bool mv, .int .i64 mo, .int .i64 hc, .bool hv, .int .i64 ho, .int .i64 a, .bool k, .int .i64 q]] w fun e w' => e = .returned (.bool (rightD ⟨st, ⟨wl, wm, wt⟩, ⟨pc, pv, po⟩, ⟨mc, mv, mo⟩, ⟨hc, hv, ho⟩, a, k, q⟩)) ∧ Below w.heap.size w w' := by
  cases e0 : rightB ⟨pc, pv, po⟩
  case false =>
    rw [show rightD ⟨st, ⟨wl, wm, wt⟩, ⟨pc, pv, po⟩, ⟨mc, mv, mo⟩, ⟨hc, hv, ho⟩, a, k, q⟩ = false by simp [rightD, e0]]
    skip
    go_enter Try.func63, Try.ntmps63
    go_wp2_with (first | (go_at_call 72; refine (settled_any _ _ _ _).mono ?_; rintro e w' ⟨rfl, rfl⟩) | (go_at_call 56; refine (rwright_any _ _ _ _).mono ?_; rintro e w' ⟨rfl, rfl⟩))
    refine wp_loop_rounds 4 ?_
    rw [rounds_succ]
    go_wp2_with (first | (go_at_call 72; refine (settled_any _ _ _ _).mono ?_; rintro e w' ⟨rfl, rfl⟩) | (go_at_call 56; refine (rwright_any _ _ _ _).mono ?_; rintro e w' ⟨rfl, rfl⟩))
    go_ret
    exact ⟨rfl, by go_grown⟩
  cases e1 : rightB ⟨mc, mv, mo⟩
  case false =>
    rw [show rightD ⟨st, ⟨wl, wm, wt⟩, ⟨pc, pv, po⟩, ⟨mc, mv, mo⟩, ⟨hc, hv, ho⟩, a, k, q⟩ = false by simp [rightD, e0, e1]]
    skip
    go_enter Try.func63, Try.ntmps63
    go_wp2_with (first | (go_at_call 72; refine (settled_any _ _ _ _).mono ?_; rintro e w' ⟨rfl, rfl⟩) | (go_at_call 56; refine (rwright_any _ _ _ _).mono ?_; rintro e w' ⟨rfl, rfl⟩))
    refine wp_loop_rounds 4 ?_
    rw [rounds_succ]
    go_wp2_with (first | (go_at_call 72; refine (settled_any _ _ _ _).mono ?_; rintro e w' ⟨rfl, rfl⟩) | (go_at_call 56; refine (rwright_any _ _ _ _).mono ?_; rintro e w' ⟨rfl, rfl⟩))
    rw [rounds_succ]
    go_wp2_with (first | (go_at_call 72; refine (settled_any _ _ _ _).mono ?_; rintro e w' ⟨rfl, rfl⟩) | (go_at_call 56; refine (rwright_any _ _ _ _).mono ?_; rintro e w' ⟨rfl, rfl⟩))
    go_ret
    exact ⟨rfl, by go_grown⟩
  cases e2 : (mc == pc)
  case false =>
    have s2 : (pc == mc) = false := by rw [BEq.comm]; exact e2
    have t2 : (mc != pc) = true := by simp [bne, e2]
    rw [show rightD ⟨st, ⟨wl, wm, wt⟩, ⟨pc, pv, po⟩, ⟨mc, mv, mo⟩, ⟨hc, hv, ho⟩, a, k, q⟩ = false by simp [rightD, e0, e1, s2]]
    skip
    go_enter Try.func63, Try.ntmps63
    go_wp2_with (first | (go_at_call 72; refine (settled_any _ _ _ _).mono ?_; rintro e w' ⟨rfl, rfl⟩) | (go_at_call 56; refine (rwright_any _ _ _ _).mono ?_; rintro e w' ⟨rfl, rfl⟩))
    refine wp_loop_rounds 4 ?_
    rw [rounds_succ]
    go_wp2_with (first | (go_at_call 72; refine (settled_any _ _ _ _).mono ?_; rintro e w' ⟨rfl, rfl⟩) | (go_at_call 56; refine (rwright_any _ _ _ _).mono ?_; rintro e w' ⟨rfl, rfl⟩))
    rw [rounds_succ]
    go_wp2_with (first | (go_at_call 72; refine (settled_any _ _ _ _).mono ?_; rintro e w' ⟨rfl, rfl⟩) | (go_at_call 56; refine (rwright_any _ _ _ _).mono ?_; rintro e w' ⟨rfl, rfl⟩))
    go_ret
    exact ⟨rfl, by go_grown⟩
  have s2 : (pc == mc) = true := by rw [BEq.comm]; exact e2
  have t2 : (mc != pc) = false := by simp [bne, e2]
  cases e3 : rightB ⟨hc, hv, ho⟩
  case false =>
    rw [show rightD ⟨st, ⟨wl, wm, wt⟩, ⟨pc, pv, po⟩, ⟨mc, mv, mo⟩, ⟨hc, hv, ho⟩, a, k, q⟩ = false by simp [rightD, e0, e1, s2, e3]]
    skip
    go_enter Try.func63, Try.ntmps63
    go_wp2_with (first | (go_at_call 72; refine (settled_any _ _ _ _).mono ?_; rintro e w' ⟨rfl, rfl⟩) | (go_at_call 56; refine (rwright_any _ _ _ _).mono ?_; rintro e w' ⟨rfl, rfl⟩))
    refine wp_loop_rounds 4 ?_
    rw [rounds_succ]
    go_wp2_with (first | (go_at_call 72; refine (settled_any _ _ _ _).mono ?_; rintro e w' ⟨rfl, rfl⟩) | (go_at_call 56; refine (rwright_any _ _ _ _).mono ?_; rintro e w' ⟨rfl, rfl⟩))
    rw [rounds_succ]
    go_wp2_with (first | (go_at_call 72; refine (settled_any _ _ _ _).mono ?_; rintro e w' ⟨rfl, rfl⟩) | (go_at_call 56; refine (rwright_any _ _ _ _).mono ?_; rintro e w' ⟨rfl, rfl⟩))
    rw [rounds_succ]
    go_wp2_with (first | (go_at_call 72; refine (settled_any _ _ _ _).mono ?_; rintro e w' ⟨rfl, rfl⟩) | (go_at_call 56; refine (rwright_any _ _ _ _).mono ?_; rintro e w' ⟨rfl, rfl⟩))
    go_ret
    exact ⟨rfl, by go_grown⟩
  cases e4 : (hc == pc)
  case false =>
    have s4 : (pc == hc) = false := by rw [BEq.comm]; exact e4
    have t4 : (hc != pc) = true := by simp [bne, e4]
    rw [show rightD ⟨st, ⟨wl, wm, wt⟩, ⟨pc, pv, po⟩, ⟨mc, mv, mo⟩, ⟨hc, hv, ho⟩, a, k, q⟩ = false by simp [rightD, e0, e1, s2, e3, s4]]
    skip
    go_enter Try.func63, Try.ntmps63
    go_wp2_with (first | (go_at_call 72; refine (settled_any _ _ _ _).mono ?_; rintro e w' ⟨rfl, rfl⟩) | (go_at_call 56; refine (rwright_any _ _ _ _).mono ?_; rintro e w' ⟨rfl, rfl⟩))
    refine wp_loop_rounds 4 ?_
    rw [rounds_succ]
    go_wp2_with (first | (go_at_call 72; refine (settled_any _ _ _ _).mono ?_; rintro e w' ⟨rfl, rfl⟩) | (go_at_call 56; refine (rwright_any _ _ _ _).mono ?_; rintro e w' ⟨rfl, rfl⟩))
    rw [rounds_succ]
    go_wp2_with (first | (go_at_call 72; refine (settled_any _ _ _ _).mono ?_; rintro e w' ⟨rfl, rfl⟩) | (go_at_call 56; refine (rwright_any _ _ _ _).mono ?_; rintro e w' ⟨rfl, rfl⟩))
    rw [rounds_succ]
    go_wp2_with (first | (go_at_call 72; refine (settled_any _ _ _ _).mono ?_; rintro e w' ⟨rfl, rfl⟩) | (go_at_call 56; refine (rwright_any _ _ _ _).mono ?_; rintro e w' ⟨rfl, rfl⟩))
    go_ret
    exact ⟨rfl, by go_grown⟩
  have s4 : (pc == hc) = true := by rw [BEq.comm]; exact e4
  have t4 : (hc != pc) = false := by simp [bne, e4]
  rcases Decidable.em (0 ≤ st) with g5 | g5
  case' inr =>
    have l5 : st < 0 := by omega
    have e5 : decide (0 ≤ st) = false := decide_eq_false g5
    rw [show rightD ⟨st, ⟨wl, wm, wt⟩, ⟨pc, pv, po⟩, ⟨mc, mv, mo⟩, ⟨hc, hv, ho⟩, a, k, q⟩ = false by simp [rightD, e0, e1, s2, e3, s4, e5]]
    skip
    go_enter Try.func63, Try.ntmps63
    go_wp2_with (first | (go_at_call 72; refine (settled_any _ _ _ _).mono ?_; rintro e w' ⟨rfl, rfl⟩) | (go_at_call 56; refine (rwright_any _ _ _ _).mono ?_; rintro e w' ⟨rfl, rfl⟩))
    refine wp_loop_rounds 4 ?_
    rw [rounds_succ]
    go_wp2_with (first | (go_at_call 72; refine (settled_any _ _ _ _).mono ?_; rintro e w' ⟨rfl, rfl⟩) | (go_at_call 56; refine (rwright_any _ _ _ _).mono ?_; rintro e w' ⟨rfl, rfl⟩))
    rw [rounds_succ]
    go_wp2_with (first | (go_at_call 72; refine (settled_any _ _ _ _).mono ?_; rintro e w' ⟨rfl, rfl⟩) | (go_at_call 56; refine (rwright_any _ _ _ _).mono ?_; rintro e w' ⟨rfl, rfl⟩))
    rw [rounds_succ]
    go_wp2_with (first | (go_at_call 72; refine (settled_any _ _ _ _).mono ?_; rintro e w' ⟨rfl, rfl⟩) | (go_at_call 56; refine (rwright_any _ _ _ _).mono ?_; rintro e w' ⟨rfl, rfl⟩))
    rw [rounds_succ]
    go_wp2_with (first | (go_at_call 72; refine (settled_any _ _ _ _).mono ?_; rintro e w' ⟨rfl, rfl⟩) | (go_at_call 56; refine (rwright_any _ _ _ _).mono ?_; rintro e w' ⟨rfl, rfl⟩))
    go_ret
    exact ⟨rfl, by go_grown⟩
  have e5 : decide (0 ≤ st) = true := decide_eq_true g5
  rcases Decidable.em (st ≤ 4) with g6 | g6
  case' inr =>
    have l6 : 4 < st := by omega
    have e6 : decide (st ≤ 4) = false := decide_eq_false g6
    rw [show rightD ⟨st, ⟨wl, wm, wt⟩, ⟨pc, pv, po⟩, ⟨mc, mv, mo⟩, ⟨hc, hv, ho⟩, a, k, q⟩ = false by simp [rightD, e0, e1, s2, e3, s4, e5, e6]]
    skip
    go_enter Try.func63, Try.ntmps63
    go_wp2_with (first | (go_at_call 72; refine (settled_any _ _ _ _).mono ?_; rintro e w' ⟨rfl, rfl⟩) | (go_at_call 56; refine (rwright_any _ _ _ _).mono ?_; rintro e w' ⟨rfl, rfl⟩))
    refine wp_loop_rounds 4 ?_
    rw [rounds_succ]
    go_wp2_with (first | (go_at_call 72; refine (settled_any _ _ _ _).mono ?_; rintro e w' ⟨rfl, rfl⟩) | (go_at_call 56; refine (rwright_any _ _ _ _).mono ?_; rintro e w' ⟨rfl, rfl⟩))
    rw [rounds_succ]
    go_wp2_with (first | (go_at_call 72; refine (settled_any _ _ _ _).mono ?_; rintro e w' ⟨rfl, rfl⟩) | (go_at_call 56; refine (rwright_any _ _ _ _).mono ?_; rintro e w' ⟨rfl, rfl⟩))
    rw [rounds_succ]
    go_wp2_with (first | (go_at_call 72; refine (settled_any _ _ _ _).mono ?_; rintro e w' ⟨rfl, rfl⟩) | (go_at_call 56; refine (rwright_any _ _ _ _).mono ?_; rintro e w' ⟨rfl, rfl⟩))
    rw [rounds_succ]
    go_wp2_with (first | (go_at_call 72; refine (settled_any _ _ _ _).mono ?_; rintro e w' ⟨rfl, rfl⟩) | (go_at_call 56; refine (rwright_any _ _ _ _).mono ?_; rintro e w' ⟨rfl, rfl⟩))
    go_ret
    exact ⟨rfl, by go_grown⟩
  have e6 : decide (st ≤ 4) = true := decide_eq_true g6
  rcases Decidable.em (0 ≤ q) with g7 | g7
  case' inr =>
    have l7 : q < 0 := by omega
    have e7 : decide (0 ≤ q) = false := decide_eq_false g7
    rw [show rightD ⟨st, ⟨wl, wm, wt⟩, ⟨pc, pv, po⟩, ⟨mc, mv, mo⟩, ⟨hc, hv, ho⟩, a, k, q⟩ = false by simp [rightD, e0, e1, s2, e3, s4, e5, e6, e7]]
    skip
    go_enter Try.func63, Try.ntmps63
    go_wp2_with (first | (go_at_call 72; refine (settled_any _ _ _ _).mono ?_; rintro e w' ⟨rfl, rfl⟩) | (go_at_call 56; refine (rwright_any _ _ _ _).mono ?_; rintro e w' ⟨rfl, rfl⟩))
    refine wp_loop_rounds 4 ?_
    rw [rounds_succ]
    go_wp2_with (first | (go_at_call 72; refine (settled_any _ _ _ _).mono ?_; rintro e w' ⟨rfl, rfl⟩) | (go_at_call 56; refine (rwright_any _ _ _ _).mono ?_; rintro e w' ⟨rfl, rfl⟩))
    rw [rounds_succ]
    go_wp2_with (first | (go_at_call 72; refine (settled_any _ _ _ _).mono ?_; rintro e w' ⟨rfl, rfl⟩) | (go_at_call 56; refine (rwright_any _ _ _ _).mono ?_; rintro e w' ⟨rfl, rfl⟩))
    rw [rounds_succ]
    go_wp2_with (first | (go_at_call 72; refine (settled_any _ _ _ _).mono ?_; rintro e w' ⟨rfl, rfl⟩) | (go_at_call 56; refine (rwright_any _ _ _ _).mono ?_; rintro e w' ⟨rfl, rfl⟩))
    rw [rounds_succ]
    go_wp2_with (first | (go_at_call 72; refine (settled_any _ _ _ _).mono ?_; rintro e w' ⟨rfl, rfl⟩) | (go_at_call 56; refine (rwright_any _ _ _ _).mono ?_; rintro e w' ⟨rfl, rfl⟩))
    go_ret
    exact ⟨rfl, by go_grown⟩
  have e7 : decide (0 ≤ q) = true := decide_eq_true g7
  rcases Decidable.em (q ≤ 255) with g8 | g8
  case' inr =>
    have l8 : 255 < q := by omega
    have e8 : decide (q ≤ 255) = false := decide_eq_false g8
    rw [show rightD ⟨st, ⟨wl, wm, wt⟩, ⟨pc, pv, po⟩, ⟨mc, mv, mo⟩, ⟨hc, hv, ho⟩, a, k, q⟩ = false by simp [rightD, e0, e1, s2, e3, s4, e5, e6, e7, e8]]
    skip
    go_enter Try.func63, Try.ntmps63
    go_wp2_with (first | (go_at_call 72; refine (settled_any _ _ _ _).mono ?_; rintro e w' ⟨rfl, rfl⟩) | (go_at_call 56; refine (rwright_any _ _ _ _).mono ?_; rintro e w' ⟨rfl, rfl⟩))
    refine wp_loop_rounds 4 ?_
    rw [rounds_succ]
    go_wp2_with (first | (go_at_call 72; refine (settled_any _ _ _ _).mono ?_; rintro e w' ⟨rfl, rfl⟩) | (go_at_call 56; refine (rwright_any _ _ _ _).mono ?_; rintro e w' ⟨rfl, rfl⟩))
    rw [rounds_succ]
    go_wp2_with (first | (go_at_call 72; refine (settled_any _ _ _ _).mono ?_; rintro e w' ⟨rfl, rfl⟩) | (go_at_call 56; refine (rwright_any _ _ _ _).mono ?_; rintro e w' ⟨rfl, rfl⟩))
    rw [rounds_succ]
    go_wp2_with (first | (go_at_call 72; refine (settled_any _ _ _ _).mono ?_; rintro e w' ⟨rfl, rfl⟩) | (go_at_call 56; refine (rwright_any _ _ _ _).mono ?_; rintro e w' ⟨rfl, rfl⟩))
    rw [rounds_succ]
    go_wp2_with (first | (go_at_call 72; refine (settled_any _ _ _ _).mono ?_; rintro e w' ⟨rfl, rfl⟩) | (go_at_call 56; refine (rwright_any _ _ _ _).mono ?_; rintro e w' ⟨rfl, rfl⟩))
    go_ret
    exact ⟨rfl, by go_grown⟩
  have e8 : decide (q ≤ 255) = true := decide_eq_true g8
  cases e9 : wrightB ⟨wl, wm, wt⟩
  case false =>
    rw [show rightD ⟨st, ⟨wl, wm, wt⟩, ⟨pc, pv, po⟩, ⟨mc, mv, mo⟩, ⟨hc, hv, ho⟩, a, k, q⟩ = false by simp [rightD, e0, e1, s2, e3, s4, e5, e6, e7, e8, e9]]
    skip
    go_enter Try.func63, Try.ntmps63
    go_wp2_with (first | (go_at_call 72; refine (settled_any _ _ _ _).mono ?_; rintro e w' ⟨rfl, rfl⟩) | (go_at_call 56; refine (rwright_any _ _ _ _).mono ?_; rintro e w' ⟨rfl, rfl⟩))
    refine wp_loop_rounds 4 ?_
    rw [rounds_succ]
    go_wp2_with (first | (go_at_call 72; refine (settled_any _ _ _ _).mono ?_; rintro e w' ⟨rfl, rfl⟩) | (go_at_call 56; refine (rwright_any _ _ _ _).mono ?_; rintro e w' ⟨rfl, rfl⟩))
    rw [rounds_succ]
    go_wp2_with (first | (go_at_call 72; refine (settled_any _ _ _ _).mono ?_; rintro e w' ⟨rfl, rfl⟩) | (go_at_call 56; refine (rwright_any _ _ _ _).mono ?_; rintro e w' ⟨rfl, rfl⟩))
    rw [rounds_succ]
    go_wp2_with (first | (go_at_call 72; refine (settled_any _ _ _ _).mono ?_; rintro e w' ⟨rfl, rfl⟩) | (go_at_call 56; refine (rwright_any _ _ _ _).mono ?_; rintro e w' ⟨rfl, rfl⟩))
    rw [rounds_succ]
    go_wp2_with (first | (go_at_call 72; refine (settled_any _ _ _ _).mono ?_; rintro e w' ⟨rfl, rfl⟩) | (go_at_call 56; refine (rwright_any _ _ _ _).mono ?_; rintro e w' ⟨rfl, rfl⟩))
    go_ret
    exact ⟨rfl, by go_grown⟩
  cases k
  case true =>
    rw [show rightD ⟨st, ⟨wl, wm, wt⟩, ⟨pc, pv, po⟩, ⟨mc, mv, mo⟩, ⟨hc, hv, ho⟩, a, true, q⟩ = true by simp [rightD, e0, e1, s2, e3, s4, e5, e6, e7, e8, e9]]
    skip
    go_enter Try.func63, Try.ntmps63
    go_wp2_with (first | (go_at_call 72; refine (settled_any _ _ _ _).mono ?_; rintro e w' ⟨rfl, rfl⟩) | (go_at_call 56; refine (rwright_any _ _ _ _).mono ?_; rintro e w' ⟨rfl, rfl⟩))
    refine wp_loop_rounds 4 ?_
    rw [rounds_succ]
    go_wp2_with (first | (go_at_call 72; refine (settled_any _ _ _ _).mono ?_; rintro e w' ⟨rfl, rfl⟩) | (go_at_call 56; refine (rwright_any _ _ _ _).mono ?_; rintro e w' ⟨rfl, rfl⟩))
    rw [rounds_succ]
    go_wp2_with (first | (go_at_call 72; refine (settled_any _ _ _ _).mono ?_; rintro e w' ⟨rfl, rfl⟩) | (go_at_call 56; refine (rwright_any _ _ _ _).mono ?_; rintro e w' ⟨rfl, rfl⟩))
    rw [rounds_succ]
    go_wp2_with (first | (go_at_call 72; refine (settled_any _ _ _ _).mono ?_; rintro e w' ⟨rfl, rfl⟩) | (go_at_call 56; refine (rwright_any _ _ _ _).mono ?_; rintro e w' ⟨rfl, rfl⟩))
    rw [rounds_succ]
    go_wp2_with (first | (go_at_call 72; refine (settled_any _ _ _ _).mono ?_; rintro e w' ⟨rfl, rfl⟩) | (go_at_call 56; refine (rwright_any _ _ _ _).mono ?_; rintro e w' ⟨rfl, rfl⟩))
    go_ret
    exact ⟨rfl, by go_grown⟩
  case false =>
    rw [show rightD ⟨st, ⟨wl, wm, wt⟩, ⟨pc, pv, po⟩, ⟨mc, mv, mo⟩, ⟨hc, hv, ho⟩, a, false, q⟩ = (a == 0) by simp [rightD, e0, e1, s2, e3, s4, e5, e6, e7, e8, e9]]
    skip
    go_enter Try.func63, Try.ntmps63
    go_wp2_with (first | (go_at_call 72; refine (settled_any _ _ _ _).mono ?_; rintro e w' ⟨rfl, rfl⟩) | (go_at_call 56; refine (rwright_any _ _ _ _).mono ?_; rintro e w' ⟨rfl, rfl⟩))
    refine wp_loop_rounds 4 ?_
    rw [rounds_succ]
    go_wp2_with (first | (go_at_call 72; refine (settled_any _ _ _ _).mono ?_; rintro e w' ⟨rfl, rfl⟩) | (go_at_call 56; refine (rwright_any _ _ _ _).mono ?_; rintro e w' ⟨rfl, rfl⟩))
    rw [rounds_succ]
    go_wp2_with (first | (go_at_call 72; refine (settled_any _ _ _ _).mono ?_; rintro e w' ⟨rfl, rfl⟩) | (go_at_call 56; refine (rwright_any _ _ _ _).mono ?_; rintro e w' ⟨rfl, rfl⟩))
    rw [rounds_succ]
    go_wp2_with (first | (go_at_call 72; refine (settled_any _ _ _ _).mono ?_; rintro e w' ⟨rfl, rfl⟩) | (go_at_call 56; refine (rwright_any _ _ _ _).mono ?_; rintro e w' ⟨rfl, rfl⟩))
    rw [rounds_succ]
    go_wp2_with (first | (go_at_call 72; refine (settled_any _ _ _ _).mono ?_; rintro e w' ⟨rfl, rfl⟩) | (go_at_call 56; refine (rwright_any _ _ _ _).mono ?_; rintro e w' ⟨rfl, rfl⟩))
    go_ret
    exact ⟨rfl, by go_grown⟩
end Go.Proofs.Ytnabpdengfmeaaa
