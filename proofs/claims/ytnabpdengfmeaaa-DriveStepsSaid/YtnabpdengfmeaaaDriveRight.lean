/- Layer 7: drives as the model holds them; the contract of drive.Right. (Written by a program of mine, gen_drive.py.) -/
import Derived.Test.YtnabpdengfmeaaaWatchAwake
import Derived.Test.YtnabpdengfmeaaaWordRef
namespace Go.Proofs.Ytnabpdengfmeaaa
open Go.RowKit

/-- A drive. -/
structure Dr where
  st : Int
  w : Wt
  p : Sw
  m : Sw
  h : Sw
  a : Int
  k : Bool
  q : Int
def Dr.cs (d : Dr) : List Value := [.int .i64 d.st, .int .i64 d.w.l, .int .i64 d.w.m, .int .i64 d.w.t, .int .i64 d.p.c, .bool d.p.v, .int .i64 d.p.o, .int .i64 d.m.c, .bool d.m.v, .int .i64 d.m.o, .int .i64 d.h.c, .bool d.h.v, .int .i64 d.h.o, .int .i64 d.a, .bool d.k, .int .i64 d.q]
def Dr.val (d : Dr) : Value := .agg d.cs.toArray
theorem dr_val (st wl wm wt pc po mc mo hc ho a q : Int) (pv mv hv k : Bool) : Dr.val ⟨st, ⟨wl, wm, wt⟩, ⟨pc, pv, po⟩, ⟨mc, mv, mo⟩, ⟨hc, hv, ho⟩, a, k, q⟩ = .agg #[.int .i64 st, .int .i64 wl, .int .i64 wm, .int .i64 wt, .int .i64 pc, .bool pv, .int .i64 po, .int .i64 mc, .bool mv, .int .i64 mo, .int .i64 hc, .bool hv, .int .i64 ho, .int .i64 a, .bool k, .int .i64 q] := rfl
def rightD (d : Dr) : Bool := rightB d.p && rightB d.m && rightB d.h && (d.p.c == d.m.c) && (d.p.c == d.h.c) && wrightB d.w && decide (0 ≤ d.st) && decide (d.st ≤ 4) && decide (0 ≤ d.q) && decide (d.q ≤ 255) && (d.k || d.a == 0)

set_option maxHeartbeats 16000000 in
set_option maxRecDepth 100000 in
theorem dright_any (st wl wm wt pc po mc mo hc ho a q : Int) (pv mv hv k : Bool) (w : World) :
    Calls Try.prog 61 #[.agg #[.int .i64 st, .int .i64 wl, .int .i64 wm, .int .i64 wt, .int .i64 pc, .bool pv, .int .i64 po, .int .i64 mc, .bool mv, .int .i64 mo, .int .i64 hc, .bool hv, .int .i64 ho, .int .i64 a, .bool k, .int .i64 q]] w fun e w' => e = .returned (.bool (rightD ⟨st, ⟨wl, wm, wt⟩, ⟨pc, pv, po⟩, ⟨mc, mv, mo⟩, ⟨hc, hv, ho⟩, a, k, q⟩)) ∧ Below w.heap.size w w' := by
  cases e0 : rightB ⟨pc, pv, po⟩
  case false =>
    rw [show rightD ⟨st, ⟨wl, wm, wt⟩, ⟨pc, pv, po⟩, ⟨mc, mv, mo⟩, ⟨hc, hv, ho⟩, a, k, q⟩ = false by simp [rightD, e0]]
    go_enter Try.func61, Try.ntmps61
    go_wp2_with (first | (go_at_call 32; refine (bright_any _ _ _ _).mono ?_; rintro e w' ⟨rfl, rfl⟩) | (go_at_call 55; refine (wright_any _ _ _ _).mono ?_; rintro e w' ⟨rfl, rfl⟩))
    go_ret
    exact ⟨rfl, by go_grown⟩
  cases e1 : rightB ⟨mc, mv, mo⟩
  case false =>
    rw [show rightD ⟨st, ⟨wl, wm, wt⟩, ⟨pc, pv, po⟩, ⟨mc, mv, mo⟩, ⟨hc, hv, ho⟩, a, k, q⟩ = false by simp [rightD, e0, e1]]
    go_enter Try.func61, Try.ntmps61
    go_wp2_with (first | (go_at_call 32; refine (bright_any _ _ _ _).mono ?_; rintro e w' ⟨rfl, rfl⟩) | (go_at_call 55; refine (wright_any _ _ _ _).mono ?_; rintro e w' ⟨rfl, rfl⟩))
    go_ret
    exact ⟨rfl, by go_grown⟩
  cases e2 : rightB ⟨hc, hv, ho⟩
  case false =>
    rw [show rightD ⟨st, ⟨wl, wm, wt⟩, ⟨pc, pv, po⟩, ⟨mc, mv, mo⟩, ⟨hc, hv, ho⟩, a, k, q⟩ = false by simp [rightD, e0, e1, e2]]
    go_enter Try.func61, Try.ntmps61
    go_wp2_with (first | (go_at_call 32; refine (bright_any _ _ _ _).mono ?_; rintro e w' ⟨rfl, rfl⟩) | (go_at_call 55; refine (wright_any _ _ _ _).mono ?_; rintro e w' ⟨rfl, rfl⟩))
    go_ret
    exact ⟨rfl, by go_grown⟩
  cases e3 : (pc == mc)
  case false =>
    rw [show rightD ⟨st, ⟨wl, wm, wt⟩, ⟨pc, pv, po⟩, ⟨mc, mv, mo⟩, ⟨hc, hv, ho⟩, a, k, q⟩ = false by simp [rightD, e0, e1, e2, e3]]
    go_enter Try.func61, Try.ntmps61
    go_wp2_with (first | (go_at_call 32; refine (bright_any _ _ _ _).mono ?_; rintro e w' ⟨rfl, rfl⟩) | (go_at_call 55; refine (wright_any _ _ _ _).mono ?_; rintro e w' ⟨rfl, rfl⟩))
    go_ret
    exact ⟨rfl, by go_grown⟩
  cases e4 : (pc == hc)
  case false =>
    rw [show rightD ⟨st, ⟨wl, wm, wt⟩, ⟨pc, pv, po⟩, ⟨mc, mv, mo⟩, ⟨hc, hv, ho⟩, a, k, q⟩ = false by simp [rightD, e0, e1, e2, e3, e4]]
    go_enter Try.func61, Try.ntmps61
    go_wp2_with (first | (go_at_call 32; refine (bright_any _ _ _ _).mono ?_; rintro e w' ⟨rfl, rfl⟩) | (go_at_call 55; refine (wright_any _ _ _ _).mono ?_; rintro e w' ⟨rfl, rfl⟩))
    go_ret
    exact ⟨rfl, by go_grown⟩
  cases e5 : wrightB ⟨wl, wm, wt⟩
  case false =>
    rw [show rightD ⟨st, ⟨wl, wm, wt⟩, ⟨pc, pv, po⟩, ⟨mc, mv, mo⟩, ⟨hc, hv, ho⟩, a, k, q⟩ = false by simp [rightD, e0, e1, e2, e3, e4, e5]]
    go_enter Try.func61, Try.ntmps61
    go_wp2_with (first | (go_at_call 32; refine (bright_any _ _ _ _).mono ?_; rintro e w' ⟨rfl, rfl⟩) | (go_at_call 55; refine (wright_any _ _ _ _).mono ?_; rintro e w' ⟨rfl, rfl⟩))
    go_ret
    exact ⟨rfl, by go_grown⟩
  cases e6 : decide (0 ≤ st)
  case false =>
    rw [show rightD ⟨st, ⟨wl, wm, wt⟩, ⟨pc, pv, po⟩, ⟨mc, mv, mo⟩, ⟨hc, hv, ho⟩, a, k, q⟩ = false by simp [rightD, e0, e1, e2, e3, e4, e5, e6]]
    go_enter Try.func61, Try.ntmps61
    go_wp2_with (first | (go_at_call 32; refine (bright_any _ _ _ _).mono ?_; rintro e w' ⟨rfl, rfl⟩) | (go_at_call 55; refine (wright_any _ _ _ _).mono ?_; rintro e w' ⟨rfl, rfl⟩))
    go_ret
    exact ⟨rfl, by go_grown⟩
  cases e7 : decide (st ≤ 4)
  case false =>
    rw [show rightD ⟨st, ⟨wl, wm, wt⟩, ⟨pc, pv, po⟩, ⟨mc, mv, mo⟩, ⟨hc, hv, ho⟩, a, k, q⟩ = false by simp [rightD, e0, e1, e2, e3, e4, e5, e6, e7]]
    go_enter Try.func61, Try.ntmps61
    go_wp2_with (first | (go_at_call 32; refine (bright_any _ _ _ _).mono ?_; rintro e w' ⟨rfl, rfl⟩) | (go_at_call 55; refine (wright_any _ _ _ _).mono ?_; rintro e w' ⟨rfl, rfl⟩))
    go_ret
    exact ⟨rfl, by go_grown⟩
  cases e8 : decide (0 ≤ q)
  case false =>
    rw [show rightD ⟨st, ⟨wl, wm, wt⟩, ⟨pc, pv, po⟩, ⟨mc, mv, mo⟩, ⟨hc, hv, ho⟩, a, k, q⟩ = false by simp [rightD, e0, e1, e2, e3, e4, e5, e6, e7, e8]]
    go_enter Try.func61, Try.ntmps61
    go_wp2_with (first | (go_at_call 32; refine (bright_any _ _ _ _).mono ?_; rintro e w' ⟨rfl, rfl⟩) | (go_at_call 55; refine (wright_any _ _ _ _).mono ?_; rintro e w' ⟨rfl, rfl⟩))
    go_ret
    exact ⟨rfl, by go_grown⟩
  cases e9 : decide (q ≤ 255)
  case false =>
    rw [show rightD ⟨st, ⟨wl, wm, wt⟩, ⟨pc, pv, po⟩, ⟨mc, mv, mo⟩, ⟨hc, hv, ho⟩, a, k, q⟩ = false by simp [rightD, e0, e1, e2, e3, e4, e5, e6, e7, e8, e9]]
    go_enter Try.func61, Try.ntmps61
    go_wp2_with (first | (go_at_call 32; refine (bright_any _ _ _ _).mono ?_; rintro e w' ⟨rfl, rfl⟩) | (go_at_call 55; refine (wright_any _ _ _ _).mono ?_; rintro e w' ⟨rfl, rfl⟩))
    go_ret
    exact ⟨rfl, by go_grown⟩
  cases k
  case true =>
    rw [show rightD ⟨st, ⟨wl, wm, wt⟩, ⟨pc, pv, po⟩, ⟨mc, mv, mo⟩, ⟨hc, hv, ho⟩, a, true, q⟩ = true by simp [rightD, e0, e1, e2, e3, e4, e5, e6, e7, e8, e9]]
    go_enter Try.func61, Try.ntmps61
    go_wp2_with (first | (go_at_call 32; refine (bright_any _ _ _ _).mono ?_; rintro e w' ⟨rfl, rfl⟩) | (go_at_call 55; refine (wright_any _ _ _ _).mono ?_; rintro e w' ⟨rfl, rfl⟩))
    go_ret
    exact ⟨rfl, by go_grown⟩
  case false =>
    rw [show rightD ⟨st, ⟨wl, wm, wt⟩, ⟨pc, pv, po⟩, ⟨mc, mv, mo⟩, ⟨hc, hv, ho⟩, a, false, q⟩ = (a == 0) by simp [rightD, e0, e1, e2, e3, e4, e5, e6, e7, e8, e9]]
    go_enter Try.func61, Try.ntmps61
    go_wp2_with (first | (go_at_call 32; refine (bright_any _ _ _ _).mono ?_; rintro e w' ⟨rfl, rfl⟩) | (go_at_call 55; refine (wright_any _ _ _ _).mono ?_; rintro e w' ⟨rfl, rfl⟩))
    go_ret
    exact ⟨rfl, by go_grown⟩
end Go.Proofs.Ytnabpdengfmeaaa
