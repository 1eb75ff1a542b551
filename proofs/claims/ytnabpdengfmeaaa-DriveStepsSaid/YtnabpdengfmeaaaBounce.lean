/- The settled switch (layer 5): contracts of bounce.New, Right, Step, and the laws' awake. -/
import Derived.Test.YtnabpdengfmeaaaRows
import Derived.WalkKit
import Derived.WalkSpells
import Derived.WalkLawsBesides
import Derived.Handy
import Derived.Lib.Hide
import Derived.BigQuiet
import Derived.Deep.QuietTactic
import Derived.Deep.RegionHeld3
namespace Go.Proofs.Ytnabpdengfmeaaa
open Go.RowKit

theorem ret_eq {a b : Value} (h : a = b) : Ending.returned a = Ending.returned b := by rw [h]

/-- A switch as the model holds it. -/
structure Sw where
  c : Int
  v : Bool
  o : Int
def rightB (b : Sw) : Bool := decide (1 ≤ b.c) && decide (b.c ≤ 20) && decide (0 ≤ b.o) && decide (b.o < b.c)
/-- a cycle -/
def stepS (b : Sw) (s : Bool) : Sw := if rightB b = true then (if s = b.v then ⟨b.c, b.v, 0⟩ else if b.o + 1 = b.c then ⟨b.c, s, 0⟩ else ⟨b.c, b.v, b.o + 1⟩) else ⟨0, false, 0⟩
theorem right_iff (c o : Int) (v : Bool) : rightB ⟨c, v, o⟩ = true ↔ 1 ≤ c ∧ c ≤ 20 ∧ 0 ≤ o ∧ o < c := by simp [rightB, and_assoc]
theorem wrong_iff (c o : Int) (v : Bool) : rightB ⟨c, v, o⟩ = false ↔ c < 1 ∨ 20 < c ∨ o < 0 ∨ c ≤ o := by
  rw [← Bool.not_eq_true, right_iff]; omega

set_option maxHeartbeats 1000000 in
set_option maxRecDepth 100000 in
theorem awake05 (w : World) : Calls Try.prog 30 #[] w fun e w' => e = .returned (.bool true) ∧ Below w.heap.size w w' := by
  go_enter Try.func30, Try.ntmps30
  go_wp2
  go_ret
  exact ⟨rfl, by go_grown⟩

set_option maxHeartbeats 1000000 in
set_option maxRecDepth 100000 in
theorem bright_any (c o : Int) (v : Bool) (w : World) : Calls Try.prog 32 #[.agg #[.int .i64 c, .bool v, .int .i64 o]] w fun e w' => e = .returned (.bool (rightB ⟨c, v, o⟩)) ∧ w.alloc (.cells #[.int .i64 c, .bool v, .int .i64 o] 35) = w' := by
  cases hr : rightB ⟨c, v, o⟩ with
  | true =>
    obtain ⟨h1, h2, h3, h4⟩ := (right_iff c o v).1 hr
    clear hr
    go_enter Try.func32, Try.ntmps32
    go_wp2
    go_ret
    exact ⟨rfl, rfl⟩
  | false =>
    have h := (wrong_iff c o v).1 hr
    clear hr
    rcases h with h | h | h | h
    all_goals
      go_enter Try.func32, Try.ntmps32
      go_wp2
      all_goals
        go_ret
        first | exact ⟨rfl, rfl⟩ | exact ⟨ret_eq (congrArg Value.bool (decide_eq_false (by omega))), rfl⟩

/-- All old cells and all old marks read as before. -/
theorem bcell {W w1 : World} (hb : Below W.heap.size W w1) : (∀ b o, b < W.heap.size → w1.cell? ⟨b, o, none⟩ = W.cell? ⟨b, o, none⟩) ∧ (∀ b o, b < W.heap.size → w1.frozen? ⟨b, o, none⟩ = W.frozen? ⟨b, o, none⟩) :=
  ⟨fun b o h => hb.cell (p := ⟨b, o, none⟩) h, fun b o h => hb.frozen (p := ⟨b, o, none⟩) h⟩

def Sw.val (b : Sw) : Value := .agg #[.int .i64 b.c, .bool b.v, .int .i64 b.o]
theorem sw_val (c o : Int) (v : Bool) : Sw.val ⟨c, v, o⟩ = .agg #[.int .i64 c, .bool v, .int .i64 o] := rfl

set_option maxHeartbeats 2000000 in
set_option maxRecDepth 100000 in
theorem bstep_any (c o : Int) (v s : Bool) (w : World) : Calls Try.prog 33 #[.agg #[.int .i64 c, .bool v, .int .i64 o], .bool s] w fun e w' =>
    e = .returned (Sw.val (stepS ⟨c, v, o⟩ s)) ∧ Below w.heap.size w w' := by
  cases hr : rightB ⟨c, v, o⟩ with
  | true =>
    obtain ⟨h1, h2, h3, h4⟩ := (right_iff c o v).1 hr
    by_cases hs : s = v
    · have e : stepS ⟨c, v, o⟩ s = ⟨c, v, 0⟩ := by simp [stepS, hr, hs]
      rw [e, sw_val]
      have HR := Lib.hid hr
      clear hr e
      subst hs
      go_enter Try.func33, Try.ntmps33
      go_wp2_with (go_at_call 32; refine (bright_any _ _ _ _).mono ?_; rw [HR.out]; rintro e w' ⟨rfl, rfl⟩)
      go_returns
      exact ⟨rfl, by go_grown⟩
    · have hs' : (s == v) = false := beq_eq_false_iff_ne.2 hs
      by_cases ho : o + 1 = c
      · have e : stepS ⟨c, v, o⟩ s = ⟨c, s, 0⟩ := by simp [stepS, hr, hs, ho]
        rw [e, sw_val]
        have HR := Lib.hid hr
        have ho' : (o + 1 == c) = true := beq_iff_eq.2 ho
        clear hr e ho hs
        go_enter Try.func33, Try.ntmps33
        go_wp2_with (go_at_call 32; refine (bright_any _ _ _ _).mono ?_; rw [HR.out]; rintro e w' ⟨rfl, rfl⟩)
        go_returns
        exact ⟨rfl, by go_grown⟩
      · have e : stepS ⟨c, v, o⟩ s = ⟨c, v, o + 1⟩ := by simp [stepS, hr, hs, ho]
        rw [e, sw_val]
        have HR := Lib.hid hr
        have ho' : (o + 1 == c) = false := beq_eq_false_iff_ne.2 ho
        clear hr e ho hs
        go_enter Try.func33, Try.ntmps33
        go_wp2_with (go_at_call 32; refine (bright_any _ _ _ _).mono ?_; rw [HR.out]; rintro e w' ⟨rfl, rfl⟩)
        go_returns
        exact ⟨rfl, by go_grown⟩
  | false =>
    have e : stepS ⟨c, v, o⟩ s = ⟨0, false, 0⟩ := by simp [stepS, hr]
    rw [e, sw_val]
    have HR := Lib.hid hr
    clear hr e
    go_enter Try.func33, Try.ntmps33
    go_wp2_with (go_at_call 32; refine (bright_any _ _ _ _).mono ?_; rw [HR.out]; rintro e w' ⟨rfl, rfl⟩)
    go_returns
    exact ⟨rfl, by go_grown⟩

/-- A box of three cells. -/
def Box3 (w : World) (B : Nat) (x y z : Value) : Prop :=
  B < w.heap.size ∧ w.cell? ⟨B, 0, none⟩ = some x ∧ w.cell? ⟨B, 1, none⟩ = some y ∧ w.cell? ⟨B, 2, none⟩ = some z ∧ w.frozen? ⟨B, 0, none⟩ = false ∧ w.frozen? ⟨B, 1, none⟩ = false ∧ w.frozen? ⟨B, 2, none⟩ = false
theorem Box3.new (w : World) (x y z : Value) (T : TypeId) : Box3 (w.alloc (.cells #[x, y, z] T)) w.heap.size x y z := by
  refine ⟨by simp, ?_, ?_, ?_, by simp, by simp, by simp⟩ <;> simp
theorem Box3.below {w w' : World} {B : Nat} {x y z : Value} (h : Box3 w B x y z) (hb : Below w.heap.size w w') : Box3 w' B x y z := by
  obtain ⟨h0, h1, h2, h3, h4, h5, h6⟩ := h
  obtain ⟨c, f⟩ := bcell hb
  exact ⟨Nat.lt_of_lt_of_le h0 hb.size, by rw [c _ _ h0, h1], by rw [c _ _ h0, h2], by rw [c _ _ h0, h3], by rw [f _ _ h0, h4], by rw [f _ _ h0, h5], by rw [f _ _ h0, h6]⟩
theorem Box3.drewN {w : World} {B : Nat} {x y z : Value} (h : Box3 w B x y z) (n : Nat) : Box3 (w.drewN n) B x y z := h

def newS (c : Int) (v : Bool) : Sw := if 1 ≤ c ∧ c ≤ 20 then ⟨c, v, 0⟩ else ⟨0, false, 0⟩
def newE (c : Int) : Int := if 1 ≤ c ∧ c ≤ 20 then 0 else 1

set_option maxHeartbeats 2000000 in
set_option maxRecDepth 100000 in
theorem bnew_any (c : Int) (v : Bool) (w : World) : Calls Try.prog 31 #[.int .i64 c, .bool v] w fun e w' =>
    e = .returned (.tuple #[Sw.val (newS c v), .int .i64 (newE c)]) ∧ Below w.heap.size w w' := by
  by_cases h : 1 ≤ c ∧ c ≤ 20
  · have e : newS c v = ⟨c, v, 0⟩ := by simp [newS, h]
    have e2 : newE c = 0 := by simp [newE, h]
    have HR := Lib.hid ((right_iff c 0 v).2 ⟨h.1, h.2, by omega, by omega⟩)
    rw [e, e2, sw_val]
    clear e e2 h
    go_enter Try.func31, Try.ntmps31
    go_wp2_with (go_at_call 32; refine (bright_any _ _ _ _).mono ?_; rw [HR.out]; rintro e w' ⟨rfl, rfl⟩)
    go_returns
    exact ⟨rfl, by go_grown⟩
  · have e : newS c v = ⟨0, false, 0⟩ := by simp [newS, h]
    have e2 : newE c = 1 := by simp [newE, h]
    have HR := Lib.hid ((wrong_iff c 0 v).2 (by omega))
    rw [e, e2, sw_val]
    clear e e2 h
    go_enter Try.func31, Try.ntmps31
    go_wp2_with (go_at_call 32; refine (bright_any _ _ _ _).mono ?_; rw [HR.out]; rintro e w' ⟨rfl, rfl⟩)
    go_returns
    exact ⟨rfl, by go_grown⟩
end Go.Proofs.Ytnabpdengfmeaaa
