/- Layer 6: the references give the same as the program. -/
import Derived.Test.YtnabpdengfmeaaaWord
import Derived.KernelRfl
namespace Go.Proofs.Ytnabpdengfmeaaa
open Go.RowKit

theorem stateN_mod (s : Int) : stateN s = stateN (s % 16) := by
  unfold stateN
  simp only [has8, has7, has3, has1]
  have e8 : (s % 16) / 8 % 2 = s / 8 % 2 := by omega
  have e7 : (s % 16) % 8 = s % 8 := by omega
  have e3 : (s % 16) % 4 = s % 4 := by omega
  have e1 : (s % 16) % 2 = s % 2 := by omega
  rw [e8, e7, e3, e1]
theorem nextN_mod (s c : Int) : nextN s c = nextN s (c % 8) := by
  unfold nextN
  simp only [has4, has2, has1]
  have e4 : (c % 8) / 4 % 2 = c / 4 % 2 := by omega
  have e2 : (c % 8) / 2 % 2 = c / 2 % 2 := by omega
  have e1 : (c % 8) % 2 = c % 2 := by omega
  rw [e4, e2, e1]

theorem lt16 {r : Int} (h0 : 0 ≤ r) (h1 : r < 16) : r = 0 ∨ r = 1 ∨ r = 2 ∨ r = 3 ∨ r = 4 ∨ r = 5 ∨ r = 6 ∨ r = 7 ∨ r = 8 ∨ r = 9 ∨ r = 10 ∨ r = 11 ∨ r = 12 ∨ r = 13 ∨ r = 14 ∨ r = 15 := by omega
theorem lt8 {r : Int} (h0 : 0 ≤ r) (h1 : r < 8) : r = 0 ∨ r = 1 ∨ r = 2 ∨ r = 3 ∨ r = 4 ∨ r = 5 ∨ r = 6 ∨ r = 7 := by omega
theorem lt5 {r : Int} (h0 : 0 ≤ r) (h1 : r < 5) : r = 0 ∨ r = 1 ∨ r = 2 ∨ r = 3 ∨ r = 4 := by omega

set_option maxRecDepth 100000 in
theorem ix_state (w : World) (r : Int) (h0 : 0 ≤ r) (h1 : r < 16) :
    (Instr.index 101 (.agg #[.int .i64 0, .int .i64 1, .int .i64 0, .int .i64 2, .int .i64 0, .int .i64 1, .int .i64 0, .int .i64 3, .int .i64 4, .int .i64 4, .int .i64 4, .int .i64 4, .int .i64 4, .int .i64 4, .int .i64 4, .int .i64 4]) (.int .i64 r)).run Try.prog w = .ok (.int .i64 (stateN r)) w := by
  rcases lt16 h0 h1 with rfl | rfl | rfl | rfl | rfl | rfl | rfl | rfl | rfl | rfl | rfl | rfl | rfl | rfl | rfl | rfl
  all_goals kernel_rfl
set_option maxRecDepth 100000 in
theorem ix_status (w : World) (r : Int) (h0 : 0 ≤ r) (h1 : r < 5) :
    (Instr.index 102 (.agg #[.int .i64 0, .int .i64 1, .int .i64 3, .int .i64 7, .int .i64 8]) (.int .i64 r)).run Try.prog w = .ok (.int .i64 (statusN r)) w := by
  rcases lt5 h0 h1 with rfl | rfl | rfl | rfl | rfl
  all_goals kernel_rfl
set_option maxRecDepth 100000 in
theorem ix_control (w : World) (r : Int) (h0 : 0 ≤ r) (h1 : r < 5) :
    (Instr.index 102 (.agg #[.int .i64 1, .int .i64 1, .int .i64 3, .int .i64 3, .int .i64 0]) (.int .i64 r)).run Try.prog w = .ok (.int .i64 (controlN r true false)) w := by
  rcases lt5 h0 h1 with rfl | rfl | rfl | rfl | rfl
  all_goals kernel_rfl

def rowV (s : Int) : Value := if s = 0 then .agg #[.int .i64 1, .int .i64 1, .int .i64 1, .int .i64 1, .int .i64 1, .int .i64 1, .int .i64 1, .int .i64 1] else if s = 1 then .agg #[.int .i64 1, .int .i64 2, .int .i64 1, .int .i64 2, .int .i64 1, .int .i64 2, .int .i64 1, .int .i64 2] else if s = 2 then .agg #[.int .i64 1, .int .i64 2, .int .i64 1, .int .i64 3, .int .i64 1, .int .i64 2, .int .i64 1, .int .i64 3] else if s = 3 then .agg #[.int .i64 1, .int .i64 2, .int .i64 1, .int .i64 3, .int .i64 1, .int .i64 2, .int .i64 1, .int .i64 3] else .agg #[.int .i64 4, .int .i64 4, .int .i64 4, .int .i64 4, .int .i64 0, .int .i64 0, .int .i64 0, .int .i64 0]
set_option maxRecDepth 100000 in
theorem ix_rows (w : World) (s : Int) (h0 : 0 ≤ s) (h1 : s < 5) : (Instr.index 104 (.agg #[.int .i64 1, .int .i64 1, .int .i64 1, .int .i64 1, .int .i64 1, .int .i64 1, .int .i64 1, .int .i64 1, .int .i64 1, .int .i64 2, .int .i64 1, .int .i64 2, .int .i64 1, .int .i64 2, .int .i64 1, .int .i64 2, .int .i64 1, .int .i64 2, .int .i64 1, .int .i64 3, .int .i64 1, .int .i64 2, .int .i64 1, .int .i64 3, .int .i64 1, .int .i64 2, .int .i64 1, .int .i64 3, .int .i64 1, .int .i64 2, .int .i64 1, .int .i64 3, .int .i64 4, .int .i64 4, .int .i64 4, .int .i64 4, .int .i64 0, .int .i64 0, .int .i64 0, .int .i64 0]) (.int .i64 s)).run Try.prog w = .ok (rowV s) w := by
  rcases lt5 h0 h1 with rfl | rfl | rfl | rfl | rfl
  all_goals kernel_rfl
set_option maxRecDepth 100000 in
theorem ix_row (w : World) (s c : Int) (h0 : 0 ≤ s) (h1 : s < 5) (h2 : 0 ≤ c) (h3 : c < 8) : (Instr.index 103 (rowV s) (.int .i64 c)).run Try.prog w = .ok (.int .i64 (nextN s c)) w := by
  rcases lt5 h0 h1 with rfl | rfl | rfl | rfl | rfl <;> rcases lt8 h2 h3 with rfl | rfl | rfl | rfl | rfl | rfl | rfl | rfl
  all_goals kernel_rfl

set_option maxHeartbeats 2000000 in
set_option maxRecDepth 100000 in
theorem rstate_any (s : Int) (w : World) : Calls Try.prog 46 #[.int .i64 s] w fun e w' => e = .returned (.int .i64 (stateN s)) ∧ w = w' := by
  rw [stateN_mod]
  have hm : bits .and .i64 s 15 = s % 16 := and_mask s 4 15 (by decide) (by decide)
  have hix := ix_state w (s % 16) (by omega) (by omega)
  generalize stateN (s % 16) = y at *
  generalize s % 16 = r at *
  go_enter Try.func46, Try.ntmps46
  go_wp2
  go_ret
  exact ⟨rfl, rfl⟩

set_option maxHeartbeats 1000000 in
set_option maxRecDepth 100000 in
theorem rstatus_any (s : Int) (w : World) : Calls Try.prog 48 #[.int .i64 s] w fun e w' => e = .returned (.int .i64 (statusN s)) ∧ w = w' := by
  by_cases h : s < 0
  · have e := Lib.hid (show statusN s = 0 by unfold statusN; rw [if_neg (by omega), if_neg (by omega), if_neg (by omega), if_neg (by omega)])
    rw [e.out]
    go_enter Try.func48, Try.ntmps48
    go_wp2
    go_ret
    exact ⟨rfl, rfl⟩
  · have h0 : decide (s < 0) = false := decide_eq_false h
    by_cases h4 : 4 < s
    · have e := Lib.hid (show statusN s = 0 by unfold statusN; rw [if_neg (by omega), if_neg (by omega), if_neg (by omega), if_neg (by omega)])
      rw [e.out]
      have hd : decide (4 < s) = true := decide_eq_true h4
      go_enter Try.func48, Try.ntmps48
      go_wp2
      go_ret
      exact ⟨rfl, rfl⟩
    · have hd : decide (4 < s) = false := decide_eq_false h4
      have hix := ix_status w s (by omega) (by omega)
      generalize statusN s = y at *
      go_enter Try.func48, Try.ntmps48
      go_wp2
      go_ret
      exact ⟨rfl, rfl⟩

set_option maxHeartbeats 1000000 in
set_option maxRecDepth 100000 in
theorem rcontrol_any (s : Int) (want clear : Bool) (w : World) : Calls Try.prog 49 #[.int .i64 s, .bool want, .bool clear] w fun e w' => e = .returned (.int .i64 (controlN s want clear)) ∧ w = w' := by
  by_cases h : s < 0
  · rw [show controlN s want clear = 0 from if_pos (Or.inl h)]
    go_enter Try.func49, Try.ntmps49
    go_wp2
    go_ret
    exact ⟨rfl, rfl⟩
  · have h0 : decide (s < 0) = false := decide_eq_false h
    by_cases h4 : 4 < s
    · rw [show controlN s want clear = 0 from if_pos (Or.inr h4)]
      have hd : decide (4 < s) = true := decide_eq_true h4
      go_enter Try.func49, Try.ntmps49
      go_wp2
      go_ret
      exact ⟨rfl, rfl⟩
    · have hd : decide (4 < s) = false := decide_eq_false h4
      by_cases he : s = 4
      · subst he
        clear h h0 h4 hd
        have hix := ix_control w 4 (by omega) (by omega)
        cases want <;> cases clear
        all_goals
          go_enter Try.func49, Try.ntmps49
          go_wp2
          go_ret
          exact ⟨rfl, rfl⟩
      · have he' : (s == 4) = false := beq_eq_false_iff_ne.2 he
        have hix := ix_control w s (by omega) (by omega)
        have e : controlN s want clear = if want = false then 0 else controlN s true false := by
          have n1 : ¬ (s < 0 ∨ 4 < s) := by omega
          simp only [controlN, if_neg n1, if_neg he]
          simp
        rw [e]
        clear e he
        generalize controlN s true false = y at *
        cases want
        all_goals
          go_enter Try.func49, Try.ntmps49
          go_wp2
          go_ret
          exact ⟨rfl, rfl⟩

set_option maxHeartbeats 1000000 in
set_option maxRecDepth 100000 in
theorem rnext_any (s c : Int) (w : World) : Calls Try.prog 50 #[.int .i64 s, .int .i64 c] w fun e w' => e = .returned (.int .i64 (nextN s c)) ∧ w = w' := by
  by_cases h : s < 0
  · rw [show nextN s c = 0 from if_pos (Or.inl h)]
    go_enter Try.func50, Try.ntmps50
    go_wp2
    go_ret
    exact ⟨rfl, rfl⟩
  · have h0 : decide (s < 0) = false := decide_eq_false h
    by_cases h4 : 4 < s
    · rw [show nextN s c = 0 from if_pos (Or.inr h4)]
      have hd : decide (4 < s) = true := decide_eq_true h4
      go_enter Try.func50, Try.ntmps50
      go_wp2
      go_ret
      exact ⟨rfl, rfl⟩
    · have hd : decide (4 < s) = false := decide_eq_false h4
      rw [nextN_mod]
      have hm : bits .and .i64 c 7 = c % 8 := and_mask c 3 7 (by decide) (by decide)
      have hi1 := ix_rows w s (by omega) (by omega)
      have hi2 := ix_row w s (c % 8) (by omega) (by omega) (by omega) (by omega)
      generalize rowV s = V at *
      generalize nextN s (c % 8) = y at *
      generalize c % 8 = r at *
      go_enter Try.func50, Try.ntmps50
      go_wp2
      go_ret
      exact ⟨rfl, rfl⟩
end Go.Proofs.Ytnabpdengfmeaaa
