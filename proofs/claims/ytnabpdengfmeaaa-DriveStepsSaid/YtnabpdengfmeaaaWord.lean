/- Layer 6: contracts of word.State, Status, Control, Next and of their references; the bits of a word as remainders. -/
import Derived.Test.YtnabpdengfmeaaaRows
import Derived.WalkKit
import Derived.WalkSpells
import Derived.WalkLawsBesides
import Derived.Handy
import Derived.Lib.Hide
import Derived.Laws.Bits128
import Derived.Laws.BitsAllLaws
namespace Go.Proofs.Ytnabpdengfmeaaa
open Go.RowKit

theorem and_mask (n : Int) (k : Nat) (m : Int) (hm : (BitVec.ofInt 64 m).toNat = 2 ^ k - 1) (hk : k ≤ 7) : bits .and .i64 n m = n % 2 ^ k := by
  have key : (BitVec.ofInt 64 n &&& BitVec.ofInt 64 m).toNat = (n % ((2 ^ 64 : Nat) : Int)).toNat % 2 ^ k := by
    rw [BitVec.toNat_and, BitVec.toNat_ofInt, hm, Nat.and_two_pow_sub_one_eq_mod]
  show IntKind.i64.wrap ((BitVec.ofInt 64 n &&& BitVec.ofInt 64 m).toNat : Nat) = n % 2 ^ k
  rw [key, IntKind.wrap_i64]
  match k, hk with
  | 0, _ | 1, _ | 2, _ | 3, _ | 4, _ | 5, _ | 6, _ | 7, _ => simp only [Nat.reducePow, Int.reducePow]; omega
theorem and_bit (n : Int) (k : Nat) (m : Int) (hm : (BitVec.ofInt 64 m).toNat = 2 ^ k) (hk : k ≤ 7) : bits .and .i64 n m = n / 2 ^ k % 2 * 2 ^ k := by
  have key : (BitVec.ofInt 64 n &&& BitVec.ofInt 64 m).toNat = (n % ((2 ^ 64 : Nat) : Int)).toNat / 2 ^ k % 2 * 2 ^ k := by
    rw [BitVec.toNat_and, BitVec.toNat_ofInt, hm, nat_bit]
  show IntKind.i64.wrap ((BitVec.ofInt 64 n &&& BitVec.ofInt 64 m).toNat : Nat) = n / 2 ^ k % 2 * 2 ^ k
  rw [key, IntKind.wrap_i64]
  match k, hk with
  | 0, _ | 1, _ | 2, _ | 3, _ | 4, _ | 5, _ | 6, _ | 7, _ => simp only [Nat.reducePow, Int.reducePow]; omega

def hasB (s m : Int) : Bool := bits .and .i64 s m == m
theorem has1 (s : Int) : hasB s 1 = decide (s % 2 = 1) := by unfold hasB; rw [and_mask s 1 1 (by decide) (by decide), Bool.eq_iff_iff, beq_iff_eq, decide_eq_true_iff]; omega
theorem has2 (s : Int) : hasB s 2 = decide (s / 2 % 2 = 1) := by unfold hasB; rw [and_bit s 1 2 (by decide) (by decide), Bool.eq_iff_iff, beq_iff_eq, decide_eq_true_iff]; omega
theorem has4 (s : Int) : hasB s 4 = decide (s / 4 % 2 = 1) := by unfold hasB; rw [and_bit s 2 4 (by decide) (by decide), Bool.eq_iff_iff, beq_iff_eq, decide_eq_true_iff]; omega
theorem has3 (s : Int) : hasB s 3 = decide (s % 4 = 3) := by unfold hasB; rw [and_mask s 2 3 (by decide) (by decide), Bool.eq_iff_iff, beq_iff_eq, decide_eq_true_iff]; omega
theorem has7 (s : Int) : hasB s 7 = decide (s % 8 = 7) := by unfold hasB; rw [and_mask s 3 7 (by decide) (by decide), Bool.eq_iff_iff, beq_iff_eq, decide_eq_true_iff]; omega
theorem has8 (s : Int) : hasB s 8 = decide (s / 8 % 2 = 1) := by unfold hasB; rw [and_bit s 3 8 (by decide) (by decide), Bool.eq_iff_iff, beq_iff_eq, decide_eq_true_iff]; omega

theorem all_any (s m : Int) (w : World) : Calls Try.prog 67 #[.int .i64 s, .int .i64 m] w fun e w' => e = .returned (.bool (hasB s m)) ∧ w = w' := by
  go_enter Try.func67, Try.ntmps67
  go_wp2
  go_ret
  exact ⟨rfl, rfl⟩

def stateN (s : Int) : Int := if hasB s 8 = true then 4 else if hasB s 7 = true then 3 else if hasB s 3 = true then 2 else if hasB s 1 = true then 1 else 0

set_option maxHeartbeats 1000000 in
set_option maxRecDepth 100000 in
theorem wstate_any (s : Int) (w : World) : Calls Try.prog 45 #[.int .i64 s] w fun e w' => e = .returned (.int .i64 (stateN s)) ∧ w = w' := by
  unfold stateN
  cases h8 : hasB s 8 <;> cases h7 : hasB s 7 <;> cases h3 : hasB s 3 <;> cases h1 : hasB s 1
  all_goals
    have H8 := Lib.hid h8
    have H7 := Lib.hid h7
    have H3 := Lib.hid h3
    have H1 := Lib.hid h1
    clear h8 h7 h3 h1
    go_enter Try.func45, Try.ntmps45
    go_wp2_with (go_at_call 67; refine (all_any _ _ _).mono ?_; (first | rw [H8.out] | rw [H7.out] | rw [H3.out] | rw [H1.out]); rintro e w' ⟨rfl, rfl⟩)
    go_ret
    exact ⟨rfl, rfl⟩

def statusN (s : Int) : Int := if s = 1 then 1 else if s = 2 then 3 else if s = 3 then 7 else if s = 4 then 8 else 0
set_option maxHeartbeats 1000000 in
set_option maxRecDepth 100000 in
theorem wstatus_any (s : Int) (w : World) : Calls Try.prog 47 #[.int .i64 s] w fun e w' => e = .returned (.int .i64 (statusN s)) ∧ w = w' := by
  unfold statusN
  by_cases h1 : s = 1
  · subst h1
    go_enter Try.func47, Try.ntmps47
    go_wp2
    go_ret
    exact ⟨rfl, rfl⟩
  · by_cases h2 : s = 2
    · subst h2
      go_enter Try.func47, Try.ntmps47
      go_wp2
      go_ret
      exact ⟨rfl, rfl⟩
    · by_cases h3 : s = 3
      · subst h3
        go_enter Try.func47, Try.ntmps47
        go_wp2
        go_ret
        exact ⟨rfl, rfl⟩
      · by_cases h4 : s = 4
        · subst h4
          go_enter Try.func47, Try.ntmps47
          go_wp2
          go_ret
          exact ⟨rfl, rfl⟩
        · rw [if_neg h1, if_neg h2, if_neg h3, if_neg h4]
          have b1 : (s == 1) = false := beq_eq_false_iff_ne.2 h1
          have b2 : (s == 2) = false := beq_eq_false_iff_ne.2 h2
          have b3 : (s == 3) = false := beq_eq_false_iff_ne.2 h3
          have b4 : (s == 4) = false := beq_eq_false_iff_ne.2 h4
          clear h1 h2 h3 h4
          go_enter Try.func47, Try.ntmps47
          go_wp2
          go_ret
          exact ⟨rfl, rfl⟩

def knownB (s : Int) : Bool := decide (0 ≤ s) && decide (s ≤ 4)
def controlN (s : Int) (want clear : Bool) : Int := if s < 0 ∨ 4 < s then 0 else if s = 4 then (if clear = true then 4 else 0) else if want = false then 0 else if 2 ≤ s then 3 else 1
def nextN (s c : Int) : Int := if s < 0 ∨ 4 < s then 0 else if s = 4 then (if hasB c 4 = true then 0 else 4) else if hasB c 1 = false ∨ s = 0 then 1 else if s = 1 ∨ hasB c 2 = false then 2 else 3

/-- the six kinds of a state -/
theorem kinds (s : Int) : s < 0 ∨ 4 < s ∨ s = 0 ∨ s = 1 ∨ s = 2 ∨ s = 3 ∨ s = 4 := by omega

set_option maxHeartbeats 2000000 in
set_option maxRecDepth 100000 in
theorem wcontrol_any (s : Int) (want clear : Bool) (w : World) : Calls Try.prog 36 #[.int .i64 s, .bool want, .bool clear] w fun e w' => e = .returned (.int .i64 (controlN s want clear)) ∧ w = w' := by
  rcases kinds s with h | h | rfl | rfl | rfl | rfl | rfl
  · rw [show controlN s want clear = 0 from if_pos (Or.inl h)]
    go_enter Try.func36, Try.ntmps36
    go_wp2
    go_ret
    exact ⟨rfl, rfl⟩
  · rw [show controlN s want clear = 0 from if_pos (Or.inr h)]
    have hd : decide (s ≤ 4) = false := decide_eq_false (by omega)
    go_enter Try.func36, Try.ntmps36
    go_wp2
    go_ret
    exact ⟨rfl, rfl⟩
  all_goals
    cases want <;> cases clear
    all_goals
      go_enter Try.func36, Try.ntmps36
      go_wp2
      go_ret
      exact ⟨rfl, rfl⟩

set_option maxHeartbeats 4000000 in
set_option maxRecDepth 100000 in
theorem wnext_any (s c : Int) (w : World) : Calls Try.prog 35 #[.int .i64 s, .int .i64 c] w fun e w' => e = .returned (.int .i64 (nextN s c)) ∧ w = w' := by
  unfold nextN
  cases h4 : hasB c 4 <;> cases h2 : hasB c 2 <;> cases h1 : hasB c 1
  all_goals
    have H4 := Lib.hid h4
    have H2 := Lib.hid h2
    have H1 := Lib.hid h1
    clear h4 h2 h1
    rcases kinds s with h | h | rfl | rfl | rfl | rfl | rfl
    · rw [if_pos (Or.inl h)]
      go_enter Try.func35, Try.ntmps35
      go_wp2_with (first | (go_at_call 67; refine (all_any _ _ _).mono ?_; (first | rw [H4.out] | rw [H2.out] | rw [H1.out]); rintro e w' ⟨rfl, rfl⟩) | go_in)
      go_ret
      exact ⟨rfl, rfl⟩
    · rw [if_pos (Or.inr h)]
      have hd : decide (s ≤ 4) = false := decide_eq_false (by omega)
      go_enter Try.func35, Try.ntmps35
      go_wp2_with (first | (go_at_call 67; refine (all_any _ _ _).mono ?_; (first | rw [H4.out] | rw [H2.out] | rw [H1.out]); rintro e w' ⟨rfl, rfl⟩) | go_in)
      go_ret
      exact ⟨rfl, rfl⟩
    all_goals
      go_enter Try.func35, Try.ntmps35
      go_wp2_with (first | (go_at_call 67; refine (all_any _ _ _).mono ?_; (first | rw [H4.out] | rw [H2.out] | rw [H1.out]); rintro e w' ⟨rfl, rfl⟩) | go_in)
      go_ret
      exact ⟨rfl, rfl⟩

set_option maxHeartbeats 1000000 in
set_option maxRecDepth 100000 in
theorem awake06 (w : World) : Calls Try.prog 34 #[] w fun e w' => e = .returned (.bool true) ∧ w = w' := by
  go_enter Try.func34, Try.ntmps34
  go_wp2_with fail
  refine (wstate_any _ _).mono ?_
  rw [show stateN 7 = 3 by decide]
  rintro e w' ⟨rfl, rfl⟩
  go_wp2_with fail
  refine (wnext_any _ _ _).mono ?_
  rw [show nextN 0 1 = 1 by decide]
  rintro e w' ⟨rfl, rfl⟩
  go_wp2_with fail
  refine (wcontrol_any _ _ _ _).mono ?_
  rw [show controlN 2 true false = 3 by decide]
  rintro e w' ⟨rfl, rfl⟩
  go_wp2
  go_ret
  exact ⟨rfl, rfl⟩
end Go.Proofs.Ytnabpdengfmeaaa
