/- The law WordBack of layer 6, walked. -/
import Derived.Test.YtnabpdengfmeaaaWordRef
namespace Go.Proofs.Ytnabpdengfmeaaa
open Go.RowKit

theorem wrap_mod16 (n : Int) : IntKind.i64.wrap n % 16 = n % 16 := by rw [IntKind.wrap_i64]; omega
theorem or_clear (s m : Int) (h0 : 0 ≤ s) (h1 : s ≤ 15) : (bits .or .i64 s (bits .andNot .i64 m 15)) % 16 = s := by
  have hX : ∀ t : Int, t % 16 = 0 → bits .or .i64 s t % 16 = s := by
    intro t ht
    show IntKind.i64.wrap ((BitVec.ofInt 64 s ||| BitVec.ofInt 64 t).toNat : Nat) % 16 = s
    rw [wrap_mod16, BitVec.toNat_or, BitVec.toNat_ofInt, BitVec.toNat_ofInt]
    have e1 : ((s % ((2 ^ 64 : Nat) : Int)).toNat ||| (t % ((2 ^ 64 : Nat) : Int)).toNat) % 16 = (s % ((2 ^ 64 : Nat) : Int)).toNat % 16 ||| (t % ((2 ^ 64 : Nat) : Int)).toNat % 16 := Nat.or_mod_two_pow (n := 4)
    have e2 : (t % ((2 ^ 64 : Nat) : Int)).toNat % 16 = 0 := by simp only [Nat.reducePow]; omega
    have e3 : (s % ((2 ^ 64 : Nat) : Int)).toNat % 16 = s.toNat := by simp only [Nat.reducePow]; omega
    rw [e2, e3, Nat.or_zero] at e1
    omega
  refine hX _ ?_
  show IntKind.i64.wrap ((BitVec.ofInt 64 m &&& ~~~BitVec.ofInt 64 15).toNat : Nat) % 16 = 0
  rw [wrap_mod16, BitVec.toNat_and]
  have e1 : ((BitVec.ofInt 64 m).toNat &&& (~~~BitVec.ofInt 64 15).toNat) % 16 = (BitVec.ofInt 64 m).toNat % 16 &&& (~~~BitVec.ofInt 64 15).toNat % 16 := Nat.and_mod_two_pow (n := 4)
  have e2 : (~~~BitVec.ofInt 64 15).toNat % 16 = 0 := by decide
  rw [e2, Nat.and_zero] at e1
  omega

set_option maxHeartbeats 1000000 in
set_option maxRecDepth 100000 in
theorem wordBack (s m : Int) (w : World) :
    Calls Try.prog 16 #[.int .i64 s, .int .i64 m] w fun e w' => e = .returned (.bool true) ∧ Below w.heap.size w w' := by
  rcases kinds s with h | h | hs
  · have e := Lib.hid (show statusN s = 0 by unfold statusN; rw [if_neg (by omega), if_neg (by omega), if_neg (by omega), if_neg (by omega)])
    go_enter Try.func16, Try.ntmps16
    go_wp2_with fail
    refine (awake06 _).mono ?_
    rintro e w' ⟨rfl, rfl⟩
    go_wp2_with fail
    refine (wstatus_any _ _).mono ?_
    rw [e.out]
    rintro e w' ⟨rfl, rfl⟩
    go_wp2
    go_ret
    exact ⟨rfl, Below.refl _ _⟩
  · have e := Lib.hid (show statusN s = 0 by unfold statusN; rw [if_neg (by omega), if_neg (by omega), if_neg (by omega), if_neg (by omega)])
    have h0 : decide (s < 0) = false := decide_eq_false (by omega)
    have hd : decide (4 < s) = true := decide_eq_true h
    go_enter Try.func16, Try.ntmps16
    go_wp2_with fail
    refine (awake06 _).mono ?_
    rintro e w' ⟨rfl, rfl⟩
    go_wp2_with fail
    refine (wstatus_any _ _).mono ?_
    rw [e.out]
    rintro e w' ⟨rfl, rfl⟩
    go_wp2
    go_ret
    exact ⟨rfl, Below.refl _ _⟩
  · have h0 : decide (s < 0) = false := decide_eq_false (by omega)
    have hd : decide (4 < s) = false := decide_eq_false (by omega)
    have hq : 0 ≤ statusN s ∧ statusN s ≤ 15 ∧ stateN (statusN s) = s := by
      rcases hs with rfl | rfl | rfl | rfl | rfl <;> decide
    obtain ⟨q0, q1, q2⟩ := hq
    have q3 : stateN (bits .or .i64 (statusN s) (bits .andNot .i64 m 15)) = s := by rw [stateN_mod, or_clear _ _ q0 q1, q2]
    have Q2 := Lib.hid q2
    have Q3 := Lib.hid q3
    clear q2 q3 hs
    go_enter Try.func16, Try.ntmps16
    go_wp2_with fail
    refine (awake06 _).mono ?_
    rintro e w' ⟨rfl, rfl⟩
    go_wp2_with fail
    refine (wstatus_any _ _).mono ?_
    rintro e w' ⟨rfl, rfl⟩
    generalize statusN s = y at *
    go_wp2_with fail
    refine (wstate_any _ _).mono ?_
    rw [Q2.out]
    rintro e w' ⟨rfl, rfl⟩
    go_wp2_with fail
    refine (wstate_any _ _).mono ?_
    rw [Q3.out]
    rintro e w' ⟨rfl, rfl⟩
    have d1 : decide (0 ≤ y) = true := decide_eq_true q0
    have d2 : decide (y ≤ 15) = true := decide_eq_true q1
    go_wp2
    go_ret
    exact ⟨rfl, Below.refl _ _⟩
end Go.Proofs.Ytnabpdengfmeaaa
