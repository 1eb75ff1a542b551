/- The law WordUp of layer 6, walked. -/
import Derived.Test.YtnabpdengfmeaaaWord
namespace Go.Proofs.Ytnabpdengfmeaaa
open Go.RowKit

/-- a cycle of a drive that does as it is told -/
def cyc (want clear : Bool) (s : Int) : Int := nextN s (controlN s want clear)
theorem cyc_up (s : Int) (h0 : 0 ≤ s) (h1 : s ≤ 4) : cyc true true s = if s = 0 then 1 else if s = 1 then 2 else if s = 4 then 0 else 3 := by
  rcases (show s = 0 ∨ s = 1 ∨ s = 2 ∨ s = 3 ∨ s = 4 by omega) with rfl | rfl | rfl | rfl | rfl <;> decide
theorem cyc_down (s : Int) (clear : Bool) (h0 : 0 ≤ s) (h1 : s ≤ 4) : cyc false clear s = if s = 4 then (if clear = true then 0 else 4) else 1 := by
  rcases (show s = 0 ∨ s = 1 ∨ s = 2 ∨ s = 3 ∨ s = 4 by omega) with rfl | rfl | rfl | rfl | rfl <;> cases clear <;> decide

/-- what holds of the two drives ahead of round k -/
def Ups (s : Int) (k : Nat) (u : Int) : Prop := 0 ≤ u ∧ u ≤ 4 ∧ (k = 0 → u = s) ∧ (1 ≤ k → u ≠ 4) ∧ (k = 1 → u = 0 ∨ 1 ≤ u) ∧ (2 ≤ k → 1 ≤ u) ∧ (3 ≤ k → 2 ≤ u) ∧ (4 ≤ k → u = 3)
theorem ups_step {s : Int} {k : Nat} {u : Int} (h : Ups s k u) : Ups s (k + 1) (cyc true true u) := by
  obtain ⟨h0, h1, h2, h3, h4, h5, h6, h7⟩ := h
  rw [cyc_up u h0 h1]
  unfold Ups
  by_cases a : u = 0
  · rw [if_pos a]; omega
  · rw [if_neg a]
    by_cases b : u = 1
    · rw [if_pos b]; omega
    · rw [if_neg b]
      by_cases c : u = 4
      · rw [if_pos c]; omega
      · rw [if_neg c]; omega
def downV (s : Int) (clear : Bool) : Nat → Int
  | 0 => s
  | 1 => cyc false clear s
  | _ + 2 => cyc false clear (cyc false clear s)
theorem down_succ (s : Int) (clear : Bool) (h0 : 0 ≤ s) (h1 : s ≤ 4) (k : Nat) : cyc false clear (downV s clear k) = downV s clear (k + 1) := by
  match k with
  | 0 => rfl
  | 1 => rfl
  | k + 2 =>
    show cyc false clear (cyc false clear (cyc false clear s)) = cyc false clear (cyc false clear s)
    rcases (show s = 0 ∨ s = 1 ∨ s = 2 ∨ s = 3 ∨ s = 4 by omega) with rfl | rfl | rfl | rfl | rfl <;> cases clear <;> decide
/-- what the law asks of the second drive behind round k -/
theorem down_says (s : Int) (clear : Bool) (h0 : 0 ≤ s) (h1 : s ≤ 4) (k : Nat) :
    (s = 4 → clear = false → downV s clear (k + 1) = 4) ∧ (s = 4 → clear = true → (k = 0 ∧ downV s clear (k + 1) = 0) ∨ downV s clear (k + 1) = 1) ∧ (s ≠ 4 → downV s clear (k + 1) = 1) := by
  have hs : s = 0 ∨ s = 1 ∨ s = 2 ∨ s = 3 ∨ s = 4 := by omega
  match k with
  | 0 => rcases hs with rfl | rfl | rfl | rfl | rfl <;> cases clear <;> decide
  | k + 1 =>
    show (s = 4 → clear = false → cyc false clear (cyc false clear s) = 4) ∧ (s = 4 → clear = true → (k + 1 = 0 ∧ cyc false clear (cyc false clear s) = 0) ∨ cyc false clear (cyc false clear s) = 1) ∧ (s ≠ 4 → cyc false clear (cyc false clear s) = 1)
    have h : (s = 4 → clear = false → cyc false clear (cyc false clear s) = 4) ∧ (s = 4 → clear = true → cyc false clear (cyc false clear s) = 1) ∧ (s ≠ 4 → cyc false clear (cyc false clear s) = 1) := by
      rcases hs with rfl | rfl | rfl | rfl | rfl <;> cases clear <;> decide
    exact ⟨h.1, fun a b => .inr (h.2.1 a b), h.2.2⟩

set_option maxHeartbeats 4000000 in
set_option maxRecDepth 100000 in
theorem wordUp (s : Int) (clear : Bool) (m : Int) (w : World) (hm0 : 0 ≤ m) (hm1 : m ≤ 255) :
    Calls Try.prog 10 #[.int .i64 s, .bool clear, .int .u8 m] w fun e w' => e = .returned (.bool true) ∧ Below w.heap.size w w' := by
  by_cases h : s < 0
  · go_enter Try.func10, Try.ntmps10
    go_wp2_with fail
    refine (awake06 _).mono ?_
    rintro e w' ⟨rfl, rfl⟩
    go_wp2
    go_ret
    exact ⟨rfl, Below.refl _ _⟩
  · have h0 : decide (s < 0) = false := decide_eq_false h
    by_cases h4 : 4 < s
    · have hd : decide (4 < s) = true := decide_eq_true h4
      go_enter Try.func10, Try.ntmps10
      go_wp2_with fail
      refine (awake06 _).mono ?_
      rintro e w' ⟨rfl, rfl⟩
      go_wp2
      go_ret
      exact ⟨rfl, Below.refl _ _⟩
    · have hd : decide (4 < s) = false := decide_eq_false h4
      have s0 : 0 ≤ s := by omega
      have s4 : s ≤ 4 := by omega
      clear h h4
      obtain ⟨n, hn⟩ : ∃ n : Nat, (n : Int) = m % 60 := ⟨(m % 60).toNat, by omega⟩
      have HN := Lib.hid hn
      have hn9 : n < 60 := by omega
      clear hn
      go_enter Try.func10, Try.ntmps10
      go_wp2_with fail
      refine (awake06 _).mono ?_
      rintro e w' ⟨rfl, rfl⟩
      go_wp2_with fail
      go_loop [7, 8, 9] (fun u d i => ∃ (k : Nat) (uu : Int), k ≤ n ∧ i = .int .i64 k ∧ u = .int .i64 uu ∧ Ups s k uu ∧ d = .int .i64 (downV s clear k)) (fun _ _ i => n - (intOf i).toNat)
      case atStart => exact ⟨0, s, by omega, rfl, rfl, by unfold Ups; omega, rfl⟩
      case round =>
        obtain ⟨k, u, hk, rfl, rfl, hU, rfl⟩ := hrel
        by_cases hlt : k < n
        · have hlm : (k : Int) < m % 60 := by have := HN.out; omega
          have HU := Lib.hid (ups_step hU)
          have hU2 := ups_step hU
          have ED := Lib.hid (down_succ s clear s0 s4 k)
          have hD := down_says s clear s0 s4 k
          have hD2 := Lib.hid hD
          clear hU hD
          unfold Ups at hU2
          have hU3 := Lib.hid hU2
          clear hU2
          go_wp2_with fail
          refine (wcontrol_any _ _ _ _).mono ?_
          rintro e w' ⟨rfl, rfl⟩
          go_wp2_with fail
          refine (wnext_any _ _ _).mono ?_
          rw [show nextN u (controlN u true true) = cyc true true u from rfl]
          rintro e w' ⟨rfl, rfl⟩
          go_wp2_with fail
          refine (wcontrol_any _ _ _ _).mono ?_
          rintro e w' ⟨rfl, rfl⟩
          go_wp2_with fail
          refine (wnext_any _ _ _).mono ?_
          rw [show nextN (downV s clear k) (controlN (downV s clear k) false clear) = cyc false clear (downV s clear k) from rfl, ED.out]
          rintro e w' ⟨rfl, rfl⟩
          generalize cyc true true u = u' at *
          have HK : (decide (3 ≤ (k : Int)) = false) ∨ (decide (3 ≤ (k : Int)) = true ∧ u' = 3) := by
            by_cases h3 : 3 ≤ k
            · exact .inr ⟨decide_eq_true (by omega), by have := hU3.out; omega⟩
            · exact .inl (decide_eq_false (by omega))
          have HD4 : (s = 4 ∧ clear = false ∧ downV s clear (k + 1) = 4) ∨ (s = 4 ∧ clear = true ∧ k = 0 ∧ downV s clear (k + 1) = 0) ∨ (s = 4 ∧ clear = true ∧ downV s clear (k + 1) = 1) ∨ ((s == 4) = false ∧ downV s clear (k + 1) = 1) := by
            have h := hD2.out
            by_cases hs4 : s = 4
            · cases hc : clear
              · exact .inl ⟨hs4, rfl, by rw [← hc]; exact h.1 hs4 hc⟩
              · rcases h.2.1 hs4 hc with ⟨a, b⟩ | b
                · exact .inr (.inl ⟨hs4, rfl, a, by rw [← hc]; exact b⟩)
                · exact .inr (.inr (.inl ⟨hs4, rfl, by rw [← hc]; exact b⟩))
            · exact .inr (.inr (.inr ⟨beq_eq_false_iff_ne.2 hs4, h.2.2 hs4⟩))
          have nu : (u' == 4) = false := beq_eq_false_iff_ne.2 (by have := hU3.out; omega)
          rcases HK with hk3 | ⟨hk3, rfl⟩ <;> rcases HD4 with ⟨rfl, rfl, e⟩ | ⟨rfl, rfl, rfl, e⟩ | ⟨rfl, rfl, e⟩ | ⟨hs4, e⟩
          all_goals
            have HD := Lib.hid e
            rw [e]
            clear e ED hD2 hU3
            go_wp2
            go_round
            case rel => exact ⟨_, _, by omega, by go_num, rfl, HU.out, by rw [HD.out]⟩
            case measure => simp [intOf]; omega
        · obtain rfl : k = n := by omega
          have hlm : ¬ (k : Int) < m % 60 := by have := HN.out; omega
          clear hU
          go_wp2
          go_ret
          exact ⟨rfl, Below.refl _ _⟩
end Go.Proofs.Ytnabpdengfmeaaa
