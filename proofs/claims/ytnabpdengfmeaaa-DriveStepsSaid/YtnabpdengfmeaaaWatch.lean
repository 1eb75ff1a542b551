/- Layer 4: contracts of watch.New, Right, newer, Come, Over. -/
import Derived.Test.YtnabpdengfmeaaaFrameAwake
namespace Go.Proofs.Ytnabpdengfmeaaa
open Go.RowKit

/-- A watch: its limit, how many are missed, the last number. -/
structure Wt where
  l : Int
  m : Int
  t : Int
def Wt.val (x : Wt) : Value := .agg #[.int .i64 x.l, .int .i64 x.m, .int .i64 x.t]
theorem wt_val (l m t : Int) : Wt.val ⟨l, m, t⟩ = .agg #[.int .i64 l, .int .i64 m, .int .i64 t] := rfl
def wrightB (x : Wt) : Bool := decide (1 ≤ x.l) && decide (x.l ≤ 100) && decide (0 ≤ x.m) && decide (x.m ≤ x.l) && decide (-1 ≤ x.t) && decide (x.t ≤ 255)
theorem wright_iff (l m t : Int) : wrightB ⟨l, m, t⟩ = true ↔ 1 ≤ l ∧ l ≤ 100 ∧ 0 ≤ m ∧ m ≤ l ∧ -1 ≤ t ∧ t ≤ 255 := by simp [wrightB, and_assoc]
theorem wwrong_iff (l m t : Int) : wrightB ⟨l, m, t⟩ = false ↔ l < 1 ∨ 100 < l ∨ m < 0 ∨ l < m ∨ t < -1 ∨ 255 < t := by
  rw [← Bool.not_eq_true, wright_iff]; omega
def newerB (s t : Int) : Bool := decide (t < 0) || (decide (1 ≤ (s - t) % 256) && decide ((s - t) % 256 ≤ 127))
/-- what a watch makes of what was read -/
structure Took where
  w : Wt
  s : Int
  d : Int
  p : Int
  ok : Bool
def Took.val (x : Took) : Value := .tuple #[x.w.val, .agg #[.int .i64 x.s, .int .i64 x.d, .int .i64 x.p], .bool x.ok]
theorem took_val (l m t s d p : Int) (ok : Bool) : Took.val ⟨⟨l, m, t⟩, s, d, p, ok⟩ = .tuple #[.agg #[.int .i64 l, .int .i64 m, .int .i64 t], .agg #[.int .i64 s, .int .i64 d, .int .i64 p], .bool ok] := rfl
def comeG (x : Wt) (g : Fr.Got) : Took :=
  if wrightB x = true then (if g.err = 0 ∧ newerB g.seq x.t = true then ⟨⟨x.l, 0, g.seq⟩, g.seq, g.word, g.place, true⟩ else ⟨⟨x.l, if x.m < x.l then x.m + 1 else x.l, x.t⟩, 0, 0, 0, false⟩)
  else ⟨⟨0, 0, 0⟩, 0, 0, 0, false⟩
def overB (x : Wt) : Bool := !wrightB x || x.m == x.l

theorem readN_ok {most : Int} (sign : Int) {L : List Int} (hB : Crc.Bytes L) (h : (Fr.readN sign most L).err = 0) :
    0 ≤ (Fr.readN sign most L).seq ∧ (Fr.readN sign most L).seq ≤ 255 ∧ 0 ≤ (Fr.readN sign most L).word ∧ (Fr.readN sign most L).word ≤ most ∧ -9223372036854775808 ≤ (Fr.readN sign most L).place ∧ (Fr.readN sign most L).place ≤ 9223372036854775807 := by
  have b1 := Crc.bytes_at hB 1
  have b2 := Crc.bytes_at hB 2
  unfold Fr.readN at h ⊢
  split at h
  · simp at h
  · split at h
    · simp at h
    · split at h
      · simp at h
      · split at h
        · simp at h
        · rename_i h1 h2 h3 h4
          rw [if_neg h1, if_neg h2, if_neg h3, if_neg h4]
          simp only
          unfold Fr.toSigned
          omega

set_option maxHeartbeats 2000000 in
set_option maxRecDepth 100000 in
theorem wright_any (l m t : Int) (w : World) : Calls Try.prog 55 #[.agg #[.int .i64 l, .int .i64 m, .int .i64 t]] w fun e w' => e = .returned (.bool (wrightB ⟨l, m, t⟩)) ∧ w.alloc (.cells #[.int .i64 l, .int .i64 m, .int .i64 t] 71) = w' := by
  cases hr : wrightB ⟨l, m, t⟩ with
  | true =>
    obtain ⟨h1, h2, h3, h4, h5, h6⟩ := (wright_iff l m t).1 hr
    clear hr
    go_enter Try.func55, Try.ntmps55
    go_wp2
    go_ret
    exact ⟨rfl, rfl⟩
  | false =>
    have h := (wwrong_iff l m t).1 hr
    clear hr
    have k : l < 1 ∨ (1 ≤ l ∧ 100 < l) ∨ (1 ≤ l ∧ l ≤ 100 ∧ m < 0) ∨ (1 ≤ l ∧ l ≤ 100 ∧ 0 ≤ m ∧ l < m) ∨ (1 ≤ l ∧ l ≤ 100 ∧ 0 ≤ m ∧ m ≤ l ∧ t < -1) ∨ (1 ≤ l ∧ l ≤ 100 ∧ 0 ≤ m ∧ m ≤ l ∧ -1 ≤ t ∧ 255 < t) := by omega
    clear h
    rcases k with h | ⟨h1, h⟩ | ⟨h1, h2, h⟩ | ⟨h1, h2, h3, h⟩ | ⟨h1, h2, h3, h4, h⟩ | ⟨h1, h2, h3, h4, h5, h⟩
    all_goals
      go_enter Try.func55, Try.ntmps55
      go_wp2
      go_ret
      first | exact ⟨rfl, rfl⟩ | exact ⟨ret_eq (congrArg Value.bool (decide_eq_false (by omega))), rfl⟩

set_option maxHeartbeats 1000000 in
set_option maxRecDepth 100000 in
theorem newer_any (s t : Int) (w : World) (hs0 : 0 ≤ s) (hs1 : s ≤ 255) (ht0 : -1 ≤ t) (ht1 : t ≤ 255) : Calls Try.prog 71 #[.int .i64 s, .int .i64 t] w fun e w' => e = .returned (.bool (newerB s t)) ∧ w = w' := by
  by_cases h : t < 0
  · rw [show newerB s t = true by simp [newerB, h]]
    go_enter Try.func71, Try.ntmps71
    go_wp2
    go_ret
    exact ⟨rfl, rfl⟩
  · have hd : decide (t < 0) = false := decide_eq_false h
    rw [show newerB s t = (decide (1 ≤ (s - t) % 256) && decide ((s - t) % 256 ≤ 127)) by simp [newerB, hd]]
    have hn : 0 ≤ (s - t) % 256 := by omega
    by_cases h1 : 1 ≤ (s - t) % 256
    · go_enter Try.func71, Try.ntmps71
      go_wp2
      go_ret
      exact ⟨rfl, rfl⟩
    · have h1' : decide (1 ≤ (s - t) % 256) = false := decide_eq_false h1
      go_enter Try.func71, Try.ntmps71
      go_wp2
      go_ret
      exact ⟨rfl, rfl⟩

set_option maxHeartbeats 1000000 in
set_option maxRecDepth 100000 in
theorem wover_any (l m t : Int) (w : World) : Calls Try.prog 57 #[.agg #[.int .i64 l, .int .i64 m, .int .i64 t]] w fun e w' => e = .returned (.bool (overB ⟨l, m, t⟩)) ∧ Below w.heap.size w w' := by
  cases hr : wrightB ⟨l, m, t⟩ with
  | true =>
    rw [show overB ⟨l, m, t⟩ = (m == l) by simp [overB, hr]]
    have HR := Lib.hid hr
    clear hr
    go_enter Try.func57, Try.ntmps57
    go_wp2_with (go_at_call 55; refine (wright_any _ _ _ _).mono ?_; rw [HR.out]; rintro e w' ⟨rfl, rfl⟩)
    go_ret
    exact ⟨rfl, by go_grown⟩
  | false =>
    rw [show overB ⟨l, m, t⟩ = true by simp [overB, hr]]
    have HR := Lib.hid hr
    clear hr
    go_enter Try.func57, Try.ntmps57
    go_wp2_with (go_at_call 55; refine (wright_any _ _ _ _).mono ?_; rw [HR.out]; rintro e w' ⟨rfl, rfl⟩)
    go_ret
    exact ⟨rfl, by go_grown⟩

def wnewW (l : Int) : Wt := if 1 ≤ l ∧ l ≤ 100 then ⟨l, 0, -1⟩ else ⟨0, 0, 0⟩
def wnewE (l : Int) : Int := if 1 ≤ l ∧ l ≤ 100 then 0 else 1
set_option maxHeartbeats 2000000 in
set_option maxRecDepth 100000 in
theorem wnew_any (l : Int) (w : World) : Calls Try.prog 52 #[.int .i64 l] w fun e w' =>
    e = .returned (.tuple #[Wt.val (wnewW l), .int .i64 (wnewE l)]) ∧ Below w.heap.size w w' := by
  by_cases h : 1 ≤ l ∧ l ≤ 100
  · rw [show wnewW l = ⟨l, 0, -1⟩ by simp [wnewW, h], show wnewE l = 0 by simp [wnewE, h], wt_val]
    have HR := Lib.hid ((wright_iff l 0 (-1)).2 ⟨h.1, h.2, by omega, by omega, by omega, by omega⟩)
    clear h
    go_enter Try.func52, Try.ntmps52
    go_wp2_with (go_at_call 55; refine (wright_any _ _ _ _).mono ?_; rw [HR.out]; rintro e w' ⟨rfl, rfl⟩)
    go_returns
    exact ⟨rfl, by go_grown⟩
  · rw [show wnewW l = ⟨0, 0, 0⟩ by simp [wnewW, h], show wnewE l = 1 by simp [wnewE, h], wt_val]
    have HR := Lib.hid ((wwrong_iff l 0 (-1)).2 (by omega))
    clear h
    go_enter Try.func52, Try.ntmps52
    go_wp2_with (go_at_call 55; refine (wright_any _ _ _ _).mono ?_; rw [HR.out]; rintro e w' ⟨rfl, rfl⟩)
    go_returns
    exact ⟨rfl, by go_grown⟩
end Go.Proofs.Ytnabpdengfmeaaa
