/- servitorref02.Same: are two lists of bytes the same? -/
import Derived.Test.YtnabpdengfmeaaaBytes
import Derived.BigQuiet
import Derived.Deep.QuietTactic
namespace Go.Proofs.Ytnabpdengfmeaaa
open Go.RowKit

def sameB (l m : List Int) : Bool := decide (l = m)
theorem snoc_same {la lb : List Int} {len k : Nat} (ha : la.length = len) (hb : lb.length = len) (hk : k < len) (h : la.take k = lb.take k) :
    (la.getD k 0 = lb.getD k 0 → la.take (k + 1) = lb.take (k + 1)) ∧ (la.getD k 0 ≠ lb.getD k 0 → la ≠ lb) := by
  constructor
  · intro e
    rw [List.take_succ_eq_append_getElem (by omega), List.take_succ_eq_append_getElem (by omega), h]
    have h1 : k < la.length := by omega
    have h2 : k < lb.length := by omega
    simp [List.getD, h1, h2] at e
    rw [e]
  · intro e e2; exact e (by rw [e2])

set_option maxHeartbeats 2000000 in
set_option maxRecDepth 100000 in
theorem same_any (a b : Option Addr) (lenA capA lenB capB : Nat) (la lb : List Int) (w : World) (hla : la.length = lenA) (ha : Reads w a la) (hlb : lb.length = lenB) (hb : Reads w b lb) (hsm : lenA ≤ 100000000) :
    Calls Try.prog 41 #[.slice a lenA capA, .slice b lenB capB] w fun e w' => e = .returned (.bool (sameB la lb)) ∧ ∃ n, w' = w.drewN n := by
  have HA := Lib.hid ha; clear ha
  have HB := Lib.hid hb; clear hb
  have HLA := Lib.hid hla; clear hla
  have HLB := Lib.hid hlb; clear hlb
  by_cases hl : lenA = lenB
  · subst hl
    go_enter Try.func41, Try.ntmps41
    go_wp2_with fail
    go_loopw [5] (fun i wr => ∃ k : Nat, k ≤ lenA ∧ i = .int .i64 k ∧ la.take k = lb.take k ∧ ∃ n, wr = w.drewN n) (fun i _ => lenA - (intOf i).toNat)
    case atStart => exact ⟨0, Nat.zero_le _, rfl, rfl, 0, rfl⟩
    case round =>
      obtain ⟨k, hk, rfl, heq, n, hn⟩ := hrel
      have HE := Lib.hid heq
      have HN := Lib.hid hn
      clear heq
      by_cases hlt : k < lenA
      · obtain ⟨ba, oa, rfl, hba, hca⟩ := HA.out.spot k (by rw [HLA.out]; exact hlt)
        obtain ⟨bb, ob, rfl, hbb, hcb⟩ := HB.out.spot k (by rw [HLB.out]; exact hlt)
        have ca : wr.cell? ⟨ba, oa + k, none⟩ = some (.int .u8 (la.getD k 0)) := by rw [hn]; exact hca
        have cb : wr.cell? ⟨bb, ob + k, none⟩ = some (.int .u8 (lb.getD k 0)) := by rw [hn]; exact hcb
        have HP := Lib.hid (snoc_same (k := k) HLA.out HLB.out hlt HE.out)
        clear hca hcb hn
        generalize la.getD k 0 = x at *
        generalize lb.getD k 0 = y at *
        by_cases hxy : x = y
        · subst hxy
          go_wp2_with fail
          go_quiet (fail)
          go_wp2
          go_roundw
          case rel => exact ⟨k + 1, by omega, by go_num, HP.out.1 trivial, n + nq, by rw [HN.out, World.drewN_drewN]⟩
          case measure => simp [intOf]; omega
        · have h1 : (x == y) = false := beq_eq_false_iff_ne.2 hxy
          have h2 : (x != y) = true := by rw [bne_iff_ne]; exact hxy
          have e : sameB la lb = false := decide_eq_false (HP.out.2 hxy)
          have EE := Lib.hid e
          clear e hxy
          go_wp2_with fail
          go_quiet (fail)
          go_wp2
          go_ret
          exact ⟨by rw [EE.out]; rfl, n + nq, by rw [HN.out, World.drewN_drewN]⟩
      · obtain rfl : k = lenA := by omega
        have e : sameB la lb = true := decide_eq_true (by
          have := HE.out
          rwa [List.take_of_length_le (by rw [HLA.out]; omega), List.take_of_length_le (by rw [HLB.out]; omega)] at this)
        have EE := Lib.hid e
        clear e hn
        go_wp2
        go_ret
        exact ⟨by rw [EE.out]; rfl, n, HN.out⟩
  · have e : sameB la lb = false := decide_eq_false fun h => hl (by rw [← HLA.out, ← HLB.out, h])
    rw [e]
    have hd : ((lenA : Int) == (lenB : Int)) = false := by rw [beq_eq_false_iff_ne]; omega
    have hd2 : ((lenA : Int) != (lenB : Int)) = true := by rw [bne_iff_ne]; omega
    clear e hl
    go_enter Try.func41, Try.ntmps41
    go_wp2
    go_ret
    exact ⟨rfl, 0, rfl⟩
end Go.Proofs.Ytnabpdengfmeaaa
