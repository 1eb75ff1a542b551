/- What the document's answer for layer 2 computes (servitorref02.Go, Of): the same register. -/
import Derived.Test.YtnabpdengfmeaaaSum
import Derived.BigQuiet
import Derived.Deep.QuietTactic
namespace Go.Proofs.Ytnabpdengfmeaaa
open Go.RowKit

/-- Block B is an array of 16 truths. -/
def Arr (w : World) (B : Nat) (R : Nat → Bool) : Prop := ∀ i, i < 16 → w.cell? ⟨B, i, none⟩ = some (.bool (R i)) ∧ w.frozen? ⟨B, i, none⟩ = false

theorem Arr.cell {w : World} {B : Nat} {R : Nat → Bool} (h : Arr w B R) (i : Nat) (hi : i < 16) : w.cell? ⟨B, i, none⟩ = some (.bool (R i)) := (h i hi).1
theorem Arr.free {w : World} {B : Nat} {R : Nat → Bool} (h : Arr w B R) (i : Nat) (hi : i < 16) : w.frozen? ⟨B, i, none⟩ = false := (h i hi).2
theorem Arr.set {w : World} {B : Nat} {R : Nat → Bool} (h : Arr w B R) (j : Nat) (v : Bool) (hj : j < 16) : Arr (w.setCell ⟨B, j, none⟩ (.bool v)) B (fun i => if i = j then v else R i) := by
  intro i hi
  refine ⟨?_, by rw [World.frozen?_setCell]; exact (h i hi).2⟩
  by_cases e : i = j
  · subst e
    rw [World.cell?_setCell_same _ _ _ (h i hi).1]; simp
  · have hne : (⟨B, j, none⟩ : Addr) ≠ ⟨B, i, none⟩ := fun q => e (by simpa using (congrArg Addr.off q).symm)
    rw [World.cell?_setCell_other _ _ _ _ hne, (h i hi).1]; simp [e]
theorem Arr.ext {w : World} {B : Nat} {R S : Nat → Bool} (h : Arr w B R) (e : ∀ i, i < 16 → R i = S i) : Arr w B S := fun i hi => by rw [← e i hi]; exact h i hi
theorem Arr.drewN {w : World} {B : Nat} {R : Nat → Bool} (h : Arr w B R) (n : Nat) : Arr (w.drewN n) B R := h

theorem arr_new (w : World) (B : Nat) (hB : B = w.heap.size) (T : TypeId) : Arr (w.alloc (.cells #[.bool false, .bool false, .bool false, .bool false, .bool false, .bool false, .bool false, .bool false, .bool false, .bool false, .bool false, .bool false, .bool false, .bool false, .bool false, .bool false] T)) B (fun _ => false) := by
  subst hB
  intro i hi
  refine ⟨?_, by simp⟩
  rw [World.cell?_alloc_new]
  match i, hi with
  | 0, _ | 1, _ | 2, _ | 3, _ | 4, _ | 5, _ | 6, _ | 7, _ | 8, _ | 9, _ | 10, _ | 11, _ | 12, _ | 13, _ | 14, _ | 15, _ => rfl
  | n + 16, h => omega

theorem bit_eq (s k : Nat) : (((s : Int) / 2 ^ (15 - k)).tmod 2 == 1) = Crc.reg s k := by
  have e : ((s : Int) / 2 ^ (15 - k)).tmod 2 = ((s / 2 ^ (15 - k) % 2 : Nat) : Int) := by
    rw [Int.tmod_eq_emod_of_nonneg (Int.ediv_nonneg (by omega) (Int.pow_nonneg (by omega)))]
    simp
  rw [e, Crc.reg, Nat.testBit_eq_decide_div_mod_eq, Bool.eq_iff_iff, beq_iff_eq, decide_eq_true_iff]
  omega
theorem byte_bit {x : Int} (h : 0 ≤ x) (k : Nat) : ((x / 2 ^ k).tmod 2 == 1) = decide (x.toNat / 2 ^ k % 2 = 1) := by
  obtain ⟨n, rfl⟩ := Int.eq_ofNat_of_zero_le h
  have e : ((n : Int) / 2 ^ k).tmod 2 = ((n / 2 ^ k % 2 : Nat) : Int) := by
    rw [Int.tmod_eq_emod_of_nonneg (Int.ediv_nonneg (by omega) (Int.pow_nonneg (by omega)))]
    simp
  rw [e, Int.toNat_natCast, Bool.eq_iff_iff, beq_iff_eq, decide_eq_true_iff]
  omega

theorem unlike {a b u : Bool} (h : (!a == b) = u) : (a != b) = u := h
def shifted (R : Nat → Bool) (n i : Nat) : Bool := if i < n then R (i + 1) else R i
theorem cell_lt {w : World} {p : Addr} {v : Value} (h : w.cell? p = some v) : p.block < w.heap.size := by
  rcases Nat.lt_or_ge p.block w.heap.size with h' | h'
  · exact h'
  · unfold World.cell? at h
    rw [Array.getElem?_eq_none h'] at h
    simp at h
theorem Reads.spot {w : World} {a : Option Addr} {l : List Int} (h : Reads w a l) (k : Nat) (hk : k < l.length) :
    ∃ b off, a = some ⟨b, off, none⟩ ∧ b < w.heap.size ∧ w.cell? ⟨b, off + k, none⟩ = some (.int .u8 (l.getD k 0)) := by
  rcases h.2.2 with rfl | ⟨b, off, rfl, hc⟩
  · simp at hk
  · exact ⟨b, off, rfl, cell_lt (hc k hk), hc k hk⟩
def firstBits (s k i : Nat) : Bool := if i < k then Crc.reg s i else false

set_option maxHeartbeats 1000000 in
theorem rgo_row (s : Nat) (a : Option Addr) (len cap : Nat) (l : List Int) (w : World) (hs : s < 65536) (hl : l.length = len) (h : Reads w a l) :
    Calls Try.prog 28 #[.int .i64 s, .slice a len cap] w fun e w' => e = .returned (.int .i64 (Crc.go s l)) ∧ Below w.heap.size w w' := by
  have hlen := h.1
  have hlm : len ≤ 9223372036854775807 := by omega
  have HR := Lib.hid h; clear h
  have HL := Lib.hid hl; clear hl
  go_enter Try.func28, Try.ntmps28
  go_wp2
  go_loopw [6] (fun i wr => ∃ k : Nat, k ≤ 16 ∧ i = .int .i64 k ∧ Arr wr w.heap.size (firstBits s k) ∧ Below w.heap.size w wr) (fun i _ => 16 - (intOf i).toNat)
  case atStart => exact ⟨0, Nat.zero_le _, rfl, (arr_new _ _ rfl _).ext (fun i _ => by simp [firstBits]), (Below.refl _ _).alloc (Nat.le_refl _) _⟩
  case round =>
    obtain ⟨k, hk, rfl, hA, hb⟩ := hrel
    by_cases hlt : k < 16
    · have hc := hA.cell k hlt
      have hf := hA.free k hlt
      have HA := Lib.hid hA; clear hA
      have HB := Lib.hid hb; clear hb
      go_wp2
      go_roundw
      case rel =>
        refine ⟨k + 1, by omega, by go_num, ?_, HB.out.setCell (by simp) _⟩
        refine (HA.out.set k _ hlt).ext fun i hi => ?_
        simp only [firstBits]
        by_cases e : i = k
        · subst e; simp [bit_eq]
        · rw [if_neg e]; simp only [show (i < k + 1) = (i < k) from by simp; omega]
      case measure => simp [intOf]; omega
    · obtain rfl : k = 16 := by omega
      have HA := Lib.hid (hA.ext (S := Crc.reg s) fun i hi => by simp [firstBits, hi]); clear hA
      have HB := Lib.hid hb; clear hb
      go_wp2
      obtain ⟨wo, rfl⟩ : ∃ wo : World, wo = wr := ⟨_, rfl⟩
      go_loopw [7] (fun i wr => ∃ k : Nat, k ≤ len ∧ i = .int .i64 k ∧ Arr wr w.heap.size (Crc.reg (Crc.go s (l.take k))) ∧ Below w.heap.size w wr) (fun i _ => len - (intOf i).toNat)
      case atStart => exact ⟨0, Nat.zero_le _, rfl, HA.out, HB.out⟩
      case round =>
        clear HA HB
        obtain ⟨k, hk, rfl, hA, hb⟩ := hrel
        by_cases hlt : k < len
        · have hcell : ∃ b off, a = some ⟨b, off, none⟩ ∧ b < w.heap.size ∧ w.cell? ⟨b, off + k, none⟩ = some (.int .u8 (l.getD k 0)) := HR.out.spot k (by have := HL.out; omega)
          obtain ⟨b, off, rfl, hbs, hc0⟩ := hcell
          have hx := Crc.bytes_at HR.out.2.1 k
          have hg := Crc.take_lt hs HR.out.2.1 k
          generalize hex : l.getD k 0 = x at *
          generalize hey : Crc.go s (l.take k) = y at *
          obtain ⟨hx0, hx1⟩ := hx
          have Hx := Lib.hid hex; clear hex
          have Hy := Lib.hid hey; clear hey
          have HC := Lib.hid hc0; clear hc0
          have HA := Lib.hid hA; clear hA
          have HB := Lib.hid hb; clear hb
          go_wp2
          obtain ⟨wp, rfl⟩ : ∃ wp : World, wp = wr := ⟨_, rfl⟩
          go_loopw [8] (fun i wr => ∃ j t : Nat, j ≤ 8 ∧ i = .int .i64 ((j : Int) - 1) ∧ t < 65536 ∧ Crc.puts x.toNat j t = Crc.byte y x.toNat ∧ Arr wr w.heap.size (Crc.reg t) ∧ Below w.heap.size w wr) (fun i _ => (intOf i + 1).toNat)
          case atStart => exact ⟨8, y, Nat.le_refl _, rfl, hg, (Crc.byte_puts _ _ (by omega)).symm, HA.out, HB.out⟩
          case round =>
            clear HA HB
            obtain ⟨j, t, hj, rfl, ht, hp, hA, hb⟩ := hrel
            have HP := Lib.hid hp; clear hp
            by_cases hj0 : 0 < j
            · obtain ⟨j, rfl⟩ : ∃ j', j = j' + 1 := ⟨j - 1, by omega⟩
              have hc := hA.cell 0 (by omega)
              rw [show ((j + 1 : Nat) : Int) - 1 = (j : Int) from by omega]
              have hcx : wr.cell? ⟨b, off + k, none⟩ = some (.int .u8 x) := (hb.cell hbs).trans HC.out
              have HA := Lib.hid hA; clear hA
              have HB := Lib.hid hb; clear hb
              go_wp2
              go_quiet (fail)
              go_wp2
              generalize heu : (!Crc.reg t 0 == ((x / 2 ^ j).tmod 2 == 1)) = u
              have HU := Lib.hid heu; clear heu
              obtain ⟨wq, hwq⟩ : ∃ wq : World, wq = wr.drewN nq := ⟨_, rfl⟩
              have HA2 : Hid (Arr wq w.heap.size (Crc.reg t)) := by rw [hwq]; exact HA.out
              have HB2 : Hid (Below w.heap.size w wq) := by rw [hwq]; exact below_drewN HB.out nq
              rw [← hwq]
              clear HA HB hwq
              go_loopw [10] (fun i wr => ∃ m : Nat, m ≤ 15 ∧ i = .int .i64 m ∧ Arr wr w.heap.size (shifted (Crc.reg t) m) ∧ Below w.heap.size w wr) (fun i _ => 15 - (intOf i).toNat)
              case atStart => exact ⟨0, Nat.zero_le _, rfl, HA2.out.ext (fun i _ => by simp [shifted]), HB2.out⟩
              case round =>
                clear HA2 HB2
                obtain ⟨m, hm, rfl, hA, hb⟩ := hrel
                by_cases hm5 : m < 15
                · have hc := hA.cell (m + 1) (by omega)
                  have hc' := hA.cell m (by omega)
                  have hf := hA.free m (by omega)
                  have HA := Lib.hid hA; clear hA
                  have HB := Lib.hid hb; clear hb
                  go_wp2
                  go_roundw
                  case rel =>
                    refine ⟨m + 1, by omega, by go_num, ?_, HB.out.setCell (by simp) _⟩
                    refine (HA.out.set m _ (by omega)).ext fun i hi => ?_
                    simp only [shifted]
                    by_cases e : i = m
                    · subst e; simp [show ¬ i + 1 < i from by omega]
                    · simp only [if_neg e, show (i < m + 1) = (i < m) from by simp; omega]
                  case measure => simp [intOf]; omega
                · obtain rfl : m = 15 := by omega
                  have hA2 := hA.set 15 false (by omega)
                  have hA3 := hA2.ext (S := Crc.up (Crc.reg t)) fun i hi => by
                    simp only [shifted, Crc.up]
                    by_cases e : i = 15
                    · simp [e]
                    · simp [e, show i < 15 from by omega]
                  have c15 := hA.cell 15 (by omega)
                  have f15 := hA.free 15 (by omega)
                  have d3 := hA3.cell 3 (by omega)
                  have d10 := hA3.cell 10 (by omega)
                  have d15 := hA3.cell 15 (by omega)
                  have g3 := hA3.free 3 (by omega)
                  have g10 := hA3.free 10 (by omega)
                  have g15 := hA3.free 15 (by omega)
                  have HA := Lib.hid hA3; clear hA hA2 hA3
                  have HB := Lib.hid hb; clear hb
                  cases u with
                  | false =>
                    go_wp2
                    go_roundw
                    case rel =>
                      refine ⟨j, Crc.put t (decide (x.toNat / 2 ^ j % 2 = 1)), by omega, rfl, Crc.put_lt _ _, HP.out, HA.out.ext fun i hi => ?_, HB.out.setCell (by simp) _⟩
                      rw [Crc.reg_put _ _ _ hi, ← byte_bit hx0, unlike HU.out]; rfl
                    case measure => simp [intOf]
                  | true =>
                    go_wp2
                    go_roundw
                    case rel =>
                      refine ⟨j, Crc.put t (decide (x.toNat / 2 ^ j % 2 = 1)), by omega, rfl, Crc.put_lt _ _, ?_, ?_, ?_⟩
                      · exact HP.out
                      · refine (((HA.out.set 3 _ (by omega)).set 10 _ (by omega)).set 15 _ (by omega)).ext fun i hi => ?_
                        rw [Crc.reg_put _ _ _ hi, ← byte_bit hx0, unlike HU.out]
                        simp only [Crc.flip3, if_true]
                        by_cases e3 : i = 3
                        · subst e3; simp
                        · by_cases e10 : i = 10
                          · subst e10; simp
                          · by_cases e15 : i = 15
                            · subst e15; simp
                            · simp [e3, e10, e15]
                      · exact (((HB.out.setCell (by simp) _).setCell (by simp) _).setCell (by simp) _).setCell (by simp) _
                    case measure => simp [intOf]
            · obtain rfl : j = 0 := by omega
              have HA := Lib.hid hA; clear hA
              have HB := Lib.hid hb; clear hb
              go_wp2
              go_roundw
              case rel =>
                refine ⟨k + 1, by omega, by go_num, ?_, HB.out⟩
                have e : Crc.go s (l.take (k + 1)) = t := by
                  rw [Crc.go_snoc _ _ _ (by have := HL.out; omega), Hx.out, Hy.out]; exact HP.out.symm
                rw [e]; exact HA.out
              case measure => simp [intOf]; omega
        · obtain rfl : k = len := by omega
          have e : l.take k = l := List.take_of_length_le (by have := HL.out; omega)
          rw [e] at hA
          have hg := Crc.go_lt _ _ hs HR.out.2.1
          clear e
          generalize heq : Crc.go s l = S at *
          have HS := Lib.hid heq; clear heq
          have HA := Lib.hid hA; clear hA
          have HB := Lib.hid hb; clear hb
          go_wp2
          go_loop [11, 12] (fun n i => ∃ m : Nat, m ≤ 16 ∧ i = .int .i64 m ∧ n = .int .i64 (S / 2 ^ (16 - m) : Nat)) (fun _ i => 16 - (intOf i).toNat)
          case atStart => exact ⟨0, by omega, rfl, by rw [Nat.div_eq_of_lt hg]; rfl⟩
          case round =>
            obtain ⟨m, hm, rfl, rfl⟩ := hrel
            by_cases hm6 : m < 16
            · have hc := HA.out.cell m hm6
              have hn := Crc.num_succ S m hm6
              have hq : S / 2 ^ (16 - m) < 65536 := Nat.lt_of_le_of_lt (Nat.div_le_self _ _) hg
              generalize heq : S / 2 ^ (16 - m) = q at *
              generalize heu : Crc.reg S m = u at *
              have HN := Lib.hid hn; clear hn heq heu
              cases u with
              | false =>
                go_wp2
                go_round
                case rel => exact ⟨m + 1, by omega, by go_num, by rw [HN.out]; simp⟩
                case measure => simp [intOf]; omega
              | true =>
                go_wp2
                go_round
                case rel => exact ⟨m + 1, by omega, by go_num, by rw [HN.out]; simp⟩
                case measure => simp [intOf]; omega
            · obtain rfl : m = 16 := by omega
              go_wp2
              go_ret
              exact ⟨by rw [HS.out]; simp, HB.out⟩

theorem rof_any (a : Option Addr) (len cap : Nat) (l : List Int) (w : World) (hl : l.length = len) (h : Reads w a l) :
    Calls Try.prog 26 #[.slice a len cap] w fun e w' => e = .returned (.int .i64 (Crc.go 65535 l)) ∧ Below w.heap.size w w' := by
  go_enter Try.func26, Try.ntmps26
  go_wp2_with (go_at_call 28; refine (rgo_row 65535 a len cap l _ (by omega) hl h).mono ?_; rintro e w' ⟨rfl, hb⟩)
  go_ret
  exact ⟨rfl, hb⟩
end Go.Proofs.Ytnabpdengfmeaaa
