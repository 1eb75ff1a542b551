/- What sum.Go and sum.Of compute: the plain register of XCrc. -/
import Derived.Test.YtnabpdengfmeaaaRows
import Derived.Test.YtnabpdengfmeaaaCrc
import Derived.WalkKit
import Derived.WalkSpells
import Derived.WalkLawsBesides
import Derived.Handy
import Derived.Lib.Hide
namespace Go.Proofs.Ytnabpdengfmeaaa
open Go.RowKit

theorem xor_in {y : Nat} {x : Int} (hy : y < 65536) (h0 : 0 ≤ x) (h1 : x < 256) : Value.int .u16 (bits .xor .u16 (y : Int) (x * 256)) = .int .u16 ((y ^^^ x.toNat * 256 : Nat) : Int) := by
  have e : x * 256 = ((x.toNat * 256 : Nat) : Int) := by omega
  rw [e, u16_xor_nat _ _ hy (by omega)]

theorem bit_in {q : Nat} (hq : q < 65536) : bits .xor .u16 (IntKind.u16.wrap ((q : Int) * 2)) ((q : Int) / 32768 * 4129) = ((Crc.bit q : Nat) : Int) := by
  have e1 : IntKind.u16.wrap ((q : Int) * 2) = ((2 * q % 65536 : Nat) : Int) := by rw [IntKind.wrap_u16]; omega
  have e2 : (q : Int) / 32768 * 4129 = ((q / 32768 % 2 * 4129 : Nat) : Int) := by omega
  rw [e1, e2, u16_xor_nat _ _ (by omega) (by omega)]; rfl

set_option maxHeartbeats 400000 in
theorem go_row (s : Nat) (b off len cap : Nat) (l : List Int) (w : World) (hs : s < 65536) (hl : l.length = len) (hlen : len ≤ 9223372036854775807)
    (hB : Crc.Bytes l) (hc : ∀ i, i < len → w.cell? ⟨b, off + i, none⟩ = some (.int .u8 (l.getD i 0))) :
    Calls Try.prog 27 #[.int .u16 s, .slice (some ⟨b, off, none⟩) len cap] w fun e w' => e = .returned (.int .u16 (Crc.go s l)) ∧ w = w' := by
  go_enter Try.func27, Try.ntmps27
  go_wp2
  go_loop [0, 10] (fun t i => ∃ (k : Nat), k ≤ len ∧ i = .int .i64 k ∧ t = .int .u16 (Crc.go s (l.take k))) (fun _ i => len - (intOf i).toNat)
  case atStart => exact ⟨0, Nat.zero_le _, rfl, rfl⟩
  case round =>
    obtain ⟨k, hk, rfl, rfl⟩ := hrel
    by_cases hlt : k < len
    · have hcell := hc k hlt
      have hb1 : 0 ≤ l.getD k 0 := (Crc.bytes_at hB k).1
      have hb2 : l.getD k 0 < 256 := (Crc.bytes_at hB k).2
      have hg : Crc.go s (l.take k) < 65536 := Crc.take_lt hs hB k
      clear hc
      generalize hx : l.getD k 0 = x at *
      generalize hy : Crc.go s (l.take k) = y at *
      have Hx := Lib.hid hx; clear hx
      have Hy := Lib.hid hy; clear hy
      go_wp2
      go_loop [0, 19] (fun t i => ∃ (j : Nat), j ≤ 8 ∧ i = .int .i64 j ∧ t = .int .u16 (Crc.bits j (y ^^^ x.toNat * 256))) (fun _ i => 8 - (intOf i).toNat)
      case atStart => exact ⟨0, by omega, rfl, xor_in hg hb1 hb2⟩
      case round =>
        obtain ⟨j, hj, rfl, rfl⟩ := hrel
        have hz : Crc.bits j (y ^^^ x.toNat * 256) < 65536 := Crc.bits_lt _ _ (Nat.xor_lt_two_pow (n := 16) hg (by omega))
        generalize hq : Crc.bits j (y ^^^ x.toNat * 256) = q at *
        have Hq := Lib.hid hq; clear hq
        by_cases hlt : j < 8
        · go_wp2
          go_round
          case rel => exact ⟨j + 1, by omega, by go_num, by rw [bit_in hz, Crc.bits_succ, Hq.out]⟩
          case measure => simp [intOf]; omega
        · obtain rfl : j = 8 := by omega
          go_wp2
          go_round
          case rel => exact ⟨k + 1, by omega, by go_num, by rw [Crc.go_snoc _ _ _ (by omega), Hx.out, Hy.out, Crc.byte, Hq.out]⟩
          case measure => simp [intOf]; omega
    · obtain rfl : k = len := by omega
      have e : l.take k = l := List.take_of_length_le (by omega)
      have E := Lib.hid e; clear e
      go_wp2
      go_ret
      exact ⟨congrArg (fun l => Ending.returned (Value.int .u16 ((Crc.go s l : Nat) : Int))) E.out, rfl⟩

set_option maxHeartbeats 400000 in
theorem go_none (s : Nat) (a : Option Addr) (cap : Nat) (w : World) :
    Calls Try.prog 27 #[.int .u16 s, .slice a 0 cap] w fun e w' => e = .returned (.int .u16 s) ∧ w = w' := by
  go_enter Try.func27, Try.ntmps27
  go_wp2
  refine wp_loop_rounds 1 ?_
  rw [rounds_succ]
  go_wp2
  go_ret
  exact ⟨rfl, rfl⟩

/-- A slice of bytes that can be read: its elements. -/
def Reads (w : World) (a : Option Addr) (l : List Int) : Prop :=
  l.length ≤ 9223372036854775807 ∧ Crc.Bytes l ∧ (l = [] ∨ ∃ b off, a = some ⟨b, off, none⟩ ∧ ∀ i, i < l.length → w.cell? ⟨b, off + i, none⟩ = some (.int .u8 (l.getD i 0)))

theorem go_any (s : Nat) (a : Option Addr) (len cap : Nat) (l : List Int) (w : World) (hs : s < 65536) (hl : l.length = len) (h : Reads w a l) :
    Calls Try.prog 27 #[.int .u16 s, .slice a len cap] w fun e w' => e = .returned (.int .u16 (Crc.go s l)) ∧ w = w' := by
  obtain ⟨hm, hB, rfl | ⟨b, off, rfl, hc⟩⟩ := h
  · obtain rfl : len = 0 := by simpa using hl.symm
    exact go_none s a cap w
  · exact go_row s b off len cap l w hs hl (by omega) hB (by rw [← hl]; exact hc)

theorem of_any (a : Option Addr) (len cap : Nat) (l : List Int) (w : World) (hl : l.length = len) (h : Reads w a l) :
    Calls Try.prog 25 #[.slice a len cap] w fun e w' => e = .returned (.int .u16 (Crc.go 65535 l)) ∧ w = w' := by
  go_enter Try.func25, Try.ntmps25
  go_wp2_with (go_at_call 27; refine (go_any 65535 a len cap l _ (by omega) hl h).mono ?_; rintro e w' ⟨rfl, rfl⟩)
  go_ret
  exact ⟨rfl, rfl⟩
end Go.Proofs.Ytnabpdengfmeaaa
