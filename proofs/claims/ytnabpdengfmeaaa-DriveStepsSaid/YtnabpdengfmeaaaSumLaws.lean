/- The laws of layer 2, walked. -/
import Derived.Test.YtnabpdengfmeaaaRefSum
import Derived.WalkKit
import Derived.WalkSpells
import Derived.WalkLawsBesides
import Derived.Handy
import Derived.Lib.Hide
import Derived.Lib.SlBytesConst
import Derived.BigQuiet
import Derived.Deep.QuietTactic
namespace Go.Proofs.Ytnabpdengfmeaaa
open Go.RowKit

theorem Reads.below {w w' : World} {a : Option Addr} {l : List Int} (h : Reads w a l) (hb : Below w.heap.size w w') : Reads w' a l := by
  refine ⟨h.1, h.2.1, ?_⟩
  by_cases hn : l = []
  · exact .inl hn
  · have hpos : 0 < l.length := List.length_pos_iff.2 hn
    rcases h.2.2 with e | ⟨b, off, rfl, hc⟩
    · exact absurd e hn
    · have hlt : b < w.heap.size := cell_lt (hc 0 hpos)
      exact .inr ⟨b, off, rfl, fun i hi => (hb.cell hlt).trans (hc i hi)⟩
theorem Reads.belowB {B : Nat} {w w' : World} {a : Option Addr} {l : List Int} (h : Reads w a l) (hB : w.heap.size ≤ B) (hb : Below B w w') : Reads w' a l := h.below (hb.mono hB)
theorem Reads.take {w : World} {a : Option Addr} {l : List Int} (h : Reads w a l) (n : Nat) : Reads w a (l.take n) := by
  refine ⟨Nat.le_trans (List.length_take_le' _ _) h.1, Crc.bytes_take h.2.1 n, ?_⟩
  rcases h.2.2 with rfl | ⟨b, off, rfl, hc⟩
  · exact .inl (by simp)
  · refine .inr ⟨b, off, rfl, fun i hi => ?_⟩
    have h1 : i < l.length := by simp at hi; omega
    have h2 : i < n := by simp at hi; omega
    rw [hc i h1]; simp [List.getD, h2]

theorem reads_new (w : World) (l : List Int) (T : TypeId) (fr : Nat × Nat) (hm : l.length ≤ 9223372036854775807) (hB : Crc.Bytes l) :
    Reads (w.alloc (.cells (l.map (Value.int .u8)).toArray T fr)) (some ⟨w.heap.size, 0, none⟩) l := by
  refine ⟨hm, hB, .inr ⟨_, _, rfl, fun i hi => ?_⟩⟩
  rw [World.cell?_alloc_mark]
  simp [List.getD, hi]

set_option maxHeartbeats 400000 in
set_option maxRecDepth 100000 in
theorem awake02 (w : World) : Calls Try.prog 24 #[] w fun e w' => e = .returned (.bool true) ∧ Below w.heap.size w w' := by
  have kc := fun (w : World) (C : Array Value) (n c : Nat) => Lib.run_convert_bytes_const (P := Try.prog) w 23 5 C n c Try.underlying23 Try.underlying5
  go_enter Try.func24, Try.ntmps24
  go_wp2_with fail
  have hr := reads_new w [49, 50, 51, 52, 53, 54, 55, 56, 57] 5 (9, 10) (by decide) (by unfold Crc.Bytes; decide)
  refine (of_any _ _ _ _ _ rfl hr).mono ?_
  rintro e w' ⟨rfl, rfl⟩
  have hv : Crc.go 65535 [49, 50, 51, 52, 53, 54, 55, 56, 57] = 10673 := by decide +kernel
  rw [hv]
  clear hr hv
  go_wp2
  go_ret
  exact ⟨rfl, (Below.refl _ _).alloc (Nat.le_refl _) _⟩

theorem cut_len {l : List Int} {len : Nat} (hl : l.length = len) {m : Nat} (h : (m : Int) < (len : Int)) : (l.take m).length = m := by simp; omega
theorem cut_len' {l : List Int} {len : Nat} (hl : l.length = len) {m : Nat} (h : (len : Int) ≤ (m : Int)) : (l.take m).length = len := by simp; omega

set_option maxHeartbeats 400000 in
set_option maxRecDepth 100000 in
theorem sumRight (s : Nat) (a : Option Addr) (len cap : Nat) (l : List Int) (w : World) (hs : s < 65536) (hl : l.length = len) (hcap : len ≤ cap) (h : Reads w a l) :
    Calls Try.prog 3 #[.int .u16 s, .slice a len cap] w fun e w' => e = .returned (.bool true) ∧ Below w.heap.size w w' := by
  have H := Lib.hid h; clear h
  have HL := Lib.hid hl; clear hl
  go_enter Try.func3, Try.ntmps3
  go_wp2_with fail
  refine (awake02 _).mono ?_
  rintro e w1 ⟨rfl, hb⟩
  have hr := (H.out.below hb).take 2000
  have HR := Lib.hid hr; clear hr
  have HB := Lib.hid hb; clear hb
  have hy : Crc.go 65535 (l.take 2000) < 65536 := Crc.go_lt _ _ (by omega) HR.out.2.1
  have hz : Crc.go s (l.take 2000) < 65536 := Crc.go_lt _ _ hs HR.out.2.1
  generalize hey : Crc.go 65535 (l.take 2000) = y at hy
  generalize hez : Crc.go s (l.take 2000) = z at hz
  have HY := Lib.hid hey; clear hey
  have HZ := Lib.hid hez; clear hez
  go_wp2_with fail
  all_goals
    refine (of_any _ _ _ (l.take 2000) _ (by first | exact cut_len HL.out (m := 2000) (by assumption) | exact cut_len' HL.out (m := 2000) (by assumption)) HR.out).mono ?_
    rw [HY.out]
    rintro e w' ⟨rfl, rfl⟩
    go_wp2_with fail
    refine (rof_any _ _ _ (l.take 2000) _ (by first | exact cut_len HL.out (m := 2000) (by assumption) | exact cut_len' HL.out (m := 2000) (by assumption)) HR.out).mono ?_
    rw [HY.out]
    rintro e w2 ⟨rfl, hb⟩
    have hr2 := HR.out.below hb
    have HR2 := Lib.hid hr2; clear hr2
    have HB2 := Lib.hid hb; clear hb
    go_wp2_with fail
    refine (go_any _ _ _ _ (l.take 2000) _ hs (by first | exact cut_len HL.out (m := 2000) (by assumption) | exact cut_len' HL.out (m := 2000) (by assumption)) HR2.out).mono ?_
    rw [HZ.out]
    rintro e w' ⟨rfl, rfl⟩
    go_wp2_with fail
    refine (rgo_row _ _ _ _ (l.take 2000) _ hs (by first | exact cut_len HL.out (m := 2000) (by assumption) | exact cut_len' HL.out (m := 2000) (by assumption)) HR2.out).mono ?_
    rw [HZ.out]
    rintro e w3 ⟨rfl, hb⟩
    have HB3 := Lib.hid hb; clear hb
    go_wp2
    go_ret
    exact ⟨rfl, (HB.out.trans (HB2.out.mono HB.out.size)).trans (HB3.out.mono (Nat.le_trans HB.out.size HB2.out.size))⟩
end Go.Proofs.Ytnabpdengfmeaaa
