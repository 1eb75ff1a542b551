/- Layer 3: contracts of frame.put and its callers. -/
import Derived.Test.YtnabpdengfmeaaaSumMore
import Derived.Test.YtnabpdengfmeaaaFramePlain
namespace Go.Proofs.Ytnabpdengfmeaaa
open Go.RowKit

def mostN (sign : Int) : Int := if sign = 70 then 127 else 7
theorem fword_any (sign : Int) (w : World) : Calls Try.prog 74 #[.int .u8 sign] w fun e w' => e = .returned (.int .i64 (mostN sign)) ∧ w = w' := by
  unfold mostN
  by_cases h : sign = 70
  · subst h
    go_enter Try.func74, Try.ntmps74
    go_wp2
    go_ret
    exact ⟨rfl, rfl⟩
  · rw [if_neg h]
    have hb : (sign == 70) = false := beq_eq_false_iff_ne.2 h
    clear h
    go_enter Try.func74, Try.ntmps74
    go_wp2
    go_ret
    exact ⟨rfl, rfl⟩

set_option maxHeartbeats 4000000 in
set_option maxRecDepth 100000 in
theorem put_good (sign seq wd p most : Int) (w : World) (hs0 : 0 ≤ sign) (hs1 : sign ≤ 255) (hm : mostN sign = most) (h1 : 0 ≤ seq) (h2 : seq ≤ 255) (h3 : 0 ≤ wd) (h4 : wd ≤ most) (h5 : most ≤ 127) :
    Calls Try.prog 69 #[.int .u8 sign, .int .i64 seq, .int .i64 wd, .int .i64 p] w fun e w' =>
      ∃ v, e = .returned (.tuple #[v, .int .i64 0]) ∧ Own w' w.heap.size v (Fr.frameL sign seq wd p) ∧ Below w.heap.size w w' := by
  have HM := Lib.hid hm; clear hm
  have d1 : decide (seq < 0) = false := decide_eq_false (by omega)
  have d2 : decide (255 < seq) = false := decide_eq_false (by omega)
  have d3 : decide (wd < 0) = false := decide_eq_false (by omega)
  have d4 : decide (most < wd) = false := decide_eq_false (by omega)
  have ho := Own.made w w.heap.size [sign, seq, wd] (Nat.le_refl _) (by simp) (by intro z hz; simp at hz; omega)
  have HO := Lib.hid ho; clear ho
  go_enter Try.func69, Try.ntmps69
  go_wp2_with fail
  refine (fword_any _ _).mono ?_
  rw [HM.out]
  rintro e w' ⟨rfl, rfl⟩
  go_wp2_with fail
  go_loopw [10, 11] (fun v i wr => ∃ j : Nat, j ≤ 8 ∧ i = .int .i64 (8 * (j : Int) - 8) ∧ Own wr w.heap.size v ([sign, seq, wd] ++ (Fr.placeL p).take (8 - j)) ∧ Below w.heap.size w wr) (fun _ i _ => (intOf i + 8).toNat)
  case atStart => exact ⟨8, by omega, rfl, HO.out, (Below.refl _ _).alloc (Nat.le_refl _) _⟩
  case round =>
    obtain ⟨j, hj, rfl, hown, hbel⟩ := hrel
    have HO2 := Lib.hid hown
    have HB2 := Lib.hid hbel
    clear hown hbel HO
    by_cases hj0 : 0 < j
    · obtain ⟨m, rfl⟩ : ∃ m, j = m + 1 := ⟨j - 1, by omega⟩
      rw [show 8 * ((m + 1 : Nat) : Int) - 8 = ((8 * m : Nat) : Int) from by omega]
      have hm7 : m ≤ 7 := by omega
      have HT := Lib.hid (Fr.place_succ p m hm7)
      have hb0 : 0 ≤ p / 2 ^ (8 * m) % 256 := Int.emod_nonneg _ (by decide)
      have hb1 : p / 2 ^ (8 * m) % 256 < 256 := Int.emod_lt_of_pos _ (by decide)
      have HN := Lib.hid (reads_new wr [p / 2 ^ (8 * m) % 256] 5 (0, 0) (by simp) (by intro z hz; simp at hz; omega))
      clear hb0 hb1
      go_wp2_with (at_builtin; refine wpList_append_bytes rfl (.tmp 39) (.tmp 45) rfl w.heap.size _ _ rfl (HO2.out.below ((Below.refl _ _).alloc (Nat.le_refl _) _)) _ _ _ [p / 2 ^ (8 * m) % 256] rfl rfl HN.out (by simp [Fr.placeL_len]; omega) (by have := HB2.out.size; simp; omega) ?_; intro v4 w4 hown hb; have HO4 := Lib.hid hown; have HB4 := Lib.hid hb; clear hown hb)
      go_roundw
      case rel => exact ⟨m, by omega, by go_num, by rw [HT.out, ← List.append_assoc]; exact HO4.out, (HB2.out.alloc HB2.out.size _).trans HB4.out⟩
      case measure => simp [intOf]; omega
    · obtain rfl : j = 0 := by omega
      have HL := Lib.hid (show ([sign, seq, wd] ++ (Fr.placeL p).take (8 - 0)) = Fr.bodyL sign seq wd p by rw [List.take_of_length_le (by rw [Fr.placeL_len]; omega)]; rfl)
      have ho := HO2.out
      rw [HL.out] at ho
      have HO3 := Lib.hid ho
      obtain ⟨v, capV, hv, hvc, hr⟩ := ho.form
      have HR := Lib.hid hr
      have hs := Crc.go_lt (Fr.bodyL sign seq wd p) 65535 (by omega) hr.2.1
      have hl := Fr.bodyL_len sign seq wd p
      have HLB := Lib.hid hl
      generalize hy : Crc.go 65535 (Fr.bodyL sign seq wd p) = y at *
      have HY := Lib.hid hy
      rw [hl] at hv
      clear hvc hr ho HO2 hl hy
      subst hv
      go_wp2_with fail
      refine (of_any _ _ _ (Fr.bodyL sign seq wd p) _ HLB.out HR.out).mono ?_
      rw [HY.out]
      rintro e w' ⟨rfl, rfl⟩
      have HN := Lib.hid (reads_new wr [(y : Int) / 256, (y : Int) % 256] 5 (0, 0) (by simp) (by intro z hz; simp at hz; omega))
      go_wp2_with (at_builtin; refine wpList_append_bytes rfl (.tmp 49) (.tmp 55) rfl w.heap.size _ _ rfl (HO3.out.below ((Below.refl _ _).alloc (Nat.le_refl _) _)) _ _ _ [(y : Int) / 256, (y : Int) % 256] rfl rfl HN.out (by rw [HLB.out]; simp) (by have := HB2.out.size; simp; omega) ?_; intro v4 w4 hown hb; have HO4 := Lib.hid hown; have HB4 := Lib.hid hb; clear hown hb)
      go_ret2
      have hf : Fr.frameL sign seq wd p = Fr.bodyL sign seq wd p ++ [(y : Int) / 256, (y : Int) % 256] := by
        unfold Fr.frameL; rw [HY.out]; rfl
      exact ⟨v4, rfl, by rw [hf]; exact HO4.out, (HB2.out.alloc HB2.out.size _).trans HB4.out⟩

/-- what may be put -/
def putOk (most seq wd : Int) : Bool := decide (0 ≤ seq) && decide (seq ≤ 255) && decide (0 ≤ wd) && decide (wd ≤ most)
def putL (sign most seq wd p : Int) : List Int := if putOk most seq wd = true then Fr.frameL sign seq wd p else []
def putE (most seq wd : Int) : Int := if putOk most seq wd = true then 0 else 1
theorem putOk_iff (most seq wd : Int) : putOk most seq wd = true ↔ 0 ≤ seq ∧ seq ≤ 255 ∧ 0 ≤ wd ∧ wd ≤ most := by simp [putOk, and_assoc]

set_option maxHeartbeats 4000000 in
set_option maxRecDepth 100000 in
theorem put_any (sign seq wd p most : Int) (w : World) (hs0 : 0 ≤ sign) (hs1 : sign ≤ 255) (hm : mostN sign = most) (h5 : most ≤ 127) :
    Calls Try.prog 69 #[.int .u8 sign, .int .i64 seq, .int .i64 wd, .int .i64 p] w fun e w' =>
      ∃ v, e = .returned (.tuple #[v, .int .i64 (putE most seq wd)]) ∧ Own w' w.heap.size v (putL sign most seq wd p) ∧ Below w.heap.size w w' := by
  by_cases hok : putOk most seq wd = true
  · obtain ⟨h1, h2, h3, h4⟩ := (putOk_iff _ _ _).1 hok
    rw [show putE most seq wd = 0 by simp [putE, hok], show putL sign most seq wd p = Fr.frameL sign seq wd p by simp [putL, hok]]
    exact put_good sign seq wd p most w hs0 hs1 hm h1 h2 h3 h4 h5
  · have hb : seq < 0 ∨ (0 ≤ seq ∧ 255 < seq) ∨ (0 ≤ seq ∧ seq ≤ 255 ∧ wd < 0) ∨ (0 ≤ seq ∧ seq ≤ 255 ∧ 0 ≤ wd ∧ most < wd) := by
      have := mt (putOk_iff most seq wd).2 hok; omega
    rw [show putE most seq wd = 1 by simp [putE, hok], show putL sign most seq wd p = [] by simp [putL, hok]]
    have HM := Lib.hid hm
    clear hm hok
    rcases hb with h1 | ⟨h1, h2⟩ | ⟨h1, h2, h3⟩ | ⟨h1, h2, h3, h4⟩
    · go_enter Try.func69, Try.ntmps69
      go_wp2
      go_ret2
      exact ⟨_, rfl, Own.nil _ _, Below.refl _ _⟩
    · have d1 : decide (seq < 0) = false := decide_eq_false (by omega)
      have d2 : decide (255 < seq) = true := decide_eq_true h2
      go_enter Try.func69, Try.ntmps69
      go_wp2
      go_ret2
      exact ⟨_, rfl, Own.nil _ _, Below.refl _ _⟩
    · have d1 : decide (seq < 0) = false := decide_eq_false (by omega)
      have d2 : decide (255 < seq) = false := decide_eq_false (by omega)
      have d3 : decide (wd < 0) = true := decide_eq_true h3
      go_enter Try.func69, Try.ntmps69
      go_wp2
      go_ret2
      exact ⟨_, rfl, Own.nil _ _, Below.refl _ _⟩
    · have d1 : decide (seq < 0) = false := decide_eq_false (by omega)
      have d2 : decide (255 < seq) = false := decide_eq_false (by omega)
      have d3 : decide (wd < 0) = false := decide_eq_false (by omega)
      have d4 : decide (most < wd) = true := decide_eq_true h4
      go_enter Try.func69, Try.ntmps69
      go_wp2_with fail
      refine (fword_any _ _).mono ?_
      rw [HM.out]
      rintro e w' ⟨rfl, rfl⟩
      go_wp2
      go_ret2
      exact ⟨_, rfl, Own.nil _ _, Below.refl _ _⟩

theorem own_up {w : World} {B B' : Nat} {v : Value} {l : List Int} (h : Own w B v l) (hB : B' ≤ B) : Own w B' v l := by
  refine ⟨h.1, h.2.1, ?_⟩
  rcases h.2.2 with e | ⟨g, cap, cur, e, h1, r⟩
  · exact .inl e
  · exact .inr ⟨g, cap, cur, e, by omega, r⟩

set_option maxHeartbeats 1000000 in
set_option maxRecDepth 100000 in
theorem putFeed_any (seq wd p : Int) (w : World) :
    Calls Try.prog 38 #[.agg #[.int .i64 seq, .int .i64 wd, .int .i64 p]] w fun e w' =>
      ∃ v, e = .returned (.tuple #[v, .int .i64 (putE 127 seq wd)]) ∧ Own w' w.heap.size v (putL 70 127 seq wd p) ∧ Below w.heap.size w w' := by
  go_enter Try.func38, Try.ntmps38
  go_wp2_with fail
  refine (put_any 70 seq wd p 127 _ (by omega) (by omega) rfl (by omega)).mono ?_
  rintro e w1 ⟨v, rfl, hown, hb⟩
  have HO := Lib.hid hown
  have HB := Lib.hid hb
  clear hown hb
  go_wp2
  go_ret2
  exact ⟨v, rfl, own_up HO.out (by simp), ((Below.refl w.heap.size w).alloc (Nat.le_refl _) _).trans (HB.out.mono (by simp))⟩

set_option maxHeartbeats 1000000 in
set_option maxRecDepth 100000 in
theorem putSet_any (seq wd p : Int) (w : World) :
    Calls Try.prog 42 #[.agg #[.int .i64 seq, .int .i64 wd, .int .i64 p]] w fun e w' =>
      ∃ v, e = .returned (.tuple #[v, .int .i64 (putE 7 seq wd)]) ∧ Own w' w.heap.size v (putL 83 7 seq wd p) ∧ Below w.heap.size w w' := by
  go_enter Try.func42, Try.ntmps42
  go_wp2_with fail
  refine (put_any 83 seq wd p 7 _ (by omega) (by omega) rfl (by omega)).mono ?_
  rintro e w1 ⟨v, rfl, hown, hb⟩
  have HO := Lib.hid hown
  have HB := Lib.hid hb
  clear hown hb
  go_wp2
  go_ret2
  exact ⟨v, rfl, own_up HO.out (by simp), ((Below.refl w.heap.size w).alloc (Nat.le_refl _) _).trans (HB.out.mono (by simp))⟩
end Go.Proofs.Ytnabpdengfmeaaa
