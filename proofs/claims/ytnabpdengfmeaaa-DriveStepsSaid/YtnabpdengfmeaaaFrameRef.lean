/- Layer 3: the document's answer (servitorref03.Put, Read) gives the same as the program. -/
import Derived.Test.YtnabpdengfmeaaaFrameRead
import Derived.Deep.RegionHeld3
namespace Go.Proofs.Ytnabpdengfmeaaa
open Go.RowKit

/-- Block B is an array of 8 bytes. -/
def Arr8 (w : World) (B : Nat) (R : Nat → Int) : Prop := ∀ i, i < 8 → w.cell? ⟨B, i, none⟩ = some (.int .u8 (R i)) ∧ w.frozen? ⟨B, i, none⟩ = false
theorem Arr8.set {w : World} {B : Nat} {R : Nat → Int} (h : Arr8 w B R) (j : Nat) (v : Int) : Arr8 (w.setCell ⟨B, j, none⟩ (.int .u8 v)) B (fun i => if i = j then v else R i) := by
  intro i hi
  refine ⟨?_, by rw [World.frozen?_setCell]; exact (h i hi).2⟩
  by_cases e : i = j
  · subst e
    rw [World.cell?_setCell_same _ _ _ (h i hi).1]; simp
  · have hne : (⟨B, j, none⟩ : Addr) ≠ ⟨B, i, none⟩ := fun q => e (by simpa using (congrArg Addr.off q).symm)
    rw [World.cell?_setCell_other _ _ _ _ hne, (h i hi).1]; simp [e]
theorem Arr8.ext {w : World} {B : Nat} {R S : Nat → Int} (h : Arr8 w B R) (e : ∀ i, i < 8 → R i = S i) : Arr8 w B S := fun i hi => by rw [← e i hi]; exact h i hi
theorem arr8_new (w : World) (B : Nat) (hB : B = w.heap.size) (T : TypeId) : Arr8 (w.alloc (.cells #[.int .u8 0, .int .u8 0, .int .u8 0, .int .u8 0, .int .u8 0, .int .u8 0, .int .u8 0, .int .u8 0] T)) B (fun _ => 0) := by
  subst hB
  intro i hi
  refine ⟨?_, by simp⟩
  rw [World.cell?_alloc_new]
  match i, hi with
  | 0, _ | 1, _ | 2, _ | 3, _ | 4, _ | 5, _ | 6, _ | 7, _ => rfl
  | n + 8, h => omega
theorem Arr8.reads {w : World} {B : Nat} {R : Nat → Int} (h : Arr8 w B R) (l : List Int) (hl : l.length = 8) (hB : Crc.Bytes l) (e : ∀ i, i < 8 → R i = l.getD i 0) : Reads w (some ⟨B, 0, none⟩) l :=
  ⟨by omega, hB, .inr ⟨B, 0, rfl, fun i hi => by rw [Nat.zero_add, ← e i (by omega)]; exact (h i (by omega)).1⟩⟩
/-- the array behind the rounds down to m -/
def low0 (p : Int) (m i : Nat) : Int := if i < m then 0 else (Fr.placeL p).getD i 0
theorem place_at (p : Int) (m : Nat) (hm : m < 8) : (Fr.placeL p).getD m 0 = p % 18446744073709551616 / 256 ^ (7 - m) % 256 := by
  match m, hm with
  | 0, _ | 1, _ | 2, _ | 3, _ | 4, _ | 5, _ | 6, _ | 7, _ => simp [Fr.placeL, List.range, List.range.loop]; try omega
theorem div_succ (U : Int) (m : Nat) (hm : m < 8) : U / 256 ^ (7 - m) / 256 = U / 256 ^ (8 - m) := by
  rw [show 8 - m = (7 - m) + 1 by omega, Int.pow_succ, Int.ediv_ediv_of_nonneg (Int.pow_nonneg (by omega))]
theorem div_in (U : Int) (h0 : 0 ≤ U) (h1 : U < 18446744073709551616) (m : Nat) : 0 ≤ U / 256 ^ m ∧ U / 256 ^ m < 18446744073709551616 := by
  have hp : (0 : Int) < 256 ^ m := Int.pow_pos (by omega)
  refine ⟨Int.ediv_nonneg h0 (by omega), ?_⟩
  have := Int.ediv_le_self (a := U) (256 ^ m) h0
  omega

set_option maxHeartbeats 4000000 in
set_option maxRecDepth 100000 in
theorem rput_good (sign most seq wd p : Int) (w : World) (hs0 : 0 ≤ sign) (hs1 : sign ≤ 255) (h1 : 0 ≤ seq) (h2 : seq ≤ 255) (h3 : 0 ≤ wd) (h4 : wd ≤ most) (h5 : most ≤ 127) :
    Calls Try.prog 40 #[.int .u8 sign, .int .i64 most, .int .i64 seq, .int .i64 wd, .int .i64 p] w fun e w' =>
      ∃ v, e = .returned (.tuple #[v, .int .i64 0]) ∧ Own w' w.heap.size v (Fr.frameL sign seq wd p) ∧ Below w.heap.size w w' := by
  have d1 : decide (seq < 0) = false := decide_eq_false (by omega)
  have d2 : decide (255 < seq) = false := decide_eq_false (by omega)
  have d3 : decide (wd < 0) = false := decide_eq_false (by omega)
  have d4 : decide (most < wd) = false := decide_eq_false (by omega)
  have ho := Own.made w w.heap.size [sign, seq, wd] (Nat.le_refl _) (by simp) (by intro z hz; simp at hz; omega)
  have HO := Lib.hid ho; clear ho
  have HB1 := Lib.hid ((Below.refl w.heap.size w).alloc (Nat.le_refl _) (.cells (([sign, seq, wd].map (Value.int .u8)).toArray) 5))
  go_enter Try.func40, Try.ntmps40
  go_wp2_with fail
  go_loopw [13, 15] (fun n i wr => ∃ m : Nat, m ≤ 8 ∧ i = .int .i64 ((m : Int) - 1) ∧ n = .int .u64 (p % 18446744073709551616 / 256 ^ (8 - m)) ∧ Arr8 wr (w.heap.size + 1) (low0 p m) ∧ Below (w.heap.size + 1) (w.alloc (.cells #[.int .u8 sign, .int .u8 seq, .int .u8 wd] 5)) wr) (fun _ i _ => (intOf i + 1).toNat)
  case atStart => exact ⟨8, by omega, rfl, by simp [IntKind.wrap, IntKind.signed, IntKind.bits], (arr8_new _ _ (by simp) _).ext (fun i hi => by simp [low0, hi]), (Below.refl _ _).alloc (by simp) _⟩
  case round =>
    obtain ⟨j, hj, rfl, rfl, hA, hbel⟩ := hrel
    have HA := Lib.hid hA
    have HB := Lib.hid hbel
    clear hA hbel
    by_cases hj0 : 0 < j
    · obtain ⟨m, rfl⟩ : ∃ m, j = m + 1 := ⟨j - 1, by omega⟩
      rw [show ((m + 1 : Nat) : Int) - 1 = (m : Int) from by omega, show 8 - (m + 1) = 7 - m by omega]
      have hU := div_in (p % 18446744073709551616) (by omega) (by omega) (7 - m)
      have HD := Lib.hid (div_succ (p % 18446744073709551616) m (by omega))
      have HP := Lib.hid (place_at p m (by omega))
      generalize p % 18446744073709551616 / 256 ^ (7 - m) = n at *
      have hf := (HA.out m (by omega)).2
      have hc := (HA.out m (by omega)).1
      generalize low0 p (m + 1) m = z at hc
      go_wp2
      go_roundw
      case rel =>
        refine ⟨m, by omega, by go_num, by rw [← HD.out], (HA.out.set m _).ext fun i hi => ?_, HB.out.setCell (by simp) _⟩
        simp only [low0]
        by_cases e : i = m
        · subst e; rw [if_pos rfl, if_neg (by omega), HP.out]
        · rw [if_neg e]; by_cases e2 : i < m
          · rw [if_pos e2, if_pos (by omega)]
          · rw [if_neg e2, if_neg (by omega)]
      case measure => simp [intOf]
    · obtain rfl : j = 0 := by omega
      have HRd := Lib.hid (HA.out.reads (Fr.placeL p) (Fr.placeL_len p) (Fr.placeL_bytes p) (fun i hi => by simp [low0]))
      have HO1 := Lib.hid (HO.out.kept (by simp) HB.out)
      have HBw := Lib.hid (HB1.out.trans (HB.out.mono (by omega)))
      have hsz := HBw.out.size
      clear HA HB HO HB1
      have HPL := Lib.hid (Fr.placeL_len p)
      go_wp2_with (at_builtin; refine wpList_append_bytes rfl (.tmp 51) (.tmp 52) rfl w.heap.size _ _ rfl HO1.out _ _ _ (Fr.placeL p) rfl HPL.out HRd.out (by rw [HPL.out]; simp) hsz ?_; intro v4 w4 hown hb; have HO4 := Lib.hid hown; have HB4 := Lib.hid hb; clear hown hb)
      have HL := Lib.hid (show ([sign, seq, wd] ++ Fr.placeL p) = Fr.bodyL sign seq wd p from rfl)
      have ho := HO4.out
      rw [HL.out] at ho
      have HO3 := Lib.hid ho
      have HB3 := Lib.hid (HBw.out.trans HB4.out)
      clear HO1 HO4 HB4 HBw HRd hsz
      obtain ⟨v, capV, hv, hvc, hr⟩ := ho.form
      have HR := Lib.hid hr
      have hs := Crc.go_lt (Fr.bodyL sign seq wd p) 65535 (by omega) hr.2.1
      have hl := Fr.bodyL_len sign seq wd p
      have HLB := Lib.hid hl
      generalize hy : Crc.go 65535 (Fr.bodyL sign seq wd p) = y at *
      have HY := Lib.hid hy
      rw [hl] at hv
      clear hvc hr ho hl hy
      subst hv
      refine (rof_any _ _ _ (Fr.bodyL sign seq wd p) _ HLB.out HR.out).mono ?_
      rw [HY.out]
      rintro e w5 ⟨rfl, hb⟩
      have HO5 := Lib.hid (HO3.out.below hb)
      have HB5 := Lib.hid (HB3.out.trans (hb.mono HB3.out.size))
      clear hb HO3 HB3
      have HN := Lib.hid (reads_new w5 [(y : Int) / 256, (y : Int) % 256] 5 (0, 0) (by simp) (by intro z hz; simp at hz; omega))
      go_wp2_with (at_builtin; refine wpList_append_bytes rfl (.tmp 56) (.tmp 63) rfl w.heap.size _ _ rfl (HO5.out.below ((Below.refl _ _).alloc (Nat.le_refl _) _)) _ _ _ [(y : Int) / 256, (y : Int) % 256] rfl rfl HN.out (by rw [HLB.out]; simp) (by have := HB5.out.size; simp; omega) ?_; intro v6 w6 hown hb; have HO6 := Lib.hid hown; have HB6 := Lib.hid hb; clear hown hb)
      go_ret2
      have hf : Fr.frameL sign seq wd p = Fr.bodyL sign seq wd p ++ [(y : Int) / 256, (y : Int) % 256] := by
        unfold Fr.frameL; rw [HY.out]; rfl
      exact ⟨v6, rfl, by rw [hf]; exact HO6.out, (HB5.out.alloc HB5.out.size _).trans HB6.out⟩

set_option maxHeartbeats 4000000 in
set_option maxRecDepth 100000 in
theorem rput_any (sign most seq wd p : Int) (w : World) (hs0 : 0 ≤ sign) (hs1 : sign ≤ 255) (h5 : most ≤ 127) :
    Calls Try.prog 40 #[.int .u8 sign, .int .i64 most, .int .i64 seq, .int .i64 wd, .int .i64 p] w fun e w' =>
      ∃ v, e = .returned (.tuple #[v, .int .i64 (putE most seq wd)]) ∧ Own w' w.heap.size v (putL sign most seq wd p) ∧ Below w.heap.size w w' := by
  by_cases hok : putOk most seq wd = true
  · obtain ⟨h1, h2, h3, h4⟩ := (putOk_iff _ _ _).1 hok
    rw [show putE most seq wd = 0 by simp [putE, hok], show putL sign most seq wd p = Fr.frameL sign seq wd p by simp [putL, hok]]
    exact rput_good sign most seq wd p w hs0 hs1 h1 h2 h3 h4 h5
  · have hb : seq < 0 ∨ (0 ≤ seq ∧ 255 < seq) ∨ (0 ≤ seq ∧ seq ≤ 255 ∧ wd < 0) ∨ (0 ≤ seq ∧ seq ≤ 255 ∧ 0 ≤ wd ∧ most < wd) := by
      have := mt (putOk_iff most seq wd).2 hok; omega
    rw [show putE most seq wd = 1 by simp [putE, hok], show putL sign most seq wd p = [] by simp [putL, hok]]
    clear hok
    rcases hb with h1 | ⟨h1, h2⟩ | ⟨h1, h2, h3⟩ | ⟨h1, h2, h3, h4⟩
    · have d1 : decide (seq < 0) = true := decide_eq_true h1
      go_enter Try.func40, Try.ntmps40
      go_wp2
      go_ret2
      exact ⟨_, rfl, Own.nil _ _, Below.refl _ _⟩
    · have d1 : decide (seq < 0) = false := decide_eq_false (by omega)
      have d2 : decide (255 < seq) = true := decide_eq_true h2
      go_enter Try.func40, Try.ntmps40
      go_wp2
      go_ret2
      exact ⟨_, rfl, Own.nil _ _, Below.refl _ _⟩
    · have d1 : decide (seq < 0) = false := decide_eq_false (by omega)
      have d2 : decide (255 < seq) = false := decide_eq_false (by omega)
      have d3 : decide (wd < 0) = true := decide_eq_true h3
      go_enter Try.func40, Try.ntmps40
      go_wp2
      go_ret2
      exact ⟨_, rfl, Own.nil _ _, Below.refl _ _⟩
    · have d1 : decide (seq < 0) = false := decide_eq_false (by omega)
      have d2 : decide (255 < seq) = false := decide_eq_false (by omega)
      have d3 : decide (wd < 0) = false := decide_eq_false (by omega)
      have d4 : decide (most < wd) = true := decide_eq_true h4
      go_enter Try.func40, Try.ntmps40
      go_wp2
      go_ret2
      exact ⟨_, rfl, Own.nil _ _, Below.refl _ _⟩

set_option maxHeartbeats 8000000 in
set_option maxRecDepth 100000 in
theorem rread_any (sign most : Int) (a : Option Addr) (len cap : Nat) (l : List Int) (w : World) (hl : l.length = len) (hc : len ≤ cap) (h : Reads w a l) :
    Calls Try.prog 43 #[.int .u8 sign, .int .i64 most, .slice a len cap] w fun e w' => e = .returned (gotV (Fr.readN sign most l)) ∧ Below w.heap.size w w' := by
  have HL := Lib.hid hl; clear hl
  have H := Lib.hid h; clear h
  by_cases h1 : len < 13
  · rw [show Fr.readN sign most l = ⟨0, 0, 0, 4⟩ by unfold Fr.readN; rw [if_pos (by rw [HL.out]; exact h1)], got_v]
    go_enter Try.func43, Try.ntmps43
    go_wp2
    go_returns
    exact ⟨rfl, Below.refl _ _⟩
  · by_cases h2 : 13 < len
    · rw [show Fr.readN sign most l = ⟨0, 0, 0, 13⟩ by unfold Fr.readN; rw [if_neg (by rw [HL.out]; exact h1), if_pos (by rw [HL.out]; exact h2)], got_v]
      go_enter Try.func43, Try.ntmps43
      go_wp2
      go_returns
      exact ⟨rfl, Below.refl _ _⟩
    · obtain rfl : len = 13 := by omega
      clear h1 h2
      obtain ⟨b, off, rfl, hc⟩ : ∃ b off, a = some ⟨b, off, none⟩ ∧ ∀ i, i < 13 → w.cell? ⟨b, off + i, none⟩ = some (.int .u8 (l.getD i 0)) := by
        rcases H.out.2.2 with e | ⟨b, off, e, hc⟩
        · have := HL.out; rw [e] at this; simp at this
        · exact ⟨b, off, e, fun i hi => hc i (by rw [HL.out]; exact hi)⟩
      have c0 : w.cell? ⟨b, off, none⟩ = some (.int .u8 (l.getD 0 0)) := hc 0 (by omega)
      have c1 := hc 1 (by omega)
      have c2 := hc 2 (by omega)
      have c11 := hc 11 (by omega)
      have c12 := hc 12 (by omega)
      have hbl : b < w.heap.size := cell_lt c0
      have b0 := Crc.bytes_at H.out.2.1 0
      have b1 := Crc.bytes_at H.out.2.1 1
      have b2 := Crc.bytes_at H.out.2.1 2
      have b11 := Crc.bytes_at H.out.2.1 11
      have b12 := Crc.bytes_at H.out.2.1 12
      have HR := Lib.hid (H.out.take 11)
      have HL11 := Lib.hid (show (l.take 11).length = 11 by have := HL.out; simp; omega)
      have hy := Crc.take_lt (s := 65535) (by omega) H.out.2.1 11
      have HRD := Lib.hid (show Fr.readN sign most l = if Fr.sumFits l = false then ⟨0, 0, 0, 6⟩ else if l.getD 0 0 ≠ sign ∨ most < l.getD 2 0 then ⟨0, 0, 0, 5⟩ else ⟨l.getD 1 0, l.getD 2 0, Fr.toSigned (Fr.numL ((l.take 11).drop 3)), 0⟩ by
        unfold Fr.readN; rw [if_neg (by rw [HL.out]; omega), if_neg (by rw [HL.out]; omega)])
      have HSF := Lib.hid (show Fr.sumFits l = decide (Crc.go 65535 (l.take 11) = (l.getD 11 0 * 256 + l.getD 12 0).toNat) from rfl)
      have HC := Lib.hid hc
      clear hc
      generalize Fr.readN sign most l = g at *
      generalize l.getD 0 0 = x0 at *
      generalize l.getD 1 0 = x1 at *
      generalize l.getD 2 0 = x2 at *
      generalize l.getD 11 0 = x11 at *
      generalize l.getD 12 0 = x12 at *
      generalize hg : Crc.go 65535 (l.take 11) = y at *
      have HG := Lib.hid hg
      clear hg
      have C0 := Lib.hid c0
      have C1 := Lib.hid c1
      have C2 := Lib.hid c2
      clear c0 c1 c2
      have hcI : (11 : Int) ≤ (cap : Int) := by omega
      have e11 : IntKind.i64.wrap x11 = x11 := IntWalk.i64_in _ (by omega)
      have e12 : IntKind.i64.wrap x12 = x12 := IntWalk.i64_in _ (by omega)
      have em : IntKind.i64.wrap (x11 * 256) = x11 * 256 := IntWalk.i64_in _ (by omega)
      have es : IntKind.i64.wrap (x11 * 256 + x12) = x11 * 256 + x12 := IntWalk.i64_in _ (by omega)
      go_enter Try.func43, Try.ntmps43
      go_wp2_with fail
      go_region_held3 (fun w' => w'.cell? ⟨b, off + 11, none⟩ = some (.int .u8 x11) ∧ w'.cell? ⟨b, off + 12, none⟩ = some (.int .u8 x12))
        (first
          | go_keep
          | (go_split_ands
             refine ⟨?_, ?_⟩ <;> (rw [hb.cell (by simp; omega)]; assumption)))
        ((go_at_call 26; refine (rof_any _ _ _ (l.take 11) _ HL11.out (HR.out.below (by first | exact Below.refl _ _ | exact (Below.refl _ _).drew))).mono ?_; rw [HG.out]; rintro e w1 ⟨rfl, hb⟩))
      rename_i hHeldX
      clear e11 e12 em es hHeldX c11 c12
      have hdb := Below.trans (Below.drew (Below.refl w.heap.size w)) hb
      have HB := Lib.hid hdb
      have HC' := Lib.hid (fun i hi => (hdb.cell (p := ⟨b, off + i, none⟩) hbl).trans (HC.out i hi))
      have c0' : w1.cell? ⟨b, off, none⟩ = some (.int .u8 x0) := (hdb.cell (p := ⟨b, off, none⟩) hbl).trans C0.out
      have c1' : w1.cell? ⟨b, off + 1, none⟩ = some (.int .u8 x1) := (hdb.cell (p := ⟨b, off + 1, none⟩) hbl).trans C1.out
      have c2' : w1.cell? ⟨b, off + 2, none⟩ = some (.int .u8 x2) := (hdb.cell (p := ⟨b, off + 2, none⟩) hbl).trans C2.out
      have HBS := H.out.2.1
      have HPB := Lib.hid (show Crc.Bytes ((l.take 11).drop 3) from fun z hz => HBS z (List.mem_of_mem_take (List.mem_of_mem_drop hz)))
      have HPL := Lib.hid (show ((l.take 11).drop 3).length = 8 by have := HL.out; simp; omega)
      have HBY := Lib.hid HBS
      clear hdb hb C0 C1 C2 HR H HBS HC
      cases hf : Fr.sumFits l with
      | false =>
        have hne : ((y : Int) != x11 * 256 + x12) = true := by
          rw [bne_iff_ne]; intro h; rw [HSF.out, decide_eq_false_iff_not] at hf; omega
        have HF := Lib.hid hf
        clear hf
        go_wp2
        go_returns
        exact ⟨by rw [HRD.out, HF.out, if_pos rfl, got_v], HB.out⟩
      | true =>
        have heq : ((y : Int) != x11 * 256 + x12) = false := by
          rw [bne_eq_false_iff_eq]; rw [HSF.out, decide_eq_true_iff] at hf; omega
        have HRD2 := Lib.hid (show g = _ by rw [HRD.out, hf, if_neg (by simp)])
        clear hf
        by_cases hx : x0 = sign
        · by_cases hw : most < x2
          · have HG2 := Lib.hid (show g = _ by rw [HRD2.out, if_pos (Or.inr hw)])
            have hd : decide (most < x2) = true := decide_eq_true hw
            subst hx
            go_wp2
            go_returns
            exact ⟨by rw [HG2.out, got_v], HB.out⟩
          · have HG2 := Lib.hid (show g = _ by rw [HRD2.out, if_neg (by intro h; rcases h with h | h; exact h hx; exact hw h)])
            have hd : decide (most < x2) = false := decide_eq_false hw
            subst hx
            clear hw
            go_wp2_with fail
            go_loop [10, 11] (fun n i => ∃ k : Nat, k ≤ 8 ∧ i = .int .i64 ((k : Int) + 3) ∧ n = .int .u64 (Fr.numL (((l.take 11).drop 3).take k))) (fun _ i => 11 - (intOf i).toNat)
            case atStart => exact ⟨0, by omega, rfl, rfl⟩
            case round =>
              obtain ⟨k, hk, rfl, rfl⟩ := hrel
              by_cases hlt : k < 8
              · have HX := Lib.hid (Fr.drop_at l k hlt)
                have hcx := HC'.out (k + 3) (by omega)
                have hbx := Crc.bytes_at HBY.out (3 + k)
                have hn := Fr.num_56 _ HPB.out k (by omega)
                have HS := Lib.hid (Fr.num_snoc ((l.take 11).drop 3) k (by have := HPL.out; omega))
                rw [show k + 3 = 3 + k by omega] at hcx
                generalize l.getD (3 + k) 0 = z at *
                generalize Fr.numL (((l.take 11).drop 3).take k) = n at *
                rw [show 3 + k = k + 3 by omega] at hcx
                go_wp2
                go_round
                case rel => exact ⟨k + 1, by omega, by go_num, by rw [HS.out, HX.out]⟩
                case measure => simp [intOf]; omega
              · obtain rfl : k = 8 := by omega
                rw [show (List.drop 3 (List.take 11 l)).take 8 = List.drop 3 (List.take 11 l) from List.take_of_length_le (by rw [HPL.out]; omega)]
                generalize hgn : Fr.numL ((l.take 11).drop 3) = n at *
                have HN := Lib.hid hgn
                clear hgn
                go_wp2_with fail
                go_quiet (fail)
                go_wp2
                go_returns
                refine ⟨by rw [HG2.out, got_v]; exact ret_tup (by unfold RowKit.wrap64 Fr.toSigned; rfl), below_drewN HB.out _⟩
        · have HG2 := Lib.hid (show g = _ by rw [HRD2.out, if_pos (Or.inl hx)])
          have hd : (x0 == sign) = false := beq_eq_false_iff_ne.2 hx
          have hd2 : (x0 != sign) = true := by rw [bne_iff_ne]; exact hx
          clear hx
          go_wp2
          go_returns
          exact ⟨by rw [HG2.out, got_v], HB.out⟩
end Go.Proofs.Ytnabpdengfmeaaa
