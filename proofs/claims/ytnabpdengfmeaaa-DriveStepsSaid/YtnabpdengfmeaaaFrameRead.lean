/- Layer 3: the contract of frame.read. -/
import Derived.Test.YtnabpdengfmeaaaFramePut
namespace Go.Proofs.Ytnabpdengfmeaaa
open Go.RowKit

def gotV (g : Fr.Got) : Value := .tuple #[.int .i64 g.seq, .int .i64 g.word, .int .i64 g.place, .int .i64 g.err]
theorem got_v (a b c d : Int) : gotV ⟨a, b, c, d⟩ = .tuple #[.int .i64 a, .int .i64 b, .int .i64 c, .int .i64 d] := rfl

theorem or_two {a b : Int} (ha0 : 0 ≤ a) (ha : a < 256) (hb0 : 0 ≤ b) (hb : b < 256) : bits .or .u16 (a * 256) b = a * 256 + b := by
  rw [u16_or _ _ (by omega) (by omega) hb0 (by omega)]
  have e : (a * 256).toNat = a.toNat <<< 8 := by rw [Nat.shiftLeft_eq]; omega
  rw [e, ← Nat.shiftLeft_add_eq_or_of_lt (by omega), Nat.shiftLeft_eq]
  omega

theorem ret_tup {a b c c' d : Int} (h : c = c') : Ending.returned (Value.tuple #[.int .i64 a, .int .i64 b, .int .i64 c, .int .i64 d]) = .returned (Value.tuple #[.int .i64 a, .int .i64 b, .int .i64 c', .int .i64 d]) := by rw [h]
theorem or_low64 {n z : Int} (h0 : 0 ≤ n) (h1 : n < 72057594037927936) (hz0 : 0 ≤ z) (hz : z < 256) : bits .or .u64 (n * 256) z = n * 256 + z := by
  rw [u64_or _ _ (by omega) (by omega) hz0 (by omega)]
  have e : (n * 256).toNat = n.toNat <<< 8 := by rw [Nat.shiftLeft_eq]; omega
  rw [e, ← Nat.shiftLeft_add_eq_or_of_lt (by omega), Nat.shiftLeft_eq]
  omega

set_option maxHeartbeats 4000000 in
set_option maxRecDepth 100000 in
theorem read_any (sign most : Int) (a : Option Addr) (len cap : Nat) (l : List Int) (w : World) (hm : mostN sign = most) (hl : l.length = len) (hc : len ≤ cap) (h : Reads w a l) :
    Calls Try.prog 70 #[.int .u8 sign, .slice a len cap] w fun e w' => e = .returned (gotV (Fr.readN sign most l)) ∧ ∃ n, w' = w.drewN n := by
  have HM := Lib.hid hm; clear hm
  have HL := Lib.hid hl; clear hl
  have H := Lib.hid h; clear h
  by_cases h1 : len < 13
  · rw [show Fr.readN sign most l = ⟨0, 0, 0, 4⟩ by unfold Fr.readN; rw [if_pos (by rw [HL.out]; exact h1)], got_v]
    go_enter Try.func70, Try.ntmps70
    go_wp2
    go_returns
    exact ⟨rfl, 0, rfl⟩
  · by_cases h2 : 13 < len
    · rw [show Fr.readN sign most l = ⟨0, 0, 0, 13⟩ by unfold Fr.readN; rw [if_neg (by rw [HL.out]; exact h1), if_pos (by rw [HL.out]; exact h2)], got_v]
      go_enter Try.func70, Try.ntmps70
      go_wp2
      go_returns
      exact ⟨rfl, 0, rfl⟩
    · obtain rfl : len = 13 := by omega
      clear h1 h2
      obtain ⟨b, off, rfl, hc⟩ : ∃ b off, a = some ⟨b, off, none⟩ ∧ ∀ i, i < 13 → w.cell? ⟨b, off + i, none⟩ = some (.int .u8 (l.getD i 0)) := by
        rcases H.out.2.2 with e | ⟨b, off, e, hc⟩
        · have := HL.out; rw [e] at this; simp at this
        · exact ⟨b, off, e, fun i hi => hc i (by rw [HL.out]; exact hi)⟩
      have c0 : w.cell? ⟨b, off, none⟩ = some (.int .u8 (l.getD 0 0)) := hc 0 (by omega)
      have c1 := hc 1 (by omega)
      have c2 := hc 2 (by omega)
      have c11 := hc 11 (by omega)
      have c12 := hc 12 (by omega)
      have b0 := Crc.bytes_at H.out.2.1 0
      have b1 := Crc.bytes_at H.out.2.1 1
      have b2 := Crc.bytes_at H.out.2.1 2
      have b11 := Crc.bytes_at H.out.2.1 11
      have b12 := Crc.bytes_at H.out.2.1 12
      have HR := Lib.hid (H.out.take 11)
      have HL11 := Lib.hid (show (l.take 11).length = 11 by have := HL.out; simp; omega)
      have hy := Crc.take_lt (s := 65535) (by omega) H.out.2.1 11
      have HRD := Lib.hid (show Fr.readN sign most l = if Fr.sumFits l = false then ⟨0, 0, 0, 6⟩ else if l.getD 0 0 ≠ sign ∨ most < l.getD 2 0 then ⟨0, 0, 0, 5⟩ else ⟨l.getD 1 0, l.getD 2 0, Fr.toSigned (Fr.numL ((l.take 11).drop 3)), 0⟩ by
        unfold Fr.readN; rw [if_neg (by rw [HL.out]; omega), if_neg (by rw [HL.out]; omega)])
      have HSF := Lib.hid (show Fr.sumFits l = decide (Crc.go 65535 (l.take 11) = (l.getD 11 0 * 256 + l.getD 12 0).toNat) from rfl)
      have HC := Lib.hid hc
      clear hc
      rw [HRD.out]
      generalize l.getD 0 0 = x0 at *
      generalize l.getD 1 0 = x1 at *
      generalize l.getD 2 0 = x2 at *
      generalize l.getD 11 0 = x11 at *
      generalize l.getD 12 0 = x12 at *
      generalize hg : Crc.go 65535 (l.take 11) = y at *
      have HG := Lib.hid hg
      clear hg
      have hor : bits .or .u16 (x11 * 256) x12 = x11 * 256 + x12 := or_two b11.1 b11.2 b12.1 b12.2
      have QS : Hid (∀ nq, Calls Try.prog 25 #[.slice (some ⟨b, off, none⟩) 11 cap] (w.drewN nq) fun e w'' => e = .returned (.int .u16 y) ∧ ∃ m, w'' = w.drewN m) :=
        fun nq => Calls.quiet_of_same ((of_any (some ⟨b, off, none⟩) 11 cap (l.take 11) _ HL11.out (HR.out.below (below_drewN (Below.refl _ _) nq))).mono fun _ _ ⟨he, hw⟩ => ⟨by rw [he, HG.out], hw.symm⟩)
      cases hf : Fr.sumFits l with
      | false =>
        have hne : ((y : Int) == x11 * 256 + x12) = false := by
          rw [beq_eq_false_iff_ne]; intro h; rw [HSF.out, decide_eq_false_iff_not] at hf; omega
        simp only [if_true]
        rw [got_v]
        clear hf
        go_enter Try.func70, Try.ntmps70
        go_wp2_with fail
        go_quiet (first | (go_at_call 25; with_reducible exact QS.out _))
        go_wp2
        go_returns
        exact ⟨rfl, _, rfl⟩
      | true =>
        have heq : ((y : Int) == x11 * 256 + x12) = true := by
          rw [beq_iff_eq]; rw [HSF.out, decide_eq_true_iff] at hf; omega
        simp only [Bool.true_eq_false, if_false]
        clear hf
        have QW : Hid (∀ (w2 : World) nq, Calls Try.prog 74 #[.int .u8 sign] (w2.drewN nq) fun e w'' => e = .returned (.int .i64 most) ∧ ∃ m, w'' = w2.drewN m) :=
          fun w2 nq => Calls.quiet_of_same ((fword_any sign _).mono fun _ _ ⟨he, hw⟩ => ⟨by rw [he, HM.out], hw.symm⟩)
        by_cases hx : x0 = sign
        · by_cases hw : most < x2
          · rw [if_pos (Or.inr hw), got_v]
            have hd : decide (most < x2) = true := decide_eq_true hw
            subst hx
            go_enter Try.func70, Try.ntmps70
            go_wp2_with fail
            go_quiet (first | (go_at_call 25; with_reducible exact QS.out _))
            go_wp2_with fail
            obtain ⟨w2, hw2⟩ : ∃ w2, w2 = w.drewN nq := ⟨_, rfl⟩
            have W2 := Lib.hid hw2
            rw [← hw2]
            have c0' : w2.cell? ⟨b, off, none⟩ = some (.int .u8 x0) := by rw [hw2]; exact c0
            have c2' : w2.cell? ⟨b, off + 2, none⟩ = some (.int .u8 x2) := by rw [hw2]; exact c2
            clear hw2 c0 c1 c2 c11 c12
            go_quiet (first | (go_at_call 74; with_reducible exact QW.out _ _))
            go_wp2
            go_returns
            exact ⟨rfl, _, by rw [W2.out, World.drewN_drewN]⟩
          · rw [if_neg (by intro h; rcases h with h | h; exact h hx; exact hw h), got_v]
            have hd : decide (most < x2) = false := decide_eq_false hw
            subst hx
            clear hw
            go_enter Try.func70, Try.ntmps70
            go_wp2_with fail
            go_quiet (first | (go_at_call 25; with_reducible exact QS.out _))
            go_wp2_with fail
            obtain ⟨w2, hw2⟩ : ∃ w2, w2 = w.drewN nq := ⟨_, rfl⟩
            have W2 := Lib.hid hw2
            rw [← hw2]
            have c0' : w2.cell? ⟨b, off, none⟩ = some (.int .u8 x0) := by rw [hw2]; exact c0
            have c2' : w2.cell? ⟨b, off + 2, none⟩ = some (.int .u8 x2) := by rw [hw2]; exact c2
            have C1 := Lib.hid c1
            have C2 := Lib.hid c2
            clear hw2 c0 c1 c2 c11 c12
            go_quiet (first | (go_at_call 74; with_reducible exact QW.out _ _))
            go_wp2_with fail
            obtain ⟨w3, hw3⟩ : ∃ w3, w3 = w2.drewN nq := ⟨_, rfl⟩
            have W3 := Lib.hid hw3
            rw [← hw3]
            clear hw3 c0' c2'
            have HPB := Lib.hid (show Crc.Bytes ((l.take 11).drop 3) from fun z hz => H.out.2.1 z (List.mem_of_mem_take (List.mem_of_mem_drop hz)))
            have HPL := Lib.hid (show ((l.take 11).drop 3).length = 8 by have := HL.out; simp; omega)
            go_loop [8, 52] (fun n i => ∃ k : Nat, k ≤ 8 ∧ i = .int .i64 k ∧ n = .int .u64 (Fr.numL (((l.take 11).drop 3).take k))) (fun _ i => 8 - (intOf i).toNat)
            case atStart => exact ⟨0, by omega, rfl, rfl⟩
            case round =>
              obtain ⟨k, hk, rfl, rfl⟩ := hrel
              by_cases hlt : k < 8
              · have HX := Lib.hid (Fr.drop_at l k hlt)
                have hcx : w3.cell? ⟨b, off + 3 + k, none⟩ = some (.int .u8 (l.getD (3 + k) 0)) := by
                  rw [W3.out, W2.out]; have := HC.out (3 + k) (by omega); rw [← Nat.add_assoc] at this; exact this
                have hbx := Crc.bytes_at H.out.2.1 (3 + k)
                have hn := Fr.num_56 _ HPB.out k (by omega)
                have HS := Lib.hid (Fr.num_snoc ((l.take 11).drop 3) k (by have := HPL.out; omega))
                generalize l.getD (3 + k) 0 = z at *
                generalize Fr.numL (((l.take 11).drop 3).take k) = n at *
                go_wp2
                go_round
                case rel => exact ⟨k + 1, by omega, by go_num, by rw [HS.out, HX.out, or_low64 hn.1 hn.2 hbx.1 hbx.2]⟩
                case measure => simp [intOf]; omega
              · obtain rfl : k = 8 := by omega
                have d1 : w3.cell? ⟨b, off + 1, none⟩ = some (.int .u8 x1) := by rw [W3.out, W2.out]; exact C1.out
                have d2 : w3.cell? ⟨b, off + 2, none⟩ = some (.int .u8 x2) := by rw [W3.out, W2.out]; exact C2.out
                rw [show (List.drop 3 (List.take 11 l)).take 8 = List.drop 3 (List.take 11 l) from List.take_of_length_le (by rw [HPL.out]; omega)]
                generalize hgn : Fr.numL ((l.take 11).drop 3) = n at *
                have HN := Lib.hid hgn
                clear hgn
                go_wp2_with fail
                go_quiet (fail)
                go_wp2
                go_returns
                refine ⟨ret_tup (by rw [HN.out]; unfold RowKit.wrap64 Fr.toSigned; rfl), _, by rw [W3.out, W2.out, World.drewN_drewN, World.drewN_drewN]⟩
        · rw [if_pos (Or.inl hx), got_v]
          have hd : (x0 == sign) = false := beq_eq_false_iff_ne.2 hx
          have hd2 : (x0 != sign) = true := by rw [bne_iff_ne]; exact hx
          clear hx
          go_enter Try.func70, Try.ntmps70
          go_wp2_with fail
          go_quiet (first | (go_at_call 25; with_reducible exact QS.out _))
          go_wp2_with fail
          obtain ⟨w2, hw2⟩ : ∃ w2, w2 = w.drewN nq := ⟨_, rfl⟩
          have W2 := Lib.hid hw2
          rw [← hw2]
          have c0' : w2.cell? ⟨b, off, none⟩ = some (.int .u8 x0) := by rw [hw2]; exact c0
          clear hw2 c0 c1 c2 c11 c12
          go_quiet (fail)
          go_wp2
          go_returns
          exact ⟨rfl, _, by rw [W2.out, World.drewN_drewN]⟩

def feedV (g : Fr.Got) : Value := .tuple #[.agg #[.int .i64 g.seq, .int .i64 g.word, .int .i64 g.place], .int .i64 g.err]

set_option maxHeartbeats 1000000 in
set_option maxRecDepth 100000 in
theorem readFeed_any (a : Option Addr) (len cap : Nat) (l : List Int) (w : World) (hl : l.length = len) (hc : len ≤ cap) (h : Reads w a l) :
    Calls Try.prog 39 #[.slice a len cap] w fun e w' => e = .returned (feedV (Fr.readN 70 127 l)) ∧ Below w.heap.size w w' := by
  have HR := Lib.hid (h.below ((Below.refl w.heap.size w).alloc (Nat.le_refl _) (.cells #[.int .i64 0, .int .i64 0, .int .i64 0] 49)))
  clear h
  obtain ⟨g, hg⟩ : ∃ g, Fr.readN 70 127 l = g := ⟨_, rfl⟩
  have HG := Lib.hid hg
  rw [hg]
  clear hg
  obtain ⟨x, y, z, t⟩ := g
  go_enter Try.func39, Try.ntmps39
  go_wp2_with fail
  refine (read_any 70 127 a len cap l _ rfl hl hc HR.out).mono ?_
  rw [HG.out, got_v]
  rintro e w' ⟨rfl, n, rfl⟩
  go_wp2
  go_returns
  exact ⟨rfl, (((below_drewN ((Below.refl w.heap.size w).alloc (Nat.le_refl _) _) n).setCell (Nat.le_refl _) _).setCell (Nat.le_refl _) _).setCell (Nat.le_refl _) _⟩
set_option maxHeartbeats 1000000 in
set_option maxRecDepth 100000 in
theorem readSet_any (a : Option Addr) (len cap : Nat) (l : List Int) (w : World) (hl : l.length = len) (hc : len ≤ cap) (h : Reads w a l) :
    Calls Try.prog 44 #[.slice a len cap] w fun e w' => e = .returned (feedV (Fr.readN 83 7 l)) ∧ Below w.heap.size w w' := by
  have HR := Lib.hid (h.below ((Below.refl w.heap.size w).alloc (Nat.le_refl _) (.cells #[.int .i64 0, .int .i64 0, .int .i64 0] 56)))
  clear h
  obtain ⟨g, hg⟩ : ∃ g, Fr.readN 83 7 l = g := ⟨_, rfl⟩
  have HG := Lib.hid hg
  rw [hg]
  clear hg
  obtain ⟨x, y, z, t⟩ := g
  go_enter Try.func44, Try.ntmps44
  go_wp2_with fail
  refine (read_any 83 7 a len cap l _ rfl hl hc HR.out).mono ?_
  rw [HG.out, got_v]
  rintro e w' ⟨rfl, n, rfl⟩
  go_wp2
  go_returns
  exact ⟨rfl, (((below_drewN ((Below.refl w.heap.size w).alloc (Nat.le_refl _) _) n).setCell (Nat.le_refl _) _).setCell (Nat.le_refl _) _).setCell (Nat.le_refl _) _⟩
end Go.Proofs.Ytnabpdengfmeaaa
