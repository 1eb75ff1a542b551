/- The law SumBurst of layer 2, walked. -/
import Derived.Test.YtnabpdengfmeaaaSumMore
namespace Go.Proofs.Ytnabpdengfmeaaa
open Go.RowKit

def x8 (x c : Int) : Int := bits .xor .u8 x c
theorem x8_def (x c : Int) : bits .xor .u8 x c = x8 x c := rfl
theorem x8_is {x c : Int} (h0 : 0 ≤ x) (h1 : x ≤ 255) (h2 : 0 ≤ c) (h3 : c ≤ 255) : x8 x c = ((x.toNat ^^^ c.toNat : Nat) : Int) := u8_xor x c h0 (by omega) h2 (by omega)
theorem x8_in {x c : Int} (h0 : 0 ≤ x) (h1 : x ≤ 255) (h2 : 0 ≤ c) (h3 : c ≤ 255) : 0 ≤ x8 x c ∧ x8 x c ≤ 255 := by
  rw [x8_is h0 h1 h2 h3]
  have : x.toNat ^^^ c.toNat < 2 ^ 8 := Nat.xor_lt_two_pow (by omega) (by omega)
  omega
theorem x8_same {x c : Int} (h0 : 0 ≤ x) (h1 : x ≤ 255) (h2 : 0 ≤ c) (h3 : c ≤ 255) : x8 x c = x ↔ c = 0 := by
  rw [x8_is h0 h1 h2 h3]
  constructor
  · intro h
    have e : x.toNat ^^^ c.toNat = x.toNat := by omega
    have e2 := congrArg (fun z => x.toNat ^^^ z) e
    simp only [← Nat.xor_assoc, Nat.xor_self, Nat.zero_xor] at e2
    omega
  · intro h
    subst h
    simp; omega

theorem burst (s : Nat) (la lb : List Int) (x y c d : Int) (hs : s < 65536) (ha : Crc.Bytes la) (hb : Crc.Bytes lb)
    (hx0 : 0 ≤ x) (hx1 : x ≤ 255) (hy0 : 0 ≤ y) (hy1 : y ≤ 255) (hc0 : 0 ≤ c) (hc1 : c ≤ 255) (hd0 : 0 ≤ d) (hd1 : d ≤ 255) :
    Crc.go s (la ++ [x, y] ++ lb) = Crc.go s (la ++ [x8 x c, x8 y d] ++ lb) ↔ c = 0 ∧ d = 0 := by
  have h1 := x8_in hx0 hx1 hc0 hc1
  have h2 := x8_in hy0 hy1 hd0 hd1
  constructor
  · intro h
    rw [Crc.go_append, Crc.go_append, Crc.go_append _ (la ++ _), Crc.go_append s la] at h
    have hl := Crc.go_lt la s hs ha
    have k1 : Crc.go (Crc.go s la) [x, y] < 65536 := Crc.go_lt _ _ hl (by intro z hz; simp at hz; omega)
    have k2 : Crc.go (Crc.go s la) [x8 x c, x8 y d] < 65536 := Crc.go_lt _ _ hl (by intro z hz; simp at hz; omega)
    have h' := Crc.go_inj lb _ _ k1 k2 hb h
    obtain ⟨e1, e2⟩ := Crc.two_changed hl (show x.toNat < 256 by omega) (show y.toNat < 256 by omega) (show (x8 x c).toNat < 256 by omega) (show (x8 y d).toNat < 256 by omega) h'
    exact ⟨(x8_same hx0 hx1 hc0 hc1).1 (by omega), (x8_same hy0 hy1 hd0 hd1).1 (by omega)⟩
  · rintro ⟨rfl, rfl⟩
    rw [(x8_same hx0 hx1 hc0 hc1).2 rfl, (x8_same hy0 hy1 hd0 hd1).2 rfl]

set_option maxHeartbeats 2000000 in
set_option maxRecDepth 100000 in
theorem sumBurst (a b : Option Addr) (lenA capA lenB capB : Nat) (la lb : List Int) (x y c d : Int) (w : World)
    (hla : la.length = lenA) (hcapA : lenA ≤ capA) (ha : Reads w a la) (hlb : lb.length = lenB) (hcapB : lenB ≤ capB) (hb : Reads w b lb)
    (hx0 : 0 ≤ x) (hx1 : x ≤ 255) (hy0 : 0 ≤ y) (hy1 : y ≤ 255) (hc0 : 0 ≤ c) (hc1 : c ≤ 255) (hd0 : 0 ≤ d) (hd1 : d ≤ 255) :
    Calls Try.prog 5 #[.slice a lenA capA, .int .u8 x, .int .u8 y, .slice b lenB capB, .int .u8 c, .int .u8 d] w fun e w' => e = .returned (.bool true) ∧ Below w.heap.size w w' := by
  have HA := Lib.hid ha; clear ha
  have HB := Lib.hid hb; clear hb
  have HLA := Lib.hid hla; clear hla
  have HLB := Lib.hid hlb; clear hlb
  have DA : (2000 : Int) < (lenA : Int) ∨ (lenA : Int) ≤ 2000 := by omega
  have DB : (2000 : Int) < (lenB : Int) ∨ (lenB : Int) ≤ 2000 := by omega
  have hx8 := x8_in hx0 hx1 hc0 hc1
  have hy8 := x8_in hy0 hy1 hd0 hd1
  rcases DA with DA | DA <;> rcases DB with DB | DB
  all_goals
    go_enter Try.func5, Try.ntmps5
    go_wp2_with fail
    refine (awake02 _).mono ?_
    rintro e w1 ⟨rfl, hb⟩
    have HA1 := Lib.hid ((HA.out.below hb).take 2000)
    have HB1 := Lib.hid ((HB.out.below hb).take 2000)
    have H1 := Lib.hid hb; clear hb
    go_wp2_with fail
    go_quiet (fail)
    have HB2 := Lib.hid ((show Below w1.heap.size w1 (w1.drewN nq) from below_drewN (Below.refl _ _) nq))
    have HA3 := Lib.hid (HA1.out.below HB2.out)
    have HB3 := Lib.hid (HB1.out.below HB2.out)
    have H3 := Lib.hid (H1.out.trans (HB2.out.mono H1.out.size))
    go_wp2_with fail
    generalize w1.drewN nq = w2 at *
    clear HA1 HB1 HB2 H1
    refine (copy_any _ _ _ (la.take 2000) _ (cut_or HLA.out (by omega)) (by simp; omega) HA3.out).mono ?_
    rintro e w3 ⟨v, rfl, hown, hb⟩
    have HO := Lib.hid hown
    have H23 := Lib.hid hb
    have HN := Lib.hid (reads_new w3 [x, y] 5 (0, 0) (by simp) (by intro z hz; simp at hz; omega))
    have HB3' := Lib.hid (HB3.out.below hb)
    clear hown hb
    go_wp2_with (first | (at_builtin; refine wpList_append_bytes rfl (.tmp 28) (.tmp 31) rfl w2.heap.size _ _ rfl (HO.out.below ((Below.refl _ _).alloc (Nat.le_refl _) _)) _ _ _ [x, y] rfl rfl HN.out (by simp; omega) (by have := H23.out.size; simp; omega) ?_; intro v4 w4 hown hb; have HO4 := Lib.hid hown; have HB4 := Lib.hid hb; clear hown hb) | (at_builtin; refine wpList_append_bytes rfl (.tmp 32) (.tmp 33) rfl w2.heap.size _ _ rfl HO4.out _ _ _ (lb.take 2000) rfl (cut_or HLB.out (by omega)) (HB3.out.below ((H23.out.alloc H23.out.size _).trans HB4.out)) (by simp; omega) (((H23.out.alloc H23.out.size _).trans HB4.out).size) ?_; intro v5 w5 hown hb; have HO5 := Lib.hid hown; have HB5 := Lib.hid hb; clear hown hb))
    have H25 := Lib.hid (((H23.out.alloc H23.out.size (.cells #[.int .u8 x, .int .u8 y] 5)).trans HB4.out).trans HB5.out)
    clear HO HN HB3' HO4 HB4 HB5 H23
    have HA6 := Lib.hid (HA3.out.below H25.out)
    have HB6 := Lib.hid (HB3.out.below H25.out)
    refine (copy_any _ _ _ (la.take 2000) _ (cut_or HLA.out (by omega)) (by simp; omega) HA6.out).mono ?_
    rintro e w6 ⟨u, rfl, hown, hb⟩
    have HO := Lib.hid hown
    have H56 := Lib.hid hb
    have HN := Lib.hid (reads_new w6 [x8 x c, x8 y d] 5 (0, 0) (by simp) (by intro z hz; simp at hz; omega))
    clear hown hb
    go_wp2_with (first | (at_builtin; refine wpList_append_bytes rfl (.tmp 36) (.tmp 43) rfl w5.heap.size _ _ rfl (HO.out.below ((Below.refl _ _).alloc (Nat.le_refl _) _)) _ _ _ [x8 x c, x8 y d] rfl rfl HN.out (by simp; omega) (by have := H56.out.size; simp; omega) ?_; intro v7 w7 hown hb; have HO7 := Lib.hid hown; have HB7 := Lib.hid hb; clear hown hb) | (at_builtin; refine wpList_append_bytes rfl (.tmp 44) (.tmp 45) rfl w5.heap.size _ _ rfl HO7.out _ _ _ (lb.take 2000) rfl (cut_or HLB.out (by omega)) (HB6.out.below ((H56.out.alloc H56.out.size _).trans HB7.out)) (by simp; omega) (((H56.out.alloc H56.out.size _).trans HB7.out).size) ?_; intro v8 w8 hown hb; have HO8 := Lib.hid hown; have HB8 := Lib.hid hb; clear hown hb))
    have H58 := Lib.hid (((H56.out.alloc H56.out.size (.cells #[.int .u8 (x8 x c), .int .u8 (x8 y d)] 5)).trans HB7.out).trans HB8.out)
    have HM := Lib.hid (HO5.out.below H58.out)
    have H8 := Lib.hid ((H3.out.trans (H25.out.mono H3.out.size)).trans (H58.out.mono (Nat.le_trans H3.out.size H25.out.size)))
    have BE := Lib.hid (burst 65535 (la.take 2000) (lb.take 2000) x y c d (by omega) HA6.out.2.1 HB6.out.2.1 hx0 hx1 hy0 hy1 hc0 hc1 hd0 hd1)
    clear HO HN HO7 HB7 HB8 H56 HA6 HB6 H25 HA3 HB3 H3 HO5 H58
    obtain ⟨m, capM, hv, hcc, hr⟩ := HM.out.form
    obtain ⟨n, capN, hv', hcc', hr'⟩ := HO8.out.form
    have RM := Lib.hid hr
    have RN := Lib.hid hr'
    clear hcc hcc' hr hr' HM HO8
    subst hv
    subst hv'
    generalize la.take 2000 ++ [x, y] ++ lb.take 2000 = lm at *
    generalize la.take 2000 ++ [x8 x c, x8 y d] ++ lb.take 2000 = ln at *
    refine (of_any _ _ _ lm _ rfl RM.out).mono ?_
    rintro e w' ⟨rfl, rfl⟩
    go_wp2_with fail
    refine (of_any _ _ _ ln _ rfl RN.out).mono ?_
    rintro e w' ⟨rfl, rfl⟩
    generalize Crc.go 65535 lm = ym at *
    generalize Crc.go 65535 ln = yn at *
    by_cases hc : c = 0
    · by_cases hd : d = 0
      · have e : ((ym : Int) == (yn : Int)) = true := by have := BE.out.2 ⟨hc, hd⟩; simp [this]
        subst hc
        subst hd
        go_wp2
        go_ret
        exact ⟨rfl, H8.out⟩
      · have e : ((ym : Int) == (yn : Int)) = false := by
          rw [beq_eq_false_iff_ne]; intro h; exact hd (BE.out.1 (by omega)).2
        have e2 : (d == 0) = false := beq_eq_false_iff_ne.2 hd
        subst hc
        clear hd
        go_wp2
        go_ret
        exact ⟨rfl, H8.out⟩
    · have e : ((ym : Int) == (yn : Int)) = false := by
        rw [beq_eq_false_iff_ne]; intro h; exact hc (BE.out.1 (by omega)).1
      have e2 : (c == 0) = false := beq_eq_false_iff_ne.2 hc
      clear hc
      go_wp2
      go_ret
      exact ⟨rfl, H8.out⟩
end Go.Proofs.Ytnabpdengfmeaaa
