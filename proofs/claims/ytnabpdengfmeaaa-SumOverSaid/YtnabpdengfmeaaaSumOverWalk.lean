/- The law SumOver of layer 2, walked. -/
import Derived.Test.YtnabpdengfmeaaaSumBurstWalk
import Derived.Deep.RegionHeld3
namespace Go.Proofs.Ytnabpdengfmeaaa
open Go.RowKit

/-- three texts laid over one another, as far as all go -/
def over3 (a b c : List Int) (n : Nat) : List Int := (List.range n).map fun i => x8 (x8 (a.getD i 0) (b.getD i 0)) (c.getD i 0)
theorem over3_len (a b c : List Int) (n : Nat) : (over3 a b c n).length = n := by simp [over3]
theorem over3_succ (a b c : List Int) (n : Nat) : over3 a b c (n + 1) = over3 a b c n ++ [x8 (x8 (a.getD n 0) (b.getD n 0)) (c.getD n 0)] := by
  simp [over3, List.range_succ]
theorem x8_nat (x y : Nat) (hx : x < 256) (hy : y < 256) : x8 (x : Int) (y : Int) = ((x ^^^ y : Nat) : Int) := u8_xor_nat x y hx hy

theorem x8_three {a b c : Int} (a0 : 0 ≤ a) (a1 : a < 256) (b0 : 0 ≤ b) (b1 : b < 256) (c0 : 0 ≤ c) (c1 : c < 256) : (x8 (x8 a b) c).toNat = a.toNat ^^^ b.toNat ^^^ c.toNat := by
  obtain ⟨x, rfl⟩ := Int.eq_ofNat_of_zero_le a0
  obtain ⟨y, rfl⟩ := Int.eq_ofNat_of_zero_le b0
  obtain ⟨z, rfl⟩ := Int.eq_ofNat_of_zero_le c0
  have hlt : x ^^^ y < 2 ^ 8 := Nat.xor_lt_two_pow (by omega) (by omega)
  rw [x8_nat _ _ (by omega) (by omega), x8_nat _ _ (by omega) (by omega)]
  simp

theorem byte_xor (s t x y : Nat) : Crc.byte (s ^^^ t) (x ^^^ y) = Crc.byte s x ^^^ Crc.byte t y := by
  unfold Crc.byte
  have e : (x ^^^ y) * 256 = x * 256 ^^^ y * 256 := by
    have h : (x ^^^ y) <<< 8 = x <<< 8 ^^^ y <<< 8 := Nat.shiftLeft_xor_distrib
    simpa [Nat.shiftLeft_eq] using h
  rw [e, ← Crc.bits_xor]
  congr 1
  ac_rfl

theorem over_sum (a b c : List Int) (ha : Crc.Bytes a) (hb : Crc.Bytes b) (hc : Crc.Bytes c) (r s t : Nat) : ∀ n, n ≤ a.length → n ≤ b.length → n ≤ c.length →
    Crc.go (r ^^^ s ^^^ t) (over3 a b c n) = Crc.go r (a.take n) ^^^ Crc.go s (b.take n) ^^^ Crc.go t (c.take n) := by
  intro n
  induction n with
  | zero => intro _ _ _; simp [over3, Crc.go]
  | succ n ih =>
    intro h1 h2 h3
    have k1 := Crc.bytes_at ha n
    have k2 := Crc.bytes_at hb n
    have k3 := Crc.bytes_at hc n
    rw [over3_succ, Crc.go_append, ih (by omega) (by omega) (by omega), Crc.go_snoc _ _ _ (by omega), Crc.go_snoc _ _ _ (by omega), Crc.go_snoc _ _ _ (by omega), ← byte_xor, ← byte_xor]
    have e := x8_three k1.1 k1.2 k2.1 k2.2 k3.1 k3.2
    simp only [Crc.go, List.foldl_cons, List.foldl_nil]
    rw [e]
theorem over3_bytes {a b c : List Int} (ha : Crc.Bytes a) (hb : Crc.Bytes b) (hc : Crc.Bytes c) (n : Nat) : Crc.Bytes (over3 a b c n) := by
  intro z hz
  obtain ⟨i, _, rfl⟩ := List.mem_map.1 hz
  have k1 := Crc.bytes_at ha i
  have k2 := Crc.bytes_at hb i
  have k3 := Crc.bytes_at hc i
  have h1 := x8_in k1.1 (by omega) k2.1 (by omega)
  have h2 := x8_in h1.1 h1.2 k3.1 (by omega)
  omega

theorem run_min4 (w : World) (a b c : Nat) : (Builtin.min_ #[3, 3, 3, 3] 3 #[.int .i64 a, .int .i64 b, .int .i64 c, .int .i64 1000]).run Try.prog w = .ok (.int .i64 (min (min (min a b) c) 1000 : Nat)) w := by
  simp only [Builtin.min_, List.foldlM, Builtin.min2]
  simp
  omega

set_option maxHeartbeats 2000000 in
set_option maxRecDepth 100000 in
theorem sumOver (a b c : Option Addr) (lenA capA lenB capB lenC capC : Nat) (la lb lc : List Int) (w : World)
    (hla : la.length = lenA) (hcapA : lenA ≤ capA) (ha : Reads w a la) (hlb : lb.length = lenB) (hcapB : lenB ≤ capB) (hb : Reads w b lb) (hlc : lc.length = lenC) (hcapC : lenC ≤ capC) (hc : Reads w c lc) :
    Calls Try.prog 6 #[.slice a lenA capA, .slice b lenB capB, .slice c lenC capC] w fun e w' => e = .returned (.bool true) ∧ Below w.heap.size w w' := by
  have HA := Lib.hid ha; clear ha
  have HB := Lib.hid hb; clear hb
  have HC := Lib.hid hc; clear hc
  have HLA := Lib.hid hla; clear hla
  have HLB := Lib.hid hlb; clear hlb
  have HLC := Lib.hid hlc; clear hlc
  go_enter Try.func6, Try.ntmps6
  go_wp2_with fail
  refine (awake02 _).mono ?_
  rintro e w1 ⟨rfl, hb⟩
  have HA1 := Lib.hid (HA.out.below hb)
  have HB1 := Lib.hid (HB.out.below hb)
  have HC1 := Lib.hid (HC.out.below hb)
  have H1 := Lib.hid hb; clear hb
  clear HA HB HC
  have hmin := run_min4 w1 lenA lenB lenC
  obtain ⟨n, hn⟩ : ∃ n, n = min (min (min lenA lenB) lenC) 1000 := ⟨_, rfl⟩
  rw [← hn] at hmin
  have hna : n ≤ lenA := by omega
  have hnb : n ≤ lenB := by omega
  have hnc : n ≤ lenC := by omega
  have hn1 : n ≤ 1000 := by omega
  clear hn
  go_wp2_with fail
  clear hmin
  go_loopw [8, 9] (fun v i wr => ∃ k : Nat, k ≤ n ∧ i = .int .i64 k ∧ Own wr w1.heap.size v (over3 la lb lc k) ∧ Below w1.heap.size w1 wr) (fun _ i _ => n - (intOf i).toNat)
  case atStart => exact ⟨0, Nat.zero_le _, rfl, Own.nil _ _, Below.refl _ _⟩
  case round =>
    obtain ⟨k, hk, rfl, hown, hbel⟩ := hrel
    by_cases hlt : k < n
    · obtain ⟨ba, oa, rfl, hba, hca⟩ := HA1.out.spot k (by have := HLA.out; omega)
      obtain ⟨bb, ob, rfl, hbb, hcb⟩ := HB1.out.spot k (by have := HLB.out; omega)
      obtain ⟨bc, oc, rfl, hbc, hcc⟩ := HC1.out.spot k (by have := HLC.out; omega)
      have ka := Crc.bytes_at HA1.out.2.1 k
      have kb := Crc.bytes_at HB1.out.2.1 k
      have kc := Crc.bytes_at HC1.out.2.1 k
      have E := Lib.hid (over3_succ la lb lc k)
      generalize la.getD k 0 = x at *
      generalize lb.getD k 0 = y at *
      generalize lc.getD k 0 = z at *
      have ca := (hbel.cell hba).trans hca
      have cb := (hbel.cell hbb).trans hcb
      have cc := (hbel.cell hbc).trans hcc
      have HO := Lib.hid hown
      have HW := Lib.hid hbel
      clear hown hbel hca hcb hcc
      have lt1 : k < lenA := by omega
      have lt2 : k < lenB := by omega
      have lt3 : k < lenC := by omega
      go_wp2_with fail
      have h1 := x8_in ka.1 (by omega) kb.1 (by omega)
      have h2 := x8_in h1.1 h1.2 kc.1 (by omega)
      have HN := Lib.hid (show Reads (World.alloc wr (.cells #[.int .u8 (x8 (x8 x y) z)] 5)).drew (some ⟨wr.heap.size, 0, none⟩) [x8 (x8 x y) z] from (reads_new wr [x8 (x8 x y) z] 5 (0, 0) (by simp) (by intro q hq; simp at hq; omega)).below (Below.refl _ _).drew)
      have HL := Lib.hid (over3_len la lb lc k)
      have hbw := HW.out.size
      go_region_held3 (fun w' => w'.cell? ⟨ba, oa + k, none⟩ = some (.int .u8 x) ∧ w'.cell? ⟨bb, ob + k, none⟩ = some (.int .u8 y) ∧ w'.cell? ⟨bc, oc + k, none⟩ = some (.int .u8 z))
        (first
          | go_keep
          | (go_split_ands
             refine ⟨?_, ?_, ?_⟩
             · (rw [hb.cell (by exact hba)]; assumption)
             · (rw [hb.cell (by exact hbb)]; assumption)
             · (rw [hb.cell (by exact hbc)]; assumption)))
        ((refine step_append_bytes (by rfl) (.tmp 24) (.tmp 39) (by rfl) w1.heap.size _ _ (by rfl) (HO.out.below (((Below.refl _ _).alloc (Nat.le_refl _) _).drew)) _ _ _ [x8 (x8 x y) z] (by rfl) rfl HN.out (by rw [HL.out]; simp; omega) (by simp; omega) ?_; intro v4 w4 hown hb))
      have HO4 := Lib.hid hown
      have HB4 := Lib.hid hb
      clear hown hb
      go_wp2
      go_roundw
      case rel => exact ⟨k + 1, by omega, by go_num, by rw [E.out]; exact HO4.out, (HW.out.alloc HW.out.size _).drew.trans HB4.out⟩
      case measure => simp [intOf]; omega
    · obtain rfl : k = n := by omega
      have hs := over_sum la lb lc HA1.out.2.1 HB1.out.2.1 HC1.out.2.1 65535 65535 65535 k (by have := HLA.out; omega) (by have := HLB.out; omega) (by have := HLC.out; omega)
      have ea : (la.take k).length = k := by have := HLA.out; simp; omega
      have eb : (lb.take k).length = k := by have := HLB.out; simp; omega
      have ec : (lc.take k).length = k := by have := HLC.out; simp; omega
      have EA := Lib.hid ea
      have EB := Lib.hid eb
      have EC := Lib.hid ec
      clear ea eb ec
      have HA2 := Lib.hid ((HA1.out.below hbel).take k)
      have HB2 := Lib.hid ((HB1.out.below hbel).take k)
      have HC2 := Lib.hid ((HC1.out.below hbel).take k)
      obtain ⟨x, capX, hv, hxc, hr⟩ := hown.form
      have HX := Lib.hid hr
      have ha := Crc.go_lt (la.take k) 65535 (by omega) HA2.out.2.1
      have hb := Crc.go_lt (lb.take k) 65535 (by omega) HB2.out.2.1
      have hc := Crc.go_lt (lc.take k) 65535 (by omega) HC2.out.2.1
      have H2 := Lib.hid (H1.out.trans (hbel.mono H1.out.size))
      have HL := Lib.hid (over3_len la lb lc k)
      clear hown hbel hxc hr H1 HA1 HB1 HC1
      subst hv
      rw [show (65535 : Nat) ^^^ 65535 ^^^ 65535 = 65535 from by decide] at hs
      generalize over3 la lb lc k = lx at *
      generalize la.take k = la' at *
      generalize lb.take k = lb' at *
      generalize lc.take k = lc' at *
      have HS := Lib.hid hs; clear hs
      generalize g1 : Crc.go 65535 lx = yx at *
      generalize g2 : Crc.go 65535 la' = ya at *
      generalize g3 : Crc.go 65535 lb' = yb at *
      generalize g4 : Crc.go 65535 lc' = yc at *
      have G1 := Lib.hid g1
      have G2 := Lib.hid g2
      have G3 := Lib.hid g3
      have G4 := Lib.hid g4
      clear g1 g2 g3 g4
      rw [HL.out]
      have E : ((yx : Int) == bits .xor .u16 (bits .xor .u16 (ya : Int) (yb : Int)) (yc : Int)) = true := by
        rw [u16_xor_nat _ _ ha hb, u16_xor_nat _ _ (Nat.xor_lt_two_pow (n := 16) ha hb) hc, HS.out]; simp
      have Q1 : Hid (∀ nq, Calls Try.prog 25 #[.slice x k capX] (wr.drewN nq) fun e w'' => e = .returned (.int .u16 yx) ∧ ∃ m, w'' = wr.drewN m) :=
        fun nq => Calls.quiet_of_same ((of_any x k capX lx _ HL.out (HX.out.below (below_drewN (Below.refl _ _) nq))).mono fun _ _ ⟨he, hw⟩ => ⟨by rw [he, G1.out], hw.symm⟩)
      have Q2 : Hid (∀ nq, Calls Try.prog 25 #[.slice a k capA] (wr.drewN nq) fun e w'' => e = .returned (.int .u16 ya) ∧ ∃ m, w'' = wr.drewN m) :=
        fun nq => Calls.quiet_of_same ((of_any a k capA la' _ EA.out (HA2.out.below (below_drewN (Below.refl _ _) nq))).mono fun _ _ ⟨he, hw⟩ => ⟨by rw [he, G2.out], hw.symm⟩)
      have Q3 : Hid (∀ nq, Calls Try.prog 25 #[.slice b k capB] (wr.drewN nq) fun e w'' => e = .returned (.int .u16 yb) ∧ ∃ m, w'' = wr.drewN m) :=
        fun nq => Calls.quiet_of_same ((of_any b k capB lb' _ EB.out (HB2.out.below (below_drewN (Below.refl _ _) nq))).mono fun _ _ ⟨he, hw⟩ => ⟨by rw [he, G3.out], hw.symm⟩)
      have Q4 : Hid (∀ nq, Calls Try.prog 25 #[.slice c k capC] (wr.drewN nq) fun e w'' => e = .returned (.int .u16 yc) ∧ ∃ m, w'' = wr.drewN m) :=
        fun nq => Calls.quiet_of_same ((of_any c k capC lc' _ EC.out (HC2.out.below (below_drewN (Below.refl _ _) nq))).mono fun _ _ ⟨he, hw⟩ => ⟨by rw [he, G4.out], hw.symm⟩)
      go_wp2_with fail
      go_quiet (first | (go_at_call 25; with_reducible exact Q1.out _) | (go_at_call 25; with_reducible exact Q2.out _) | (go_at_call 25; with_reducible exact Q3.out _) | (go_at_call 25; with_reducible exact Q4.out _))
      go_wp2
      go_ret
      exact ⟨rfl, below_drewN H2.out _⟩
end Go.Proofs.Ytnabpdengfmeaaa
