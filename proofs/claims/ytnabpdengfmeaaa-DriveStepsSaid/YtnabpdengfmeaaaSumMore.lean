/- servitorref02.Copy; the laws SumPieces, SumBurst, SumOver of layer 2, walked. -/
import Derived.Test.YtnabpdengfmeaaaBytes
import Derived.BigQuiet
import Derived.Deep.QuietTactic
import Derived.StillTailTactics
namespace Go.Proofs.Ytnabpdengfmeaaa
open Go.RowKit

set_option maxHeartbeats 400000 in
theorem copy_any (a : Option Addr) (len cap : Nat) (l : List Int) (w : World) (hl : l.length = len) (hsm : l.length ≤ 10000000) (h : Reads w a l) :
    Calls Try.prog 29 #[.slice a len cap] w fun e w' => ∃ v, e = .returned v ∧ Own w' w.heap.size v l ∧ Below w.heap.size w w' := by
  have H := Lib.hid h; clear h
  have HL := Lib.hid hl; clear hl
  have ho : Own (w.alloc (.cells #[] 5)) w.heap.size (.slice (some ⟨w.heap.size, 0, none⟩) 0 0) [] := Own.made w w.heap.size [] (Nat.le_refl _) (by simp) (by simp [Crc.Bytes])
  have HO := Lib.hid ho; clear ho
  go_enter Try.func29, Try.ntmps29
  go_wp2_with (at_builtin; refine wpList_append_bytes rfl _ _ rfl w.heap.size _ _ rfl HO.out _ _ _ l rfl HL.out ((H.out.below ((Below.refl _ _).alloc (Nat.le_refl _) _))) (by simp; omega) (by simp) ?_; intro v w1 hown hb)
  go_ret
  exact ⟨v, rfl, hown, ((Below.refl _ _).alloc (Nat.le_refl _) _).trans hb⟩

theorem cut_or {l : List Int} {len m n : Nat} (hl : l.length = len) (h : ((m : Int) < (len : Int) ∧ n = m) ∨ ((len : Int) ≤ (m : Int) ∧ n = len)) : (l.take m).length = n := by
  simp; omega

set_option maxHeartbeats 1000000 in
set_option maxRecDepth 100000 in
theorem sumPieces (s : Nat) (a b : Option Addr) (lenA capA lenB capB : Nat) (la lb : List Int) (w : World) (hs : s < 65536)
    (hla : la.length = lenA) (hcapA : lenA ≤ capA) (ha : Reads w a la) (hlb : lb.length = lenB) (hcapB : lenB ≤ capB) (hb : Reads w b lb) :
    Calls Try.prog 4 #[.int .u16 s, .slice a lenA capA, .slice b lenB capB] w fun e w' => e = .returned (.bool true) ∧ Below w.heap.size w w' := by
  have HA := Lib.hid ha; clear ha
  have HB := Lib.hid hb; clear hb
  have HLA := Lib.hid hla; clear hla
  have HLB := Lib.hid hlb; clear hlb
  have DA : (2000 : Int) < (lenA : Int) ∨ (lenA : Int) ≤ 2000 := by omega
  have DB : (2000 : Int) < (lenB : Int) ∨ (lenB : Int) ≤ 2000 := by omega
  rcases DA with DA | DA <;> rcases DB with DB | DB
  all_goals
    go_enter Try.func4, Try.ntmps4
    go_wp2_with fail
    refine (awake02 _).mono ?_
    rintro e w1 ⟨rfl, hb⟩
    have HA1 := Lib.hid ((HA.out.below hb).take 2000)
    have HB1 := Lib.hid ((HB.out.below hb).take 2000)
    have H1 := Lib.hid hb; clear hb
    go_wp2_with fail
    go_quiet (fail)
    have HB2 := Lib.hid ((show Below w1.heap.size w1 (w1.drewN nq) from below_drewN (Below.refl _ _) nq))
    have HA3 := Lib.hid (HA1.out.below HB2.out)
    have HB3 := Lib.hid (HB1.out.below HB2.out)
    have H3 := Lib.hid (H1.out.trans (HB2.out.mono H1.out.size))
    go_wp2_with fail
    generalize w1.drewN nq = w2 at *
    clear HA1 HB1 HB2 H1
    refine (copy_any _ _ _ (la.take 2000) _ (cut_or HLA.out (by omega)) (by simp; omega) HA3.out).mono ?_
    rintro e w3 ⟨v, rfl, hown, hb⟩
    have HO := Lib.hid hown
    have HS := Lib.hid hb.size
    have HB23 := Lib.hid hb
    have HB3' := Lib.hid (HB3.out.below hb)
    clear hown hb
    go_wp2_with (at_builtin; refine wpList_append_bytes rfl _ _ rfl w2.heap.size _ _ rfl HO.out _ _ _ (lb.take 2000) rfl (cut_or HLB.out (by omega)) HB3'.out (by simp; omega) HS.out ?_; intro v4 w4 hown hb)
    have hb24 := HB23.out.trans hb
    have HA4 := Lib.hid (HA3.out.below hb24)
    have HB4 := Lib.hid (HB3.out.below hb24)
    have H4 := Lib.hid (H3.out.trans (hb24.mono H3.out.size))
    obtain ⟨c, capC, hv, hcc, hr⟩ := hown.form
    have HC4 := Lib.hid hr
    have hy1 : Crc.go 65535 (la.take 2000) < 65536 := Crc.go_lt _ _ (by omega) HA4.out.2.1
    have hy2 : Crc.go 65535 (la.take 2000 ++ lb.take 2000) < 65536 := Crc.go_lt _ _ (by omega) hr.2.1
    have hy3 : Crc.go s (la.take 2000) < 65536 := Crc.go_lt _ _ hs HA4.out.2.1
    have hy4 : Crc.go s (la.take 2000 ++ lb.take 2000) < 65536 := Crc.go_lt _ _ hs hr.2.1
    have E2 := Lib.hid (Crc.go_append 65535 (la.take 2000) (lb.take 2000))
    have E4 := Lib.hid (Crc.go_append s (la.take 2000) (lb.take 2000))
    clear hown hb hb24 hcc hr HA3 HB3 HB3' H3 HB23 HS HO
    subst hv
    generalize hn : la.take 2000 ++ lb.take 2000 = lc at *
    generalize hg1 : Crc.go 65535 (la.take 2000) = y1 at *
    generalize hg2 : Crc.go 65535 lc = y2 at *
    generalize hg3 : Crc.go s (la.take 2000) = y3 at *
    generalize hg4 : Crc.go s lc = y4 at *
    have G1 := Lib.hid hg1
    have G2 := Lib.hid hg2
    have G3 := Lib.hid hg3
    have G4 := Lib.hid hg4
    clear hn hg1 hg2 hg3 hg4
    refine (of_any _ _ _ (la.take 2000) _ (cut_or HLA.out (by omega)) HA4.out).mono ?_
    rw [G1.out]
    rintro e w' ⟨rfl, rfl⟩
    go_wp2_with fail
    refine (go_any _ _ _ _ (lb.take 2000) _ hy1 (cut_or HLB.out (by omega)) HB4.out).mono ?_
    rw [← E2.out]
    rintro e w' ⟨rfl, rfl⟩
    go_wp2_with fail
    refine (of_any _ _ _ lc _ rfl HC4.out).mono ?_
    rw [G2.out]
    rintro e w' ⟨rfl, rfl⟩
    go_wp2_with fail
    refine (go_any _ _ _ _ (la.take 2000) _ hs (cut_or HLA.out (by omega)) HA4.out).mono ?_
    rw [G3.out]
    rintro e w' ⟨rfl, rfl⟩
    go_wp2_with fail
    refine (go_any _ _ _ _ (lb.take 2000) _ hy3 (cut_or HLB.out (by omega)) HB4.out).mono ?_
    rw [← E4.out]
    rintro e w' ⟨rfl, rfl⟩
    go_wp2_with fail
    refine (go_any _ _ _ _ lc _ hs rfl HC4.out).mono ?_
    rw [G4.out]
    rintro e w' ⟨rfl, rfl⟩
    go_wp2
    go_ret
    exact ⟨rfl, H4.out⟩
end Go.Proofs.Ytnabpdengfmeaaa
