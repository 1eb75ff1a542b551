/- Layer 7: what drive.Come and servitorref07.Come give, of any drive and any bytes. -/
import Derived.Test.YtnabpdengfmeaaaDriveCome
import Derived.Test.YtnabpdengfmeaaaDriveComeYes
import Derived.Test.YtnabpdengfmeaaaDriveRefNo
import Derived.Test.YtnabpdengfmeaaaDriveRefYes
namespace Go.Proofs.Ytnabpdengfmeaaa
open Go.RowKit

def zeroD : Dr := ⟨0, ⟨0, 0, 0⟩, ⟨0, false, 0⟩, ⟨0, false, 0⟩, ⟨0, false, 0⟩, 0, false, 0⟩
/-- is the bit m set -/
def onB (td m : Int) : Bool := bits .and .i64 td m != 0
/-- what a right drive makes of what its watch took -/
def tookD (d : Dr) (T : Took) : Dr :=
  if T.ok = true then ⟨stateN T.d, T.w, stepS d.p (onB T.d 16), stepS d.m (onB T.d 32), stepS d.h (onB T.d 64), T.p, true, d.q⟩ else ⟨d.st, T.w, d.p, d.m, d.h, d.a, d.k, d.q⟩
def comeD (d : Dr) (g : Fr.Got) : Dr := if rightD d = true then tookD d (comeG d.w g) else zeroD

theorem dcome_any (d : Dr) (ad : Option Addr) (len cap : Nat) (z : List Int) (w : World) (hl : z.length = len) (hcap : len ≤ cap) (h : Reads w ad z) :
    Calls Try.prog 60 #[d.val, .slice ad len cap] w fun e w' => e = .returned (comeD d (Fr.readN 70 127 z)).val ∧ Below w.heap.size w w' := by
  obtain ⟨st, ⟨wl, wm, wt⟩, ⟨pc, pv, po⟩, ⟨mc, mv, mo⟩, ⟨hc, hv, ho⟩, a, k, q⟩ := d
  rw [dr_val]
  cases hr : rightD ⟨st, ⟨wl, wm, wt⟩, ⟨pc, pv, po⟩, ⟨mc, mv, mo⟩, ⟨hc, hv, ho⟩, a, k, q⟩ with
  | false =>
    rw [show comeD ⟨st, ⟨wl, wm, wt⟩, ⟨pc, pv, po⟩, ⟨mc, mv, mo⟩, ⟨hc, hv, ho⟩, a, k, q⟩ (Fr.readN 70 127 z) = zeroD by simp [comeD, hr]]
    exact dcome_bad _ _ _ _ _ _ _ _ _ _ _ _ _ _ _ _ ad len cap w hr
  | true =>
    rw [show comeD ⟨st, ⟨wl, wm, wt⟩, ⟨pc, pv, po⟩, ⟨mc, mv, mo⟩, ⟨hc, hv, ho⟩, a, k, q⟩ (Fr.readN 70 127 z) = tookD ⟨st, ⟨wl, wm, wt⟩, ⟨pc, pv, po⟩, ⟨mc, mv, mo⟩, ⟨hc, hv, ho⟩, a, k, q⟩ (comeG ⟨wl, wm, wt⟩ (Fr.readN 70 127 z)) by unfold comeD; rw [if_pos hr]]
    obtain ⟨T, hT⟩ : ∃ T, comeG ⟨wl, wm, wt⟩ (Fr.readN 70 127 z) = T := ⟨_, rfl⟩
    rw [hT]
    obtain ⟨⟨tl, tm, tt⟩, ts, td, tp, ok⟩ := T
    cases ok with
    | false => exact dcome_no _ _ _ _ _ _ _ _ _ _ _ _ _ _ _ _ ad len cap z w tl tm tt ts td tp hr hl hcap h hT
    | true => exact dcome_yes _ _ _ _ _ _ _ _ _ _ _ _ _ _ _ _ ad len cap z w _ _ _ _ _ _ _ _ _ tl tm tt ts td tp hr hl hcap h hT rfl rfl rfl

theorem on16 (td : Int) : onB td 16 = (td / 16 % 2 == 1) := by
  unfold onB; rw [and_bit td 4 16 (by decide) (by decide)]; simp only [Int.reducePow]
  rw [Bool.eq_iff_iff, bne_iff_ne, beq_iff_eq]; omega
theorem on32 (td : Int) : onB td 32 = (td / 32 % 2 == 1) := by
  unfold onB; rw [and_bit td 5 32 (by decide) (by decide)]; simp only [Int.reducePow]
  rw [Bool.eq_iff_iff, bne_iff_ne, beq_iff_eq]; omega
theorem on64 (td : Int) : onB td 64 = (td / 64 % 2 == 1) := by
  unfold onB; rw [and_bit td 6 64 (by decide) (by decide)]; simp only [Int.reducePow]
  rw [Bool.eq_iff_iff, bne_iff_ne, beq_iff_eq]; omega

theorem comeG_bd {x : Wt} {sign : Int} {L : List Int} (hB : Crc.Bytes L) {tl tm tt ts td tp : Int} (h : comeG x (Fr.readN sign 127 L) = ⟨⟨tl, tm, tt⟩, ts, td, tp, true⟩) : 0 ≤ td ∧ td ≤ 127 := by
  unfold comeG at h
  split at h
  · split at h
    · rename_i h1 h2
      have q := readN_ok sign hB h2.1
      injection h with _ _ e _ _
      omega
    · injection h with _ _ _ _ e; simp at e
  · injection h with _ _ _ _ e; simp at e

theorem rightD_sw {d : Dr} (h : rightD d = true) : rightB d.p = true ∧ rightB d.m = true ∧ rightB d.h = true := by
  unfold rightD at h; simp only [Bool.and_eq_true] at h; exact ⟨h.1.1.1.1.1.1.1.1.1.1, h.1.1.1.1.1.1.1.1.1.2, h.1.1.1.1.1.1.1.1.2⟩

theorem rdcome_any (d : Dr) (ad : Option Addr) (len cap : Nat) (z : List Int) (w : World) (hr : rightD d = true) (hl : z.length = len) (hcap : len ≤ cap) (h : Reads w ad z) :
    Calls Try.prog 66 #[d.val, .slice ad len cap] w fun e w' => e = .returned (comeD d (Fr.readN 70 127 z)).val ∧ Below w.heap.size w w' := by
  obtain ⟨st, ⟨wl, wm, wt⟩, ⟨pc, pv, po⟩, ⟨mc, mv, mo⟩, ⟨hc, hv, ho⟩, a, k, q⟩ := d
  obtain ⟨g1, g2, g3⟩ := rightD_sw hr
  rw [dr_val, show comeD ⟨st, ⟨wl, wm, wt⟩, ⟨pc, pv, po⟩, ⟨mc, mv, mo⟩, ⟨hc, hv, ho⟩, a, k, q⟩ (Fr.readN 70 127 z) = tookD ⟨st, ⟨wl, wm, wt⟩, ⟨pc, pv, po⟩, ⟨mc, mv, mo⟩, ⟨hc, hv, ho⟩, a, k, q⟩ (comeG ⟨wl, wm, wt⟩ (Fr.readN 70 127 z)) by unfold comeD; rw [if_pos hr]]
  obtain ⟨T, hT⟩ : ∃ T, comeG ⟨wl, wm, wt⟩ (Fr.readN 70 127 z) = T := ⟨_, rfl⟩
  rw [hT]
  obtain ⟨⟨tl, tm, tt⟩, ts, td, tp, ok⟩ := T
  cases ok with
  | false => exact rdcome_no _ _ _ _ _ _ _ _ _ _ _ _ _ _ _ _ ad len cap z w tl tm tt ts td tp hl hcap h hT
  | true =>
    obtain ⟨b0, b1⟩ := comeG_bd h.2.1 hT
    have e1 : stepS ⟨pc, pv, po⟩ (td / 16 % 2 == 1) = stepS ⟨pc, pv, po⟩ (onB td 16) := by rw [on16]
    have e2 : stepS ⟨mc, mv, mo⟩ (td / 32 % 2 == 1) = stepS ⟨mc, mv, mo⟩ (onB td 32) := by rw [on32]
    have e3 : stepS ⟨hc, hv, ho⟩ (td / 64 % 2 == 1) = stepS ⟨hc, hv, ho⟩ (onB td 64) := by rw [on64]
    exact rdcome_yes _ _ _ _ _ _ _ _ _ _ _ _ _ _ _ _ ad len cap z w _ _ _ _ _ _ _ _ _ tl tm tt ts td tp hl hcap h hT b0 b1 g1 g2 g3 e1 e2 e3
end Go.Proofs.Ytnabpdengfmeaaa
