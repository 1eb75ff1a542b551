/- The two drawn regions of the law DriveTakes, each a lemma over a frame of letters. (Written by a program of mine, gen_takesregs.py.) -/
import Derived.Test.YtnabpdengfmeaaaDriveComeAll
import Derived.Test.YtnabpdengfmeaaaDriveLaws
import Derived.Test.YtnabpdengfmeaaaDriveKeep
import Derived.Test.YtnabpdengfmeaaaDriveMid
import Derived.Test.YtnabpdengfmeaaaRegionOf
import Derived.Deep.RegionHeld3
import Derived.Deep.DrawnRows
namespace Go.Proofs.Ytnabpdengfmeaaa
open Go.RowKit
set_option linter.unusedVariables false
attribute [local go_sem ↓] Go.wp_at_zero Go.wp_at_succ

theorem zc {w w5 : World} {c0 c1 c2 c3 c4 c5 c6 c7 c8 c9 c10 c11 c12 c13 c14 c15 : Value} {T : TypeId} (hb : Below (w.alloc (.cells #[c0, c1, c2, c3, c4, c5, c6, c7, c8, c9, c10, c11, c12, c13, c14, c15] T)).drew.heap.size (w.alloc (.cells #[c0, c1, c2, c3, c4, c5, c6, c7, c8, c9, c10, c11, c12, c13, c14, c15] T)).drew w5) : Cells w5 w.heap.size [c0, c1, c2, c3, c4, c5, c6, c7, c8, c9, c10, c11, c12, c13, c14, c15] := by
  have h : Cells (w.alloc (.cells #[c0, c1, c2, c3, c4, c5, c6, c7, c8, c9, c10, c11, c12, c13, c14, c15] T)).drew w.heap.size [c0, c1, c2, c3, c4, c5, c6, c7, c8, c9, c10, c11, c12, c13, c14, c15] := Cells.new w [c0, c1, c2, c3, c4, c5, c6, c7, c8, c9, c10, c11, c12, c13, c14, c15] T
  exact h.below hb

noncomputable def takesComeC : Code := (Try.f20.body.bind (regionOf 11)).getD .skip
set_option maxHeartbeats 8000000 in
set_option maxRecDepth 100000 in
theorem takesCome {Q : Exit → Act → World → Prop} {wr : World} {b ba oa k len cap : Nat} {ra : Option Addr} {rn rc : Nat} {z : List Int} {dst dwl dwm dwt dpc dpo dmc dmo dhc dho da dq xst xwl xwm xwt xpc xpo xmc xmo xhc xho xa xq : Int} {dpv dmv dhv dk xpv xmv xhv xk : Bool} {s0 s1 s3 s4 s5 s6 s8 s10 s11 s12 s13 s14 s15 s16 s17 s18 s19 s20 s21 s22 s23 s24 s25 s26 s27 s28 s29 s30 s31 s32 s33 s34 s35 s36 s37 s38 s39 s40 s41 s42 s43 s44 s45 s46 s47 s48 s49 s50 s51 s52 s53 s54 s55 s56 s57 s58 s59 s60 s61 s62 s63 s64 s65 s66 s67 s68 s69 s70 s71 s72 s73 s74 s75 s76 s77 s78 : Value}
    (hlt : k < len) (hlt3 : k < 300) (hlen : len ≤ 9223372036854775807) (hbr : ba < wr.heap.size) (hc : wr.cell? ⟨ba, oa + k, none⟩ = some (.slice ra rn rc)) (hnc : rn ≤ rc) (hzl : z.length = rn) (hz : Reads wr ra z)
    (hb : Cells wr b (Dr.cs ⟨dst, ⟨dwl, dwm, dwt⟩, ⟨dpc, dpv, dpo⟩, ⟨dmc, dmv, dmo⟩, ⟨dhc, dhv, dho⟩, da, dk, dq⟩)) (hx : comeD ⟨dst, ⟨dwl, dwm, dwt⟩, ⟨dpc, dpv, dpo⟩, ⟨dmc, dmv, dmo⟩, ⟨dhc, dhv, dho⟩, da, dk, dq⟩ (Fr.readN 70 127 z) = ⟨xst, ⟨xwl, xwm, xwt⟩, ⟨xpc, xpv, xpo⟩, ⟨xmc, xmv, xmo⟩, ⟨xhc, xhv, xho⟩, xa, xk, xq⟩)
    (hQ : ∀ (u39 u40 u41 u42 u43 u44 : Value) (bn : Nat) (wx : World), Cells wx bn (Dr.cs ⟨xst, ⟨xwl, xwm, xwt⟩, ⟨xpc, xpv, xpo⟩, ⟨xmc, xmv, xmo⟩, ⟨xhc, xhv, xho⟩, xa, xk, xq⟩) → wr.heap.size ≤ bn → Below wr.heap.size wr wx → Q .normal ⟨#[s0, s1, .slice (some ⟨ba, oa, none⟩) len cap, s3, s4, s5, s6, .pointer (some ⟨b, 0, none⟩), s8, .int .i64 k, .pointer (some ⟨bn, 0, none⟩), s11, s12, s13, s14, s15, s16, s17, s18, s19, s20, s21, s22, s23, s24, s25, s26, s27, s28, s29, s30, s31, s32, s33, s34, s35, s36, s37, s38, u39, u40, u41, u42, u43, u44, s45, s46, s47, s48, s49, s50, s51, s52, s53, s54, s55, s56, s57, s58, s59, s60, s61, s62, s63, s64, s65, s66, s67, s68, s69, s70, s71, s72, s73, s74, s75, s76, s77, s78], []⟩ wx) :
    Code.wp Try.prog takesComeC Q ⟨#[s0, s1, .slice (some ⟨ba, oa, none⟩) len cap, s3, s4, s5, s6, .pointer (some ⟨b, 0, none⟩), s8, .int .i64 k, s10, s11, s12, s13, s14, s15, s16, s17, s18, s19, s20, s21, s22, s23, s24, s25, s26, s27, s28, s29, s30, s31, s32, s33, s34, s35, s36, s37, s38, s39, s40, s41, s42, s43, s44, s45, s46, s47, s48, s49, s50, s51, s52, s53, s54, s55, s56, s57, s58, s59, s60, s61, s62, s63, s64, s65, s66, s67, s68, s69, s70, s71, s72, s73, s74, s75, s76, s77, s78], []⟩ wr := by
  have HZL := Lib.hid hzl
  clear hzl
  have HZ := Lib.hid hz
  have hzm := hz.1
  clear hz
  have HB := Lib.hid hb
  clear hb
  have HX := Lib.hid hx
  clear hx
  have HQ := Lib.hid hQ
  clear hQ
  have hrn : (rn : Int) ≤ 9223372036854775807 := by have := HZL.out; omega
  obtain ⟨y, y0, y1, y2, y3, y4, y5, y6, y7, y8, y9, y10, y11, y12, y13, y14, y15⟩ := Cells.at16 (show Cells wr b [.int .i64 dst, .int .i64 dwl, .int .i64 dwm, .int .i64 dwt, .int .i64 dpc, .bool dpv, .int .i64 dpo, .int .i64 dmc, .bool dmv, .int .i64 dmo, .int .i64 dhc, .bool dhv, .int .i64 dho, .int .i64 da, .bool dk, .int .i64 dq] from HB.out)
  conv => arg 2; whnf
  have n1 : b ≠ wr.heap.size := by have := HB.out.1; omega
  have n3 : ba ≠ wr.heap.size := by omega
  go_region_held3 (fun w' => w'.cell? ⟨ba, oa + k, none⟩ = some (.slice ra rn rc) ∧ w'.cell? ⟨b, 0, none⟩ = some (.int .i64 dst) ∧ w'.cell? ⟨b, 1, none⟩ = some (.int .i64 dwl) ∧ w'.cell? ⟨b, 2, none⟩ = some (.int .i64 dwm) ∧ w'.cell? ⟨b, 3, none⟩ = some (.int .i64 dwt) ∧ w'.cell? ⟨b, 4, none⟩ = some (.int .i64 dpc) ∧ w'.cell? ⟨b, 5, none⟩ = some (.bool dpv) ∧ w'.cell? ⟨b, 6, none⟩ = some (.int .i64 dpo) ∧ w'.cell? ⟨b, 7, none⟩ = some (.int .i64 dmc) ∧ w'.cell? ⟨b, 8, none⟩ = some (.bool dmv) ∧ w'.cell? ⟨b, 9, none⟩ = some (.int .i64 dmo) ∧ w'.cell? ⟨b, 10, none⟩ = some (.int .i64 dhc) ∧ w'.cell? ⟨b, 11, none⟩ = some (.bool dhv) ∧ w'.cell? ⟨b, 12, none⟩ = some (.int .i64 dho) ∧ w'.cell? ⟨b, 13, none⟩ = some (.int .i64 da) ∧ w'.cell? ⟨b, 14, none⟩ = some (.bool dk) ∧ w'.cell? ⟨b, 15, none⟩ = some (.int .i64 dq))
    (exact ⟨((show Below wr.heap.size wr _ from by go_grown).cell (p := ⟨ba, oa + k, none⟩) hbr).trans hc, keep16 (by go_grown) HB.out⟩)
    (first
      | (go_at_call 60; refine (dcome_any ⟨dst, ⟨dwl, dwm, dwt⟩, ⟨dpc, dpv, dpo⟩, ⟨dmc, dmv, dmo⟩, ⟨dhc, dhv, dho⟩, da, dk, dq⟩ _ _ _ z _ HZL.out hnc (HZ.out.below (by go_grown))).mono ?_; rw [HX.out, dr_val]; rintro e w4 ⟨rfl, hb⟩; have hz4 := hb.size; simp at hz4; have m1 : b ≠ w4.heap.size := (by have := HB.out.1; omega); have m3 : ba ≠ w4.heap.size := (by omega); have hbw := Below.trans (show Below wr.heap.size wr _ from by go_grown) (hb.mono (show wr.heap.size ≤ _ by first | (simp; done) | (simp; omega))); first | (have qz := zc hb; obtain ⟨qs, q0, q1, q2, q3, q4, q5, q6, q7, q8, q9, q10, q11, q12, q13, q14, q15⟩ := Cells.at16 qz; obtain ⟨p0, p1, p2, p3, p4, p5, p6, p7, p8, p9, p10, p11, p12, p13, p14, p15⟩ := Cells.free16 qz) | skip)
      | fail)
  · refine HQ.out _ _ _ _ _ _ _ _ ?_ ?_ ?_
    · exact Cells.new w4 (Dr.cs ⟨xst, ⟨xwl, xwm, xwt⟩, ⟨xpc, xpv, xpo⟩, ⟨xmc, xmv, xmo⟩, ⟨xhc, xhv, xho⟩, xa, xk, xq⟩) 82
    · exact hz4
    · go_grown
  · have hx := qz.put (Dr.cs ⟨xst, ⟨xwl, xwm, xwt⟩, ⟨xpc, xpv, xpo⟩, ⟨xmc, xmv, xmo⟩, ⟨xhc, xhv, xho⟩, xa, xk, xq⟩) rfl
    have hy := below_storeAll (Nat.le_refl wr.heap.size) (Dr.cs ⟨xst, ⟨xwl, xwm, xwt⟩, ⟨xpc, xpv, xpo⟩, ⟨xmc, xmv, xmo⟩, ⟨xhc, xhv, xho⟩, xa, xk, xq⟩) 0 _ hbw
    refine HQ.out _ _ _ _ _ _ _ _ ?_ ?_ ?_
    · exact hx
    · exact Nat.le_refl _
    · exact hy

noncomputable def takesAgainC : Code := (Try.f20.body.bind (regionOf 19)).getD .skip
set_option maxHeartbeats 8000000 in
set_option maxRecDepth 100000 in
theorem takesAgain {Q : Exit → Act → World → Prop} {wr : World} {b ba oa k len cap : Nat} {ra : Option Addr} {rn rc : Nat} {z : List Int} {xst xwl xwm xwt xpc xpo xmc xmo xhc xho xa xq ywl ywm ywt : Int} {xpv xmv xhv xk : Bool} {s0 s1 s3 s4 s5 s6 s7 s8 s11 s12 s13 s14 s15 s16 s17 s18 s19 s20 s21 s22 s23 s24 s25 s26 s27 s28 s29 s30 s31 s32 s33 s34 s35 s36 s37 s38 s39 s40 s41 s42 s43 s44 s45 s46 s47 s48 s49 s50 s51 s52 s53 s54 s55 s56 s57 s58 s59 s60 s61 s62 s63 s64 s65 s66 s67 s68 s69 s70 s71 s72 s73 s74 s75 s76 s77 s78 : Value}
    (hlt : k < len) (hlt3 : k < 300) (hlen : len ≤ 9223372036854775807) (hbr : ba < wr.heap.size) (hc : wr.cell? ⟨ba, oa + k, none⟩ = some (.slice ra rn rc)) (hnc : rn ≤ rc) (hzl : z.length = rn) (hz : Reads wr ra z)
    (hb : Cells wr b (Dr.cs ⟨xst, ⟨xwl, xwm, xwt⟩, ⟨xpc, xpv, xpo⟩, ⟨xmc, xmv, xmo⟩, ⟨xhc, xhv, xho⟩, xa, xk, xq⟩)) (hx : comeD ⟨xst, ⟨xwl, xwm, xwt⟩, ⟨xpc, xpv, xpo⟩, ⟨xmc, xmv, xmo⟩, ⟨xhc, xhv, xho⟩, xa, xk, xq⟩ (Fr.readN 70 127 z) = ⟨xst, ⟨ywl, ywm, ywt⟩, ⟨xpc, xpv, xpo⟩, ⟨xmc, xmv, xmo⟩, ⟨xhc, xhv, xho⟩, xa, xk, xq⟩)
    (hQ : ∀ (u66 u67 u68 u69 u70 u71 : Value) (bn : Nat) (wx : World), Cells wx bn (Dr.cs ⟨xst, ⟨ywl, ywm, ywt⟩, ⟨xpc, xpv, xpo⟩, ⟨xmc, xmv, xmo⟩, ⟨xhc, xhv, xho⟩, xa, xk, xq⟩) → wr.heap.size ≤ bn → Below wr.heap.size wr wx → Q .normal ⟨#[s0, s1, .slice (some ⟨ba, oa, none⟩) len cap, s3, s4, s5, s6, s7, s8, .int .i64 k, .pointer (some ⟨b, 0, none⟩), s11, .pointer (some ⟨bn, 0, none⟩), s13, s14, s15, s16, s17, s18, s19, s20, s21, s22, s23, s24, s25, s26, s27, s28, s29, s30, s31, s32, s33, s34, s35, s36, s37, s38, s39, s40, s41, s42, s43, s44, s45, s46, s47, s48, s49, s50, s51, s52, s53, s54, s55, s56, s57, s58, s59, s60, s61, s62, s63, s64, s65, u66, u67, u68, u69, u70, u71, s72, s73, s74, s75, s76, s77, s78], []⟩ wx) :
    Code.wp Try.prog takesAgainC Q ⟨#[s0, s1, .slice (some ⟨ba, oa, none⟩) len cap, s3, s4, s5, s6, s7, s8, .int .i64 k, .pointer (some ⟨b, 0, none⟩), s11, s12, s13, s14, s15, s16, s17, s18, s19, s20, s21, s22, s23, s24, s25, s26, s27, s28, s29, s30, s31, s32, s33, s34, s35, s36, s37, s38, s39, s40, s41, s42, s43, s44, s45, s46, s47, s48, s49, s50, s51, s52, s53, s54, s55, s56, s57, s58, s59, s60, s61, s62, s63, s64, s65, s66, s67, s68, s69, s70, s71, s72, s73, s74, s75, s76, s77, s78], []⟩ wr := by
  have HZL := Lib.hid hzl
  clear hzl
  have HZ := Lib.hid hz
  have hzm := hz.1
  clear hz
  have HB := Lib.hid hb
  clear hb
  have HX := Lib.hid hx
  clear hx
  have HQ := Lib.hid hQ
  clear hQ
  have hrn : (rn : Int) ≤ 9223372036854775807 := by have := HZL.out; omega
  obtain ⟨y, y0, y1, y2, y3, y4, y5, y6, y7, y8, y9, y10, y11, y12, y13, y14, y15⟩ := Cells.at16 (show Cells wr b [.int .i64 xst, .int .i64 xwl, .int .i64 xwm, .int .i64 xwt, .int .i64 xpc, .bool xpv, .int .i64 xpo, .int .i64 xmc, .bool xmv, .int .i64 xmo, .int .i64 xhc, .bool xhv, .int .i64 xho, .int .i64 xa, .bool xk, .int .i64 xq] from HB.out)
  conv => arg 2; whnf
  have n1 : b ≠ wr.heap.size := by have := HB.out.1; omega
  have n3 : ba ≠ wr.heap.size := by omega
  go_region_held3 (fun w' => w'.cell? ⟨ba, oa + k, none⟩ = some (.slice ra rn rc) ∧ w'.cell? ⟨b, 0, none⟩ = some (.int .i64 xst) ∧ w'.cell? ⟨b, 1, none⟩ = some (.int .i64 xwl) ∧ w'.cell? ⟨b, 2, none⟩ = some (.int .i64 xwm) ∧ w'.cell? ⟨b, 3, none⟩ = some (.int .i64 xwt) ∧ w'.cell? ⟨b, 4, none⟩ = some (.int .i64 xpc) ∧ w'.cell? ⟨b, 5, none⟩ = some (.bool xpv) ∧ w'.cell? ⟨b, 6, none⟩ = some (.int .i64 xpo) ∧ w'.cell? ⟨b, 7, none⟩ = some (.int .i64 xmc) ∧ w'.cell? ⟨b, 8, none⟩ = some (.bool xmv) ∧ w'.cell? ⟨b, 9, none⟩ = some (.int .i64 xmo) ∧ w'.cell? ⟨b, 10, none⟩ = some (.int .i64 xhc) ∧ w'.cell? ⟨b, 11, none⟩ = some (.bool xhv) ∧ w'.cell? ⟨b, 12, none⟩ = some (.int .i64 xho) ∧ w'.cell? ⟨b, 13, none⟩ = some (.int .i64 xa) ∧ w'.cell? ⟨b, 14, none⟩ = some (.bool xk) ∧ w'.cell? ⟨b, 15, none⟩ = some (.int .i64 xq))
    (exact ⟨((show Below wr.heap.size wr _ from by go_grown).cell (p := ⟨ba, oa + k, none⟩) hbr).trans hc, keep16 (by go_grown) HB.out⟩)
    (first
      | (go_at_call 60; refine (dcome_any ⟨xst, ⟨xwl, xwm, xwt⟩, ⟨xpc, xpv, xpo⟩, ⟨xmc, xmv, xmo⟩, ⟨xhc, xhv, xho⟩, xa, xk, xq⟩ _ _ _ z _ HZL.out hnc (HZ.out.below (by go_grown))).mono ?_; rw [HX.out, dr_val]; rintro e w4 ⟨rfl, hb⟩; have hz4 := hb.size; simp at hz4; have m1 : b ≠ w4.heap.size := (by have := HB.out.1; omega); have m3 : ba ≠ w4.heap.size := (by omega); have hbw := Below.trans (show Below wr.heap.size wr _ from by go_grown) (hb.mono (show wr.heap.size ≤ _ by first | (simp; done) | (simp; omega))); first | (have qz := zc hb; obtain ⟨qs, q0, q1, q2, q3, q4, q5, q6, q7, q8, q9, q10, q11, q12, q13, q14, q15⟩ := Cells.at16 qz; obtain ⟨p0, p1, p2, p3, p4, p5, p6, p7, p8, p9, p10, p11, p12, p13, p14, p15⟩ := Cells.free16 qz) | skip)
      | fail)
  · refine HQ.out _ _ _ _ _ _ _ _ ?_ ?_ ?_
    · exact Cells.new w4 (Dr.cs ⟨xst, ⟨ywl, ywm, ywt⟩, ⟨xpc, xpv, xpo⟩, ⟨xmc, xmv, xmo⟩, ⟨xhc, xhv, xho⟩, xa, xk, xq⟩) 82
    · exact hz4
    · go_grown
  · have hx := qz.put (Dr.cs ⟨xst, ⟨ywl, ywm, ywt⟩, ⟨xpc, xpv, xpo⟩, ⟨xmc, xmv, xmo⟩, ⟨xhc, xhv, xho⟩, xa, xk, xq⟩) rfl
    have hy := below_storeAll (Nat.le_refl wr.heap.size) (Dr.cs ⟨xst, ⟨ywl, ywm, ywt⟩, ⟨xpc, xpv, xpo⟩, ⟨xmc, xmv, xmo⟩, ⟨xhc, xhv, xho⟩, xa, xk, xq⟩) 0 _ hbw
    refine HQ.out _ _ _ _ _ _ _ _ ?_ ?_ ?_
    · exact hx
    · exact Nat.le_refl _
    · exact hy
end Go.Proofs.Ytnabpdengfmeaaa
