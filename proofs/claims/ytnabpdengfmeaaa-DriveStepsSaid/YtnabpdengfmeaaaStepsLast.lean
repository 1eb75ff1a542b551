/- The last region of the law DriveSteps, a lemma over a frame of letters. (Written by a program of mine, gen_stepslast.py.) -/
import Derived.Test.YtnabpdengfmeaaaDriveVal
import Derived.Test.YtnabpdengfmeaaaDriveLaws
import Derived.Test.YtnabpdengfmeaaaSame
import Derived.Test.YtnabpdengfmeaaaRegionOf
import Derived.Deep.RegionHeld3
import Derived.Deep.DrawnRows
import Derived.WalkSmall
namespace Go.Proofs.Ytnabpdengfmeaaa
open Go.RowKit
set_option linter.unusedVariables false
attribute [local go_sem ↓] Go.wp_at_zero Go.wp_at_succ

theorem run_loadAt_dr {w : World} {B : Nat} {X : Dr} (h : Cells w B (Dr.cs X)) : (Instr.loadAt 82 (.pointer (some ⟨B, 0, none⟩))).run Try.prog w = .ok (Dr.val X) w :=
  run_loadAt_mid w B 0 82 (Dr.cs X) _ h.range Try.underlying82 rfl info82
theorem lost_right {D : Dr} (hr : rightD D = true) : lostD D = (D.w.m == D.w.l) := by
  obtain ⟨q1, q2, q3, q4, q5, q6, q7, q8, q9, q10, q11⟩ := rightD_parts hr
  simp [lostD, overB, hr, q6]
noncomputable def stepsLastC : Code := (Try.f23.body.bind (regionOf 19)).getD .skip
set_option maxHeartbeats 8000000 in
set_option maxRecDepth 100000 in
theorem stepsLast {Q : Exit → Act → World → Prop} {we : World} {b bx by1 bz g g2 cap1 cap2 kl cap : Nat} {ad : Option Addr} {zz L : List Int} {D X Y : Dr} {s0 s1 s2 s4 s5 s6 s7 s8 s10 s11 s12 s13 s14 s15 s16 s17 s18 s19 s25 s26 s27 s28 s29 s30 s31 s32 s33 s34 s35 s36 s37 s38 s39 s40 s41 s42 s43 s44 s45 s46 s47 s48 s49 s50 s51 s52 s53 s54 s55 s56 s57 s58 s59 s60 s61 s62 s63 s64 s65 s66 s67 s68 s69 s70 s71 s72 s73 s74 s75 s76 s77 s78 s79 s80 s81 s82 s83 s84 s85 s86 s87 s88 s89 s90 s91 s92 s93 s94 s95 s96 s97 s98 s99 s100 s101 s102 s103 s104 s105 s106 s107 s108 s109 s110 s111 s112 s113 s114 s115 s116 s117 s118 s119 s120 s121 s122 s123 s124 s125 s126 s127 s128 s129 s130 s131 s132 s133 s134 s135 s136 s137 s138 s139 s140 s141 s142 s143 s144 s145 s146 s147 s148 s149 s150 s151 s152 : Value}
    (hzl : zz.length = kl) (hkc : kl ≤ cap) (hz : Reads we ad zz) (hL : L.length = 13) (h1 : Reads we (some ⟨g, 0, none⟩) L) (h2 : Reads we (some ⟨g2, 0, none⟩) L) (hD : Cells we b (Dr.cs D)) (hXc : Cells we bx (Dr.cs X)) (hY : Cells we by1 (Dr.cs Y)) (hZ : Cells we bz (Dr.cs Y))
    (hr : rightD D = true) (hx : comeD D (Fr.readN 70 127 zz) = X) (hQ : ∀ (u126 u127 u128 u129 u130 u131 u132 u133 u134 u135 u136 u137 u138 u139 u140 u141 u142 u143 u144 u145 u146 u147 u148 u149 u150 u151 u152 : Value) (wx : World), Below we.heap.size we wx → Q .normal ⟨#[s0, s1, s2, .slice ad kl cap, s4, s5, s6, s7, s8, .pointer (some ⟨b, 0, none⟩), s10, s11, s12, s13, .bool true, s15, s16, s17, s18, s19, .pointer (some ⟨bx, 0, none⟩), .pointer (some ⟨by1, 0, none⟩), .slice (some ⟨g, 0, none⟩) 13 cap1, .pointer (some ⟨bz, 0, none⟩), .slice (some ⟨g2, 0, none⟩) 13 cap2, s25, s26, s27, s28, s29, s30, s31, s32, s33, s34, s35, s36, s37, s38, s39, s40, s41, s42, s43, s44, s45, s46, s47, s48, s49, s50, s51, s52, s53, s54, s55, s56, s57, s58, s59, s60, s61, s62, s63, s64, s65, s66, s67, s68, s69, s70, s71, s72, s73, s74, s75, s76, s77, s78, s79, s80, s81, s82, s83, s84, s85, s86, s87, s88, s89, s90, s91, s92, s93, s94, s95, s96, s97, s98, s99, s100, s101, s102, s103, s104, s105, s106, s107, s108, s109, s110, s111, s112, s113, s114, s115, s116, s117, s118, s119, s120, s121, s122, s123, s124, s125, u126, u127, u128, u129, u130, u131, u132, u133, u134, u135, u136, u137, u138, u139, u140, u141, u142, u143, u144, u145, u146, u147, u148, u149, u150, u151, u152], []⟩ wx) :
    Code.wp Try.prog stepsLastC Q ⟨#[s0, s1, s2, .slice ad kl cap, s4, s5, s6, s7, s8, .pointer (some ⟨b, 0, none⟩), s10, s11, s12, s13, s14, s15, s16, s17, s18, s19, .pointer (some ⟨bx, 0, none⟩), .pointer (some ⟨by1, 0, none⟩), .slice (some ⟨g, 0, none⟩) 13 cap1, .pointer (some ⟨bz, 0, none⟩), .slice (some ⟨g2, 0, none⟩) 13 cap2, s25, s26, s27, s28, s29, s30, s31, s32, s33, s34, s35, s36, s37, s38, s39, s40, s41, s42, s43, s44, s45, s46, s47, s48, s49, s50, s51, s52, s53, s54, s55, s56, s57, s58, s59, s60, s61, s62, s63, s64, s65, s66, s67, s68, s69, s70, s71, s72, s73, s74, s75, s76, s77, s78, s79, s80, s81, s82, s83, s84, s85, s86, s87, s88, s89, s90, s91, s92, s93, s94, s95, s96, s97, s98, s99, s100, s101, s102, s103, s104, s105, s106, s107, s108, s109, s110, s111, s112, s113, s114, s115, s116, s117, s118, s119, s120, s121, s122, s123, s124, s125, s126, s127, s128, s129, s130, s131, s132, s133, s134, s135, s136, s137, s138, s139, s140, s141, s142, s143, s144, s145, s146, s147, s148, s149, s150, s151, s152], []⟩ we := by
  have HZL := Lib.hid hzl
  have HZ := Lib.hid hz
  have HL := Lib.hid hL
  have HR1 := Lib.hid h1
  have HR2 := Lib.hid h2
  have HR := Lib.hid hr
  have HX := Lib.hid hx
  have HQ := Lib.hid hQ
  have HLD := Lib.hid (lost_right hr)
  have HD := Lib.hid hD
  have HX1 := Lib.hid hXc
  have HY1 := Lib.hid hY
  have HZ1 := Lib.hid hZ
  clear hzl hz hL h1 h2 hr hx hQ hD hXc hY hZ
  have ge := fun (w : World) (X : Dr) => run_eql_dr X w
  have gg := fun (w : World) (op : BinOp) (x y : Operand) (X Y : Dr) => run_guard_dr op x y X Y w
  have hss : sameB L L = true := decide_eq_true rfl
  have HSS := Lib.hid hss
  clear hss
  conv => arg 2; whnf
  refine wp_region_noPanic ?_
  refine wp_region_held_drew (S := fun w' => Below we.heap.size we w') (by kernel_rfl) ?_ (fun hHeld => ?_)
  · go_grown
  refine wpAnyH_take (i := 0) (oi := { dst := some 126, op := Op.load 82 (Operand.tmp 20), type := 82, pos := _, after := #[], guard := none }) (v := Dr.val X) rfl (by kernel_rfl) (by kernel_rfl) (by kernel_rfl) (fun _ _ _ h => h) ?_ (by assumption) ?_
  · exact yieldsIf_load_mid (by rfl) 82 _ rfl bx 0 rfl (Dr.cs X) _ (fun w hS => (HX1.out.below hS).range) Try.underlying82 rfl info82
  try simp only [Act.put]
  try simp only [List.setIfInBounds_toArray]
  try simp only [List.set_cons_succ]
  try simp only [List.set_cons_zero]
  refine wpAnyH_take (i := 1) (oi := { dst := some 127, op := Op.load 82 (Operand.tmp 9), type := 82, pos := _, after := #[], guard := none }) (v := Dr.val D) rfl (by kernel_rfl) (by kernel_rfl) (by kernel_rfl) (fun _ _ _ h => h) ?_ (by assumption) ?_
  · exact yieldsIf_load_mid (by rfl) 82 _ rfl b 0 rfl (Dr.cs D) _ (fun w hS => (HD.out.below hS).range) Try.underlying82 rfl info82
  try simp only [Act.put]
  try simp only [List.setIfInBounds_toArray]
  try simp only [List.set_cons_succ]
  try simp only [List.set_cons_zero]
  refine wpAnyH_take (i := 2) (oi := { dst := some 128, op := Op.move (Operand.tmp 3), type := 23, pos := _, after := #[], guard := none }) (v := ?_) rfl (by kernel_rfl) (by kernel_rfl) (by kernel_rfl) (fun _ _ _ h => h) ?_ (by assumption) ?_
  rotate_left
  · refine Or.inl ⟨by rfl, ?_⟩; intro w hSw; go_simp
    try with_reducible rfl
  try simp only [Act.put]
  try simp only [List.setIfInBounds_toArray]
  try simp only [List.set_cons_succ]
  try simp only [List.set_cons_zero]
  refine wpAnyH_ready (rs := [3]) (by kernel_rfl) (by simp) ?_
  refine AllReadyH.cons (o := { dst := some 129, op := Op.call { callee := Callee.value (Operand.func 66), args := #[Operand.tmp 127, Operand.tmp 128], argTypes := #[82, 23] }, type := 82, pos := _, after := #[{ on := 1, ground := Ground.data }, { on := 2, ground := Ground.data }], guard := none }) rfl (fun K hK => ?_) AllReadyH.nil
  go_simp
  have hH := hHeld
  refine (rdcome_any D _ _ _ zz _ HR.out HZL.out hkc (HZ.out.below hH)).mono ?_
  rw [HX.out]
  rintro e w4 ⟨rfl, hb⟩
  have hbw4 := Below.trans hH (hb.mono (show we.heap.size ≤ _ from hH.size))
  clear hHeld hH hb
  go_wp2_with fail
  refine hK.out _ _ ?_ (fun hHeld => ?_)
  · assumption
  clear hK
  try simp only [Act.put]
  try simp only [List.setIfInBounds_toArray]
  try simp only [List.set_cons_succ]
  try simp only [List.set_cons_zero]
  refine wpAnyH_take (i := 4) (oi := { dst := some 130, op := Op.binOp BinOp.eql 82 (Operand.tmp 126) (Operand.tmp 129) 82, type := 4, pos := _, after := #[{ on := 0, ground := Ground.data }, { on := 3, ground := Ground.data }], guard := none }) (v := ?_) rfl (by kernel_rfl) (by kernel_rfl) (by kernel_rfl) (fun _ _ _ h => h) ?_ (by assumption) ?_
  rotate_left
  · refine Or.inl ⟨by rfl, ?_⟩; intro w hSw; go_simp
    try with_reducible rfl
  try simp only [Act.put]
  try simp only [List.setIfInBounds_toArray]
  try simp only [List.set_cons_succ]
  try simp only [List.set_cons_zero]
  refine wpAnyH_take (i := 5) (oi := { dst := some 131, op := Op.move (Operand.tmp 130), type := 4, pos := _, after := #[{ on := 4, ground := Ground.data }, { on := 3, ground := Ground.chain }], guard := none }) (v := ?_) rfl (by kernel_rfl) (by kernel_rfl) (by kernel_rfl) (fun _ _ _ h => h) ?_ (by assumption) ?_
  rotate_left
  · refine Or.inl ⟨by rfl, ?_⟩; intro w hSw; go_simp
    try with_reducible rfl
  try simp only [Act.put]
  try simp only [List.setIfInBounds_toArray]
  try simp only [List.set_cons_succ]
  try simp only [List.set_cons_zero]
  refine wpAnyH_take (i := 6) (oi := { dst := some 132, op := Op.load 82 (Operand.tmp 21), type := 82, pos := _, after := #[{ on := 5, ground := Ground.guard }], guard := some (5, true) }) (v := Dr.val Y) rfl (by kernel_rfl) (by kernel_rfl) (by kernel_rfl) (fun _ _ _ h => h) ?_ (by assumption) ?_
  · exact yieldsIf_load_mid (by rfl) 82 _ rfl by1 0 rfl (Dr.cs Y) _ (fun w hS => (HY1.out.below hS).range) Try.underlying82 rfl info82
  try simp only [Act.put]
  try simp only [List.setIfInBounds_toArray]
  try simp only [List.set_cons_succ]
  try simp only [List.set_cons_zero]
  refine wpAnyH_take (i := 7) (oi := { dst := some 133, op := Op.load 82 (Operand.tmp 23), type := 82, pos := _, after := #[{ on := 5, ground := Ground.guard }], guard := some (5, true) }) (v := Dr.val Y) rfl (by kernel_rfl) (by kernel_rfl) (by kernel_rfl) (fun _ _ _ h => h) ?_ (by assumption) ?_
  · exact yieldsIf_load_mid (by rfl) 82 _ rfl bz 0 rfl (Dr.cs Y) _ (fun w hS => (HZ1.out.below hS).range) Try.underlying82 rfl info82
  try simp only [Act.put]
  try simp only [List.setIfInBounds_toArray]
  try simp only [List.set_cons_succ]
  try simp only [List.set_cons_zero]
  refine wpAnyH_take (i := 8) (oi := { dst := some 134, op := Op.binOp BinOp.eql 82 (Operand.tmp 132) (Operand.tmp 133) 82, type := 4, pos := _, after := #[{ on := 6, ground := Ground.data }, { on := 7, ground := Ground.data }, { on := 5, ground := Ground.guard }], guard := some (5, true) }) (v := ?_) rfl (by kernel_rfl) (by kernel_rfl) (by kernel_rfl) (fun _ _ _ h => h) ?_ (by assumption) ?_
  rotate_left
  · refine Or.inl ⟨by rfl, ?_⟩; intro w hSw; go_simp
    try with_reducible rfl
  try simp only [Act.put]
  try simp only [List.setIfInBounds_toArray]
  try simp only [List.set_cons_succ]
  try simp only [List.set_cons_zero]
  refine wpAnyH_take (i := 9) (oi := { dst := some 135, op := Op.pick (Operand.tmp 131) (Operand.tmp 134) (Operand.const (Value.bool false)), type := 4, pos := _, after := #[{ on := 5, ground := Ground.data }, { on := 8, ground := Ground.data }], guard := none }) (v := ?_) rfl (by kernel_rfl) (by kernel_rfl) (by kernel_rfl) (fun _ _ _ h => h) ?_ (by assumption) ?_
  rotate_left
  · refine Or.inl ⟨by rfl, ?_⟩; intro w hSw; go_simp
    try with_reducible rfl
  try simp only [Act.put]
  try simp only [List.setIfInBounds_toArray]
  try simp only [List.set_cons_succ]
  try simp only [List.set_cons_zero]
  refine wpAnyH_take (i := 10) (oi := { dst := some 136, op := Op.move (Operand.tmp 135), type := 4, pos := _, after := #[{ on := 9, ground := Ground.data }, { on := 5, ground := Ground.chain }], guard := none }) (v := ?_) rfl (by kernel_rfl) (by kernel_rfl) (by kernel_rfl) (fun _ _ _ h => h) ?_ (by assumption) ?_
  rotate_left
  · refine Or.inl ⟨by rfl, ?_⟩; intro w hSw; go_simp
    try with_reducible rfl
  try simp only [Act.put]
  try simp only [List.setIfInBounds_toArray]
  try simp only [List.set_cons_succ]
  try simp only [List.set_cons_zero]
  refine wpAnyH_take (i := 11) (oi := { dst := some 137, op := Op.move (Operand.tmp 22), type := 23, pos := _, after := #[{ on := 10, ground := Ground.guard }], guard := some (10, true) }) (v := ?_) rfl (by kernel_rfl) (by kernel_rfl) (by kernel_rfl) (fun _ _ _ h => h) ?_ (by assumption) ?_
  rotate_left
  · refine Or.inl ⟨by rfl, ?_⟩; intro w hSw; go_simp
    try with_reducible rfl
  try simp only [Act.put]
  try simp only [List.setIfInBounds_toArray]
  try simp only [List.set_cons_succ]
  try simp only [List.set_cons_zero]
  refine wpAnyH_take (i := 12) (oi := { dst := some 138, op := Op.move (Operand.tmp 24), type := 23, pos := _, after := #[{ on := 10, ground := Ground.guard }], guard := some (10, true) }) (v := ?_) rfl (by kernel_rfl) (by kernel_rfl) (by kernel_rfl) (fun _ _ _ h => h) ?_ (by assumption) ?_
  rotate_left
  · refine Or.inl ⟨by rfl, ?_⟩; intro w hSw; go_simp
    try with_reducible rfl
  try simp only [Act.put]
  try simp only [List.setIfInBounds_toArray]
  try simp only [List.set_cons_succ]
  try simp only [List.set_cons_zero]
  refine wpAnyH_ready (rs := [13]) (by kernel_rfl) (by simp) ?_
  refine AllReadyH.cons (o := { dst := some 139, op := Op.call { callee := Callee.value (Operand.func 41), args := #[Operand.tmp 137, Operand.tmp 138], argTypes := #[23, 23] }, type := 4, pos := _, after := #[{ on := 11, ground := Ground.data }, { on := 12, ground := Ground.data }, { on := 10, ground := Ground.chain }, { on := 10, ground := Ground.guard }], guard := some (10, true) }) rfl (fun K hK => ?_) AllReadyH.nil
  go_simp
  have hH := hHeld
  refine (same_any _ _ _ _ _ _ L L _ HL.out (HR1.out.below hH) HL.out (HR2.out.below hH) (by omega)).mono ?_
  rw [HSS.out]
  rintro e w5 ⟨rfl, n, hn⟩
  have hbw5 : Below we.heap.size we w5 := (by rw [hn]; exact below_drewN hH n)
  clear hn hHeld hH
  go_wp2_with fail
  refine hK.out _ _ ?_ (fun hHeld => ?_)
  · assumption
  clear hK
  try simp only [Act.put]
  try simp only [List.setIfInBounds_toArray]
  try simp only [List.set_cons_succ]
  try simp only [List.set_cons_zero]
  refine wpAnyH_take (i := 14) (oi := { dst := some 140, op := Op.pick (Operand.tmp 136) (Operand.tmp 139) (Operand.const (Value.bool false)), type := 4, pos := _, after := #[{ on := 10, ground := Ground.data }, { on := 13, ground := Ground.data }], guard := none }) (v := ?_) rfl (by kernel_rfl) (by kernel_rfl) (by kernel_rfl) (fun _ _ _ h => h) ?_ (by assumption) ?_
  rotate_left
  · refine Or.inl ⟨by rfl, ?_⟩; intro w hSw; go_simp
    try with_reducible rfl
  try simp only [Act.put]
  try simp only [List.setIfInBounds_toArray]
  try simp only [List.set_cons_succ]
  try simp only [List.set_cons_zero]
  refine wpAnyH_take (i := 15) (oi := { dst := some 141, op := Op.move (Operand.tmp 140), type := 4, pos := _, after := #[{ on := 14, ground := Ground.data }, { on := 13, ground := Ground.chain }], guard := none }) (v := ?_) rfl (by kernel_rfl) (by kernel_rfl) (by kernel_rfl) (fun _ _ _ h => h) ?_ (by assumption) ?_
  rotate_left
  · refine Or.inl ⟨by rfl, ?_⟩; intro w hSw; go_simp
    try with_reducible rfl
  try simp only [Act.put]
  try simp only [List.setIfInBounds_toArray]
  try simp only [List.set_cons_succ]
  try simp only [List.set_cons_zero]
  refine wpAnyH_take (i := 16) (oi := { dst := some 142, op := Op.load 82 (Operand.tmp 9), type := 82, pos := _, after := #[{ on := 15, ground := Ground.guard }], guard := some (15, true) }) (v := Dr.val D) rfl (by kernel_rfl) (by kernel_rfl) (by kernel_rfl) (fun _ _ _ h => h) ?_ (by assumption) ?_
  · exact yieldsIf_load_mid (by rfl) 82 _ rfl b 0 rfl (Dr.cs D) _ (fun w hS => (HD.out.below hS).range) Try.underlying82 rfl info82
  try simp only [Act.put]
  try simp only [List.setIfInBounds_toArray]
  try simp only [List.set_cons_succ]
  try simp only [List.set_cons_zero]
  refine wpAnyH_take (i := 18) (oi := { dst := some 144, op := Op.fieldAddr 82 (Operand.tmp 9) 1, type := 0, pos := _, after := #[{ on := 15, ground := Ground.guard }], guard := some (15, true) }) (v := ?_) rfl (by kernel_rfl) (by kernel_rfl) (by kernel_rfl) (fun _ _ _ h => h) ?_ (by assumption) ?_
  rotate_left
  · refine Or.inl ⟨by rfl, ?_⟩; intro w hSw; go_simp
    try with_reducible rfl
  try simp only [Act.put]
  try simp only [List.setIfInBounds_toArray]
  try simp only [List.set_cons_succ]
  try simp only [List.set_cons_zero]
  refine wpAnyH_take (i := 19) (oi := { dst := some 145, op := Op.fieldAddr 71 (Operand.tmp 144) 1, type := 0, pos := _, after := #[{ on := 18, ground := Ground.data }, { on := 15, ground := Ground.guard }], guard := some (15, true) }) (v := ?_) rfl (by kernel_rfl) (by kernel_rfl) (by kernel_rfl) (fun _ _ _ h => h) ?_ (by assumption) ?_
  rotate_left
  · refine Or.inl ⟨by rfl, ?_⟩; intro w hSw; go_simp
    try with_reducible rfl
  try simp only [Act.put]
  try simp only [List.setIfInBounds_toArray]
  try simp only [List.set_cons_succ]
  try simp only [List.set_cons_zero]
  refine wpAnyH_take (i := 20) (oi := { dst := some 146, op := Op.load 3 (Operand.tmp 145), type := 3, pos := _, after := #[{ on := 19, ground := Ground.data }, { on := 15, ground := Ground.guard }], guard := some (15, true) }) (v := ?_) rfl (by kernel_rfl) (by kernel_rfl) (by kernel_rfl) (fun _ _ _ h => h) ?_ (by assumption) ?_
  rotate_left
  · refine Or.inl ⟨by rfl, ?_⟩; intro w hSw; have q := ((HD.out.below hSw).2 2 (Nat.lt_of_lt_of_le (by decide : 2 < 16) (Nat.le_refl 16))).1; simp only [Dr.cs] at q; go_simp
    try with_reducible rfl
  try simp only [Act.put]
  try simp only [List.setIfInBounds_toArray]
  try simp only [List.set_cons_succ]
  try simp only [List.set_cons_zero]
  refine wpAnyH_take (i := 21) (oi := { dst := some 147, op := Op.fieldAddr 82 (Operand.tmp 9) 1, type := 0, pos := _, after := #[{ on := 15, ground := Ground.guard }], guard := some (15, true) }) (v := ?_) rfl (by kernel_rfl) (by kernel_rfl) (by kernel_rfl) (fun _ _ _ h => h) ?_ (by assumption) ?_
  rotate_left
  · refine Or.inl ⟨by rfl, ?_⟩; intro w hSw; go_simp
    try with_reducible rfl
  try simp only [Act.put]
  try simp only [List.setIfInBounds_toArray]
  try simp only [List.set_cons_succ]
  try simp only [List.set_cons_zero]
  refine wpAnyH_take (i := 22) (oi := { dst := some 148, op := Op.fieldAddr 71 (Operand.tmp 147) 0, type := 0, pos := _, after := #[{ on := 21, ground := Ground.data }, { on := 15, ground := Ground.guard }], guard := some (15, true) }) (v := ?_) rfl (by kernel_rfl) (by kernel_rfl) (by kernel_rfl) (fun _ _ _ h => h) ?_ (by assumption) ?_
  rotate_left
  · refine Or.inl ⟨by rfl, ?_⟩; intro w hSw; go_simp
    try with_reducible rfl
  try simp only [Act.put]
  try simp only [List.setIfInBounds_toArray]
  try simp only [List.set_cons_succ]
  try simp only [List.set_cons_zero]
  refine wpAnyH_take (i := 23) (oi := { dst := some 149, op := Op.load 3 (Operand.tmp 148), type := 3, pos := _, after := #[{ on := 22, ground := Ground.data }, { on := 15, ground := Ground.guard }], guard := some (15, true) }) (v := ?_) rfl (by kernel_rfl) (by kernel_rfl) (by kernel_rfl) (fun _ _ _ h => h) ?_ (by assumption) ?_
  rotate_left
  · refine Or.inl ⟨by rfl, ?_⟩; intro w hSw; have q := ((HD.out.below hSw).2 1 (Nat.lt_of_lt_of_le (by decide : 1 < 16) (Nat.le_refl 16))).1; simp only [Dr.cs] at q; go_simp
    try with_reducible rfl
  try simp only [Act.put]
  try simp only [List.setIfInBounds_toArray]
  try simp only [List.set_cons_succ]
  try simp only [List.set_cons_zero]
  refine wpAnyH_take (i := 24) (oi := { dst := some 150, op := Op.binOp BinOp.eql 3 (Operand.tmp 146) (Operand.tmp 149) 3, type := 4, pos := _, after := #[{ on := 20, ground := Ground.data }, { on := 23, ground := Ground.data }, { on := 15, ground := Ground.guard }], guard := some (15, true) }) (v := ?_) rfl (by kernel_rfl) (by kernel_rfl) (by kernel_rfl) (fun _ _ _ h => h) ?_ (by assumption) ?_
  rotate_left
  · refine Or.inl ⟨by rfl, ?_⟩; intro w hSw; go_simp
    try with_reducible rfl
  try simp only [Act.put]
  try simp only [List.setIfInBounds_toArray]
  try simp only [List.set_cons_succ]
  try simp only [List.set_cons_zero]
  refine wpAnyH_ready (rs := [17]) (by kernel_rfl) (by simp) ?_
  refine AllReadyH.cons (o := { dst := some 143, op := Op.call { callee := Callee.value (Operand.func 64), args := #[Operand.tmp 142], argTypes := #[82] }, type := 4, pos := _, after := #[{ on := 16, ground := Ground.data }, { on := 15, ground := Ground.chain }, { on := 15, ground := Ground.guard }], guard := some (15, true) }) rfl (fun K hK => ?_) AllReadyH.nil
  go_simp
  have hH := hHeld
  refine (lost_dr D _).mono ?_
  rw [HLD.out]
  rintro e w6 ⟨rfl, hb⟩
  have hbw6 := Below.trans hH (hb.mono (show we.heap.size ≤ _ from hH.size))
  clear hHeld hH hb
  go_wp2_with fail
  refine hK.out _ _ ?_ (fun hHeld => ?_)
  · assumption
  clear hK
  try simp only [Act.put]
  try simp only [List.setIfInBounds_toArray]
  try simp only [List.set_cons_succ]
  try simp only [List.set_cons_zero]
  refine wpAnyH_take (i := 25) (oi := { dst := some 151, op := Op.binOp BinOp.eql 4 (Operand.tmp 143) (Operand.tmp 150) 4, type := 4, pos := _, after := #[{ on := 17, ground := Ground.data }, { on := 24, ground := Ground.data }, { on := 15, ground := Ground.guard }], guard := some (15, true) }) (v := ?_) rfl (by kernel_rfl) (by kernel_rfl) (by kernel_rfl) (fun _ _ _ h => h) ?_ (by assumption) ?_
  rotate_left
  · refine Or.inl ⟨by rfl, ?_⟩; intro w hSw; go_simp
    try with_reducible rfl
  try simp only [Act.put]
  try simp only [List.setIfInBounds_toArray]
  try simp only [List.set_cons_succ]
  try simp only [List.set_cons_zero]
  refine wpAnyH_take (i := 26) (oi := { dst := some 152, op := Op.pick (Operand.tmp 141) (Operand.tmp 151) (Operand.const (Value.bool false)), type := 4, pos := _, after := #[{ on := 15, ground := Ground.data }, { on := 25, ground := Ground.data }], guard := none }) (v := ?_) rfl (by kernel_rfl) (by kernel_rfl) (by kernel_rfl) (fun _ _ _ h => h) ?_ (by assumption) ?_
  rotate_left
  · refine Or.inl ⟨by rfl, ?_⟩; intro w hSw; go_simp
    try with_reducible rfl
  try simp only [Act.put]
  try simp only [List.setIfInBounds_toArray]
  try simp only [List.set_cons_succ]
  try simp only [List.set_cons_zero]
  refine wpAnyH_take (i := 27) (oi := { dst := some 14, op := Op.assign (Operand.tmp 152), type := 4, pos := _, after := #[{ on := 26, ground := Ground.data }, { on := 17, ground := Ground.chain }, { on := 0, ground := Ground.phase }, { on := 1, ground := Ground.phase }, { on := 2, ground := Ground.phase }, { on := 3, ground := Ground.phase }, { on := 4, ground := Ground.phase }, { on := 5, ground := Ground.phase }, { on := 6, ground := Ground.phase }, { on := 7, ground := Ground.phase }, { on := 8, ground := Ground.phase }, { on := 9, ground := Ground.phase }, { on := 10, ground := Ground.phase }, { on := 11, ground := Ground.phase }, { on := 12, ground := Ground.phase }, { on := 13, ground := Ground.phase }, { on := 14, ground := Ground.phase }, { on := 15, ground := Ground.phase }, { on := 16, ground := Ground.phase }, { on := 17, ground := Ground.phase }, { on := 18, ground := Ground.phase }, { on := 19, ground := Ground.phase }, { on := 20, ground := Ground.phase }, { on := 21, ground := Ground.phase }, { on := 22, ground := Ground.phase }, { on := 23, ground := Ground.phase }, { on := 24, ground := Ground.phase }, { on := 25, ground := Ground.phase }, { on := 26, ground := Ground.phase }], guard := none }) (v := ?_) rfl (by kernel_rfl) (by kernel_rfl) (by kernel_rfl) (fun _ _ _ h => h) ?_ (by assumption) ?_
  rotate_left
  · refine Or.inl ⟨by rfl, ?_⟩; intro w hSw; go_simp
    try with_reducible rfl
  try simp only [Act.put]
  try simp only [List.setIfInBounds_toArray]
  try simp only [List.set_cons_succ]
  try simp only [List.set_cons_zero]
  refine wpAnyH_done (by kernel_rfl) ?_ _
  refine NoPanic.normal ?_
  refine HQ.out _ _ _ _ _ _ _ _ _ _ _ _ _ _ _ _ _ _ _ _ _ _ _ _ _ _ _ _ ?_
  assumption
end Go.Proofs.Ytnabpdengfmeaaa
