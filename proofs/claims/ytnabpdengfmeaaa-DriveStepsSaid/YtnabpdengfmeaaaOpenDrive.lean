/- What the frames of the proofs have in common: a drive, by value. (Written by a program of mine, gen_opendrive.py.) -/
import Derived.Test.YtnabpdengfmeaaaDriveRight
import Derived.ProofKit
import Derived.OpenShut
import Derived.Lib.SmallJoins
namespace Go.Proofs.Ytnabpdengfmeaaa
open Go.ChangeShapes Go.WideShapes Go.ChangeAt Go.RowKit Go.Joins Go.Deep

theorem cellsDrive : Try.prog.cellsOf 82 = 16 := by kernel_rfl
theorem cellsWatch : Try.prog.cellsOf 71 = 3 := by kernel_rfl
theorem cellsBounce : Try.prog.cellsOf 35 = 3 := by kernel_rfl
theorem cellsInt : Try.prog.cellsOf 3 = 1 := by kernel_rfl
theorem cellsInt64 : Try.prog.cellsOf 2 = 1 := by kernel_rfl
theorem cellsBool : Try.prog.cellsOf 4 = 1 := by kernel_rfl
set_option maxRecDepth 100000 in
theorem open_Drive {H : Type} {enc : TypeId × Value → H} {W : World} {r : Reach} {b0 : Nat} {v : Value} {d : DataW H} {p : List MemPlace}
    (hv : Value.okWide Try.prog W r b0 82 v) (h : DataW.Trod enc Try.prog W 0 (fun _ => true) true 82 v d p) : ∃ x : Dr, v = x.val := by
  obtain ⟨cs, rfl, hsz⟩ := okWide_struct Try.underlying82 hv
  obtain ⟨l⟩ := cs
  match l, hsz.trans cellsDrive with
  | [c0, c1, c2, c3, c4, c5, c6, c7, c8, c9, c10, c11, c12, c13, c14, c15], _ =>
    obtain ⟨fuel, hf⟩ := h
    obtain ⟨xs, n, _, hx, _, hlen, hg⟩ := DataW.trod_struct Try.underlying82 hf
    match xs, hlen with
    | [y0, y1, y2, y3, y4, y5, y6, y7], _ =>
      have g0 : DataW.trod enc Try.prog W 0 (fun _ => true) true n 3 ((List.drop 0 [c0, c1, c2, c3, c4, c5, c6, c7, c8, c9, c10, c11, c12, c13, c14, c15]).take (Try.prog.cellsOf 3)) = some y0 := hg 0 _ rfl
      rw [cellsInt] at g0
      replace g0 : DataW.trod enc Try.prog W 0 (fun _ => true) true n 3 [c0] = some y0 := g0
      obtain ⟨x0, e0, -, -⟩ := DataW.trod_int Try.underlying3 g0
      simp only [List.cons.injEq, and_true] at e0
      have g1 : DataW.trod enc Try.prog W 0 (fun _ => true) true n 71 ((List.drop 1 [c0, c1, c2, c3, c4, c5, c6, c7, c8, c9, c10, c11, c12, c13, c14, c15]).take (Try.prog.cellsOf 71)) = some y1 := hg 1 _ rfl
      rw [cellsWatch] at g1
      replace g1 : DataW.trod enc Try.prog W 0 (fun _ => true) true n 71 [c1, c2, c3] = some y1 := g1
      obtain ⟨z10, z11, z12, m1, -, -, k10, k11, k12⟩ := trod_struct3 Try.underlying71 g1
      replace k10 : DataW.trod enc Try.prog W 0 (fun _ => true) true m1 3 ((List.drop 0 [c1, c2, c3]).take (Try.prog.cellsOf 3)) = some z10 := k10
      rw [cellsInt] at k10
      replace k10 : DataW.trod enc Try.prog W 0 (fun _ => true) true m1 3 [c1] = some z10 := k10
      obtain ⟨x10, e10, -, -⟩ := DataW.trod_int Try.underlying3 k10
      simp only [List.cons.injEq, and_true] at e10
      replace k11 : DataW.trod enc Try.prog W 0 (fun _ => true) true m1 3 ((List.drop 1 [c1, c2, c3]).take (Try.prog.cellsOf 3)) = some z11 := k11
      rw [cellsInt] at k11
      replace k11 : DataW.trod enc Try.prog W 0 (fun _ => true) true m1 3 [c2] = some z11 := k11
      obtain ⟨x11, e11, -, -⟩ := DataW.trod_int Try.underlying3 k11
      simp only [List.cons.injEq, and_true] at e11
      replace k12 : DataW.trod enc Try.prog W 0 (fun _ => true) true m1 3 ((List.drop 2 [c1, c2, c3]).take (Try.prog.cellsOf 3)) = some z12 := k12
      rw [cellsInt] at k12
      replace k12 : DataW.trod enc Try.prog W 0 (fun _ => true) true m1 3 [c3] = some z12 := k12
      obtain ⟨x12, e12, -, -⟩ := DataW.trod_int Try.underlying3 k12
      simp only [List.cons.injEq, and_true] at e12
      have g2 : DataW.trod enc Try.prog W 0 (fun _ => true) true n 35 ((List.drop 4 [c0, c1, c2, c3, c4, c5, c6, c7, c8, c9, c10, c11, c12, c13, c14, c15]).take (Try.prog.cellsOf 35)) = some y2 := hg 2 _ rfl
      rw [cellsBounce] at g2
      replace g2 : DataW.trod enc Try.prog W 0 (fun _ => true) true n 35 [c4, c5, c6] = some y2 := g2
      obtain ⟨z20, z21, z22, m2, -, -, k20, k21, k22⟩ := trod_struct3 Try.underlying35 g2
      replace k20 : DataW.trod enc Try.prog W 0 (fun _ => true) true m2 3 ((List.drop 0 [c4, c5, c6]).take (Try.prog.cellsOf 3)) = some z20 := k20
      rw [cellsInt] at k20
      replace k20 : DataW.trod enc Try.prog W 0 (fun _ => true) true m2 3 [c4] = some z20 := k20
      obtain ⟨x20, e20, -, -⟩ := DataW.trod_int Try.underlying3 k20
      simp only [List.cons.injEq, and_true] at e20
      replace k21 : DataW.trod enc Try.prog W 0 (fun _ => true) true m2 4 ((List.drop 1 [c4, c5, c6]).take (Try.prog.cellsOf 4)) = some z21 := k21
      rw [cellsBool] at k21
      replace k21 : DataW.trod enc Try.prog W 0 (fun _ => true) true m2 4 [c5] = some z21 := k21
      obtain ⟨x21, e21, -⟩ := DataW.trod_bool Try.underlying4 k21
      simp only [List.cons.injEq, and_true] at e21
      replace k22 : DataW.trod enc Try.prog W 0 (fun _ => true) true m2 3 ((List.drop 2 [c4, c5, c6]).take (Try.prog.cellsOf 3)) = some z22 := k22
      rw [cellsInt] at k22
      replace k22 : DataW.trod enc Try.prog W 0 (fun _ => true) true m2 3 [c6] = some z22 := k22
      obtain ⟨x22, e22, -, -⟩ := DataW.trod_int Try.underlying3 k22
      simp only [List.cons.injEq, and_true] at e22
      have g3 : DataW.trod enc Try.prog W 0 (fun _ => true) true n 35 ((List.drop 7 [c0, c1, c2, c3, c4, c5, c6, c7, c8, c9, c10, c11, c12, c13, c14, c15]).take (Try.prog.cellsOf 35)) = some y3 := hg 3 _ rfl
      rw [cellsBounce] at g3
      replace g3 : DataW.trod enc Try.prog W 0 (fun _ => true) true n 35 [c7, c8, c9] = some y3 := g3
      obtain ⟨z30, z31, z32, m3, -, -, k30, k31, k32⟩ := trod_struct3 Try.underlying35 g3
      replace k30 : DataW.trod enc Try.prog W 0 (fun _ => true) true m3 3 ((List.drop 0 [c7, c8, c9]).take (Try.prog.cellsOf 3)) = some z30 := k30
      rw [cellsInt] at k30
      replace k30 : DataW.trod enc Try.prog W 0 (fun _ => true) true m3 3 [c7] = some z30 := k30
      obtain ⟨x30, e30, -, -⟩ := DataW.trod_int Try.underlying3 k30
      simp only [List.cons.injEq, and_true] at e30
      replace k31 : DataW.trod enc Try.prog W 0 (fun _ => true) true m3 4 ((List.drop 1 [c7, c8, c9]).take (Try.prog.cellsOf 4)) = some z31 := k31
      rw [cellsBool] at k31
      replace k31 : DataW.trod enc Try.prog W 0 (fun _ => true) true m3 4 [c8] = some z31 := k31
      obtain ⟨x31, e31, -⟩ := DataW.trod_bool Try.underlying4 k31
      simp only [List.cons.injEq, and_true] at e31
      replace k32 : DataW.trod enc Try.prog W 0 (fun _ => true) true m3 3 ((List.drop 2 [c7, c8, c9]).take (Try.prog.cellsOf 3)) = some z32 := k32
      rw [cellsInt] at k32
      replace k32 : DataW.trod enc Try.prog W 0 (fun _ => true) true m3 3 [c9] = some z32 := k32
      obtain ⟨x32, e32, -, -⟩ := DataW.trod_int Try.underlying3 k32
      simp only [List.cons.injEq, and_true] at e32
      have g4 : DataW.trod enc Try.prog W 0 (fun _ => true) true n 35 ((List.drop 10 [c0, c1, c2, c3, c4, c5, c6, c7, c8, c9, c10, c11, c12, c13, c14, c15]).take (Try.prog.cellsOf 35)) = some y4 := hg 4 _ rfl
      rw [cellsBounce] at g4
      replace g4 : DataW.trod enc Try.prog W 0 (fun _ => true) true n 35 [c10, c11, c12] = some y4 := g4
      obtain ⟨z40, z41, z42, m4, -, -, k40, k41, k42⟩ := trod_struct3 Try.underlying35 g4
      replace k40 : DataW.trod enc Try.prog W 0 (fun _ => true) true m4 3 ((List.drop 0 [c10, c11, c12]).take (Try.prog.cellsOf 3)) = some z40 := k40
      rw [cellsInt] at k40
      replace k40 : DataW.trod enc Try.prog W 0 (fun _ => true) true m4 3 [c10] = some z40 := k40
      obtain ⟨x40, e40, -, -⟩ := DataW.trod_int Try.underlying3 k40
      simp only [List.cons.injEq, and_true] at e40
      replace k41 : DataW.trod enc Try.prog W 0 (fun _ => true) true m4 4 ((List.drop 1 [c10, c11, c12]).take (Try.prog.cellsOf 4)) = some z41 := k41
      rw [cellsBool] at k41
      replace k41 : DataW.trod enc Try.prog W 0 (fun _ => true) true m4 4 [c11] = some z41 := k41
      obtain ⟨x41, e41, -⟩ := DataW.trod_bool Try.underlying4 k41
      simp only [List.cons.injEq, and_true] at e41
      replace k42 : DataW.trod enc Try.prog W 0 (fun _ => true) true m4 3 ((List.drop 2 [c10, c11, c12]).take (Try.prog.cellsOf 3)) = some z42 := k42
      rw [cellsInt] at k42
      replace k42 : DataW.trod enc Try.prog W 0 (fun _ => true) true m4 3 [c12] = some z42 := k42
      obtain ⟨x42, e42, -, -⟩ := DataW.trod_int Try.underlying3 k42
      simp only [List.cons.injEq, and_true] at e42
      have g5 : DataW.trod enc Try.prog W 0 (fun _ => true) true n 2 ((List.drop 13 [c0, c1, c2, c3, c4, c5, c6, c7, c8, c9, c10, c11, c12, c13, c14, c15]).take (Try.prog.cellsOf 2)) = some y5 := hg 5 _ rfl
      rw [cellsInt64] at g5
      replace g5 : DataW.trod enc Try.prog W 0 (fun _ => true) true n 2 [c13] = some y5 := g5
      obtain ⟨x5, e5, -, -⟩ := DataW.trod_int Try.underlying2 g5
      simp only [List.cons.injEq, and_true] at e5
      have g6 : DataW.trod enc Try.prog W 0 (fun _ => true) true n 4 ((List.drop 14 [c0, c1, c2, c3, c4, c5, c6, c7, c8, c9, c10, c11, c12, c13, c14, c15]).take (Try.prog.cellsOf 4)) = some y6 := hg 6 _ rfl
      rw [cellsBool] at g6
      replace g6 : DataW.trod enc Try.prog W 0 (fun _ => true) true n 4 [c14] = some y6 := g6
      obtain ⟨x6, e6, -⟩ := DataW.trod_bool Try.underlying4 g6
      simp only [List.cons.injEq, and_true] at e6
      have g7 : DataW.trod enc Try.prog W 0 (fun _ => true) true n 3 ((List.drop 15 [c0, c1, c2, c3, c4, c5, c6, c7, c8, c9, c10, c11, c12, c13, c14, c15]).take (Try.prog.cellsOf 3)) = some y7 := hg 7 _ rfl
      rw [cellsInt] at g7
      replace g7 : DataW.trod enc Try.prog W 0 (fun _ => true) true n 3 [c15] = some y7 := g7
      obtain ⟨x7, e7, -, -⟩ := DataW.trod_int Try.underlying3 g7
      simp only [List.cons.injEq, and_true] at e7
      subst e0 e10 e11 e12 e20 e21 e22 e30 e31 e32 e40 e41 e42 e5 e6 e7
      exact ⟨⟨x0, ⟨x10, x11, x12⟩, ⟨x20, x21, x22⟩, ⟨x30, x31, x32⟩, ⟨x40, x41, x42⟩, x5, x6, x7⟩, rfl⟩
end Go.Proofs.Ytnabpdengfmeaaa
