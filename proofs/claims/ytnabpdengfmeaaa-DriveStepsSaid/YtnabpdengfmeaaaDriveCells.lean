/- Layer 7: a block of sixteen cells; contract of drive.Lost. -/
import Derived.Test.YtnabpdengfmeaaaDriveRight
import Derived.Test.YtnabpdengfmeaaaFramePut
import Derived.Test.YtnabpdengfmeaaaBox
import Derived.Deep.DeepCutAuto
import Derived.Deep.RegionHeld3
namespace Go.Proofs.Ytnabpdengfmeaaa
open Go.RowKit

/-- Block B is just the cells cs, all free. -/
def Cells (w : World) (B : Nat) (cs : List Value) : Prop := B < w.heap.size ∧ ∀ i, i < cs.length → w.cell? ⟨B, i, none⟩ = some (cs.getD i (.bool false)) ∧ w.frozen? ⟨B, i, none⟩ = false
theorem Cells.new (w : World) (cs : List Value) (T : TypeId) : Cells (w.alloc (.cells cs.toArray T)) w.heap.size cs := by
  refine ⟨by simp, fun i hi => ⟨?_, by simp⟩⟩
  rw [World.cell?_alloc_new]
  simp [List.getD, hi]
theorem Cells.below {w w' : World} {B : Nat} {cs : List Value} (h : Cells w B cs) (hb : Below w.heap.size w w') : Cells w' B cs := by
  obtain ⟨c, f⟩ := bcell hb
  exact ⟨Nat.lt_of_lt_of_le h.1 hb.size, fun i hi => ⟨by rw [c _ _ h.1]; exact (h.2 i hi).1, by rw [f _ _ h.1]; exact (h.2 i hi).2⟩⟩
theorem Cells.drew {w : World} {B : Nat} {cs : List Value} (h : Cells w B cs) : Cells w.drew B cs := h
theorem Cells.drewN {w : World} {B : Nat} {cs : List Value} (h : Cells w B cs) (n : Nat) : Cells (w.drewN n) B cs := h
theorem Cells.set {w : World} {B : Nat} {cs : List Value} (h : Cells w B cs) (i : Nat) (u : Value) : Cells (w.setCell ⟨B, i, none⟩ u) B (cs.set i u) := by
  refine ⟨by simpa using h.1, fun j hj => ?_⟩
  rw [List.length_set] at hj
  refine ⟨?_, by rw [World.frozen?_setCell]; exact (h.2 j hj).2⟩
  by_cases e : i = j
  · subst e
    rw [World.cell?_setCell_same _ _ _ (h.2 i hj).1]
    simp [List.getD, hj]
  · rw [World.cell?_setCell_other _ _ _ _ (by simp), (h.2 j hj).1]
    simp [List.getD, e]
theorem Cells.far {w : World} {B C : Nat} {cs : List Value} (h : Cells w B cs) (hne : C ≠ B) (i : Nat) (u : Value) : Cells (w.setCell ⟨C, i, none⟩ u) B cs := by
  have n : ∀ j, (⟨C, i, none⟩ : Addr) ≠ ⟨B, j, none⟩ := fun j q => hne (congrArg Addr.block q)
  refine ⟨by simpa using h.1, fun j hj => ⟨?_, by rw [World.frozen?_setCell]; exact (h.2 j hj).2⟩⟩
  rw [World.cell?_setCell_other _ _ _ _ (n _)]; exact (h.2 j hj).1
theorem Cells.at16 {w : World} {B : Nat} {c0 c1 c2 c3 c4 c5 c6 c7 c8 c9 c10 c11 c12 c13 c14 c15 : Value} (h : Cells w B [c0, c1, c2, c3, c4, c5, c6, c7, c8, c9, c10, c11, c12, c13, c14, c15]) :
    B < w.heap.size ∧ w.cell? ⟨B, 0, none⟩ = some c0 ∧ w.cell? ⟨B, 1, none⟩ = some c1 ∧ w.cell? ⟨B, 2, none⟩ = some c2 ∧ w.cell? ⟨B, 3, none⟩ = some c3 ∧ w.cell? ⟨B, 4, none⟩ = some c4 ∧ w.cell? ⟨B, 5, none⟩ = some c5 ∧ w.cell? ⟨B, 6, none⟩ = some c6 ∧ w.cell? ⟨B, 7, none⟩ = some c7 ∧
    w.cell? ⟨B, 8, none⟩ = some c8 ∧ w.cell? ⟨B, 9, none⟩ = some c9 ∧ w.cell? ⟨B, 10, none⟩ = some c10 ∧ w.cell? ⟨B, 11, none⟩ = some c11 ∧ w.cell? ⟨B, 12, none⟩ = some c12 ∧ w.cell? ⟨B, 13, none⟩ = some c13 ∧ w.cell? ⟨B, 14, none⟩ = some c14 ∧ w.cell? ⟨B, 15, none⟩ = some c15 :=
  ⟨h.1, (h.2 0 (by simp)).1, (h.2 1 (by simp)).1, (h.2 2 (by simp)).1, (h.2 3 (by simp)).1, (h.2 4 (by simp)).1, (h.2 5 (by simp)).1, (h.2 6 (by simp)).1, (h.2 7 (by simp)).1, (h.2 8 (by simp)).1, (h.2 9 (by simp)).1, (h.2 10 (by simp)).1, (h.2 11 (by simp)).1, (h.2 12 (by simp)).1, (h.2 13 (by simp)).1, (h.2 14 (by simp)).1, (h.2 15 (by simp)).1⟩
theorem Cells.free16 {w : World} {B : Nat} {c0 c1 c2 c3 c4 c5 c6 c7 c8 c9 c10 c11 c12 c13 c14 c15 : Value} (h : Cells w B [c0, c1, c2, c3, c4, c5, c6, c7, c8, c9, c10, c11, c12, c13, c14, c15]) :
    w.frozen? ⟨B, 0, none⟩ = false ∧ w.frozen? ⟨B, 1, none⟩ = false ∧ w.frozen? ⟨B, 2, none⟩ = false ∧ w.frozen? ⟨B, 3, none⟩ = false ∧ w.frozen? ⟨B, 4, none⟩ = false ∧ w.frozen? ⟨B, 5, none⟩ = false ∧ w.frozen? ⟨B, 6, none⟩ = false ∧ w.frozen? ⟨B, 7, none⟩ = false ∧
    w.frozen? ⟨B, 8, none⟩ = false ∧ w.frozen? ⟨B, 9, none⟩ = false ∧ w.frozen? ⟨B, 10, none⟩ = false ∧ w.frozen? ⟨B, 11, none⟩ = false ∧ w.frozen? ⟨B, 12, none⟩ = false ∧ w.frozen? ⟨B, 13, none⟩ = false ∧ w.frozen? ⟨B, 14, none⟩ = false ∧ w.frozen? ⟨B, 15, none⟩ = false :=
  ⟨(h.2 0 (by simp)).2, (h.2 1 (by simp)).2, (h.2 2 (by simp)).2, (h.2 3 (by simp)).2, (h.2 4 (by simp)).2, (h.2 5 (by simp)).2, (h.2 6 (by simp)).2, (h.2 7 (by simp)).2, (h.2 8 (by simp)).2, (h.2 9 (by simp)).2, (h.2 10 (by simp)).2, (h.2 11 (by simp)).2, (h.2 12 (by simp)).2, (h.2 13 (by simp)).2, (h.2 14 (by simp)).2, (h.2 15 (by simp)).2⟩

def lostD (d : Dr) : Bool := !rightD d || overB d.w
def newD (limit count : Int) : Dr := if (1 ≤ limit ∧ limit ≤ 100) ∧ 1 ≤ count ∧ count ≤ 20 then ⟨0, ⟨limit, 0, -1⟩, ⟨count, false, 0⟩, ⟨count, false, 0⟩, ⟨count, false, 0⟩, 0, false, 0⟩ else ⟨0, ⟨0, 0, 0⟩, ⟨0, false, 0⟩, ⟨0, false, 0⟩, ⟨0, false, 0⟩, 0, false, 0⟩
def newDE (limit count : Int) : Int := if (1 ≤ limit ∧ limit ≤ 100) ∧ 1 ≤ count ∧ count ≤ 20 then 0 else 1

set_option maxHeartbeats 8000000 in
set_option maxRecDepth 100000 in
theorem lost_any (st wl wm wt pc po mc mo hc ho a q : Int) (pv mv hv k : Bool) (w : World) :
    Calls Try.prog 64 #[.agg #[.int .i64 st, .int .i64 wl, .int .i64 wm, .int .i64 wt, .int .i64 pc, .bool pv, .int .i64 po, .int .i64 mc, .bool mv, .int .i64 mo, .int .i64 hc, .bool hv, .int .i64 ho, .int .i64 a, .bool k, .int .i64 q]] w fun e w' => e = .returned (.bool (lostD ⟨st, ⟨wl, wm, wt⟩, ⟨pc, pv, po⟩, ⟨mc, mv, mo⟩, ⟨hc, hv, ho⟩, a, k, q⟩)) ∧ Below w.heap.size w w' := by
  cases hr : rightD ⟨st, ⟨wl, wm, wt⟩, ⟨pc, pv, po⟩, ⟨mc, mv, mo⟩, ⟨hc, hv, ho⟩, a, k, q⟩ with
  | false =>
    rw [show lostD ⟨st, ⟨wl, wm, wt⟩, ⟨pc, pv, po⟩, ⟨mc, mv, mo⟩, ⟨hc, hv, ho⟩, a, k, q⟩ = true by simp [lostD, hr]]
    have HR := Lib.hid hr
    clear hr
    go_enter Try.func64, Try.ntmps64
    go_wp2_with fail
    refine (dright_any _ _ _ _ _ _ _ _ _ _ _ _ _ _ _ _ _).mono ?_
    rw [HR.out]
    rintro e w1 ⟨rfl, hb⟩
    have HB := Lib.hid hb
    clear hb
    go_wp2
    go_ret
    exact ⟨rfl, ((Below.refl w.heap.size w).alloc (Nat.le_refl _) _).trans (HB.out.mono (by simp))⟩
  | true =>
    rw [show lostD ⟨st, ⟨wl, wm, wt⟩, ⟨pc, pv, po⟩, ⟨mc, mv, mo⟩, ⟨hc, hv, ho⟩, a, k, q⟩ = overB ⟨wl, wm, wt⟩ by simp [lostD, hr]]
    have HR := Lib.hid hr
    clear hr
    go_enter Try.func64, Try.ntmps64
    go_wp2_with fail
    have BD := Lib.hid (Cells.new w (Dr.cs ⟨st, ⟨wl, wm, wt⟩, ⟨pc, pv, po⟩, ⟨mc, mv, mo⟩, ⟨hc, hv, ho⟩, a, k, q⟩) 82)
    refine (dright_any _ _ _ _ _ _ _ _ _ _ _ _ _ _ _ _ _).mono ?_
    rw [HR.out]
    rintro e w1 ⟨rfl, hb⟩
    have BD1 := Lib.hid (BD.out.below hb)
    have HB := Lib.hid (((Below.refl w.heap.size w).alloc (Nat.le_refl _) _).trans (hb.mono (by simp)))
    clear hb BD
    obtain ⟨y, y0, y1, y2, y3, y4, y5, y6, y7, y8, y9, y10, y11, y12, y13, y14, y15⟩ := Cells.at16 BD1.out
    go_wp2_with fail
    refine (wover_any _ _ _ _).mono ?_
    rintro e w2 ⟨rfl, hb⟩
    have HB2 := Lib.hid (HB.out.trans (hb.mono HB.out.size))
    clear hb
    go_wp2
    go_ret
    exact ⟨rfl, HB2.out⟩

def storeAll (w : World) (B : Nat) : Nat → List Value → World
  | _, [] => w
  | k, v :: vs => storeAll (w.setCell ⟨B, k, none⟩ v) B (k + 1) vs
theorem set_app (a : List Value) (c v : Value) (b : List Value) : (a ++ c :: b).set a.length v = a ++ v :: b := by simp
theorem Cells.all {B : Nat} : ∀ (vs pre post : List Value) (w : World), vs.length = post.length → Cells w B (pre ++ post) → Cells (storeAll w B pre.length vs) B (pre ++ vs)
  | [], pre, post, w, hl, h => by
    have : post = [] := List.eq_nil_of_length_eq_zero (by simpa using hl.symm)
    rw [this] at h; exact h
  | v :: vs, pre, post, w, hl, h => by
    obtain ⟨c, post', rfl⟩ : ∃ c p, post = c :: p := by cases post with
      | nil => simp at hl
      | cons c p => exact ⟨c, p, rfl⟩
    have h1 := h.set pre.length v
    rw [set_app] at h1
    have h2 := Cells.all vs (pre ++ [v]) post' (w.setCell ⟨B, pre.length, none⟩ v) (by simpa using hl) (by simpa using h1)
    have e : (pre ++ [v]).length = pre.length + 1 := by simp
    rw [e] at h2
    simpa [storeAll] using h2
theorem Cells.put {w : World} {B : Nat} {cs : List Value} (h : Cells w B cs) (vs : List Value) (hl : vs.length = cs.length) : Cells (storeAll w B 0 vs) B vs := Cells.all vs [] cs w hl h

theorem Own.far {w : World} {base : Nat} {v : Value} {l : List Int} (h : Own w base v l) {b : Nat} (hb : b < base) (i : Nat) (u : Value) : Own (w.setCell ⟨b, i, none⟩ u) base v l := by
  refine ⟨h.1, h.2.1, ?_⟩
  rcases h.2.2 with e | ⟨g, cap, cur, e, h1, h2, r⟩
  · exact .inl e
  · exact .inr ⟨g, cap, cur, e, h1, (Below.heap_setCell w ⟨b, i, none⟩ u g (by simp; omega)).trans h2, r⟩
theorem Own.farAll {base b : Nat} {v : Value} {l : List Int} (hb : b < base) : ∀ (vs : List Value) (k : Nat) (w : World), Own w base v l → Own (storeAll w b k vs) base v l
  | [], _, _, h => h
  | u :: vs, k, _, h => Own.farAll hb vs (k + 1) _ (h.far hb k u)
theorem below_storeAll {A b : Nat} {w0 : World} (hb : A ≤ b) : ∀ (vs : List Value) (k : Nat) (w : World), Below A w0 w → Below A w0 (storeAll w b k vs)
  | [], _, _, h => h
  | u :: vs, k, _, h => below_storeAll hb vs (k + 1) _ (h.setCell (p := ⟨b, k, none⟩) hb u)
theorem Cells.farAll {B C : Nat} {cs : List Value} (hne : C ≠ B) : ∀ (vs : List Value) (k : Nat) (w : World), Cells w B cs → Cells (storeAll w C k vs) B cs
  | [], _, _, h => h
  | u :: vs, k, _, h => Cells.farAll hne vs (k + 1) _ (h.far hne k u)
end Go.Proofs.Ytnabpdengfmeaaa
