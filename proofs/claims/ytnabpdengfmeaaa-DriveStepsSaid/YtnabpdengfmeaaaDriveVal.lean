/- Layer 7: drives as values that are not laid open: loads, stores, comparisons, calls. -/
import Derived.Test.YtnabpdengfmeaaaDriveMid
import Derived.Test.YtnabpdengfmeaaaDriveTell
import Derived.Test.YtnabpdengfmeaaaDriveTellBad
import Derived.Test.YtnabpdengfmeaaaDriveRefTell
import Derived.Test.YtnabpdengfmeaaaDriveComeAll
import Derived.Deep.MidRow
namespace Go.Proofs.Ytnabpdengfmeaaa
open Go.RowKit

theorem wpList_load_dr {ops : Array Oper} {rest : List Oper} {op : Oper} {a : Act} {w : World} {Q : Exit → Act → World → Prop} (hw : Region.wanted op (yielded ops a.tmps) = true) (x : Operand) (ho : op.op = .load 82 x)
    (B : Nat) (hx : a.eval x = .pointer (some ⟨B, 0, none⟩)) (X : Dr) (hc : Cells w B (Dr.cs X)) (h : wpList Try.prog ops Q rest (a.put op.dst (Dr.val X)) w) : wpList Try.prog ops Q (op :: rest) a w :=
  wpList_step fun K hK => by
    simp only [hw, if_true]
    exact wp_load_mid 82 x ho B 0 hx (Dr.cs X) _ hc.range Try.underlying82 rfl info82 (hK _ _ h)
theorem oneCell_dr (X : Dr) : (Dr.cs X).toArray.all (·.oneCell') = true := by
  simp [Dr.cs, Value.oneCell']
theorem wpList_store_dr {ops : Array Oper} {rest : List Oper} {op : Oper} {a : Act} {w : World} {Q : Exit → Act → World → Prop} (hw : Region.wanted op (yielded ops a.tmps) = true) (x y : Operand) (ho : op.op = .store 82 x y)
    (B : Nat) (hx : a.eval x = .pointer (some ⟨B, 0, none⟩)) (X : Dr) (hy : a.eval y = Dr.val X) (cs : List Value) (hl : cs.length = 16) (hc : Cells w B cs)
    (h : ∀ w', Cells w' B (Dr.cs X) → (∀ A w0, A ≤ B → Below A w0 w → Below A w0 w') → wpList Try.prog ops Q rest (a.put op.dst undef) w') : wpList Try.prog ops Q (op :: rest) a w :=
  wpList_step fun K hK => by
    simp only [hw, if_true]
    have ht : w.there B 0 (Dr.cs X).toArray.size := by have := hc.there; rw [hl] at this; exact this
    exact wp_store_mid 82 x y ho B 0 (Dr.cs X).toArray hx hy ht info82 (oneCell_dr X) (hK _ _ (h _ (hc.puts (Dr.cs X) hl.symm) fun A w0 hA hb => below_puts hA _ hb))
theorem wpList_store_new {ops : Array Oper} {rest : List Oper} {op : Oper} {a : Act} {w w0 : World} {Q : Exit → Act → World → Prop} (hw : Region.wanted op (yielded ops a.tmps) = true) (x y : Operand) (ho : op.op = .store 82 x y)
    (hx : a.eval x = .pointer (some ⟨w0.heap.size, 0, none⟩)) (X : Dr) (hy : a.eval y = Dr.val X) (hz : w = w0.alloc (.cells (Dr.cs zeroD).toArray 82))
    (h : ∀ w', Cells w' w0.heap.size (Dr.cs X) → Below w0.heap.size w0 w' → wpList Try.prog ops Q rest (a.put op.dst undef) w') : wpList Try.prog ops Q (op :: rest) a w := by
  subst hz
  exact wpList_store_dr hw x y ho w0.heap.size hx X hy (Dr.cs zeroD) rfl (Cells.new w0 (Dr.cs zeroD) 82) fun w' h1 h2 => h w' h1 (h2 _ _ (Nat.le_refl _) ((Below.refl _ _).alloc (Nat.le_refl _) _))
set_option maxRecDepth 100000 in
theorem run_eql_dr (X : Dr) (w : World) : (binOp .eql 82 (Dr.val X) (Dr.val X)).run Try.prog w = .ok (.bool true) w := by
  obtain ⟨x0, ⟨x1, x2, x3⟩, ⟨x4, x5, x6⟩, ⟨x7, x8, x9⟩, ⟨x10, x11, x12⟩, x13, x14, x15⟩ := X
  rw [dr_val]
  go_simp
set_option maxRecDepth 100000 in
theorem run_neq_dr (X : Dr) (w : World) : (binOp .neq 82 (Dr.val X) (Dr.val X)).run Try.prog w = .ok (.bool false) w := by
  obtain ⟨x0, ⟨x1, x2, x3⟩, ⟨x4, x5, x6⟩, ⟨x7, x8, x9⟩, ⟨x10, x11, x12⟩, x13, x14, x15⟩ := X
  rw [dr_val]
  go_simp
theorem run_guard_dr (op : BinOp) (x y : Operand) (X Y : Dr) (w : World) : (eqGuard op 82 x y (Dr.val X) (Dr.val Y)).run Try.prog w = .ok () w := by
  have h : Try.prog.eqGuardType Try.prog.depth 82 = false := by kernel_rfl
  exact run_eqGuard_agg w op 82 x y _ _ h
theorem wpList_eql_dr {ops : Array Oper} {rest : List Oper} {op : Oper} {a : Act} {w : World} {Q : Exit → Act → World → Prop} (hw : Region.wanted op (yielded ops a.tmps) = true) (x y : Operand) (ho : op.op = .binOp .eql 82 x y 82)
    (X : Dr) (hx : a.eval x = Dr.val X) (hy : a.eval y = Dr.val X) (h : wpList Try.prog ops Q rest (a.put op.dst (.bool true)) w) : wpList Try.prog ops Q (op :: rest) a w :=
  wpList_step fun K hK => by
    simp only [hw, if_true]
    unfold Oper.wp execOp
    simp only [ho, hx, hy, Sem.run_bind, run_guard_dr, run_eql_dr, Result.andThen_ok, Sem.run_pure]
    exact hK _ _ h
theorem wpList_neq_dr {ops : Array Oper} {rest : List Oper} {op : Oper} {a : Act} {w : World} {Q : Exit → Act → World → Prop} (hw : Region.wanted op (yielded ops a.tmps) = true) (x y : Operand) (ho : op.op = .binOp .neq 82 x y 82)
    (X : Dr) (hx : a.eval x = Dr.val X) (hy : a.eval y = Dr.val X) (h : wpList Try.prog ops Q rest (a.put op.dst (.bool false)) w) : wpList Try.prog ops Q (op :: rest) a w :=
  wpList_step fun K hK => by
    simp only [hw, if_true]
    unfold Oper.wp execOp
    simp only [ho, hx, hy, Sem.run_bind, run_guard_dr, run_neq_dr, Result.andThen_ok, Sem.run_pure]
    exact hK _ _ h

theorem dright_dr (X : Dr) (w : World) : Calls Try.prog 61 #[Dr.val X] w fun e w' => e = .returned (.bool (rightD X)) ∧ Below w.heap.size w w' := by
  obtain ⟨x0, ⟨x1, x2, x3⟩, ⟨x4, x5, x6⟩, ⟨x7, x8, x9⟩, ⟨x10, x11, x12⟩, x13, x14, x15⟩ := X
  exact dright_any _ _ _ _ _ _ _ _ _ _ _ _ _ _ _ _ w
theorem rdright_dr (X : Dr) (w : World) : Calls Try.prog 63 #[Dr.val X] w fun e w' => e = .returned (.bool (rightD X)) ∧ Below w.heap.size w w' := by
  obtain ⟨x0, ⟨x1, x2, x3⟩, ⟨x4, x5, x6⟩, ⟨x7, x8, x9⟩, ⟨x10, x11, x12⟩, x13, x14, x15⟩ := X
  exact rdright_any _ _ _ _ _ _ _ _ _ _ _ _ _ _ _ _ w
theorem lost_dr (X : Dr) (w : World) : Calls Try.prog 64 #[Dr.val X] w fun e w' => e = .returned (.bool (lostD X)) ∧ Below w.heap.size w w' := by
  obtain ⟨x0, ⟨x1, x2, x3⟩, ⟨x4, x5, x6⟩, ⟨x7, x8, x9⟩, ⟨x10, x11, x12⟩, x13, x14, x15⟩ := X
  exact lost_any _ _ _ _ _ _ _ _ _ _ _ _ _ _ _ _ w
/-- a right drive that was told -/
def toldD (X : Dr) : Dr := ⟨X.st, X.w, X.p, X.m, X.h, X.a, X.k, tellQ X.q⟩
theorem tell_bad_dr (X : Dr) (want clear : Bool) (target : Int) (w : World) (hr : rightD X = false) :
    Calls Try.prog 62 #[Dr.val X, .bool want, .bool clear, .int .i64 target] w fun e w' => e = .returned (.tuple #[Dr.val zeroD, .slice none 0 0]) ∧ Below w.heap.size w w' := by
  obtain ⟨x0, ⟨x1, x2, x3⟩, ⟨x4, x5, x6⟩, ⟨x7, x8, x9⟩, ⟨x10, x11, x12⟩, x13, x14, x15⟩ := X
  exact tell_bad _ _ _ _ _ _ _ _ _ _ _ _ _ _ _ _ want clear target w hr
theorem tell_good_dr (X : Dr) (want clear : Bool) (target : Int) (w : World) (hr : rightD X = true) (hq0 : 0 ≤ X.q) (hq1 : X.q ≤ 255) :
    Calls Try.prog 62 #[Dr.val X, .bool want, .bool clear, .int .i64 target] w fun e w' => ∃ v, e = .returned (.tuple #[Dr.val (toldD X), v]) ∧ Own w' w.heap.size v (putL 83 7 X.q (controlN X.st want clear) target) ∧ Below w.heap.size w w' := by
  obtain ⟨x0, ⟨x1, x2, x3⟩, ⟨x4, x5, x6⟩, ⟨x7, x8, x9⟩, ⟨x10, x11, x12⟩, x13, x14, x15⟩ := X
  exact tell_good _ _ _ _ _ _ _ _ _ _ _ _ _ _ _ _ want clear target w hr hq0 hq1
theorem rtell_good_dr (X : Dr) (want clear : Bool) (target : Int) (w : World) (hq0 : 0 ≤ X.q) (hq1 : X.q ≤ 255) :
    Calls Try.prog 65 #[Dr.val X, .bool want, .bool clear, .int .i64 target] w fun e w' => ∃ v, e = .returned (.tuple #[Dr.val (toldD X), v]) ∧ Own w' w.heap.size v (putL 83 7 X.q (controlN X.st want clear) target) ∧ Below w.heap.size w w' := by
  obtain ⟨x0, ⟨x1, x2, x3⟩, ⟨x4, x5, x6⟩, ⟨x7, x8, x9⟩, ⟨x10, x11, x12⟩, x13, x14, x15⟩ := X
  exact rtell_good _ _ _ _ _ _ _ _ _ _ _ _ _ _ _ _ want clear target w hq0 hq1
end Go.Proofs.Ytnabpdengfmeaaa
