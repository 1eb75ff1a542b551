/- A slice of bytes that the call itself made, and append onto it: plain words for the walks (after the guide's page of words for memory). -/
import Derived.Test.YtnabpdengfmeaaaSumLaws
import Derived.RegionTactic
import Derived.OwnWalk
import Derived.Laws.OwnMore
namespace Go.Proofs.Ytnabpdengfmeaaa
open Go.RowKit

/-- The slice value v is the call's own (its block from number base on) and holds the bytes l. -/
def Own (w : World) (base : Nat) (v : Value) (l : List Int) : Prop := Crc.Bytes l ∧ w.ownsRow base 5 1 v l.length (l.map (Value.int .u8))

theorem Own.nil (w : World) (base : Nat) : Own w base (.slice none 0 0) [] := ⟨by simp [Crc.Bytes], World.ownsRow_nil _ _ _ _⟩
theorem Own.made (w : World) (base : Nat) (l : List Int) (hb : base ≤ w.heap.size) (hm : l.length ≤ 9223372036854775807) (hB : Crc.Bytes l) :
    Own (w.alloc (.cells (l.map (Value.int .u8)).toArray 5)) base (.slice (some ⟨w.heap.size, 0, none⟩) l.length l.length) l := by
  refine ⟨hB, ?_⟩
  have := World.ownsRow_lit (base := base) (e := 5) (size := 1) w (l.map (Value.int .u8)).toArray l.length hb (by unfold maxLen; omega) (by simp)
  simpa using this
theorem Own.kept {w w' : World} {base B : Nat} {v : Value} {l : List Int} (h : Own w base v l) (hB : w.heap.size ≤ B) (hb : Below B w w') : Own w' base v l := by
  refine ⟨h.1, h.2.1, ?_⟩
  rcases h.2.2 with e | ⟨g, cap, cur, e, h1, h2, r⟩
  · exact .inl e
  · exact .inr ⟨g, cap, cur, e, h1, (hb.block g (by have := (Array.getElem?_eq_some_iff.1 h2).1; omega)).trans h2, r⟩
theorem Own.below {w w' : World} {base : Nat} {v : Value} {l : List Int} (h : Own w base v l) (hb : Below w.heap.size w w') : Own w' base v l := h.kept (Nat.le_refl _) hb
theorem Own.drewN {w : World} {base : Nat} {v : Value} {l : List Int} (h : Own w base v l) (n : Nat) : Own (w.drewN n) base v l := h
theorem Own.form {w : World} {base : Nat} {v : Value} {l : List Int} (h : Own w base v l) : ∃ a cap, v = .slice a l.length cap ∧ l.length ≤ cap ∧ Reads w a l := by
  rcases h.2.2 with ⟨rfl, h0⟩ | ⟨g, cap, cur, rfl, _, hg, hn, hm, hs, ht⟩
  · have : l = [] := List.eq_nil_of_length_eq_zero h0
    subst this
    exact ⟨none, 0, rfl, Nat.le_refl _, by simp, by simp [Crc.Bytes], .inl rfl⟩
  · unfold maxLen at hm
    refine ⟨some ⟨g, 0, none⟩, cap, rfl, hn, by omega, h.1, .inr ⟨g, 0, rfl, fun i hi => ?_⟩⟩
    rw [Nat.zero_add, cell_of_row w g i cur 5 (0, 0) hg]
    have e := congrArg (fun z => z[i]?) ht
    simp only [Nat.mul_one, List.getElem?_take, if_pos hi, List.getElem?_map, Array.getElem?_toList] at e
    rw [e]
    simp [List.getD, hi]
theorem oneCell_bytes (l : List Int) : ∀ u ∈ l.map (Value.int .u8), u.oneCell' = true := by
  intro u hu
  obtain ⟨z, _, rfl⟩ := List.mem_map.1 hu
  rfl
theorem byte_info : (Try.prog.info? 5).map (fun i => (i.zero, i.size, i.bytes)) = some (some (.int .u8 0), 1, 1) := by kernel_rfl

theorem run_append_of_nil (w : World) (base : Nat) (ty : TypeId) (e : TypeId) (i : TypeInfo) (hi : Try.prog.info? 5 = some i)
    (v : Value) (n : Nat) (xs : List Value) (hown : w.ownsRow base e 1 v n xs) (c : Nat) : (Builtin.append_ #[23, 23] ty #[v, .slice none 0 c]).run Try.prog w = .ok v w := by
  rcases hown.2 with ⟨rfl, rfl⟩ | ⟨g, cap, cur, rfl, _, _, hnc, _⟩
  · simp [Builtin.append_, run_underlying Try.underlying23, sizeOf, typeInfo, hi, Builtin.lenOf, Builtin.firstCells]
  · simp [Builtin.append_, run_underlying Try.underlying23, sizeOf, typeInfo, hi, Builtin.lenOf, Builtin.firstCells, hnc, storeCells]

theorem run_append_bytes (w : World) (base : Nat) (ty : TypeId) (v : Value) (xs : List Int) (hown : Own w base v xs) (A : Option Addr) (m c : Nat) (ys : List Int) (hm : ys.length = m) (hr : Reads w A ys)
    (hlen : xs.length + ys.length ≤ 100000000) (hbase : base ≤ w.heap.size) :
    ∃ v' w', (Builtin.append_ #[23, 23] ty #[v, .slice A m c]).run Try.prog w = .ok v' w' ∧ Own w' base v' (xs ++ ys) ∧ Below base w w' := by
  obtain ⟨i0, hi0, hz0, hz1, hz2⟩ := info_parts byte_info
  subst hm
  cases A with
  | none =>
    have hy : ys = [] := by
      rcases hr.2.2 with h | ⟨b, off, h, _⟩
      · exact h
      · cases h
    subst hy
    exact ⟨v, w, run_append_of_nil w base _ 5 i0 hi0 v _ _ hown.2 c, by simpa using hown, Below.refl _ _⟩
  | some ad =>
    have hc : ∀ j u, (ys.map (Value.int .u8))[j]? = some u → w.cell? (ad.add j) = some u := by
      intro j u hj
      rcases hr.2.2 with h | ⟨b, off, h, hc⟩
      · rw [h] at hj; cases hj
      · have hjl : j < ys.length := by
          rcases Nat.lt_or_ge j ys.length with h' | h'
          · exact h'
          · simp [List.getElem?_eq_none h'] at hj
        have h' : ad = ⟨b, off, none⟩ := Option.some.inj h
        rw [h']
        have e : (⟨b, off, none⟩ : Addr).add j = ⟨b, off + j, none⟩ := by
          by_cases hi0 : j = 0
          · subst hi0; simp [Addr.add]
          · simp [Addr.add]; try omega
        rw [e, hc j hjl, ← hj]
        simp [List.getD, hjl]
    obtain ⟨v', w', h1, h2, h3, _⟩ := run_append_own (P := Try.prog) w base 23 ty 5 i0 _ 1 1 Try.underlying23 hi0 hz0 hz1 hz2 rfl (by omega) v _ _ hown.2 ad ys.length c (ys.map (Value.int .u8))
      (by simp) hc (oneCell_bytes _) (by unfold maxLen; omega) (by omega) hbase
    refine ⟨v', w', h1, ⟨Crc.bytes_append hown.1 hr.2.1, by simpa using h2⟩, (Below.refl base w).grown h3 hbase (fun k hk => (hown.2.lt k hk).1)⟩

theorem step_append_bytes {w : World} {ops : Array Oper} {o : Oper} {a : Act} {K : Act → World → Prop} {Q : Exit → Act → World → Prop} {E : Prop} (hgd : o.guard = none) (s x : Operand)
    (ho : o.op = .call { callee := .builtin .append, args := #[s, x], argTypes := #[23, 23] })
    (base : Nat) (v : Value) (xs : List Int) (hs : a.eval s = v) (hown : Own w base v xs)
    (A : Option Addr) (m c : Nat) (ys : List Int) (hx : a.eval x = .slice A m c) (hm : ys.length = m) (hr : Reads w A ys)
    (hlen : xs.length + ys.length ≤ 100000000) (hbase : base ≤ w.heap.size)
    (h : ∀ v' w', Own w' base v' (xs ++ ys) → Below base w w' → K (a.put o.dst v') w') : if Region.wanted o (yielded ops a.tmps) = true then Oper.wp Try.prog o a w K Q else E := by
  have hw : Region.wanted o (yielded ops a.tmps) = true := by simp [Region.wanted, hgd]
  rw [if_pos hw]
  obtain ⟨v', w', hrun, h2, h3⟩ := run_append_bytes w base o.type v xs hown A m c ys hm hr hlen hbase
  unfold Oper.wp execOp
  simp only [ho, resolve, invoke, builtin, Sem.run_bind, Sem.run_pure, Result.andThen_ok, List.map_toArray, List.map_cons, List.map_nil, hs, hx, hrun]
  exact h v' w' h2 h3

theorem wpList_append_bytes {w : World} {ops : Array Oper} {rest : List Oper} {o : Oper} {a : Act} {Q : Exit → Act → World → Prop} (hgd : o.guard = none) (s x : Operand)
    (ho : o.op = .call { callee := .builtin .append, args := #[s, x], argTypes := #[23, 23] })
    (base : Nat) (v : Value) (xs : List Int) (hs : a.eval s = v) (hown : Own w base v xs)
    (A : Option Addr) (m c : Nat) (ys : List Int) (hx : a.eval x = .slice A m c) (hm : ys.length = m) (hr : Reads w A ys)
    (hlen : xs.length + ys.length ≤ 100000000) (hbase : base ≤ w.heap.size)
    (h : ∀ v' w', Own w' base v' (xs ++ ys) → Below base w w' → wpList Try.prog ops Q rest (a.put o.dst v') w') : wpList Try.prog ops Q (o :: rest) a w := by
  refine wpList_plain hgd fun K hK => ?_
  obtain ⟨v', w', hrun, h2, h3⟩ := run_append_bytes w base o.type v xs hown A m c ys hm hr hlen hbase
  unfold Oper.wp execOp
  simp only [ho, resolve, invoke, builtin, Sem.run_bind, Sem.run_pure, Result.andThen_ok, List.map_toArray, List.map_cons, List.map_nil, hs, hx, hrun]
  exact hK _ _ (h v' w' h2 h3)
end Go.Proofs.Ytnabpdengfmeaaa
