/- Layer 7: plain laws of a drive's cycle. -/
import Derived.Test.YtnabpdengfmeaaaDriveComeAll
namespace Go.Proofs.Ytnabpdengfmeaaa
open Go.RowKit

theorem stepS_right {b : Sw} (h : rightB b = true) (s : Bool) : rightB (stepS b s) = true ∧ (stepS b s).c = b.c := by
  obtain ⟨c, v, o⟩ := b
  obtain ⟨h1, h2, h3, h4⟩ := (right_iff c o v).1 h
  unfold stepS
  rw [if_pos h]
  by_cases hs : s = v
  · rw [if_pos hs]; exact ⟨(right_iff c 0 v).2 ⟨h1, h2, by omega, by omega⟩, rfl⟩
  · rw [if_neg hs]
    by_cases ho : o + 1 = c
    · rw [if_pos ho]; exact ⟨(right_iff c 0 s).2 ⟨h1, h2, by omega, by omega⟩, rfl⟩
    · rw [if_neg ho]; exact ⟨(right_iff c (o + 1) v).2 ⟨h1, h2, by omega, by omega⟩, rfl⟩
theorem stateN_bd (s : Int) : 0 ≤ stateN s ∧ stateN s ≤ 4 := by
  unfold stateN; split
  · omega
  · split
    · omega
    · split
      · omega
      · split <;> omega
/-- what a right watch makes of bytes -/
theorem comeG_right {x : Wt} {L : List Int} (hB : Crc.Bytes L) (hr : wrightB x = true) {T : Took} (h : comeG x (Fr.readN 70 127 L) = T) :
    wrightB T.w = true ∧ (T.ok = true → T.w.m = 0) ∧ (comeG T.w (Fr.readN 70 127 L)).ok = false := by
  obtain ⟨l, m, t⟩ := x
  obtain ⟨h1, h2, h3, h4, h5, h6⟩ := (wright_iff l m t).1 hr
  have q := readN_ok (most := 127) 70 (L := L) hB
  generalize Fr.readN 70 127 L = G at *
  obtain ⟨s, d, p, e⟩ := G
  simp only at q
  unfold comeG at h
  rw [if_pos hr] at h
  by_cases hc : e = 0 ∧ newerB s t = true
  · rw [if_pos hc] at h
    subst h
    simp only
    obtain ⟨q1, q2, q3, q4, q5, q6⟩ := q hc.1
    refine ⟨(wright_iff l 0 s).2 ⟨h1, h2, by omega, by omega, by omega, by omega⟩, fun _ => by simp, ?_⟩
    have hn : newerB s s = false := by
      simp only [newerB, Bool.or_eq_false_iff, decide_eq_false_iff_not, Bool.and_eq_false_iff]
      omega
    unfold comeG
    rw [if_pos ((wright_iff l 0 s).2 ⟨h1, h2, by omega, by omega, by omega, by omega⟩)]
    simp [hn]
  · rw [if_neg hc] at h
    subst h
    have hr' : wrightB ⟨l, if m < l then m + 1 else l, t⟩ = true := (wright_iff l _ t).2 ⟨h1, h2, by split <;> omega, by split <;> omega, by omega, by omega⟩
    refine ⟨hr', fun h => by simp at h, ?_⟩
    unfold comeG
    rw [if_pos hr', if_neg hc]
theorem rightD_parts {d : Dr} (h : rightD d = true) : rightB d.p = true ∧ rightB d.m = true ∧ rightB d.h = true ∧ d.p.c = d.m.c ∧ d.p.c = d.h.c ∧ wrightB d.w = true ∧ 0 ≤ d.st ∧ d.st ≤ 4 ∧ 0 ≤ d.q ∧ d.q ≤ 255 ∧ (d.k = true ∨ d.a = 0) := by
  unfold rightD at h
  simp only [Bool.and_eq_true, beq_iff_eq, decide_eq_true_iff, Bool.or_eq_true] at h
  obtain ⟨⟨⟨⟨⟨⟨⟨⟨⟨⟨h1, h2⟩, h3⟩, h4⟩, h5⟩, h6⟩, h7⟩, h8⟩, h9⟩, h10⟩, h11⟩ := h
  exact ⟨h1, h2, h3, h4, h5, h6, h7, h8, h9, h10, h11⟩
theorem rightD_of {d : Dr} (h1 : rightB d.p = true) (h2 : rightB d.m = true) (h3 : rightB d.h = true) (h4 : d.p.c = d.m.c) (h5 : d.p.c = d.h.c) (h6 : wrightB d.w = true) (h7 : 0 ≤ d.st) (h8 : d.st ≤ 4) (h9 : 0 ≤ d.q) (h10 : d.q ≤ 255) (h11 : d.k = true ∨ d.a = 0) : rightD d = true := by
  unfold rightD
  simp only [Bool.and_eq_true, beq_iff_eq, decide_eq_true_iff, Bool.or_eq_true]
  exact ⟨⟨⟨⟨⟨⟨⟨⟨⟨⟨h1, h2⟩, h3⟩, h4⟩, h5⟩, h6⟩, h7⟩, h8⟩, h9⟩, h10⟩, h11⟩

theorem tookD_no (d : Dr) (T : Took) (h : T.ok = false) : tookD d T = ⟨d.st, T.w, d.p, d.m, d.h, d.a, d.k, d.q⟩ := by unfold tookD; rw [h]; rfl
theorem tookD_q (d : Dr) (T : Took) : (tookD d T).q = d.q ∧ (tookD d T).w = T.w := by unfold tookD; split <;> exact ⟨rfl, rfl⟩
/-- A right drive takes bytes: it stays right; if its watch misses frames behind it, nothing else has changed; the same bytes once more change nothing but the watch. -/
theorem comeD_law {d : Dr} {L : List Int} (hB : Crc.Bytes L) (hr : rightD d = true) {n : Dr} (hn : comeD d (Fr.readN 70 127 L) = n) :
    rightD n = true ∧ n.q = d.q ∧ (0 < n.w.m → n = ⟨d.st, n.w, d.p, d.m, d.h, d.a, d.k, d.q⟩) ∧ comeD n (Fr.readN 70 127 L) = ⟨n.st, (comeG n.w (Fr.readN 70 127 L)).w, n.p, n.m, n.h, n.a, n.k, n.q⟩ := by
  obtain ⟨h1, h2, h3, h4, h5, h6, h7, h8, h9, h10, h11⟩ := rightD_parts hr
  obtain ⟨T, hT⟩ : ∃ T, comeG d.w (Fr.readN 70 127 L) = T := ⟨_, rfl⟩
  obtain ⟨g1, g2, g3⟩ := comeG_right hB h6 hT
  unfold comeD at hn
  rw [if_pos hr, hT] at hn
  obtain ⟨e1, e2⟩ := tookD_q d T
  rw [hn] at e1 e2
  have R : rightD n = true := by
    subst hn
    unfold tookD
    split
    · have s1 := stepS_right h1 (onB T.d 16)
      have s2 := stepS_right h2 (onB T.d 32)
      have s3 := stepS_right h3 (onB T.d 64)
      have s4 := stateN_bd T.d
      exact rightD_of s1.1 s2.1 s3.1 (s1.2.trans (h4.trans s2.2.symm)) (s1.2.trans (h5.trans s3.2.symm)) g1 s4.1 s4.2 h9 h10 (.inl rfl)
    · exact rightD_of h1 h2 h3 h4 h5 g1 h7 h8 h9 h10 h11
  refine ⟨R, e1, fun hm => ?_, ?_⟩
  · cases hok : T.ok with
    | true => rw [e2, g2 hok] at hm; omega
    | false => rw [e2, ← tookD_no d T hok, hn]
  · unfold comeD
    rw [if_pos R, tookD_no n _ (by rw [e2]; exact g3)]
end Go.Proofs.Ytnabpdengfmeaaa
