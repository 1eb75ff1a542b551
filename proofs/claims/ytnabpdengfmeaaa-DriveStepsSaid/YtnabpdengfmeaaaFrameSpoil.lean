/- Layer 3 without the walk: a frame of which two bytes side by side were changed doesn't fit its sum. -/
import Derived.Test.YtnabpdengfmeaaaFramePlain
import Derived.Test.YtnabpdengfmeaaaSumBurstWalk
namespace Go.Proofs.Ytnabpdengfmeaaa

/-- the bytes L with the one at i and the one behind it changed -/
def spoil (L : List Int) (i : Nat) (x y : Int) : List Int := (L.set i (x8 (L.getD i 0) x)).set (i + 1) (x8 (L.getD (i + 1) 0) y)
theorem spoil_len (L : List Int) (i : Nat) (x y : Int) : (spoil L i x y).length = L.length := by simp [spoil]
theorem set_two (L : List Int) (i : Nat) (u v : Int) (h : i + 1 < L.length) : (L.set i u).set (i + 1) v = L.take i ++ [u, v] ++ L.drop (i + 2) := by
  apply List.ext_getElem?
  intro k
  simp only [List.getElem?_set, List.getElem?_append, List.length_append, List.length_take, List.length_cons, List.length_nil, List.getElem?_take, List.getElem?_drop, List.length_set]
  have hm : min i L.length = i := by omega
  rw [hm]
  by_cases h1 : k < i
  · rw [if_neg (by omega), if_neg (by omega), if_pos (by omega), if_pos (by omega), if_pos h1]
  · by_cases h2 : k = i
    · subst h2
      rw [if_neg (by omega), if_pos rfl, if_pos (by omega), if_pos (by omega), if_neg (by omega)]
      simp
    · by_cases h3 : k = i + 1
      · subst h3
        rw [if_pos rfl, if_pos (by omega), if_pos (by omega), if_neg (by omega)]
        simp
      · rw [if_neg (by omega), if_neg (by omega), if_neg (by omega)]
        congr 1; omega
theorem set_same (L : List Int) (i : Nat) : L.set i (L.getD i 0) = L := by
  apply List.ext_getElem?
  intro k
  rw [List.getElem?_set]
  by_cases h : i = k
  · subst h
    rw [if_pos rfl]
    by_cases hk : i < L.length
    · rw [if_pos hk]; simp [List.getD, hk]
    · rw [if_neg hk]; simp [List.getElem?_eq_none (show L.length ≤ i by omega)]
  · rw [if_neg h]
theorem bytes_set {L : List Int} (hB : Crc.Bytes L) (i : Nat) {u : Int} (h0 : 0 ≤ u) (h1 : u < 256) : Crc.Bytes (L.set i u) := by
  intro z hz
  rcases List.mem_or_eq_of_mem_set hz with h | h
  · exact hB z h
  · subst h; exact ⟨h0, h1⟩
theorem spoil_none (L : List Int) (hB : Crc.Bytes L) (i : Nat) : spoil L i 0 0 = L := by
  have h1 := Crc.bytes_at hB i
  have h2 := Crc.bytes_at hB (i + 1)
  unfold spoil
  rw [(x8_same h1.1 (by omega) (by omega) (by omega)).2 rfl, (x8_same h2.1 (by omega) (by omega) (by omega)).2 rfl, set_same, set_same]
theorem spoil_bytes {L : List Int} (hB : Crc.Bytes L) (i : Nat) {x y : Int} (hx0 : 0 ≤ x) (hx1 : x ≤ 255) (hy0 : 0 ≤ y) (hy1 : y ≤ 255) : Crc.Bytes (spoil L i x y) := by
  have h1 := Crc.bytes_at hB i
  have h2 := Crc.bytes_at hB (i + 1)
  have k1 := x8_in h1.1 (show L.getD i 0 ≤ 255 by omega) hx0 hx1
  have k2 := x8_in h2.1 (show L.getD (i + 1) 0 ≤ 255 by omega) hy0 hy1
  exact bytes_set (bytes_set hB i k1.1 (by omega)) _ k2.1 (by omega)
theorem spoil_fits (L : List Int) (hl : L.length = 13) (hB : Crc.Bytes L) (hf : Fr.sumFits L = true) (i : Nat) (hi : i < 13) (x y : Int) (hx0 : 0 ≤ x) (hx1 : x ≤ 255) (hy0 : 0 ≤ y) (hy1 : y ≤ 255) (h12 : i = 12 → y = 0) :
    Fr.sumFits (spoil L i x y) = true ↔ x = 0 ∧ y = 0 := by
  constructor
  · intro h
    have h' := (Fr.fits_iff _ (by rw [spoil_len, hl]) (spoil_bytes hB i hx0 hx1 hy0 hy1)).1 h
    have hf' := (Fr.fits_iff _ hl hB).1 hf
    by_cases h11 : i < 12
    · have b1 := Crc.bytes_at hB i
      have b2 := Crc.bytes_at hB (i + 1)
      have e2 : spoil L i x y = L.take i ++ [x8 (L.getD i 0) x, x8 (L.getD (i + 1) 0) y] ++ L.drop (i + 2) := by
        unfold spoil; exact set_two L i _ _ (by omega)
      have e1 : L = L.take i ++ [L.getD i 0, L.getD (i + 1) 0] ++ L.drop (i + 2) := by
        rw [← set_two L i _ _ (by omega), set_same, set_same]
      rw [e2] at h'
      rw [e1] at hf'
      refine (burst 65535 (L.take i) (L.drop (i + 2)) _ _ x y (by omega) (Crc.bytes_take hB i) (fun z hz => hB z (List.mem_of_mem_drop hz)) b1.1 (by omega) b2.1 (by omega) hx0 hx1 hy0 hy1).1 ?_
      rw [h', hf']
    · obtain rfl : i = 12 := by omega
      obtain rfl := h12 rfl
      have b1 := Crc.bytes_at hB 11
      have b2 := Crc.bytes_at hB 12
      have e0 : spoil L 12 x 0 = L.set 12 (x8 (L.getD 12 0) x) := by
        unfold spoil
        exact List.set_eq_of_length_le (by simp; omega)
      have e3 : x8 (L.getD 11 0) 0 = L.getD 11 0 := (x8_same b1.1 (by omega) (by omega) (by omega)).2 rfl
      have e2 : spoil L 12 x 0 = L.take 11 ++ [x8 (L.getD 11 0) 0, x8 (L.getD 12 0) x] ++ L.drop 13 := by
        rw [e0, ← set_two L 11 _ _ (by omega), e3, set_same]
      have e1 : L = L.take 11 ++ [L.getD 11 0, L.getD 12 0] ++ L.drop 13 := by
        rw [← set_two L 11 _ _ (by omega), set_same, set_same]
      rw [e2] at h'
      rw [e1] at hf'
      have := (burst 65535 (L.take 11) (L.drop 13) _ _ 0 x (by omega) (Crc.bytes_take hB 11) (fun z hz => hB z (List.mem_of_mem_drop hz)) b1.1 (by omega) b2.1 (by omega) (by omega) (by omega) hx0 hx1).1 (by rw [h', hf'])
      exact ⟨this.2, rfl⟩
  · rintro ⟨rfl, rfl⟩
    rw [spoil_none L hB]; exact hf
theorem readN_unfit (sign most : Int) (L : List Int) (hl : L.length = 13) (hf : Fr.sumFits L = false) : Fr.readN sign most L = ⟨0, 0, 0, 6⟩ := by
  unfold Fr.readN
  rw [hl, if_neg (by omega), if_neg (by omega), if_pos hf]
end Go.Proofs.Ytnabpdengfmeaaa
