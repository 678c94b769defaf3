/- What the document's heap keeps, in plain laws. -/
import Derived.Test.YtaggadjiefgpoaaGreatDoorHa23
namespace Go.Proofs.Eff
open Go.RowKit

theorem wd_bytes_last {ws : List Int} {n t : Nat} (hn : ws.length = n + 1) : wd (bytesOf ws) (4 * n + t) = wd (bytes4 (wd ws n)) t := by
  have h := bytesOf_snoc ws n (by omega)
  rw [List.take_of_length_le (by omega)] at h
  have hl : (bytesOf (ws.take n)).length = 4 * n := by rw [bytesOf_length, List.length_take]; omega
  rw [h, wd_append_right (by omega), hl]
  congr 1
  omega

theorem tailZero_last {ws : List Int} {s n : Nat} (hn : ws.length = n + 1) (h1 : 1 ≤ s) (h2 : s ≤ 3) (hr : 0 ≤ wd ws n ∧ wd ws n < 4294967296) :
    tailZero ws s = true ↔ wd ws n / 2 ^ (32 - 8 * s) = 0 := by
  rw [tailZero_iff _ _ (by omega)]
  have hb : ∀ t, wd (bytesOf ws) (4 * n + t) = wd (bytes4 (wd ws n)) t := fun t => wd_bytes_last hn
  have b1 : wd (bytes4 (wd ws n)) 1 = wd ws n / 256 % 256 := rfl
  have b2 : wd (bytes4 (wd ws n)) 2 = wd ws n / 65536 % 256 := rfl
  have b3 : wd (bytes4 (wd ws n)) 3 = wd ws n / 16777216 := rfl
  generalize wd ws n = x at *
  obtain ⟨hr0, hr1⟩ := hr
  obtain rfl | rfl | rfl : s = 1 ∨ s = 2 ∨ s = 3 := by omega
  · have e : 4 * ws.length - 1 = 4 * n + 3 := by omega
    simp only [e]
    constructor
    · intro h; have := h 0 (by omega); rw [Nat.add_zero, hb 3, b3] at this; simpa using this
    · intro h j hj
      obtain rfl : j = 0 := by omega
      rw [Nat.add_zero, hb 3, b3]; simpa using h
  · have e : 4 * ws.length - 2 = 4 * n + 2 := by omega
    simp only [e]
    constructor
    · intro h
      have q0 := h 0 (by omega)
      have q1 := h 1 (by omega)
      rw [Nat.add_zero, hb 2, b2] at q0
      rw [Nat.add_assoc, hb 3, b3] at q1
      simp only [Nat.reduceMul, Nat.reduceSub, Int.reducePow]; omega
    · intro h j hj
      simp only [Nat.reduceMul, Nat.reduceSub, Int.reducePow] at h
      obtain rfl | rfl : j = 0 ∨ j = 1 := by omega
      · rw [Nat.add_zero, hb 2, b2]; omega
      · rw [Nat.add_assoc, hb 3, b3]; omega
  · have e : 4 * ws.length - 3 = 4 * n + 1 := by omega
    simp only [e]
    constructor
    · intro h
      have q0 := h 0 (by omega)
      have q1 := h 1 (by omega)
      have q2 := h 2 (by omega)
      rw [Nat.add_zero, hb 1, b1] at q0
      rw [Nat.add_assoc, hb 2, b2] at q1
      rw [Nat.add_assoc, hb 3, b3] at q2
      simp only [Nat.reduceMul, Nat.reduceSub, Int.reducePow]; omega
    · intro h j hj
      simp only [Nat.reduceMul, Nat.reduceSub, Int.reducePow] at h
      obtain rfl | rfl | rfl : j = 0 ∨ j = 1 ∨ j = 2 := by omega
      · rw [Nat.add_zero, hb 1, b1]; omega
      · rw [Nat.add_assoc, hb 2, b2]; omega
      · rw [Nat.add_assoc, hb 3, b3]; omega

/-- A field of an object is as it must be. -/
def fldOK (h : HeapS) (os : List Nat) (a j : Nat) : Bool :=
  (!(ptrF (fmtAt h.words a)) || valueOK os (wd h.words (a + 3 + j))) && !(decide (j + 1 = sizeAt h.words a) && decide (0 < spAt h.words a) && decide (wd h.words (a + 3 + j) / 2 ^ (32 - 8 * (spAt h.words a).toNat) ≠ 0))

theorem flds_iff {h : HeapS} {os : List Nat} (wf : WF h os) {a : Nat} (ha : a ∈ os) :
    ((fmtAt h.words a != 2 || spareOK h.words a) && (!(ptrF (fmtAt h.words a)) || (fieldsAt h.words a).all (valueOK os))) = (List.range (sizeAt h.words a)).all (fldOK h os a) := by
  have hm := wf.mem ha
  have hfl := fieldsAt_length hm.2.1
  have hmay := wf.hdr ha
  have hsz : (hdrAt h.words a).size = sizeAt h.words a := by have := wf.word a; simp [hdrAt, hdrOf, sizeAt]; omega
  have hf0 : (hdrAt h.words a).fmt = fmtAt h.words a := rfl
  have hs0 : (hdrAt h.words a).spare = spAt h.words a := rfl
  have hsp0 : spareOK h.words a = tailZero (fieldsAt h.words a) (spAt h.words a).toNat := rfl
  simp only [mayB, Bool.and_eq_true, Bool.or_eq_true, decide_eq_true_eq, beq_iff_eq, hsz, hf0, hs0] at hmay
  have hwd : ∀ j, j < sizeAt h.words a → wd (fieldsAt h.words a) j = wd h.words (a + 3 + j) := fun j hj => fieldsAt_wd hj
  have hrg : ∀ j, 0 ≤ wd h.words (a + 3 + j) ∧ wd h.words (a + 3 + j) < 4294967296 := fun j => wf.word _
  have hlast : ∀ n, sizeAt h.words a = n + 1 → 1 ≤ spAt h.words a → (tailZero (fieldsAt h.words a) (spAt h.words a).toNat = true ↔ wd h.words (a + 3 + n) / 2 ^ (32 - 8 * (spAt h.words a).toNat) = 0) := by
    intro n hn h1
    have := tailZero_last (ws := fieldsAt h.words a) (s := (spAt h.words a).toNat) (n := n) (by omega) (by omega) (by omega) (by rw [hwd n (by omega)]; exact hrg n)
    rw [hwd n (by omega)] at this; exact this
  have hz : ¬ 0 < spAt h.words a → tailZero (fieldsAt h.words a) (spAt h.words a).toNat = true := fun h1 => (tailZero_iff _ _ (by omega)).2 (fun j hj => by omega)
  rw [hsp0]
  generalize tailZero (fieldsAt h.words a) (spAt h.words a).toNat = tz at *
  have hall : (fieldsAt h.words a).all (valueOK os) = (List.range (sizeAt h.words a)).all (fun j => valueOK os (wd h.words (a + 3 + j))) := by
    rw [Bool.eq_iff_iff, List.all_eq_true, List.all_eq_true]
    constructor
    · intro h1 j hj
      have hj' : j < sizeAt h.words a := by simpa using hj
      have := h1 (wd (fieldsAt h.words a) j) (by simp [wd, show j < (fieldsAt h.words a).length by omega])
      rwa [hwd j hj'] at this
    · intro h1 x hx
      obtain ⟨j, hj, rfl⟩ := List.getElem_of_mem hx
      have := h1 j (by simp; omega)
      rw [← hwd j (by omega)] at this
      simpa [wd, hj] using this
  rw [hall, Bool.eq_iff_iff]
  simp only [Bool.and_eq_true, Bool.or_eq_true, bne_iff_ne, ne_eq, Bool.not_eq_true', List.all_eq_true, List.mem_range, fldOK, Bool.and_eq_false_iff, decide_eq_false_iff_not, Decidable.not_not]
  constructor
  · rintro ⟨h1, h2⟩ j hj
    refine ⟨?_, ?_⟩
    · rcases h2 with h2 | h2
      · exact .inl h2
      · exact .inr (h2 j hj)
    · by_cases e1 : j + 1 = sizeAt h.words a
      · by_cases e2 : 0 < spAt h.words a
        · refine .inr ?_
          rcases h1 with h1 | h1
          · omega
          · exact (hlast j (by omega) (by omega)).1 h1
        · exact .inl (.inr (by omega))
      · exact .inl (.inl e1)
  · intro h1
    refine ⟨?_, ?_⟩
    · by_cases e1 : fmtAt h.words a = 2
      · refine .inr ?_
        by_cases e2 : 0 < spAt h.words a
        · obtain ⟨n, hn⟩ : ∃ n, sizeAt h.words a = n + 1 := ⟨sizeAt h.words a - 1, by omega⟩
          rcases (h1 n (by omega)).2 with (h3 | h3) | h3
          · omega
          · omega
          · exact (hlast n hn (by omega)).2 h3
        · exact hz e2
      · exact .inl e1
    · cases hp : ptrF (fmtAt h.words a) with
      | false => exact .inl rfl
      | true =>
        refine .inr fun j hj => ?_
        rcases (h1 j hj).1 with h3 | h3
        · rw [hp] at h3; cases h3
        · exact h3

theorem okObj_flds {h : HeapS} {os pre : List Nat} (wf : WF h os) {a : Nat} (ha : a ∈ os) :
    okObj h os pre a = (serAt h.words a != 0 && decide (serAt h.words a ≤ h.last) && !(pre.map (serAt h.words)).contains (serAt h.words a) && classOK os (clsAt h.words a) && (List.range (sizeAt h.words a)).all (fldOK h os a)) := by
  unfold okObj
  rw [← flds_iff wf ha]
  simp only [Bool.and_assoc]

end Go.Proofs.Eff
