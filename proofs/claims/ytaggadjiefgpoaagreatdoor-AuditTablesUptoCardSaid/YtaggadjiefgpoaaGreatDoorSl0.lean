/- A heap of which one field's word is another: plain laws. -/
import Derived.Test.YtaggadjiefgpoaaGreatDoorHa26
namespace Go.Proofs.Eff
open Go.RowKit

theorem Laid.apart {ws : List Int} : ∀ {os : List Nat} {a : Nat}, Laid ws a os → ∀ x y, x ∈ os → y ∈ os → x < y → x + 3 + sizeAt ws x ≤ y := by
  intro os
  induction os with
  | nil => intro a _ x y hx; cases hx
  | cons z l ih =>
    rintro a ⟨rfl, h2, h3, h4⟩ x y hx hy hlt
    rcases List.mem_cons.1 hx with rfl | hx1
    · rcases List.mem_cons.1 hy with rfl | hy1
      · omega
      · exact (h4.mem y hy1).1
    · rcases List.mem_cons.1 hy with rfl | hy1
      · have := (h4.mem x hx1).1; omega
      · exact ih h4 x y hx1 hy1 hlt

theorem wd_set_ne {l : List Int} {i j : Nat} (y : Int) (h : i ≠ j) : wd (l.set i y) j = wd l j := by simp [wd, h]
theorem wd_set_eq {l : List Int} {i : Nat} (y : Int) (h : i < l.length) : wd (l.set i y) i = y := by simp [wd, h]

theorem Laid.set {ws : List Int} {i : Nat} {y : Int} : ∀ {os : List Nat} {a : Nat}, Laid ws a os → (∀ x, x ∈ os → i ≠ x) → Laid (ws.set i y) a os := by
  intro os
  induction os with
  | nil => intro a h _; simpa [Laid] using h
  | cons z l ih =>
    rintro a ⟨rfl, h2, h3, h4⟩ hn
    have hz := wd_set_ne (l := ws) y (hn z (by simp))
    have hs : sizeAt (ws.set i y) z = sizeAt ws z := by unfold sizeAt; rw [hz]
    refine ⟨rfl, by rw [hs]; simpa using h2, by rw [hz]; exact h3, ?_⟩
    rw [hs]
    exact ih h4 (fun x hx => hn x (by simp [hx]))

def setW (h : HeapS) (i : Nat) (y : Int) : HeapS := { h with words := h.words.set i y }

section
variable {h : HeapS} {os : List Nat} {a : Nat} {y : Int}

/-- The first field's word is no word of a header. -/
theorem field_far (wf : WF h os) (ha : a ∈ os) (hs : 0 < sizeAt h.words a) {x : Nat} (hx : x ∈ os) : a + 3 ≠ x ∧ a + 3 ≠ x + 1 ∧ a + 3 ≠ x + 2 := by
  rcases Nat.lt_trichotomy a x with hl | rfl | hl
  · have := wf.laid.apart a x ha hx hl; omega
  · omega
  · have := wf.laid.apart x a hx ha hl; omega
theorem field_far2 (wf : WF h os) (ha : a ∈ os) (_hs : 0 < sizeAt h.words a) {x : Nat} (hx : x ∈ os) (hne : x ≠ a) {j : Nat} (hj : j < sizeAt h.words x) : a + 3 ≠ x + 3 + j := by
  rcases Nat.lt_trichotomy a x with hl | rfl | hl
  · have := wf.laid.apart a x ha hx hl; omega
  · exact absurd rfl hne
  · have := wf.laid.apart x a hx ha hl; omega
theorem setW_hdr (wf : WF h os) (ha : a ∈ os) (hs : 0 < sizeAt h.words a) {x : Nat} (hx : x ∈ os) : hdrAt (setW h (a + 3) y).words x = hdrAt h.words x := by
  obtain ⟨h1, h2, h3⟩ := field_far wf ha hs hx
  show hdrAt (h.words.set (a + 3) y) x = _
  unfold hdrAt
  rw [wd_set_ne y h1, wd_set_ne y h2, wd_set_ne y h3]
theorem setW_size (wf : WF h os) (ha : a ∈ os) (hs : 0 < sizeAt h.words a) {x : Nat} (hx : x ∈ os) : sizeAt (setW h (a + 3) y).words x = sizeAt h.words x := by
  obtain ⟨h1, h2, h3⟩ := field_far wf ha hs hx
  show sizeAt (h.words.set (a + 3) y) x = _
  unfold sizeAt
  rw [wd_set_ne y h1]
theorem setW_wf (wf : WF h os) (ha : a ∈ os) (hs : 0 < sizeAt h.words a) (h0 : 0 ≤ y) (h1 : y < 4294967296) : WF (setW h (a + 3) y) os := by
  refine ⟨by simpa [setW] using wf.pos, ?_, ?_, wf.laid.set (fun x hx => (field_far wf ha hs hx).1), ?_, wf.rlen, wf.rrng, wf.size0, wf.size1, by simpa [setW] using wf.fits, wf.last0, wf.last1⟩
  · show wd (h.words.set (a + 3) y) 0 = 0
    rw [wd_set_ne y (by omega)]; exact wf.zero
  · intro x hx
    rcases List.mem_or_eq_of_mem_set hx with hx | rfl
    · exact wf.rng x hx
    · exact ⟨h0, h1⟩
  · show h.starts = _
    rw [wf.starts]; simp [setW]
theorem setW_fields_ne (wf : WF h os) (ha : a ∈ os) (hs : 0 < sizeAt h.words a) {x : Nat} (hx : x ∈ os) (hne : x ≠ a) : fieldsAt (setW h (a + 3) y).words x = fieldsAt h.words x := by
  have hm := wf.mem hx
  have e := setW_size (y := y) wf ha hs hx
  have l1 : (fieldsAt (setW h (a + 3) y).words x).length = sizeAt h.words x := by rw [fieldsAt_length (by rw [e]; simpa [setW] using hm.2.1), e]
  have l2 := fieldsAt_length hm.2.1
  apply List.ext_getElem (by omega)
  intro j h1 h2
  have hj : j < sizeAt h.words x := by omega
  have q1 := fieldsAt_wd (ws := (setW h (a + 3) y).words) (a := x) (i := j) (by rw [e]; exact hj)
  have q2 := fieldsAt_wd (ws := h.words) (a := x) (i := j) hj
  have q3 : wd (setW h (a + 3) y).words (x + 3 + j) = wd h.words (x + 3 + j) := wd_set_ne y (field_far2 wf ha hs hx hne hj)
  rw [q3, ← q2] at q1
  simpa [wd, h1, h2] using q1
theorem setW_fields_eq (wf : WF h os) (ha : a ∈ os) (hs : 0 < sizeAt h.words a) : fieldsAt (setW h (a + 3) y).words a = (fieldsAt h.words a).set 0 y := by
  have hm := wf.mem ha
  have e := setW_size (y := y) wf ha hs ha
  have l1 : (fieldsAt (setW h (a + 3) y).words a).length = sizeAt h.words a := by rw [fieldsAt_length (by rw [e]; simpa [setW] using hm.2.1), e]
  have l2 := fieldsAt_length hm.2.1
  apply List.ext_getElem (by simp; omega)
  intro j h1 h2
  have hj : j < sizeAt h.words a := by omega
  have q1 := fieldsAt_wd (ws := (setW h (a + 3) y).words) (a := a) (i := j) (by rw [e]; exact hj)
  have q2 := fieldsAt_wd (ws := h.words) (a := a) (i := j) hj
  have hjl : j < (fieldsAt h.words a).length := by omega
  have q4 : (fieldsAt (setW h (a + 3) y).words a)[j] = wd (fieldsAt (setW h (a + 3) y).words a) j := by simp [wd, h1]
  rw [q4, q1]
  show wd (h.words.set (a + 3) y) (a + 3 + j) = _
  rw [List.getElem_set]
  by_cases hj0 : 0 = j
  · subst hj0
    rw [Nat.add_zero, wd_set_eq y (by omega)]; simp
  · rw [if_neg hj0, wd_set_ne y (by omega), ← q2]; simp [wd, hjl]

theorem tail_set {l : List Int} {s : Nat} (hl : s < 4 * l.length) (_hs : s ≤ 3) (h0 : 0 < l.length) (he : y / 256 = wd l 0 / 256) : tailZero (l.set 0 y) s = tailZero l s := by
  cases l with
  | nil => simp at h0
  | cons x r =>
    have he2 : y / 256 = x / 256 := he
    have hb : ∀ k, 1 ≤ k → wd (bytesOf (y :: r)) k = wd (bytesOf (x :: r)) k := by
      intro k hk
      have e1 : bytesOf (y :: r) = bytes4 y ++ bytesOf r := by simp [bytesOf]
      have e2 : bytesOf (x :: r) = bytes4 x ++ bytesOf r := by simp [bytesOf]
      have l1 : (bytes4 y).length = 4 := rfl
      have l2 : (bytes4 x).length = 4 := rfl
      rw [e1, e2]
      by_cases h4 : k < 4
      · rw [wd_append_left (by omega), wd_append_left (by omega)]
        obtain rfl | rfl | rfl : k = 1 ∨ k = 2 ∨ k = 3 := by omega
        · show y / 256 % 256 = x / 256 % 256; rw [he2]
        · show y / 65536 % 256 = x / 65536 % 256; omega
        · show y / 16777216 = x / 16777216; omega
      · rw [wd_append_right (by omega), wd_append_right (by omega), l1, l2]
    rw [Bool.eq_iff_iff, List.set_cons_zero, tailZero_iff _ _ (by simp at *; omega), tailZero_iff _ _ (by simp at *; omega)]
    simp only [List.length_cons] at *
    constructor
    · intro h1 j hj; rw [← hb _ (by omega)]; exact h1 j hj
    · intro h1 j hj; rw [hb _ (by omega)]; exact h1 j hj

theorem setW_sound (wf : WF h os) (hso : Sound h os) (ha : a ∈ os) (hs : 0 < sizeAt h.words a) (hv : (hdrAt h.words a).fmt = 1 ∨ (hdrAt h.words a).fmt = 4 → valueOK os y = true)
    (hb : (hdrAt h.words a).fmt = 2 → (hdrAt h.words a).spare < 4 * (sizeAt h.words a : Int) ∧ y / 256 = wd h.words (a + 3) / 256) : Sound (setW h (a + 3) y) os := by
  have hh : ∀ x, x ∈ os → hdrAt (setW h (a + 3) y).words x = hdrAt h.words x := fun x hx => setW_hdr wf ha hs hx
  refine ⟨fun x hx => by rw [hh x hx]; exact hso.cls x hx, fun x hx => by rw [hh x hx]; exact hso.ser0 x hx, fun x hx => by rw [hh x hx]; exact hso.ser1 x hx, ?_, ?_, ?_, hso.root⟩
  · have : (os.map fun x => (hdrAt (setW h (a + 3) y).words x).ser) = os.map fun x => (hdrAt h.words x).ser := List.map_congr_left fun x hx => by rw [hh x hx]
    rw [this]; exact hso.uniq
  · intro x hx hf z hz
    rw [hh x hx] at hf
    by_cases e : x = a
    · subst e
      rw [setW_fields_eq wf ha hs] at hz
      rcases List.mem_or_eq_of_mem_set hz with hz | rfl
      · exact hso.fld x hx hf z hz
      · exact hv hf
    · rw [setW_fields_ne wf ha hs hx e] at hz
      exact hso.fld x hx hf z hz
  · intro x hx hf
    rw [hh x hx] at hf
    have := hso.spare x hx hf
    unfold spareOK at *
    rw [hh x hx]
    by_cases e : x = a
    · subst e
      obtain ⟨b1, b2⟩ := hb hf
      have hm := wf.mem hx
      have hfl := fieldsAt_length hm.2.1
      have hmb := mayB_bounds (wf.hdr hx)
      rw [setW_fields_eq wf ha hs, tail_set (by omega) (by omega) (by omega) (by rw [fieldsAt_wd hs]; exact b2)]
      exact this
    · rw [setW_fields_ne wf ha hs hx e]; exact this
end

theorem findR_ex {p : Nat → Bool} {n k : Nat} (hk : k < n) (hp : p k = true) : ∃ i, i < n ∧ findR p n = some i := by
  unfold findR
  cases h : (List.range n).find? p with
  | none =>
    rw [List.find?_eq_none] at h
    exact absurd hp (h k (by simp [hk]))
  | some i =>
    have := List.mem_of_find?_eq_some h
    exact ⟨i, by simpa using this, rfl⟩

/-- A word of a live object is another one: something is found. -/
theorem coll_other {h : HeapS} {os : List Nat} (wf : WF h os) (hso : Sound h os) {a : Nat} {y : Int} (ha : a ∈ osC h os) (hs : 0 < sizeAt (wordsC h os) a) (hy : y ≠ wd (wordsC h os) (a + 3)) :
    ∃ s, 0 < s ∧ collF h os (setW (collectH h os) (a + 3) y) (osC h os) = (14, s) := by
  have wfc := collect_wf wf hso
  have soc := collect_sound wf hso
  have hs0 := serC' wf hso
  have hser : ∀ x, x ∈ osC h os → serAt (setW (collectH h os) (a + 3) y).words x = serAt (wordsC h os) x := fun x hx => congrArg Hdr.ser (setW_hdr (y := y) wfc ha hs hx)
  have hsm : (oopsOf (osC h os)).map (serO (setW (collectH h os) (a + 3) y).words) = (liveOf h os).map (serO h.words) := by
    rw [← hs0, serO_oops, serO_oops]
    exact List.map_congr_left hser
  have hlen : (oopsOf (osC h os)).length = (liveOf h os).length := by have := congrArg List.length hs0; simpa using this
  obtain ⟨k, hk, hka⟩ := List.getElem_of_mem ha
  have hk' : k < (oopsOf (osC h os)).length := by simpa [oopsOf] using hk
  have hwk : (wd (oopsOf (osC h os)) k / 2).toNat = a := by
    have : wd (oopsOf (osC h os)) k = 2 * (a : Int) := by simp [wd, oopsOf, hk, hka]
    rw [this]; omega
  have hpa : pA (wordsC h os) (oopsOf (osC h os)) (setW (collectH h os) (a + 3) y).words (oopsOf (osC h os)) k = true := by
    unfold pA alikeB
    rw [hwk, setW_fields_eq wfc ha hs]
    have hm := wfc.mem ha
    have hfl : (fieldsAt (wordsC h os) a).length = sizeAt (wordsC h os) a := fieldsAt_length hm.2.1
    have hne : ¬ fieldsAt (wordsC h os) a = (fieldsAt (collectH h os).words a).set 0 y := by
      intro e
      have e2 := congrArg (fun l => wd l 0) e
      have e3 : wd (fieldsAt (wordsC h os) a) 0 = wd (wordsC h os) (a + 3) := fieldsAt_wd hs
      have e4 : wd ((fieldsAt (wordsC h os) a).set 0 y) 0 = y := wd_set_eq y (by omega)
      simp only [e3] at e2
      exact hy (e4.symm.trans e2.symm)
    simp [hne]
  obtain ⟨i, hi, hf⟩ := findR_ex hk' hpa
  refine ⟨serO (setW (collectH h os) (a + 3) y).words (wd (oopsOf (osC h os)) i), ?_, ?_⟩
  · have hio : i < (osC h os).length := by simpa [oopsOf] using hi
    have : wd (oopsOf (osC h os)) i = 2 * ((osC h os)[i] : Int) := by simp [wd, oopsOf, hio]
    have hmem : (osC h os)[i] ∈ osC h os := List.getElem_mem hio
    rw [serO, this, show (2 * ((osC h os)[i] : Int) / 2).toNat = (osC h os)[i] by omega, hser _ hmem]
    exact soc.ser0 _ hmem
  · unfold collF
    rw [if_pos ⟨rfl, rfl⟩]
    generalize hM : (setW (collectH h os) (a + 3) y).words = M at *
    rw [cF1_none, cF1_none, cF3_none]
    · unfold cF4
      rw [hf]
    · intro j hj
      have h1 := congrArg (fun z => wd z j) hsm
      simp only [wd_map _ hj, wd_map _ (hlen ▸ hj)] at h1
      simp [pO, h1]
    · intro j hj
      unfold pC
      rw [← hsm]
      simp only [Bool.not_eq_false', List.contains_eq_mem, decide_eq_true_eq]
      exact List.mem_map.2 ⟨_, wd_mem hj, rfl⟩
    · intro j hj
      unfold pC
      rw [hsm]
      simp only [Bool.not_eq_false', List.contains_eq_mem, decide_eq_true_eq]
      exact List.mem_map.2 ⟨_, wd_mem hj, rfl⟩

end Go.Proofs.Eff
