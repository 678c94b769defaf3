/- A heap with an array of pointers at a root: plain laws (writing a field, collecting). -/
import Derived.Test.YtaggadjiefgpoaaGreatDoorSl0
namespace Go.Proofs.Eff
open Go.RowKit

section
variable {h : HeapS} {os : List Nat} {a j : Nat} {y : Int}

/-- A field's word is no word of a header. -/
theorem fieldJ_far (wf : WF h os) (ha : a ∈ os) (hj : j < sizeAt h.words a) {x : Nat} (hx : x ∈ os) : a + 3 + j ≠ x ∧ a + 3 + j ≠ x + 1 ∧ a + 3 + j ≠ x + 2 := by
  rcases Nat.lt_trichotomy a x with hl | rfl | hl
  · have := wf.laid.apart a x ha hx hl; omega
  · omega
  · have := wf.laid.apart x a hx ha hl; omega
theorem fieldJ_far2 (wf : WF h os) (ha : a ∈ os) (hj : j < sizeAt h.words a) {x : Nat} (hx : x ∈ os) (hne : x ≠ a) {i : Nat} (hi : i < sizeAt h.words x) : a + 3 + j ≠ x + 3 + i := by
  rcases Nat.lt_trichotomy a x with hl | rfl | hl
  · have := wf.laid.apart a x ha hx hl; omega
  · exact absurd rfl hne
  · have := wf.laid.apart x a hx ha hl; omega
theorem setJ_hdr (wf : WF h os) (ha : a ∈ os) (hj : j < sizeAt h.words a) {x : Nat} (hx : x ∈ os) : hdrAt (setW h (a + 3 + j) y).words x = hdrAt h.words x := by
  obtain ⟨h1, h2, h3⟩ := fieldJ_far wf ha hj hx
  show hdrAt (h.words.set (a + 3 + j) y) x = _
  unfold hdrAt
  rw [wd_set_ne y h1, wd_set_ne y h2, wd_set_ne y h3]
theorem setJ_size (wf : WF h os) (ha : a ∈ os) (hj : j < sizeAt h.words a) {x : Nat} (hx : x ∈ os) : sizeAt (setW h (a + 3 + j) y).words x = sizeAt h.words x := by
  obtain ⟨h1, h2, h3⟩ := fieldJ_far wf ha hj hx
  show sizeAt (h.words.set (a + 3 + j) y) x = _
  unfold sizeAt
  rw [wd_set_ne y h1]
theorem setJ_wf (wf : WF h os) (ha : a ∈ os) (hj : j < sizeAt h.words a) (h0 : 0 ≤ y) (h1 : y < 4294967296) : WF (setW h (a + 3 + j) y) os := by
  refine ⟨by simpa [setW] using wf.pos, ?_, ?_, wf.laid.set (fun x hx => (fieldJ_far wf ha hj hx).1), ?_, wf.rlen, wf.rrng, wf.size0, wf.size1, by simpa [setW] using wf.fits, wf.last0, wf.last1⟩
  · show wd (h.words.set (a + 3 + j) y) 0 = 0
    rw [wd_set_ne y (by omega)]; exact wf.zero
  · intro x hx
    rcases List.mem_or_eq_of_mem_set hx with hx | rfl
    · exact wf.rng x hx
    · exact ⟨h0, h1⟩
  · show h.starts = _
    rw [wf.starts]; simp [setW]
theorem setJ_fields_ne (wf : WF h os) (ha : a ∈ os) (hj : j < sizeAt h.words a) {x : Nat} (hx : x ∈ os) (hne : x ≠ a) : fieldsAt (setW h (a + 3 + j) y).words x = fieldsAt h.words x := by
  have hm := wf.mem hx
  have e := setJ_size (y := y) wf ha hj hx
  have l1 : (fieldsAt (setW h (a + 3 + j) y).words x).length = sizeAt h.words x := by rw [fieldsAt_length (by rw [e]; simpa [setW] using hm.2.1), e]
  have l2 := fieldsAt_length hm.2.1
  apply List.ext_getElem (by omega)
  intro i h1 h2
  have hi : i < sizeAt h.words x := by omega
  have q1 := fieldsAt_wd (ws := (setW h (a + 3 + j) y).words) (a := x) (i := i) (by rw [e]; exact hi)
  have q2 := fieldsAt_wd (ws := h.words) (a := x) (i := i) hi
  have q3 : wd (setW h (a + 3 + j) y).words (x + 3 + i) = wd h.words (x + 3 + i) := wd_set_ne y (fieldJ_far2 wf ha hj hx hne hi)
  rw [q3, ← q2] at q1
  simpa [wd, h1, h2] using q1
theorem setJ_mem (wf : WF h os) (ha : a ∈ os) (hj : j < sizeAt h.words a) : ∀ z, z ∈ fieldsAt (setW h (a + 3 + j) y).words a → z ∈ fieldsAt h.words a ∨ z = y := by
  intro z hz
  have hm := wf.mem ha
  have e := setJ_size (y := y) wf ha hj ha
  have l1 : (fieldsAt (setW h (a + 3 + j) y).words a).length = sizeAt h.words a := by rw [fieldsAt_length (by rw [e]; simpa [setW] using hm.2.1), e]
  have l2 := fieldsAt_length hm.2.1
  obtain ⟨i, hi, rfl⟩ := List.getElem_of_mem hz
  have q0 : (fieldsAt (setW h (a + 3 + j) y).words a)[i] = wd (fieldsAt (setW h (a + 3 + j) y).words a) i := by simp [wd, hi]
  rw [q0, fieldsAt_wd (by rw [e]; omega)]
  by_cases hij : i = j
  · right
    subst hij
    exact wd_set_eq y (by have := hm.2.1; omega)
  · left
    have : wd (setW h (a + 3 + j) y).words (a + 3 + i) = wd h.words (a + 3 + i) := wd_set_ne y (by omega)
    rw [this, ← fieldsAt_wd (by omega)]
    exact wd_mem (by omega)
theorem setJ_sound (wf : WF h os) (hso : Sound h os) (ha : a ∈ os) (hj : j < sizeAt h.words a) (hf1 : (hdrAt h.words a).fmt = 1) (hv : valueOK os y = true) : Sound (setW h (a + 3 + j) y) os := by
  have hh : ∀ x, x ∈ os → hdrAt (setW h (a + 3 + j) y).words x = hdrAt h.words x := fun x hx => setJ_hdr wf ha hj hx
  refine ⟨fun x hx => by rw [hh x hx]; exact hso.cls x hx, fun x hx => by rw [hh x hx]; exact hso.ser0 x hx, fun x hx => by rw [hh x hx]; exact hso.ser1 x hx, ?_, ?_, ?_, hso.root⟩
  · have : (os.map fun x => (hdrAt (setW h (a + 3 + j) y).words x).ser) = os.map fun x => (hdrAt h.words x).ser := List.map_congr_left fun x hx => by rw [hh x hx]
    rw [this]; exact hso.uniq
  · intro x hx hf z hz
    rw [hh x hx] at hf
    by_cases e : x = a
    · subst e
      rcases setJ_mem wf ha hj z hz with hz | rfl
      · exact hso.fld x hx hf z hz
      · exact hv
    · rw [setJ_fields_ne wf ha hj hx e] at hz
      exact hso.fld x hx hf z hz
  · intro x hx hf
    rw [hh x hx] at hf
    by_cases e : x = a
    · subst e; rw [hf1] at hf; exact absurd hf (by decide)
    · have := hso.spare x hx hf
      unfold spareOK at *
      rw [hh x hx, setJ_fields_ne wf ha hj hx e]; exact this
end

/-- The array of the handles' objects: at the root of handles, of so many fields. -/
structure ArrOK (h : HeapS) (os : List Nat) (a cap : Nat) : Prop where
  mem : a ∈ os
  fmt : (hdrAt h.words a).fmt = 1
  size : sizeAt h.words a = cap
  root : wd h.roots 40 = 2 * (a : Int)
/-- A field of it. -/
def arrF (h : HeapS) (a k : Nat) : Int := wd h.words (a + 3 + k)

section
variable {h : HeapS} {os : List Nat} {a cap : Nat}
theorem ArrOK.obj (wf : WF h os) (A : ArrOK h os a cap) : isO os (2 * (a : Int)) = true ∧ isObj (2 * (a : Int)) = true := by
  have h1 := (wf.mem A.mem).1
  have h2 : isObj (2 * (a : Int)) = true := by simp [isObj]; omega
  refine ⟨?_, h2⟩
  simp [isO, h2, A.mem]
theorem ArrOK.setJ (wf : WF h os) (A : ArrOK h os a cap) {j : Nat} (hj : j < cap) (y : Int) : ArrOK (setW h (a + 3 + j) y) os a cap ∧ (∀ k, k < cap → arrF (setW h (a + 3 + j) y) a k = if k = j then y else arrF h a k) ∧ (∀ x, x ∈ os → serAt (setW h (a + 3 + j) y).words x = serAt h.words x) := by
  have hj' : j < sizeAt h.words a := by rw [A.size]; exact hj
  refine ⟨⟨A.mem, by rw [setJ_hdr wf A.mem hj' A.mem]; exact A.fmt, by rw [setJ_size wf A.mem hj' A.mem]; exact A.size, A.root⟩, ?_, fun x hx => congrArg Hdr.ser (setJ_hdr (y := y) wf A.mem hj' hx)⟩
  intro k hk
  unfold arrF
  by_cases e : k = j
  · subst e
    rw [if_pos rfl]
    exact wd_set_eq y (by have := (wf.mem A.mem).2.1; rw [A.size] at this; omega)
  · rw [if_neg e]
    exact wd_set_ne y (by omega)
/-- What a collection makes of it. -/
theorem ArrOK.collect (wf : WF h os) (hso : Sound h os) (A : ArrOK h os a cap) : ∃ a', ArrOK (collectH h os) (osC h os) a' cap ∧
    ∀ k, k < cap → isO os (arrF h a k) = true → isO (osC h os) (arrF (collectH h os) a' k) = true ∧ serAt (wordsC h os) (arrF (collectH h os) a' k / 2).toNat = serAt h.words (arrF h a k / 2).toNat := by
  obtain ⟨ao, aob⟩ := A.obj wf
  have hrl := wf.rlen
  have hin : 2 * (a : Int) ∈ h.roots := by rw [← A.root]; exact wd_mem (by omega)
  have hlv : 2 * (a : Int) ∈ liveOf h os := live_roots hin aob
  obtain ⟨b, hg, hb, hp, hb1⟩ := goes_live hlv
  obtain ⟨c1, c2, c3⟩ := hdrC hp
  have ea : (2 * (a : Int) / 2).toNat = a := by omega
  rw [ea] at c1 c2 c3
  have hfit := (wf.mem A.mem).2.1
  refine ⟨b, ⟨hb, by show (hdrAt (wordsC h os) b).fmt = 1; rw [c1]; exact A.fmt, by show sizeAt (wordsC h os) b = cap; rw [c2]; exact A.size, ?_⟩, ?_⟩
  · show wd (rootsC h os) 40 = _
    unfold rootsC
    rw [wd_map _ (by omega), A.root]
    simp only [whereV, aob, if_true, hg, Option.getD_some]
  · intro k hk ho
    have hks : k < sizeAt h.words a := by rw [A.size]; exact hk
    have hfm : arrF h a k ∈ fieldsAt h.words a := by
      unfold arrF
      rw [← fieldsAt_wd hks]
      exact wd_mem (by rw [fieldsAt_length hfit]; exact hks)
    have hob := (wf.isO_lt ho).1
    have hfl : arrF h a k ∈ liveOf h os := live_closed wf hso hlv (by rw [ea]; exact names_field A.fmt hfm hob)
    obtain ⟨b2, hg2, hb2, hp2, hb21⟩ := goes_live hfl
    obtain ⟨w1, w2, w3⟩ := whereV_ok wf hso (o := arrF h a k) (fun _ => hfl)
    have hv : arrF (collectH h os) b k = whereV (planOf h os) (arrF h a k) := by
      show wd (wordsC h os) (b + 3 + k) = _
      rw [← fieldsAt_wd (by rw [c2]; exact hks), c3, fieldsW_eq hfit, wd_map _ (by rw [fieldsAt_length hfit]; exact hks), fieldsAt_wd hks]
      have hpf : ptrF (hdrAt h.words a).fmt = true := by rw [A.fmt]; rfl
      show layOne _ _ _ (arrF h a k) = _
      simp only [layOne, hpf, if_true, w2]
    have hwv : whereV (planOf h os) (arrF h a k) = 2 * (b2 : Int) := by simp only [whereV, hob, if_true, hg2, Option.getD_some]
    rw [hv]
    refine ⟨w3 hob, ?_⟩
    rw [hwv, show (2 * (b2 : Int) / 2).toNat = b2 by omega]
    exact congrArg Hdr.ser (hdrC hp2).1
end
end Go.Proofs.Eff
