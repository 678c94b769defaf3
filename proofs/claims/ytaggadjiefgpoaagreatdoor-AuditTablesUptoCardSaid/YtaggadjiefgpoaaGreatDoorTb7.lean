/- The table of handles against its book: plain laws. -/
import Derived.Test.YtaggadjiefgpoaaGreatDoorTb6
namespace Go.Proofs.Eff
open Go.RowKit

/-- A table of handles and its book. -/
structure Rel (h : HeapS) (os : List Nat) (a cap : Nat) (T : HTab) (M : TabS) : Prop where
  ok : TabOK M
  capE : M.cap = (cap : Int)
  next : M.next = T.next
  clock : M.clock = T.now
  len : T.slots.length = 256
  zero : ∀ k (hk : k < T.slots.length), T.slots[k].1 = 0 → T.slots[k] = (0, 0)
  used : ∀ k (hk : k < T.slots.length), T.slots[k] ≠ (0, 0) → k < cap ∧ isO os (arrF h a k) = true ∧ lget M.live T.slots[k].1 = some (serO h.words (arrF h a k), T.slots[k].2)
  conv : ∀ i, i ∈ M.live.map (·.1) → ∃ k, ∃ hk : k < T.slots.length, T.slots[k].1 = i
  inj : ∀ j k (hj : j < T.slots.length) (hk : k < T.slots.length), T.slots[j].1 = T.slots[k].1 → T.slots[j].1 ≠ 0 → j = k
  fresh : ∀ i, i ∈ M.live.map (·.1) → 1 ≤ i ∧ (M.next = 0 ∨ i < M.next)

section
variable {h : HeapS} {os : List Nat} {a cap : Nat} {T : HTab} {M : TabS}
theorem Rel.usedOK (R : Rel h os a cap T M) : UsedOK h os a cap T := fun k hk hn => ⟨(R.used k hk hn).1, (R.used k hk hn).2.1⟩
theorem Rel.ne0 (_R : Rel h os a cap T M) {k : Nat} (hk : k < T.slots.length) (hi : T.slots[k].1 ≠ 0) : T.slots[k] ≠ (0, 0) := fun e => hi (by rw [e])
theorem lget_some_of_mem : ∀ {l : LT} {i : Int}, i ∈ l.map (·.1) → ∃ x, lget l i = some x := by
  intro l i hi
  cases h : lget l i with
  | none => exact absurd hi (lget_none.1 h)
  | some x => exact ⟨x, rfl⟩
/-- No such number: no place. -/
theorem Rel.place_none (R : Rel h os a cap T M) {id : Int} (hn : lget M.live id = none) : placeV T id = -1 := by
  unfold placeV
  by_cases h0 : id = 0
  · rw [if_pos h0]
  · rw [if_neg h0]
    refine placeF_miss (fun j hj he => ?_)
    have hne := R.ne0 hj (by rw [he]; exact h0)
    have := (R.used j hj hne).2.2
    rw [he, hn] at this
    cases this
/-- A live number: its place. -/
theorem Rel.place_some (R : Rel h os a cap T M) {id : Int} {x : Int × Int} (hx : lget M.live id = some x) : ∃ k, ∃ hk : k < T.slots.length, placeV T id = (k : Int) ∧ T.slots[k].1 = id ∧ k < cap ∧ isO os (arrF h a k) = true ∧ x = (serO h.words (arrF h a k), T.slots[k].2) ∧ id ≠ 0 := by
  have hm := lget_mem hx
  have h1 := (R.fresh id hm).1
  have h0 : id ≠ 0 := by omega
  obtain ⟨k, hk, he⟩ := R.conv id hm
  have hne := R.ne0 hk (by rw [he]; exact h0)
  obtain ⟨u1, u2, u3⟩ := R.used k hk hne
  rw [he, hx] at u3
  refine ⟨k, hk, ?_, he, u1, u2, Option.some.inj u3, h0⟩
  unfold placeV
  rw [if_neg h0]
  refine placeF_hit hk (fun j hj hlt e => ?_) he
  have := R.inj j k hj hk (e.trans he.symm) (by rw [e]; exact h0)
  omega

/-- The slots in use. -/
def usedI (T : HTab) (cap : Nat) : List Nat := (List.range cap).filter fun k => T.slots[k]?.getD (0, 0) != (0, 0)
theorem Rel.usedI_mem (R : Rel h os a cap T M) {k : Nat} : k ∈ usedI T cap ↔ ∃ hk : k < T.slots.length, T.slots[k] ≠ (0, 0) := by
  unfold usedI
  simp only [List.mem_filter, List.mem_range, bne_iff_ne, ne_eq]
  constructor
  · rintro ⟨_, h2⟩
    by_cases hk : k < T.slots.length
    · refine ⟨hk, ?_⟩; simpa [hk] using h2
    · rw [List.getElem?_eq_none (by omega)] at h2; simp at h2
  · rintro ⟨hk, h2⟩
    exact ⟨(R.used k hk h2).1, by simpa [hk] using h2⟩
theorem Rel.count (R : Rel h os a cap T M) : (usedI T cap).length = M.live.length := by
  have e1 : ((usedI T cap).map fun k => (T.slots[k]?.getD (0, 0)).1).Nodup := by
    refine nodup_map_inj ((List.filter_sublist).nodup List.nodup_range) ?_
    intro j hj k hk he
    obtain ⟨lj, nj⟩ := R.usedI_mem.1 hj
    obtain ⟨lk, nk⟩ := R.usedI_mem.1 hk
    simp only [List.getElem?_eq_getElem lj, List.getElem?_eq_getElem lk, Option.getD_some] at he
    exact R.inj j k lj lk he (fun h0 => nj (R.zero j lj h0))
  have l1 := len_le_of_sub e1 (m := M.live.map (·.1)) (by
    intro x hx
    obtain ⟨k, hk, rfl⟩ := List.mem_map.1 hx
    obtain ⟨lk, nk⟩ := R.usedI_mem.1 hk
    simp only [List.getElem?_eq_getElem lk, Option.getD_some]
    exact lget_mem (R.used k lk nk).2.2)
  have l2 := len_le_of_sub R.ok.keys (m := (usedI T cap).map fun k => (T.slots[k]?.getD (0, 0)).1) (by
    intro x hx
    obtain ⟨k, hk, he⟩ := R.conv x hx
    have h1 := (R.fresh x hx).1
    refine List.mem_map.2 ⟨k, R.usedI_mem.2 ⟨hk, R.ne0 hk (by rw [he]; omega)⟩, ?_⟩
    simp only [List.getElem?_eq_getElem hk, Option.getD_some]; exact he)
  simp only [List.length_map] at l1 l2
  omega
theorem Rel.full (R : Rel h os a cap T M) (hc : cap ≤ 256) : ((M.live.length : Int) = M.cap ∧ freeF T.slots cap = -1) ∨ ((M.live.length : Int) ≠ M.cap ∧ ∃ k, ∃ hk : k < T.slots.length, freeF T.slots cap = (k : Int) ∧ k < cap ∧ T.slots[k] = (0, 0)) := by
  have hcnt := R.count
  have hlen := R.len
  by_cases hall : ∀ j (hj : j < T.slots.length), j < cap → T.slots[j] ≠ (0, 0)
  · left
    refine ⟨?_, freeF_miss hall⟩
    have : usedI T cap = List.range cap := by
      unfold usedI
      rw [List.filter_eq_self]
      intro k hk
      have hk' : k < cap := by simpa using hk
      have hkl : k < T.slots.length := by omega
      simpa [hkl] using hall k hkl hk'
    rw [this] at hcnt
    simp only [List.length_range] at hcnt
    rw [R.capE, hcnt]
  · right
    have hex : ∃ k, k < cap ∧ ∃ hk : k < T.slots.length, T.slots[k] = (0, 0) := by
      refine Classical.byContradiction fun hn => hall fun j hj hjc he => hn ⟨j, hjc, hj, he⟩
    let p : Nat → Bool := fun k => T.slots[k]?.getD (1, 1) == (0, 0)
    have hmin : ∃ k, (k < cap ∧ ∃ hk : k < T.slots.length, T.slots[k] = (0, 0)) ∧ ∀ j, j < k → ¬ (j < cap ∧ ∃ hk : j < T.slots.length, T.slots[j] = (0, 0)) := by
      obtain ⟨k, hk⟩ := hex
      induction k using Nat.strongRecOn with
      | _ k ih =>
        by_cases hq : ∃ j, j < k ∧ (j < cap ∧ ∃ hk : j < T.slots.length, T.slots[j] = (0, 0))
        · obtain ⟨j, hj, hp⟩ := hq
          exact ih j hj hp
        · exact ⟨k, hk, fun j hj hp => hq ⟨j, hj, hp⟩⟩
    obtain ⟨k, ⟨hkc, hkl, hke⟩, hm⟩ := hmin
    refine ⟨?_, k, hkl, freeF_hit hkl hkc (fun j hj hlt he => hm j hlt ⟨by omega, hj, he⟩) hke, hkc, hke⟩
    have hlt : (usedI T cap).length < cap := by
      have h1 : (usedI T cap).length ≤ (List.range cap).length := List.length_filter_le _ _
      have h2 : (usedI T cap).length ≠ (List.range cap).length := by
        intro he
        have := List.length_filter_eq_length_iff.1 he k (by simpa using hkc)
        simp [hkl, hke] at this
      simp at h1 h2; omega
    rw [R.capE]; omega
/-- A collection leaves it as it was. -/
theorem Rel.collect (R : Rel h os a cap T M) {a' : Nat} (hf : ∀ k, k < cap → isO os (arrF h a k) = true → isO (osC h os) (arrF (collectH h os) a' k) = true ∧ serAt (wordsC h os) (arrF (collectH h os) a' k / 2).toNat = serAt h.words (arrF h a k / 2).toNat) : Rel (collectH h os) (osC h os) a' cap T M := by
  refine ⟨R.ok, R.capE, R.next, R.clock, R.len, R.zero, fun k hk hn => ?_, R.conv, R.inj, R.fresh⟩
  obtain ⟨u1, u2, u3⟩ := R.used k hk hn
  obtain ⟨f1, f2⟩ := hf k u1 u2
  refine ⟨u1, f1, ?_⟩
  rw [u3]
  have : serO (collectH h os).words (arrF (collectH h os) a' k) = serO h.words (arrF h a k) := f2
  rw [this]
end
end Go.Proofs.Eff
