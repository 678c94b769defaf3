/- The table of handles against its book: what renewing, releasing and issuing make of it. -/
import Derived.Test.YtaggadjiefgpoaaGreatDoorTb7
namespace Go.Proofs.Eff
open Go.RowKit

theorem lget_lput_eq (l : LT) (k : Int) (v : Int × Int) : lget (lput l k v) k = some v := by
  induction l with
  | nil => simp [lput, lget]
  | cons p r ih =>
    simp only [lput]
    by_cases h : p.1 = k
    · simp [h, lget]
    · simp [h, lget, ih]
theorem lget_lput_ne (l : LT) {k i : Int} (v : Int × Int) (h : i ≠ k) : lget (lput l k v) i = lget l i := by
  induction l with
  | nil => simp [lput, lget]; intro e; exact absurd e.symm h
  | cons p r ih =>
    simp only [lput]
    by_cases hp : p.1 = k
    · rw [if_pos hp]
      simp only [lget]
      rw [if_neg (fun e => h e.symm), if_neg (by rw [hp]; exact fun e => h e.symm)]
    · rw [if_neg hp]
      simp only [lget, ih]
theorem ldel_mem {l : LT} {k i : Int} (hn : (l.map (·.1)).Nodup) : i ∈ (ldel l k).map (·.1) ↔ i ∈ l.map (·.1) ∧ i ≠ k := by
  induction l with
  | nil => simp [ldel]
  | cons p r ih =>
    rw [List.map_cons, List.nodup_cons] at hn
    simp only [ldel]
    by_cases hp : p.1 = k
    · rw [if_pos hp]
      constructor
      · intro hi
        exact ⟨by rw [List.map_cons]; exact List.mem_cons_of_mem _ hi, fun e => hn.1 (by rw [hp, ← e]; exact hi)⟩
      · rintro ⟨hi, hne⟩
        rw [List.map_cons, List.mem_cons] at hi
        rcases hi with e | hi
        · exact absurd (e.trans hp) hne
        · exact hi
    · rw [if_neg hp, List.map_cons, List.mem_cons, ih hn.2, List.map_cons, List.mem_cons]
      constructor
      · rintro (e | ⟨h1, h2⟩)
        · exact ⟨.inl e, by rw [e]; exact hp⟩
        · exact ⟨.inr h1, h2⟩
      · rintro ⟨e | h1, h2⟩
        · exact .inl e
        · exact .inr ⟨h1, h2⟩
theorem lget_ldel_ne (l : LT) {k i : Int} (h : i ≠ k) : lget (ldel l k) i = lget l i := by
  induction l with
  | nil => rfl
  | cons p r ih =>
    simp only [ldel]
    by_cases hp : p.1 = k
    · rw [if_pos hp]
      simp only [lget]
      rw [if_neg (by rw [hp]; exact fun e => h e.symm)]
    · rw [if_neg hp]
      simp only [lget, ih]

section
variable {h : HeapS} {os : List Nat} {a cap : Nat} {T : HTab} {M : TabS}
/-- A slot's lease is another. -/
theorem Rel.renew (R : Rel h os a cap T M) {k : Nat} (hk : k < T.slots.length) (h0 : T.slots[k].1 ≠ 0) (e : Int) (ok : TabOK { M with live := lput M.live T.slots[k].1 (serO h.words (arrF h a k), e) }) :
    Rel h os a cap { T with slots := T.slots.set k (T.slots[k].1, e) } { M with live := lput M.live T.slots[k].1 (serO h.words (arrF h a k), e) } := by
  have hne := R.ne0 hk h0
  obtain ⟨u1, u2, u3⟩ := R.used k hk hne
  have hkey := lget_mem u3
  have hfst : ∀ j (hj : j < T.slots.length), ((T.slots.set k (T.slots[k].1, e))[j]'(by simpa using hj)).1 = T.slots[j].1 := fun j hj => by
    rw [List.getElem_set]
    split
    · rename_i hq; subst hq; rfl
    · rfl
  refine ⟨ok, R.capE, R.next, R.clock, by simpa using R.len, ?_, ?_, ?_, ?_, ?_⟩
  · intro j hj hz
    have hj' : j < T.slots.length := by simpa using hj
    have hz' : T.slots[j].1 = 0 := by rw [← hfst j hj']; exact hz
    by_cases hq : k = j
    · subst hq; exact absurd hz' h0
    · show (T.slots.set k _)[j] = _
      rw [List.getElem_set_ne hq]; exact R.zero j hj' hz'
  · intro j hj hn
    have hj' : j < T.slots.length := by simpa using hj
    by_cases hq : k = j
    · subst hq
      refine ⟨u1, u2, ?_⟩
      show lget (lput M.live _ _) ((T.slots.set k _)[k]).1 = some (_, ((T.slots.set k _)[k]).2)
      rw [List.getElem_set_self]
      exact lget_lput_eq _ _ _
    · have e1 : ({ T with slots := T.slots.set k (T.slots[k].1, e) } : HTab).slots[j] = T.slots[j] := by
        show (T.slots.set k _)[j] = _
        rw [List.getElem_set_ne hq]
      rw [e1] at hn ⊢
      obtain ⟨v1, v2, v3⟩ := R.used j hj' hn
      refine ⟨v1, v2, ?_⟩
      rw [lget_lput_ne _ _ ?_]
      · exact v3
      · intro hid
        exact hq (R.inj k j hk hj' hid.symm h0)
  · intro i hi
    rw [show ({ M with live := lput M.live T.slots[k].1 (serO h.words (arrF h a k), e) } : TabS).live = lput M.live T.slots[k].1 (serO h.words (arrF h a k), e) from rfl, lput_keys_old _ hkey] at hi
    obtain ⟨j, hj, he⟩ := R.conv i hi
    exact ⟨j, by simpa using hj, by rw [← he]; exact hfst j hj⟩
  · intro j l hj hl he hz
    have hj' : j < T.slots.length := by simpa using hj
    have hl' : l < T.slots.length := by simpa using hl
    have q1 := hfst j hj'
    have q2 := hfst l hl'
    exact R.inj j l hj' hl' (by rw [← q1, ← q2]; exact he) (by rw [← q1]; exact hz)
  · intro i hi
    rw [show ({ M with live := lput M.live T.slots[k].1 (serO h.words (arrF h a k), e) } : TabS).live = lput M.live T.slots[k].1 (serO h.words (arrF h a k), e) from rfl, lput_keys_old _ hkey] at hi
    exact R.fresh i hi
/-- A slot is let go, and its field is another value. -/
theorem Rel.clear (R : Rel h os a cap T M) (wf : WF h os) (A : ArrOK h os a cap) {k : Nat} (hk : k < T.slots.length) (h0 : T.slots[k].1 ≠ 0) (y : Int) (ok : TabOK { M with live := ldel M.live T.slots[k].1 }) :
    Rel (setW h (a + 3 + k) y) os a cap { T with slots := T.slots.set k (0, 0) } { M with live := ldel M.live T.slots[k].1 } := by
  have hne := R.ne0 hk h0
  obtain ⟨u1, u2, u3⟩ := R.used k hk hne
  obtain ⟨_, s2, s3⟩ := A.setJ wf u1 y
  refine ⟨ok, R.capE, R.next, R.clock, by simpa using R.len, ?_, ?_, ?_, ?_, ?_⟩
  · intro j hj hz
    have hj' : j < T.slots.length := by simpa using hj
    by_cases hq : k = j
    · subst hq
      show (T.slots.set k _)[k] = _
      rw [List.getElem_set_self]
    · have e1 : ({ T with slots := T.slots.set k (0, 0) } : HTab).slots[j] = T.slots[j] := by
        show (T.slots.set k _)[j] = _
        rw [List.getElem_set_ne hq]
      rw [e1] at hz ⊢
      exact R.zero j hj' hz
  · intro j hj hn
    have hj' : j < T.slots.length := by simpa using hj
    by_cases hq : k = j
    · subst hq
      exact absurd (show (T.slots.set k (0, 0))[k] = (0, 0) by rw [List.getElem_set_self]) hn
    · have e1 : ({ T with slots := T.slots.set k (0, 0) } : HTab).slots[j] = T.slots[j] := by
        show (T.slots.set k _)[j] = _
        rw [List.getElem_set_ne hq]
      rw [e1] at hn ⊢
      obtain ⟨v1, v2, v3⟩ := R.used j hj' hn
      have ea : arrF (setW h (a + 3 + k) y) a j = arrF h a j := by rw [s2 j v1, if_neg (fun e => hq e.symm)]
      rw [ea]
      refine ⟨v1, v2, ?_⟩
      have es : serO (setW h (a + 3 + k) y).words (arrF h a j) = serO h.words (arrF h a j) := s3 _ (wf.isO_lt v2).2
      rw [es]
      show lget (ldel M.live _) _ = _
      rw [lget_ldel_ne _ ?_]
      · exact v3
      · intro hid
        exact hq (R.inj k j hk hj' hid.symm h0)
  · intro i hi
    obtain ⟨hi1, hi2⟩ := (ldel_mem R.ok.keys).1 hi
    obtain ⟨j, hj, he⟩ := R.conv i hi1
    refine ⟨j, by simpa using hj, ?_⟩
    have hq : k ≠ j := by intro e; subst e; exact hi2 he.symm
    show ((T.slots.set k (0, 0))[j]'(by simpa using hj)).1 = _
    rw [List.getElem_set_ne hq]; exact he
  · intro j l hj hl he hz
    have hj' : j < T.slots.length := by simpa using hj
    have hl' : l < T.slots.length := by simpa using hl
    have hz' : ((T.slots.set k (0, 0))[j]'hj).1 ≠ 0 := hz
    have he' : ((T.slots.set k (0, 0))[j]'hj).1 = ((T.slots.set k (0, 0))[l]'hl).1 := he
    have hqj : k ≠ j := by intro e; subst e; rw [List.getElem_set_self] at hz'; exact hz' rfl
    have hql : k ≠ l := by intro e; subst e; rw [List.getElem_set_self] at he'; exact hz' he'
    rw [List.getElem_set_ne hqj] at he' hz'
    rw [List.getElem_set_ne hql] at he'
    exact R.inj j l hj' hl' he' hz'
  · intro i hi
    exact R.fresh i ((ldel_mem R.ok.keys).1 hi).1
/-- A free slot is taken. -/
theorem Rel.issue (R : Rel h os a cap T M) (wf : WF h os) (A : ArrOK h os a cap) {k : Nat} (hk : k < T.slots.length) (hkc : k < cap) (hz : T.slots[k] = (0, 0)) (hn0 : M.next ≠ 0) (o e : Int) (ho : isO os o = true)
    (ok : TabOK { M with next := (M.next + 1) % 18446744073709551616, live := lput M.live M.next (serO h.words o, e) }) :
    Rel (setW h (a + 3 + k) o) os a cap { T with next := (T.next + 1) % 18446744073709551616, slots := T.slots.set k (T.next, e) } { M with next := (M.next + 1) % 18446744073709551616, live := lput M.live M.next (serO h.words o, e) } := by
  obtain ⟨_, s2, s3⟩ := A.setJ wf hkc o
  have hn1 := R.ok.next0
  have hn2 := R.ok.next1
  have hnx := R.next
  have hnk : ¬ M.next ∈ M.live.map (·.1) := fun hm => by have := (R.fresh _ hm).2; omega
  have hlive := lput_keys_new (serO h.words o, e) hnk
  have hids : ∀ j (hj : j < T.slots.length), T.slots[j].1 ≠ M.next := fun j hj he => by
    have hne := R.ne0 hj (by rw [he]; exact hn0)
    exact hnk (by have := lget_mem (R.used j hj hne).2.2; rw [he] at this; exact this)
  refine ⟨ok, R.capE, by show (M.next + 1) % _ = (T.next + 1) % _; rw [hnx], R.clock, by simpa using R.len, ?_, ?_, ?_, ?_, ?_⟩
  · intro j hj hzz
    have hj' : j < T.slots.length := by simpa using hj
    by_cases hq : k = j
    · subst hq
      have : ((T.slots.set k (T.next, e))[k]'hj).1 = 0 := hzz
      rw [List.getElem_set_self] at this
      exact absurd (hnx.trans this) hn0
    · have e1 : ({ T with next := (T.next + 1) % 18446744073709551616, slots := T.slots.set k (T.next, e) } : HTab).slots[j] = T.slots[j] := by
        show (T.slots.set k _)[j] = _
        rw [List.getElem_set_ne hq]
      rw [e1] at hzz ⊢
      exact R.zero j hj' hzz
  · intro j hj hn
    have hj' : j < T.slots.length := by simpa using hj
    by_cases hq : k = j
    · subst hq
      have ea : arrF (setW h (a + 3 + k) o) a k = o := by rw [s2 k hkc, if_pos rfl]
      rw [ea]
      refine ⟨hkc, ho, ?_⟩
      have es : serO (setW h (a + 3 + k) o).words o = serO h.words o := s3 _ (wf.isO_lt ho).2
      rw [es]
      show lget (lput M.live M.next _) ((T.slots.set k _)[k]).1 = some (_, ((T.slots.set k _)[k]).2)
      rw [List.getElem_set_self]
      show lget (lput M.live M.next _) T.next = _
      rw [← hnx]
      exact lget_lput_eq _ _ _
    · have e1 : ({ T with next := (T.next + 1) % 18446744073709551616, slots := T.slots.set k (T.next, e) } : HTab).slots[j] = T.slots[j] := by
        show (T.slots.set k _)[j] = _
        rw [List.getElem_set_ne hq]
      rw [e1] at hn ⊢
      obtain ⟨v1, v2, v3⟩ := R.used j hj' hn
      have ea : arrF (setW h (a + 3 + k) o) a j = arrF h a j := by rw [s2 j v1, if_neg (fun e => hq e.symm)]
      rw [ea]
      refine ⟨v1, v2, ?_⟩
      have es : serO (setW h (a + 3 + k) o).words (arrF h a j) = serO h.words (arrF h a j) := s3 _ (wf.isO_lt v2).2
      rw [es]
      show lget (lput M.live M.next _) _ = _
      rw [lget_lput_ne _ _ (hids j hj')]
      exact v3
  · intro i hi
    have hi' : i ∈ (lput M.live M.next (serO h.words o, e)).map (·.1) := hi
    rw [hlive, List.map_append, List.mem_append] at hi'
    rcases hi' with hi' | hi'
    · obtain ⟨j, hj, he⟩ := R.conv i hi'
      have h1 := (R.fresh i hi').1
      refine ⟨j, by simpa using hj, ?_⟩
      have hq : k ≠ j := by intro e2; subst e2; rw [hz] at he; simp at he; omega
      show ((T.slots.set k (T.next, e))[j]'(by simpa using hj)).1 = _
      rw [List.getElem_set_ne hq]; exact he
    · have : i = M.next := by simpa using hi'
      subst this
      refine ⟨k, by simpa using hk, ?_⟩
      show ((T.slots.set k (T.next, e))[k]'(by simpa using hk)).1 = _
      rw [List.getElem_set_self]; exact hnx.symm
  · intro j l hj hl he hzz
    have hj' : j < T.slots.length := by simpa using hj
    have hl' : l < T.slots.length := by simpa using hl
    have hz' : ((T.slots.set k (T.next, e))[j]'hj).1 ≠ 0 := hzz
    have he' : ((T.slots.set k (T.next, e))[j]'hj).1 = ((T.slots.set k (T.next, e))[l]'hl).1 := he
    by_cases hqj : k = j
    · subst hqj
      by_cases hql : k = l
      · exact hql
      · rw [List.getElem_set_self, List.getElem_set_ne hql] at he'
        exact absurd (he'.symm.trans hnx.symm) (hids l hl')
    · by_cases hql : k = l
      · subst hql
        rw [List.getElem_set_self, List.getElem_set_ne hqj] at he'
        exact absurd (he'.trans hnx.symm) (hids j hj')
      · rw [List.getElem_set_ne hqj] at he' hz'
        rw [List.getElem_set_ne hql] at he'
        exact R.inj j l hj' hl' he' hz'
  · intro i hi
    have hi' : i ∈ (lput M.live M.next (serO h.words o, e)).map (·.1) := hi
    rw [hlive, List.map_append, List.mem_append] at hi'
    show 1 ≤ i ∧ ((M.next + 1) % 18446744073709551616 = 0 ∨ i < (M.next + 1) % 18446744073709551616)
    rcases hi' with hi' | hi'
    · have := R.fresh i hi'
      omega
    · have : i = M.next := by simpa using hi'
      subst this; omega
end
end Go.Proofs.Eff
