/- Answers of a table, one behind the other; and one that is another: plain laws. -/
import Derived.Test.YtaggadjiefgpoaaGreatDoorTb13
namespace Go.Proofs.Eff
open Go.RowKit

/-- All were answered as the book says. -/
def ansAll : TabS → List HAct → Bool
  | _, [] => true
  | t, a :: l => (ansF t a).2 && ansAll (ansF t a).1 l
/-- The book behind them. -/
def endT : TabS → List HAct → TabS
  | t, [] => t
  | t, a :: l => endT (ansF t a).1 l
theorem ansAll_snoc (t : TabS) (l : List HAct) (a : HAct) : ansAll t (l ++ [a]) = (ansAll t l && (ansF (endT t l) a).2) := by
  induction l generalizing t with
  | nil => simp [ansAll, endT]
  | cons b r ih => simp only [List.cons_append, ansAll, endT, ih, Bool.and_assoc]
theorem endT_snoc (t : TabS) (l : List HAct) (a : HAct) : endT t (l ++ [a]) = (ansF (endT t l) a).1 := by
  induction l generalizing t with
  | nil => rfl
  | cons b r ih => simp only [List.cons_append, endT, ih]
theorem hgo_ok (t : TabS) (i : Nat) (l : List HAct) (h : ansAll t l = true) : hgo t i l = (0, 0) := by
  induction l generalizing t i with
  | nil => rfl
  | cons b r ih =>
    simp only [ansAll, Bool.and_eq_true] at h
    simp only [hgo, h.1, if_true]
    exact ih _ _ h.2
theorem hgo_bad (t : TabS) (i : Nat) (l r : List HAct) (a : HAct) (h : ansAll t l = true) (ha : (ansF (endT t l) a).2 = false) : hgo t i (l ++ a :: r) = (30, ((i + l.length : Nat) : Int)) := by
  induction l generalizing t i with
  | nil =>
    simp only [endT] at ha
    simp [hgo, ha]
  | cons b m ih =>
    simp only [ansAll, Bool.and_eq_true] at h
    simp only [List.cons_append, hgo, h.1, if_true]
    rw [ih _ _ h.2 (by simpa [endT] using ha)]
    simp only [List.length_cons]
    congr 2
    omega
theorem ansAll_split {t : TabS} {l r : List HAct} {a : HAct} (h : ansAll t (l ++ a :: r) = true) : ansAll t l = true ∧ (ansF (endT t l) a).2 = true := by
  induction l generalizing t with
  | nil => simp only [List.nil_append, ansAll, Bool.and_eq_true] at h; exact ⟨rfl, h.1⟩
  | cons b m ih =>
    simp only [List.cons_append, ansAll, Bool.and_eq_true] at h
    obtain ⟨h1, h2⟩ := ih h.2
    exact ⟨by simp only [ansAll, h.1, h1, Bool.and_self], h2⟩
/-- An answer that is another. -/
def spoilF (a : HAct) : HAct :=
  if a.kind = 1 then { a with id := (a.id + 1) % 18446744073709551616 } else if a.kind = 2 then { a with ser := (a.ser + 1) % 4294967296 } else if a.kind = 5 then { a with ids := a.ids ++ [7] } else { a with err := a.err + 1 }
theorem spoil_found (t : TabS) (a : HAct) (h : (ansF t a).2 = true) (i0 : 0 ≤ a.id) (i1 : a.id < 18446744073709551616) (s0 : 0 ≤ a.ser) (s1 : a.ser < 4294967296) : (ansF t (spoilF a)).2 = false := by
  obtain ⟨kind, id, n, ser, ids, err⟩ := a
  simp only at i0 i1 s0 s1
  by_cases k1 : kind = 1
  · subst k1
    simp only [spoilF, if_true]
    simp only [ansF, if_true, issueF] at h ⊢
    by_cases e3 : err = 3
    · simp only [if_pos e3, beq_iff_eq] at h ⊢
      rw [beq_eq_false_iff_ne]; omega
    · simp only [if_neg e3] at h ⊢
      by_cases ef : fitsB n = false
      · simp only [if_pos ef, Bool.and_eq_true, beq_iff_eq] at h ⊢
        rw [Bool.and_eq_false_iff, beq_eq_false_iff_ne, beq_eq_false_iff_ne]; right; omega
      · simp only [if_neg ef] at h ⊢
        by_cases el : (t.live.length : Int) = t.cap
        · simp only [if_pos el, Bool.and_eq_true, beq_iff_eq] at h ⊢
          rw [Bool.and_eq_false_iff, beq_eq_false_iff_ne, beq_eq_false_iff_ne]; right; omega
        · simp only [if_neg el] at h ⊢
          by_cases en : t.next = 0
          · simp only [if_pos en, Bool.and_eq_true, beq_iff_eq] at h ⊢
            rw [Bool.and_eq_false_iff, beq_eq_false_iff_ne, beq_eq_false_iff_ne]; right; omega
          · simp only [if_neg en, Bool.and_eq_true, beq_iff_eq] at h ⊢
            rw [Bool.and_eq_false_iff, beq_eq_false_iff_ne, beq_eq_false_iff_ne]; right; omega
  · by_cases k2 : kind = 2
    · subst k2
      simp only [spoilF, show ¬ ((2 : Int) = 1) by decide, if_false, if_true]
      simp only [ansF, show ¬ ((2 : Int) = 1) by decide, if_false, if_true, getF] at h ⊢
      cases hx : lget t.live id with
      | none =>
        simp only [hx, Bool.and_eq_true, beq_iff_eq] at h ⊢
        rw [Bool.and_eq_false_iff, beq_eq_false_iff_ne, beq_eq_false_iff_ne]; right; omega
      | some x =>
        simp only [hx, Bool.and_eq_true, beq_iff_eq] at h ⊢
        rw [Bool.and_eq_false_iff, beq_eq_false_iff_ne, beq_eq_false_iff_ne]; right; omega
    · by_cases k5 : kind = 5
      · subst k5
        simp only [spoilF, show ¬ ((5 : Int) = 1) by decide, show ¬ ((5 : Int) = 2) by decide, if_false, if_true]
        simp only [ansF, show ¬ ((5 : Int) = 1) by decide, show ¬ ((5 : Int) = 2) by decide, show ¬ ((5 : Int) = 3) by decide, show ¬ ((5 : Int) = 4) by decide, if_false, if_true, tickF] at h ⊢
        have e : tickB t ⟨5, id, n, ser, ids ++ [7], err⟩ = tickB t ⟨5, id, n, ser, ids, err⟩ := rfl
        rw [e]
        cases hb : tickB t ⟨5, id, n, ser, ids, err⟩ with
        | true => simp
        | false =>
          simp only [hb, Bool.false_eq_true, if_false, Bool.and_eq_true, beq_iff_eq] at h ⊢
          rw [Bool.and_eq_false_iff, beq_eq_false_iff_ne, beq_eq_false_iff_ne]
          right
          intro he
          have h1 := congrArg List.length he
          rw [← h.2] at h1
          simp at h1
      · by_cases k3 : kind = 3
        · subst k3
          simp only [spoilF, show ¬ ((3 : Int) = 1) by decide, show ¬ ((3 : Int) = 2) by decide, show ¬ ((3 : Int) = 5) by decide, if_false]
          simp only [ansF, show ¬ ((3 : Int) = 1) by decide, show ¬ ((3 : Int) = 2) by decide, if_false, if_true, renewF] at h ⊢
          cases hx : lget t.live id with
          | none =>
            simp only [hx, beq_iff_eq] at h ⊢
            rw [beq_eq_false_iff_ne]; omega
          | some x =>
            simp only [hx] at h ⊢
            cases hf : fitsB n with
            | true =>
              simp only [hf, if_true, beq_iff_eq] at h ⊢
              rw [beq_eq_false_iff_ne]; omega
            | false =>
              simp only [hf, Bool.false_eq_true, if_false, beq_iff_eq] at h ⊢
              rw [beq_eq_false_iff_ne]; omega
        · by_cases k4 : kind = 4
          · subst k4
            simp only [spoilF, show ¬ ((4 : Int) = 1) by decide, show ¬ ((4 : Int) = 2) by decide, show ¬ ((4 : Int) = 5) by decide, if_false]
            simp only [ansF, show ¬ ((4 : Int) = 1) by decide, show ¬ ((4 : Int) = 2) by decide, show ¬ ((4 : Int) = 3) by decide, if_false, if_true, releaseF] at h ⊢
            cases hx : lget t.live id with
            | none =>
              simp only [hx, beq_iff_eq] at h ⊢
              rw [beq_eq_false_iff_ne]; omega
            | some x =>
              simp only [hx, beq_iff_eq] at h ⊢
              rw [beq_eq_false_iff_ne]; omega
          · simp only [ansF, if_neg k1, if_neg k2, if_neg k3, if_neg k4, if_neg k5] at h
            cases h
end Go.Proofs.Eff
