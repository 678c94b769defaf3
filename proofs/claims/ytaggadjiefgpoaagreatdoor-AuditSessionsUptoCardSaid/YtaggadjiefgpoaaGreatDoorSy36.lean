/- Plain laws: what a monitor of sessions knows; books of numbers. -/
import Derived.Test.YtaggadjiefgpoaaGreatDoorSy02
import Derived.Test.YtaggadjiefgpoaaGreatDoorSy24
import Derived.Laws.BytesArg
namespace Go.Proofs.Eff
open Go.RowKit

theorem scan_kept {f : Nat} {b : List Int} (hf : b.length ≤ f) : (scan f b).2.length ≤ 1087 := by
  induction f generalizing b with
  | zero => simp only [scan]; omega
  | succ f ih =>
    unfold scan
    split
    · simp
    · rename_i hb
      have hl : 0 < b.length := List.length_pos_iff.2 hb
      split
      · exact ih (by simp; omega)
      · split
        · show b.length ≤ 1087; omega
        · split
          · exact ih (by simp; omega)
          · split
            · show b.length ≤ 1087; omega
            · split
              · exact ih (by simp; omega)
              · exact ih (by simp; omega)
theorem scan_many (f : Nat) (b : List Int) : (scan f b).1.length ≤ b.length := by
  induction f generalizing b with
  | zero => simp [scan]
  | succ f ih =>
    unfold scan
    split
    · simp
    · rename_i hb
      have hl : 0 < b.length := List.length_pos_iff.2 hb
      have h1 := ih (b.drop 1)
      have h2 := ih (b.drop ((lenAt b).toNat + 8))
      rw [List.length_drop] at h1 h2
      split
      · omega
      · split
        · simp
        · split
          · omega
          · split
            · simp
            · split
              · simp only [List.length_cons]; omega
              · omega
theorem scanP_kept (b : List Int) : (scanP b).2.length ≤ 1087 := scan_kept (Nat.le_refl _)
theorem scanP_many (b : List Int) : (scanP b).1.length ≤ b.length := scan_many _ b

theorem monIn1_same (s : Mon) (p : Pkt) : (monIn1 s p).kept = s.kept ∧ (monIn1 s p).replies = s.replies ∧ (monIn1 s p).most = s.most ∧ (monIn1 s p).events = s.events ∧ (monIn1 s p).asked.length ≤ s.asked.length + 1 := by
  unfold monIn1
  split
  · simp
  · split
    · simp
    · split <;> simp
theorem monIn_same (s : Mon) (l : List Pkt) : (monIn s l).kept = s.kept ∧ (monIn s l).replies = s.replies ∧ (monIn s l).most = s.most ∧ (monIn s l).events = s.events ∧ (monIn s l).asked.length ≤ s.asked.length + l.length := by
  induction l generalizing s with
  | nil => simp [monIn]
  | cons p l ih =>
    have h1 := ih (monIn1 s p)
    obtain ⟨a1, a2, a3, a4, a5⟩ := monIn1_same s p
    have e : monIn s (p :: l) = monIn (monIn1 s p) l := rfl
    rw [e, List.length_cons]
    exact ⟨h1.1.trans a1, h1.2.1.trans a2, h1.2.2.1.trans a3, h1.2.2.2.1.trans a4, by have := h1.2.2.2.2; omega⟩
theorem monIn_snoc (s : Mon) (l : List Pkt) (p : Pkt) : monIn s (l ++ [p]) = monIn1 (monIn s l) p := by simp [monIn]

/-- So small is all that a monitor knows behind so many frames. -/
structure MonB (s : Mon) (i : Nat) : Prop where
  rep : s.replies.length ≤ i
  ev0 : 0 ≤ s.events
  ev1 : s.events ≤ i
  ask : (s.asked.length : Int) ≤ (i : Int) * 2097152
  kept : s.kept.length ≤ 1087
theorem MonB.start : MonB {} 0 := ⟨by simp, by simp, by simp, by simp, by simp⟩
theorem MonB.cut {s : Mon} {i : Nat} (h : MonB s i) : MonB { s with kept := [] } (i + 1) := ⟨by have := h.rep; simp; omega, h.ev0, by have := h.ev1; simp; omega, by have := h.ask; simp; omega, by simp⟩
theorem MonB.in {s : Mon} {i : Nat} (h : MonB s i) {c : List Int} (hc : c.length ≤ 1048576) : MonB (monIn { s with kept := (scanP (s.kept ++ c)).2 } (scanP (s.kept ++ c)).1) (i + 1) := by
  obtain ⟨a1, a2, a3, a4, a5⟩ := monIn_same { s with kept := (scanP (s.kept ++ c)).2 } (scanP (s.kept ++ c)).1
  have h1 := scanP_many (s.kept ++ c)
  have h2 := scanP_kept (s.kept ++ c)
  rw [List.length_append] at h1
  obtain ⟨b1, b2, b3, b4, b5⟩ := h
  simp only at a1 a2 a4 a5
  exact ⟨by rw [a2]; omega, by rw [a4]; exact b2, by rw [a4]; omega, by omega, by rw [a1]; exact h2⟩
theorem MonB.next {s : Mon} {i : Nat} (h : MonB s i) (b : List Int) : MonB (monNext s b) (i + 1) := by
  obtain ⟨b1, b2, b3, b4, b5⟩ := h
  unfold monNext
  split
  · exact ⟨by omega, b2, by omega, by omega, b5⟩
  · split
    · split
      · exact ⟨by simp, by simp, by simp; omega, by simp; omega, b5⟩
      · exact ⟨by omega, b2, by omega, by omega, b5⟩
    · split
      · split
        · exact ⟨by omega, b2, by omega, by omega, b5⟩
        · exact ⟨by simp; omega, b2, by simp; omega, by simp; omega, b5⟩
      · split
        · exact ⟨by simp; omega, by simp; omega, by simp; omega, by simp; omega, b5⟩
        · exact ⟨by omega, b2, by omega, by omega, b5⟩

theorem aget_aput (l : AList) (k : Int) (v : Value) (j : Int) : aget (aput l k v) j = if j = k then some v else aget l j := by
  induction l with
  | nil => simp [aput, aget, eq_comm]
  | cons p r ih =>
    simp only [aput]
    split
    · rename_i h
      subst h
      simp only [aget]
      by_cases hj : p.1 = j
      · simp [hj]
      · simp [hj, Ne.symm hj]
    · rename_i h
      simp only [aget, ih]
      by_cases hj : p.1 = j
      · have : ¬ j = k := fun e => h (hj.trans e)
        simp [hj, this]
      · simp [hj]
/-- A book of how often a number was asked for. -/
def AskN (l : AList) (asked : List Int) : Prop := ∀ k, aget l k = if asked.count k = 0 then none else some (.int .i64 (asked.count k : Int))
/-- A book of what was asked for. -/
def AskB (l : AList) (asked : List Int) : Prop := ∀ k, aget l k = if k ∈ asked then some (.bool true) else none
theorem AskN.nil : AskN [] [] := fun k => by simp [aget]
theorem AskB.nil : AskB [] [] := fun k => by simp [aget]
theorem AskN.get {l : AList} {asked : List Int} (h : AskN l asked) (k : Int) : (aget l k).getD (.int .i64 0) = .int .i64 (asked.count k : Int) := by
  rw [h k]
  split
  · rename_i h0; simp [h0]
  · rfl
theorem AskB.get {l : AList} {asked : List Int} (h : AskB l asked) (k : Int) : (aget l k).getD (.bool false) = .bool (decide (k ∈ asked)) := by
  rw [h k]
  split
  · rename_i h0; simp [h0]
  · rename_i h0; simp [h0]
theorem AskN.put {l : AList} {asked : List Int} (h : AskN l asked) (k : Int) : AskN (aput l k (.int .i64 ((asked.count k : Int) + 1))) (k :: asked) := by
  intro j
  rw [aget_aput, h j, List.count_cons]
  by_cases hj : j = k
  · subst hj; simp
  · have : (k == j) = false := by simpa using Ne.symm hj
    simp [hj, this]
theorem AskB.put {l : AList} {asked : List Int} (h : AskB l asked) (k : Int) : AskB (aput l k (.bool true)) (k :: asked) := by
  intro j
  rw [aget_aput, h j]
  by_cases hj : j = k
  · subst hj; simp
  · simp [hj]
theorem mem_count {asked : List Int} (k : Int) : ((asked.count k : Int) = 0) ↔ k ∉ asked := by
  rw [← List.count_eq_zero]; omega
/-- A book of the replies, by their numbers. -/
def RepM (l : AList) (rs : List (List Int)) : Prop := ∀ k, aget l k = if 0 < k then (rs[(k - 1).toNat]?).map fun b => Value.string (strOfNums b) else none
theorem RepM.nil : RepM [] [] := fun k => by simp [aget]
theorem RepM.put {l : AList} {rs : List (List Int)} (h : RepM l rs) (b : List Int) {n : Int} (hn : n = rs.length + 1) : RepM (aput l n (.string (strOfNums b))) (rs ++ [b]) := by
  intro j
  rw [aget_aput, h j]
  by_cases hj : j = n
  · subst hj; subst hn
    simp only [if_true]
    rw [if_pos (by omega), List.getElem?_append_right (by omega)]
    rw [show ((rs.length : Int) + 1 - 1).toNat - rs.length = 0 by omega]
    rfl
  · rw [if_neg hj]
    split
    · rename_i h0
      by_cases hl : (j - 1).toNat < rs.length
      · rw [List.getElem?_append_left hl]
      · rw [List.getElem?_eq_none (by omega), List.getElem?_eq_none (by simp; omega)]
    · rfl
theorem RepM.get {l : AList} {rs : List (List Int)} (h : RepM l rs) {k : Int} (h0 : 0 < k) (h1 : k ≤ rs.length) : (aget l k).getD (.string (strOfNums [])) = .string (strOfNums ((rs[(k - 1).toNat]?).getD [])) := by
  rw [h k, if_pos h0, List.getElem?_eq_getElem (show (k - 1).toNat < rs.length by omega)]
  rfl
theorem strOf_inj {a b : List Int} (ha : U8s a) (hb : U8s b) : strOfNums a = strOfNums b ↔ a = b := by
  refine ⟨fun h => ?_, fun h => by rw [h]⟩
  have h1 : (a.map fun n => UInt8.ofNat n.toNat) = b.map fun n => UInt8.ofNat n.toNat := by
    have := congrArg (fun s : ByteArray => s.data.toList) h
    simpa [strOfNums] using this
  clear h
  induction a generalizing b with
  | nil => cases b with
    | nil => rfl
    | cons y b => simp at h1
  | cons x a ih => cases b with
    | nil => simp at h1
    | cons y b =>
      simp only [List.map_cons, List.cons.injEq] at h1
      obtain ⟨h2, h3⟩ := h1
      have hx := ha x List.mem_cons_self
      have hy := hb y List.mem_cons_self
      have h4 : x.toNat % 256 = y.toNat % 256 := by
        have := congrArg UInt8.toNat h2
        simpa using this
      obtain rfl : x = y := by omega
      rw [ih (fun z hz => ha z (List.mem_cons_of_mem _ hz)) (fun z hz => hb z (List.mem_cons_of_mem _ hz)) h3]
end Go.Proofs.Eff
