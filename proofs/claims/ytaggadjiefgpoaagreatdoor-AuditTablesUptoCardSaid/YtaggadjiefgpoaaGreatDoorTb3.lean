/- handles: clear, broken, find; slices.Index at slots. -/
import Derived.Test.YtaggadjiefgpoaaGreatDoorTb2
import Derived.Deep.DeepCutAuto
namespace Go.Proofs.Eff
open Go.RowKit

theorem under181 : Tryz.prog.underlying 181 = some (.array 256 180) := by kernel_rfl
theorem under180 : Tryz.prog.underlying 180 = some (.struct (Tryz.prog.fieldsOf 180)) := by kernel_rfl
theorem size180 (w : World) : (sizeOf 180).run Tryz.prog w = .ok 2 w := by kernel_rfl
theorem isAgg180 (w : World) : (isAgg 180).run Tryz.prog w = .ok true w := by kernel_rfl
theorem slotC_extract (l : List (Int × Int)) (k : Nat) (hk : k < l.length) : (slotC l).toArray.extract (k * 2) (k * 2 + 2) = #[.int .u64 l[k].1, .int .i64 l[k].2] := by
  obtain ⟨g1, g2⟩ := slotC_get l k hk
  have hl := slotC_length l
  apply Array.ext
  · simp; omega
  · intro i h1 h2
    have hi : i = 0 ∨ i = 1 := by simp at h2; omega
    rcases hi with rfl | rfl
    · have e : (slotC l)[k * 2]? = some (.int .u64 l[k].1) := by rw [Nat.mul_comm]; exact g1
      obtain ⟨q, e2⟩ := List.getElem?_eq_some_iff.1 e
      simpa using e2
    · have e : (slotC l)[k * 2 + 1]? = some (.int .i64 l[k].2) := by rw [Nat.mul_comm]; exact g2
      obtain ⟨q, e2⟩ := List.getElem?_eq_some_iff.1 e
      simpa using e2
theorem index181 (w : World) (l : List (Int × Int)) (k : Nat) (hk : k < l.length) (hl : l.length = 256) :
    (Instr.index 181 (.agg (slotC l).toArray) (.int .i64 (k : Int))).run Tryz.prog w = .ok (.agg #[.int .u64 l[k].1, .int .i64 l[k].2]) w := by
  have h1 : (0 : Int) ≤ (k : Int) ∧ (k : Int) < 256 := by omega
  have h2 := slotC_extract l k hk
  have h3 : (k : Int).toNat = k := by omega
  simp only [Instr.index, Sem.run_bind, run_underlying under181, Result.andThen_ok, asIntOf, Sem.run_pure]
  have h4 : List.take 2 (List.drop (k * 2) (slotC l)) = [Value.int IntKind.u64 l[k].1, Value.int IntKind.i64 l[k].2] := by
    have := congrArg Array.toList h2
    simpa using this
  simp [h1, part, Sem.run_bind, h3, h4]

theorem slotC_set (l : List (Int × Int)) (k : Nat) (p : Int × Int) : slotC (l.set k p) = ((slotC l).set (2 * k) (.int .u64 p.1)).set (2 * k + 1) (.int .i64 p.2) := by
  induction l generalizing k with
  | nil => rfl
  | cons q r ih =>
    cases k with
    | zero => rfl
    | succ k =>
      have e : ∀ (z : Int × Int) (m : List (Int × Int)), slotC (z :: m) = .int .u64 z.1 :: .int .i64 z.2 :: slotC m := fun _ _ => rfl
      rw [List.set_cons_succ, e, e, ih, show 2 * (k + 1) = 2 * k + 1 + 1 by omega]
      simp only [List.set_cons_succ]
/-- The cells of one slot are others. -/
theorem HTabAt.setSlot {w : World} {tb hb : Nat} {T : HTab} (h : HTabAt w tb hb T) (k : Nat) (hk : k < 256) (p : Int × Int) :
    HTabAt ((w.setCell ⟨tb, 1 + 2 * k, none⟩ (.int .u64 p.1)).setCell ⟨tb, 1 + 2 * k + 1, none⟩ (.int .i64 p.2)) tb hb { T with slots := T.slots.set k p } := by
  obtain ⟨s1, s2⟩ := h.slot k hk
  have f1 := h.fr (1 + 2 * k)
  have f2 := h.fr (1 + 2 * k + 1)
  have other : ∀ i, i ≠ 1 + 2 * k → i ≠ 1 + 2 * k + 1 → ((w.setCell ⟨tb, 1 + 2 * k, none⟩ (.int .u64 p.1)).setCell ⟨tb, 1 + 2 * k + 1, none⟩ (.int .i64 p.2)).cell? ⟨tb, i, none⟩ = w.cell? ⟨tb, i, none⟩ := fun i h1 h2 => by
    rw [World.cell?_setCell_other _ _ _ _ (by intro e; cases e; exact h2 rfl), World.cell?_setCell_other _ _ _ _ (by intro e; cases e; exact h1 rfl)]
  have at1 : ((w.setCell ⟨tb, 1 + 2 * k, none⟩ (.int .u64 p.1)).setCell ⟨tb, 1 + 2 * k + 1, none⟩ (.int .i64 p.2)).cell? ⟨tb, 1 + 2 * k, none⟩ = some (.int .u64 p.1) := by
    rw [World.cell?_setCell_other _ _ _ _ (by intro e; simp at e), World.cell?_setCell_same _ _ _ s1]
  have at2 : ((w.setCell ⟨tb, 1 + 2 * k, none⟩ (.int .u64 p.1)).setCell ⟨tb, 1 + 2 * k + 1, none⟩ (.int .i64 p.2)).cell? ⟨tb, 1 + 2 * k + 1, none⟩ = some (.int .i64 p.2) := by
    have : (w.setCell ⟨tb, 1 + 2 * k, none⟩ (.int .u64 p.1)).cell? ⟨tb, 1 + 2 * k + 1, none⟩ = some (.int .i64 (T.slots[k]'(by rw [h.len]; exact hk)).2) := by
      rw [World.cell?_setCell_other _ _ _ _ (by intro e; simp at e)]; exact s2
    rw [World.cell?_setCell_same _ _ _ this]
  refine ⟨by have := h.lt; simpa using this, by rw [other 0 (by omega) (by omega)]; exact h.ptr, ?_, by simpa using h.len, by rw [other 513 (by omega) (by omega)]; exact h.cap, by rw [other 514 (by omega) (by omega)]; exact h.next, by rw [other 515 (by omega) (by omega)]; exact h.now, fun i => by simp only [World.frozen?_setCell]; exact h.fr i⟩
  intro j v hv
  have hv' : (slotC (T.slots.set k p))[j]? = some v := hv
  rw [slotC_set] at hv'
  have hl := slotC_length T.slots
  have hlen := h.len
  by_cases e2 : j = 2 * k + 1
  · subst e2
    rw [List.getElem?_set_self (by simp; omega)] at hv'
    cases hv'
    rw [show 1 + (2 * k + 1) = 1 + 2 * k + 1 by omega]; exact at2
  · rw [List.getElem?_set_ne (by omega)] at hv'
    by_cases e1 : j = 2 * k
    · subst e1
      rw [List.getElem?_set_self (by omega)] at hv'
      cases hv'
      exact at1
    · rw [List.getElem?_set_ne (by omega)] at hv'
      rw [other (1 + j) (by omega) (by omega)]
      exact h.slots j v hv'

section
variable {w : World} {L : HLoc} {h : HeapS} {os : List Nat} {a cap tb : Nat} {T : HTab}
theorem TBx.setSlot (t : TBx w L h os a cap tb T) (k : Nat) (hk : k < 256) (p : Int × Int) :
    TBx ((w.setCell ⟨tb, 1 + 2 * k, none⟩ (.int .u64 p.1)).setCell ⟨tb, 1 + 2 * k + 1, none⟩ (.int .i64 p.2)) L h os a cap tb { T with slots := T.slots.set k p } :=
  ⟨(t.heap.setFar ⟨tb, 1 + 2 * k, none⟩ t.ap _).setFar ⟨tb, 1 + 2 * k + 1, none⟩ t.ap _, t.wf, t.so, t.arr, t.tab.setSlot k hk p, t.ap, t.capE, t.cap1, t.cap2⟩
theorem mod_setSlot (w : World) (tb k : Nat) (u v : Value) : Mod [tb] w ((w.setCell ⟨tb, 1 + 2 * k, none⟩ u).setCell ⟨tb, 1 + 2 * k + 1, none⟩ v) := (mod_setCell w ⟨tb, 1 + 2 * k, none⟩ u).trans (mod_setCell _ ⟨tb, 1 + 2 * k + 1, none⟩ v)
end
end Go.Proofs.Eff
