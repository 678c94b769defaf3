/- The document's heap (package 02): where one lies; its small functions. -/
import Derived.Test.YtaggadjiefgpoaaGreatDoorRf0
namespace Go.Proofs.Eff
open Go.RowKit

/-- marks as bytes -/
def b8 (b : Bool) : Int := if b then 1 else 0
def mark8 (l : List Bool) : List Value := l.map (fun b => Value.int .u8 (b8 b))
@[simp] theorem mark8_length (l : List Bool) : (mark8 l).length = l.length := by simp [mark8]

/-- The document's heap lies there (its roots: any value). -/
structure RefAt (w : World) (L : HLoc) (rv : Value) (h : HeapS) : Prop where
  blk : w.heap[L.b]? = some (.cells #[.int .i64 h.size, .slice (some ⟨L.gw, 0, none⟩) h.words.length L.cw, rv, .int .u32 h.last, .slice (some ⟨L.gs, 0, none⟩) h.starts.length L.cs] 39)
  words : w.ownsRow 0 24 1 (.slice (some ⟨L.gw, 0, none⟩) h.words.length L.cw) h.words.length (u32s h.words)
  starts : w.ownsRow 0 5 1 (.slice (some ⟨L.gs, 0, none⟩) h.starts.length L.cs) h.starts.length (mark8 h.starts)

theorem RefAt.keep {a w : World} {L : HLoc} {rv : Value} {h : HeapS} (ha : RefAt a L rv h) (hx : Ext a w) : RefAt w L rv h :=
  ⟨hx.keep ha.blk, row_keep ha.words hx, row_keep ha.starts hx⟩
theorem RefAt.word {w : World} {L : HLoc} {rv : Value} {h : HeapS} (ha : RefAt w L rv h) (i : Nat) (hi : i < h.words.length) : w.cell? ⟨L.gw, i, none⟩ = some (.int .u32 (wd h.words i)) := by
  rw [row_cell ha.words i hi]; simp [u32s, wd, hi]
theorem RefAt.start {w : World} {L : HLoc} {rv : Value} {h : HeapS} (ha : RefAt w L rv h) (i : Nat) (hi : i < h.starts.length) : w.cell? ⟨L.gs, i, none⟩ = some (.int .u8 (b8 (bd h.starts i))) := by
  rw [row_cell ha.starts i hi]; simp [mark8, bd, hi]

/-- A heap in whose words objects lie one behind the other; nothing of its roots and its size. -/
structure WFR (h : HeapS) (os : List Nat) : Prop where
  pos : 0 < h.words.length
  big : h.words.length ≤ 1048576
  rng : ∀ i, 0 ≤ wd h.words i ∧ wd h.words i < 4294967296
  laid : Laid h.words 1 os
  starts : h.starts = (List.range h.words.length).map (fun i => os.contains i)
theorem WF.wfr {h : HeapS} {os : List Nat} (wf : WF h os) : WFR h os := ⟨wf.pos, wf.big, wf.word, wf.laid, wf.starts⟩
theorem WFR.slen {h : HeapS} {os : List Nat} (wf : WFR h os) : h.starts.length = h.words.length := by rw [wf.starts]; simp
theorem WFR.start {h : HeapS} {os : List Nat} (wf : WFR h os) {i : Nat} (hi : i < h.words.length) : bd h.starts i = os.contains i := by rw [wf.starts]; simp [bd, hi]
theorem WFR.mem {h : HeapS} {os : List Nat} (wf : WFR h os) {x : Nat} (hx : x ∈ os) : 1 ≤ x ∧ x + 3 + sizeAt h.words x ≤ h.words.length ∧ okW (wd h.words x) = true := wf.laid.mem x hx

variable {w : World} {L : HLoc} {rv : Value} {h : HeapS} {os : List Nat}

set_option maxHeartbeats 400000 in
theorem first104 (ha : RefAt w L rv h) (_hb : h.words.length ≤ 1048576) :
    Calls Tryz.prog 104 #[.pointer (some ⟨L.b, 0, none⟩)] w fun e w' => e = .returned (.int .u32 (if h.words.length = 1 then 0 else 2)) ∧ w = w' := by
  obtain ⟨c1, f1⟩ := blk ha.blk
  clear ha
  by_cases hq : h.words.length = 1
  · rw [if_pos hq]
    have hi : (h.words.length : Int) = 1 := by omega
    go_enter Tryz.func104, Tryz.ntmps104
    go_wp2
    go_ret
    exact ⟨rfl, rfl⟩
  · rw [if_neg hq]
    have hi : ¬ (h.words.length : Int) = 1 := by omega
    go_enter Tryz.func104, Tryz.ntmps104
    go_wp2
    go_ret
    exact ⟨rfl, rfl⟩

set_option maxHeartbeats 1000000 in
theorem is148 (ha : RefAt w L rv h) (wf : WFR h os) (o : Int) (h0 : 0 ≤ o) (h1 : o < 4294967296) :
    Calls Tryz.prog 148 #[.pointer (some ⟨L.b, 0, none⟩), .int .u32 o] w fun e w' => e = .returned (.bool (isO os o)) ∧ w = w' := by
  obtain ⟨c1, f1⟩ := blk ha.blk
  have hl := wf.slen
  have hbg := wf.big
  by_cases hob : isObj o = true
  · have hz : o ≠ 0 ∧ o % 2 = 0 := by simpa [isObj] using hob
    obtain ⟨hz1, hz2⟩ := hz
    by_cases hlt : (o / 2).toNat < h.words.length
    · have cs := ha.start (o / 2).toNat (by omega)
      rw [wf.start hlt] at cs
      have R : Hid (isO os o = os.contains (o / 2).toNat) := by show isO os o = _; simp [isO, hob]
      have q1 : o / 2 < (h.starts.length : Int) := by omega
      have q0 : 0 ≤ o / 2 := by omega
      have CS := hl
      rw [R.out]
      clear ha wf hob hl CS
      cases hc : os.contains (o / 2).toNat with
      | false =>
        rw [hc] at cs
        simp only [b8, Bool.false_eq_true, if_false] at cs
        clear hc R
        go_enter Tryz.func148, Tryz.ntmps148
        go_wp2
        all_goals (go_ret; refine ⟨?_, rfl⟩; first | rfl | simp_all)
      | true =>
        rw [hc] at cs
        simp only [b8, if_true] at cs
        clear hc R
        go_enter Tryz.func148, Tryz.ntmps148
        go_wp2
        all_goals (go_ret; refine ⟨?_, rfl⟩; first | rfl | simp_all)
    · have R : isO os o = false := by
        cases hq : isO os o with
        | false => rfl
        | true =>
          have := wf.mem (by simpa [isO, hob] using hq : (o / 2).toNat ∈ os)
          omega
      rw [R]
      have q1 : ¬ o / 2 < (h.starts.length : Int) := by omega
      clear ha wf hob hl R
      go_enter Tryz.func148, Tryz.ntmps148
      go_wp2
      all_goals (go_ret; refine ⟨?_, rfl⟩; first | rfl | simp_all)
  · have R : isO os o = false := by simp [isO, hob]
    rw [R]
    have hz : o = 0 ∨ (o ≠ 0 ∧ o % 2 = 1) := by
      by_cases hq : o = 0
      · exact .inl hq
      · refine .inr ⟨hq, ?_⟩
        have : ¬ (o % 2 = 0) := by intro h2; apply hob; simp [isObj, hq, h2]
        omega
    clear ha wf hob hl R
    rcases hz with rfl | ⟨hz1, hz2⟩
    all_goals
      go_enter Tryz.func148, Tryz.ntmps148
      go_wp2
      all_goals (go_ret; refine ⟨?_, rfl⟩; first | rfl | simp_all)


set_option maxHeartbeats 1000000 in
theorem class106 (ha : RefAt w L rv h) (wf : WFR h os) (o : Int) (h0 : 0 ≤ o) (h1 : o < 4294967296) :
    Calls Tryz.prog 106 #[.pointer (some ⟨L.b, 0, none⟩), .int .u32 o] w fun e w' => e = .returned (.bool (classOK os o)) ∧ w = w' := by
  have IS := Lib.hid (is148 ha wf o h0 h1)
  clear ha wf
  go_enter Tryz.func106, Tryz.ntmps106
  go_wp2_with (go_at_call 148; refine IS.out.mono ?_; rintro e w' ⟨rfl, rfl⟩)
  all_goals (go_ret; refine ⟨?_, rfl⟩; simp_all [classOK])

set_option maxHeartbeats 1000000 in
theorem value107 (ha : RefAt w L rv h) (wf : WFR h os) (o : Int) (h0 : 0 ≤ o) (h1 : o < 4294967296) :
    Calls Tryz.prog 107 #[.pointer (some ⟨L.b, 0, none⟩), .int .u32 o] w fun e w' => e = .returned (.bool (valueOK os o)) ∧ w = w' := by
  have IS := Lib.hid (is148 ha wf o h0 h1)
  have V : Hid (valueOK os o = (o == 0 || o % 2 == 1 || isO os o)) := by
    show valueOK os o = _
    unfold valueOK isO isObj
    rcases Int.emod_two_eq o with h | h <;> by_cases hz : o = 0 <;> (first | (subst hz; simp) | (have hz' : (o == 0) = false := by simpa using hz); simp [h, hz', bne])
  clear ha wf
  rw [V.out]
  go_enter Tryz.func107, Tryz.ntmps107
  go_wp2_with (go_at_call 148; refine IS.out.mono ?_; rintro e w' ⟨rfl, rfl⟩)
  all_goals (go_ret; refine ⟨?_, rfl⟩; simp_all)

end Go.Proofs.Eff
