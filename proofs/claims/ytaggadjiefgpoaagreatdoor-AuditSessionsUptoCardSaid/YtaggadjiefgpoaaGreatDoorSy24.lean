/- heap.All: the iterator's contract. -/
import Derived.Test.YtaggadjiefgpoaaGreatDoorSy23
import Derived.Test.YtaggadjiefgpoaaGreatDoorSy13
import Derived.Test.YtaggadjiefgpoaaGreatDoorSy01
import Derived.RangeFuncNested
import Derived.RangeFuncBound
import Derived.RangeFuncCalls
import Derived.RangeFuncLeaves
import Derived.Shelf.Abstract
import Derived.Shelf.RegionOpen
import Derived.WalkKit
import Derived.OwnWalkIn
import Derived.TacticsInMore
import Derived.LoopNIn
import Derived.LoopIn
namespace Go.Proofs.Eff
open Go.RowKit Go.Shelf
attribute [local go_sem] Oper.semAt_some

/-- The block of the row that a variable's slice lies in. -/
def rowOf (B : Nat) (W : World) : Option Nat := (W.cell? ⟨B, 0, none⟩).bind Value.ownBlock
/-- What a round keeps that writes into a variable and its row alone. -/
structure KpB (B : Nat) (W W' : World) : Prop where
  size : W.heap.size ≤ W'.heap.size
  kept : ∀ k cs T fz, W.heap[k]? = some (.cells cs T fz) → k ≠ B → rowOf B W ≠ some k → W'.heap[k]? = W.heap[k]?
  row : rowOf B W' = rowOf B W ∨ ∀ g, rowOf B W' = some g → W.heap.size ≤ g
theorem KpB.trans {B : Nat} {X Y Z : World} (h : KpB B X Y) (k : KpB B Y Z) : KpB B X Z := by
  refine ⟨Nat.le_trans h.size k.size, ?_, ?_⟩
  · intro j cs T fz hj hB hr
    have h1 := h.kept j cs T fz hj hB hr
    have hl := lt_of_block hj
    rw [← h1]
    refine k.kept j cs T fz (h1.trans hj) hB ?_
    intro hx
    rcases h.row with h2 | h2
    · exact hr (h2 ▸ hx)
    · have := h2 j hx; omega
  · rcases k.row with h2 | h2
    · rw [h2]; exact h.row
    · exact .inr (fun g hg => Nat.le_trans h.size (h2 g hg))
theorem KpB.turn {B : Nat} {w : World} (hB : B < w.heap.size) (W : World) (l : Nat) (o o' : Obj) (hl : w.heap.size ≤ l) (h : W.heap[l]? = some o) (hc : o.isCells = false) (_ : o.isWalk = false) : KpB B W (W.putObj l o') := by
  have e : ∀ k, k ≠ l → (W.putObj l o').heap[k]? = W.heap[k]? := fun k hk => World.putObj_heap_other hk
  refine ⟨by simp [World.putObj], ?_, ?_⟩
  · intro k cs T fz hk _ _
    refine e k (fun hx => ?_)
    subst hx
    rw [h] at hk; cases hk; simp [Obj.isCells] at hc
  · left
    unfold rowOf
    rw [World.cell?_of_block (w := W) (a := ⟨B, 0, none⟩) (e B (by omega))]
theorem KpB.keep {B : Nat} {W W' : World} (h : KpB B W W') {k : Nat} {cs : Array Value} {T : TypeId} {fz : Nat × Nat} (hk : W.heap[k]? = some (.cells cs T fz)) (hB : k ≠ B) (hr : rowOf B W ≠ some k) : W'.heap[k]? = some (.cells cs T fz) := (h.kept k cs T fz hk hB hr).trans hk
theorem KpB.own {B : Nat} {a w : World} (h : KpB B a w) {base size n g c : Nat} {e : TypeId} {xs : List Value} (hr : a.ownsRow base e size (.slice (some ⟨g, 0, none⟩) n c) n xs) (hB : g ≠ B) (hg : rowOf B a ≠ some g) : w.ownsRow base e size (.slice (some ⟨g, 0, none⟩) n c) n xs := by
  obtain ⟨h1, h2⟩ := hr
  refine ⟨h1, ?_⟩
  rcases h2 with h2 | ⟨g', c', cur, a1, a2, a3, a4⟩
  · exact .inl h2
  · cases a1; exact .inr ⟨_, _, cur, rfl, a2, h.keep a3 hB hg, a4⟩
/-- Blocks that the body of a loop does not turn. -/
def Safe (B : Nat) (l : List Nat) (W : World) : Prop := ∀ k, k ∈ l → k ≠ B ∧ rowOf B W ≠ some k ∧ k < W.heap.size
theorem Safe.kp {B : Nat} {l : List Nat} {W W' : World} (h : Safe B l W) (k : KpB B W W') : Safe B l W' := by
  intro j hj
  have h1 := h j hj
  refine ⟨h1.1, ?_, Nat.lt_of_lt_of_le h1.2.2 k.size⟩
  intro hx
  rcases k.row with h2 | h2
  · exact h1.2.1 (h2 ▸ hx)
  · have := h2 j hx; omega
theorem rowOf_ext {B : Nat} {W W' : World} (h : Ext W W') (hB : B < W.heap.size) : rowOf B W' = rowOf B W := by
  unfold rowOf
  rw [World.cell?_of_block (w := W) (a := ⟨B, 0, none⟩) (h.block hB)]
theorem Safe.ext {B : Nat} {l : List Nat} {W W' : World} (h : Safe B l W) (k : Ext W W') (hB : B < W.heap.size) : Safe B l W' := by
  intro j hj
  have h1 := h j hj
  exact ⟨h1.1, by rw [rowOf_ext k hB]; exact h1.2.1, Nat.lt_of_lt_of_le h1.2.2 k.size⟩
theorem HeapAt.kp {B : Nat} {W W' : World} {L : HLoc} {h : HeapS} (ha : HeapAt W L h) (hs : Safe B (0 :: L.blocks) W) (k : KpB B W W') : HeapAt W' L h := by
  have s := fun x hx => hs x (List.mem_cons_of_mem _ hx)
  have s1 := s L.b (by simp [HLoc.blocks])
  have s2 := s L.gw (by simp [HLoc.blocks])
  have s3 := s L.gs (by simp [HLoc.blocks])
  have s4 := s L.gr (by simp [HLoc.blocks])
  exact ⟨k.keep ha.blk s1.1 s1.2.1, k.own ha.words s2.1 s2.2.1, k.own ha.starts s3.1 s3.2.1, k.own ha.roots s4.1 s4.2.1⟩
theorem Spares.kp {B : Nat} {W W' : World} {l : List Nat} (h : Spares W) (hs : Safe B (0 :: l) W) (k : KpB B W W') : Spares W' := by
  obtain ⟨T, fz, h⟩ := h
  have s1 := hs 0 (by simp)
  exact ⟨T, fz, k.keep h s1.1 s1.2.1⟩

end Go.Proofs.Eff

/- heap.All$1: the iterator. -/
namespace Go.Proofs.Eff
open Go.RowKit Go.Shelf
attribute [local go_sem] Oper.semAt_some

/-- The first of objects that follow. -/
def firstO : List Nat → Int
  | [] => 0
  | a :: _ => 2 * (a : Int)
def allEnc (ws : List Int) (a : Nat) : Array Value := #[.int .u32 (2 * (a : Int)), (hdrAt ws a).val]
def allLeft (N : Nat) (v : Value) : Nat := if intOf v = 0 then 0 else N + 1 - (intOf v / 2).toNat

theorem Laid.next {ws : List Int} : ∀ {os : List Nat} {a : Nat}, Laid ws a os → ∀ (pre : List Nat) (x : Nat) (rest : List Nat), os = pre ++ x :: rest → 0 < x → nextO ws (2 * (x : Int)) = firstO rest ∧ (∀ y, y ∈ rest → x < y) := by
  intro os
  induction os with
  | nil => intro a _ pre x rest he; simp at he
  | cons z l ih =>
    rintro a ⟨rfl, h2, h3, h4⟩ pre x rest he hx
    cases pre with
    | cons p pre => simp only [List.cons_append, List.cons.injEq] at he; exact ih h4 pre x rest he.2 hx
    | nil =>
      simp only [List.nil_append, List.cons.injEq] at he
      obtain ⟨rfl, rfl⟩ := he
      have hz : (2 * (z : Int) / 2) = z := by omega
      constructor
      · unfold nextO
        rw [hz, Int.toNat_natCast]
        cases l with
        | nil =>
          have h5 : z + 3 + sizeAt ws z = ws.length := h4
          unfold objAt firstO
          rw [if_neg (by omega)]
        | cons y l =>
          obtain ⟨rfl, h6, _, _⟩ := h4
          unfold objAt firstO
          rw [if_pos (by omega)]; dsimp only; omega
      · intro y hy
        have := (h4.mem y hy).1
        omega
theorem Laid.first {ws : List Int} {os : List Nat} (h : Laid ws 1 os) : objAt ws.length 1 = firstO os := by
  cases os with
  | nil => have : 1 = ws.length := h; unfold objAt firstO; rw [if_neg (by omega)]
  | cons y l => obtain ⟨rfl, h6, _, _⟩ := h; unfold objAt firstO; rw [if_pos (by omega)]; dsimp only; omega

theorem allLeft_lt (N x : Nat) (z : Int) (hx : 0 < x) (hN : x < N) (h : z = 0 ∨ ∃ y : Nat, z = 2 * (y : Int) ∧ x < y ∧ y < N) : allLeft N (.int .u32 z) < allLeft N (.int .u32 (2 * (x : Int))) := by
  have e2 : allLeft N (.int .u32 (2 * (x : Int))) = N + 1 - x := by
    show (if 2 * (x : Int) = 0 then 0 else N + 1 - (2 * (x : Int) / 2).toNat) = _
    rw [if_neg (by omega)]; congr 1; omega
  rw [e2]
  rcases h with rfl | ⟨y, rfl, h1, h2⟩
  · show (if (0 : Int) = 0 then 0 else N + 1 - ((0 : Int) / 2).toNat) < _
    rw [if_pos rfl]; omega
  · show (if 2 * (y : Int) = 0 then 0 else N + 1 - (2 * (y : Int) / 2).toNat) < _
    rw [if_neg (by omega)]; omega
theorem ext_grown {W W' : World} (h : Ext W W') : W.grownBy W' none := ⟨h.os, h.tape, h.output, h.size, fun _k hk _ => h.block hk⟩

set_option maxRecDepth 100000 in
set_option maxHeartbeats 2000000 in
theorem All1_in (n l B Bn : Nat) {L : HLoc} {h : HeapS} {os : List Nat} (J Jx : List Nat → World → Prop) (W : World)
    (hJ : AbidesFrom W.heap.size J)
    (hY : ∀ pre x W1, J pre W1 → pre.length < os.length → YieldAt Fence.wide (n - 1) Tryz.prog l (allEnc h.words x) W1 fun e W' =>
      (e = .returned (.bool true) ∧ J (pre ++ [x]) W' ∧ KpB B W1 W') ∨ (e = .returned (.bool false) ∧ Jx (pre ++ [x]) W'))
    (hBn : W.cell? ⟨Bn, 0, none⟩ = some (.pointer (some ⟨L.b, 0, none⟩))) (ha : HeapAt W L h) (wf : WF h os) (hs : Spares W) (hB : B < W.heap.size) (hB0 : 0 < B) (hr : rowOf B W = none) (h0 : J [] W) :
    CallsIn Fence.wide n Tryz.prog 123 #[.func (.yield l) #[] #[], .pointer (some ⟨Bn, 0, none⟩)] W fun e W' => (∃ v, e = .returned v) ∧ ((∃ xs, xs = os ∧ J xs W') ∨ (∃ pre, pre <+: os ∧ Jx pre W')) := by
  have HCL := Lib.hid (Clone_ok ha wf)
  have hl1 := wf.laid
  have HFO := Lib.hid hl1.first
  have HNX := Lib.hid (fun pre x rest he hx => hl1.next (pre := pre) (x := x) (rest := rest) he hx)
  have HW := Lib.hid wf
  have HS := Lib.hid hs
  have HJ := Lib.hid hJ
  have HY := Lib.hid hY
  have HR := Lib.hid hr
  have hp := hs.pos
  clear ha wf hs hJ hY hr hl1
  refine callsIn_of_wp Tryz.func123 rfl trivial ?_ rfl
  simp only [Tryz.ntmps123, List.size_toArray, List.length_cons, List.length_nil, Nat.reduceAdd, Nat.reduceSub, Array.replicate_succ, Array.replicate_zero, List.push_toArray, List.append_toArray, List.nil_append, List.cons_append]
  gi_wp2_with (first | (refine ⟨trivial, (fun h => by cases h), ?_⟩; gi_at_call 19; refine (callsIn_wide.2 HCL.out).mono ?_; rintro e w1 ⟨L', rfl, ha1, hE1, hf1⟩; have HA1 := Lib.hid ha1; have E1 := Lib.hid hE1; clear ha1 hE1) | (refine ⟨trivial, (fun h => by cases h), ?_⟩; gi_at_call 109; refine (callsIn_wide.2 (first_any HA1.out HW.out)).mono ?_; rintro e w2 ⟨rfl, rfl⟩; rw [HFO.out]))
  have hB1 := E1.out.size
  have SF : Hid (Safe B (0 :: L'.blocks) w1) := by
    intro k hk
    refine ⟨?_, by rw [rowOf_ext E1.out hB, HR.out]; simp, ?_⟩
    · obtain ⟨f1, f2, f3, f4⟩ := hf1
      simp only [HLoc.blocks, List.mem_cons, List.not_mem_nil, or_false] at hk
      omega
    · rcases List.mem_cons.1 hk with rfl | hk
      · omega
      · exact HA1.out.bl _ hk
  clear hf1
  gi_loopw [4] (fun o wr => ∃ (pre rest : List Nat) (z : Int), os = pre ++ rest ∧ o = .int .u32 z ∧ z = firstO rest ∧ HeapAt wr L' h ∧ Spares wr ∧ Safe B (0 :: L'.blocks) wr ∧ W.heap.size ≤ wr.heap.size ∧ J pre wr) (fun o wr => allLeft h.words.length o)
  case atStart => exact ⟨[], os, _, rfl, rfl, rfl, HA1.out, HS.out.kept E1.out hp, SF.out, hB1, HJ.out _ _ _ none h0 (ext_grown E1.out) (by intro r e; cases e)⟩
  case round =>
    obtain ⟨pre, rest, z, hx, rfl, hz, ha2, hs2, hsf, hsz, hj⟩ := hrel
    have HX := Lib.hid hx
    have HJ2 := Lib.hid hj
    have HA2 := Lib.hid ha2
    have HS2 := Lib.hid hs2
    have HSF := Lib.hid hsf
    clear hx hj ha2 hs2 hsf
    cases rest with
    | nil =>
      obtain rfl : z = 0 := hz
      gi_wp2
      go_end0
      exact ⟨⟨_, rfl⟩, .inl ⟨pre, by simp [HX.out], HJ2.out⟩⟩
    | cons x rest =>
      obtain rfl : z = 2 * (x : Int) := hz
      have hxm : x ∈ os := by rw [HX.out]; simp
      have hm := HW.out.mem hxm
      have hbig := HW.out.big
      have hnx := HNX.out pre x rest HX.out (by omega)
      have hdv : (2 * (x : Int)) / 2 = x := by omega
      have hio : isO os (2 * (x : Int)) = true := by simp [isO, isObj, hdv, hxm]; omega
      have HAT := Lib.hid (fun W => hat_ok (w := W) (.pointer (some ⟨L'.b, 0, none⟩)) (2 * (x : Int)) (by omega) (by omega) (HW.out.isO_lt hio).1)
      have HHD := Lib.hid (header_ok HA2.out HS2.out (x : Int) (by omega) (by omega) hbig HW.out.word (by simpa using hm.2.2))
      have HNO := Lib.hid (fun W (ha : HeapAt W L' h) (hs : Spares W) => Next_ok ha HW.out hs (2 * (x : Int)) (by omega) (by omega) hio)
      rw [hdv] at HAT
      have hne : (2 * (x : Int) != 0) = true := by simp; omega
      gi_wp2_with (first | (refine ⟨trivial, (fun h => by cases h), ?_⟩; gi_at_call 80; refine (callsIn_wide.2 (HAT.out _)).mono ?_; rintro e w3 ⟨rfl, rfl⟩) | (refine ⟨trivial, (fun h => by cases h), ?_⟩; gi_at_call 79; refine (callsIn_wide.2 HHD.out).mono ?_; rintro e w4 ⟨rfl, hE4⟩; have E4 := Lib.hid hE4; obtain ⟨fn, tmps, assign, body, hy, hR⟩ := HY.out pre x w4 (HJ.out _ _ _ none HJ2.out (ext_grown hE4) (by intro r e; cases e)) (by rw [HX.out]; simp); dsimp only [allEnc] at hy; simp only [Int.toNat_natCast]; clear hE4))
      refine ⟨(fun h => by cases h), hR.mono ?_⟩
      rintro e W3 (⟨rfl, hJ3, hk3⟩ | ⟨rfl, hJx3⟩)
      · have S4 := HSF.out.ext E4.out (by omega)
        have A4 := HA2.out.keep E4.out
        have P4 := HS2.out.kept E4.out (by omega)
        have A3 := Lib.hid (A4.kp S4 hk3)
        have P3 := Lib.hid (P4.kp S4 hk3)
        have S3 := Lib.hid (S4.kp hk3)
        have hs3 := hk3.size
        have hs4 := E4.out.size
        have J3 := Lib.hid hJ3
        have HN3 := Lib.hid (HNO.out W3 A3.out P3.out)
        rw [hnx.1] at HN3
        have HG := Lib.hid hnx.2
        have hfr : Hid (∀ y l, rest = y :: l → x < y ∧ y < h.words.length) := by
          intro y l he
          have := HW.out.mem (x := y) (by rw [HX.out, he]; simp)
          exact ⟨HG.out y (by rw [he]; simp), by omega⟩
        clear hJ3 hk3 S4 A4 P4 hnx
        generalize hz : firstO rest = z at *
        have HZ := Lib.hid hz
        clear hz
        gi_wp2_with ((refine ⟨trivial, (fun h => by cases h), ?_⟩; gi_at_call 110; refine (callsIn_wide.2 HN3.out).mono ?_; rintro e w5 ⟨rfl, hE5⟩; have E5 := Lib.hid hE5; clear hE5))
        have hs5 := E5.out.size
        go_roundw
        case rel => exact ⟨pre ++ [x], rest, z, by rw [HX.out]; simp, rfl, HZ.out.symm, A3.out.keep E5.out, P3.out.kept E5.out (by omega), S3.out.ext E5.out (by omega), by omega, HJ.out _ _ _ none J3.out (ext_grown E5.out) (by intro r e; cases e)⟩
        case measure =>
          refine allLeft_lt h.words.length x z (by omega) (by omega) ?_
          have hz := HZ.out
          cases rest with
          | nil => exact .inl hz.symm
          | cons y l => exact .inr ⟨y, hz.symm, hfr.out y l rfl⟩
      · gi_wp2
        refine bodyPost_ret (results_none rfl _ _ _) rfl ?_
        exact ⟨⟨_, rfl⟩, .inr ⟨pre ++ [x], ⟨rest, by simp [HX.out]⟩, hJx3⟩⟩

end Go.Proofs.Eff

/- What heap.sound looks at: plain laws; sound's closure over the roots. -/
namespace Go.Proofs.Eff
open Go.RowKit

def serAt (ws : List Int) (a : Nat) : Int := wd ws (a + 2)
def clsAt (ws : List Int) (a : Nat) : Int := wd ws (a + 1)
def fmtAt (ws : List Int) (a : Nat) : Int := wd ws a / 16777216 % 8
def spAt (ws : List Int) (a : Nat) : Int := wd ws a / 134217728 % 4

/-- An object is as it must be, behind others. -/
def okObj (h : HeapS) (os pre : List Nat) (a : Nat) : Bool :=
  serAt h.words a != 0 && decide (serAt h.words a ≤ h.last) && !(pre.map (serAt h.words)).contains (serAt h.words a) && classOK os (clsAt h.words a) &&
    (fmtAt h.words a != 2 || spareOK h.words a) && (!(ptrF (fmtAt h.words a)) || (fieldsAt h.words a).all (valueOK os))
def okAll (h : HeapS) (os : List Nat) : List Nat → List Nat → Bool
  | _, [] => true
  | pre, a :: l => okObj h os pre a && okAll h os (pre ++ [a]) l
def soundB (h : HeapS) (os : List Nat) : Bool := okAll h os [] os && h.roots.all (valueOK os)

theorem okAll_iff {h : HeapS} {os : List Nat} : ∀ (l pre : List Nat), okAll h os pre l = true ↔
    (∀ a, a ∈ l → serAt h.words a ≠ 0 ∧ serAt h.words a ≤ h.last ∧ classOK os (clsAt h.words a) = true ∧ (fmtAt h.words a = 2 → spareOK h.words a = true) ∧ ((fmtAt h.words a = 1 ∨ fmtAt h.words a = 4) → ∀ x, x ∈ fieldsAt h.words a → valueOK os x = true)) ∧
    (∀ a, a ∈ l → ¬ serAt h.words a ∈ pre.map (serAt h.words)) ∧ (l.map (serAt h.words)).Nodup := by
  intro l
  induction l with
  | nil => intro pre; simp [okAll]
  | cons a l ih =>
    intro pre
    simp only [okAll, Bool.and_eq_true, ih, okObj, List.mem_cons, forall_eq_or_imp, List.map_cons, List.nodup_cons, List.map_append, List.map_nil, List.mem_append, not_or]
    have hp : (!(ptrF (fmtAt h.words a)) || (fieldsAt h.words a).all (valueOK os)) = true ↔ ((fmtAt h.words a = 1 ∨ fmtAt h.words a = 4) → ∀ x, x ∈ fieldsAt h.words a → valueOK os x = true) := by
      simp only [ptrF, Bool.or_eq_true, Bool.not_eq_true', Bool.or_eq_false_iff, beq_eq_false_iff_ne, List.all_eq_true]
      constructor
      · rintro (h1 | h1) h2
        · rcases h2 with h2 | h2
          · exact absurd h2 h1.1
          · exact absurd h2 h1.2
        · exact h1
      · intro h1
        by_cases h2 : fmtAt h.words a = 1 ∨ fmtAt h.words a = 4
        · exact .inr (h1 h2)
        · exact .inl (by omega)
    have hsp : (fmtAt h.words a != 2 || spareOK h.words a) = true ↔ (fmtAt h.words a = 2 → spareOK h.words a = true) := by
      simp only [Bool.or_eq_true, bne_iff_ne, ne_eq]
      by_cases h2 : fmtAt h.words a = 2 <;> simp [h2]
    rw [hp, hsp]
    simp only [bne_iff_ne, ne_eq, decide_eq_true_eq, Bool.not_eq_true', List.contains_eq_mem, decide_eq_false_iff_not, List.not_mem_nil, not_false_eq_true, and_true]
    constructor
    · rintro ⟨⟨⟨⟨⟨⟨a1, a2⟩, a3⟩, a4⟩, a5⟩, a6⟩, b1, b2, b3⟩
      refine ⟨⟨⟨a1, a2, a4, a5, a6⟩, b1⟩, ⟨a3, fun x hx => (b2 x hx).1⟩, ?_, b3⟩
      intro hm
      obtain ⟨y, hy, he⟩ := List.mem_map.1 hm
      have := (b2 y hy).2
      simp [he] at this
    · rintro ⟨⟨⟨a1, a2, a4, a5, a6⟩, b1⟩, ⟨a3, b2⟩, c1, b3⟩
      refine ⟨⟨⟨⟨⟨⟨a1, a2⟩, a3⟩, a4⟩, a5⟩, a6⟩, b1, fun x hx => ⟨b2 x hx, ?_⟩, b3⟩
      intro he
      exact c1 (List.mem_map.2 ⟨x, hx, he⟩)

theorem soundB_iff {h : HeapS} {os : List Nat} (wf : WF h os) : soundB h os = true ↔ Sound h os := by
  have e1 : ∀ a, (hdrAt h.words a).cls = clsAt h.words a := fun _ => rfl
  have e2 : ∀ a, (hdrAt h.words a).ser = serAt h.words a := fun _ => rfl
  have e3 : ∀ a, (hdrAt h.words a).fmt = fmtAt h.words a := fun _ => rfl
  unfold soundB
  rw [Bool.and_eq_true, okAll_iff, List.all_eq_true]
  constructor
  · rintro ⟨⟨a1, _, a3⟩, b⟩
    refine ⟨fun a ha => (a1 a ha).2.2.1, fun a ha => ?_, fun a ha => (a1 a ha).2.1, a3, fun a ha hf => (a1 a ha).2.2.2.2 hf, fun a ha hf => (a1 a ha).2.2.2.1 hf, b⟩
    have h1 := (a1 a ha).1
    have h2 := (wf.word (a + 2)).1
    rw [e2]; unfold serAt at *; omega
  · intro hs
    refine ⟨⟨fun a ha => ⟨?_, hs.ser1 a ha, hs.cls a ha, hs.spare a ha, hs.fld a ha⟩, by simp, hs.uniq⟩, hs.root⟩
    have := hs.ser0 a ha
    rw [e2] at this; omega

/-! ### The closure over the roots -/
theorem sound1 {w : World} {L : HLoc} {h : HeapS} {os : List Nat} (ha : HeapAt w L h) (wf : WF h os) (Bn : Nat) (hB : w.cell? ⟨Bn, 0, none⟩ = some (.pointer (some ⟨L.b, 0, none⟩))) (v : Int) (h0 : 0 ≤ v) (h1 : v < 4294967296) :
    Calls Tryz.prog 115 #[.int .u32 v, .pointer (some ⟨Bn, 0, none⟩)] w fun e w' => e = .returned (.bool (!valueOK os v)) ∧ w = w' := by
  have HV := Lib.hid (value_any ha wf v h0 h1)
  clear ha wf
  go_enter Tryz.func115, Tryz.ntmps115
  go_wp2_with (go_at_call 82; refine HV.out.mono ?_; rintro e w' ⟨rfl, rfl⟩)
  go_ret
  exact ⟨rfl, rfl⟩

/-- Where a root first is none that may stand; -1: nowhere. -/
def firstBad (os : List Nat) (l : List Int) : Int := if l.all (valueOK os) then -1 else (l.findIdx (fun x => !valueOK os x) : Int)
theorem firstBad_hit {os : List Nat} {l : List Int} {k : Nat} (hk : k < l.length) (hb : ∀ j, j < k → valueOK os (wd l j) = true) (he : valueOK os (wd l k) = false) : firstBad os l = k := by
  unfold firstBad
  have hn : l.all (valueOK os) = false := by
    rw [← Bool.not_eq_true]; intro h
    rw [List.all_eq_true] at h
    have := h (wd l k) (by simp [wd, hk])
    rw [he] at this; cases this
  rw [hn]
  have : l.findIdx (fun x => !valueOK os x) = k := by
    rw [List.findIdx_eq hk]
    refine ⟨by simp only [wd, hk, List.getElem?_eq_getElem, Option.getD_some] at he; simp [he], fun j hj => ?_⟩
    have := hb j hj
    simp only [wd, show j < l.length by omega, List.getElem?_eq_getElem, Option.getD_some] at this
    simp [this]
  simp [this]
theorem firstBad_miss {os : List Nat} {l : List Int} (hb : ∀ j, j < l.length → valueOK os (wd l j) = true) : firstBad os l = -1 := by
  unfold firstBad
  have hn : l.all (valueOK os) = true := by
    rw [List.all_eq_true]; intro x hx
    obtain ⟨j, hj, rfl⟩ := List.getElem_of_mem hx
    have := hb j hj
    simpa [wd, hj] using this
  rw [hn]; rfl
theorem firstBad_ge (os : List Nat) (l : List Int) : decide (0 ≤ firstBad os l) = !l.all (valueOK os) := by
  unfold firstBad
  cases l.all (valueOK os) <;> simp

set_option maxHeartbeats 400000 in
theorem sindexf152s {w : World} {L : HLoc} {h : HeapS} {os : List Nat} (ha : HeapAt w L h) (wf : WF h os) (Bn : Nat) (hB : w.cell? ⟨Bn, 0, none⟩ = some (.pointer (some ⟨L.b, 0, none⟩))) :
    Calls Tryz.prog 152 #[.slice (some ⟨L.gr, 0, none⟩) h.roots.length L.cr, .func (.func 115) #[] #[.pointer (some ⟨Bn, 0, none⟩)]] w fun e w' => e = .returned (.int .i64 (firstBad os h.roots)) ∧ w = w' := by
  have HC : Hid (∀ k, k < h.roots.length → w.cell? ⟨L.gr, k, none⟩ = some (.int .u32 (wd h.roots k))) := fun k hk => ha.root k hk
  have HP : Hid (∀ k, Calls Tryz.prog 115 #[.int .u32 (wd h.roots k), .pointer (some ⟨Bn, 0, none⟩)] w fun e w' => e = .returned (.bool (!valueOK os (wd h.roots k))) ∧ w = w') := fun k => sound1 ha wf Bn hB _ (wf.root k).1 (wf.root k).2
  have hl : h.roots.length ≤ 64 := by have := wf.rlen; omega
  generalize h.roots = xs at *
  clear ha wf hB
  go_enter Tryz.func152, Tryz.ntmps152
  go_wp2
  go_loop [8] (fun i => ∃ k : Nat, k ≤ xs.length ∧ i = .int .i64 k ∧ ∀ j, j < k → valueOK os (wd xs j) = true) (fun i => xs.length - (intOf i).toNat)
  case atStart => exact ⟨0, by omega, rfl, by omega⟩
  case round =>
    obtain ⟨k, hk, rfl, hb⟩ := hrel
    have HB := Lib.hid hb
    clear hb
    by_cases hlt : k < xs.length
    · have c1 := HC.out k hlt
      have HPk := Lib.hid (HP.out k)
      cases he : valueOK os (wd xs k) with
      | false =>
        rw [he] at HPk
        have HE := Lib.hid he
        clear he
        go_wp2_with (go_at_call 115; refine HPk.out.mono ?_; rintro e w' ⟨rfl, rfl⟩)
        go_ret
        refine ⟨?_, rfl⟩
        rw [firstBad_hit hlt HB.out HE.out]; rfl
      | true =>
        rw [he] at HPk
        have HE := Lib.hid he
        clear he
        go_wp2_with (go_at_call 115; refine HPk.out.mono ?_; rintro e w' ⟨rfl, rfl⟩)
        go_round
        case rel => exact ⟨k + 1, by omega, by go_num, fun j hj => by
          by_cases h : j < k
          · exact HB.out j h
          · obtain rfl : j = k := by omega
            exact HE.out⟩
        case measure => simp [intOf]; omega
    · go_wp2
      go_ret
      obtain rfl : k = xs.length := by omega
      refine ⟨?_, rfl⟩
      rw [firstBad_miss HB.out]; rfl

theorem containsf114 {w : World} {L : HLoc} {h : HeapS} {os : List Nat} (ha : HeapAt w L h) (wf : WF h os) (Bn : Nat) (hB : w.cell? ⟨Bn, 0, none⟩ = some (.pointer (some ⟨L.b, 0, none⟩))) :
    Calls Tryz.prog 114 #[.slice (some ⟨L.gr, 0, none⟩) h.roots.length L.cr, .func (.func 115) #[] #[.pointer (some ⟨Bn, 0, none⟩)]] w fun e w' => e = .returned (.bool (!h.roots.all (valueOK os))) ∧ w = w' := by
  have HI := Lib.hid (sindexf152s ha wf Bn hB)
  have HG := Lib.hid (firstBad_ge os h.roots)
  generalize firstBad os h.roots = z at *
  generalize h.roots.all (valueOK os) = y at *
  clear ha wf hB
  go_enter Tryz.func114, Tryz.ntmps114
  go_wp2_with (go_at_call 152; refine HI.out.mono ?_; rintro e w' ⟨rfl, rfl⟩)
  go_ret
  rw [HG.out]
  exact ⟨rfl, rfl⟩

end Go.Proofs.Eff

/- What a collection makes of a heap is a heap: plain laws. -/
namespace Go.Proofs.Eff
open Go.RowKit

/-! ### What is reached is closed -/
theorem mem_putOne_self (m : List Int) (x : Int) : x ∈ putOne m x := by
  unfold putOne; split
  · rename_i h; simpa using h
  · simp
theorem bfs_mono {ws : List Int} : ∀ (n : Nat) (met : List Int) (at_ : Nat) (x : Int), x ∈ met → x ∈ bfs ws n met at_ := by
  intro n
  induction n with
  | zero => intro met at_ x hx; exact hx
  | succ n ih =>
    intro met at_ x hx
    rw [bfs]
    split
    · exact ih _ _ _ (putAll_mem.2 (.inl hx))
    · exact hx
theorem putAll_get {m l : List Int} {i : Nat} (hi : i < m.length) : wd (putAll m l) i = wd m i ∧ m.length ≤ (putAll m l).length := by
  induction l generalizing m with
  | nil => exact ⟨rfl, Nat.le_refl _⟩
  | cons x l ih =>
    have h1 : m.length ≤ (putOne m x).length := by unfold putOne; split <;> simp
    have h2 : wd (putOne m x) i = wd m i := by
      unfold putOne; split
      · rfl
      · exact wd_append_left hi
    have := ih (m := putOne m x) (by omega)
    exact ⟨this.1.trans h2, Nat.le_trans h1 this.2⟩
theorem bfs_closed {h : HeapS} {os : List Nat} (wf : WF h os) (hso : Sound h os) : ∀ (n : Nat) (met : List Int) (at_ : Nat), met.Nodup → (∀ x, x ∈ met → isO os x = true ∧ 0 ≤ x ∧ x < 4294967296) → at_ ≤ met.length → os.length + 1 ≤ at_ + n →
    (∀ i, i < at_ → ∀ y, y ∈ namesAt h.words (wd met i / 2).toNat true → y ∈ met) →
    ∀ x, x ∈ bfs h.words n met at_ → ∀ y, y ∈ namesAt h.words (x / 2).toNat true → y ∈ bfs h.words n met at_ := by
  intro n
  induction n with
  | zero =>
    intro met at_ h1 h2 h3 h4 _
    have := met_le h1 (fun x hx => (h2 x hx).1) (fun x hx => (h2 x hx).2.1)
    omega
  | succ n ih =>
    intro met at_ h1 h2 h3 h4 h5
    rw [bfs]
    split
    · rename_i hlt
      have hm : wd met at_ ∈ met := by simp [wd, hlt]
      refine ih _ _ (putAll_nodup h1) ?_ ?_ (by omega) ?_
      · intro x hx
        rcases putAll_mem.1 hx with h6 | h6
        · exact h2 x h6
        · exact ⟨hso.names (wf.isO_lt (h2 _ hm).1).2 true x h6, names_rng wf x h6⟩
      · have := (putAll_get (l := namesAt h.words (wd met at_ / 2).toNat true) hlt).2; omega
      · intro i hi y hy
        by_cases h6 : i < at_
        · rw [(putAll_get (by omega)).1] at hy
          exact putAll_mem.2 (.inl (h5 i h6 y hy))
        · obtain rfl : i = at_ := by omega
          rw [(putAll_get hlt).1] at hy
          exact putAll_mem.2 (.inr hy)
    · rename_i hlt
      obtain rfl : at_ = met.length := by omega
      intro x hx y hy
      obtain ⟨i, hi, rfl⟩ := List.getElem_of_mem hx
      exact h5 i hi y (by simpa [wd, hi] using hy)
theorem live_mem {h : HeapS} {os : List Nat} {x : Int} : x ∈ liveOf h os ↔ x ∈ reach h.words os.length (h.roots.filter isObj) := (List.mergeSort_perm _ _).mem_iff
theorem live_closed {h : HeapS} {os : List Nat} (wf : WF h os) (hso : Sound h os) {x y : Int} (hx : x ∈ liveOf h os) (hy : y ∈ namesAt h.words (x / 2).toNat true) : y ∈ liveOf h os := by
  rw [live_mem] at *
  refine bfs_closed wf hso (os.length + 1) (putAll [] (h.roots.filter isObj)) 0 (putAll_nodup (by simp)) ?_ (Nat.zero_le _) (by omega) (by omega) x hx y hy
  intro z hz
  rcases putAll_mem.1 hz with h2 | h2
  · cases h2
  · exact roots_valid wf hso z h2
theorem live_roots {h : HeapS} {os : List Nat} {x : Int} (hx : x ∈ h.roots) (ho : isObj x = true) : x ∈ liveOf h os := by
  rw [live_mem]
  exact bfs_mono _ _ _ _ (putAll_mem.2 (.inr (List.mem_filter.2 ⟨hx, ho⟩)))

/-! ### The plan -/
def addrs (ws : List Int) : Nat → List Int → List Nat
  | _, [] => []
  | a, o :: l => a :: addrs ws (a + objLen ws (o / 2).toNat) l
theorem plan_addrs (ws : List Int) : ∀ (l : List Int) (a : Nat), (planFrom ws a l).map (fun p => (p.2 / 2).toNat) = addrs ws a l := by
  intro l
  induction l with
  | nil => intro a; rfl
  | cons o l ih => intro a; simp only [planFrom, addrs, List.map_cons, ih]; congr 1; omega
theorem plan_fst (ws : List Int) : ∀ (l : List Int) (a : Nat), (planFrom ws a l).map (·.1) = l := by
  intro l
  induction l with
  | nil => intro a; rfl
  | cons o l ih => intro a; simp [planFrom, ih]
theorem goes_mem {pl : List (Int × Int)} {o t : Int} (h : goesTo pl o = some t) : (o, t) ∈ pl := by
  induction pl with
  | nil => cases h
  | cons p l ih =>
    simp only [goesTo] at h
    split at h
    · rename_i he; cases h; simp [← he]
    · exact List.mem_cons_of_mem _ (ih h)
theorem goes_some {pl : List (Int × Int)} {o : Int} (h : o ∈ pl.map (·.1)) : ∃ t, goesTo pl o = some t := by
  induction pl with
  | nil => cases h
  | cons p l ih =>
    simp only [goesTo]
    split
    · exact ⟨_, rfl⟩
    · rename_i he
      rcases List.mem_cons.1 h with h1 | h1
      · exact absurd h1.symm he
      · exact ih h1
theorem mem_addrs_of_plan {ws : List Int} {l : List Int} {a : Nat} {p : Int × Int} (h : p ∈ planFrom ws a l) : (p.2 / 2).toNat ∈ addrs ws a l := by
  rw [← plan_addrs]; exact List.mem_map.2 ⟨p, h, rfl⟩
theorem plan_snd {ws : List Int} : ∀ {l : List Int} {a : Nat} {p : Int × Int}, p ∈ planFrom ws a l → ∃ b : Nat, p.2 = 2 * (b : Int) ∧ a ≤ b := by
  intro l
  induction l with
  | nil => intro a p h; cases h
  | cons o l ih =>
    intro a p h
    rcases List.mem_cons.1 h with rfl | h
    · exact ⟨a, rfl, Nat.le_refl _⟩
    · obtain ⟨b, h1, h2⟩ := ih h; exact ⟨b, h1, by omega⟩

/-! ### The words -/
def layL (ws : List Int) (pl : List (Int × Int)) (V : Int) (l : List Int) : List Int := l.flatMap fun o => layAll ws pl V (o / 2).toNat
theorem layAll_length (ws : List Int) (pl : List (Int × Int)) (V : Int) (a : Nat) : (layAll ws pl V a).length = objLen ws a := by
  unfold layAll; rw [layPart_length]; rfl
theorem layL_length (ws : List Int) (pl : List (Int × Int)) (V : Int) : ∀ (l : List Int) (a : Nat), a + (layL ws pl V l).length = endAt ws a l := by
  intro l
  induction l with
  | nil => intro a; rfl
  | cons o l ih =>
    intro a
    simp only [layL, List.flatMap_cons, List.length_append, layAll_length, endAt] at *
    rw [← ih]; omega
theorem wd_layAll0 (ws : List Int) (pl : List (Int × Int)) (V : Int) (a : Nat) : wd (layAll ws pl V a) 0 = wd ws a := rfl
theorem wd_layAll1 (ws : List Int) (pl : List (Int × Int)) (V : Int) (a : Nat) : wd (layAll ws pl V a) 1 = whereV pl (wd ws (a + 1)) := rfl
theorem wd_layAll2 (ws : List Int) (pl : List (Int × Int)) (V : Int) (a : Nat) : wd (layAll ws pl V a) 2 = wd ws (a + 2) := rfl
theorem wd_layAll3 (ws : List Int) (pl : List (Int × Int)) (V : Int) (a j : Nat) (hj : j < sizeAt ws a) : wd (layAll ws pl V a) (3 + j) = layOne pl V (ptrF (hdrAt ws a).fmt) (wd ws (a + 3 + j)) := by
  unfold layAll layPart
  rw [wd_append_right (by simp)]
  simp only [List.length_cons, List.length_nil, Nat.zero_add, Nat.reduceAdd, Nat.add_sub_cancel_left]
  simp [wd, fieldsW, hj]

/-- A piece lies at a place of words. -/
def LiesAt (ws : List Int) (a : Nat) (xs : List Int) : Prop := a + xs.length ≤ ws.length ∧ ∀ j, j < xs.length → wd ws (a + j) = wd xs j
theorem lies_mid (P xs Q : List Int) : LiesAt (P ++ xs ++ Q) P.length xs := by
  refine ⟨by simp, fun j hj => ?_⟩
  rw [wd_append_left (by simp; omega), wd_append_right (by omega)]
  congr 1; omega
theorem plan_lies (ws : List Int) (pl : List (Int × Int)) (V : Int) : ∀ (l : List Int) (P : List Int) (p : Int × Int), p ∈ planFrom ws P.length l → LiesAt (P ++ layL ws pl V l) (p.2 / 2).toNat (layAll ws pl V (p.1 / 2).toNat) := by
  intro l
  induction l with
  | nil => intro P p h; cases h
  | cons o l ih =>
    intro P p h
    have e : P ++ layL ws pl V (o :: l) = P ++ layAll ws pl V (o / 2).toNat ++ layL ws pl V l := by simp [layL]
    rcases List.mem_cons.1 h with rfl | h
    · rw [e]
      have : (2 * (P.length : Int) / 2).toNat = P.length := by omega
      rw [this]; exact lies_mid _ _ _
    · have := ih (P ++ layAll ws pl V (o / 2).toNat) p (by rw [List.length_append, layAll_length]; exact h)
      rw [e]; exact this
theorem laid_lay {h : HeapS} {os : List Nat} (wf : WF h os) (pl : List (Int × Int)) (V : Int) : ∀ (l : List Int) (P : List Int), (∀ o, o ∈ l → (o / 2).toNat ∈ os) → Laid (P ++ layL h.words pl V l) P.length (addrs h.words P.length l) := by
  intro l
  induction l with
  | nil => intro P _; simp [layL, addrs, Laid]
  | cons o l ih =>
    intro P hv
    have e : P ++ layL h.words pl V (o :: l) = P ++ layAll h.words pl V (o / 2).toNat ++ layL h.words pl V l := by simp [layL]
    have hL := lies_mid P (layAll h.words pl V (o / 2).toNat) (layL h.words pl V l)
    have hm := wf.mem (hv o (by simp))
    have hlen := layAll_length h.words pl V (o / 2).toNat
    have h0 := hL.2 0 (by rw [hlen]; unfold objLen; omega)
    rw [Nat.add_zero, wd_layAll0] at h0
    have hsz : sizeAt (P ++ layAll h.words pl V (o / 2).toNat ++ layL h.words pl V l) P.length = sizeAt h.words (o / 2).toNat := by unfold sizeAt; rw [h0]
    rw [e]
    refine ⟨rfl, ?_, by rw [h0]; exact hm.2.2, ?_⟩
    · rw [hsz]; have := hL.1; rw [hlen] at this; unfold objLen at this; omega
    · have := ih (P ++ layAll h.words pl V (o / 2).toNat) (fun x hx => hv x (List.mem_cons_of_mem _ hx))
      rw [List.length_append, hlen] at this
      rw [hsz]
      have e2 : P.length + 3 + sizeAt h.words (o / 2).toNat = P.length + objLen h.words (o / 2).toNat := by unfold objLen; omega
      rw [e2]; exact this

/-! ### The collected heap -/
def rootsC (h : HeapS) (os : List Nat) : List Int := h.roots.map (whereV (planOf h os))
def voidC (h : HeapS) (os : List Nat) : Int := wd (rootsC h os) 0
def wordsC (h : HeapS) (os : List Nat) : List Int := [0] ++ layL h.words (planOf h os) (voidC h os) (liveOf h os)
def osC (h : HeapS) (os : List Nat) : List Nat := addrs h.words 1 (liveOf h os)
def collectH (h : HeapS) (os : List Nat) : HeapS := ⟨wordsC h os, marks (wordsC h os).length (osC h os), rootsC h os, h.size, h.last⟩

section
variable {h : HeapS} {os : List Nat}
theorem wordsC_length (h : HeapS) (os : List Nat) : (wordsC h os).length = endAt h.words 1 (liveOf h os) := by
  unfold wordsC
  rw [List.length_append, ← layL_length h.words (planOf h os) (voidC h os) (liveOf h os) 1]; rfl
theorem wordsC_le (wf : WF h os) (hso : Sound h os) : (wordsC h os).length ≤ h.words.length := by
  rw [wordsC_length]
  have hv := live_valid wf hso
  exact endAt_le wf hv.1 hv.2.1
theorem live_os (wf : WF h os) (hso : Sound h os) {o : Int} (ho : o ∈ liveOf h os) : (o / 2).toNat ∈ os := (wf.isO_lt ((live_valid wf hso).2.1 o ho).1).2
theorem laidC (wf : WF h os) (hso : Sound h os) : Laid (wordsC h os) 1 (osC h os) := laid_lay wf (planOf h os) (voidC h os) (liveOf h os) [0] (fun _ ho => live_os wf hso ho)
theorem planC_lies {p : Int × Int} (hp : p ∈ planOf h os) : LiesAt (wordsC h os) (p.2 / 2).toNat (layAll h.words (planOf h os) (voidC h os) (p.1 / 2).toNat) := plan_lies h.words (planOf h os) (voidC h os) (liveOf h os) [0] p hp
/-- A live object's new place. -/
theorem goes_live {o : Int} (ho : o ∈ liveOf h os) : ∃ b : Nat, goesTo (planOf h os) o = some (2 * (b : Int)) ∧ b ∈ osC h os ∧ (o, 2 * (b : Int)) ∈ planOf h os ∧ 1 ≤ b := by
  obtain ⟨t, ht⟩ := goes_some (pl := planOf h os) (o := o) (by unfold planOf; rw [plan_fst]; exact ho)
  have hm := goes_mem ht
  obtain ⟨b, hb, hb1⟩ := plan_snd hm
  simp only at hb
  subst hb
  refine ⟨b, ht, ?_, hm, hb1⟩
  have := mem_addrs_of_plan hm
  unfold osC
  simpa using this
theorem mem_osC {a : Nat} (ha : a ∈ osC h os) : ∃ o, o ∈ liveOf h os ∧ (o, 2 * (a : Int)) ∈ planOf h os := by
  unfold osC at ha
  rw [← plan_addrs] at ha
  obtain ⟨p, hp, rfl⟩ := List.mem_map.1 ha
  obtain ⟨b, hb, _⟩ := plan_snd hp
  refine ⟨p.1, ?_, ?_⟩
  · have := plan_fst h.words (liveOf h os) 1
    rw [← this]; exact List.mem_map.2 ⟨p, hp, rfl⟩
  · have : (2 * (((p.2 / 2).toNat : Nat) : Int)) = p.2 := by omega
    rw [this]; exact hp
theorem osC_bound (wf : WF h os) (hso : Sound h os) {b : Nat} (hb : b ∈ osC h os) : b < 1048576 := by
  have h1 := (laidC wf hso).mem b hb
  have h2 := wordsC_le wf hso
  have h3 := wf.big
  omega
theorem whereV_ok (_wf : WF h os) (_hso : Sound h os) {o : Int} (ho : isObj o = true → o ∈ liveOf h os) : valueOK (osC h os) (whereV (planOf h os) o) = true ∧ whereB (planOf h os) o = true ∧ (isObj o = true → isO (osC h os) (whereV (planOf h os) o) = true) := by
  cases hobj : isObj o with
  | false => simp [whereV, whereB, hobj, valueOK]
  | true =>
    obtain ⟨b, hb, hm, _, h1⟩ := goes_live (ho hobj)
    have e : (2 * (b : Int) / 2).toNat = b := by omega
    have hob : isObj (2 * (b : Int)) = true := by simp [isObj]; omega
    refine ⟨?_, ?_, fun _ => ?_⟩
    · simp only [whereV, hobj, if_true, hb, Option.getD_some, valueOK, e]; simp [hm]
    · simp [whereB, hobj, hb]
    · simp only [whereV, hobj, if_true, hb, Option.getD_some, isO, hob, e]; simp [hm]
theorem whereV_rng (wf : WF h os) (hso : Sound h os) {o : Int} (h0 : 0 ≤ o) (h1 : o < 4294967296) : 0 ≤ whereV (planOf h os) o ∧ whereV (planOf h os) o < 4294967296 := by
  unfold whereV
  split
  · cases hg : goesTo (planOf h os) o with
    | none => simp
    | some t =>
      have hm := goes_mem hg
      obtain ⟨b, hb, _⟩ := plan_snd hm
      have h2 := mem_addrs_of_plan hm
      have := osC_bound wf hso h2
      simp only at hb this
      simp only [Option.getD_some]
      omega
  · exact ⟨h0, h1⟩
theorem rootsC_len (wf : WF h os) : (rootsC h os).length = 64 := by unfold rootsC; rw [List.length_map]; exact wf.rlen
theorem rootsC_rng (wf : WF h os) (hso : Sound h os) : ∀ x, x ∈ rootsC h os → 0 ≤ x ∧ x < 4294967296 := by
  intro x hx
  obtain ⟨o, ho, rfl⟩ := List.mem_map.1 hx
  have := wf.rrng o ho
  exact whereV_rng wf hso this.1 this.2
theorem voidC_mem (wf : WF h os) : voidC h os ∈ rootsC h os := by
  have := rootsC_len wf
  simp [voidC, wd, show 0 < (rootsC h os).length by omega]
theorem rootsC_ok (wf : WF h os) (hso : Sound h os) : ∀ x, x ∈ rootsC h os → valueOK (osC h os) x = true := by
  intro x hx
  obtain ⟨o, ho, rfl⟩ := List.mem_map.1 hx
  exact (whereV_ok wf hso (fun hob => live_roots ho hob)).1
theorem layOne_rng (wf : WF h os) (hso : Sound h os) (p : Bool) {x : Int} (h0 : 0 ≤ x) (h1 : x < 4294967296) : 0 ≤ layOne (planOf h os) (voidC h os) p x ∧ layOne (planOf h os) (voidC h os) p x < 4294967296 := by
  unfold layOne
  split
  · split
    · exact whereV_rng wf hso h0 h1
    · exact rootsC_rng wf hso _ (voidC_mem wf)
  · exact ⟨h0, h1⟩
theorem wordsC_rng (wf : WF h os) (hso : Sound h os) : ∀ x, x ∈ wordsC h os → 0 ≤ x ∧ x < 4294967296 := by
  intro x hx
  unfold wordsC layL at hx
  rcases List.mem_append.1 hx with hx | hx
  · simp at hx; omega
  · obtain ⟨o, ho, hx⟩ := List.mem_flatMap.1 hx
    unfold layAll layPart at hx
    rcases List.mem_append.1 hx with hx | hx
    · simp only [List.mem_cons, List.not_mem_nil, or_false] at hx
      rcases hx with rfl | rfl | rfl
      · exact wf.word _
      · exact whereV_rng wf hso (wf.word _).1 (wf.word _).2
      · exact wf.word _
    · obtain ⟨y, hy, rfl⟩ := List.mem_map.1 hx
      obtain ⟨i, _, rfl⟩ := List.mem_map.1 hy
      exact layOne_rng wf hso _ (wf.word _).1 (wf.word _).2
theorem wordsC_zero (h : HeapS) (os : List Nat) : wd (wordsC h os) 0 = 0 := rfl
theorem collect_wf (wf : WF h os) (hso : Sound h os) : WF (collectH h os) (osC h os) := by
  refine ⟨?_, rfl, wordsC_rng wf hso, laidC wf hso, rfl, rootsC_len wf, rootsC_rng wf hso, wf.size0, wf.size1, ?_, wf.last0, wf.last1⟩
  · show 0 < (wordsC h os).length; simp [wordsC]
  · have h1 := wordsC_le wf hso
    have h2 := wf.fits
    show ((wordsC h os).length : Int) ≤ h.size
    omega

/-- What lies at a live object's new place. -/
theorem hdrC {o : Int} {a : Nat} (hp : (o, 2 * (a : Int)) ∈ planOf h os) :
    hdrAt (wordsC h os) a = { hdrAt h.words (o / 2).toNat with cls := whereV (planOf h os) (hdrAt h.words (o / 2).toNat).cls } ∧
    sizeAt (wordsC h os) a = sizeAt h.words (o / 2).toNat ∧
    fieldsAt (wordsC h os) a = (fieldsW h.words (o / 2).toNat (sizeAt h.words (o / 2).toNat)).map (layOne (planOf h os) (voidC h os) (ptrF (hdrAt h.words (o / 2).toNat).fmt)) := by
  have hL := planC_lies hp
  have ea : (2 * (a : Int) / 2).toNat = a := by omega
  simp only [ea] at hL
  have hlen := layAll_length h.words (planOf h os) (voidC h os) (o / 2).toNat
  have hl := hL.1
  rw [hlen] at hl
  have h0 := hL.2 0 (by rw [hlen]; unfold objLen; omega)
  have h1 := hL.2 1 (by rw [hlen]; unfold objLen; omega)
  have h2 := hL.2 2 (by rw [hlen]; unfold objLen; omega)
  rw [Nat.add_zero, wd_layAll0] at h0
  rw [wd_layAll1] at h1
  rw [wd_layAll2] at h2
  have hs : sizeAt (wordsC h os) a = sizeAt h.words (o / 2).toNat := by unfold sizeAt; rw [h0]
  refine ⟨by simp only [hdrAt, hdrOf, h0, h1, h2], hs, ?_⟩
  apply List.ext_getElem
  · rw [fieldsAt_length (by rw [hs]; unfold objLen at hl; omega), hs]; simp [fieldsW]
  · intro j hj1 hj2
    have hj : j < sizeAt h.words (o / 2).toNat := by simpa [fieldsW] using hj2
    have e1 : (fieldsAt (wordsC h os) a)[j] = wd (fieldsAt (wordsC h os) a) j := by simp [wd, hj1]
    rw [e1, fieldsAt_wd (by rw [hs]; exact hj)]
    have := hL.2 (3 + j) (by rw [hlen]; unfold objLen; omega)
    rw [wd_layAll3 _ _ _ _ _ hj, ← Nat.add_assoc] at this
    rw [this]
    simp [fieldsW]
theorem fieldsW_eq {ws : List Int} {a : Nat} (hf : a + 3 + sizeAt ws a ≤ ws.length) : fieldsW ws a (sizeAt ws a) = fieldsAt ws a := by
  apply List.ext_getElem
  · rw [fieldsAt_length hf]; simp [fieldsW]
  · intro j h1 h2
    have hj : j < sizeAt ws a := by simpa [fieldsW] using h1
    have e1 : (fieldsAt ws a)[j] = wd (fieldsAt ws a) j := by simp [wd, h2]
    rw [e1, fieldsAt_wd hj]; simp [fieldsW]
theorem names_field {ws : List Int} {a : Nat} {x : Int} (hf : (hdrAt ws a).fmt = 1) (hx : x ∈ fieldsAt ws a) (ho : isObj x = true) : x ∈ namesAt ws a true := by
  unfold namesAt oopsAt
  rw [List.mem_filter]
  exact ⟨by simp [hf, hx], ho⟩
theorem names_cls {ws : List Int} {a : Nat} (ho : isObj (hdrAt ws a).cls = true) : (hdrAt ws a).cls ∈ namesAt ws a true := by
  unfold namesAt oopsAt
  rw [List.mem_filter]
  exact ⟨by simp, ho⟩
theorem nodup_map_inj {α β : Type} {f : α → β} {l : List α} (hn : l.Nodup) (hi : ∀ x, x ∈ l → ∀ y, y ∈ l → f x = f y → x = y) : (l.map f).Nodup := by
  rw [List.nodup_iff_pairwise_ne] at *
  rw [List.pairwise_map]
  exact hn.imp_of_mem (fun {a b} ha hb hab he => hab (hi a ha b hb he))
theorem inj_of_nodup_map {α β : Type} {f : α → β} {l : List α} (hn : (l.map f).Nodup) {x y : α} (hx : x ∈ l) (hy : y ∈ l) (he : f x = f y) : x = y := by
  induction l with
  | nil => cases hx
  | cons z l ih =>
    rw [List.map_cons, List.nodup_cons] at hn
    rcases List.mem_cons.1 hx with e1 | hx' <;> rcases List.mem_cons.1 hy with e2 | hy'
    · rw [e1, e2]
    · rw [e1] at he; exact absurd (List.mem_map.2 ⟨y, hy', he.symm⟩) hn.1
    · rw [e2] at he; exact absurd (List.mem_map.2 ⟨x, hx', he⟩) hn.1
    · exact ih hn.2 hx' hy'
/-- The serials of what is left, in order. -/
theorem serC (_wf : WF h os) (_hso : Sound h os) : (osC h os).map (fun a => (hdrAt (wordsC h os) a).ser) = (liveOf h os).map (fun o => (hdrAt h.words (o / 2).toNat).ser) := by
  have e1 : osC h os = (planOf h os).map (fun p => (p.2 / 2).toNat) := by unfold osC planOf; rw [plan_addrs]
  have e2 : liveOf h os = (planOf h os).map (·.1) := by unfold planOf; rw [plan_fst]
  rw [e1, List.map_map]
  conv => rhs; rw [e2, List.map_map]
  apply List.map_congr_left
  intro p hp
  obtain ⟨b, hb, _⟩ := plan_snd hp
  have hp' : (p.1, 2 * (b : Int)) ∈ planOf h os := by rw [← hb]; exact hp
  have := (hdrC hp').1
  simp only [Function.comp]
  rw [show (p.2 / 2).toNat = b by omega, this]

theorem collect_sound (wf : WF h os) (hso : Sound h os) : Sound (collectH h os) (osC h os) := by
  have key : ∀ a, a ∈ osC h os → ∃ o, o ∈ liveOf h os ∧ (o / 2).toNat ∈ os ∧ (o, 2 * (a : Int)) ∈ planOf h os := by
    intro a ha
    obtain ⟨o, ho, hp⟩ := mem_osC ha
    exact ⟨o, ho, live_os wf hso ho, hp⟩
  refine ⟨?_, ?_, ?_, ?_, ?_, ?_, rootsC_ok wf hso⟩
  · intro a ha
    obtain ⟨o, ho, hoo, hp⟩ := key a ha
    show classOK (osC h os) (hdrAt (wordsC h os) a).cls = true
    rw [(hdrC hp).1]
    have hc := hso.cls _ hoo
    simp only [classOK, Bool.or_eq_true, beq_iff_eq] at hc ⊢
    rcases hc with hc | hc
    · left; rw [hc]; simp [whereV, isObj]
    · right
      have hobj := (wf.isO_lt hc).1
      exact (whereV_ok wf hso (fun _ => live_closed wf hso ho (names_cls hobj))).2.2 hobj
  · intro a ha
    obtain ⟨o, ho, hoo, hp⟩ := key a ha
    show 0 < (hdrAt (wordsC h os) a).ser
    rw [(hdrC hp).1]; exact hso.ser0 _ hoo
  · intro a ha
    obtain ⟨o, ho, hoo, hp⟩ := key a ha
    show (hdrAt (wordsC h os) a).ser ≤ h.last
    rw [(hdrC hp).1]; exact hso.ser1 _ hoo
  · show ((osC h os).map (fun a => (hdrAt (wordsC h os) a).ser)).Nodup
    rw [serC wf hso]
    refine nodup_map_inj (live_valid wf hso).1 ?_
    intro x hx y hy he
    have := inj_of_nodup_map hso.uniq (live_os wf hso hx) (live_os wf hso hy) he
    have h1 := (live_valid wf hso).2.1 x hx
    have h2 := (live_valid wf hso).2.1 y hy
    simp [isO, isObj] at h1 h2
    omega
  · intro a ha hf x hx
    obtain ⟨o, ho, hoo, hp⟩ := key a ha
    have hc := hdrC hp
    have hf : (hdrAt (wordsC h os) a).fmt = 1 ∨ (hdrAt (wordsC h os) a).fmt = 4 := hf
    have hx : x ∈ fieldsAt (wordsC h os) a := hx
    show valueOK (osC h os) x = true
    rw [hc.1] at hf
    simp only at hf
    rw [hc.2.2, fieldsW_eq (wf.mem hoo).2.1] at hx
    obtain ⟨y, hy, rfl⟩ := List.mem_map.1 hx
    have hpt : ptrF (hdrAt h.words (o / 2).toNat).fmt = true := by rcases hf with hf | hf <;> simp [ptrF, hf]
    rw [hpt]
    unfold layOne
    rw [if_pos rfl]
    split
    · rename_i hwb
      cases hobj : isObj y with
      | false => simp [whereV, hobj, valueOK]
      | true =>
        simp only [whereB, hobj, if_true] at hwb
        obtain ⟨t, ht⟩ := Option.isSome_iff_exists.1 hwb
        have hm := goes_mem ht
        refine (whereV_ok wf hso (fun _ => ?_)).1
        have := plan_fst h.words (liveOf h os) 1
        rw [← this]; exact List.mem_map.2 ⟨_, hm, rfl⟩
    · exact rootsC_ok wf hso _ (voidC_mem wf)
  · intro a ha hf
    obtain ⟨o, ho, hoo, hp⟩ := key a ha
    have hc := hdrC hp
    have hf : (hdrAt (wordsC h os) a).fmt = 2 := hf
    show spareOK (wordsC h os) a = true
    have hfo : (hdrAt h.words (o / 2).toNat).fmt = 2 := by rw [hc.1] at hf; exact hf
    have hs := hso.spare _ hoo hfo
    unfold spareOK at *
    have hnp : ptrF (hdrAt h.words (o / 2).toNat).fmt = false := by simp [ptrF, hfo]
    have e : fieldsAt (wordsC h os) a = fieldsAt h.words (o / 2).toNat := by
      rw [hc.2.2, hnp, fieldsW_eq (wf.mem hoo).2.1]
      conv => rhs; rw [← List.map_id (fieldsAt h.words (o / 2).toNat)]
      apply List.map_congr_left; intro x _; simp [layOne]
    rw [e, hc.1]; exact hs
end

end Go.Proofs.Eff

/- heap.sound. -/
namespace Go.Proofs.Eff
open Go.RowKit

/-- The serials that were met, each once. -/
def serA (ws : List Int) (pre : List Nat) : AList := pre.map fun a => (serAt ws a, .int .i64 1)
theorem aget_serA (ws : List Int) (pre : List Nat) (s : Int) : aget (serA ws pre) s = if (pre.map (serAt ws)).contains s then some (.int .i64 1) else none := by
  induction pre with
  | nil => rfl
  | cons a l ih =>
    simp only [serA, List.map_cons, aget] at *
    by_cases h : serAt ws a = s
    · simp [h]
    · have h' : ¬ s = serAt ws a := fun e => h e.symm
      simp [h, h', ih]
theorem aget_aput_same (l : AList) (k : Int) (v : Value) : aget (aput l k v) k = some v := by
  induction l with
  | nil => simp [aput, aget]
  | cons p l ih =>
    obtain ⟨a, b⟩ := p
    by_cases h : a = k <;> simp [aput, aget, h, ih]
theorem aput_serA {ws : List Int} {pre : List Nat} {a : Nat} (h : (pre.map (serAt ws)).contains (serAt ws a) = false) : aput (serA ws pre) (serAt ws a) (.int .i64 1) = serA ws (pre ++ [a]) := by
  induction pre with
  | nil => rfl
  | cons b l ih =>
    simp only [List.map_cons, List.contains_cons, Bool.or_eq_false_iff, beq_eq_false_iff_ne] at h
    have := ih h.2
    simp only [serA, List.map_cons, aput, List.cons_append] at *
    have h' : ¬ serAt ws b = serAt ws a := fun e => h.1 e.symm
    simp [h', this]

/-- Between two objects. -/
structure SndInv (w : World) (L : HLoc) (h : HeapS) (os : List Nat) (pre rest : List Nat) (Bn mb : Nat) (wr : World) : Prop where
  ext : Ext w wr
  map : MapAt wr mb .u32 (serA h.words pre)
  mbase : w.heap.size ≤ mb
  box : wr.heap[Bn]? = some (.cells #[.pointer (some ⟨L.b, 0, none⟩)] 27)
  sb : soundB h os = (okAll h os pre rest && h.roots.all (valueOK os))

set_option maxRecDepth 100000 in
set_option maxHeartbeats 4000000 in
theorem sound51 {w : World} {L : HLoc} {h : HeapS} {os : List Nat} (ha : HeapAt w L h) (wf : WF h os) (hs : Spares w) :
    Calls Tryz.prog 51 #[.pointer (some ⟨L.b, 0, none⟩)] w fun e w' => e = .returned (.bool (soundB h os)) ∧ Ext w w' := by
  have hp := hs.pos
  have hmm := @run_makeMap Tryz.prog
  have HF := Lib.hid (fun W (hE : Ext w W) => first_any (ha.keep hE) wf)
  have HFO := Lib.hid wf.laid.first
  have HNX := Lib.hid (fun pre x rest he hx => wf.laid.next (pre := pre) (x := x) (rest := rest) he hx)
  have HA := Lib.hid ha
  have HW := Lib.hid wf
  have HS := Lib.hid hs
  clear ha wf hs
  go_enter Tryz.func51, Tryz.ntmps51
  go_wp2_with (go_at_call 109; refine (HF.out _ (((Ext.refl _).alloc _).alloc _)).mono ?_; rintro e W ⟨rfl, rfl⟩; rw [HFO.out])
  have I0 : Hid (SndInv w L h os [] os w.heap.size (w.heap.size + 1) ((w.alloc (.cells #[.pointer (some ⟨L.b, 0, none⟩)] 27)).alloc (.map #[] 0))) := ⟨((Ext.refl _).alloc _).alloc _, MapAt.new _ _ (by simp) _, by omega, keepB (newB _ _ _ rfl) _, rfl⟩
  generalize ((w.alloc (.cells #[.pointer (some ⟨L.b, 0, none⟩)] 27)).alloc (.map #[] 0)) = W at *
  obtain ⟨Bn, hBn⟩ : ∃ n, n = w.heap.size := ⟨_, rfl⟩
  obtain ⟨mb, hmb⟩ : ∃ n, n = w.heap.size + 1 := ⟨_, rfl⟩
  rw [← hmb, ← hBn] at I0 ⊢
  clear hBn hmb
  go_loopw [4] (fun o wr => ∃ (pre rest : List Nat) (z : Int), os = pre ++ rest ∧ o = .int .u32 z ∧ z = firstO rest ∧ SndInv w L h os pre rest Bn mb wr) (fun o wr => allLeft h.words.length o)
  case atStart => exact ⟨[], os, _, rfl, rfl, rfl, I0.out⟩
  case round =>
    obtain ⟨pre, rest, z, hx, rfl, hz, hI⟩ := hrel
    have HX := Lib.hid hx
    have I1 := Lib.hid hI
    obtain ⟨b1, b2⟩ := blk hI.box
    clear hx hI I0
    cases rest with
    | nil =>
      obtain rfl : z = 0 := hz
      have HCF := Lib.hid (containsf114 (HA.out.keep I1.out.ext) HW.out Bn (b1 0))
      have hSB : soundB h os = h.roots.all (valueOK os) := by have := I1.out.sb; simpa [okAll] using this
      have HSB := Lib.hid hSB
      obtain ⟨d1, d2⟩ := (HA.out.keep I1.out.ext).rules
      generalize h.roots.all (valueOK os) = y at *
      clear hSB
      go_wp2_with (go_at_call 114; refine HCF.out.mono ?_; rintro e W9 ⟨rfl, rfl⟩)
      go_ret
      refine ⟨?_, I1.out.ext⟩
      rw [HSB.out]; simp
    | cons x rest =>
      obtain rfl : z = 2 * (x : Int) := hz
      have hxm : x ∈ os := by rw [HX.out]; simp
      have hm := HW.out.mem hxm
      have hbig := HW.out.big
      have hnx := HNX.out pre x rest HX.out (by omega)
      have hdv : (2 * (x : Int)) / 2 = x := by omega
      have hio : isO os (2 * (x : Int)) = true := by simp [isO, isObj, hdv, hxm]; omega
      have AW := HA.out.keep I1.out.ext
      have SW := HS.out.kept I1.out.ext hp
      have HAT := Lib.hid (fun W => hat_ok (w := W) (.pointer (some ⟨L.b, 0, none⟩)) (2 * (x : Int)) (by omega) (by omega) (HW.out.isO_lt hio).1)
      have HHD := Lib.hid (header_ok AW SW (x : Int) (by omega) (by omega) hbig HW.out.word (by simpa using hm.2.2))
      have HNO := Lib.hid (fun W (hE : Ext w W) => Next_ok (HA.out.keep hE) HW.out (HS.out.kept hE hp) (2 * (x : Int)) (by omega) (by omega) hio)
      have HVA := Lib.hid (fun W (hE : Ext w W) => class_any (HA.out.keep hE) HW.out (clsAt h.words x) (HW.out.word _).1 (HW.out.word _).2)
      rw [hdv] at HAT
      have hne : (2 * (x : Int) != 0) = true := by simp; omega
      simp only [Int.toNat_natCast] at HHD
      have hHd : hdrAt h.words x = ⟨sizeAt h.words x, fmtAt h.words x, spAt h.words x, clsAt h.words x, serAt h.words x⟩ := by
        have := HW.out.word x
        simp [hdrAt, hdrOf, sizeAt, fmtAt, spAt, clsAt, serAt]; omega
      rw [hHd] at HHD
      simp only [Hdr.val, Hdr.cells] at HHD
      clear AW SW hHd
      have hmx := (row_max HA.out.words).1
      have SLF := Lib.hid (fun W => slice_fields W L.gw h.words.length L.cw x (sizeAt h.words x) (by omega))
      have hS : sizeAt h.words x ≤ 65535 := by
        have h1 := (mayB_bounds (HW.out.hdr hxm)).2.1
        have := HW.out.word x
        simp [hdrAt, hdrOf] at h1
        simp [sizeAt]; omega
      have hE1 := I1.out.ext
      go_wp2_with (first | (go_at_call 80; refine (HAT.out _).mono ?_; rintro e w3 ⟨rfl, rfl⟩) | (go_at_call 79; refine HHD.out.mono ?_; rintro e w4 ⟨rfl, hE4⟩; have E4 := Lib.hid (hE1.trans hE4); have B4 := Lib.hid (hE4.keep I1.out.box); have M4 := Lib.hid (I1.out.map.keep hE4); clear hE4))
      have A4 := HA.out.keep E4.out
      obtain ⟨W5, hW5⟩ : ∃ X, X = w4.alloc (.cells #[.int .i64 (sizeAt h.words x : Int), .int .i64 (fmtAt h.words x), .int .i64 (spAt h.words x), .int .u32 (clsAt h.words x), .int .u32 (serAt h.words x)] 65) := ⟨_, rfl⟩
      obtain ⟨hb, hhb⟩ : ∃ n, n = w4.heap.size := ⟨_, rfl⟩
      have X5 : Ext w W5 ∧ HeapAt W5 L h ∧ W5.heap[Bn]? = some (.cells #[.pointer (some ⟨L.b, 0, none⟩)] 27) ∧ MapAt W5 mb .u32 (serA h.words pre) ∧ W5.heap[hb]? = some (.cells #[.int .i64 (sizeAt h.words x : Int), .int .i64 (fmtAt h.words x), .int .i64 (spAt h.words x), .int .u32 (clsAt h.words x), .int .u32 (serAt h.words x)] 65) := by
        subst hW5; subst hhb
        exact ⟨E4.out.alloc _, A4.keep ((Ext.refl _).alloc _), keepB B4.out _, M4.out.keep ((Ext.refl _).alloc _), newB _ _ _ rfl⟩
      rw [← hW5, ← hhb]
      clear hW5 hhb A4 E4 B4 M4 b1 b2 HHD HAT
      obtain ⟨x1, x2, x3, x4, x5⟩ := X5
      have E5 := Lib.hid x1
      have A5 := Lib.hid x2
      have B5 := Lib.hid x3
      have M5 := Lib.hid x4
      have H5 := Lib.hid x5
      obtain ⟨b1, b2⟩ := blk x3
      obtain ⟨c1, c2⟩ := blk x5
      obtain ⟨d1, d2⟩ := x2.rules
      have slf := SLF.out
      clear x1 x2 x3 x4 x5
      go_quiet (fail)
      clear b1 b2 c1 c2 d1 d2 slf
      obtain ⟨W6, hW6⟩ : ∃ X, X = W5.drewN nq := ⟨_, rfl⟩
      rw [← hW6]
      have X56 : Ext W5 W6 := by rw [hW6]; exact (Ext.refl _).drewN _
      clear hW6
      have E6 := Lib.hid (E5.out.trans X56)
      have A6 := Lib.hid (A5.out.keep X56)
      have B6 := Lib.hid (X56.keep B5.out)
      have M6 := Lib.hid (M5.out.keep X56)
      have H6 := Lib.hid (X56.keep H5.out)
      clear E5 A5 B5 M5 H5 X56
      have hv : ∃ v : Int, 0 ≤ v ∧ v ≤ 1 ∧ (aget (serA h.words pre) (serAt h.words x)).getD (.int .i64 0) = .int .i64 v ∧ ((pre.map (serAt h.words)).contains (serAt h.words x) = decide (1 < v + 1)) := by
        rw [aget_serA]
        cases (pre.map (serAt h.words)).contains (serAt h.words x)
        · exact ⟨0, by omega, by omega, rfl, rfl⟩
        · exact ⟨1, by omega, by omega, rfl, rfl⟩
      obtain ⟨v, hv0, hv1, hv2, hv3⟩ := hv
      have hlk := run_lookup_at (P := Tryz.prog) W6 Tryz.underlying219 Tryz.underlying24 M6.out (.int .i64 0) zero3 (serAt h.words x)
      rw [hv2] at hlk
      obtain ⟨W7, hup, hm7, hmod7⟩ := run_mapUpdate_int (P := Tryz.prog) W6 Tryz.underlying219 Tryz.underlying24 M6.out (serAt h.words x) (.int .i64 (v + 1))
      obtain ⟨c1, c2⟩ := blk H6.out
      have hbm : Bn ≠ mb := M6.out.ne_cells B6.out
      have hhm : hb ≠ mb := M6.out.ne_cells H6.out
      have hmL : ∀ y, y ∈ L.blocks → ¬ y ∈ [mb] := by
        have h1 := I1.out.mbase
        intro y hy hy2
        have := HA.out.bl y hy
        simp only [List.mem_singleton] at hy2
        omega
      have E7 := Lib.hid (Mod.ext_of_new E6.out hmod7 I1.out.mbase)
      have A7 := Lib.hid (A6.out.mod hmod7 hmL)
      have B7 := Lib.hid (hmod7.keep B6.out (by simpa using hbm))
      have H7 := Lib.hid (hmod7.keep H6.out (by simpa using hhm))
      have M7 := Lib.hid hm7
      have HV3 := Lib.hid hv3
      clear hv2 hv3 hmL hm7 hmod7
      have HOB : Hid (okObj h os pre x = (serAt h.words x != 0 && decide (serAt h.words x ≤ h.last) && !decide (1 < v + 1) && classOK os (clsAt h.words x) && (fmtAt h.words x != 2 || spareOK h.words x) && (!(ptrF (fmtAt h.words x)) || (fieldsAt h.words x).all (valueOK os)))) := by
        show okObj h os pre x = _
        unfold okObj; rw [HV3.out]
      have HSB : Hid (soundB h os = (okObj h os pre x && okAll h os (pre ++ [x]) rest && h.roots.all (valueOK os))) := I1.out.sb
      have HFR : Hid (∀ W, HeapAt W L h → RRow W ⟨L.gw, sOff 0 L.cw (x + 3), none⟩ (u32s (fieldsAt h.words x))) := fun W ha => fields_read2 ha hm.2.1
      have hfl := fieldsAt_length hm.2.1
      have HFL := Lib.hid hfl
      have HUB : Hid (∀ W, HeapAt W L h → fmtAt h.words x = 2 → Calls Tryz.prog 112 #[.slice (some ⟨L.gw, sOff 0 L.cw (x + 3), none⟩) (sizeAt h.words x) (L.cw - (x + 3)), .int .i64 (spAt h.words x)] W (UBR W (fieldsAt h.words x) (spAt h.words x).toNat)) := by
        intro W ha hf
        have h1 := mayB_bounds (HW.out.hdr hxm)
        have h2 : (hdrAt h.words x).spare = spAt h.words x := rfl
        rw [h2] at h1
        have h3 := HW.out.word x
        have h4 : spAt h.words x ≠ 0 → 0 < sizeAt h.words x := by
          intro hne0
          have := HW.out.hdr hxm
          simp only [mayB, Bool.and_eq_true, Bool.or_eq_true, decide_eq_true_eq, beq_iff_eq] at this
          have h5 := this.2
          have h6 : (hdrAt h.words x).size = sizeAt h.words x := by simp [hdrAt, hdrOf, sizeAt]; omega
          rw [h2, h6] at h5
          rcases h5 with h5 | h5
          · exact absurd h5 hne0
          · omega
        have := UnpackBytes_any L.gw (sOff 0 L.cw (x + 3)) (L.cw - (x + 3)) (fieldsAt h.words x) (spAt h.words x).toNat W (HFR.out W ha) (row_lt ha.words) (fun i => HW.out.fld) (by rw [HFL.out]; exact hS) (by omega) (by rw [HFL.out]; intro; exact h4 (by omega))
        rw [HFL.out, show ((spAt h.words x).toNat : Int) = spAt h.words x by omega] at this
        exact this
      have SPE : Hid (spareOK h.words x = tailZero (fieldsAt h.words x) (spAt h.words x).toNat) := rfl
      have APS : Hid ((pre.map (serAt h.words)).contains (serAt h.words x) = false → v = 0 ∧ aput (serA h.words pre) (serAt h.words x) (.int .i64 (v + 1)) = serA h.words (pre ++ [x])) := by
        intro hc
        have h1 := HV3.out
        rw [hc] at h1
        have : ¬ 1 < v + 1 := by simpa using h1.symm
        obtain rfl : v = 0 := by omega
        exact ⟨rfl, aput_serA hc⟩
      have NXT : Hid (nextO h.words (2 * (x : Int)) = firstO rest ∧ (∀ y, y ∈ rest → x < y)) := hnx
      have HML : Hid (allLeft h.words.length (.int .u32 (nextO h.words (2 * (x : Int)))) < allLeft h.words.length (.int .u32 (2 * (x : Int)))) := by
        refine allLeft_lt h.words.length x _ (by omega) (by omega) ?_
        rw [NXT.out.1]
        cases rest with
        | nil => exact .inl rfl
        | cons y l =>
          have := HW.out.mem (x := y) (by rw [HX.out]; simp)
          exact .inr ⟨y, rfl, NXT.out.2 y (by simp), by omega⟩
      clear hfl hnx
      have hlk7 := run_lookup_at (P := Tryz.prog) W7 Tryz.underlying219 Tryz.underlying24 M7.out (.int .i64 0) zero3 (serAt h.words x)
      clear hlk7
      have hlk7 : ∀ n, (Instr.lookup 219 (.map (some mb)) (.int .u32 (serAt h.words x)) false).run Tryz.prog (W7.drewN n) = .ok (.int .i64 (v + 1)) (W7.drewN n) := by
        intro n
        have := run_lookup_at (P := Tryz.prog) (W7.drewN n) Tryz.underlying219 Tryz.underlying24 (M7.out.keep ((Ext.refl _).drewN n)) (.int .i64 0) zero3 (serAt h.words x)
        rw [aget_aput_same] at this
        exact this
      generalize serAt h.words x = s at *
      generalize clsAt h.words x = C at *
      generalize fmtAt h.words x = F at *
      generalize spAt h.words x = P at *
      generalize sizeAt h.words x = S at *
      go_wp2
      clear hlk hup c1 c2
      obtain ⟨b1, b2⟩ := blk B7.out
      obtain ⟨c1, c2⟩ := blk H7.out
      obtain ⟨d1, d2⟩ := A7.out.rules
      have HVA7 : Hid (∀ n, Calls Tryz.prog 111 #[.pointer (some ⟨L.b, 0, none⟩), .int .u32 C] (W7.drewN n) fun e w' => e = .returned (.bool (classOK os C)) ∧ W7.drewN n = w') := fun n => HVA.out _ (E7.out.drewN n)
      cases q1 : (s == 0) with
      | true =>
        go_quiet (fail)
        go_wp2
        go_ret
        refine ⟨?_, E7.out.drewN _⟩
        have : (s != 0) = false := by rw [bne, q1]; rfl
        rw [HSB.out, HOB.out, this]; simp
      | false =>
        cases q2 : decide (h.last < s) with
        | true =>
          go_quiet (fail)
          go_wp2
          go_ret
          refine ⟨?_, E7.out.drewN _⟩
          have : decide (s ≤ h.last) = false := by simp at q2 ⊢; omega
          rw [HSB.out, HOB.out, this]; simp
        | false =>
          cases q3 : decide (1 < v + 1) with
          | true =>
            go_quiet (fail)
            go_wp2
            go_ret
            refine ⟨?_, E7.out.drewN _⟩
            rw [HSB.out, HOB.out, q3]; simp
          | false =>
            have hv00 : v = 0 := by simp at q3; omega
            cases q4 : classOK os C with
            | false =>
              rw [q4] at HVA7
              go_quiet ((go_at_call 111; exact Calls.quiet_of_same ((HVA7.out _).mono (fun _ _ hq => ⟨hq.1, hq.2.symm⟩))))
              go_wp2
              go_ret
              refine ⟨?_, E7.out.drewN _⟩
              rw [HSB.out, HOB.out, q4]; simp
            | true =>
              rw [q4] at HVA7
              have M7' : Hid (MapAt W7 mb .u32 (serA h.words (pre ++ [x]))) := by
                have := (APS.out (by rw [HV3.out]; exact q3)).2
                rw [← this]; exact M7.out
              have HOB2 : Hid (okObj h os pre x = ((F != 2 || spareOK h.words x) && (!(ptrF F) || (fieldsAt h.words x).all (valueOK os)))) := by
                have h1 : (s != 0) = true := by rw [bne, q1]; rfl
                have h2 : decide (s ≤ h.last) = true := by simp at q2 ⊢; omega
                show okObj h os pre x = _
                rw [HOB.out, h1, h2, q3, q4]; simp
              clear HOB M7 APS HV3
              go_quiet ((go_at_call 111; exact Calls.quiet_of_same ((HVA7.out _).mono (fun _ _ hq => ⟨hq.1, hq.2.symm⟩))))
              clear hlk7 HVA7 q1 q2 q3 q4 b1 b2 c1 c2 d1 d2
              obtain ⟨W8, hW8⟩ : ∃ X, X = W7.drewN nq := ⟨_, rfl⟩
              rw [← hW8]
              have X78 : Ext W7 W8 := by rw [hW8]; exact (Ext.refl _).drewN _
              clear hW8
              have E8 := Lib.hid (E7.out.trans X78)
              have A8 := Lib.hid (A7.out.keep X78)
              have B8 := Lib.hid (X78.keep B7.out)
              have M8 := Lib.hid (M7'.out.keep X78)
              have H8 := Lib.hid (X78.keep H7.out)
              clear E7 A7 B7 M7' H7 X78
              obtain ⟨b1, b2⟩ := blk B8.out
              obtain ⟨c1, c2⟩ := blk H8.out
              obtain ⟨d1, d2⟩ := A8.out.rules
              have HPT : Hid (∀ W, Calls Tryz.prog 113 #[.agg #[.int .i64 (S : Int), .int .i64 F, .int .i64 P, .int .u32 C, .int .u32 s]] W fun e w' => e = .returned (.bool (ptrF F)) ∧ Ext W w') := fun W => pointers_any ⟨S, F, P, C, s⟩ W
              have RFin : Hid (∀ W, Ext W8 W → okObj h os pre x = true → SndInv w L h os (pre ++ [x]) rest Bn mb W) := by
                intro W hE ho
                refine ⟨E8.out.trans hE, M8.out.keep hE, I1.out.mbase, hE.keep B8.out, ?_⟩
                rw [HSB.out, ho, Bool.true_and]
              have HXE : Hid (os = pre ++ [x] ++ rest) := by show os = _; rw [HX.out]; simp
              cases q5 : (F == 2) with
              | true =>
                obtain rfl : F = 2 := by simpa using q5
                have HUB8 := Lib.hid (HUB.out W8 A8.out rfl)
                have hsp : Hid (spareOK h.words x = tailZero (fieldsAt h.words x) P.toNat) := SPE.out
                generalize sOff 0 L.cw (x + 3) = off at *
                generalize L.cw - (x + 3) = cc at *
                cases q7 : tailZero (fieldsAt h.words x) P.toNat with
                | false =>
                  have HUC : Hid (Calls Tryz.prog 112 #[.slice (some ⟨L.gw, off, none⟩) S cc, .int .i64 P] W8 fun e w' => e = .returned (.tuple #[.slice none 0 0, .int .i64 10]) ∧ Ext W8 w') := HUB8.out.mono (fun e w' hq => by
                    rcases hq.2 with h1 | h1
                    · rw [q7] at h1; cases h1.1
                    · exact ⟨h1.2, hq.1⟩)
                  go_wp2_with ((go_at_call 112; refine HUC.out.mono ?_; rintro e W9 ⟨rfl, hE9⟩; have E9 := Lib.hid hE9; clear hE9))
                  go_ret
                  refine ⟨?_, E8.out.trans E9.out⟩
                  rw [HSB.out, HOB2.out, hsp.out, q7]; simp
                | true =>
                  have HUC : Hid (Calls Tryz.prog 112 #[.slice (some ⟨L.gw, off, none⟩) S cc, .int .i64 P] W8 fun e w' => ∃ v, e = .returned (.tuple #[v, .int .i64 0]) ∧ Ext W8 w') := HUB8.out.mono (fun e w' hq => by
                    rcases hq.2 with h1 | h1
                    · obtain ⟨_, g, he, _⟩ := h1; exact ⟨_, he, hq.1⟩
                    · rw [q7] at h1; cases h1.1)
                  have HOT : Hid (okObj h os pre x = true) := by show okObj h os pre x = true; rw [HOB2.out, hsp.out, q7]; simp [ptrF]
                  go_wp2_with (first | (go_at_call 112; refine HUC.out.mono ?_; rintro e W8' ⟨vv, rfl, hE8'⟩; have E8' := Lib.hid hE8'; obtain ⟨f1, f2⟩ := blk (hE8'.keep H8.out); have hbx2 := lt_of_block (hE8'.keep H8.out); clear hE8') | (go_at_call 113; refine (HPT.out _).mono ?_; rintro e W9 ⟨rfl, hE9⟩; have E9 := Lib.hid (E8'.out.trans hE9); obtain ⟨e1, e2⟩ := blk (E9.out.keep B8.out); have hbx := lt_of_block (E9.out.keep B8.out); clear hE9) | (go_at_call 110; refine (HNO.out _ (E8.out.trans E9.out)).mono ?_; rintro e W10 ⟨rfl, hE10⟩; have E10 := Lib.hid hE10; clear hE10))
                  exact ⟨⟨pre ++ [x], rest, _, HXE.out, rfl, NXT.out.1, RFin.out _ (E9.out.trans E10.out) HOT.out⟩, HML.out⟩
              | false =>
                have q5' : (F != 2) = true := by rw [bne, q5]; rfl
                cases q6 : ptrF F with
                | true =>
                  rw [q6] at HPT
                  have HOB3 : Hid (okObj h os pre x = (fieldsAt h.words x).all (valueOK os)) := by show okObj h os pre x = _; rw [HOB2.out, q5', q6]; simp
                  have HFR8 : Hid (∀ W, Ext W8 W → ∀ k, k < S → W.cell? ⟨L.gw, sOff 0 L.cw (x + 3) + k, none⟩ = some (.int .u32 (wd (fieldsAt h.words x) k))) := by
                    intro W hE k hk
                    have h1 := HFR.out W (A8.out.keep hE)
                    have h2 := HFL.out
                    have := rrow_cell h1 k (by simp; omega)
                    rw [this]; simp [u32s, wd, show k < (fieldsAt h.words x).length by omega]
                  have HVL : Hid (∀ W, Ext w W → ∀ k, Calls Tryz.prog 82 #[.pointer (some ⟨L.b, 0, none⟩), .int .u32 (wd (fieldsAt h.words x) k)] W fun e w' => e = .returned (.bool (valueOK os (wd (fieldsAt h.words x) k))) ∧ W = w') := fun W hE k => value_any (HA.out.keep hE) HW.out _ HW.out.fld.1 HW.out.fld.2
                  have HALL : Hid ((∀ k, k < S → valueOK os (wd (fieldsAt h.words x) k) = true) → okObj h os pre x = true) := by
                    intro hk
                    rw [HOB3.out, List.all_eq_true]
                    intro y hy
                    obtain ⟨j, hj, rfl⟩ := List.getElem_of_mem hy
                    have h2 := HFL.out
                    have := hk j (by omega)
                    simpa [wd, hj] using this
                  have HNOT : Hid (∀ k, k < S → valueOK os (wd (fieldsAt h.words x) k) = false → okObj h os pre x = false) := by
                    intro k hk hf
                    rw [HOB3.out, ← Bool.not_eq_true, List.all_eq_true]
                    intro hall
                    have h2 := HFL.out
                    have := hall (wd (fieldsAt h.words x) k) (by simp [wd, show k < (fieldsAt h.words x).length by omega])
                    rw [hf] at this; cases this
                  generalize fieldsAt h.words x = FL at *
                  generalize sOff 0 L.cw (x + 3) = off at *
                  generalize L.cw - (x + 3) = cc at *
                  go_wp2_with (first | (go_at_call 113; refine (HPT.out _).mono ?_; rintro e W9 ⟨rfl, hE9⟩; have E9 := Lib.hid hE9; obtain ⟨e1, e2⟩ := blk (hE9.keep B8.out); have hbx := lt_of_block (hE9.keep B8.out); clear hE9))
                  go_loop [89] (fun i => ∃ k : Nat, k ≤ S ∧ i = .int .i64 k ∧ ∀ j, j < k → valueOK os (wd FL j) = true) (fun i => S - (intOf i).toNat)
                  case atStart => exact ⟨0, by omega, rfl, by omega⟩
                  case round =>
                    obtain ⟨k, hk, rfl, hall⟩ := hrel
                    have HAL := Lib.hid hall
                    clear hall
                    by_cases hlt : k < S
                    · have ck := HFR8.out W9 E9.out k hlt
                      have HVk := Lib.hid (HVL.out W9 (E8.out.trans E9.out) k)
                      cases q8 : valueOK os (wd FL k) with
                      | false =>
                        rw [q8] at HVk
                        have HNk := Lib.hid (HNOT.out k hlt q8)
                        generalize wd FL k = y at *
                        clear q8
                        go_wp2_with (go_at_call 82; refine HVk.out.mono ?_; rintro e W9' ⟨rfl, rfl⟩)
                        go_ret
                        refine ⟨?_, E8.out.trans E9.out⟩
                        rw [HSB.out, HNk.out]; simp
                      | true =>
                        rw [q8] at HVk
                        have Q8 := Lib.hid q8
                        have HAL2 : Hid (∀ j, j < k + 1 → valueOK os (wd FL j) = true) := by
                          intro j hj
                          by_cases h1 : j < k
                          · exact HAL.out j h1
                          · obtain rfl : j = k := by omega
                            exact Q8.out
                        generalize wd FL k = y at *
                        clear q8 Q8
                        go_wp2_with (go_at_call 82; refine HVk.out.mono ?_; rintro e W9' ⟨rfl, rfl⟩)
                        go_round
                        case rel => exact ⟨k + 1, by omega, by go_num, HAL2.out⟩
                        case measure => simp [intOf]; omega
                    · obtain rfl : k = S := by omega
                      have HOT := Lib.hid (HALL.out HAL.out)
                      go_wp2_with (first | (go_at_call 110; refine (HNO.out _ (E8.out.trans E9.out)).mono ?_; rintro e W10 ⟨rfl, hE10⟩; have E10 := Lib.hid hE10; clear hE10))
                      exact ⟨⟨pre ++ [x], rest, _, HXE.out, rfl, NXT.out.1, RFin.out _ (E9.out.trans E10.out) HOT.out⟩, HML.out⟩
                | false =>
                  rw [q6] at HPT
                  have HOT : Hid (okObj h os pre x = true) := by show okObj h os pre x = true; rw [HOB2.out, q5', q6]; simp
                  go_wp2_with (first | (go_at_call 113; refine (HPT.out _).mono ?_; rintro e W9 ⟨rfl, hE9⟩; have E9 := Lib.hid hE9; obtain ⟨e1, e2⟩ := blk (hE9.keep B8.out); have hbx := lt_of_block (hE9.keep B8.out); clear hE9) | (go_at_call 110; refine (HNO.out _ (E8.out.trans E9.out)).mono ?_; rintro e W10 ⟨rfl, hE10⟩; have E10 := Lib.hid hE10; clear hE10))
                  exact ⟨⟨pre ++ [x], rest, _, HXE.out, rfl, NXT.out.1, RFin.out _ (E9.out.trans E10.out) HOT.out⟩, HML.out⟩

end Go.Proofs.Eff

/- heap.Load, where the words are a heap. -/
namespace Go.Proofs.Eff
open Go.RowKit

def bmk (n : Nat) : Array Value := (List.replicate n (Value.bool false)).toArray
theorem make120 (w : World) (n : Nat) (hn : n ≤ 1048576) : (Instr.makeSlice 120 (.int .i64 (n : Int)) (.int .i64 (n : Int))).run Tryz.prog w = .ok (.slice (some ⟨w.heap.size, 0, none⟩) n n) (w.alloc (.cells (bmk n) 4)) := by
  obtain ⟨i0, hi, hz0, hz1, hz3⟩ := info_parts Tryz.cinfo4
  have := run_makeSlice (P := Tryz.prog) w 120 4 i0 (.bool false) Tryz.underlying120 hi hz0 .i64 .i64 n n (by omega) (by omega) (by rw [hz1]; omega) (by rw [hz3]; omega) (by omega)
  rw [this]
  simp only [Int.toNat_natCast, hz1, Nat.mul_one]
  have e : madeCells (Value.bool false).cells n = bmk n := by
    have : (Value.bool false).cells = #[Value.bool false] := rfl
    rw [this]
    apply Array.ext
    · simp [madeCells, bmk]
    · intro i h1 h2; simp [madeCells, bmk, Nat.mod_one]
  rw [e]
theorem bmk_list (n : Nat) : (bmk n).toList = bools (marks n []) := by simp [bmk, marks_nil, bools]
def loadH (h : HeapS) (ws : List Int) (os : List Nat) (rs : List Int) (last : Int) : HeapS := ⟨ws, marks ws.length os, rs, h.size, last⟩
def LoadR (w : World) (L : HLoc) (h' : HeapS) (e : Ending) (w' : World) : Prop :=
  e = .returned (.int .i64 0) ∧ ∃ L', L'.b = L.b ∧ HeapAt w' L' h' ∧ Mod [L.b] w w' ∧ w.heap.size ≤ L'.gw ∧ w.heap.size ≤ L'.gs ∧ w.heap.size ≤ L'.gr

theorem loadH_wf {h : HeapS} {os0 os : List Nat} (wf : WF h os0) {ws rs : List Int} {last : Int} (hpos : 0 < ws.length) (hfit : (ws.length : Int) ≤ h.size) (hw : ∀ x, x ∈ ws → 0 ≤ x ∧ x < 4294967296) (hrl : rs.length = 64) (hrw : ∀ x, x ∈ rs → 0 ≤ x ∧ x < 4294967296) (l0 : 0 ≤ last) (l1 : last < 4294967296) (hz : wd ws 0 = 0) (hl : Laid ws 1 os) : WF (loadH h ws os rs last) os :=
  ⟨hpos, hz, hw, hl, rfl, hrl, hrw, wf.size0, wf.size1, hfit, l0, l1⟩

theorem Laid.det {ws : List Int} : ∀ {os os' : List Nat} {a : Nat}, Laid ws a os → Laid ws a os' → os = os' := by
  intro os
  induction os with
  | nil =>
    intro os' a h h'
    cases os' with
    | nil => rfl
    | cons x l => have h1 : a = ws.length := h; have := h'.2.1; omega
  | cons x l ih =>
    rintro os' a ⟨rfl, h2, h3, h4⟩ h'
    cases os' with
    | nil => have h1 : x = ws.length := h'; omega
    | cons y l' => obtain ⟨rfl, _, _, h5⟩ := h'; rw [ih h4 h5]

theorem load_store {w w6 : World} {L : HLoc} {h h' : HeapS} {bb g1 k1 gs ks g3 k3 : Nat} (lw ls lr : Nat) (sz la : Int) (e1 : h'.words.length = lw) (e2 : h'.starts.length = ls) (e3 : h'.roots.length = lr) (e4 : h'.size = sz) (e5 : h'.last = la) (ha : HeapAt w L h) (hE : Ext w w6) (h6 : HeapAt w6 ⟨bb, g1, k1, gs, ks, g3, k3⟩ h') (_n1 : w.heap.size ≤ bb) (n2 : w.heap.size ≤ g1) (n3 : w.heap.size ≤ gs) (n4 : w.heap.size ≤ g3) :
    ∃ L', L'.b = L.b ∧ HeapAt (((((w6.setCell ⟨L.b, 0, none⟩ (.slice (some ⟨g1, 0, none⟩) lw k1)).setCell ⟨L.b, 1, none⟩ (.slice (some ⟨gs, 0, none⟩) ls ks)).setCell ⟨L.b, 2, none⟩ (.slice (some ⟨g3, 0, none⟩) lr k3)).setCell ⟨L.b, 3, none⟩ (.int .i64 sz)).setCell ⟨L.b, 4, none⟩ (.int .u32 la)) L' h' ∧
      Mod [L.b] w (((((w6.setCell ⟨L.b, 0, none⟩ (.slice (some ⟨g1, 0, none⟩) lw k1)).setCell ⟨L.b, 1, none⟩ (.slice (some ⟨gs, 0, none⟩) ls ks)).setCell ⟨L.b, 2, none⟩ (.slice (some ⟨g3, 0, none⟩) lr k3)).setCell ⟨L.b, 3, none⟩ (.int .i64 sz)).setCell ⟨L.b, 4, none⟩ (.int .u32 la)) ∧ w.heap.size ≤ L'.gw ∧ w.heap.size ≤ L'.gs ∧ w.heap.size ≤ L'.gr := by
  subst e1 e2 e3 e4 e5
  have hl := ha.lt
  have m0 := mod_setCell w6 ⟨L.b, 0, none⟩ (.slice (some ⟨g1, 0, none⟩) h'.words.length k1)
  have hb0 := setB (i := 0) (hE.keep ha.blk) (.slice (some ⟨g1, 0, none⟩) h'.words.length k1)
  generalize w6.setCell ⟨L.b, 0, none⟩ (.slice (some ⟨g1, 0, none⟩) h'.words.length k1) = u0 at *
  have m1 := m0.trans (mod_setCell u0 ⟨L.b, 1, none⟩ (.slice (some ⟨gs, 0, none⟩) h'.starts.length ks))
  have hb1 := setB (i := 1) hb0 (.slice (some ⟨gs, 0, none⟩) h'.starts.length ks)
  generalize u0.setCell ⟨L.b, 1, none⟩ (.slice (some ⟨gs, 0, none⟩) h'.starts.length ks) = u1 at *
  have m2 := m1.trans (mod_setCell u1 ⟨L.b, 2, none⟩ (.slice (some ⟨g3, 0, none⟩) h'.roots.length k3))
  have hb2 := setB (i := 2) hb1 (.slice (some ⟨g3, 0, none⟩) h'.roots.length k3)
  generalize u1.setCell ⟨L.b, 2, none⟩ (.slice (some ⟨g3, 0, none⟩) h'.roots.length k3) = u2 at *
  have m3 := m2.trans (mod_setCell u2 ⟨L.b, 3, none⟩ (.int .i64 h'.size))
  have hb3 := setB (i := 3) hb2 (.int .i64 h'.size)
  generalize u2.setCell ⟨L.b, 3, none⟩ (.int .i64 h'.size) = u3 at *
  have m4 := m3.trans (mod_setCell u3 ⟨L.b, 4, none⟩ (.int .u32 h'.last))
  have hb4 := setB (i := 4) hb3 (.int .u32 h'.last)
  generalize u3.setCell ⟨L.b, 4, none⟩ (.int .u32 h'.last) = u4 at *
  refine ⟨⟨L.b, g1, k1, gs, ks, g3, k3⟩, rfl, ⟨?_, ?_, ?_, ?_⟩, (hE.mod _).trans m4, n2, n3, n4⟩
  · rw [hb4]; simp
  · exact m4.row h6.words (by intro g hg; cases hg; simp; omega)
  · exact m4.row h6.starts (by intro g hg; cases hg; simp; omega)
  · exact m4.row h6.roots (by intro g hg; cases hg; simp; omega)

set_option maxRecDepth 100000 in
set_option maxHeartbeats 2000000 in
theorem Load_ok {w : World} {L : HLoc} {h : HeapS} {os0 os : List Nat} (ha : HeapAt w L h) (wf : WF h os0) (hs : Spares w) {ws rs : List Int} {last : Int} (a1 a2 : Addr) (c1 c2 : Nat)
    (hr1 : RRow w a1 (u32s ws)) (hb1 : a1.block < w.heap.size) (hr2 : RRow w a2 (u32s rs)) (hb2 : a2.block < w.heap.size)
    (hpos : 0 < ws.length) (hfit : (ws.length : Int) ≤ h.size) (hw : ∀ x, x ∈ ws → 0 ≤ x ∧ x < 4294967296) (hrl : rs.length = 64) (hrw : ∀ x, x ∈ rs → 0 ≤ x ∧ x < 4294967296) (l0 : 0 ≤ last) (l1 : last < 4294967296) (hz : wd ws 0 = 0) (hl : Laid ws 1 os) (hso : Sound (loadH h ws os rs last) os) :
    Calls Tryz.prog 14 #[.pointer (some ⟨L.b, 0, none⟩), .slice (some a1) ws.length c1, .slice (some a2) rs.length c2, .int .u32 last] w (LoadR w L (loadH h ws os rs last)) := by
  have hp := hs.pos
  have hsz := wf.size1
  have wf' := loadH_wf wf hpos hfit hw hrl hrw l0 l1 hz hl
  have HM := Lib.hid (fun W (hE : Ext w W) => made_ok (ha.keep hE) wf)
  have C1 := Lib.hid (fun W (hE : Ext w W) => clone48 a1 (u32s ws) c1 W (hr1.keep hE hb1) (Nat.lt_of_lt_of_le hb1 hE.size) (u32s_one _) (by simp; omega))
  have C3 := Lib.hid (fun W (hE : Ext w W) => clone49 a2 (u32s rs) c2 W (hr2.keep hE hb2) (Nat.lt_of_lt_of_le hb2 hE.size) (u32s_one _) (by simp; omega))
  simp only [u32s_length] at C1 C3
  have hmk : ∀ W, (Instr.makeSlice 120 (.int .i64 (ws.length : Int)) (.int .i64 (ws.length : Int))).run Tryz.prog W = .ok (.slice (some ⟨W.heap.size, 0, none⟩) ws.length ws.length) (W.alloc (.cells (bmk ws.length) 4)) := fun W => make120 W _ (by omega)
  have HK : Hid (∀ w', Ext w w' → _ ∧ Ext w w') := fun w' hE => ⟨(ha.keep hE).rules.1, hE⟩
  have LDD : Hid (∀ (W : World) (L' : HLoc), Spares W → HeapAt W L' (loadH h ws [] rs last) → ¬ 0 ∈ L'.blocks → Calls Tryz.prog 50 #[.pointer (some ⟨L'.b, 0, none⟩)] W fun e w' => e = .returned (.bool true) ∧ HeapAt w' L' (loadH h ws os rs last) ∧ Mod [L'.gs] W w') := by
    intro W L' hS hA h0
    refine (laid50 hA hS wf'.word rfl hpos wf'.big h0).mono ?_
    rintro e w' (⟨he, hm, _, os', ho, hA'⟩ | ⟨_, _, hn⟩)
    · obtain rfl := Laid.det ho hl
      exact ⟨he, hA', hm⟩
    · exact absurd ⟨hz, os, hl⟩ hn
  have SND : Hid (∀ (W : World) (L' : HLoc), Spares W → HeapAt W L' (loadH h ws os rs last) → Calls Tryz.prog 51 #[.pointer (some ⟨L'.b, 0, none⟩)] W fun e w' => e = .returned (.bool true) ∧ Ext W w') := by
    intro W L' hS hA
    have := sound51 hA wf' hS
    rw [(soundB_iff wf').2 hso] at this
    exact this
  obtain ⟨d1, d2⟩ := ha.rules
  have HA := Lib.hid ha
  have HS := Lib.hid hs
  have HRL := Lib.hid hrl
  have hrl2 : ((rs.length : Int) != 64) = false := by simp [hrl]
  have hwl2 : ((ws.length : Int) == 0) = false := by rw [beq_eq_false_iff_ne]; omega
  have hwl3 : (ws.length == 0) = false := by rw [beq_eq_false_iff_ne]; omega
  have hlb := ha.lt
  clear ha wf wf' hs hr1 hr2 hw hrw hz hl hso hrl
  go_enter Tryz.func14, Tryz.ntmps14
  go_wp2_with (go_at_call 47; refine (HM.out _ (Ext.refl _)).mono ?_; rintro e w' ⟨rfl, rfl⟩)
  go_region_held3 (fun w' => (∀ i, w'.cell? ⟨L.b, i, none⟩ = (#[.slice (some ⟨L.gw, 0, none⟩) h.words.length L.cw, .slice (some ⟨L.gs, 0, none⟩) h.starts.length L.cs, .slice (some ⟨L.gr, 0, none⟩) h.roots.length L.cr, .int .i64 h.size, .int .u32 h.last] : Array Value)[i]?) ∧ Ext w w')
    (first | exact HK.out _ (Ext.refl _).drew | exact HK.out _ ((Ext.refl _).alloc _).drew | exact HK.out _ (Ext.trans (‹_ ∧ Ext w _›).2 hb1) | exact HK.out _ (Ext.trans (‹_ ∧ Ext w _›).2 hb3) | exact HK.out _ (Ext.alloc (‹_ ∧ Ext w _›).2 _))
    (first | (go_at_call 48; refine (C1.out _ (‹_ ∧ Ext w _›).2).mono ?_; rintro e w1 ⟨g1, k1, rfl, hr1, hb1⟩) | (go_at_call 49; refine (C3.out _ (‹_ ∧ Ext w _›).2).mono ?_; rintro e w3 ⟨g3, k3, rfl, hr3, hb3⟩))
  · have X := Lib.hid (‹_ ∧ Ext w _›).2
    go_wp2_with fail
    have q2 := hb1.size
    have q3 := hb3.size
    have q1 : w.drew.heap.size = w.heap.size := rfl
    have r1 := (hr1.lt g1 rfl).1
    have r3 := (hr3.lt g3 rfl).1
    simp only [World.size_alloc] at q3 r3
    have NX : HeapAt (w3.alloc (.cells #[.slice (some ⟨g1, 0, none⟩) ws.length k1, .slice (some ⟨w1.heap.size, 0, none⟩) ws.length ws.length, .slice (some ⟨g3, 0, none⟩) rs.length k3, .int .i64 h.size, .int .u32 last] 122)) ⟨w3.heap.size, g1, k1, w1.heap.size, ws.length, g3, k3⟩ (loadH h ws [] rs last) ∧ Ext w (w3.alloc (.cells #[.slice (some ⟨g1, 0, none⟩) ws.length k1, .slice (some ⟨w1.heap.size, 0, none⟩) ws.length ws.length, .slice (some ⟨g3, 0, none⟩) rs.length k3, .int .i64 h.size, .int .u32 last] 122)) ∧ w.heap.size ≤ w3.heap.size ∧ w.heap.size ≤ g1 ∧ w.heap.size ≤ w1.heap.size ∧ w.heap.size ≤ g3 := by
      refine ⟨⟨?_, ?_, ?_, ?_⟩, X.out, by omega, by omega, by omega, by omega⟩
      · rw [newB _ _ _ rfl]; simp [loadH, marks_length]
      · exact row_zero (row_keep hr1 ((((Ext.refl _).alloc _).trans hb3).alloc _))
      · have := World.ownsRow_lit (base := 0) (e := 4) (size := 1) w1 (bmk ws.length) ws.length (Nat.zero_le _) (by unfold maxLen; omega) (by simp [bmk])
        rw [bmk_list] at this
        have e := marks_length ws.length []
        have := row_keep this (hb3.alloc (.cells #[.slice (some ⟨g1, 0, none⟩) ws.length k1, .slice (some ⟨w1.heap.size, 0, none⟩) ws.length ws.length, .slice (some ⟨g3, 0, none⟩) rs.length k3, .int .i64 h.size, .int .u32 last] 122))
        simpa only [loadH, marks_length] using this
      · exact row_zero (row_keep hr3 ((Ext.refl _).alloc _))
    generalize w3.alloc (.cells #[.slice (some ⟨g1, 0, none⟩) ws.length k1, .slice (some ⟨w1.heap.size, 0, none⟩) ws.length ws.length, .slice (some ⟨g3, 0, none⟩) rs.length k3, .int .i64 h.size, .int .u32 last] 122) = W at NX ⊢
    generalize w3.heap.size = bb at NX ⊢
    generalize w1.heap.size = gs at NX ⊢
    obtain ⟨nA, nE, n1, n2, n3, n4⟩ := NX
    have LD := Lib.hid (LDD.out W ⟨bb, g1, k1, gs, ws.length, g3, k3⟩ (HS.out.kept nE hp) nA (by simp [HLoc.blocks]; omega))
    have NE := Lib.hid nE
    have NA := Lib.hid nA
    clear nA nE X hb1 hb3 hr1 hr3 q1 q2 q3 r1 r3 d1 d2 C1 C3 HM HK hmk
    refine LD.out.mono ?_
    rintro e w5 ⟨rfl, hA5, hM5⟩
    have A5 := Lib.hid hA5
    have E5 := Lib.hid (Mod.ext_of_new NE.out hM5 n3)
    have SD := Lib.hid (SND.out w5 ⟨bb, g1, k1, gs, ws.length, g3, k3⟩ (HS.out.kept E5.out hp) hA5)
    clear hA5 hM5 LD
    go_wp2_with fail
    refine SD.out.mono ?_
    rintro e w6 ⟨rfl, hE6⟩
    have E6 := Lib.hid (E5.out.trans hE6)
    have A6 := Lib.hid (A5.out.keep hE6)
    obtain ⟨x1, x2⟩ := A6.out.rules
    obtain ⟨y1, y2⟩ := (HA.out.keep E6.out).rules
    simp only [loadH, marks_length] at x1
    have hlb6 : L.b < w6.heap.size := (HA.out.keep E6.out).lt
    clear hE6 SD
    go_wp2
    go_ret
    exact ⟨rfl, load_store ws.length ws.length rs.length h.size last rfl (marks_length _ _) rfl rfl rfl HA.out E6.out A6.out n1 n2 n3 n4⟩
  · have X := Lib.hid (‹_ ∧ Ext w _›).2
    go_wp2_with fail
    have q2 := hb1.size
    have q3 := hb3.size
    have q1 : w.drew.heap.size = w.heap.size := rfl
    have r1 := (hr1.lt g1 rfl).1
    have r3 := (hr3.lt g3 rfl).1
    have NX : HeapAt ((w3.alloc (.cells (bmk ws.length) 4)).alloc (.cells #[.slice (some ⟨g1, 0, none⟩) ws.length k1, .slice (some ⟨w3.heap.size, 0, none⟩) ws.length ws.length, .slice (some ⟨g3, 0, none⟩) rs.length k3, .int .i64 h.size, .int .u32 last] 122)) ⟨w3.heap.size + 1, g1, k1, w3.heap.size, ws.length, g3, k3⟩ (loadH h ws [] rs last) ∧ Ext w ((w3.alloc (.cells (bmk ws.length) 4)).alloc (.cells #[.slice (some ⟨g1, 0, none⟩) ws.length k1, .slice (some ⟨w3.heap.size, 0, none⟩) ws.length ws.length, .slice (some ⟨g3, 0, none⟩) rs.length k3, .int .i64 h.size, .int .u32 last] 122)) ∧ w.heap.size ≤ w3.heap.size + 1 ∧ w.heap.size ≤ g1 ∧ w.heap.size ≤ w3.heap.size ∧ w.heap.size ≤ g3 := by
      refine ⟨⟨?_, ?_, ?_, ?_⟩, X.out, by omega, by omega, by omega, by omega⟩
      · rw [newB _ _ _ (by simp)]; simp [loadH, marks_length]
      · exact row_zero (row_keep hr1 ((hb3.alloc _).alloc _))
      · have := World.ownsRow_lit (base := 0) (e := 4) (size := 1) w3 (bmk ws.length) ws.length (Nat.zero_le _) (by unfold maxLen; omega) (by simp [bmk])
        rw [bmk_list] at this
        have := row_keep this ((Ext.refl _).alloc (.cells #[.slice (some ⟨g1, 0, none⟩) ws.length k1, .slice (some ⟨w3.heap.size, 0, none⟩) ws.length ws.length, .slice (some ⟨g3, 0, none⟩) rs.length k3, .int .i64 h.size, .int .u32 last] 122))
        simpa only [loadH, marks_length] using this
      · exact row_zero (row_keep hr3 (((Ext.refl _).alloc _).alloc _))
    generalize (w3.alloc (.cells (bmk ws.length) 4)).alloc (.cells #[.slice (some ⟨g1, 0, none⟩) ws.length k1, .slice (some ⟨w3.heap.size, 0, none⟩) ws.length ws.length, .slice (some ⟨g3, 0, none⟩) rs.length k3, .int .i64 h.size, .int .u32 last] 122) = W at NX ⊢
    generalize w3.heap.size + 1 = bb at NX ⊢
    generalize w3.heap.size = gs at NX ⊢
    obtain ⟨nA, nE, n1, n2, n3, n4⟩ := NX
    have LD := Lib.hid (LDD.out W ⟨bb, g1, k1, gs, ws.length, g3, k3⟩ (HS.out.kept nE hp) nA (by simp [HLoc.blocks]; omega))
    have NE := Lib.hid nE
    have NA := Lib.hid nA
    clear nA nE X hb1 hb3 hr1 hr3 q1 q2 q3 r1 r3 d1 d2 C1 C3 HM HK hmk
    refine LD.out.mono ?_
    rintro e w5 ⟨rfl, hA5, hM5⟩
    have A5 := Lib.hid hA5
    have E5 := Lib.hid (Mod.ext_of_new NE.out hM5 n3)
    have SD := Lib.hid (SND.out w5 ⟨bb, g1, k1, gs, ws.length, g3, k3⟩ (HS.out.kept E5.out hp) hA5)
    clear hA5 hM5 LD
    go_wp2_with fail
    refine SD.out.mono ?_
    rintro e w6 ⟨rfl, hE6⟩
    have E6 := Lib.hid (E5.out.trans hE6)
    have A6 := Lib.hid (A5.out.keep hE6)
    obtain ⟨x1, x2⟩ := A6.out.rules
    obtain ⟨y1, y2⟩ := (HA.out.keep E6.out).rules
    simp only [loadH, marks_length] at x1
    have hlb6 : L.b < w6.heap.size := (HA.out.keep E6.out).lt
    clear hE6 SD
    go_wp2
    go_ret
    exact ⟨rfl, load_store ws.length ws.length rs.length h.size last rfl (marks_length _ _) rfl rfl rfl HA.out E6.out A6.out n1 n2 n3 n4⟩
  · have X := Lib.hid (‹_ ∧ Ext w _›).2
    go_wp2_with fail
    have q2 := hb1.size
    have q3 := hb3.size
    have q1 : w.drew.heap.size = w.heap.size := rfl
    have r1 := (hr1.lt g1 rfl).1
    have r3 := (hr3.lt g3 rfl).1
    have q4 : ((w.alloc (.cells (bmk ws.length) 4)).drew).heap.size = w.heap.size + 1 := World.size_alloc _ _
    have NX : HeapAt (w3.alloc (.cells #[.slice (some ⟨g1, 0, none⟩) ws.length k1, .slice (some ⟨w.heap.size, 0, none⟩) ws.length ws.length, .slice (some ⟨g3, 0, none⟩) rs.length k3, .int .i64 h.size, .int .u32 last] 122)) ⟨w3.heap.size, g1, k1, w.heap.size, ws.length, g3, k3⟩ (loadH h ws [] rs last) ∧ Ext w (w3.alloc (.cells #[.slice (some ⟨g1, 0, none⟩) ws.length k1, .slice (some ⟨w.heap.size, 0, none⟩) ws.length ws.length, .slice (some ⟨g3, 0, none⟩) rs.length k3, .int .i64 h.size, .int .u32 last] 122)) ∧ w.heap.size ≤ w3.heap.size ∧ w.heap.size ≤ g1 ∧ w.heap.size ≤ w.heap.size ∧ w.heap.size ≤ g3 := by
      refine ⟨⟨?_, ?_, ?_, ?_⟩, X.out, by omega, by omega, by omega, by omega⟩
      · rw [newB _ _ _ rfl]; simp [loadH, marks_length]
      · exact row_zero (row_keep hr1 (hb3.alloc _))
      · have := World.ownsRow_lit (base := 0) (e := 4) (size := 1) w (bmk ws.length) ws.length (Nat.zero_le _) (by unfold maxLen; omega) (by simp [bmk])
        rw [bmk_list] at this
        have hdr : Ext (w.alloc (.cells (bmk ws.length) 4)) w1 := ((Ext.refl _).drew).trans hb1
        have := row_keep this ((hdr.trans hb3).alloc (.cells #[.slice (some ⟨g1, 0, none⟩) ws.length k1, .slice (some ⟨w.heap.size, 0, none⟩) ws.length ws.length, .slice (some ⟨g3, 0, none⟩) rs.length k3, .int .i64 h.size, .int .u32 last] 122))
        simpa only [loadH, marks_length] using this
      · exact row_zero (row_keep hr3 ((Ext.refl _).alloc _))
    clear q4
    generalize w3.alloc (.cells #[.slice (some ⟨g1, 0, none⟩) ws.length k1, .slice (some ⟨w.heap.size, 0, none⟩) ws.length ws.length, .slice (some ⟨g3, 0, none⟩) rs.length k3, .int .i64 h.size, .int .u32 last] 122) = W at NX ⊢
    generalize w3.heap.size = bb at NX ⊢
    obtain ⟨gs, hgs⟩ : ∃ n, n = w.heap.size := ⟨_, rfl⟩
    have NX2 : HeapAt W ⟨bb, g1, k1, gs, ws.length, g3, k3⟩ (loadH h ws [] rs last) ∧ Ext w W ∧ w.heap.size ≤ bb ∧ w.heap.size ≤ g1 ∧ w.heap.size ≤ gs ∧ w.heap.size ≤ g3 := by rw [hgs]; exact NX
    clear NX
    have NX := NX2
    clear NX2
    rw [← hgs] at ⊢
    clear hgs
    obtain ⟨nA, nE, n1, n2, n3, n4⟩ := NX
    have LD := Lib.hid (LDD.out W ⟨bb, g1, k1, gs, ws.length, g3, k3⟩ (HS.out.kept nE hp) nA (by simp [HLoc.blocks]; omega))
    have NE := Lib.hid nE
    have NA := Lib.hid nA
    clear nA nE X hb1 hb3 hr1 hr3 q1 q2 q3 r1 r3 d1 d2 C1 C3 HM HK hmk
    refine LD.out.mono ?_
    rintro e w5 ⟨rfl, hA5, hM5⟩
    have A5 := Lib.hid hA5
    have E5 := Lib.hid (Mod.ext_of_new NE.out hM5 n3)
    have SD := Lib.hid (SND.out w5 ⟨bb, g1, k1, gs, ws.length, g3, k3⟩ (HS.out.kept E5.out hp) hA5)
    clear hA5 hM5 LD
    go_wp2_with fail
    refine SD.out.mono ?_
    rintro e w6 ⟨rfl, hE6⟩
    have E6 := Lib.hid (E5.out.trans hE6)
    have A6 := Lib.hid (A5.out.keep hE6)
    obtain ⟨x1, x2⟩ := A6.out.rules
    obtain ⟨y1, y2⟩ := (HA.out.keep E6.out).rules
    simp only [loadH, marks_length] at x1
    have hlb6 : L.b < w6.heap.size := (HA.out.keep E6.out).lt
    clear hE6 SD
    go_wp2
    go_ret
    exact ⟨rfl, load_store ws.length ws.length rs.length h.size last rfl (marks_length _ _) rfl rfl rfl HA.out E6.out A6.out n1 n2 n3 n4⟩

end Go.Proofs.Eff
