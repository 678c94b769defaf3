/- handles: root, lease, object, put; heap.Put at any field. -/
import Derived.Test.YtaggadjiefgpoaaGreatDoorTb0
import Derived.Test.YtaggadjiefgpoaaGreatDoorSl1
import Derived.Deep.MidRow
namespace Go.Proofs.Eff
open Go.RowKit

/-- A table of handles. -/
structure HTab where
  cap : Int
  next : Int
  now : Int
  slots : List (Int × Int)
def slotC (l : List (Int × Int)) : List Value := l.flatMap fun p => [.int .u64 p.1, .int .i64 p.2]
theorem slotC_length (l : List (Int × Int)) : (slotC l).length = 2 * l.length := by
  induction l with
  | nil => rfl
  | cons p r ih => simp only [slotC, List.flatMap_cons, List.length_append, List.length_cons, List.length_nil] at *; omega
theorem slotC_get : ∀ (l : List (Int × Int)) (k : Nat) (h : k < l.length), (slotC l)[2 * k]? = some (.int .u64 l[k].1) ∧ (slotC l)[2 * k + 1]? = some (.int .i64 l[k].2)
  | p :: r, 0, _ => ⟨rfl, rfl⟩
  | p :: r, k + 1, h => by
    have ih := slotC_get r k (by simpa using h)
    have e : slotC (p :: r) = .int .u64 p.1 :: .int .i64 p.2 :: slotC r := rfl
    rw [e, show 2 * (k + 1) = 2 * k + 1 + 1 by omega]
    exact ⟨by simpa using ih.1, by simpa using ih.2⟩
/-- One lies there, over a heap that lies at hb. -/
structure HTabAt (w : World) (tb hb : Nat) (T : HTab) : Prop where
  lt : tb < w.heap.size
  ptr : w.cell? ⟨tb, 0, none⟩ = some (.pointer (some ⟨hb, 0, none⟩))
  slots : w.rangeAt tb 1 (slotC T.slots)
  len : T.slots.length = 256
  cap : w.cell? ⟨tb, 513, none⟩ = some (.int .i64 T.cap)
  next : w.cell? ⟨tb, 514, none⟩ = some (.int .u64 T.next)
  now : w.cell? ⟨tb, 515, none⟩ = some (.int .i64 T.now)
  fr : ∀ i, w.frozen? ⟨tb, i, none⟩ = false
theorem HTabAt.of_same {a w : World} {tb hb : Nat} {T : HTab} (h : HTabAt a tb hb T) (hs : tb < w.heap.size) (hc : ∀ i, w.cell? ⟨tb, i, none⟩ = a.cell? ⟨tb, i, none⟩) (hf : ∀ i, w.frozen? ⟨tb, i, none⟩ = a.frozen? ⟨tb, i, none⟩) : HTabAt w tb hb T :=
  ⟨hs, by rw [hc]; exact h.ptr, fun j v hv => by rw [hc]; exact h.slots j v hv, h.len, by rw [hc]; exact h.cap, by rw [hc]; exact h.next, by rw [hc]; exact h.now, fun i => by rw [hf]; exact h.fr i⟩
theorem HTabAt.keep {a w : World} {tb hb : Nat} {T : HTab} (h : HTabAt a tb hb T) (hE : Ext a w) : HTabAt w tb hb T :=
  h.of_same (Nat.lt_of_lt_of_le h.lt hE.size) (fun i => hE.cell (p := ⟨tb, i, none⟩) h.lt) (fun i => hE.frozen (p := ⟨tb, i, none⟩) h.lt)
theorem HTabAt.mod {a w : World} {tb hb : Nat} {T : HTab} {S : List Nat} (h : HTabAt a tb hb T) (hM : Mod S a w) (hn : ¬ tb ∈ S) : HTabAt w tb hb T := by
  have hb1 := hM.block tb h.lt hn
  refine h.of_same (Nat.lt_of_lt_of_le h.lt hM.size) (fun i => World.cell?_of_block (a := ⟨tb, i, none⟩) hb1) (fun i => ?_)
  simp only [World.frozen?, hb1]
theorem HTabAt.slot {w : World} {tb hb : Nat} {T : HTab} (h : HTabAt w tb hb T) (k : Nat) (hk : k < 256) : w.cell? ⟨tb, 1 + 2 * k, none⟩ = some (.int .u64 (T.slots[k]'(by rw [h.len]; exact hk)).1) ∧ w.cell? ⟨tb, 1 + 2 * k + 1, none⟩ = some (.int .i64 (T.slots[k]'(by rw [h.len]; exact hk)).2) := by
  obtain ⟨g1, g2⟩ := slotC_get T.slots k (by rw [h.len]; exact hk)
  exact ⟨h.slots _ _ g1, h.slots _ _ g2⟩

section
variable {w : World} {L : HLoc} {h : HeapS} {os : List Nat}

set_option maxHeartbeats 400000 in
theorem root135 (ha : HeapAt w L h) (wf : WF h os) (i : Int) (h0 : 0 ≤ i) (h1 : i < 64) :
    Calls Tryz.prog 135 #[.pointer (some ⟨L.b, 0, none⟩), .int .i64 i] w fun e w' => e = .returned (.int .u32 (wd h.roots i.toNat)) ∧ w = w' := by
  have HH := Lib.hid (root_ok ha wf i h0 h1)
  clear ha wf
  go_enter Tryz.func135, Tryz.ntmps135
  go_wp2_with (go_at_call 84; refine HH.out.mono ?_; rintro e w' ⟨rfl, rfl⟩)
  go_ret
  exact ⟨rfl, rfl⟩
theorem lease87 (n : Int) (w : World) : Calls Tryz.prog 87 #[.int .i64 n] w fun e w' => e = .returned (.bool (fitsB n)) ∧ w = w' := by
  have key : (decide (1 ≤ n) = false) ∨ (decide (1 ≤ n) = true) := by cases decide (1 ≤ n) <;> simp
  unfold fitsB
  go_enter Tryz.func87, Tryz.ntmps87
  rcases key with k | k
  all_goals
    go_wp2
    go_ret
    refine ⟨?_, rfl⟩
    simp [k]

theorem lookJ (_wf : WF h os) (fs : List Int) (o i : Int) (ho : isO os o = true) (hf : fs.contains (hdrAt h.words (o / 2).toNat).fmt = true) (i0 : 0 ≤ i) (hl : i < lenH (hdrAt h.words (o / 2).toNat)) :
    lookE h.words os fs o i = 0 ∧ lookA h.words os fs o i = o / 2 + 3 := by
  have e : lookE h.words os fs o i = 0 := by
    unfold lookE
    rw [if_neg (by simp [ho]), if_neg (by rw [hf]; simp), if_neg (by omega)]
  exact ⟨e, by rw [lookA, if_pos e]⟩

set_option maxRecDepth 100000 in
set_option maxHeartbeats 1000000 in
theorem PutJ (ha : HeapAt w L h) (wf : WF h os) (hs : Spares w) (o y : Int) (h0 : 0 ≤ o) (h1 : o < 4294967296) (y0 : 0 ≤ y) (y1 : y < 4294967296) (hy : valueOK os y = true) (ho : isO os o = true) (hf : (hdrAt h.words (o / 2).toNat).fmt = 1) (j : Nat) (hz : j < sizeAt h.words (o / 2).toNat) :
    Calls Tryz.prog 28 #[.pointer (some ⟨L.b, 0, none⟩), .int .u32 o, .int .i64 j, .int .u32 y] w fun e w' => e = .returned (.int .i64 0) ∧ HeapAt w' L (setW h ((o / 2).toNat + 3 + j) y) ∧ Mod [L.gw] w w' := by
  have hp := hs.pos
  have hm := wf.mem (wf.isO_lt ho).2
  have hbig := wf.big
  have hsz : (hdrAt h.words (o / 2).toNat).size = sizeAt h.words (o / 2).toNat := by have := wf.word (o / 2).toNat; simp [hdrAt, hdrOf, sizeAt]; omega
  obtain ⟨l1, l2⟩ := lookJ wf [1, 4] o j ho (by rw [hf]; rfl) (by omega) (by simp [lenH, hf]; omega)
  have HL := Lib.hid (fun W (hE : Ext w W) g hg (hr : RRow W ⟨g, 0, none⟩ (i64s [1, 4])) => look_any (ha.keep hE) wf (hs.kept hE hp) o j h0 h1 g 2 [1, 4] hr hg (by simp))
  have HR : Hid (RRow (w.alloc (.cells #[.int .i64 1, .int .i64 4] 63)) ⟨w.heap.size, 0, none⟩ (i64s [1, 4])) := row_read (World.ownsRow_lit (base := 0) w #[.int .i64 1, .int .i64 4] 2 (by simp) (by unfold maxLen; omega) rfl)
  simp only [List.length_cons, List.length_nil, Nat.zero_add, l1, l2] at HL
  have d1 : 0 ≤ o / 2 + 3 + (j : Int) := by omega
  have d2 : o / 2 + 3 + (j : Int) < (h.words.length : Int) := by omega
  have d3 : 0 ≤ o / 2 + 3 := by omega
  have HV := Lib.hid (fun W (hE : Ext w W) => value_any (ha.keep hE) wf y y0 y1)
  rw [hy] at HV
  have HW : Hid (∀ W, Ext w W → _ ∧ _ ∧ _ ∧ _) := fun W hE => ⟨(ha.keep hE).rules.1, (ha.keep hE).word (o / 2 + 3 + (j : Int)).toNat (by omega), row_free (ha.keep hE).words (o / 2 + 3 + (j : Int)).toNat, row_lt (ha.keep hE).words⟩
  have HS : Hid (∀ W, Ext w W → HeapAt (W.setCell ⟨L.gw, (o / 2 + 3 + (j : Int)).toNat, none⟩ (.int .u32 y)) L (setW h (o / 2 + 3 + (j : Int)).toNat y) ∧ Mod [L.gw] w (W.setCell ⟨L.gw, (o / 2 + 3 + (j : Int)).toNat, none⟩ (.int .u32 y))) := fun W hE => ⟨((ha.keep hE).setWord _ y).1, (hE.mod _).trans ((ha.keep hE).setWord _ y).2⟩
  rw [show (o / 2).toNat + 3 + j = (o / 2 + 3 + (j : Int)).toNat by omega]
  generalize wd h.words (o / 2 + 3 + (j : Int)).toNat = V at *
  clear ha wf hs hf hz hm ho l1 l2 hsz hy
  go_enter Tryz.func28, Tryz.ntmps28
  go_wp2_with (first | (go_at_call 81; refine (HL.out _ ((Ext.refl _).alloc _) _ (by simp) HR.out).mono ?_; rintro e w1 ⟨rfl, hb⟩; obtain ⟨c1, c2, c3, c4⟩ := HW.out _ (((Ext.refl _).alloc _).trans hb); have X := Lib.hid (((Ext.refl _).alloc _).trans hb); clear hb) | (go_at_call 82; refine (HV.out _ X.out).mono ?_; rintro e w2 ⟨rfl, rfl⟩))
  go_ret
  exact ⟨rfl, HS.out _ X.out⟩

variable {a cap : Nat}
set_option maxRecDepth 100000 in
set_option maxHeartbeats 1000000 in
theorem object91 {tb : Nat} {T : HTab} (ha : HeapAt w L h) (wf : WF h os) (hs : Spares w) (A : ArrOK h os a cap) (ht : HTabAt w tb L.b T) (k : Nat) (hk : k < cap) :
    Calls Tryz.prog 91 #[.pointer (some ⟨tb, 0, none⟩), .int .i64 k] w fun e w' => e = .returned (.int .u32 (arrF h a k)) ∧ Ext w w' := by
  have hp := hs.pos
  have hm := wf.mem A.mem
  have hbig := wf.big
  have ho := (A.obj wf).1
  have RT := Lib.hid (fun W (hE : Ext w W) => root135 (ha.keep hE) wf 40 (by omega) (by omega))
  rw [show (40 : Int).toNat = 40 from rfl, A.root] at RT
  have ea : (2 * (a : Int) / 2).toNat = a := by omega
  obtain ⟨l1, l2⟩ := lookJ wf [1, 4] (2 * (a : Int)) k ho (by rw [ea, A.fmt]; rfl) (by omega) (by
    have hsz : (hdrAt h.words a).size = sizeAt h.words a := by have := wf.word a; simp [hdrAt, hdrOf, sizeAt]; omega
    rw [ea]; simp only [lenH, A.fmt]; rw [hsz, A.size]; simp; omega)
  have GT := Lib.hid (fun W (hE : Ext w W) => Get_any (ha.keep hE) wf (hs.kept hE hp) (2 * (a : Int)) k (by omega) (by omega))
  have eg : getA h.words os [1, 4] (2 * (a : Int)) k = arrF h a k := by
    unfold getA arrF
    rw [if_pos l1]
    congr 1; omega
  rw [eg, l1] at GT
  have KE : Hid (∀ W, Ext w W → W.cell? ⟨tb, 0, none⟩ = some (.pointer (some ⟨L.b, 0, none⟩)) ∧ Ext w W) := fun W hE => ⟨(ht.keep hE).ptr, hE⟩
  clear ha wf hs A ht hm ho ea l1 l2 eg
  generalize arrF h a k = z at *
  go_enter Tryz.func91, Tryz.ntmps91
  go_wp2
  go_region_held3 (fun w' => w'.cell? ⟨tb, 0, none⟩ = some (.pointer (some ⟨L.b, 0, none⟩)) ∧ Ext w w')
    (first | with_reducible exact KE.out _ (Ext.refl _).drew | with_reducible exact KE.out _ (Ext.trans (‹_ ∧ Ext w _›).2 hb2) | with_reducible assumption)
    (first | (go_at_call 135; with_reducible refine (RT.out _ (‹_ ∧ Ext w _›).2).mono ?_; rintro e w2 ⟨rfl, rfl⟩) | (go_at_call 27; with_reducible refine (GT.out _ (‹_ ∧ Ext w _›).2).mono ?_; rintro e w2 ⟨rfl, hb2⟩))
  have X := Lib.hid (‹_ ∧ Ext w w2›).2
  go_wp2
  go_ret
  exact ⟨rfl, X.out⟩
end
end Go.Proofs.Eff
