/- heap.alloc. -/
import Derived.Test.YtaggadjiefgpoaaGreatDoorSy12
import Derived.Test.YtaggadjiefgpoaaGreatDoorSy01
import Derived.Deep.AppendLies
import Derived.Deep.RegionLaw
namespace Go.Proofs.Eff
open Go.RowKit

section
variable {w : World} {L : HLoc} {h : HeapS} {os : List Nat}

theorem setB {w : World} {b i : Nat} {cs : Array Value} {T : TypeId} {fz : Nat × Nat} (h : w.heap[b]? = some (.cells cs T fz)) (v : Value) : (w.setCell ⟨b, i, none⟩ v).heap[b]? = some (.cells (cs.setIfInBounds i v) T fz) := by
  simp only [World.setCell, Array.getElem?_modify, h]; simp
theorem keepS {w : World} {b : Nat} {a : Addr} {o : Obj} (h : w.heap[b]? = some o) (hn : b ≠ a.block) (v : Value) : (w.setCell a v).heap[b]? = some o := by
  rw [Below.heap_setCell _ _ _ _ hn]; exact h

theorem HeapAt.bl (ha : HeapAt w L h) : ∀ x, x ∈ L.blocks → x < w.heap.size := by
  intro x hx
  simp only [HLoc.blocks, List.mem_cons, List.not_mem_nil, or_false] at hx
  rcases hx with rfl | rfl | rfl | rfl
  · exact ha.lt
  · exact row_lt ha.words
  · exact row_lt ha.starts
  · exact row_lt ha.roots
theorem HeapAt.setLast (ha : HeapAt w L h) (x : Int) : HeapAt (w.setCell ⟨L.b, 4, none⟩ (.int .u32 x)) L { h with last := x } := by
  have hd := ha.distinct
  have hm := mod_setCell w ⟨L.b, 4, none⟩ (.int .u32 x)
  refine ⟨by simpa using setB (i := 4) ha.blk (.int .u32 x), hm.row ha.words ?_, hm.row ha.starts ?_, hm.row ha.roots ?_⟩
  all_goals (intro g hg; cases hg; simp; omega)
theorem HeapAt.setFar (ha : HeapAt w L h) (a : Addr) (hn : ¬ a.block ∈ L.blocks) (v : Value) : HeapAt (w.setCell a v) L h :=
  ha.mod (mod_setCell w a v) (fun x hx hc => hn (by simp at hc; rw [← hc]; exact hx))
theorem Spares.mod {S : List Nat} {w w' : World} (h : Spares w) (hm : Mod S w w') (hS : ¬ 0 ∈ S) : Spares w' := by
  obtain ⟨T, fz, h⟩ := h
  exact ⟨T, fz, hm.keep h hS⟩

theorem grow_keep {w w' : World} {row : Option Nat} {b : Nat} {o : Obj} (hg : w.grownBy w' row) (hb : w.heap[b]? = some o) (hn : some b ≠ row) : w'.heap[b]? = some o := by
  rw [hg.block b (lt_of_block hb) hn]; exact hb
theorem grow_mod {w w' : World} {g : Nat} (hg : w.grownBy w' (some g)) : Mod [g] w w' := ⟨hg.os, hg.tape, hg.output, hg.size, fun k hk hn => hg.block k hk (by simpa using hn)⟩

/-- The words have grown, and the heap has been told. -/
theorem HeapAt.grewWords {W W3 : World} {L : HLoc} {h : HeapS} (ha : HeapAt W L h) {g1 n1 q1 : Nat} {ws' : List Int} (hn : n1 = ws'.length)
    (hown : W3.ownsRow 0 24 1 (.slice (some ⟨g1, 0, none⟩) n1 q1) n1 (u32s ws')) (hg : W.grownBy W3 (some L.gw)) :
    HeapAt (W3.setCell ⟨L.b, 0, none⟩ (.slice (some ⟨g1, 0, none⟩) n1 q1)) { L with gw := g1, cw := q1 } { h with words := ws' } ∧ Mod L.blocks W (W3.setCell ⟨L.b, 0, none⟩ (.slice (some ⟨g1, 0, none⟩) n1 q1)) := by
  subst hn
  have hd := ha.distinct
  have bB := grow_keep hg ha.blk (by simp; omega)
  have hm := mod_setCell W3 ⟨L.b, 0, none⟩ (.slice (some ⟨g1, 0, none⟩) ws'.length q1)
  have hg1 := grow_mod hg
  obtain ⟨cur, hcur, _⟩ := row_block hown
  have hne : L.b ≠ g1 := block_ne bB hcur (by simp)
  refine ⟨⟨by simpa using setB (i := 0) bB (.slice (some ⟨g1, 0, none⟩) ws'.length q1), hm.row hown ?_, hm.row (hg1.row ha.starts ?_) ?_, hm.row (hg1.row ha.roots ?_) ?_⟩, ?_⟩
  any_goals (intro g hg; cases hg; simp; omega)
  exact (hg1.mono (by simp [HLoc.blocks])).trans (hm.mono (by simp [HLoc.blocks]))
theorem HeapAt.grewStarts {W W3 : World} {L : HLoc} {h : HeapS} (ha : HeapAt W L h) {g1 n1 q1 : Nat} {ss' : List Bool} (hn : n1 = ss'.length)
    (hown : W3.ownsRow 0 4 1 (.slice (some ⟨g1, 0, none⟩) n1 q1) n1 (bools ss')) (hg : W.grownBy W3 (some L.gs)) :
    HeapAt (W3.setCell ⟨L.b, 1, none⟩ (.slice (some ⟨g1, 0, none⟩) n1 q1)) { L with gs := g1, cs := q1 } { h with starts := ss' } ∧ Mod L.blocks W (W3.setCell ⟨L.b, 1, none⟩ (.slice (some ⟨g1, 0, none⟩) n1 q1)) := by
  subst hn
  have hd := ha.distinct
  have bB := grow_keep hg ha.blk (by simp; omega)
  have hm := mod_setCell W3 ⟨L.b, 1, none⟩ (.slice (some ⟨g1, 0, none⟩) ss'.length q1)
  have hg1 := grow_mod hg
  obtain ⟨cur, hcur, _⟩ := row_block hown
  have hne : L.b ≠ g1 := block_ne bB hcur (by simp)
  refine ⟨⟨by simpa using setB (i := 1) bB (.slice (some ⟨g1, 0, none⟩) ss'.length q1), hm.row (hg1.row ha.words ?_) ?_, hm.row hown ?_, hm.row (hg1.row ha.roots ?_) ?_⟩, ?_⟩
  any_goals (intro g hg; cases hg; simp; omega)
  exact (hg1.mono (by simp [HLoc.blocks])).trans (hm.mono (by simp [HLoc.blocks]))

theorem Mod.via {S S' : List Nat} {w a b : World} (h : Mod S w a) (k : Mod S' a b) (hs : ∀ x, x ∈ S' → x ∈ S ∨ w.heap.size ≤ x) : Mod S w b :=
  ⟨k.os.trans h.os, k.tape.trans h.tape, k.output.trans h.output, Nat.le_trans h.size k.size, fun i hi hn => (k.block i (Nat.lt_of_lt_of_le hi h.size) (fun hx => by rcases hs i hx with h1 | h1; exact hn h1; omega)).trans (h.block i hi hn)⟩

theorem HeapAt.setStart (ha : HeapAt w L h) (j : Nat) (x : Bool) : HeapAt (w.setCell ⟨L.gs, j, none⟩ (.bool x)) L { h with starts := h.starts.set j x } ∧ Mod L.blocks w (w.setCell ⟨L.gs, j, none⟩ (.bool x)) := by
  have hd := ha.distinct
  have hm := mod_setCell w ⟨L.gs, j, none⟩ (.bool x)
  have hs := row_set ha.starts j (.bool x)
  rw [bools_set] at hs
  refine ⟨⟨?_, hm.row ha.words ?_, by simpa using hs, hm.row ha.roots ?_⟩, hm.mono (by simp [HLoc.blocks])⟩
  · rw [hm.keep ha.blk (by simp; omega)]; simp
  all_goals (intro g hg; cases hg; simp; omega)

def fillW (h : HeapS) (H : Hdr) : Int := if H.fmt == 1 || H.fmt == 4 then wd h.roots 0 else 0
def allocH (h : HeapS) (H : Hdr) : HeapS :=
  { h with words := h.words ++ [packW H, H.cls, h.last + 1] ++ List.replicate H.size.toNat (fillW h H), starts := (h.starts ++ List.replicate (3 + H.size.toNat) false).set h.words.length true, last := h.last + 1 }

def AllocR (w : World) (L : HLoc) (h' : HeapS) (o : Int) (e : Ending) (w' : World) : Prop :=
  e = .returned (.tuple #[.int .u32 o, .int .i64 0]) ∧ ∃ L' : HLoc, L'.b = L.b ∧ HeapAt w' L' h' ∧ Mod L.blocks w w' ∧ (∀ x, x ∈ L'.blocks → x ∈ L.blocks ∨ w.heap.size ≤ x)

set_option maxRecDepth 100000 in
set_option maxHeartbeats 2000000 in
theorem alloc_ok (ha : HeapAt w L h) (wf : WF h os) (hs : Spares w) (H : Hdr) (hm : mayB H = true) (c0 : 0 ≤ H.cls) (c1 : H.cls < 4294967296) (hc : classOK os H.cls = true) (hroom : (h.words.length : Int) + 3 + H.size ≤ h.size) (hlast : h.last ≠ 4294967295) (hz : ¬ 0 ∈ L.blocks) :
    Calls Tryz.prog 83 #[.pointer (some ⟨L.b, 0, none⟩), H.val] w (AllocR w L (allocH h H) (2 * h.words.length)) := by
  have hp := hs.pos
  have hbd := mayB_bounds hm
  have HC := Lib.hid (fun W (hE : Ext w W) => class_any (ha.keep hE) wf H.cls c0 c1)
  rw [hc] at HC
  have HM := Lib.hid (fun W (hE : Ext w W) => made_ok (ha.keep hE) wf)
  have HP := Lib.hid (fun W (hE : Mod L.blocks w W) ser => packH_ok { H with ser := ser } W (hs.mod hE hz) hm)
  have HPT := Lib.hid (fun W ser => pointers_any { H with ser := ser } W)
  have HAT := Lib.hid (fun W => at_ok h.words.length W (by have := wf.pos; omega) (by have := wf.big; omega))
  have hrl := wf.rlen
  have HSL := Lib.hid wf.slen
  have hbig := wf.big
  have s0 := wf.size0
  have s1 := wf.size1
  have l0 := wf.last0
  have l1 := wf.last1
  obtain ⟨k1, k2⟩ := ha.rules
  have HA := Lib.hid ha
  have hlt := ha.lt
  obtain ⟨A, B, C, c, s⟩ := H
  simp only [Hdr.val, Hdr.cells] at *
  have hl2 : (h.last == 4294967295) = false := by simpa using hlast
  have hr2 : decide (h.size < (h.words.length : Int) + 3 + A) = false := by simp; omega
  obtain ⟨b1, b2, b3, b4, b5, b6⟩ := hbd
  have e1 : IntKind.u32.wrap (h.last + 1) = h.last + 1 := wraps_u32 _ (by omega) (by omega)
  clear wf hs hm hc ha hlast
  go_enter Tryz.func83, Tryz.ntmps83
  go_wp2_with (first | (go_at_call 111; refine (HC.out _ ((Ext.refl _).alloc _)).mono ?_; rintro e w' ⟨rfl, rfl⟩))
  go_quiet ((go_at_call 47; exact Calls.quiet_of_same ((HM.out _ (((Ext.refl _).alloc _).drewN _)).mono (fun _ _ hq => ⟨hq.1, hq.2.symm⟩))))
  go_wp2_with fail
  have hd := HA.out.distinct
  obtain ⟨W1, hW1⟩ : ∃ W1, W1 = ((((w.alloc (Obj.cells #[Value.int IntKind.i64 A, Value.int IntKind.i64 B, Value.int IntKind.i64 C, Value.int IntKind.u32 c, Value.int IntKind.u32 s] 65)).drewN nq).setCell { block := L.b, off := 4 } (Value.int IntKind.u32 (h.last + 1))).setCell { block := w.heap.size, off := 4 } (Value.int IntKind.u32 (h.last + 1))) := ⟨_, rfl⟩
  rw [← hW1]
  have M1 : Mod L.blocks w W1 := by
    rw [hW1]
    have a1 : Mod L.blocks w ((w.alloc (Obj.cells #[Value.int IntKind.i64 A, Value.int IntKind.i64 B, Value.int IntKind.i64 C, Value.int IntKind.u32 c, Value.int IntKind.u32 s] 65)).drewN nq) := (((Ext.refl w).alloc _).drewN nq).mod _
    have a2 := a1.trans ((mod_setCell _ ⟨L.b, 4, none⟩ (Value.int IntKind.u32 (h.last + 1))).mono (by simp [HLoc.blocks]))
    refine ⟨a2.os, a2.tape, a2.output, ?_, ?_⟩
    · have := a2.size; simp [World.setCell] at this ⊢
    · intro k hk hn
      rw [Below.heap_setCell _ _ _ _ (by simp; omega)]
      exact a2.block k hk hn
  have F1 : HeapAt W1 L { h with last := h.last + 1 } := by
    rw [hW1]
    exact ((HA.out.keep (((Ext.refl w).alloc _).drewN nq)).setLast (h.last + 1)).setFar _ (fun hx => by have := HA.out.bl _ hx; simp at this) _
  have F2 : W1.heap[w.heap.size]? = some (.cells #[Value.int IntKind.i64 A, Value.int IntKind.i64 B, Value.int IntKind.i64 C, Value.int IntKind.u32 c, Value.int IntKind.u32 (h.last + 1)] 65) := by
    rw [hW1]
    have q := setB (i := 4) (keepS (a := ⟨L.b, 4, none⟩) (w := (w.alloc (Obj.cells #[Value.int IntKind.i64 A, Value.int IntKind.i64 B, Value.int IntKind.i64 C, Value.int IntKind.u32 c, Value.int IntKind.u32 s] 65)).drewN nq) (newB w _ _ rfl) (by simp; omega) (Value.int IntKind.u32 (h.last + 1))) (Value.int IntKind.u32 (h.last + 1))
    simpa using q
  have hw1 : w.heap.size < W1.heap.size := lt_of_block F2
  clear hW1 k1 k2
  refine (HP.out W1 M1 _).mono ?_
  rintro e W2 ⟨rfl, hb2⟩
  have F3 := F1.keep hb2
  obtain ⟨k1, k2⟩ := F3.rules
  obtain ⟨j1, j2⟩ := blk (hb2.keep F2)
  have hl3 := F3.lt
  have hl4 := lt_of_block (hb2.keep F2)
  have M2 := Lib.hid (M1.ext hb2)
  have G3 := Lib.hid F3
  have G2 := Lib.hid (hb2.keep F2)
  clear F1 F2 M1 F3 hb2
  go_wp2_with fail
  generalize hpw : packW { size := A, fmt := B, spare := C, cls := c, ser := h.last + 1 } = PW at *
  have HPW := Lib.hid hpw
  clear hpw
  obtain ⟨i0, hi, hz0, hz1, hz2⟩ := info_parts Tryz.cinfo24
  have RW : Hid ((W2.alloc (Obj.cells #[Value.int IntKind.u32 PW, Value.int IntKind.u32 c, Value.int IntKind.u32 (h.last + 1)] 119)).drew.ownsRow 0 24 1 (.slice (some ⟨L.gw, 0, none⟩) h.words.length L.cw) h.words.length (u32s h.words)) := row_keep G3.out.words ((Ext.refl _).alloc _).drew
  have RN : Hid (RRow (W2.alloc (Obj.cells #[Value.int IntKind.u32 PW, Value.int IntKind.u32 c, Value.int IntKind.u32 (h.last + 1)] 119)).drew ⟨W2.heap.size, 0, none⟩ (u32s [PW, c, h.last + 1])) := row_read (row_keep (World.ownsRow_lit (base := 0) (e := 119) W2 #[Value.int IntKind.u32 PW, Value.int IntKind.u32 c, Value.int IntKind.u32 (h.last + 1)] 3 (Nat.zero_le _) (by unfold maxLen; omega) rfl) (Ext.refl _).drew)
  have LB : Hid ((W2.alloc (Obj.cells #[Value.int IntKind.u32 PW, Value.int IntKind.u32 c, Value.int IntKind.u32 (h.last + 1)] 119)).drew.heap[L.b]? = _) := (keepB G3.out.blk _ : _)
  go_region_law (refine step_append_lies _ rfl _ _ _ rfl 0 24 i0 _ 1 4 Tryz.underlying22 hi hz0 hz1 hz2 rfl (by omega) (.slice (some ⟨L.gw, 0, none⟩) h.words.length L.cw) h.words.length (u32s h.words) (by simp [Act.eval]) RW.out ⟨W2.heap.size, 0, none⟩ 3 3 (u32s [PW, c, h.last + 1]) (by simp [Act.eval]) rfl RN.out (u32s_one _) (by omega) (by unfold maxLen; omega) (by omega) (Nat.zero_le _) (W2.heap.size + 1) (by simp) ?_; intro g1 q1 w3 hown hgrow hat hlt3; obtain ⟨m1, m2⟩ := blk (grow_keep hgrow LB.out (by simp [Value.ownBlock]; omega)))
  have hown2 : w3.ownsRow 0 24 1 (.slice (some ⟨g1, 0, none⟩) (h.words.length + 3) q1) (h.words.length + 3) (u32s (h.words ++ [PW, c, h.last + 1])) := by
    have : u32s (h.words ++ [PW, c, h.last + 1]) = u32s h.words ++ u32s [PW, c, h.last + 1] := by simp [u32s]
    rw [this]; exact hown
  have G4 := Lib.hid ((G3.out.keep (((Ext.refl _).alloc _).drew)).grewWords (by simp) hown2 hgrow)
  have G5 : Hid ((w3.setCell ⟨L.b, 0, none⟩ (.slice (some ⟨g1, 0, none⟩) (h.words.length + 3) q1)).heap[w.heap.size]? = _) := keepS (grow_keep hgrow (keepB G2.out _) (by have := G3.out.bl L.gw (by simp [HLoc.blocks]); have := HA.out.bl L.gw (by simp [HLoc.blocks]); simp [Value.ownBlock]; omega)) (by simp; omega) _
  obtain ⟨W4, hW4⟩ : ∃ W4, W4 = w3.setCell ⟨L.b, 0, none⟩ (.slice (some ⟨g1, 0, none⟩) (h.words.length + 3) q1) := ⟨_, rfl⟩
  rw [← hW4] at G4 G5 ⊢
  have M4 := Lib.hid (M2.out.trans ((((Ext.refl _).alloc _).drew.mod _).trans G4.out.2))
  have HL : Hid (g1 = L.gw ∨ w.heap.size ≤ g1) := by
    rcases hat with h1 | h1
    · exact .inl (by simpa [Value.ownBlock, eq_comm] using h1)
    · exact .inr (by omega)
  clear hW4 hown hown2 hgrow hat m1 m2 k1 k2 j1 j2 RW RN LB G3 G2 M2 hlt3
  obtain ⟨k1, k2⟩ := G4.out.1.rules
  obtain ⟨j1, j2⟩ := blk G5.out
  dsimp only at k1 k2
  go_wp2_with fail
  refine (HPT.out W4 (h.last + 1)).mono ?_
  rintro e W5 ⟨rfl, hb5⟩
  have G6 := Lib.hid (G4.out.1.keep hb5)
  have G7 := Lib.hid (hb5.keep G5.out)
  have M5 := Lib.hid (M4.out.ext hb5)
  clear k1 k2 j1 j2 hb5 G4 G5 M4
  obtain ⟨k1, k2⟩ := G6.out.rules
  obtain ⟨j1, j2⟩ := blk G7.out
  dsimp only at k1 k2
  obtain ⟨An, hAn⟩ : ∃ An : Nat, A = An := ⟨A.toNat, by omega⟩
  subst hAn
  obtain ⟨FV, hFV⟩ : ∃ FV, fillW h ⟨An, B, C, c, s⟩ = FV := ⟨_, rfl⟩
  have r0 := (HA.out.root 0 (by rw [hrl]; omega))
  have r0' := G6.out.root 0 (by show 0 < h.roots.length; omega)
  dsimp only at r0'
  have hrl2 : (0 : Int) < (h.roots.length : Int) := by omega
  cases hpt : (B == 1 || B == 4)
  · have hf0 : FV = 0 := by rw [← hFV, fillW]; simp [hpt]
    have HFV := Lib.hid hFV
    have HF0 := Lib.hid hf0
    clear hFV hf0 r0
    go_wp2_with fail
    rw [show Value.int IntKind.u32 0 = Value.int IntKind.u32 FV from by rw [HF0.out]]
    clear k1 k2 j1 j2 r0'
    go_loopw [84] (fun i wr => ∃ (k g q : Nat), k ≤ An ∧ i = .int .i64 k ∧ HeapAt wr { L with gw := g, cw := q } { h with words := h.words ++ [PW, c, h.last + 1] ++ List.replicate k FV, last := h.last + 1 } ∧ wr.heap[w.heap.size]? = some (.cells #[Value.int IntKind.i64 ↑An, Value.int IntKind.i64 B, Value.int IntKind.i64 C, Value.int IntKind.u32 c, Value.int IntKind.u32 (h.last + 1)] 65) ∧ Mod L.blocks w wr ∧ (g = L.gw ∨ w.heap.size ≤ g)) (fun i _ => An - (intOf i).toNat)
    case atStart => exact ⟨0, g1, q1, by omega, rfl, by simpa using G6.out, G7.out, M5.out, HL.out⟩
    case round =>
      obtain ⟨k, g, q, hk, rfl, f1, f2, f3, f4⟩ := hrel
      have hlen : (h.words ++ [PW, c, h.last + 1] ++ List.replicate k FV).length = h.words.length + 3 + k := by simp; omega
      obtain ⟨k1, k2⟩ := f1.rules
      obtain ⟨j1, j2⟩ := blk f2
      dsimp only at k1 k2
      rw [hlen] at k1
      have hwr := lt_of_block f2
      have ROW : Hid (wr.ownsRow 0 24 1 (.slice (some ⟨g, 0, none⟩) (h.words.length + 3 + k) q) (h.words.length + 3 + k) (u32s (h.words ++ [PW, c, h.last + 1] ++ List.replicate k FV))) := by have := f1.words; dsimp only at this; rw [hlen] at this; exact this
      have hbl := f1.lt
      have hd1 := f1.distinct
      dsimp only at hbl hd1
      have F1 := Lib.hid f1
      have F2 := Lib.hid f2
      have F3 := Lib.hid f3
      have F4 := Lib.hid f4
      clear f1 f2 f3 f4 hlen
      by_cases hlt : k < An
      · have NW : Hid (RRow (wr.alloc (.cells #[.int .u32 FV] 24)) ⟨wr.heap.size, 0, none⟩ (u32s [FV])) := row_read (World.ownsRow_lit (base := 0) wr #[.int .u32 FV] 1 (Nat.zero_le _) (by unfold maxLen; omega) rfl)
        have LB : Hid ((wr.alloc (.cells #[.int .u32 FV] 24)).heap[L.b]? = _) := keepB F1.out.blk _
        go_wp2_with (at_builtin; refine wpList_append_lies _ rfl _ _ _ rfl 0 24 i0 _ 1 4 Tryz.underlying22 hi hz0 hz1 hz2 rfl (by omega) _ (h.words.length + 3 + k) _ rfl (ROW.out.alloc _) ⟨wr.heap.size, 0, none⟩ 1 1 (u32s [FV]) rfl rfl NW.out (u32s_one _) (by omega) (by unfold maxLen; omega) (by omega) (Nat.zero_le _) (wr.heap.size + 1) (by simp) ?_; intro g' q' w6 hown hgrow hat hlt6; obtain ⟨m1, m2⟩ := blk (grow_keep hgrow LB.out (by simp [Value.ownBlock, go_sem]; omega)))
        have hown2 : w6.ownsRow 0 24 1 (.slice (some ⟨g', 0, none⟩) (h.words.length + 3 + k + 1) q') (h.words.length + 3 + k + 1) (u32s (h.words ++ [PW, c, h.last + 1] ++ List.replicate (k + 1) FV)) := by
          have : u32s (h.words ++ [PW, c, h.last + 1] ++ List.replicate (k + 1) FV) = u32s (h.words ++ [PW, c, h.last + 1] ++ List.replicate k FV) ++ u32s [FV] := by rw [List.replicate_succ']; simp [u32s]
          rw [this]; exact hown
        have G := (F1.out.keep ((Ext.refl _).alloc _)).grewWords (ws' := h.words ++ [PW, c, h.last + 1] ++ List.replicate (k + 1) FV) (by simp; omega) hown2 hgrow
        have hne : g ≠ w.heap.size := by
          obtain ⟨cur, hcur, _⟩ := row_block ROW.out
          exact block_ne hcur F2.out (by simp)
        have hlb := HA.out.lt
        have G2 := keepS (a := ⟨L.b, 0, none⟩) (grow_keep hgrow (keepB F2.out _) (by simp [Value.ownBlock, go_sem]; omega)) (by simp; omega) (.slice (some ⟨g', 0, none⟩) (h.words.length + 3 + k + 1) q')
        have HX : Hid (g' = L.gw ∨ w.heap.size ≤ g') := by
          have hw0 := F4.out
          rcases hat with h1 | h1
          · have : g = g' := by simpa [Value.ownBlock, go_sem] using h1
            subst this; exact hw0
          · exact .inr (by omega)
        have MX := Lib.hid (F3.out.via ((((Ext.refl _).alloc _).mod _).trans G.2) (by
          intro x hx
          have hw0 := F4.out
          simp only [HLoc.blocks, List.mem_cons, List.not_mem_nil, or_false] at hx ⊢
          omega))
        have GX := Lib.hid G.1
        have G2X := Lib.hid G2
        clear hown hown2 hgrow hat G G2
        refine ⟨⟨k + 1, g', q', ?_⟩, ?_⟩
        · exact ⟨by omega, by go_num, GX.out, G2X.out, MX.out, HX.out⟩
        · simp [intOf]; omega
      · obtain rfl : k = An := by omega
        obtain ⟨u0, ui, uz0, uz1, uz2⟩ := info_parts Tryz.cinfo4
        have SR : Hid (wr.drew.ownsRow 0 4 1 (.slice (some ⟨L.gs, 0, none⟩) h.starts.length L.cs) h.starts.length (bools h.starts)) := row_keep F1.out.starts (Ext.refl _).drew
        have LB : Hid (wr.drew.heap[L.b]? = _) := F1.out.blk
        dsimp only at LB
        have p1 : IntKind.i64.wrap (3 + (k : Int)) = 3 + (k : Int) := IntWalk.i64_in _ (by omega)
        have hsl2 : h.starts.length ≤ 1048576 := by have := HSL.out; omega
        go_wp2_with fail
        go_region_law (refine step_append_zeros_own _ rfl _ _ _ _ rfl 0 4 u0 (.bool false) 1 .i64 .i64 Tryz.underlying120 Tryz.underlying3 ui uz0 uz1 uz2 rfl rfl L.gs h.starts.length L.cs (bools h.starts) (by simp [Act.eval, Act.put]) SR.out (3 + k) (3 + (k : Int)) (by simp [Act.eval, Act.put]) (by omega) (by omega) (by unfold maxLen; omega) (by omega) (Nat.zero_le _) ?_; intro g' q' w6 hown hgrow hat; obtain ⟨m1, m2⟩ := blk (grow_keep hgrow LB.out (by simp; omega)))
        all_goals
          have hown2 : w6.ownsRow 0 4 1 (.slice (some ⟨g', 0, none⟩) (h.starts.length + (3 + k)) q') (h.starts.length + (3 + k)) (bools (h.starts ++ List.replicate (3 + k) false)) := by
            have : bools (h.starts ++ List.replicate (3 + k) false) = bools h.starts ++ List.replicate (3 + k) (.bool false) := by simp [bools]
            rw [this]; exact hown
          have G := (F1.out.keep (Ext.refl _).drew).grewStarts (ss' := h.starts ++ List.replicate (3 + k) false) (by simp) hown2 hgrow
          have MX := Lib.hid (F3.out.via (((Ext.refl _).drew.mod _).trans G.2) (by
            intro x hx
            have hw0 := F4.out
            simp only [HLoc.blocks, List.mem_cons, List.not_mem_nil, or_false] at hx ⊢
            omega))
          have GX := Lib.hid G.1
          have HX : Hid (g' = L.gs ∨ w.heap.size ≤ g') := by
            rcases hat with h1 | h1
            · exact .inl h1
            · exact .inr (by rw [h1]; show w.heap.size ≤ wr.heap.size; omega)
          obtain ⟨W7, hW7⟩ : ∃ W7, W7 = w6.setCell ⟨L.b, 1, none⟩ (.slice (some ⟨g', 0, none⟩) (h.starts.length + (3 + k)) q') := ⟨_, rfl⟩
          rw [← hW7] at MX GX ⊢
          clear hown hown2 hgrow hat G m1 m2 hW7 k1 k2 j1 j2
          obtain ⟨k1, k2⟩ := GX.out.rules
          dsimp only at k1 k2
          have hst := GX.out.start h.words.length (by have := HSL.out; simp; omega)
          have hfz := row_free GX.out.starts h.words.length
          dsimp only at hst hfz
          have hi1 : (h.words.length : Int) < ((h.starts ++ List.replicate (3 + k) false).length : Int) := by have := HSL.out; simp; omega
          have hi0 : (0 : Int) ≤ (h.words.length : Int) := by omega
          generalize hSS : (h.starts ++ List.replicate (3 + k) false) = SS at *
          have HSS := Lib.hid hSS
          clear hSS
          go_wp2_with (go_at_call 121; refine (HAT.out _).mono ?_; rintro e w8 ⟨rfl, rfl⟩)
          go_ret2
          have Q := GX.out.setStart h.words.length true
          have hw0 := F4.out
          have hx0 := HX.out
          have eqH : allocH h ⟨k, B, C, c, s⟩ = { h with words := h.words ++ [PW, c, h.last + 1] ++ List.replicate k FV, starts := SS.set h.words.length true, last := h.last + 1 } := by
            have e1 : packW ⟨k, B, C, c, s⟩ = PW := HPW.out
            simp only [allocH, e1, HFV.out, ← HSS.out]
            simp
          refine ⟨rfl, { L with gw := g, cw := q, gs := g', cs := q' }, rfl, ?_, MX.out.via Q.2 ?_, ?_⟩
          · rw [eqH]; exact Q.1
          · intro x hx
            simp only [HLoc.blocks, List.mem_cons, List.not_mem_nil, or_false] at hx ⊢
            omega
          · intro x hx
            simp only [HLoc.blocks, List.mem_cons, List.not_mem_nil, or_false] at hx ⊢
            omega
  · have hf0 : FV = wd h.roots 0 := by rw [← hFV, fillW]; simp [hpt]
    have HFV := Lib.hid hFV
    have HF0 := Lib.hid hf0
    clear hFV r0
    rw [← hf0] at r0'
    clear hf0
    go_wp2_with fail
    clear k1 k2 j1 j2 r0'
    go_loopw [84] (fun i wr => ∃ (k g q : Nat), k ≤ An ∧ i = .int .i64 k ∧ HeapAt wr { L with gw := g, cw := q } { h with words := h.words ++ [PW, c, h.last + 1] ++ List.replicate k FV, last := h.last + 1 } ∧ wr.heap[w.heap.size]? = some (.cells #[Value.int IntKind.i64 ↑An, Value.int IntKind.i64 B, Value.int IntKind.i64 C, Value.int IntKind.u32 c, Value.int IntKind.u32 (h.last + 1)] 65) ∧ Mod L.blocks w wr ∧ (g = L.gw ∨ w.heap.size ≤ g)) (fun i _ => An - (intOf i).toNat)
    case atStart => exact ⟨0, g1, q1, by omega, rfl, by simpa using G6.out, G7.out, M5.out, HL.out⟩
    case round =>
      obtain ⟨k, g, q, hk, rfl, f1, f2, f3, f4⟩ := hrel
      have hlen : (h.words ++ [PW, c, h.last + 1] ++ List.replicate k FV).length = h.words.length + 3 + k := by simp; omega
      obtain ⟨k1, k2⟩ := f1.rules
      obtain ⟨j1, j2⟩ := blk f2
      dsimp only at k1 k2
      rw [hlen] at k1
      have hwr := lt_of_block f2
      have ROW : Hid (wr.ownsRow 0 24 1 (.slice (some ⟨g, 0, none⟩) (h.words.length + 3 + k) q) (h.words.length + 3 + k) (u32s (h.words ++ [PW, c, h.last + 1] ++ List.replicate k FV))) := by have := f1.words; dsimp only at this; rw [hlen] at this; exact this
      have hbl := f1.lt
      have hd1 := f1.distinct
      dsimp only at hbl hd1
      have F1 := Lib.hid f1
      have F2 := Lib.hid f2
      have F3 := Lib.hid f3
      have F4 := Lib.hid f4
      clear f1 f2 f3 f4 hlen
      by_cases hlt : k < An
      · have NW : Hid (RRow (wr.alloc (.cells #[.int .u32 FV] 24)) ⟨wr.heap.size, 0, none⟩ (u32s [FV])) := row_read (World.ownsRow_lit (base := 0) wr #[.int .u32 FV] 1 (Nat.zero_le _) (by unfold maxLen; omega) rfl)
        have LB : Hid ((wr.alloc (.cells #[.int .u32 FV] 24)).heap[L.b]? = _) := keepB F1.out.blk _
        go_wp2_with (at_builtin; refine wpList_append_lies _ rfl _ _ _ rfl 0 24 i0 _ 1 4 Tryz.underlying22 hi hz0 hz1 hz2 rfl (by omega) _ (h.words.length + 3 + k) _ rfl (ROW.out.alloc _) ⟨wr.heap.size, 0, none⟩ 1 1 (u32s [FV]) rfl rfl NW.out (u32s_one _) (by omega) (by unfold maxLen; omega) (by omega) (Nat.zero_le _) (wr.heap.size + 1) (by simp) ?_; intro g' q' w6 hown hgrow hat hlt6; obtain ⟨m1, m2⟩ := blk (grow_keep hgrow LB.out (by simp [Value.ownBlock, go_sem]; omega)))
        have hown2 : w6.ownsRow 0 24 1 (.slice (some ⟨g', 0, none⟩) (h.words.length + 3 + k + 1) q') (h.words.length + 3 + k + 1) (u32s (h.words ++ [PW, c, h.last + 1] ++ List.replicate (k + 1) FV)) := by
          have : u32s (h.words ++ [PW, c, h.last + 1] ++ List.replicate (k + 1) FV) = u32s (h.words ++ [PW, c, h.last + 1] ++ List.replicate k FV) ++ u32s [FV] := by rw [List.replicate_succ']; simp [u32s]
          rw [this]; exact hown
        have G := (F1.out.keep ((Ext.refl _).alloc _)).grewWords (ws' := h.words ++ [PW, c, h.last + 1] ++ List.replicate (k + 1) FV) (by simp; omega) hown2 hgrow
        have hne : g ≠ w.heap.size := by
          obtain ⟨cur, hcur, _⟩ := row_block ROW.out
          exact block_ne hcur F2.out (by simp)
        have hlb := HA.out.lt
        have G2 := keepS (a := ⟨L.b, 0, none⟩) (grow_keep hgrow (keepB F2.out _) (by simp [Value.ownBlock, go_sem]; omega)) (by simp; omega) (.slice (some ⟨g', 0, none⟩) (h.words.length + 3 + k + 1) q')
        have HX : Hid (g' = L.gw ∨ w.heap.size ≤ g') := by
          have hw0 := F4.out
          rcases hat with h1 | h1
          · have : g = g' := by simpa [Value.ownBlock, go_sem] using h1
            subst this; exact hw0
          · exact .inr (by omega)
        have MX := Lib.hid (F3.out.via ((((Ext.refl _).alloc _).mod _).trans G.2) (by
          intro x hx
          have hw0 := F4.out
          simp only [HLoc.blocks, List.mem_cons, List.not_mem_nil, or_false] at hx ⊢
          omega))
        have GX := Lib.hid G.1
        have G2X := Lib.hid G2
        clear hown hown2 hgrow hat G G2
        refine ⟨⟨k + 1, g', q', ?_⟩, ?_⟩
        · exact ⟨by omega, by go_num, GX.out, G2X.out, MX.out, HX.out⟩
        · simp [intOf]; omega
      · obtain rfl : k = An := by omega
        obtain ⟨u0, ui, uz0, uz1, uz2⟩ := info_parts Tryz.cinfo4
        have SR : Hid (wr.drew.ownsRow 0 4 1 (.slice (some ⟨L.gs, 0, none⟩) h.starts.length L.cs) h.starts.length (bools h.starts)) := row_keep F1.out.starts (Ext.refl _).drew
        have LB : Hid (wr.drew.heap[L.b]? = _) := F1.out.blk
        dsimp only at LB
        have p1 : IntKind.i64.wrap (3 + (k : Int)) = 3 + (k : Int) := IntWalk.i64_in _ (by omega)
        have hsl2 : h.starts.length ≤ 1048576 := by have := HSL.out; omega
        go_wp2_with fail
        go_region_law (refine step_append_zeros_own _ rfl _ _ _ _ rfl 0 4 u0 (.bool false) 1 .i64 .i64 Tryz.underlying120 Tryz.underlying3 ui uz0 uz1 uz2 rfl rfl L.gs h.starts.length L.cs (bools h.starts) (by simp [Act.eval, Act.put]) SR.out (3 + k) (3 + (k : Int)) (by simp [Act.eval, Act.put]) (by omega) (by omega) (by unfold maxLen; omega) (by omega) (Nat.zero_le _) ?_; intro g' q' w6 hown hgrow hat; obtain ⟨m1, m2⟩ := blk (grow_keep hgrow LB.out (by simp; omega)))
        all_goals
          have hown2 : w6.ownsRow 0 4 1 (.slice (some ⟨g', 0, none⟩) (h.starts.length + (3 + k)) q') (h.starts.length + (3 + k)) (bools (h.starts ++ List.replicate (3 + k) false)) := by
            have : bools (h.starts ++ List.replicate (3 + k) false) = bools h.starts ++ List.replicate (3 + k) (.bool false) := by simp [bools]
            rw [this]; exact hown
          have G := (F1.out.keep (Ext.refl _).drew).grewStarts (ss' := h.starts ++ List.replicate (3 + k) false) (by simp) hown2 hgrow
          have MX := Lib.hid (F3.out.via (((Ext.refl _).drew.mod _).trans G.2) (by
            intro x hx
            have hw0 := F4.out
            simp only [HLoc.blocks, List.mem_cons, List.not_mem_nil, or_false] at hx ⊢
            omega))
          have GX := Lib.hid G.1
          have HX : Hid (g' = L.gs ∨ w.heap.size ≤ g') := by
            rcases hat with h1 | h1
            · exact .inl h1
            · exact .inr (by rw [h1]; show w.heap.size ≤ wr.heap.size; omega)
          obtain ⟨W7, hW7⟩ : ∃ W7, W7 = w6.setCell ⟨L.b, 1, none⟩ (.slice (some ⟨g', 0, none⟩) (h.starts.length + (3 + k)) q') := ⟨_, rfl⟩
          rw [← hW7] at MX GX ⊢
          clear hown hown2 hgrow hat G m1 m2 hW7 k1 k2 j1 j2
          obtain ⟨k1, k2⟩ := GX.out.rules
          dsimp only at k1 k2
          have hst := GX.out.start h.words.length (by have := HSL.out; simp; omega)
          have hfz := row_free GX.out.starts h.words.length
          dsimp only at hst hfz
          have hi1 : (h.words.length : Int) < ((h.starts ++ List.replicate (3 + k) false).length : Int) := by have := HSL.out; simp; omega
          have hi0 : (0 : Int) ≤ (h.words.length : Int) := by omega
          generalize hSS : (h.starts ++ List.replicate (3 + k) false) = SS at *
          have HSS := Lib.hid hSS
          clear hSS
          go_wp2_with (go_at_call 121; refine (HAT.out _).mono ?_; rintro e w8 ⟨rfl, rfl⟩)
          go_ret2
          have Q := GX.out.setStart h.words.length true
          have hw0 := F4.out
          have hx0 := HX.out
          have eqH : allocH h ⟨k, B, C, c, s⟩ = { h with words := h.words ++ [PW, c, h.last + 1] ++ List.replicate k FV, starts := SS.set h.words.length true, last := h.last + 1 } := by
            have e1 : packW ⟨k, B, C, c, s⟩ = PW := HPW.out
            simp only [allocH, e1, HFV.out, ← HSS.out]
            simp
          refine ⟨rfl, { L with gw := g, cw := q, gs := g', cs := q' }, rfl, ?_, MX.out.via Q.2 ?_, ?_⟩
          · rw [eqH]; exact Q.1
          · intro x hx
            simp only [HLoc.blocks, List.mem_cons, List.not_mem_nil, or_false] at hx ⊢
            omega
          · intro x hx
            simp only [HLoc.blocks, List.mem_cons, List.not_mem_nil, or_false] at hx ⊢
            omega

end
end Go.Proofs.Eff

/- What heap.alloc leaves is a heap; Alloc. -/
namespace Go.Proofs.Eff
theorem wd_append_left {l m : List Int} {i : Nat} (h : i < l.length) : wd (l ++ m) i = wd l i := by simp [wd, List.getElem?_append_left h]
theorem wd_append_right {l m : List Int} {i : Nat} (h : l.length ≤ i) : wd (l ++ m) i = wd m (i - l.length) := by simp [wd, List.getElem?_append_right h]
theorem sizeAt_append {l m : List Int} {i : Nat} (h : i < l.length) : sizeAt (l ++ m) i = sizeAt l i := by simp [sizeAt, wd_append_left h]
theorem Laid.append {ws m : List Int} {a : Nat} {os os' : List Nat} (h : Laid ws a os) (h' : Laid (ws ++ m) ws.length os') (_hm : m ≠ []) : Laid (ws ++ m) a (os ++ os') := by
  induction os generalizing a with
  | nil => simp only [Laid] at h; subst h; exact h'
  | cons x l ih =>
    obtain ⟨rfl, h2, h3, h4⟩ := h
    have hx : x < ws.length := by omega
    refine ⟨rfl, ?_, ?_, ?_⟩
    · rw [sizeAt_append hx]; simp; omega
    · rw [wd_append_left hx]; exact h3
    · rw [sizeAt_append hx]; exact ih h4

theorem hdrOf_pack {H : Hdr} (hm : mayB H = true) (c s : Int) : hdrOf (packW H) c s = { H with cls := c, ser := s } := by
  have hb := mayB_bounds hm
  obtain ⟨A, B, C, c', s'⟩ := H
  simp only at hb
  simp only [hdrOf, packW, Hdr.mk.injEq, and_true]
  refine ⟨by omega, by omega, by omega⟩
theorem okW_pack' {H : Hdr} (hm : mayB H = true) : okW (packW H) = true := by
  have hb := mayB_bounds hm
  have he : mayB (hdrOf (packW H) 0 0) = true := by rw [hdrOf_pack hm]; exact hm
  have hz : packW H / 536870912 = 0 := by
    obtain ⟨A, B, C, c', s'⟩ := H
    simp only at hb
    simp only [packW]; omega
  simp [okW, he, hz]
theorem packW_rng {H : Hdr} (hm : mayB H = true) : 0 ≤ packW H ∧ packW H < 4294967296 := by
  have hb := mayB_bounds hm
  obtain ⟨A, B, C, c', s'⟩ := H
  simp only at hb
  simp only [packW]; omega

section
variable {h : HeapS} {os : List Nat}
theorem allocH_wf (wf : WF h os) {H : Hdr} (hm : mayB H = true) (c0 : 0 ≤ H.cls) (c1 : H.cls < 4294967296) (hroom : (h.words.length : Int) + 3 + H.size ≤ h.size) (hlast : h.last ≠ 4294967295) : WF (allocH h H) (os ++ [h.words.length]) := by
  have hb := mayB_bounds hm
  have hp := packW_rng hm
  have l0 := wf.last0
  have l1 := wf.last1
  have hf : 0 ≤ fillW h H ∧ fillW h H < 4294967296 := by
    unfold fillW; split
    · exact wf.root 0
    · omega
  have hlen : (allocH h H).words.length = h.words.length + 3 + H.size.toNat := by simp [allocH]; omega
  have hsz : sizeAt (allocH h H).words h.words.length = H.size.toNat := by
    have e : wd (allocH h H).words h.words.length = packW H := by
      simp only [allocH, List.append_assoc]; rw [wd_append_right (Nat.le_refl _)]; simp [wd]
    rw [sizeAt, e]
    have := congrArg Hdr.size (hdrOf_pack hm 0 0)
    simp only [hdrOf] at this
    rw [this]
  refine ⟨by rw [hlen]; omega, ?_, ?_, ?_, ?_, wf.rlen, wf.rrng, wf.size0, wf.size1, ?_, ?_, ?_⟩
  · simp only [allocH, List.append_assoc]; rw [wd_append_left wf.pos]; exact wf.zero
  · intro x hx
    simp only [allocH, List.mem_append, List.mem_cons, List.not_mem_nil, or_false, List.mem_replicate] at hx
    rcases hx with (hx | rfl | rfl | rfl) | ⟨_, rfl⟩
    · exact wf.rng x hx
    · exact hp
    · exact ⟨c0, c1⟩
    · omega
    · exact hf
  · have : (allocH h H).words = h.words ++ ([packW H, H.cls, h.last + 1] ++ List.replicate H.size.toNat (fillW h H)) := by simp [allocH]
    rw [this]
    refine wf.laid.append ?_ (by simp)
    rw [← this]
    refine ⟨rfl, by rw [hsz, hlen]; exact Nat.le_refl _, ?_, ?_⟩
    · have e : wd (allocH h H).words h.words.length = packW H := by
        simp only [allocH, List.append_assoc]; rw [wd_append_right (Nat.le_refl _)]; simp [wd]
      rw [e]; exact okW_pack' hm
    · rw [hsz]; simp only [Laid]; rw [hlen]
  · rw [hlen]
    apply List.ext_getElem
    · simp [allocH, wf.slen]; omega
    · intro i h1 h2
      have hsl := wf.slen
      simp only [allocH, List.getElem_set, List.getElem_map, List.getElem_range]
      by_cases hi : h.words.length = i
      · simp [hi]
      · rw [if_neg hi]
        by_cases hlt : i < h.words.length
        · rw [List.getElem_append_left (by omega)]
          have := wf.start hlt
          simp only [bd, List.getElem?_eq_getElem (show i < h.starts.length by omega), Option.getD_some] at this
          rw [this]
          simp; omega
        · rw [List.getElem_append_right (by omega)]
          simp
          refine ⟨fun hm => ?_, by omega⟩
          have := wf.mem hm; omega
  · rw [hlen]; show (((h.words.length + 3 + H.size.toNat : Nat)) : Int) ≤ h.size; omega
  · show 0 ≤ h.last + 1; omega
  · show h.last + 1 < 4294967296; omega

set_option maxRecDepth 100000 in
set_option maxHeartbeats 1000000 in
theorem Alloc_ok {w : World} {L : HLoc} (ha : HeapAt w L h) (wf : WF h os) (hs : Spares w) (cls f sz : Int) (f0 : 1 ≤ f) (f1 : f ≤ 4) (z0 : 0 ≤ sz) (z1 : sz ≤ 65535) (c0 : 0 ≤ cls) (c1 : cls < 4294967296) (hc : classOK os cls = true) (hroom : (h.words.length : Int) + 3 + sz ≤ h.size) (hlast : h.last ≠ 4294967295) (hz : ¬ 0 ∈ L.blocks) :
    Calls Tryz.prog 29 #[.pointer (some ⟨L.b, 0, none⟩), .int .u32 cls, .int .i64 f, .int .i64 sz] w (AllocR w L (allocH h ⟨sz, f, 0, cls, 0⟩) (2 * h.words.length)) := by
  have hm : mayB ⟨sz, f, 0, cls, 0⟩ = true := by simp [mayB]; omega
  have HA := Lib.hid (Eff.alloc_ok ha wf hs ⟨sz, f, 0, cls, 0⟩ hm c0 c1 hc hroom hlast hz)
  simp only [Hdr.val, Hdr.cells] at HA
  clear ha wf hs hm hc
  go_enter Tryz.func29, Tryz.ntmps29
  go_wp2_with (go_at_call 83; refine HA.out.mono ?_; rintro e w' ⟨rfl, hq⟩; have HQ := Lib.hid hq; clear hq)
  go_ret2
  exact ⟨rfl, HQ.out⟩

end
end Go.Proofs.Eff

/- heap.laid: goes through the words and marks where objects begin. -/
namespace Go.Proofs.Eff
open Go.RowKit

/-- Objects lie one behind the other from a word to another; how long the last one is does not matter. -/
def LaidTo (ws : List Int) : Nat → List Nat → Nat → Prop
  | a, [], b => a = b
  | a, x :: l, b => x = a ∧ a + 3 ≤ ws.length ∧ okW (wd ws a) = true ∧ LaidTo ws (a + 3 + sizeAt ws a) l b
theorem LaidTo.le {ws : List Int} : ∀ {l : List Nat} {a b : Nat}, LaidTo ws a l b → a ≤ b := by
  intro l
  induction l with
  | nil => intro a b h; exact Nat.le_of_eq h
  | cons x l ih => rintro a b ⟨_, _, _, h⟩; have := ih h; omega
theorem LaidTo.snoc {ws : List Int} {b : Nat} (h1 : b + 3 ≤ ws.length) (h2 : okW (wd ws b) = true) : ∀ {l : List Nat} {a : Nat}, LaidTo ws a l b → LaidTo ws a (l ++ [b]) (b + 3 + sizeAt ws b) := by
  intro l
  induction l with
  | nil => intro a h; obtain rfl : a = b := h; exact ⟨rfl, h1, h2, rfl⟩
  | cons x l ih => rintro a ⟨e1, e2, e3, e4⟩; exact ⟨e1, e2, e3, ih e4⟩
theorem LaidTo.laid {ws : List Int} : ∀ {l : List Nat} {a : Nat}, LaidTo ws a l ws.length → Laid ws a l := by
  intro l
  induction l with
  | nil => intro a h; exact h
  | cons x l ih => rintro a ⟨e1, e2, e3, e4⟩; exact ⟨e1, e4.le, e3, ih e4⟩
theorem LaidTo.split {ws : List Int} : ∀ {l : List Nat} {a b : Nat} {os : List Nat}, LaidTo ws a l b → Laid ws a os → ∃ os', Laid ws b os' := by
  intro l
  induction l with
  | nil => intro a b os h h2; obtain rfl : a = b := h; exact ⟨os, h2⟩
  | cons x l ih =>
    rintro a b os ⟨e1, e2, e3, e4⟩ h2
    cases os with
    | nil => have : a = ws.length := h2; omega
    | cons y os => exact ih e4 h2.2.2.2
theorem Laid.here {ws : List Int} {b : Nat} {os : List Nat} (h : Laid ws b os) : b = ws.length ∨ (b + 3 ≤ ws.length ∧ okW (wd ws b) = true) := by
  cases os with
  | nil => exact .inl h
  | cons x l => obtain ⟨_, h2, h3, _⟩ := h; exact .inr ⟨by omega, h3⟩
/-- Marks. -/
def marks (n : Nat) (l : List Nat) : List Bool := (List.range n).map fun i => l.contains i
theorem marks_length (n : Nat) (l : List Nat) : (marks n l).length = n := by simp [marks]
theorem marks_set (n : Nat) (l : List Nat) (a : Nat) : (marks n l).set a true = marks n (l ++ [a]) := by
  apply List.ext_getElem
  · simp [marks]
  · intro i h1 h2
    simp only [marks, List.getElem_set, List.getElem_map, List.getElem_range]
    by_cases h : a = i
    · subst h; simp
    · rw [if_neg h]; simp; omega
theorem marks_nil (n : Nat) : marks n [] = List.replicate n false := by
  apply List.ext_getElem
  · simp [marks]
  · intro i h1 h2; simp [marks]
def laidB (ws : List Int) : Prop := wd ws 0 = 0 ∧ ∃ os, Laid ws 1 os

def LaidR (w : World) (L : HLoc) (h : HeapS) (e : Ending) (w' : World) : Prop :=
  (e = .returned (.bool true) ∧ Mod [L.gs] w w' ∧ wd h.words 0 = 0 ∧ ∃ os, Laid h.words 1 os ∧ HeapAt w' L { h with starts := marks h.words.length os }) ∨
  (e = .returned (.bool false) ∧ Mod [L.gs] w w' ∧ ¬ laidB h.words)

theorem HeapAt.setStart' {w : World} {L : HLoc} {h : HeapS} (_ha : HeapAt w L h) (j : Nat) (x : Bool) : Mod [L.gs] w (w.setCell ⟨L.gs, j, none⟩ (.bool x)) := mod_setCell w ⟨L.gs, j, none⟩ (.bool x)

set_option maxRecDepth 100000 in
set_option maxHeartbeats 2000000 in
theorem laid50 {w : World} {L : HLoc} {h : HeapS} (ha : HeapAt w L h) (hs : Spares w) (hw : ∀ j, 0 ≤ wd h.words j ∧ wd h.words j < 4294967296) (hst : h.starts = marks h.words.length []) (hpos : 0 < h.words.length) (hbig : h.words.length ≤ 1048576) (hz : ¬ 0 ∈ L.blocks) :
    Calls Tryz.prog 50 #[.pointer (some ⟨L.b, 0, none⟩)] w (LaidR w L h) := by
  have hp := hs.pos
  have hAA := arrayAt_119
  have hgs0 : L.gs ≠ 0 := by intro e; exact hz (by simp [HLoc.blocks, e])
  have HD := Lib.hid ha.distinct
  by_cases h00 : wd h.words 0 = 0
  · have c0 := ha.word 0 hpos
    rw [h00] at c0
    obtain ⟨c1, c2⟩ := ha.rules
    have HA := Lib.hid ha
    have HS := Lib.hid hs
    have HW := Lib.hid hw
    have HST := Lib.hid hst
    have H00 := Lib.hid h00
    clear ha hs hw hst h00 hz
    go_enter Tryz.func50, Tryz.ntmps50
    go_wp2
    go_step3
    go_wp2
    go_step3
    go_wp2
    go_loopw [3] (fun i wr => ∃ (k : Nat) (l : List Nat), i = .int .i64 k ∧ LaidTo h.words 1 l k ∧ HeapAt wr L { h with starts := marks h.words.length l } ∧ Mod [L.gs] w wr ∧ k ≤ 2097152) (fun i _ => h.words.length - (intOf i).toNat)
    case atStart => exact ⟨1, [], rfl, rfl, by rw [← HST.out]; exact HA.out, Mod.refl _ _, by omega⟩
    case round =>
      obtain ⟨k, l, rfl, hlt, har, hmr, hkk⟩ := hrel
      have HLT := Lib.hid hlt
      have HAR := Lib.hid har
      have HMR := Lib.hid hmr
      have HSR := Lib.hid (HS.out.mod hmr (by simpa using fun e => hgs0 e.symm))
      clear c0 c1 c2
      obtain ⟨c1, c2⟩ := har.rules
      simp only [marks_length] at c1
      clear hlt har hmr
      by_cases hk1 : k < h.words.length
      · by_cases hk3 : k + 3 ≤ h.words.length
        · have k0 := HAR.out.word k (by simpa using hk1)
          have k1 := HAR.out.word (k + 1) (by show _ < h.words.length; omega)
          have k2 := HAR.out.word (k + 2) (by show _ < h.words.length; omega)
          have hmx := (row_max HAR.out.words).1
          have m3 : k + 3 ≤ L.cw := by have : h.words.length ≤ L.cw := hmx; omega
          have m4 : (k : Int) + 3 ≤ (L.cw : Int) := by omega
          have m5 : k ≤ L.cw := by omega
          clear hmx
          cases hok : okW (wd h.words k) with
          | true =>
            have HU := Lib.hid (fun W hS => unpack_ok (wd h.words k) (wd h.words (k + 1)) (wd h.words (k + 2)) W hS (HW.out _).1 (HW.out _).2 hok)
            have hsz : (hdrOf (wd h.words k) (wd h.words (k + 1)) (wd h.words (k + 2))).size = sizeAt h.words k := by have := HW.out k; simp [hdrOf, sizeAt]; omega
            have hbd := mayB_bounds (okW_may (wd h.words (k + 1)) (wd h.words (k + 2)) hok)
            have HSN := Lib.hid (HLT.out.snoc hk3 hok)
            have cs := HAR.out.start k (by simpa [marks_length] using hk1)
            have fs := row_free HAR.out.starts k
            simp only at k0 k1 k2 cs fs
            have hS : (sizeAt h.words k : Int) ≤ 65535 := by rw [← hsz]; exact hbd.2.1
            generalize hdrOf (wd h.words k) (wd h.words (k + 1)) (wd h.words (k + 2)) = H at *
            obtain ⟨A, B, C, c, s⟩ := H
            simp only at hsz
            subst hsz
            generalize sizeAt h.words k = S at *
            generalize wd h.words k = x0 at *
            generalize wd h.words (k + 1) = x1 at *
            generalize wd h.words (k + 2) = x2 at *
            generalize bd (marks h.words.length l) k = y at *
            simp only [Hdr.val, Hdr.cells] at HU
            clear hbd hok
            go_wp2_with (go_at_call 108; refine (HU.out _ HSR.out).mono ?_; rintro e w1 ⟨rfl, hb1⟩; have X := Lib.hid hb1; have A1 := Lib.hid (HAR.out.keep hb1); obtain ⟨d1, f1⟩ := A1.out.rules; have hb2 := A1.out.lt; have hg2 := row_lt A1.out.starts; have d2 := A1.out.start k (by simpa [marks_length] using hk1); have d3 := row_free A1.out.starts k; simp only [marks_length] at d1 d2 d3; clear hb1 c1 c2 cs fs k0 k1 k2)
            have hmA := HAR.out
            have S1 : Hid (HeapAt (w1.setCell ⟨L.gs, k, none⟩ (.bool true)) L { h with starts := marks h.words.length (l ++ [k]) }) := by
              have := (A1.out.setStart k true).1
              simp only [marks_set] at this
              exact this
            have M1 : Hid (Mod [L.gs] w (w1.setCell ⟨L.gs, k, none⟩ (.bool true))) := (HMR.out.trans (X.out.mod _)).trans (mod_setCell w1 ⟨L.gs, k, none⟩ (.bool true))
            refine ⟨⟨k + 3 + S, l ++ [k], ?_⟩, ?_⟩
            · exact ⟨by go_num, HSN.out, S1.out.keep ((Ext.refl _).alloc _), M1.out.ext ((Ext.refl _).alloc _), by omega⟩
            · simp [intOf]; omega
          | false =>
            have HU := Lib.hid (fun W hS => unpack_bad (wd h.words k) (wd h.words (k + 1)) (wd h.words (k + 2)) W hS (HW.out _).1 (HW.out _).2 hok)
            have NB : Hid (¬ laidB h.words) := by
              rintro ⟨_, os, hos⟩
              obtain ⟨os', ho⟩ := HLT.out.split hos
              rcases ho.here with h1 | h1
              · omega
              · rw [hok] at h1; simp at h1
            simp only at k0 k1 k2
            generalize wd h.words k = x0 at *
            generalize wd h.words (k + 1) = x1 at *
            generalize wd h.words (k + 2) = x2 at *
            simp only [Hdr.val, Hdr.cells] at HU
            clear hok
            go_wp2_with (go_at_call 108; refine (HU.out _ HSR.out).mono ?_; rintro e w1 ⟨rfl, hb1⟩; have X := Lib.hid hb1; have A1 := Lib.hid (HAR.out.keep hb1); obtain ⟨d1, f1⟩ := A1.out.rules; have hb2 := A1.out.lt; have hg2 := row_lt A1.out.starts; simp only [marks_length] at d1; clear hb1 c1 c2 k0 k1 k2)
            have he : ((k : Int) == (h.words.length : Int)) = false := by simp; omega
            rw [he]
            rw [Exit.noGoto_ret]
            go_ret
            exact .inr ⟨rfl, HMR.out.ext (X.out.alloc _), NB.out⟩
        · have NB : Hid (¬ laidB h.words) := by
            rintro ⟨_, os, hos⟩
            obtain ⟨os', ho⟩ := HLT.out.split hos
            rcases ho.here with h1 | h1 <;> omega
          have he : ((k : Int) == (h.words.length : Int)) = false := by simp; omega
          go_wp2
          go_ret
          exact .inr ⟨rfl, HMR.out, NB.out⟩
      · by_cases he : k = h.words.length
        · subst he
          have LD := Lib.hid HLT.out.laid
          go_wp2
          go_ret
          exact .inl ⟨rfl, HMR.out, H00.out, l, LD.out, HAR.out⟩
        · have NB : Hid (¬ laidB h.words) := by
            rintro ⟨_, os, hos⟩
            obtain ⟨os', ho⟩ := HLT.out.split hos
            rcases ho.here with h1 | h1 <;> omega
          have he : ((k : Int) == (h.words.length : Int)) = false := by simp; omega
          go_wp2
          go_ret
          exact .inr ⟨rfl, HMR.out, NB.out⟩
  · have c0 := ha.word 0 hpos
    obtain ⟨c1, c2⟩ := ha.rules
    have NB : Hid (¬ laidB h.words) := fun hl => h00 hl.1
    have hne : (wd h.words 0 != 0) = true := by simpa using h00
    generalize wd h.words 0 = x at *
    clear hw
    go_enter Tryz.func50, Tryz.ntmps50
    go_wp2
    go_step3
    go_wp2
    (try rw [Exit.noGoto_ret])
    go_ret
    exact .inr ⟨rfl, Mod.refl _ _, NB.out⟩

end Go.Proofs.Eff

/- clear; slices.IndexFunc at oops. -/
namespace Go.Proofs.Eff
open Go.RowKit

/-- 'clear' of a part of a row. -/
theorem run_clear_row {P : Program} (w : World) (t ty e : TypeId) (i : TypeInfo) (z : Value) (ht : P.underlying t = some (.slice e)) (hi : P.info? e = some i) (hz : i.zero = some z) (hzc : z.cells = #[z]) (hz1 : z.oneCell' = true)
    (g n cap lo : Nat) (xs : List Value) (hlo : lo ≤ n) (hr : w.ownsRow 0 e 1 (.slice (some ⟨g, 0, none⟩) n cap) n xs) :
    ∃ w', (Builtin.clear_ #[t] ty #[.slice (some ⟨g, sOff 0 cap lo, none⟩) (n - lo) (cap - lo)]).run P w = .ok (.tuple #[]) w' ∧ w'.ownsRow 0 e 1 (.slice (some ⟨g, 0, none⟩) lo cap) lo (xs.take lo) ∧ Mod [g] w w' := by
  obtain ⟨cur, hcur, hcs, htk⟩ := row_block hr
  have hmx := row_max hr
  have hxl : xs.length = n := by simpa using hr.1
  rcases Nat.eq_zero_or_pos (n - lo) with h0 | h0
  · obtain rfl : lo = n := by omega
    refine ⟨w, ?_, ?_, Mod.refl _ _⟩
    · rw [h0]; simp [Builtin.clear_, run_underlying ht]
    · rw [List.take_of_length_le (by omega)]; exact hr
  · have hs : sOff 0 cap lo = lo := by unfold sOff; rw [if_neg (by omega)]; simp
    rw [hs]
    have hst := run_storeCells_at P g lo e (List.replicate (n - lo) z) 0 cur w hcur (by simp; omega) (by intro u hu; rw [List.eq_of_mem_replicate hu]; exact hz1)
    obtain ⟨k, hk⟩ : ∃ k, n - lo = k + 1 := ⟨n - lo - 1, by omega⟩
    refine ⟨w.setRow g (cur.toList.take lo ++ List.replicate (n - lo) z ++ cur.toList.drop (lo + (List.replicate (n - lo) z).length)).toArray, ?_, ⟨by simp; omega, .inr ⟨g, cap, _, rfl, Nat.zero_le _, setRow_heap w g cur _ e _ hcur, by omega, hmx.2, ?_, ?_⟩⟩, ⟨rfl, rfl, rfl, by simp, fun q _ hq => setRow_other w g q _ (fun e => hq (by simp [e]))⟩⟩
    · simp only [Nat.add_zero] at hst
      rw [hk] at hst ⊢
      have hrun : (Builtin.clear_ #[t] ty #[.slice (some ⟨g, lo, none⟩) (k + 1) (cap - lo)]).run P w = ((storeCells { block := g, off := lo } (List.replicate (k + 1) z)).run P w).andThen fun _ w' => .ok (.tuple #[]) w' := by
        simp [Builtin.clear_, run_underlying ht, zeroValue, typeInfo, hi, hz, hzc, zeroCells_one]
      rw [hrun, hst]; rfl
    · simp; omega
    · have e1 : (cur.toList.take lo) = xs.take lo := by rw [← htk]; simp [List.take_take]; omega
      rw [e1]
      simp [List.take_append, List.take_take]
      omega

set_option maxHeartbeats 400000 in
theorem object124 (o : Int) (w : World) (h0 : 0 ≤ o) (h1 : o < 4294967296) :
    Calls Tryz.prog 124 #[.int .u32 o] w fun e w' => e = .returned (.bool (isObj o)) ∧ w = w' := by
  have HK := Lib.hid (kind_any o w h0 h1)
  have hr : (kindI o == 2) = isObj o := by
    cases hk : isObj o with
    | false => simpa using kind_ne hk
    | true => simpa using kind_obj hk
  have HR := Lib.hid hr
  clear hr
  go_enter Tryz.func124, Tryz.ntmps124
  go_wp2_with (go_at_call 85; refine HK.out.mono ?_; rintro e w' ⟨rfl, rfl⟩)
  go_ret
  refine ⟨?_, rfl⟩
  rw [← HR.out]; rfl

set_option maxHeartbeats 400000 in
theorem only1 (o : Int) (w : World) (h0 : 0 ≤ o) (h1 : o < 4294967296) :
    Calls Tryz.prog 129 #[.int .u32 o] w fun e w' => e = .returned (.bool (!isObj o)) ∧ w = w' := by
  have HK := Lib.hid (object124 o w h0 h1)
  go_enter Tryz.func129, Tryz.ntmps129
  go_wp2_with (go_at_call 124; refine HK.out.mono ?_; rintro e w' ⟨rfl, rfl⟩)
  go_ret
  exact ⟨rfl, rfl⟩

/-- Where the first stands that is no object; -1: all are. -/
def firstNo (l : List Int) : Int := if l.all isObj then -1 else (l.findIdx (fun x => !isObj x) : Int)
theorem firstNo_hit {l : List Int} {k : Nat} (hk : k < l.length) (hb : ∀ j, j < k → isObj (wd l j) = true) (he : isObj (wd l k) = false) : firstNo l = k := by
  have hm : isObj l[k] = false := by simpa [wd, hk] using he
  have hc : ¬ l.all isObj = true := by
    intro h; rw [List.all_eq_true] at h; have := h l[k] (List.getElem_mem hk); rw [hm] at this; cases this
  rw [firstNo, if_neg hc]
  congr 1
  rw [List.findIdx_eq hk]
  refine ⟨by simp [hm], fun j hj => ?_⟩
  have := hb j hj
  simp [wd, show j < l.length by omega] at this
  simp [this]
theorem firstNo_miss {l : List Int} (hb : ∀ j, j < l.length → isObj (wd l j) = true) : firstNo l = -1 := by
  have hc : l.all isObj = true := by
    rw [List.all_eq_true]
    intro x hx
    obtain ⟨j, hj, he⟩ := List.getElem_of_mem hx
    have := hb j hj
    simp [wd, hj] at this
    rw [← he]; exact this
  rw [firstNo, if_pos hc]

set_option maxRecDepth 100000 in
set_option maxHeartbeats 400000 in
theorem sindexf152 (g cap : Nat) (xs : List Int) (w : World) (hr : RRow w ⟨g, 0, none⟩ (u32s xs)) (hl : xs.length ≤ 1048576) (hw : ∀ i, 0 ≤ wd xs i ∧ wd xs i < 4294967296) :
    Calls Tryz.prog 152 #[.slice (some ⟨g, 0, none⟩) xs.length cap, .func (.func 129) #[] #[]] w fun e w' => e = .returned (.int .i64 (firstNo xs)) ∧ w = w' := by
  have hc : ∀ k, k < xs.length → w.cell? ⟨g, k, none⟩ = some (.int .u32 (wd xs k)) := by
    intro k hk
    have := rrow_cell hr k (by simpa using hk)
    rw [Nat.zero_add] at this
    rw [this]; simp [u32s, wd, hk]
  have HC := Lib.hid hc
  have HW := Lib.hid hw
  clear hr hc hw
  go_enter Tryz.func152, Tryz.ntmps152
  go_wp2
  go_loop [8] (fun i => ∃ k : Nat, k ≤ xs.length ∧ i = .int .i64 k ∧ ∀ j, j < k → isObj (wd xs j) = true) (fun i => xs.length - (intOf i).toNat)
  case atStart => exact ⟨0, by omega, rfl, by omega⟩
  case round =>
    obtain ⟨k, hk, rfl, hb⟩ := hrel
    have HB := Lib.hid hb
    clear hb
    by_cases hlt : k < xs.length
    · have c1 := HC.out k hlt
      have HP := Lib.hid (only1 (wd xs k) w (HW.out k).1 (HW.out k).2)
      cases he : isObj (wd xs k) with
      | false =>
        rw [he] at HP
        have HE := Lib.hid he
        clear he
        go_wp2_with (go_at_call 129; refine HP.out.mono ?_; rintro e w' ⟨rfl, rfl⟩)
        go_ret
        refine ⟨?_, rfl⟩
        rw [firstNo_hit hlt HB.out HE.out]; rfl
      | true =>
        rw [he] at HP
        have HE := Lib.hid he
        clear he
        go_wp2_with (go_at_call 129; refine HP.out.mono ?_; rintro e w' ⟨rfl, rfl⟩)
        go_round
        case rel => exact ⟨k + 1, by omega, by go_num, fun j hj => by
          by_cases h : j < k
          · exact HB.out j h
          · obtain rfl : j = k := by omega
            exact HE.out⟩
        case measure => simp [intOf]; omega
    · go_wp2
      go_ret
      obtain rfl : k = xs.length := by omega
      refine ⟨?_, rfl⟩
      rw [firstNo_miss HB.out]; rfl

end Go.Proofs.Eff

/- slices.DeleteFunc at oops; collect.only. -/
namespace Go.Proofs.Eff
open Go.RowKit

theorem run_slice_from {P : Program} (w : World) (t e : TypeId) (ht : P.underlying t = some (.slice e)) (hsz : ∀ w, (sizeOf e).run P w = .ok 1 w) (g len cap lo : Nat) (h1 : lo ≤ len) :
    (Instr.slice t (.slice (some ⟨g, 0, none⟩) len cap) (some (.int .i64 (lo : Int))) none none).run P w = .ok (.slice (some ⟨g, sOff 0 cap lo, none⟩) (len - lo) (cap - lo)) w := by
  have e2 : (Instr.sliceBound (.int .i64 (lo : Int)) len .sliceB).run P w = .ok lo w := by
    rw [run_sliceBound _ _ _ _ _ (by omega) (by omega)]; simp
  simp only [Instr.slice, Sem.run_bind, run_underlying ht, Result.andThen_ok, Instr.sliceBounds, e2, hsz, Sem.run_pure, Option.isSome_none, Bool.false_eq_true, if_false]
  unfold sOff
  by_cases hc : cap = lo
  · simp [hc]
  · by_cases hl : lo = 0
    · simp [hl, Addr.add]
    · simp [hc, Addr.add, hl]
theorem size41 (w : World) : (sizeOf 41).run Tryz.prog w = .ok 1 w := by kernel_rfl

/-- What 'filter' has made of the first so many. -/
structure Filt (xs ys : List Int) (i j : Nat) : Prop where
  len : ys.length = xs.length
  le : i ≤ j
  front : ys.take i = (xs.take j).filter isObj
  back : ys.drop j = xs.drop j

theorem Filt.start {xs : List Int} {i : Nat} (hi : i < xs.length) (hf : firstNo xs = i) : Filt xs xs i (i + 1) := by
  unfold firstNo at hf
  split at hf
  · omega
  · have hk : xs.findIdx (fun x => !isObj x) = i := by omega
    have hall : ∀ j, (hj : j < i) → isObj xs[j] = true := fun j hj => by
      have := List.not_of_lt_findIdx (xs := xs) (p := fun x => !isObj x) (i := j) (by omega)
      simpa using this
    have hno : isObj xs[i] = false := by
      have := List.findIdx_getElem (xs := xs) (p := fun x => !isObj x) (w := by omega)
      simp only [hk] at this
      simpa using this
    refine ⟨rfl, by omega, ?_, rfl⟩
    rw [List.take_succ_eq_append_getElem hi, List.filter_append]
    have e1 : (xs.take i).filter isObj = xs.take i := by
      rw [List.filter_eq_self]
      intro x hx
      obtain ⟨j, hj, he⟩ := List.getElem_of_mem hx
      rw [← he]; simp at hj ⊢; exact hall j (by omega)
    rw [e1]; simp [hno]
theorem Filt.at {xs ys : List Int} {i j : Nat} (h : Filt xs ys i j) (_hj : j < xs.length) : wd ys j = wd xs j := by
  have h1 := h.len
  have := congrArg (fun l => l[0]?) h.back
  simp [List.getElem?_drop] at this
  simp [wd, this]
theorem Filt.skip {xs ys : List Int} {i j : Nat} (h : Filt xs ys i j) (hj : j < xs.length) (hn : isObj (wd xs j) = false) : Filt xs ys i (j + 1) := by
  refine ⟨h.len, by have := h.le; omega, ?_, ?_⟩
  · rw [h.front, List.take_succ_eq_append_getElem hj, List.filter_append]
    simp [wd, hj] at hn
    simp [hn]
  · have := congrArg (List.drop 1) h.back
    simpa [List.drop_drop, Nat.add_comm] using this
theorem Filt.keep {xs ys : List Int} {i j : Nat} (h : Filt xs ys i j) (hj : j < xs.length) (hn : isObj (wd xs j) = true) : Filt xs (ys.set i (wd xs j)) (i + 1) (j + 1) := by
  have hle := h.le
  have hl := h.len
  refine ⟨by simp [hl], by omega, ?_, ?_⟩
  · rw [List.take_succ_eq_append_getElem (by simp; omega), List.take_succ_eq_append_getElem hj, List.filter_append]
    rw [List.take_set_of_le (Nat.le_refl _), h.front]
    have hn' : isObj xs[j] = true := by simpa [wd, hj] using hn
    simp [wd, hj, hn']
  · rw [List.drop_set_of_lt (by omega)]
    have := congrArg (List.drop 1) h.back
    simpa [List.drop_drop, Nat.add_comm] using this

/-- An owned slice of oops, at the same place or shorter. -/
def OnlyR (w : World) (g cap : Nat) (ys : List Int) (e : Ending) (w' : World) : Prop :=
  e = .returned (.slice (some ⟨g, 0, none⟩) ys.length cap) ∧ w'.ownsRow 0 41 1 (.slice (some ⟨g, 0, none⟩) ys.length cap) ys.length (u32s ys) ∧ Mod [g] w w'

set_option maxRecDepth 100000 in
set_option maxHeartbeats 1000000 in
theorem sdelete128 (g cap : Nat) (xs : List Int) (w : World) (hr : w.ownsRow 0 41 1 (.slice (some ⟨g, 0, none⟩) xs.length cap) xs.length (u32s xs)) (hl : xs.length ≤ 1048576) (hw : ∀ i, 0 ≤ wd xs i ∧ wd xs i < 4294967296) :
    Calls Tryz.prog 128 #[.slice (some ⟨g, 0, none⟩) xs.length cap, .func (.func 129) #[] #[]] w (OnlyR w g cap (xs.filter isObj)) := by
  have HI := Lib.hid (sindexf152 g cap xs w (row_read hr) hl hw)
  have HW := Lib.hid hw
  obtain ⟨i0, hi, hz0, hz1, hz2⟩ := info_parts Tryz.cinfo41
  by_cases hall : xs.all isObj = true
  · have hf : firstNo xs = -1 := by rw [firstNo, if_pos hall]
    have he : xs.filter isObj = xs := by rw [List.filter_eq_self]; exact fun x hx => List.all_eq_true.1 hall x hx
    have HE := Lib.hid he
    have HR := Lib.hid hr
    rw [hf] at HI
    clear hr hw hall hf he
    go_enter Tryz.func128, Tryz.ntmps128
    go_wp2_with (go_at_call 152; refine HI.out.mono ?_; rintro e w' ⟨rfl, rfl⟩)
    go_ret
    rw [HE.out]
    exact ⟨rfl, HR.out, Mod.refl _ _⟩
  · obtain ⟨n0, hn0⟩ : ∃ n0 : Nat, firstNo xs = n0 := ⟨_, by rw [firstNo, if_neg hall]⟩
    have hn1 : n0 < xs.length := by
      have : xs.findIdx (fun x => !isObj x) = n0 := by rw [firstNo, if_neg hall] at hn0; omega
      rw [← this, List.findIdx_lt_length]
      simp only [List.all_eq_true, Classical.not_forall] at hall
      obtain ⟨x, hx, hp⟩ := hall
      exact ⟨x, hx, by simpa using hp⟩
    have FS := Lib.hid (Filt.start hn1 hn0)
    rw [hn0] at HI
    have HR := Lib.hid hr
    have ht : ((n0 : Int) == -1) = false := by rw [beq_eq_false_iff_ne]; omega
    clear hr hw hall hn0
    go_enter Tryz.func128, Tryz.ntmps128
    go_wp2_with (go_at_call 152; refine HI.out.mono ?_; rintro e w' ⟨rfl, rfl⟩)
    go_loopw [5, 6] (fun vi vj wr => ∃ (i j : Nat) (ys : List Int), vi = .int .i64 i ∧ vj = .int .i64 j ∧ j ≤ xs.length ∧ Filt xs ys i j ∧ wr.ownsRow 0 41 1 (.slice (some ⟨g, 0, none⟩) xs.length cap) xs.length (u32s ys) ∧ Mod [g] w wr) (fun _ vj _ => xs.length - (intOf vj).toNat)
    case atStart => exact ⟨n0, n0 + 1, xs, rfl, by go_num, by omega, FS.out, HR.out, Mod.refl _ _⟩
    case round =>
      obtain ⟨i, j, ys, rfl, rfl, hj, hF, hrow, hmod⟩ := hrel
      have FF := Lib.hid hF
      have ROW := Lib.hid hrow
      have MM := Lib.hid hmod
      have hij := hF.le
      clear hF hrow hmod
      by_cases hlt : j < xs.length
      · have cj : wr.cell? ⟨g, j, none⟩ = some (.int .u32 (wd xs j)) := by
          rw [row_cell ROW.out j hlt, ← FF.out.at hlt]
          simp [u32s, wd, show j < ys.length by rw [FF.out.len]; exact hlt]
        have ci : wr.cell? ⟨g, i, none⟩ = some (.int .u32 (wd ys i)) := by
          rw [row_cell ROW.out i (by omega)]
          simp [u32s, wd, show i < ys.length by rw [FF.out.len]; omega]
        have fi := row_free ROW.out i
        have b1 : (i : Int) < (xs.length : Int) := by omega
        have b2 : (j : Int) < (xs.length : Int) := by omega
        have HP := Lib.hid (only1 (wd xs j) wr (HW.out j).1 (HW.out j).2)
        cases he : isObj (wd xs j) with
        | false =>
          rw [he] at HP
          have HE := Lib.hid he
          clear he
          go_wp2_with (go_at_call 129; refine HP.out.mono ?_; rintro e w' ⟨rfl, rfl⟩)
          go_roundw
          case rel => exact ⟨i, j + 1, ys, rfl, by go_num, by omega, FF.out.skip hlt HE.out, ROW.out, MM.out⟩
          case measure => simp [intOf]; omega
        | true =>
          rw [he] at HP
          have HE := Lib.hid he
          clear he
          have RS : Hid ((wr.setCell ⟨g, i, none⟩ (.int .u32 (wd xs j))).ownsRow 0 41 1 (.slice (some ⟨g, 0, none⟩) xs.length cap) xs.length (u32s (ys.set i (wd xs j)))) := by
            have := row_set ROW.out i (.int .u32 (wd xs j))
            rw [u32s_set] at this; exact this
          go_wp2_with (go_at_call 129; refine HP.out.mono ?_; rintro e w' ⟨rfl, rfl⟩)
          go_roundw
          case rel => exact ⟨i + 1, j + 1, _, by go_num, by go_num, by omega, FF.out.keep hlt HE.out, RS.out, MM.out.trans (mod_setCell wr ⟨g, i, none⟩ _)⟩
          case measure => simp [intOf]; omega
      · obtain rfl : j = xs.length := by omega
        have hend : xs.filter isObj = ys.take i := by have := FF.out.front; rw [List.take_length] at this; exact this.symm
        have hle : (xs.filter isObj).length = i := by rw [hend]; simp [FF.out.len]; omega
        obtain ⟨w2, hrun, hrow2, hmod2⟩ := run_clear_row wr 23 0 41 i0 (.int .u32 0) Tryz.underlying23 hi hz0 rfl rfl g xs.length cap i (u32s ys) hij ROW.out
        have hsl := fun w => run_slice_from w 23 41 Tryz.underlying23 size41 g xs.length cap i hij
        have HEND := Lib.hid hend
        have HLE := Lib.hid hle
        have R2 := Lib.hid hrow2
        have M2 := Lib.hid hmod2
        clear hend hle hrow2 hmod2
        have hmx := (row_max ROW.out).1
        go_wp2
        go_ret
        refine ⟨?_, ?_, MM.out.trans M2.out⟩
        · rw [HLE.out]; rfl
        · have hx := R2.out
          rw [HLE.out, HEND.out]
          have e : (u32s ys).take i = u32s (ys.take i) := by simp [u32s]
          rw [← e]; exact hx

set_option maxHeartbeats 400000 in
/-- collect.only. -/
theorem only76 (g cap : Nat) (xs : List Int) (w : World) (hr : w.ownsRow 0 41 1 (.slice (some ⟨g, 0, none⟩) xs.length cap) xs.length (u32s xs)) (hl : xs.length ≤ 1048576) (hw : ∀ i, 0 ≤ wd xs i ∧ wd xs i < 4294967296) :
    Calls Tryz.prog 76 #[.slice (some ⟨g, 0, none⟩) xs.length cap] w (OnlyR w g cap (xs.filter isObj)) := by
  have HD := Lib.hid (sdelete128 g cap xs w hr hl hw)
  clear hr hw
  go_enter Tryz.func76, Tryz.ntmps76
  go_wp2_with (go_at_call 128; refine HD.out.mono ?_; rintro e w' ⟨rfl, hq⟩; have Q := Lib.hid hq; clear hq)
  go_ret
  exact ⟨rfl, Q.out⟩

set_option maxRecDepth 100000 in
set_option maxHeartbeats 400000 in
/-- .. of nothing. -/
theorem only76_nil (w : World) : Calls Tryz.prog 76 #[.slice none 0 0] w fun e w' => e = .returned (.slice none 0 0) ∧ w = w' := by
  have h1 : ∀ w, Calls Tryz.prog 152 #[.slice none 0 0, .func (.func 129) #[] #[]] w fun e w' => e = .returned (.int .i64 (-1)) ∧ w = w' := fun w => by
    go_enter Tryz.func152, Tryz.ntmps152
    go_wp2
    refine wp_loop_rounds 1 ?_
    rw [rounds_succ]
    go_wp2
    go_ret
    exact ⟨rfl, rfl⟩
  have h2 : ∀ w, Calls Tryz.prog 128 #[.slice none 0 0, .func (.func 129) #[] #[]] w fun e w' => e = .returned (.slice none 0 0) ∧ w = w' := fun w => by
    have H1 := Lib.hid (h1 w)
    clear h1
    go_enter Tryz.func128, Tryz.ntmps128
    go_wp2_with (go_at_call 152; refine H1.out.mono ?_; rintro e w' ⟨rfl, rfl⟩)
    go_ret
    exact ⟨rfl, rfl⟩
  have H2 := Lib.hid (h2 w)
  clear h1 h2
  go_enter Tryz.func76, Tryz.ntmps76
  go_wp2_with (go_at_call 128; refine H2.out.mono ?_; rintro e w' ⟨rfl, rfl⟩)
  go_ret
  exact ⟨rfl, rfl⟩

end Go.Proofs.Eff

/- collect.named. -/
namespace Go.Proofs.Eff
open Go.RowKit

/-- The oops of an object: its class, and its fields if they are oops that count. -/
def oopsAt (ws : List Int) (a : Nat) (held : Bool) : List Int :=
  (hdrAt ws a).cls :: (if (hdrAt ws a).fmt = 1 ∨ ((hdrAt ws a).fmt = 4 ∧ held = false) then fieldsAt ws a else [])
/-- The objects that an object names. -/
def namesAt (ws : List Int) (a : Nat) (held : Bool) : List Int := (oopsAt ws a held).filter isObj

def NewOops (w : World) (ys : List Int) (e : Ending) (w' : World) : Prop :=
  ∃ g cap, e = .returned (.slice (some ⟨g, 0, none⟩) ys.length cap) ∧ w'.ownsRow w.heap.size 41 1 (.slice (some ⟨g, 0, none⟩) ys.length cap) ys.length (u32s ys) ∧ Ext w w'

theorem Mod.ext_of_new {g : Nat} {a w w' : World} (h : Ext a w) (hm : Mod [g] w w') (hg : a.heap.size ≤ g) : Ext a w' :=
  ⟨hm.os.trans h.os, hm.tape.trans h.tape, hm.output.trans h.output, Nat.le_trans h.size hm.size, fun k hk => (hm.block k (Nat.lt_of_lt_of_le hk h.size) (by simp; omega)).trans (h.block hk)⟩

section
variable {w : World} {L : HLoc} {h : HeapS} {os : List Nat}

theorem WF.fld (wf : WF h os) {a i : Nat} : 0 ≤ wd (fieldsAt h.words a) i ∧ wd (fieldsAt h.words a) i < 4294967296 := by
  by_cases hi : i < sizeAt h.words a
  · rw [fieldsAt_wd hi]; exact wf.word _
  · simp [wd, fieldsAt, List.getElem?_take, hi]
theorem wd_cons_zero (x : Int) (l : List Int) : wd (x :: l) 0 = x := rfl
theorem wd_cons_succ (x : Int) (l : List Int) (i : Nat) : wd (x :: l) (i + 1) = wd l i := by simp [wd]

set_option maxRecDepth 100000 in
set_option maxHeartbeats 1000000 in
theorem named127 (ha : HeapAt w L h) (wf : WF h os) (hs : Spares w) (o : Int) (h0 : 0 ≤ o) (h1 : o < 4294967296) (ho : isO os o = true) (held : Bool) :
    Calls Tryz.prog 127 #[.pointer (some ⟨L.b, 0, none⟩), .int .u32 o, .bool held] w (NewOops w (namesAt h.words (o / 2).toNat held)) := by
  have hp := hs.pos
  have hm := wf.mem (wf.isO_lt ho).2
  have hbd := mayB_bounds (wf.hdr (wf.isO_lt ho).2)
  have hw := wf.word (o / 2).toNat
  have hz2 : (hdrAt h.words (o / 2).toNat).size = sizeAt h.words (o / 2).toNat := by simp [hdrAt, hdrOf, sizeAt]; omega
  have hfl := fieldsAt_length hm.2.1
  have HH := Lib.hid (Header_ok ha wf hs o h0 h1 ho)
  have hcls : 0 ≤ (hdrAt h.words (o / 2).toNat).cls ∧ (hdrAt h.words (o / 2).toNat).cls < 4294967296 := wf.word _
  have HG : Hid (∀ W, Ext w W → ∀ i : Nat, i < sizeAt h.words (o / 2).toNat → ((hdrAt h.words (o / 2).toNat).fmt = 1 ∨ (hdrAt h.words (o / 2).toNat).fmt = 4) → Calls Tryz.prog 27 #[.pointer (some ⟨L.b, 0, none⟩), .int .u32 o, .int .i64 i] W fun e w' => e = .returned (.tuple #[.int .u32 (wd (fieldsAt h.words (o / 2).toNat) i), .int .i64 0]) ∧ Ext W w') := by
    intro W hE i hi hf
    have hl : lookE h.words os [1, 4] o i = 0 := by
      unfold lookE
      rw [if_neg (by simp [ho]), if_neg (by rcases hf with hf | hf <;> simp [hf]), if_neg ?_]
      have hne : (hdrAt h.words (o / 2).toNat).fmt ≠ 2 := by omega
      simp only [lenH, if_neg hne, hz2]; omega
    have hg := Get_any (ha.keep hE) wf (hs.kept hE hp) o i h0 h1
    rw [getA, if_pos hl, hl, show (o / 2 + 3 + (i : Int)).toNat = (o / 2).toNat + 3 + i by omega, ← fieldsAt_wd hi] at hg
    exact hg
  have HO : Hid (∀ W g cap, W.ownsRow 0 41 1 (.slice (some ⟨g, 0, none⟩) (oopsAt h.words (o / 2).toNat held).length cap) (oopsAt h.words (o / 2).toNat held).length (u32s (oopsAt h.words (o / 2).toNat held)) → Calls Tryz.prog 76 #[.slice (some ⟨g, 0, none⟩) (oopsAt h.words (o / 2).toNat held).length cap] W (OnlyR W g cap (namesAt h.words (o / 2).toNat held))) := by
    intro W g cap hr
    refine only76 g cap _ W hr ?_ ?_
    · unfold oopsAt; split <;> simp <;> omega
    · intro i
      unfold oopsAt
      cases i with
      | zero => exact hcls
      | succ i =>
        rw [wd_cons_succ]
        split
        · exact wf.fld
        · simp [wd]
  obtain ⟨i0, hi, hz0, hz1, hz3⟩ := info_parts Tryz.cinfo41
  unfold oopsAt at HO
  generalize namesAt h.words (o / 2).toNat held = NA at *
  generalize hdrAt h.words (o / 2).toNat = H at *
  obtain ⟨A, B, C, c, s⟩ := H
  generalize fieldsAt h.words (o / 2).toNat = FL at *
  generalize sizeAt h.words (o / 2).toNat = S at *
  simp only [Hdr.val, Hdr.cells] at *
  subst hz2
  have HFL := Lib.hid hfl
  have hS : S ≤ 65535 := by omega
  clear ha wf hs ho hm hbd hw hcls hfl
  by_cases hc : B = 1 ∨ (B = 4 ∧ held = false)
  · simp only [if_pos hc] at HO
    have hf : B = 1 ∨ B = 4 := by omega
    have FIN : Hid (∀ (W1 : World) (g cap : Nat), Ext w W1 → W1.ownsRow w.heap.size 41 1 (.slice (some ⟨g, 0, none⟩) (S + 1) cap) (S + 1) (u32s (c :: FL)) → Calls Tryz.prog 76 #[.slice (some ⟨g, 0, none⟩) (S + 1) cap] W1 (NewOops w NA)) := by
      intro W1 g cap hE hrow
      have hg := (hrow.lt g rfl).1
      have hl : (c :: FL).length = S + 1 := by rw [List.length_cons, HFL.out]
      have ho := HO.out W1 g cap
      rw [hl] at ho
      refine (ho (row_zero hrow)).mono ?_
      rintro e w' ⟨rfl, hr, hmod⟩
      refine ⟨_, _, rfl, ?_, Mod.ext_of_new hE hmod hg⟩
      obtain ⟨a1, a2⟩ := hr
      refine ⟨a1, ?_⟩
      rcases a2 with a2 | ⟨g', c', cur, b1, _, b3⟩
      · exact .inl a2
      · exact .inr ⟨g', c', cur, b1, by cases b1; exact hg, b3⟩
    have HFF := Lib.hid hf
    clear HO hf
    have key : ((B == 1) = true) ∨ ((B == 1) = false ∧ (B == 4) = true ∧ held = false) := by
      by_cases h1 : B = 1
      · exact .inl (by simpa using h1)
      · rcases hc with h | ⟨h, h'⟩
        · exact absurd h h1
        · exact .inr ⟨by simpa using h1, by simpa using h, h'⟩
    clear hc
    rcases key with hB1 | ⟨hB1, hB4, rfl⟩
    all_goals
      go_enter Tryz.func127, Tryz.ntmps127
      go_wp2_with (first | (go_at_call 22; refine HH.out.mono ?_; rintro e w1 ⟨rfl, hb⟩; have X := Lib.hid hb; clear hb))
      have R0 : Hid (((w1.alloc (.cells #[.int .i64 (S : Int), .int .i64 B, .int .i64 C, .int .u32 c, .int .u32 s] 65)).alloc (.cells #[.int .u32 c] 41)).ownsRow w.heap.size 41 1 (.slice (some ⟨w1.heap.size + 1, 0, none⟩) 1 1) 1 (u32s [c])) := by
        have hq := World.ownsRow_lit (base := w.heap.size) (e := 41) (size := 1) (w1.alloc (.cells #[.int .i64 (S : Int), .int .i64 B, .int .i64 C, .int .u32 c, .int .u32 s] 65)) #[.int .u32 c] 1 (by have := X.out.size; simp; omega) (by unfold maxLen; omega) rfl
        simp only [World.size_alloc] at hq
        exact hq
      go_loopw [9, 36] (fun v i wr => ∃ k g cap : Nat, k ≤ S ∧ i = .int .i64 k ∧ v = .slice (some ⟨g, 0, none⟩) (k + 1) cap ∧ wr.ownsRow w.heap.size 41 1 v (k + 1) (u32s (c :: FL.take k)) ∧ Ext w wr) (fun _ i _ => S - (intOf i).toNat)
      case atStart => exact ⟨0, w1.heap.size + 1, 1, by omega, rfl, rfl, by simpa using R0.out, (X.out.alloc _).alloc _⟩
      case round =>
        obtain ⟨k, g, cap, hk, rfl, rfl, hrow, hE⟩ := hrel
        have ROW := Lib.hid hrow
        have XE := Lib.hid hE
        clear hrow hE
        by_cases hlt : k < S
        · have HGk := Lib.hid (HG.out wr XE.out k hlt HFF.out)
          have hFL := HFL.out
          have SN : Hid (u32s (c :: FL.take (k + 1)) = u32s (c :: FL.take k) ++ u32s [wd FL k]) := by
            have : FL.take (k + 1) = FL.take k ++ [wd FL k] := by rw [List.take_succ_eq_append_getElem (by omega)]; simp [wd, show k < FL.length by omega]
            show u32s (c :: FL.take (k + 1)) = _
            rw [this]; simp [u32s]
          generalize wd FL k = x at *
          clear hFL
          go_wp2_with (first | (go_at_call 27; refine HGk.out.mono ?_; rintro e w2 ⟨rfl, hb⟩; have Y := Lib.hid hb; have RK := Lib.hid (row_keep ROW.out hb); have NW : Hid (RRow (w2.alloc (.cells #[.int .u32 x] 41)) ⟨w2.heap.size, 0, none⟩ (u32s [x])) := row_read (World.ownsRow_lit (base := 0) w2 #[.int .u32 x] 1 (Nat.zero_le _) (by unfold maxLen; omega) rfl); clear hb) | (at_builtin; refine wpList_append_own _ rfl _ _ 23 rfl w.heap.size 41 i0 (.int .u32 0) 1 4 Tryz.underlying23 hi hz0 hz1 hz3 rfl (by decide) _ (k + 1) _ rfl (RK.out.alloc _) ⟨w2.heap.size, 0, none⟩ 1 1 (u32s [x]) rfl rfl NW.out (u32s_one _) (by unfold maxLen; omega) (by omega) (by have := XE.out.size; have := Y.out.size; simp; omega) ?_; intro v' w3 hown hgrow hnil2))
          rw [← SN.out] at hown
          obtain ⟨g', c', rfl⟩ := own_form hown (fun hv => by have := (hnil2.1 hv).2; omega)
          have hE3 : Ext w w3 := ((XE.out.trans Y.out).alloc _).grown hgrow (by intro q hq; have := (ROW.out.lt g rfl).1; simp [go_sem, Value.ownBlock] at hq; omega)
          clear hgrow hnil2
          go_roundw
          case rel => exact ⟨k + 1, g', c', by omega, by go_num, rfl, hown, hE3⟩
          case measure => simp [intOf]; omega
        · obtain rfl : k = S := by omega
          have ROW2 : Hid (wr.ownsRow w.heap.size 41 1 (.slice (some ⟨g, 0, none⟩) (k + 1) cap) (k + 1) (u32s (c :: FL))) := by
            have := ROW.out
            rw [List.take_of_length_le (by rw [HFL.out]; exact Nat.le_refl _)] at this
            exact this
          have HF := Lib.hid (FIN.out wr g cap XE.out ROW2.out)
          go_wp2_with (go_at_call 76; refine HF.out.mono ?_; rintro e w' ⟨g2, cp, rfl, q1, q2⟩; have Q1 := Lib.hid q1; have Q2 := Lib.hid q2; clear q1 q2)
          go_ret
          exact ⟨g2, cp, rfl, Q1.out, Q2.out⟩
  · simp only [if_neg hc] at HO
    have hB1 : (B == 1) = false := by simp; omega
    have ROW : Hid (∀ W : World, (W.alloc (.cells #[.int .u32 c] 41)).ownsRow W.heap.size 41 1 (.slice (some ⟨W.heap.size, 0, none⟩) 1 1) 1 (u32s [c])) := fun W => World.ownsRow_lit W #[.int .u32 c] 1 (Nat.le_refl _) (by unfold maxLen; omega) rfl
    have FIN : Hid (∀ (W1 : World) (n : Nat), Ext w W1 → W1.heap.size = n → Calls Tryz.prog 76 #[.slice (some ⟨n, 0, none⟩) 1 1] (W1.alloc (.cells #[.int .u32 c] 41)) (NewOops w NA)) := by
      rintro W1 _ hE rfl
      refine (HO.out _ W1.heap.size 1 (row_zero (ROW.out W1))).mono ?_
      rintro e w' ⟨rfl, hr, hmod⟩
      refine ⟨_, _, rfl, ?_, Mod.ext_of_new (hE.alloc _) hmod hE.size⟩
      obtain ⟨a1, a2⟩ := hr
      refine ⟨a1, ?_⟩
      rcases a2 with a2 | ⟨g', c', cur, b1, _, b3⟩
      · exact .inl a2
      · exact .inr ⟨g', c', cur, b1, by cases b1; exact hE.size, b3⟩
    clear HO ROW HG
    by_cases hB4 : B = 4
    · obtain rfl : held = true := by cases held <;> simp_all
      have hB42 : (B == 4) = true := by simpa using hB4
      clear hc hB4
      go_enter Tryz.func127, Tryz.ntmps127
      go_wp2_with (first | (go_at_call 22; refine HH.out.mono ?_; rintro e w1 ⟨rfl, hb⟩; have X := Lib.hid hb; clear hb) | (go_at_call 76; refine (FIN.out _ _ (X.out.alloc _) (by simp)).mono ?_; rintro e w' ⟨g, cp, rfl, q1, q2⟩; have Q1 := Lib.hid q1; have Q2 := Lib.hid q2; clear q1 q2))
      go_ret
      exact ⟨g, cp, rfl, Q1.out, Q2.out⟩
    · have hB42 : (B == 4) = false := by simpa using hB4
      clear hc hB4
      go_enter Tryz.func127, Tryz.ntmps127
      go_wp2_with (first | (go_at_call 22; refine HH.out.mono ?_; rintro e w1 ⟨rfl, hb⟩; have X := Lib.hid hb; clear hb) | (go_at_call 76; refine (FIN.out _ _ (X.out.alloc _) (by simp)).mono ?_; rintro e w' ⟨g, cp, rfl, q1, q2⟩; have Q1 := Lib.hid q1; have Q2 := Lib.hid q2; clear q1 q2))
      go_ret
      exact ⟨g, cp, rfl, Q1.out, Q2.out⟩
end
end Go.Proofs.Eff

/- collect.trail.put. -/
namespace Go.Proofs.Eff
open Go.RowKit

/-- One more, if it isn't there. -/
def putOne (m : List Int) (o : Int) : List Int := if m.contains o then m else m ++ [o]
def putAll (m : List Int) (l : List Int) : List Int := l.foldl putOne m
theorem putAll_snoc (m l : List Int) (k : Nat) (hk : k < l.length) : putAll m (l.take (k + 1)) = putOne (putAll m (l.take k)) (wd l k) := by
  rw [List.take_succ_eq_append_getElem hk, putAll, List.foldl_append]; simp [putAll, wd, hk]
theorem putOne_length (m : List Int) (o : Int) : (putOne m o).length ≤ m.length + 1 := by unfold putOne; split <;> simp
theorem putAll_length (m l : List Int) : (putAll m l).length ≤ m.length + l.length := by
  induction l generalizing m with
  | nil => simp [putAll]
  | cons x l ih => have := ih (putOne m x); have := putOne_length m x; simp only [putAll, List.foldl_cons, List.length_cons] at *; omega

theorem aget_contains (fr : AList) (o : Int) : (aget fr o).isSome = (fr.map (·.1)).contains o := by
  induction fr with
  | nil => rfl
  | cons p r ih =>
    simp only [aget, List.map_cons, List.contains_cons]
    by_cases h : p.1 = o
    · simp [h]
    · have h' : (o == p.1) = false := by simp; exact fun e => h e.symm
      rw [if_neg h, ih, h', Bool.false_or]
theorem aput_keys_new {fr : AList} {o : Int} (v : Value) (h : (fr.map (·.1)).contains o = false) : (aput fr o v).map (·.1) = fr.map (·.1) ++ [o] := by
  induction fr with
  | nil => rfl
  | cons p r ih =>
    simp only [List.map_cons, List.contains_cons, Bool.or_eq_false_iff] at h
    have hp : ¬ p.1 = o := by have := h.1; simp at this; exact fun e => this e.symm
    simp only [aput, if_neg hp, List.map_cons, List.cons_append, ih h.2]

/-- A trail lies there: what was met. -/
structure TrailAt (w : World) (base tb : Nat) (v : Value) (mb : Nat) (met : List Int) : Prop where
  tbase : base ≤ tb
  mbase : base ≤ mb
  blk : w.heap[tb]? = some (.cells #[v, .map (some mb)] 165)
  row : w.ownsRow base 41 1 v met.length (u32s met)
  map : ∃ fr, MapAt w mb .u32 fr ∧ fr.map (·.1) = met

theorem zero3 (w : World) : (zeroValue 3).run Tryz.prog w = .ok (.int .i64 0) w := by kernel_rfl

def PutR (w : World) (base tb mb : Nat) (met : List Int) (e : Ending) (w' : World) : Prop :=
  e = .returned (.tuple #[]) ∧ ∃ v', TrailAt w' base tb v' mb met ∧ Below base w w'

set_option maxRecDepth 100000 in
set_option maxHeartbeats 1000000 in
theorem put126 (base tb mb go cap : Nat) (v : Value) (met xs : List Int) (from_ : Int) (w : World) (hT : TrailAt w base tb v mb met) (hbase : base ≤ w.heap.size) (hr : RRow w ⟨go, 0, none⟩ (u32s xs)) (hgo : go < w.heap.size) (hne : v.ownBlock ≠ some go) (hgt : go ≠ tb) (hlen : met.length + xs.length ≤ 1048576000) :
    Calls Tryz.prog 126 #[.pointer (some ⟨tb, 0, none⟩), .int .i64 from_, .slice (some ⟨go, 0, none⟩) xs.length cap] w (PutR w base tb mb (putAll met xs)) := by
  obtain ⟨i0, hi, hz0, hz1, hz3⟩ := info_parts Tryz.cinfo41
  have TT := Lib.hid hT
  have RR := Lib.hid hr
  clear hT hr
  go_enter Tryz.func126, Tryz.ntmps126
  go_wp2
  go_loopw [12] (fun i wr => ∃ (k : Nat) (v' : Value), k ≤ xs.length ∧ i = .int .i64 k ∧ TrailAt wr base tb v' mb (putAll met (xs.take k)) ∧ Below base w wr ∧ w.heap.size ≤ wr.heap.size ∧ RRow wr ⟨go, 0, none⟩ (u32s xs) ∧ v'.ownBlock ≠ some go) (fun i _ => xs.length - (intOf i).toNat)
  case atStart => exact ⟨0, v, by omega, rfl, by simpa [putAll] using TT.out, Below.refl _ _, Nat.le_refl _, RR.out, hne⟩
  case round =>
    obtain ⟨k, v', hk, rfl, hT, hB, hS, hR, hN⟩ := hrel
    obtain ⟨fr, hmap, hkeys⟩ := hT.map
    obtain ⟨c1, c2⟩ := blk hT.blk
    have ht1 := lt_of_block hT.blk
    have T1 := Lib.hid hT
    have B1 := Lib.hid hB
    have R1 := Lib.hid hR
    have N1 := Lib.hid hN
    have M1 := Lib.hid hmap
    have K1 := Lib.hid hkeys
    clear hT hB hR hN hmap hkeys
    by_cases hlt : k < xs.length
    · have cx : wr.cell? ⟨go, k, none⟩ = some (.int .u32 (wd xs k)) := by
        have := rrow_cell R1.out k (by simpa using hlt)
        rw [Nat.zero_add] at this; rw [this]; simp [u32s, wd, hlt]
      have hlk2 := run_lookup_ok (P := Tryz.prog) wr Tryz.underlying163 Tryz.underlying41 M1.out (.int .i64 0) zero3 (wd xs k)
      have SN := Lib.hid (putAll_snoc met xs k hlt)
      have hpl := putAll_length met (xs.take k)
      rw [List.length_take] at hpl
      rw [aget_contains, K1.out] at hlk2
      generalize wd xs k = x at *
      generalize putAll met (xs.take k) = mt at *
      generalize (aget fr x).getD (.int .i64 0) = dv at *
      cases hc : mt.contains x with
      | true =>
        rw [hc] at hlk2
        have HC := Lib.hid hc
        clear hc
        go_wp2
        go_roundw
        case rel => exact ⟨k + 1, v', by omega, by go_num, by rw [SN.out, putOne, if_pos HC.out]; exact T1.out, B1.out, hS, R1.out, N1.out⟩
        case measure => simp [intOf]; omega
      | false =>
        rw [hc] at hlk2
        have HC := Lib.hid hc
        clear hc
        obtain ⟨w2, hup, hm2, hmod2⟩ := run_mapUpdate_int (P := Tryz.prog) wr Tryz.underlying163 Tryz.underlying41 M1.out x (.int .i64 from_)
        have htm : tb ≠ mb := M1.out.ne_cells T1.out.blk
        have hvm : ∀ g, v'.ownBlock = some g → g ≠ mb := by
          intro g hg
          rcases T1.out.row.2 with ⟨h2, _⟩ | ⟨g', c', cur, h2, _, h3, _⟩
          · rw [h2] at hg; cases hg
          · rw [h2] at hg; cases hg; exact M1.out.ne_cells h3
        have hgm : go ≠ mb := by
          have hq := R1.out k (.int .u32 x)
          have cx' := cx
          intro he
          obtain ⟨es, cl, hb, _⟩ := M1.out
          rw [he] at cx'
          simp [World.cell?, hb] at cx'
        have bk2 := hmod2.keep T1.out.blk (by simpa using htm)
        have row2 := hmod2.row T1.out.row (by intro g hg; simpa using hvm g hg)
        obtain ⟨d1, d2⟩ := blk bk2
        have RK := Lib.hid row2
        have BK := Lib.hid (keepB bk2 (.cells #[.int .u32 x] 41))
        have NW : Hid (RRow (w2.alloc (.cells #[.int .u32 x] 41)) ⟨w2.heap.size, 0, none⟩ (u32s [x])) := row_read (World.ownsRow_lit (base := 0) w2 #[.int .u32 x] 1 (Nat.zero_le _) (by unfold maxLen; omega) rfl)
        have hs2 := hmod2.size
        have MM2 := Lib.hid hm2
        have MD2 := Lib.hid hmod2
        have hvt : v'.ownBlock ≠ some tb := by
          rcases T1.out.row.2 with ⟨h2, _⟩ | ⟨g', c', cur, h2, _, h3, _⟩
          · rw [h2]; simp [Value.ownBlock]
          · rw [h2]; simp only [Value.ownBlock, ne_eq, Option.some.injEq]; exact block_ne h3 T1.out.blk (by simp)
        have VT := Lib.hid hvt
        have VM := Lib.hid hvm
        clear hm2 hmod2 row2 bk2 hvt hvm
        go_wp2_with (at_builtin; refine wpList_append_lies _ rfl _ _ 23 rfl base 41 i0 (.int .u32 0) 1 4 Tryz.underlying23 hi hz0 hz1 hz3 rfl (by decide) _ mt.length _ rfl (RK.out.alloc _) ⟨w2.heap.size, 0, none⟩ 1 1 (u32s [x]) rfl rfl NW.out (u32s_one _) (by decide) (by unfold maxLen; omega) (by omega) (by simp; omega) (w2.heap.size + 1) (by simp) ?_; intro g3 c3 w3 hown hgrow hat hlt3; obtain ⟨e1, e2⟩ := blk (grow_keep hgrow BK.out (by simp only [go_sem, ne_eq]; exact fun h => VT.out h.symm)))
        have hown2 : w3.ownsRow base 41 1 (.slice (some ⟨g3, 0, none⟩) (mt.length + 1) c3) (mt.length + 1) (u32s (mt ++ [x])) := by
          have : u32s (mt ++ [x]) = u32s mt ++ u32s [x] := by simp [u32s]
          rw [this]; exact hown
        obtain ⟨es, cl, hmb, hmr⟩ := MM2.out
        have hmb3 := grow_keep hgrow (keepB hmb (.cells #[.int .u32 x] 41)) (by simp only [go_sem, ne_eq]; exact fun h => VM.out mb h.symm rfl)
        have hgr := hgrow
        have hbk3 := grow_keep hgrow BK.out (by simp only [go_sem, ne_eq]; exact fun h => VT.out h.symm)
        have hst := setB (i := 0) hbk3 (.slice (some ⟨g3, 0, none⟩) (mt.length + 1) c3)
        have hg3t : g3 ≠ tb := by
          obtain ⟨cur, hcur, _⟩ := row_block hown2
          exact block_ne hcur hbk3 (by simp)
        have hmod3 := mod_setCell w3 ⟨tb, 0, none⟩ (.slice (some ⟨g3, 0, none⟩) (mt.length + 1) c3)
        have hT3 : TrailAt (w3.setCell ⟨tb, 0, none⟩ (.slice (some ⟨g3, 0, none⟩) (mt.length + 1) c3)) base tb (.slice (some ⟨g3, 0, none⟩) (mt.length + 1) c3) mb (mt ++ [x]) := by
          refine ⟨T1.out.tbase, T1.out.mbase, by simpa using hst, ?_, aput fr x (.int .i64 from_), ⟨es, cl, hmod3.keep hmb3 (by simpa using htm.symm), hmr⟩, ?_⟩
          · have := hmod3.row hown2 (by intro g hg; cases hg; simpa using hg3t)
            simpa using this
          · rw [aput_keys_new _ (by rw [K1.out]; exact HC.out), K1.out]
        have hB3 : Below base w (w3.setCell ⟨tb, 0, none⟩ (.slice (some ⟨g3, 0, none⟩) (mt.length + 1) c3)) := by
          refine (Below.trans B1.out ?_)
          refine ⟨hgr.os.trans MD2.out.os, hgr.tape.trans MD2.out.tape, hgr.output.trans MD2.out.output, ?_, ?_⟩
          · have h1 := hgr.size; have h2 := MD2.out.size; simp at h1; simp [World.setCell]; omega
          · intro q hq
            have h1 := T1.out.tbase
            have h2 := T1.out.mbase
            rw [Below.heap_setCell _ _ _ _ (by simp; omega), hgr.block q (by simp; omega) ?_, Below.heap_alloc _ _ _ (by omega), MD2.out.block q (by omega) (by simp; omega)]
            simp only [go_sem, ne_eq]
            intro he
            have := (T1.out.row.lt q he.symm).1
            omega
        have hN3 : g3 ≠ go := by
          rcases hat with h1 | h1
          · simp only [go_sem] at h1
            intro he; rw [he] at h1; exact N1.out h1
          · omega
        have hR3 : RRow (w3.setCell ⟨tb, 0, none⟩ (.slice (some ⟨g3, 0, none⟩) (mt.length + 1) c3)) ⟨go, 0, none⟩ (u32s xs) := by
          intro j u hj
          have h1 := R1.out j u hj
          have e : (w3.setCell ⟨tb, 0, none⟩ (.slice (some ⟨g3, 0, none⟩) (mt.length + 1) c3)).heap[go]? = wr.heap[go]? := by
            rw [Below.heap_setCell _ _ _ _ (by simpa using hgt), hgr.block go (by simp; omega) (by simp only [go_sem, ne_eq]; exact fun h => N1.out h.symm), Below.heap_alloc _ _ _ (by omega), MD2.out.block go (by omega) (by simpa using hgm)]
          rw [World.cell?_of_block (w := wr) (by rw [add_block]; exact e)]; exact h1
        have T3 := Lib.hid hT3
        have B3 := Lib.hid hB3
        have R3 := Lib.hid hR3
        have hsz3 : w.heap.size ≤ (w3.setCell ⟨tb, 0, none⟩ (.slice (some ⟨g3, 0, none⟩) (mt.length + 1) c3)).heap.size := hB3.size
        have SZ3 := Lib.hid hsz3
        clear hT3 hB3 hR3 hmod3 hst hbk3 hgr hmb3 hmb hmr hown2 hown hgrow hsz3 hat e1 e2 d1 d2
        refine ⟨⟨k + 1, .slice (some ⟨g3, 0, none⟩) (mt.length + 1) c3, ?_⟩, ?_⟩
        · refine ⟨by omega, by go_num, ?_, B3.out, SZ3.out, R3.out, by simp [Value.ownBlock, hN3]⟩
          rw [SN.out, putOne, if_neg (by rw [HC.out]; simp)]; exact T3.out
        · simp [intOf]; omega
    · go_wp2
      go_end0
      obtain rfl : k = xs.length := by omega
      refine ⟨rfl, v', ?_, B1.out⟩
      have := T1.out
      rw [List.take_length] at this
      exact this

end Go.Proofs.Eff
