/- The acts that the law of tables writes down: their row, and what keeps it. -/
import Derived.Test.YtaggadjiefgpoaaGreatDoorTb14
namespace Go.Proofs.Eff
open Go.RowKit

/-- An act with the slice of its numbers. -/
abbrev Ent := HAct × Option Addr × Nat
def entC (x : Ent) : List Value := [.int .i64 x.1.kind, .int .u64 x.1.id, .int .i64 x.1.n, .int .u32 x.1.ser, .slice x.2.1 x.1.ids.length x.2.2, .int .i64 x.1.err]
def entsC (E : List Ent) : List Value := E.flatMap entC
theorem entsC_length (E : List Ent) : (entsC E).length = E.length * 6 := by
  induction E with
  | nil => rfl
  | cons x r ih => simp only [entsC, List.flatMap_cons, List.length_append, List.length_cons] at ih ⊢; rw [ih]; simp [entC]; omega
theorem entsC_append (E F : List Ent) : entsC (E ++ F) = entsC E ++ entsC F := by simp [entsC]
theorem entsC_get {E : List Ent} {k : Nat} {x : Ent} (hk : E[k]? = some x) (j : Nat) (hj : j < 6) : (entsC E)[k * 6 + j]? = (entC x)[j]? := by
  induction E generalizing k with
  | nil => simp at hk
  | cons y r ih =>
    have hl : (entC y).length = 6 := rfl
    cases k with
    | zero =>
      simp only [List.getElem?_cons_zero, Option.some.injEq] at hk
      subst hk
      simp only [entsC, List.flatMap_cons]
      rw [List.getElem?_append_left (by omega)]
      simp
    | succ k =>
      simp only [List.getElem?_cons_succ] at hk
      have := ih hk
      simp only [entsC, List.flatMap_cons] at this ⊢
      rw [List.getElem?_append_right (by omega), ← this]
      congr 1
      omega

/-- One act stands good in w: its numbers lie in a row of their own, far from the table and the heap. -/
structure EntOK (w : World) (base tb : Nat) (L : HLoc) (x : Ent) : Prop where
  ids : 0 < x.1.ids.length → ∃ g off, x.2.1 = some ⟨g, off, none⟩ ∧ base ≤ g ∧ g < w.heap.size ∧ g ≠ tb ∧ (¬ g ∈ L.blocks) ∧ (∃ cs fz, w.heap[g]? = some (.cells cs 55 fz)) ∧ ∀ j u, x.1.ids[j]? = some u → w.cell? ⟨g, off + j, none⟩ = some (.int .u64 u)
  small : x.1.ids.length ≤ 256
  nil : x.2.1 = none → x.2.2 = 0
  id0 : 0 ≤ x.1.id
  id1 : x.1.id < 18446744073709551616
  s0 : 0 ≤ x.1.ser
  s1 : x.1.ser < 4294967296
theorem EntOK.len {w : World} {base tb : Nat} {L : HLoc} {x : Ent} (h : EntOK w base tb L x) : x.1.ids.length ≤ 9223372036854775807 := Nat.le_trans h.small (by decide)
/-- The row of all. -/
structure ActsI (w : World) (base tb : Nat) (L : HLoc) (v : Value) (E : List Ent) : Prop where
  row : w.ownsRow base 90 6 v E.length (entsC E)
  far : ∀ g, v.ownBlock = some g → g ≠ tb ∧ ¬ g ∈ L.blocks
  all : ∀ x, x ∈ E → EntOK w base tb L x

/-- What may have been touched in a turn, and where the heap may lie then. -/
structure Turned (w w' : World) (tb : Nat) (L L' : HLoc) : Prop where
  mod : ∃ S, (∀ x, x ∈ S → x = tb ∨ x ∈ L.blocks ∨ w.heap.size ≤ x) ∧ Mod S w w'
  loc : ∀ x, x ∈ L'.blocks → x ∈ L.blocks ∨ w.heap.size ≤ x

theorem EntOK.turned {w w' : World} {base tb : Nat} {L L' : HLoc} {x : Ent} (h : EntOK w base tb L x) (t : Turned w w' tb L L') : EntOK w' base tb L' x := by
  obtain ⟨S, hS, hM⟩ := t.mod
  refine ⟨fun h0 => ?_, h.small, h.nil, h.id0, h.id1, h.s0, h.s1⟩
  obtain ⟨g, off, e1, e2, e3, e4, e5, ⟨cs, fz, e6⟩, e7⟩ := h.ids h0
  have hn : ¬ g ∈ S := fun hg => by
    rcases hS g hg with h1 | h1 | h1
    · exact e4 h1
    · exact e5 h1
    · omega
  have hb := hM.block g e3 hn
  refine ⟨g, off, e1, e2, Nat.lt_of_lt_of_le e3 hM.size, e4, fun hg => ?_, ⟨cs, fz, by rw [hb]; exact e6⟩, fun j u hj => ?_⟩
  · rcases t.loc g hg with h1 | h1
    · exact e5 h1
    · omega
  · rw [World.cell?_of_block (a := ⟨g, off + j, none⟩) hb]; exact e7 j u hj
theorem ActsI.turned {w w' : World} {base tb : Nat} {L L' : HLoc} {v : Value} {E : List Ent} (h : ActsI w base tb L v E) (t : Turned w w' tb L L') : ActsI w' base tb L' v E := by
  refine ⟨?_, fun g hg => ⟨(h.far g hg).1, fun hL => ?_⟩, fun x hx => (h.all x hx).turned t⟩
  · obtain ⟨S, hS, hM⟩ := t.mod
    refine hM.row h.row (fun g hg hs => ?_)
    rcases hS g hs with h1 | h1 | h1
    · exact (h.far g hg).1 h1
    · exact (h.far g hg).2 h1
    · have := (h.row.lt g hg).2; omega
  · rcases t.loc g hL with h1 | h1
    · exact (h.far g hg).2 h1
    · have := (h.row.lt g hg).2; omega
theorem ActsI.nil (w : World) (base tb : Nat) (L : HLoc) : ActsI w base tb L (.slice none 0 0) [] :=
  ⟨⟨rfl, .inl ⟨rfl, rfl⟩⟩, fun g hg => by simp [Value.ownBlock] at hg, fun x hx => by simp at hx⟩

/-- One more was appended. -/
theorem ActsI.snoc {w w' : World} {base tb : Nat} {L : HLoc} {v v' : Value} {E : List Ent} {x : Ent} (h : ActsI w base tb L v E) (hx : EntOK w base tb L x)
    (hrow : w'.ownsRow base 90 6 v' (E.length + 1) (entsC E ++ entC x)) (hg : w.grownBy w' v.ownBlock) (hfar : ∀ g, v'.ownBlock = some g → g ≠ tb ∧ ¬ g ∈ L.blocks) : ActsI w' base tb L v' (E ++ [x]) := by
  have keep : ∀ y, EntOK w base tb L y → EntOK w' base tb L y := fun y hy => by
    refine ⟨fun h0 => ?_, hy.small, hy.nil, hy.id0, hy.id1, hy.s0, hy.s1⟩
    obtain ⟨g, off, e1, e2, e3, e4, e5, ⟨cs, fz, e6⟩, e7⟩ := hy.ids h0
    have hb := hg.block g e3 (fun he => by
      obtain ⟨_, h2⟩ := h.row
      rcases h2 with ⟨h2, _⟩ | ⟨g', cap', cur, h2, _, h5, _⟩
      · rw [h2] at he; simp [Value.ownBlock] at he
      · rw [h2] at he
        simp only [Value.ownBlock, Option.some.injEq] at he
        subst he
        rw [h5] at e6
        cases e6)
    exact ⟨g, off, e1, e2, Nat.lt_of_lt_of_le e3 hg.size, e4, e5, ⟨cs, fz, by rw [hb]; exact e6⟩, fun j u hj => by rw [World.cell?_of_block (a := ⟨g, off + j, none⟩) hb]; exact e7 j u hj⟩
  refine ⟨?_, hfar, fun y hy => ?_⟩
  · rw [entsC_append]
    simpa [entsC] using hrow
  · rcases List.mem_append.1 hy with h1 | h1
    · exact keep y (h.all y h1)
    · rw [List.mem_singleton] at h1; subst h1; exact keep _ hx

/-- The document reads them so. -/
theorem ActsI.acts {w : World} {base tb n c : Nat} {L : HLoc} {ad : Option Addr} {E : List Ent} (h : ActsI w base tb L (.slice ad n c) E) : ActsAt w ad (E.map (·.1)) := by
  intro h0
  simp only [List.length_map] at h0
  have hf : ∃ g q, Value.slice ad n c = .slice (some ⟨g, 0, none⟩) E.length q := by
    obtain ⟨_, h2⟩ := h.row
    rcases h2 with ⟨_, h2⟩ | ⟨g', cap', cur, h2, _⟩
    · omega
    · exact ⟨g', cap', h2⟩
  obtain ⟨g, q, hv⟩ := hf
  simp only [Value.slice.injEq] at hv
  obtain ⟨rfl, rfl, rfl⟩ := hv
  have hlt := h.row.lt g rfl
  refine ⟨g, 0, rfl, hlt.2, fun k a hk => ?_⟩
  rw [List.getElem?_map, Option.map_eq_some_iff] at hk
  obtain ⟨x, hx, rfl⟩ := hk
  have hxm := h.all x (List.mem_of_getElem? hx)
  have hc : ∀ j u, j < 6 → (entC x)[j]? = some u → w.cell? ⟨g, 0 + k * 6 + j, none⟩ = some u := fun j u hj hu => by
    have := h.row.cells (g := g) rfl (k * 6 + j) u (by rw [entsC_get hx j hj]; exact hu)
    rw [Addr.add_lit] at this
    rw [Nat.zero_add, ← Nat.zero_add (k * 6 + j)]; exact this
  refine ⟨x.2.1, x.2.2, hc 0 _ (by omega) rfl, hc 1 _ (by omega) rfl, hc 2 _ (by omega) rfl, hc 3 _ (by omega) rfl, hc 4 _ (by omega) rfl, hc 5 _ (by omega) rfl, fun h1 => ?_, hxm.len⟩
  obtain ⟨g2, off, e1, e2, e3, e4, e5, e6, e7⟩ := hxm.ids h1
  refine ⟨g2, off, e1, e3, fun j u hj => ?_⟩
  simp only [u64s, List.getElem?_map, Option.map_eq_some_iff] at hj
  obtain ⟨y, hy, rfl⟩ := hj
  rw [Addr.add_lit]; exact e7 j y hy
/-- Its numbers can be read, later too. -/
theorem EntOK.read {w W : World} {base tb : Nat} {L : HLoc} {x : Ent} (h : EntOK w base tb L x) (hE : Ext w W) {a : Addr} (ha : x.2.1 = some a) : ∀ j u, (u64s x.1.ids)[j]? = some u → W.cell? (a.add j) = some u := by
  intro j u hj
  simp only [u64s, List.getElem?_map, Option.map_eq_some_iff] at hj
  obtain ⟨y, hy, rfl⟩ := hj
  obtain ⟨g, off, e1, e2, e3, e4, e5, e6, e7⟩ := h.ids (Nat.lt_of_le_of_lt (Nat.zero_le j) (List.getElem?_eq_some_iff.1 hy).1)
  rw [ha, Option.some.injEq] at e1
  subst e1
  rw [Addr.add_lit, hE.cell (p := ⟨g, off + j, none⟩) e3]
  exact e7 j y hy
theorem EntOK.idsAt {w W : World} {base tb g : Nat} {L : HLoc} {x : Ent} {cur : Array Value} (h : EntOK w base tb L x) (hE : Ext w W) (hg : w.heap[g]? = some (.cells cur 90 (0, 0))) : ∀ W', Mod [g] W W' → IdsAt W' x.2.1 x.1.ids := by
  intro W' hM h0
  obtain ⟨g2, off, e1, e2, e3, e4, e5, ⟨cs, fz, e6⟩, e7⟩ := h.ids h0
  have hne : g2 ≠ g := fun e => by
    subst e
    rw [hg] at e6
    cases e6
  have e3' := Nat.lt_of_lt_of_le e3 hE.size
  have hb := hM.block g2 e3' (by simpa using hne)
  refine ⟨g2, off, e1, Nat.lt_of_lt_of_le e3' hM.size, fun j u hj => ?_⟩
  simp only [u64s, List.getElem?_map, Option.map_eq_some_iff] at hj
  obtain ⟨y, hy, rfl⟩ := hj
  rw [Addr.add_lit, World.cell?_of_block (a := ⟨g2, off + j, none⟩) hb, hE.cell (p := ⟨g2, off + j, none⟩) e3]
  exact e7 j y hy
end Go.Proofs.Eff
