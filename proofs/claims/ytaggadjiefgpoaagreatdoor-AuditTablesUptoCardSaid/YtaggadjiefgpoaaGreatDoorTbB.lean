/- A turn of the law of tables: what holds between two deeds. -/
import Derived.Test.YtaggadjiefgpoaaGreatDoorTbA
namespace Go.Proofs.Eff
open Go.RowKit

structure TurnI (w wr : World) (tb cap : Nat) (first : Int) (L : HLoc) (E : List Ent) (v : Value) : Prop where
  tab : ∃ a h os T, TBx wr L h os a cap tb T ∧ Rel h os a cap T (endT ⟨cap, [], first, 0⟩ (E.map (·.1)))
  ans : ansAll ⟨cap, [], first, 0⟩ (E.map (·.1)) = true
  acts : ActsI wr (w.heap.size + 1) tb L v E
  above : L.above (w.heap.size + 1)
  tb1 : w.heap.size < tb
  ext : Ext w wr

/-- An act was done at W (an extension of wr) and the boxes behind wr were written then. -/
theorem TurnI.act {w wr W W1 W2 : World} {tb a cap : Nat} {first : Int} {L : HLoc} {E : List Ent} {v : Value} {h : HeapS} {os : List Nat} {S : List Nat} {act : HAct}
    (I : TurnI w wr tb cap first L E v) (hb : ∀ x, x ∈ L.blocks → x < wr.heap.size) (ht : tb < wr.heap.size) (hE : Ext wr W)
    (r : ActR W L h os a cap tb (endT ⟨cap, [], first, 0⟩ (E.map (·.1))) act W1) (hM : Mod S W1 W2) (hS : ∀ x, x ∈ S → wr.heap.size ≤ x) :
    (∃ h' T', TBx W2 L h' os a cap tb T' ∧ Rel h' os a cap T' (endT ⟨cap, [], first, 0⟩ (E.map (·.1) ++ [act]))) ∧ ansAll ⟨cap, [], first, 0⟩ (E.map (·.1) ++ [act]) = true ∧ ActsI W2 (w.heap.size + 1) tb L v E ∧ Ext w W2 := by
  obtain ⟨h', T', t', R'⟩ := r.tab
  refine ⟨⟨h', T', t'.modFar hM (fun x hx hq => ?_) (fun hq => ?_), ?_⟩, ?_, I.acts.turned ⟨⟨[tb, L.gw] ++ S, ?_, ?_⟩, fun x hx => .inl hx⟩, ?_⟩
  · have h1 := hb x hx; have h2 := hS x hq; omega
  · have h2 := hS tb hq; omega
  · rw [endT_snoc]; exact R'
  · rw [ansAll_snoc, I.ans, r.ans]; rfl
  · intro x hx
    rcases List.mem_append.1 hx with h1 | h1
    · simp only [List.mem_cons, List.not_mem_nil, or_false] at h1
      rcases h1 with rfl | rfl
      · exact .inl rfl
      · exact .inr (.inl (by simp [HLoc.blocks]))
    · exact .inr (.inr (hS x h1))
  · exact (hE.mod _).trans ((r.mod.mono (fun x hx => List.mem_append_left _ hx)).trans (hM.mono (fun x hx => List.mem_append_right _ hx)))
  · have hs := I.ext.size
    have M2 : Mod ([tb, L.gw] ++ S) wr W2 := (hE.mod _).trans ((r.mod.mono (fun x hx => List.mem_append_left _ hx)).trans (hM.mono (fun x hx => List.mem_append_right _ hx)))
    refine I.ext.of_mod M2 (fun x hx => ?_)
    rcases List.mem_append.1 hx with h1 | h1
    · simp only [List.mem_cons, List.not_mem_nil, or_false] at h1
      rcases h1 with rfl | rfl
      · have := I.tb1; omega
      · have := I.above L.gw (by simp [HLoc.blocks]); omega
    · have := hS x h1; omega

/-- The act was appended. -/
theorem TurnI.snoc {w W2 W3 : World} {tb a cap : Nat} {first : Int} {L : HLoc} {E : List Ent} {v v' : Value} {x : Ent} {h' : HeapS} {os : List Nat} {T' : HTab}
    (t : TBx W2 L h' os a cap tb T') (R : Rel h' os a cap T' (endT ⟨cap, [], first, 0⟩ (E.map (·.1) ++ [x.1]))) (ans : ansAll ⟨cap, [], first, 0⟩ (E.map (·.1) ++ [x.1]) = true)
    (ha : ActsI W2 (w.heap.size + 1) tb L v E) (hx : EntOK W2 (w.heap.size + 1) tb L x) (above : L.above (w.heap.size + 1)) (tb1 : w.heap.size < tb) (hE : Ext w W2)
    (hrow : W3.ownsRow (w.heap.size + 1) 90 6 v' (E.length + 1) (entsC E ++ entC x)) (hg : W2.grownBy W3 v.ownBlock) :
    TurnI w W3 tb cap first L (E ++ [x]) v' := by
  have hM := grown_modL hg
  have hS : ∀ y, y ∈ v.ownBlock.toList → v.ownBlock = some y := fun y hy => by
    cases hv : v.ownBlock with
    | none => rw [hv] at hy; simp at hy
    | some q => rw [hv] at hy; simp at hy; rw [hy]
  have t3 := t.modFar hM (fun y hy hq => (ha.far y (hS y hq)).2 hy) (fun hq => (ha.far tb (hS tb hq)).1 rfl)
  have hfar : ∀ g, v'.ownBlock = some g → g ≠ tb ∧ ¬ g ∈ L.blocks := fun g hgv => by
    have h0 : ∃ k, (entsC E ++ entC x)[0]? = some (.int .i64 k) := by
      cases E with
      | nil => exact ⟨x.1.kind, rfl⟩
      | cons y r => exact ⟨y.1.kind, rfl⟩
    obtain ⟨k0, h0⟩ := h0
    have hc := hrow.cells hgv 0 _ h0
    rw [Addr.add_zero'] at hc
    obtain ⟨_, h2⟩ := hrow
    obtain ⟨cur, h5⟩ : ∃ cur, W3.heap[g]? = some (.cells cur 90 (0, 0)) := by
      rcases h2 with ⟨h2, _⟩ | ⟨g', cap', cur, h2, _, h5, _⟩
      · rw [h2] at hgv; simp [Value.ownBlock] at hgv
      · rw [h2] at hgv
        simp only [Value.ownBlock, Option.some.injEq] at hgv
        subst hgv
        exact ⟨cur, h5⟩
    have row : ∀ (e : TypeId) (b c n : Nat) (xs : List Value), e ≠ 90 → W3.ownsRow 0 e 1 (.slice (some ⟨b, 0, none⟩) n c) n xs → g ≠ b := fun e b c n xs he hr hb => by
      obtain ⟨_, h6⟩ := hr
      rcases h6 with ⟨h6, _⟩ | ⟨g', cap', cur', h6, _, h7, _⟩
      · cases h6
      · simp only [Value.slice.injEq, Option.some.injEq, Addr.mk.injEq, and_true, true_and] at h6
        rw [← h6.1, ← hb, h5] at h7
        simp only [Option.some.injEq, Obj.cells.injEq] at h7
        exact he h7.2.1.symm
    refine ⟨fun hq => ?_, fun hq => ?_⟩
    · subst hq
      have := t3.tab.ptr
      rw [hc] at this
      cases this
    · simp only [HLoc.blocks, List.mem_cons, List.not_mem_nil, or_false] at hq
      rcases hq with hq | hq | hq | hq
      · have := t3.heap.blk
        rw [← hq, h5] at this
        simp only [Option.some.injEq, Obj.cells.injEq] at this
        exact absurd this.2.1 (by decide)
      · exact row 24 _ _ _ _ (by decide) t3.heap.words hq
      · exact row 4 _ _ _ _ (by decide) t3.heap.starts hq
      · exact row 41 _ _ _ _ (by decide) t3.heap.roots hq
  refine ⟨⟨a, h', os, T', t3, ?_⟩, ?_, ha.snoc hx hrow hg hfar, above, tb1, hE.of_mod hM (fun y hy => ?_)⟩
  · rw [List.map_append]; exact R
  · rw [List.map_append]; exact ans
  · have := (ha.row.lt y (hS y hy)).1
    omega
/-- The garbage was collected. -/
theorem TurnI.collect {w wr W W1 : World} {tb a cap : Nat} {first : Int} {L L' : HLoc} {E : List Ent} {v : Value} {h : HeapS} {os : List Nat} {T : HTab}
    (I : TurnI w wr tb cap first L E v) (t : TBx W L h os a cap tb T) (R : Rel h os a cap T (endT ⟨cap, [], first, 0⟩ (E.map (·.1)))) (htb : tb < wr.heap.size) (hE : Ext wr W)
    (hb : L'.b = L.b) (hA : HeapAt W1 L' (collectH h os)) (hM : Mod [L.b] W W1) (g1 : W.heap.size ≤ L'.gw) (g2 : W.heap.size ≤ L'.gs) (g3 : W.heap.size ≤ L'.gr) : TurnI w W1 tb cap first L' E v := by
  obtain ⟨a', hA2, hf⟩ := ArrOK.collect t.wf t.so t.arr
  have hs := hE.size
  have hs2 := I.ext.size
  have hLb := I.above L.b (by simp [HLoc.blocks])
  have hl := t.heap.lt
  have hne : L.b ≠ tb := fun h1 => t.ap (by rw [← h1]; simp [HLoc.blocks])
  have hblk : ∀ x, x ∈ L'.blocks → x = L.b ∨ W.heap.size ≤ x := fun x hx => by
    simp only [HLoc.blocks, List.mem_cons, List.not_mem_nil, or_false] at hx
    rcases hx with rfl | rfl | rfl | rfl
    · exact .inl hb
    · exact .inr g1
    · exact .inr g2
    · exact .inr g3
  have M2 : Mod [L.b] wr W1 := (hE.mod _).trans hM
  refine ⟨⟨a', _, _, T, ⟨hA, collect_wf t.wf t.so, collect_sound t.wf t.so, hA2, ?_, fun hx => ?_, t.capE, t.cap1, t.cap2⟩, R.collect hf⟩, I.ans, I.acts.turned ⟨⟨[L.b], fun x hx => ?_, M2⟩, fun x hx => ?_⟩, fun x hx => ?_, I.tb1, I.ext.of_mod M2 (fun x hx => ?_)⟩
  · rw [hb]; exact t.tab.mod hM (by simp; exact fun h1 => hne h1.symm)
  · rcases hblk tb hx with h1 | h1
    · exact hne h1.symm
    · omega
  · rw [List.mem_singleton] at hx; subst hx; exact .inr (.inl (by simp [HLoc.blocks]))
  · rcases hblk x hx with h1 | h1
    · subst h1; exact .inl (by simp [HLoc.blocks])
    · exact .inr (by omega)
  · rcases hblk x hx with h1 | h1
    · subst h1; exact hLb
    · omega
  · rw [List.mem_singleton] at hx; subst hx; omega
end Go.Proofs.Eff
