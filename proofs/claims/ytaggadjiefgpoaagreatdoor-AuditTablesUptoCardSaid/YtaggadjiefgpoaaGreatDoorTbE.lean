/- effigylaw24.AuditTables: an act of the row written anew: plain laws. -/
import Derived.Test.YtaggadjiefgpoaaGreatDoorTbC
namespace Go.Proofs.Eff
open Go.RowKit

theorem err_small (t : TabS) (a : HAct) (h : (ansF t a).2 = true) (k1 : a.kind ≠ 1) (k2 : a.kind ≠ 2) (k5 : a.kind ≠ 5) : 0 ≤ a.err ∧ a.err ≤ 1000 := by
  unfold ansF at h
  rw [if_neg k1, if_neg k2] at h
  by_cases k3 : a.kind = 3
  · rw [if_pos k3] at h
    unfold renewF at h
    cases hx : lget t.live a.id with
    | none => simp only [hx, beq_iff_eq] at h; omega
    | some x =>
      simp only [hx] at h
      cases hf : fitsB a.n <;> simp only [hf, if_true, Bool.false_eq_true, if_false, beq_iff_eq] at h <;> omega
  · rw [if_neg k3] at h
    by_cases k4 : a.kind = 4
    · rw [if_pos k4] at h
      unfold releaseF at h
      cases hx : lget t.live a.id with
      | none => simp only [hx, beq_iff_eq] at h; omega
      | some x => simp only [hx, beq_iff_eq] at h; omega
    · rw [if_neg k4, if_neg k5] at h; cases h

/-- One of them, and its place. -/
theorem ActsI.slot {w : World} {base tb n c : Nat} {L : HLoc} {ad : Option Addr} {E : List Ent} (h : ActsI w base tb L (.slice ad n c) E) (h0 : 0 < E.length) :
    n = E.length ∧ ∃ g cur, ad = some ⟨g, 0, none⟩ ∧ base ≤ g ∧ g < w.heap.size ∧ w.heap[g]? = some (.cells cur 90 (0, 0)) ∧ ∀ k x, E[k]? = some x → ∀ j u, j < 6 → (entC x)[j]? = some u → w.cell? ⟨g, k * 6 + j, none⟩ = some u := by
  have hf : ∃ g q cur, Value.slice ad n c = .slice (some ⟨g, 0, none⟩) E.length q ∧ w.heap[g]? = some (.cells cur 90 (0, 0)) := by
    obtain ⟨_, h2⟩ := h.row
    rcases h2 with ⟨_, h2⟩ | ⟨g', cap', cur, h2, _, h4, _⟩
    · omega
    · exact ⟨g', cap', cur, h2, h4⟩
  obtain ⟨g, q, cur, hv, hblk⟩ := hf
  simp only [Value.slice.injEq] at hv
  obtain ⟨rfl, rfl, rfl⟩ := hv
  have hlt := h.row.lt g rfl
  refine ⟨rfl, g, cur, rfl, hlt.1, hlt.2, hblk, fun k x hk j u hj hu => ?_⟩
  have := h.row.cells (g := g) rfl (k * 6 + j) u (by rw [entsC_get hk j hj]; exact hu)
  rw [Addr.add_lit, Nat.zero_add] at this
  exact this

theorem ActAt.of_ent {w : World} {g o : Nat} {y : Ent} (hc : ∀ j u, j < 6 → (entC y)[j]? = some u → w.cell? ⟨g, o + j, none⟩ = some u) (hi : IdsAt w y.2.1 y.1.ids) (hl : y.1.ids.length ≤ 9223372036854775807) : ActAt w g o y.1 y.2.1 y.2.2 :=
  ⟨hc 0 _ (by omega) rfl, hc 1 _ (by omega) rfl, hc 2 _ (by omega) rfl, hc 3 _ (by omega) rfl, hc 4 _ (by omega) rfl, hc 5 _ (by omega) rfl, hi, hl⟩

/-- An act was written anew at one of its fields (the world may have grown ahead of that). -/
theorem ActsI.spoil {w W : World} {base tb n c : Nat} {L : HLoc} {ad : Option Addr} {E : List Ent} (h : ActsI w base tb L (.slice ad n c) E) (hE : Ext w W) {i : Nat} {x : Ent} (hx : E[i]? = some x) {g : Nat} (hg : ad = some ⟨g, 0, none⟩) (j : Nat) (hj : j < 6) (v : Value) (y : Ent)
    (hy : entC y = (entC x).set j v) (hids : ∀ W', Mod [g] W W' → IdsAt W' y.2.1 y.1.ids) (hl : y.1.ids.length ≤ 9223372036854775807) : ActsAt (W.setCell ⟨g, i * 6 + j, none⟩ v) ad ((E.map (·.1)).set i y.1) := by
  intro h0
  simp only [List.length_set, List.length_map] at h0
  obtain ⟨_, g', cur, hg', hb1, hb2, hblk, hcells⟩ := h.slot h0
  rw [hg] at hg'
  simp only [Option.some.injEq, Addr.mk.injEq, and_true] at hg'
  subst hg'
  have hs := hE.size
  have hil : i < E.length := (List.getElem?_eq_some_iff.1 hx).1
  refine ⟨g, 0, hg, by simp; omega, fun k a hk => ?_⟩
  rw [Nat.zero_add]
  have hcW : ∀ k x, E[k]? = some x → ∀ j u, j < 6 → (entC x)[j]? = some u → W.cell? ⟨g, k * 6 + j, none⟩ = some u := fun k x hk j u hj hu => by
    rw [hE.cell (p := ⟨g, k * 6 + j, none⟩) hb2]; exact hcells k x hk j u hj hu
  have hM : Mod [g] W (W.setCell ⟨g, i * 6 + j, none⟩ v) := mod_setCell W ⟨g, i * 6 + j, none⟩ v
  by_cases hki : k = i
  · subst hki
    rw [List.getElem?_set_self (by simpa using hil), Option.some.injEq] at hk
    subst hk
    refine ⟨y.2.1, y.2.2, ActAt.of_ent (fun q u hq hu => ?_) (hids _ hM) hl⟩
    rw [hy] at hu
    by_cases hqj : q = j
    · subst hqj
      rw [List.getElem?_set_self (by show q < 6; exact hq), Option.some.injEq] at hu
      subst hu
      obtain ⟨u0, hu0⟩ : ∃ u0, (entC x)[q]? = some u0 := ⟨(entC x)[q]'(by show q < 6; exact hq), by simp⟩
      exact World.cell?_setCell_same _ _ _ (hcW k x hx q u0 hq hu0)
    · rw [List.getElem?_set_ne (fun e => hqj e.symm)] at hu
      rw [World.cell?_setCell_other _ _ _ _ (by intro e; simp only [Addr.mk.injEq, and_true, true_and] at e; omega)]
      exact hcW k x hx q u hq hu
  · rw [List.getElem?_set_ne (fun e => hki e.symm), List.getElem?_map, Option.map_eq_some_iff] at hk
    obtain ⟨z, hz, rfl⟩ := hk
    have ok := (h.all z (List.mem_of_getElem? hz))
    refine ⟨z.2.1, z.2.2, ActAt.of_ent (fun q u hq hu => ?_) (fun h1 => ?_) ok.len⟩
    · rw [World.cell?_setCell_other _ _ _ _ (by intro e; simp only [Addr.mk.injEq, and_true, true_and] at e; omega)]
      exact hcW k z hz q u hq hu
    · obtain ⟨g2, off, e1, e2, e3, e4, e5, ⟨cs, fz, e6⟩, e7⟩ := ok.ids h1
      have hne : g2 ≠ g := fun e => by
        subst e
        rw [hblk] at e6
        cases e6
      refine ⟨g2, off, e1, by simp; omega, fun q u hq => ?_⟩
      simp only [u64s, List.getElem?_map, Option.map_eq_some_iff] at hq
      obtain ⟨p, hp, rfl⟩ := hq
      rw [Addr.add_lit, World.cell?_setCell_other _ _ _ _ (by intro e; simp only [Addr.mk.injEq] at e; exact hne e.1.symm), hE.cell (p := ⟨g2, off + q, none⟩) e3]
      exact e7 q p hp

/-- What the audit then finds. -/
theorem spoiled_found {cap : Nat} {first : Int} {E : List Ent} {i : Nat} {x : Ent} (hbt : badTab cap first = false) (hx : E[i]? = some x) (ha : ansAll ⟨cap, [], first, 0⟩ (E.map (·.1)) = true) (i0 : 0 ≤ x.1.id) (i1 : x.1.id < 18446744073709551616) (s0 : 0 ≤ x.1.ser) (s1 : x.1.ser < 4294967296) :
    handF cap first ((E.map (·.1)).set i (spoilF x.1)) = (30, (i : Int)) := by
  have hil : i < E.length := (List.getElem?_eq_some_iff.1 hx).1
  have hE : E = E.take i ++ x :: E.drop (i + 1) := by
    have h1 : E[i] = x := (List.getElem?_eq_some_iff.1 hx).2
    rw [← h1, ← List.drop_eq_getElem_cons hil, List.take_append_drop]
  have hm : E.map (·.1) = (E.take i).map (·.1) ++ x.1 :: (E.drop (i + 1)).map (·.1) := by
    conv => lhs; rw [hE]
    simp
  have hl : ((E.take i).map (·.1)).length = i := by simp; omega
  rw [hm] at ha
  obtain ⟨h1, h2⟩ := ansAll_split ha
  have h3 := spoil_found _ _ h2 i0 i1 s0 s1
  unfold handF
  rw [hbt, hm, List.set_append_right _ _ (by omega), hl, Nat.sub_self, List.set_cons_zero]
  simp only [Bool.false_eq_true, if_false]
  rw [hgo_bad _ _ _ _ _ h1 h3, hl, Nat.zero_add]
theorem act_err_small {cap : Nat} {first : Int} {E : List Ent} {i : Nat} {x : Ent} (hx : E[i]? = some x) (ha : ansAll ⟨cap, [], first, 0⟩ (E.map (·.1)) = true) (k1 : x.1.kind ≠ 1) (k2 : x.1.kind ≠ 2) (k5 : x.1.kind ≠ 5) : 0 ≤ x.1.err ∧ x.1.err ≤ 1000 := by
  have hil : i < E.length := (List.getElem?_eq_some_iff.1 hx).1
  have hE : E = E.take i ++ x :: E.drop (i + 1) := by
    have h1 : E[i] = x := (List.getElem?_eq_some_iff.1 hx).2
    rw [← h1, ← List.drop_eq_getElem_cons hil, List.take_append_drop]
  have hm : E.map (·.1) = (E.take i).map (·.1) ++ x.1 :: (E.drop (i + 1)).map (·.1) := by
    conv => lhs; rw [hE]
    simp
  rw [hm] at ha
  exact err_small _ _ (ansAll_split ha).2 k1 k2 k5
/-- What the audit says of the row with the act written anew. -/
theorem TurnI.audit {w wc W : World} {tb cap n c i g j : Nat} {first : Int} {L : HLoc} {E : List Ent} {ad : Option Addr} {x y : Ent} {v : Value} (I : TurnI w wc tb cap first L E (.slice ad n c)) (hbt : badTab cap first = false) (f0 : 0 ≤ first) (f1 : first < 18446744073709551616) (hE : Ext wc W) (hx : E[i]? = some x) (hg : ad = some ⟨g, 0, none⟩) (hj : j < 6)
    (hy : entC y = (entC x).set j v) (hsp : y.1 = spoilF x.1) (hids : ∀ W', Mod [g] W W' → IdsAt W' y.2.1 y.1.ids) (hl : y.1.ids.length ≤ 9223372036854775807) (hEl : E.length ≤ 1073741824) :
    Calls Tryz.prog 17 #[.int .i64 cap, .int .u64 first, .slice ad E.length c] (W.setCell ⟨g, i * 6 + j, none⟩ v) fun e w' => e = .returned (.agg #[.int .i64 30, .int .i64 i]) ∧ Ext (W.setCell ⟨g, i * 6 + j, none⟩ v) w' := by
  have ok := I.acts.all x (List.mem_of_getElem? hx)
  have h1 := Handles_ok (cap : Int) first ad c ((E.map (·.1)).set i y.1) (W.setCell ⟨g, i * 6 + j, none⟩ v) hbt f0 f1 (I.acts.spoil hE hx hg j hj v y hy hids hl) (by simp; omega)
  rw [hsp, spoiled_found hbt hx I.ans ok.id0 ok.id1 ok.s0 ok.s1, List.length_set, List.length_map] at h1
  exact h1
theorem u64_next (n : Int) : IntKind.u64.wrap (n + 1) = (n + 1) % 18446744073709551616 := rfl
theorem wrap_small {n : Int} (h : 0 ≤ n ∧ n ≤ 1000) : wrap64 (n + 1) = n + 1 := by unfold wrap64; omega
end Go.Proofs.Eff
