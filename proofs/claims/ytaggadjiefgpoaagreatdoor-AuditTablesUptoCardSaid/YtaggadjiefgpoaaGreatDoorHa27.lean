/- Acts, opened. -/
import Derived.Test.YtaggadjiefgpoaaGreatDoorHa10
import Derived.Test.YtaggadjiefgpoaaGreatDoorHa26
namespace Go.Proofs.Eff
open Go.ChangeShapes Go.WideShapes Go.ChangeAt Go.RowKit

theorem under90 : Tryz.prog.underlying 90 = some (.struct (Tryz.prog.fieldsOf 90)) := by kernel_rfl
theorem names90 : (Tryz.prog.fieldsOf 90).toList.map (fun f => (f.type, f.offset)) = [(87, 0), (55, 1), (3, 2), (24, 3), (88, 4), (44, 5)] := by kernel_rfl
theorem cells90 : Tryz.prog.cellsOf 90 = 6 := by kernel_rfl
theorem cells1 : ∀ t, t ∈ [3, 24, 44, 55, 87, 88] → Tryz.prog.cellsOf t = 1 := by
  intro t ht
  simp only [List.mem_cons, List.not_mem_nil, or_false] at ht
  rcases ht with rfl | rfl | rfl | rfl | rfl | rfl <;> kernel_rfl

section
variable {H : Type} {enc : TypeId × Value → H}
/-- A field of a struct whose fields are cells. -/
theorem field_at {W : World} {fuel : Nat} {cs : List Value} {x : DataW H × List MemPlace} {t : TypeId} {nm : List (TypeId × Nat)} (hu : Tryz.prog.underlying t = some (.struct (Tryz.prog.fieldsOf t))) (hn : (Tryz.prog.fieldsOf t).toList.map (fun f => (f.type, f.offset)) = nm)
    (h : DataW.trod enc Tryz.prog W 0 (fun _ => true) true fuel t cs = some x) (hl : cs.length = nm.length) : ∃ n, ∀ (j : Nat) (T : TypeId), nm[j]? = some (T, j) → Tryz.prog.cellsOf T = 1 → ∃ v y, cs[j]? = some v ∧ DataW.trod enc Tryz.prog W 0 (fun _ => true) true n T [v] = some y := by
  obtain ⟨xs, n, rfl, _, _, hxl, hg⟩ := DataW.trod_struct hu h
  refine ⟨n, fun j T hj hc => ?_⟩
  have hjl : j < nm.length := (List.getElem?_eq_some_iff.1 hj).1
  have hfl : (Tryz.prog.fieldsOf t).size = nm.length := by rw [← hn]; simp
  have hjf : j < (Tryz.prog.fieldsOf t).size := by omega
  have hf : (Tryz.prog.fieldsOf t)[j]? = some (Tryz.prog.fieldsOf t)[j] := by simp [hjf]
  have hty : ((Tryz.prog.fieldsOf t)[j].type, (Tryz.prog.fieldsOf t)[j].offset) = (T, j) := by
    have h1 : nm[j]? = some ((Tryz.prog.fieldsOf t)[j].type, (Tryz.prog.fieldsOf t)[j].offset) := by rw [← hn]; simp [hjf]
    rw [hj] at h1; exact (Option.some.inj h1).symm
  simp only [Prod.mk.injEq] at hty
  have h2 := hg j _ hf
  rw [hty.1, hty.2, hc] at h2
  have hjc : j < cs.length := by omega
  have hone : (cs.drop j).take 1 = [cs[j]] := by rw [List.drop_eq_getElem_cons hjc]; rfl
  rw [hone] at h2
  have hxj : j < xs.length := by omega
  exact ⟨cs[j], xs[j], by simp [hjc], by rw [h2]; simp [hxj]⟩

theorem open_ids {W : World} {fuel : Nat} {v : Value} {x : DataW H × List MemPlace} (h : DataW.trod enc Tryz.prog W 0 (fun _ => true) true fuel 88 [v] = some x) : ∃ ad c ids, v = .slice ad ids.length c ∧ IdsAt W ad ids ∧ ids.length ≤ 9223372036854775807 := by
  rcases open_ints Tryz.underlying88 Tryz.underlying55 (cells1 55 (by simp)) h with ⟨h1, _⟩ | ⟨a, len, cap, zs, h1, _, hl, hm, hz, _, hc, _⟩
  · simp at h1
    exact ⟨none, 0, [], h1, fun h => by simp at h, by simp⟩
  · simp at h1
    simp only [if_true] at hz
    have hlen : (zs.take len).length = len := by rw [List.length_take]; omega
    unfold maxLen at hm
    refine ⟨some a, cap, zs.take len, by rw [hlen]; exact h1, ?_, by omega⟩
    intro h0
    rw [hlen] at h0
    have h2 := hc 0 (by omega)
    obtain ⟨b, off, rfl⟩ := addr_plain h2
    refine ⟨b, off, rfl, ?_, ?_⟩
    · have := block_of_cell h2; rw [addr_add] at this; exact this
    · intro j u hj
      have hjl : j < len := by
        have := (List.getElem?_eq_some_iff.1 hj).1
        simpa [hlen] using this
      rw [hc j (by omega)]
      rw [← hj]
      simp only [u64s, List.getElem?_map, List.getElem?_take, hjl, if_true]
      simp [List.getD, show j < zs.length by omega]

set_option maxRecDepth 100000 in
theorem open_acts {W : World} {v : Value} {d : DataW H} {p : List MemPlace} {r : Reach} {b0 : Nat} (hv : Value.okWide Tryz.prog W r b0 56 v) (h : DataW.Trod enc Tryz.prog W 0 (fun _ => true) true 56 v d p) : ∃ ad c acts, v = .slice ad acts.length c ∧ ActsAt W ad acts ∧ acts.length ≤ 9223372036854775807 := by
  obtain ⟨a0, len0, cap0, rfl⟩ := okWide_slice Tryz.underlying56 hv
  obtain ⟨fuel, hf⟩ := h
  rcases Go.Deep.open_slice Tryz.underlying56 hf with ⟨h1, _⟩ | ⟨a, len, cap, m, n, D, Pl, h1, _, hl, hm, hmm, _, hi⟩
  · simp [Value.cells] at h1
    obtain ⟨rfl, rfl, rfl⟩ := h1
    exact ⟨none, 0, [], rfl, fun h => by simp at h, by simp⟩
  · simp [Value.cells] at h1
    obtain ⟨rfl, rfl, rfl⟩ := h1
    simp only [if_true] at hmm
    rw [cells90] at hi
    unfold maxLen at hm
    have each : ∀ i, i < len0 → ∃ act : HAct, ∃ ad c, (a.add (i * 6)).block < W.heap.size ∧ W.cell? (a.add (i * 6 + 0)) = some (.int .i64 act.kind) ∧ W.cell? (a.add (i * 6 + 1)) = some (.int .u64 act.id) ∧ W.cell? (a.add (i * 6 + 2)) = some (.int .i64 act.n) ∧ W.cell? (a.add (i * 6 + 3)) = some (.int .u32 act.ser) ∧ W.cell? (a.add (i * 6 + 4)) = some (.slice ad act.ids.length c) ∧ W.cell? (a.add (i * 6 + 5)) = some (.int .i64 act.err) ∧ IdsAt W ad act.ids ∧ act.ids.length ≤ 9223372036854775807 := by
      intro i hil
      obtain ⟨cs', hc, ht⟩ := hi i (by omega)
      obtain ⟨_, hcl, hat⟩ := World.cells?_some hc
      obtain ⟨n2, hfld⟩ := field_at under90 names90 ht (by rw [hcl]; rfl)
      obtain ⟨v0, y0, e0, t0⟩ := hfld 0 87 rfl (cells1 87 (by simp))
      obtain ⟨v1, y1, e1, t1⟩ := hfld 1 55 rfl (cells1 55 (by simp))
      obtain ⟨v2, y2, e2, t2⟩ := hfld 2 3 rfl (cells1 3 (by simp))
      obtain ⟨v3, y3, e3, t3⟩ := hfld 3 24 rfl (cells1 24 (by simp))
      obtain ⟨v4, y4, e4, t4⟩ := hfld 4 88 rfl (cells1 88 (by simp))
      obtain ⟨v5, y5, e5, t5⟩ := hfld 5 44 rfl (cells1 44 (by simp))
      obtain ⟨k0, f0, _⟩ := DataW.trod_int Tryz.underlying87 t0
      obtain ⟨k1, f1, _⟩ := DataW.trod_int Tryz.underlying55 t1
      obtain ⟨k2, f2, _⟩ := DataW.trod_int Tryz.underlying3 t2
      obtain ⟨k3, f3, _⟩ := DataW.trod_int Tryz.underlying24 t3
      obtain ⟨k5, f5, _⟩ := DataW.trod_int Tryz.underlying44 t5
      obtain ⟨ad, c, ids, f4, hids, hil2⟩ := open_ids t4
      simp at f0 f1 f2 f3 f5
      subst f0 f1 f2 f3 f4 f5
      have hcell : ∀ j, j < 6 → W.cell? (a.add (i * 6 + j)) = cs'[j]? := fun j hj => by rw [← Go.Deep.add_add]; exact hat j hj
      refine ⟨⟨k0, k1, k2, k3, ids, k5⟩, ad, c, ?_, (hcell 0 (by omega)).trans e0, (hcell 1 (by omega)).trans e1, (hcell 2 (by omega)).trans e2, (hcell 3 (by omega)).trans e3, (hcell 4 (by omega)).trans e4, (hcell 5 (by omega)).trans e5, hids, hil2⟩
      have := block_of_cell ((hcell 0 (by omega)).trans e0)
      rw [add_block] at this ⊢; exact this
    obtain ⟨acts, hal, hp⟩ := exists_list len0 each
    refine ⟨some a, cap0, acts, by rw [hal], ?_, by omega⟩
    intro h0
    rw [hal] at h0
    obtain ⟨act0, ad0, c0, hb0, hc0, _⟩ := each 0 h0
    obtain ⟨b, off, rfl⟩ := addr_plain hc0
    refine ⟨b, off, rfl, ?_, ?_⟩
    · rw [add_block] at hb0; exact hb0
    · intro k act hk
      obtain ⟨ad, c, _, q0, q1, q2, q3, q4, q5, q6, q7⟩ := hp k act hk
      simp only [addr_add, ← Nat.add_assoc, Nat.add_zero] at q0 q1 q2 q3 q4 q5
      exact ⟨ad, c, q0, q1, q2, q3, q4, q5, q6, q7⟩
end

end Go.Proofs.Eff
