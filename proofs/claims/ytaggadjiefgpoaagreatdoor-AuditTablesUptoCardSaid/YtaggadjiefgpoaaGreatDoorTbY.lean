/- A script of deeds, opened. -/
import Derived.Test.YtaggadjiefgpoaaGreatDoorHa27
import Derived.Test.YtaggadjiefgpoaaGreatDoorTbC
import Derived.Test.YtaggadjiefgpoaaGreatDoorRows
namespace Go.Proofs.Eff
open Go.ChangeShapes Go.WideShapes Go.ChangeAt Go.RowKit Go.Proofs.YtaggadjiefgpoaaGreatDoor

theorem under80 : Tryz.prog.underlying 80 = some (.struct (Tryz.prog.fieldsOf 80)) := by kernel_rfl
theorem names80 : (Tryz.prog.fieldsOf 80).toList.map (fun f => (f.type, f.offset)) = [(3, 0), (3, 1), (3, 2), (55, 3), (78, 4)] := by kernel_rfl
theorem cells80 : Tryz.prog.cellsOf 80 = 5 := by kernel_rfl
theorem under86 : Tryz.prog.underlying 86 = some (.struct (Tryz.prog.fieldsOf 86)) := by kernel_rfl
theorem names86 : (Tryz.prog.fieldsOf 86).toList.map (fun f => (f.type, f.offset)) = [(3, 0), (41, 1), (55, 2), (3, 3), (3, 4)] := by kernel_rfl
theorem cells86 : Tryz.prog.cellsOf 86 = 5 := by kernel_rfl
theorem cellsS : ∀ t, t ∈ [3, 41, 55, 78] → Tryz.prog.cellsOf t = 1 := by
  intro t ht
  simp only [List.mem_cons, List.not_mem_nil, or_false] at ht
  rcases ht with rfl | rfl | rfl | rfl <;> kernel_rfl
theorem wf_u32_both {n : Int} (h : (Lit.int .u32 n).wf = true) : 0 ≤ n ∧ n < 4294967296 := by
  simp only [Lit.wf, Bool.and_eq_true, decide_eq_true_eq] at h
  have h1 : IntKind.u32.min = 0 := rfl
  have h2 : IntKind.u32.max = 4294967295 := rfl
  rw [h1, h2] at h
  omega
theorem wf_u64_in {n : Int} (h : (Lit.int .u64 n).wf = true) : 0 ≤ n ∧ n < 18446744073709551616 := by
  simp only [Lit.wf, Bool.and_eq_true, decide_eq_true_eq] at h
  have h1 : IntKind.u64.min = 0 := rfl
  have h2 : IntKind.u64.max = 18446744073709551615 := rfl
  rw [h1, h2] at h
  omega
theorem wf_i64_both {n : Int} (h : (Lit.int .i64 n).wf = true) : -9223372036854775808 ≤ n ∧ n ≤ 9223372036854775807 := by
  simp only [Lit.wf, Bool.and_eq_true, decide_eq_true_eq] at h
  have h1 : IntKind.i64.min = -9223372036854775808 := rfl
  have h2 : IntKind.i64.max = 9223372036854775807 := rfl
  rw [h1, h2] at h
  exact h

section
variable {H : Type} {enc : TypeId × Value → H}
theorem bulk_pos (d : DataW H) : 1 ≤ Rows.uptoBulk d := by
  cases d with
  | lit l => cases l <;> simp [Rows.uptoBulk]
  | _ => simp [Rows.uptoBulk]
theorem bulkAll_length (ds : List (DataW H)) : ds.length ≤ Rows.uptoBulkAll ds := by
  induction ds with
  | nil => simp [Rows.uptoBulkAll]
  | cons d r ih => have := bulk_pos d; simp only [Rows.uptoBulkAll, List.length_cons]; omega
theorem bulkAll_mem {d : DataW H} {ds : List (DataW H)} (h : d ∈ ds) : Rows.uptoBulk d ≤ Rows.uptoBulkAll ds := by
  induction ds with
  | nil => cases h
  | cons x r ih =>
    simp only [Rows.uptoBulkAll]
    rcases List.mem_cons.1 h with rfl | h
    · omega
    · have := ih h; omega

/-- A field of a struct whose fields are cells: of less bulk than the struct. -/
theorem field_bulk {W : World} {fuel : Nat} {cs : List Value} {x : DataW H × List MemPlace} {t : TypeId} {nm : List (TypeId × Nat)} (hu : Tryz.prog.underlying t = some (.struct (Tryz.prog.fieldsOf t))) (hn : (Tryz.prog.fieldsOf t).toList.map (fun f => (f.type, f.offset)) = nm)
    (h : DataW.trod enc Tryz.prog W 0 (fun _ => true) true fuel t cs = some x) (hl : cs.length = nm.length) : ∃ n, ∀ (j : Nat) (T : TypeId), nm[j]? = some (T, j) → Tryz.prog.cellsOf T = 1 → ∃ v y, cs[j]? = some v ∧ DataW.trod enc Tryz.prog W 0 (fun _ => true) true n T [v] = some y ∧ Rows.uptoBulk y.1 ≤ Rows.uptoBulk x.1 := by
  obtain ⟨xs, n, rfl, rfl, _, hxl, hg⟩ := DataW.trod_struct hu h
  refine ⟨n, fun j T hj hc => ?_⟩
  have hjl : j < nm.length := (List.getElem?_eq_some_iff.1 hj).1
  have hfl : (Tryz.prog.fieldsOf t).size = nm.length := by rw [← hn]; simp
  have hjf : j < (Tryz.prog.fieldsOf t).size := by omega
  have hf : (Tryz.prog.fieldsOf t)[j]? = some (Tryz.prog.fieldsOf t)[j] := by simp [hjf]
  have hty : ((Tryz.prog.fieldsOf t)[j].type, (Tryz.prog.fieldsOf t)[j].offset) = (T, j) := by
    have h1 : nm[j]? = some ((Tryz.prog.fieldsOf t)[j].type, (Tryz.prog.fieldsOf t)[j].offset) := by rw [← hn]; simp [hjf]
    rw [hj] at h1; exact (Option.some.inj h1).symm
  simp only [Prod.mk.injEq] at hty
  have h2 := hg j _ hf
  rw [hty.1, hty.2, hc] at h2
  have hjc : j < cs.length := by omega
  have hone : (cs.drop j).take 1 = [cs[j]] := by rw [List.drop_eq_getElem_cons hjc]; rfl
  rw [hone] at h2
  have hxj : j < xs.length := by omega
  refine ⟨cs[j], xs[j], by simp [hjc], by rw [h2]; simp [hxj], ?_⟩
  have := bulkAll_mem (d := xs[j].1) (ds := xs.map (·.1)) (List.mem_map.2 ⟨xs[j], List.getElem_mem hxj, rfl⟩)
  simp only [Rows.uptoBulk]
  omega

theorem open_deeds {W : World} {fuel : Nat} {v : Value} {x : DataW H × List MemPlace} (h : DataW.trod enc Tryz.prog W 0 (fun _ => true) true fuel 78 [v] = some x) :
    ∃ ad c ds, v = .slice ad ds.length c ∧ DeedsAt W ad ds ∧ (∀ d, d ∈ ds → DeedOK d) ∧ ds.length ≤ Rows.uptoBulk x.1 := by
  rcases Go.Deep.open_slice Tryz.underlying78 h with ⟨h1, _⟩ | ⟨a, len, cap, m, n, D, Pl, h1, _, hl, hm, hmm, rfl, hi⟩
  · simp at h1
    exact ⟨none, 0, [], h1, fun h => by simp at h, by simp, by simp⟩
  · simp at h1
    simp only [if_true] at hmm
    rw [cells86] at hi
    unfold maxLen at hm
    have each : ∀ i, i < len → ∃ d : HDeed, (a.add (i * 5)).block < W.heap.size ∧ W.cell? (a.add (i * 5 + 0)) = some (.int .i64 d.k) ∧ W.cell? (a.add (i * 5 + 1)) = some (.int .u32 d.o) ∧ W.cell? (a.add (i * 5 + 2)) = some (.int .u64 d.id) ∧ W.cell? (a.add (i * 5 + 3)) = some (.int .i64 d.n) ∧ W.cell? (a.add (i * 5 + 4)) = some (.int .i64 d.i) ∧ DeedOK d := by
      intro i hil
      obtain ⟨cs', hc, ht⟩ := hi i (by omega)
      obtain ⟨_, hcl, hat⟩ := World.cells?_some hc
      obtain ⟨n2, hfld⟩ := field_at under86 names86 ht (by rw [hcl]; rfl)
      obtain ⟨v0, y0, e0, t0⟩ := hfld 0 3 rfl (cellsS 3 (by simp))
      obtain ⟨v1, y1, e1, t1⟩ := hfld 1 41 rfl (cellsS 41 (by simp))
      obtain ⟨v2, y2, e2, t2⟩ := hfld 2 55 rfl (cellsS 55 (by simp))
      obtain ⟨v3, y3, e3, t3⟩ := hfld 3 3 rfl (cellsS 3 (by simp))
      obtain ⟨v4, y4, e4, t4⟩ := hfld 4 3 rfl (cellsS 3 (by simp))
      obtain ⟨k0, f0, g0⟩ := DataW.trod_int Tryz.underlying3 t0
      obtain ⟨k1, f1, g1⟩ := DataW.trod_int Tryz.underlying41 t1
      obtain ⟨k2, f2, g2⟩ := DataW.trod_int Tryz.underlying55 t2
      obtain ⟨k3, f3, g3⟩ := DataW.trod_int Tryz.underlying3 t3
      obtain ⟨k4, f4, _⟩ := DataW.trod_int Tryz.underlying3 t4
      simp at f0 f1 f2 f3 f4
      subst f0 f1 f2 f3 f4
      have hcell : ∀ j, j < 5 → W.cell? (a.add (i * 5 + j)) = cs'[j]? := fun j hj => by rw [← Go.Deep.add_add]; exact hat j hj
      refine ⟨⟨k0, k1, k2, k3, k4⟩, ?_, (hcell 0 (by omega)).trans e0, (hcell 1 (by omega)).trans e1, (hcell 2 (by omega)).trans e2, (hcell 3 (by omega)).trans e3, (hcell 4 (by omega)).trans e4, ⟨(wf_i64_both g0.2).1, (wf_i64_both g0.2).2, (wf_u32_both g1.2).1, (wf_u32_both g1.2).2, (wf_u64_in g2.2).1, (wf_u64_in g2.2).2, (wf_i64_both g3.2).1, (wf_i64_both g3.2).2⟩⟩
      have := block_of_cell ((hcell 0 (by omega)).trans e0)
      rw [add_block] at this ⊢; exact this
    obtain ⟨ds, hal, hp⟩ := exists_list len each
    refine ⟨some a, cap, ds, by rw [hal]; exact h1, ?_, fun d hd => ?_, ?_⟩
    · intro h0
      rw [hal] at h0
      obtain ⟨d0, hb0, hc0, _⟩ := each 0 h0
      obtain ⟨b, off, rfl⟩ := addr_plain hc0
      refine ⟨b, off, rfl, ?_, ?_⟩
      · rw [add_block] at hb0; exact hb0
      · intro k d hk
        obtain ⟨_, q0, q1, q2, q3, q4, _⟩ := hp k d hk
        simp only [addr_add, ← Nat.add_assoc, Nat.add_zero] at q0 q1 q2 q3 q4
        exact ⟨q0, q1, q2, q3, q4⟩
    · obtain ⟨k, hk⟩ := List.getElem?_of_mem hd
      exact (hp k d hk).2.2.2.2.2.2
    · rw [hal]
      have := bulkAll_length ((List.range len).map D)
      simp only [List.length_map, List.length_range] at this
      simp only [Rows.uptoBulk]
      omega

set_option maxRecDepth 100000 in
theorem open_script {W : World} {v : Value} {d : DataW H} {p : List MemPlace} {r : Reach} {b0 : Nat} (hv : Value.okWide Tryz.prog W r b0 80 v) (h : DataW.Trod enc Tryz.prog W 0 (fun _ => true) true 80 v d p) :
    ∃ size objects cap first ad ds c, v = scrV size objects cap first ad ds.length c ∧ DeedsAt W ad ds ∧ (∀ d, d ∈ ds → DeedOK d) ∧ ds.length ≤ Rows.uptoBulk d ∧ (-9223372036854775808 ≤ objects ∧ objects ≤ 9223372036854775807) ∧ (-9223372036854775808 ≤ cap ∧ cap ≤ 9223372036854775807) ∧ 0 ≤ first ∧ first < 18446744073709551616 := by
  obtain ⟨cs, rfl, hsz⟩ := okWide_struct under80 hv
  rw [cells80] at hsz
  obtain ⟨fuel, hf⟩ := h
  have hcl : (Value.agg cs).cells.toList.length = 5 := by simpa [Value.cells] using hsz
  obtain ⟨n, hat⟩ := field_bulk under80 names80 hf hcl
  obtain ⟨v0, y0, e0, t0, _⟩ := hat 0 3 rfl (cellsS 3 (by simp))
  obtain ⟨v1, y1, e1, t1, _⟩ := hat 1 3 rfl (cellsS 3 (by simp))
  obtain ⟨v2, y2, e2, t2, _⟩ := hat 2 3 rfl (cellsS 3 (by simp))
  obtain ⟨v3, y3, e3, t3, _⟩ := hat 3 55 rfl (cellsS 55 (by simp))
  obtain ⟨v4, y4, e4, t4, hb⟩ := hat 4 78 rfl (cellsS 78 (by simp))
  obtain ⟨size, f0, _⟩ := DataW.trod_int Tryz.underlying3 t0
  obtain ⟨objects, f1, g1⟩ := DataW.trod_int Tryz.underlying3 t1
  obtain ⟨cap, f2, g2⟩ := DataW.trod_int Tryz.underlying3 t2
  obtain ⟨first, f3, g3⟩ := DataW.trod_int Tryz.underlying55 t3
  obtain ⟨ad, c, ds, f4, h1, h2, h3⟩ := open_deeds t4
  simp at f0 f1 f2 f3
  subst f0 f1 f2 f3 f4
  obtain ⟨l⟩ := cs
  simp only [Value.cells] at e0 e1 e2 e3 e4 hcl
  rcases l with _ | ⟨a0, _ | ⟨a1, _ | ⟨a2, _ | ⟨a3, _ | ⟨a4, _ | ⟨a5, l⟩⟩⟩⟩⟩⟩ <;> simp at hcl
  simp at e0 e1 e2 e3 e4
  subst e0 e1 e2 e3 e4
  exact ⟨size, objects, cap, first, ad, ds, c, rfl, h1, h2, Nat.le_trans h3 hb, wf_i64_both g1.2, wf_i64_both g2.2, (wf_u64_in g3.2).1, (wf_u64_in g3.2).2⟩
end

end Go.Proofs.Eff
