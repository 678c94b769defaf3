/- What passed, opened. -/
import Derived.Test.YtaggadjiefgpoaaGreatDoorSy10
import Derived.Test.YtaggadjiefgpoaaGreatDoorSy42
import Derived.Test.YtaggadjiefgpoaaGreatDoorRows
namespace Go.Proofs.Eff
open Go.ChangeShapes Go.WideShapes Go.ChangeAt Go.RowKit Go.Proofs.YtaggadjiefgpoaaGreatDoor

theorem under101 : Tryz.prog.underlying 101 = some (.struct (Tryz.prog.fieldsOf 101)) := by kernel_rfl
theorem names101 : (Tryz.prog.fieldsOf 101).toList.map (fun f => (f.type, f.offset)) = [(4, 0), (4, 1), (37, 2)] := by kernel_rfl
theorem cells101 : Tryz.prog.cellsOf 101 = 3 := by kernel_rfl
theorem cellsP : ∀ t, t ∈ [4, 5, 37] → Tryz.prog.cellsOf t = 1 := by
  intro t ht
  simp only [List.mem_cons, List.not_mem_nil, or_false] at ht
  rcases ht with rfl | rfl | rfl <;> kernel_rfl
section
variable {H : Type} {enc : TypeId × Value → H}
theorem bulkOne (d : DataW H) : 1 ≤ Rows.uptoBulk d := by
  cases d with
  | lit l => cases l <;> simp [Rows.uptoBulk]
  | _ => simp [Rows.uptoBulk]
theorem bulkAll_len (ds : List (DataW H)) : ds.length ≤ Rows.uptoBulkAll ds := by
  induction ds with
  | nil => simp [Rows.uptoBulkAll]
  | cons d r ih => have := bulkOne d; simp only [Rows.uptoBulkAll, List.length_cons]; omega
theorem bulkAll_in {d : DataW H} {ds : List (DataW H)} (h : d ∈ ds) : Rows.uptoBulk d ≤ Rows.uptoBulkAll ds := by
  induction ds with
  | nil => cases h
  | cons x r ih =>
    simp only [Rows.uptoBulkAll]
    rcases List.mem_cons.1 h with rfl | h
    · omega
    · have := ih h; omega
/-- A field of a struct whose fields are cells: of less bulk than the struct. -/
theorem field_less {W : World} {fuel : Nat} {cs : List Value} {x : DataW H × List MemPlace} {t : TypeId} {nm : List (TypeId × Nat)} (hu : Tryz.prog.underlying t = some (.struct (Tryz.prog.fieldsOf t))) (hn : (Tryz.prog.fieldsOf t).toList.map (fun f => (f.type, f.offset)) = nm)
    (h : DataW.trod enc Tryz.prog W 0 (fun _ => true) true fuel t cs = some x) (hl : cs.length = nm.length) : ∃ n, ∀ (j : Nat) (T : TypeId), nm[j]? = some (T, j) → Tryz.prog.cellsOf T = 1 → ∃ v y, cs[j]? = some v ∧ DataW.trod enc Tryz.prog W 0 (fun _ => true) true n T [v] = some y ∧ Rows.uptoBulk y.1 ≤ Rows.uptoBulk x.1 := by
  obtain ⟨xs, n, rfl, rfl, _, hxl, hg⟩ := DataW.trod_struct hu h
  refine ⟨n, fun j T hj hc => ?_⟩
  have hjl : j < nm.length := (List.getElem?_eq_some_iff.1 hj).1
  have hfl : (Tryz.prog.fieldsOf t).size = nm.length := by rw [← hn]; simp
  have hjf : j < (Tryz.prog.fieldsOf t).size := by omega
  have hf : (Tryz.prog.fieldsOf t)[j]? = some (Tryz.prog.fieldsOf t)[j] := by simp [hjf]
  have hty : ((Tryz.prog.fieldsOf t)[j].type, (Tryz.prog.fieldsOf t)[j].offset) = (T, j) := by
    have h1 : nm[j]? = some ((Tryz.prog.fieldsOf t)[j].type, (Tryz.prog.fieldsOf t)[j].offset) := by rw [← hn]; simp [hjf]
    rw [hj] at h1; exact (Option.some.inj h1).symm
  simp only [Prod.mk.injEq] at hty
  have h2 := hg j _ hf
  rw [hty.1, hty.2, hc] at h2
  have hjc : j < cs.length := by omega
  have hone : (cs.drop j).take 1 = [cs[j]] := by rw [List.drop_eq_getElem_cons hjc]; rfl
  rw [hone] at h2
  have hxj : j < xs.length := by omega
  refine ⟨cs[j], xs[j], by simp [hjc], by rw [h2]; simp [hxj], ?_⟩
  have := bulkAll_in (d := xs[j].1) (ds := xs.map (·.1)) (List.mem_map.2 ⟨xs[j], List.getElem_mem hxj, rfl⟩)
  simp only [Rows.uptoBulk]
  omega
theorem bulk_lits (k : IntKind) (zs : List Int) : Rows.uptoBulkAll (lits (H := H) k zs) = zs.length := by
  induction zs with
  | nil => rfl
  | cons z zs ih =>
    have : lits (H := H) k (z :: zs) = .lit (.int k z) :: lits k zs := rfl
    rw [this]
    simp only [Rows.uptoBulkAll, Rows.uptoBulk, List.length_cons, ih]
    omega
/-- Bytes that came in. -/
theorem open_bytes {W : World} {fuel : Nat} {v : Value} {x : DataW H × List MemPlace} (h : DataW.trod enc Tryz.prog W 0 (fun _ => true) true fuel 37 [v] = some x) (hb : Rows.uptoBulk x.1 ≤ 1048576) :
    ∃ a c l, v = .slice a l.length c ∧ BU W W.heap.size a c l ∧ l.length ≤ 1048576 := by
  rcases open_ints Tryz.underlying37 Tryz.underlying5 (cellsP 5 (by simp)) h with ⟨h1, _⟩ | ⟨a, len, cap, zs, h1, _, hl, hm, hz, hx, hc, hw⟩
  · simp at h1
    exact ⟨none, 0, [], h1, BU.nil _ _, by simp⟩
  · simp at h1
    simp only [if_true] at hz
    have hlen : (zs.take len).length = len := by rw [List.length_take]; omega
    subst hx
    simp only [Rows.uptoBulk, bulk_lits, List.length_take, List.length_drop] at hb
    have hlb : len ≤ 1048576 := by omega
    refine ⟨some a, cap, zs.take len, by rw [hlen]; exact h1, ⟨by rw [hlen]; exact hl, fun e => (by cases e), fun ad e hc0 => ?_, fun y hy => ?_, hm, by rw [hlen]; omega⟩, by rw [hlen]; exact hlb⟩
    · cases e
      · have h2 := hc 0 (by omega)
        obtain ⟨b, off, rfl⟩ := addr_plain h2
        have hbl := block_of_cell h2
        rw [addr_add] at hbl
        refine ⟨b, off, rfl, hbl, fun j u hj => ?_⟩
        have hjl : j < (zs.take len).length := (List.getElem?_eq_some_iff.1 hj).1
        have h3 := hc j (by rw [hlen] at hjl; omega)
        rw [addr_add] at h3
        rw [h3]
        rw [List.getElem?_take] at hj
        split at hj
        · simp [List.getD, hj]
        · cases hj
    · have hy2 := hw y (List.mem_of_mem_take hy)
      simp only [Lit.wf, Bool.and_eq_true, decide_eq_true_eq] at hy2
      have e1 : IntKind.u8.min = 0 := rfl
      have e2 : IntKind.u8.max = 255 := rfl
      rw [e1, e2] at hy2
      omega
set_option maxRecDepth 100000 in
/-- What passed, that came in. -/
theorem open_passed {W : World} {v : Value} {d : DataW H} {p : List MemPlace} {r : Reach} {b0 : Nat} (hv : Value.okWide Tryz.prog W r b0 99 v) (h : DataW.Trod enc Tryz.prog W 0 (fun _ => true) true 99 v d p) (hb : Rows.uptoBulk d ≤ 1048576) :
    ∃ ad c l, v = .slice ad l.length c ∧ PsdsAt W W.heap.size ad l ∧ l.length ≤ 1048576 := by
  obtain ⟨a0, len0, cap0, rfl⟩ := okWide_slice Tryz.underlying99 hv
  obtain ⟨fuel, hf⟩ := h
  rcases Go.Deep.open_slice Tryz.underlying99 hf with ⟨h1, _⟩ | ⟨a, len, cap, m, n, D, Pl, h1, _, hl, hm, hmm, hx, hi⟩
  · simp [Value.cells] at h1
    obtain ⟨rfl, rfl, rfl⟩ := h1
    exact ⟨none, 0, [], rfl, ⟨fun h => by simp at h, by simp⟩, by simp⟩
  · simp [Value.cells] at h1
    obtain ⟨rfl, rfl, rfl⟩ := h1
    simp only [if_true] at hmm
    simp only [Prod.mk.injEq] at hx
    obtain ⟨rfl, _⟩ := hx
    rw [cells101] at hi
    simp only [Rows.uptoBulk] at hb
    have hlen := bulkAll_len ((List.range len0).map D)
    simp only [List.length_map, List.length_range] at hlen
    have each : ∀ i, i < len0 → ∃ x : Psx, (a.add (i * 3)).block < W.heap.size ∧ W.cell? (a.add (i * 3 + 0)) = some (.bool x.1.out) ∧ W.cell? (a.add (i * 3 + 1)) = some (.bool x.1.cut) ∧ W.cell? (a.add (i * 3 + 2)) = some (.slice x.2.1 x.1.bytes.length x.2.2) ∧ BU W W.heap.size x.2.1 x.2.2 x.1.bytes ∧ x.1.bytes.length ≤ 1048576 := by
      intro i hil
      obtain ⟨cs', hc, ht⟩ := hi i (by omega)
      obtain ⟨_, hcl, hat⟩ := World.cells?_some hc
      obtain ⟨n2, hfld⟩ := field_less under101 names101 ht (by rw [hcl]; rfl)
      obtain ⟨v0, y0, e0, t0, _⟩ := hfld 0 4 rfl (cellsP 4 (by simp))
      obtain ⟨v1, y1, e1, t1, _⟩ := hfld 1 4 rfl (cellsP 4 (by simp))
      obtain ⟨v2, y2, e2, t2, hb2⟩ := hfld 2 37 rfl (cellsP 37 (by simp))
      obtain ⟨k0, f0, _⟩ := DataW.trod_bool Tryz.underlying4 t0
      obtain ⟨k1, f1, _⟩ := DataW.trod_bool Tryz.underlying4 t1
      have hDi := bulkAll_in (d := D i) (ds := (List.range len0).map D) (List.mem_map.2 ⟨i, List.mem_range.2 hil, rfl⟩)
      obtain ⟨ba, bc, bl, f2, hbu, hbl⟩ := open_bytes t2 (by have h9 : Rows.uptoBulk y2.1 ≤ Rows.uptoBulk (D i) := hb2; omega)
      simp at f0 f1
      subst f0 f1 f2
      have hcell : ∀ j, j < 3 → W.cell? (a.add (i * 3 + j)) = cs'[j]? := fun j hj => by rw [← Go.Deep.add_add]; exact hat j hj
      refine ⟨(⟨k0, k1, bl⟩, ba, bc), ?_, (hcell 0 (by omega)).trans e0, (hcell 1 (by omega)).trans e1, (hcell 2 (by omega)).trans e2, hbu, hbl⟩
      have := block_of_cell ((hcell 0 (by omega)).trans e0)
      rw [add_block] at this ⊢; exact this
    obtain ⟨xs, hal, hp⟩ := exists_list len0 each
    refine ⟨some a, cap0, xs, by rw [hal], ⟨fun h0 => ?_, fun x hx => ?_⟩, by omega⟩
    · rw [hal] at h0
      obtain ⟨x0, hb0, hc0, _⟩ := each 0 h0
      obtain ⟨b, off, rfl⟩ := addr_plain hc0
      refine ⟨b, off, rfl, ?_, fun k x hk => ?_⟩
      · rw [add_block] at hb0; exact hb0
      · obtain ⟨_, q0, q1, q2, _, _⟩ := hp k x hk
        simp only [addr_add, ← Nat.add_assoc, Nat.add_zero] at q0 q1 q2
        exact ⟨q0, q1, q2⟩
    · obtain ⟨k, hk⟩ := List.getElem?_of_mem hx
      obtain ⟨_, _, _, _, q3, q4⟩ := hp k x hk
      exact ⟨q3, q4⟩
end
end Go.Proofs.Eff
