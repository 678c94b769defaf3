/- A heap by its words, opened; numbers' bounds. -/
import Derived.Test.YtaggadjiefgpoaaGreatDoorHa27
import Derived.Test.YtaggadjiefgpoaaGreatDoorSl2
namespace Go.Proofs.Eff
open Go.ChangeShapes Go.WideShapes Go.ChangeAt Go.RowKit

theorem under26 : Tryz.prog.underlying 26 = some (.struct (Tryz.prog.fieldsOf 26)) := by kernel_rfl
theorem names26 : (Tryz.prog.fieldsOf 26).toList.map (fun f => (f.type, f.offset)) = [(3, 0), (22, 1), (23, 2), (24, 3)] := by kernel_rfl
theorem cells26 : Tryz.prog.cellsOf 26 = 4 := by kernel_rfl
theorem cellsN : ∀ t, t ∈ [3, 22, 23, 24, 41] → Tryz.prog.cellsOf t = 1 := by
  intro t ht
  simp only [List.mem_cons, List.not_mem_nil, or_false] at ht
  rcases ht with rfl | rfl | rfl | rfl | rfl <;> kernel_rfl
theorem wf_u32_in {n : Int} (h : (Lit.int .u32 n).wf = true) : 0 ≤ n ∧ n < 4294967296 := by
  simp only [Lit.wf, Bool.and_eq_true, decide_eq_true_eq] at h
  have h1 : IntKind.u32.min = 0 := rfl
  have h2 : IntKind.u32.max = 4294967295 := rfl
  rw [h1, h2] at h
  omega
theorem wf_i64_in {n : Int} (h : (Lit.int .i64 n).wf = true) : n ≤ 9223372036854775807 := by
  simp only [Lit.wf, Bool.and_eq_true, decide_eq_true_eq] at h
  have h2 : IntKind.i64.max = 9223372036854775807 := rfl
  rw [h2] at h
  exact h.2

section
variable {H : Type} {enc : TypeId × Value → H}
theorem open_nums {W : World} {fuel : Nat} {v : Value} {x : DataW H × List MemPlace} {t e : TypeId} (ht : Tryz.prog.underlying t = some (.slice e)) (he : Tryz.prog.underlying e = some (.int .u32)) (hc1 : Tryz.prog.cellsOf e = 1)
    (h : DataW.trod enc Tryz.prog W 0 (fun _ => true) true fuel t [v] = some x) : ∃ ad c xs, v = .slice ad xs.length c ∧ SlIn W ad (u32s xs) ∧ (∀ x, x ∈ xs → 0 ≤ x ∧ x < 4294967296) ∧ xs.length ≤ 9223372036854775807 := by
  rcases open_ints ht he hc1 h with ⟨h1, _⟩ | ⟨a, len, cap, zs, h1, _, hl, hm, hz, _, hc, hwf⟩
  · simp at h1
    exact ⟨none, 0, [], h1, fun h => by simp at h, by simp, by simp⟩
  · simp at h1
    simp only [if_true] at hz
    have hlen : (zs.take len).length = len := by rw [List.length_take]; omega
    unfold maxLen at hm
    refine ⟨some a, cap, zs.take len, by rw [hlen]; exact h1, ?_, fun n hn => wf_u32_in (hwf n (List.mem_of_mem_take hn)), by omega⟩
    intro h0
    rw [u32s_length, hlen] at h0
    have h2 := hc 0 (by omega)
    obtain ⟨b, off, rfl⟩ := addr_plain h2
    refine ⟨b, off, rfl, ?_, ?_⟩
    · have := block_of_cell h2; rw [addr_add] at this; exact this
    · intro j u hj
      have hjl : j < len := by
        have := (List.getElem?_eq_some_iff.1 hj).1
        simpa [hlen] using this
      rw [hc j (by omega)]
      rw [← hj]
      simp only [u32s, List.getElem?_map, List.getElem?_take, hjl, if_true]
      simp [List.getD, show j < zs.length by omega]

set_option maxRecDepth 100000 in
theorem open_stuff {W : World} {v : Value} {d : DataW H} {p : List MemPlace} {r : Reach} {b0 : Nat} (hv : Value.okWide Tryz.prog W r b0 26 v) (h : DataW.Trod enc Tryz.prog W 0 (fun _ => true) true 26 v d p) :
    ∃ size ws rs last ad1 ad2 c1 c2, v = .agg #[.int .i64 size, .slice ad1 ws.length c1, .slice ad2 rs.length c2, .int .u32 last] ∧ StuffIn W ws rs last ad1 ad2 := by
  obtain ⟨cs, rfl, hsz⟩ := okWide_struct under26 hv
  rw [cells26] at hsz
  obtain ⟨fuel, hf⟩ := h
  have hcl : (Value.agg cs).cells.toList.length = 4 := by simpa [Value.cells] using hsz
  obtain ⟨n, hat⟩ := field_at under26 names26 hf hcl
  obtain ⟨v0, y0, e0, t0⟩ := hat 0 3 rfl (cellsN 3 (by simp))
  obtain ⟨v1, y1, e1, t1⟩ := hat 1 22 rfl (cellsN 22 (by simp))
  obtain ⟨v2, y2, e2, t2⟩ := hat 2 23 rfl (cellsN 23 (by simp))
  obtain ⟨v3, y3, e3, t3⟩ := hat 3 24 rfl (cellsN 24 (by simp))
  obtain ⟨size, f0, _⟩ := DataW.trod_int Tryz.underlying3 t0
  obtain ⟨last, f3, g3⟩ := DataW.trod_int Tryz.underlying24 t3
  obtain ⟨ad1, c1, ws, f1, i1, r1, n1⟩ := open_nums Tryz.underlying22 Tryz.underlying24 (cellsN 24 (by simp)) t1
  obtain ⟨ad2, c2, rs, f2, i2, r2, n2⟩ := open_nums Tryz.underlying23 Tryz.underlying41 (cellsN 41 (by simp)) t2
  simp at f0 f3
  subst f0 f1 f2 f3
  obtain ⟨l⟩ := cs
  simp only [Value.cells] at e0 e1 e2 e3 hcl
  rcases l with _ | ⟨a0, _ | ⟨a1, _ | ⟨a2, _ | ⟨a3, _ | ⟨a4, l⟩⟩⟩⟩⟩ <;> simp at hcl
  simp at e0 e1 e2 e3
  subst e0 e1 e2 e3
  exact ⟨size, ws, rs, last, ad1, ad2, c1, c2, rfl, i1, i2, r1, r2, (wf_u32_in g3.2).1, (wf_u32_in g3.2).2, n1, n2⟩
end

end Go.Proofs.Eff
