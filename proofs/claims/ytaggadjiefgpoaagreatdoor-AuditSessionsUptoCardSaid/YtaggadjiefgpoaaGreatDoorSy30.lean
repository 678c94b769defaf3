/- The values of a reply, as cells; appending a string at a step. -/
import Derived.Test.YtaggadjiefgpoaaGreatDoorSy27
import Derived.Lib.AppendStr
import Derived.Deep.AppendLies
namespace Go.Proofs.Eff
open Go.RowKit

def valC : List (Int × Int) → List Value
  | [] => []
  | x :: l => .int .u64 x.1 :: .int .i64 x.2 :: valC l
theorem valC_length (l : List (Int × Int)) : (valC l).length = l.length * 2 := by
  induction l with
  | nil => rfl
  | cons x l ih => simp only [valC, List.length_cons, ih]; omega
theorem valC_append (l m : List (Int × Int)) : valC (l ++ m) = valC l ++ valC m := by
  induction l with
  | nil => rfl
  | cons x l ih => simp only [List.cons_append, valC, ih]
theorem valC_get {l : List (Int × Int)} {k : Nat} {x : Int × Int} (h : l[k]? = some x) : (valC l)[k * 2]? = some (.int .u64 x.1) ∧ (valC l)[k * 2 + 1]? = some (.int .i64 x.2) := by
  induction l generalizing k with
  | nil => simp at h
  | cons y l ih =>
    cases k with
    | zero =>
      simp only [List.getElem?_cons_zero, Option.some.injEq] at h
      subst h
      exact ⟨rfl, rfl⟩
    | succ k =>
      simp only [List.getElem?_cons_succ] at h
      obtain ⟨h1, h2⟩ := ih h
      rw [show (k + 1) * 2 = k * 2 + 1 + 1 by omega]
      simp only [valC, List.getElem?_cons_succ]
      exact ⟨h1, h2⟩
theorem vlen_take {l : List (Int × Int)} {k : Nat} {x : Int × Int} (h : l[k]? = some x) : vlen (l.take (k + 1)) = vlen (l.take k) + clen x.1 + (if x.1 = 0 then clen (zig x.2) else 0) := by
  rw [List.take_add_one, h, vlen_append]
  simp only [Option.toList_some, vlen]
  omega
theorem vlen_le (l : List (Int × Int)) : vlen l ≤ 20 * l.length := by
  induction l with
  | nil => simp [vlen]
  | cons x l ih =>
    have h1 : clen x.1 ≤ 10 := clenG_le 9 x.1
    have h2 : clen (zig x.2) ≤ 10 := clenG_le 9 (zig x.2)
    simp only [vlen, List.length_cons]
    split <;> omega
/-- The values of a reply lie there. -/
structure ValsAt (w : World) (base : Nat) (v : Value) (vs : List (Int × Int)) : Prop where
  row : w.ownsRow base 298 2 v vs.length (valC vs)
  ok : ∀ x, x ∈ vs → valOK x
theorem ValsAt.at {w : World} {base c n : Nat} {a : Option Addr} {vs : List (Int × Int)} (h : ValsAt w base (.slice a n c) vs) {k : Nat} {x : Int × Int} (hk : vs[k]? = some x) :
    ∃ g, a = some ⟨g, 0, none⟩ ∧ g < w.heap.size ∧ w.cell? ⟨g, k * 2, none⟩ = some (.int .u64 x.1) ∧ w.cell? ⟨g, k * 2 + 1, none⟩ = some (.int .i64 x.2) := by
  obtain ⟨h1, h2⟩ := valC_get hk
  have hl := (List.getElem?_eq_some_iff.1 hk).1
  rcases h.row.2 with ⟨_, h3⟩ | ⟨g, cap, cur, h3, _, h4, _⟩
  · omega
  · simp only [Value.slice.injEq] at h3
    obtain ⟨rfl, -, -⟩ := h3
    have c1 := h.row.cells (g := g) rfl (k * 2) _ h1
    have c2 := h.row.cells (g := g) rfl (k * 2 + 1) _ h2
    rw [Addr.add_lit, Nat.zero_add] at c1
    rw [Addr.add_lit, Nat.zero_add] at c2
    exact ⟨g, rfl, lt_of_block h4, c1, c2⟩

section
variable {P : Program} {w : World}
theorem step_append_own_string {ops : Array Oper} {o : Oper} {a : Act} {K : Act → World → Prop} {Q : Exit → Act → World → Prop} {E : Prop} (hgd : o.guard = none) (sl x : Operand) (t u : TypeId)
    (ho : o.op = .call { callee := .builtin .append, args := #[sl, x], argTypes := #[t, u] })
    (base : Nat) (e : TypeId) (i : TypeInfo) (ht : P.underlying t = some (.slice e)) (hu : P.underlying u = some .string) (hi : P.info? e = some i) (hz : i.zero = some (.int .u8 0))
    (hsize : i.size = 1) (hby : i.bytes = 1)
    (v : Value) (n : Nat) (xs : List Value) (hs : a.eval sl = v) (hown : w.ownsRow base e 1 v n xs) (s : ByteArray) (hx : a.eval x = .string s)
    (h63 : n + s.size ≤ maxLen) (hbytes : n + s.size ≤ 140737488355328) (hbase : base ≤ w.heap.size)
    (h : ∀ v' w', w'.ownsRow base e 1 v' (n + s.size) (xs ++ Lib.strCells s) → w.grownBy w' v.ownBlock → K (a.put o.dst v') w') :
    if Region.wanted o (yielded ops a.tmps) = true then Oper.wp P o a w K Q else E := by
  have hw : Region.wanted o (yielded ops a.tmps) = true := by simp [Region.wanted, hgd]
  rw [if_pos hw]
  obtain ⟨v', w', hr, h2, h3, _⟩ := Lib.run_append_own_string (P := P) w base t u o.type e i ht hu hi hz hsize hby v n xs hown s h63 hbytes hbase
  unfold Oper.wp execOp
  simp only [ho, resolve, invoke, builtin, Sem.run_bind, Sem.run_pure, Result.andThen_ok, List.map_toArray, List.map_cons, List.map_nil, hs, hx, hr]
  exact h v' w' h2 h3
end
end Go.Proofs.Eff
