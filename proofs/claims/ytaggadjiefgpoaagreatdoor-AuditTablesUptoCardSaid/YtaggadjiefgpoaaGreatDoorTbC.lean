/- effigylaw24.AuditTables: what its walk speaks of: a heap in which some objects were made, deeds. -/
import Derived.Test.YtaggadjiefgpoaaGreatDoorTbB
namespace Go.Proofs.Eff
open Go.RowKit

/-- A heap in which i objects were made. -/
structure Made (h : HeapS) (os : List Nat) (i : Nat) : Prop where
  wf : WF h os
  so : Sound h os
  size : h.size = 2000
  roots : h.roots = List.replicate 64 0
  len : h.words.length = 1 + 5 * i
  last : h.last = (i : Int)
theorem Made.zero : Made (emptyH 2000) [] 0 := by
  refine ⟨emptyH_wf 2000 (by omega) (by omega), ⟨by simp, by simp, by simp, by simp, by simp, by simp, ?_⟩, rfl, rfl, rfl, rfl⟩
  intro x hx
  have : x = 0 := by
    have h1 : x ∈ List.replicate 64 (0 : Int) := hx
    exact (List.mem_replicate.1 h1).2
  subst this; rfl
theorem Made.succ {h : HeapS} {os : List Nat} {i : Nat} (m : Made h os i) (hi : i < 20) : Made (allocH h ⟨2, 1, 0, 0, 0⟩) (os ++ [h.words.length]) (i + 1) := by
  have h1 := m.size
  have h2 := m.len
  have h3 := m.last
  have hroom : (h.words.length : Int) + 3 + 2 ≤ h.size := by omega
  have hlast : h.last ≠ 4294967295 := by omega
  obtain ⟨s1, _, _, _⟩ := allocH_sound m.wf m.so 2 (by omega) (by omega) hroom hlast
  refine ⟨allocH_wf m.wf (by decide) (by decide) (by decide) hroom hlast, s1, h1, m.roots, ?_, ?_⟩
  · show (h.words ++ _ ++ _).length = _
    simp; omega
  · show h.last + 1 = _
    omega

/-- What is done with a table. -/
structure HDeed where
  k : Int
  o : Int
  id : Int
  n : Int
  i : Int
/-- One lies there. -/
structure DeedAt (w : World) (b o : Nat) (d : HDeed) : Prop where
  c0 : w.cell? ⟨b, o, none⟩ = some (.int .i64 d.k)
  c1 : w.cell? ⟨b, o + 1, none⟩ = some (.int .u32 d.o)
  c2 : w.cell? ⟨b, o + 2, none⟩ = some (.int .u64 d.id)
  c3 : w.cell? ⟨b, o + 3, none⟩ = some (.int .i64 d.n)
  c4 : w.cell? ⟨b, o + 4, none⟩ = some (.int .i64 d.i)
structure DeedOK (d : HDeed) : Prop where
  k0 : -9223372036854775808 ≤ d.k
  k1 : d.k ≤ 9223372036854775807
  o0 : 0 ≤ d.o
  o1 : d.o < 4294967296
  i0 : 0 ≤ d.id
  i1 : d.id < 18446744073709551616
  n0 : -9223372036854775808 ≤ d.n
  n1 : d.n ≤ 9223372036854775807
def DeedsAt (w : World) (ad : Option Addr) (ds : List HDeed) : Prop := 0 < ds.length → ∃ b off, ad = some ⟨b, off, none⟩ ∧ b < w.heap.size ∧ ∀ k d, ds[k]? = some d → DeedAt w b (off + k * 5) d
theorem DeedsAt.mod {w w' : World} {ad : Option Addr} {ds : List HDeed} {S : List Nat} (h : DeedsAt w ad ds) (hM : Mod S w w') (hS : ∀ x, x ∈ S → w.heap.size ≤ x) : DeedsAt w' ad ds := fun h0 => by
  obtain ⟨b, off, e1, e2, e3⟩ := h h0
  have hb : w'.heap[b]? = w.heap[b]? := hM.block b e2 (fun hx => by have := hS b hx; omega)
  have e : ∀ o, w'.cell? ⟨b, o, none⟩ = w.cell? ⟨b, o, none⟩ := fun o => World.cell?_of_block (a := ⟨b, o, none⟩) hb
  refine ⟨b, off, e1, Nat.lt_of_lt_of_le e2 hM.size, fun k d hk => ?_⟩
  have q := e3 k d hk
  exact ⟨by rw [e]; exact q.c0, by rw [e]; exact q.c1, by rw [e]; exact q.c2, by rw [e]; exact q.c3, by rw [e]; exact q.c4⟩

theorem field51_0 (x y : Int) (w : World) : (Instr.field 51 (.agg #[.int .i64 x, .int .i64 y]) 0).run Tryz.prog w = .ok (.int .i64 x) w := by kernel_rfl
theorem DeedsAt.ofExt {w w' : World} {ad : Option Addr} {ds : List HDeed} (h : DeedsAt w ad ds) (hE : Ext w w') : DeedsAt w' ad ds := h.mod (S := []) (hE.mod _) (fun x hx => by simp at hx)
abbrev scrV (size objects cap first : Int) (ad : Option Addr) (n c : Nat) : Value := .agg #[.int .i64 size, .int .i64 objects, .int .i64 cap, .int .u64 first, .slice ad n c]
/-- What Header answers, whether or not there is such an object. -/
theorem header_any {w : World} {L : HLoc} {h : HeapS} {os : List Nat} (ha : HeapAt w L h) (wf : WF h os) (hs : Spares w) (o : Int) (h0 : 0 ≤ o) (h1 : o < 4294967296) :
    ∃ (s f sp c r e : Int), ((e = 0 ∧ isO os o = true ∧ r = serO h.words o) ∨ (e = 3 ∧ isO os o = false ∧ r = 0)) ∧ 0 ≤ r ∧ r < 4294967296 ∧
      ∀ W, Ext w W → Calls Tryz.prog 22 #[.pointer (some ⟨L.b, 0, none⟩), .int .u32 o] W fun e' w' => e' = .returned (.tuple #[.agg #[.int .i64 s, .int .i64 f, .int .i64 sp, .int .u32 c, .int .u32 r], .int .i64 e]) ∧ Ext W w' := by
  have hp := hs.pos
  cases ho : isO os o with
  | true =>
    have hw := wf.word ((o / 2).toNat + 2)
    exact ⟨(hdrAt h.words (o / 2).toNat).size, (hdrAt h.words (o / 2).toNat).fmt, (hdrAt h.words (o / 2).toNat).spare, (hdrAt h.words (o / 2).toNat).cls, (hdrAt h.words (o / 2).toNat).ser, 0, .inl ⟨rfl, rfl, rfl⟩, hw.1, hw.2, fun W hE => Header_ok (ha.keep hE) wf (hs.kept hE hp) o h0 h1 ho⟩
  | false => exact ⟨0, 0, 0, 0, 0, 3, .inr ⟨rfl, rfl, rfl⟩, by omega, by omega, fun W hE => Header_no (ha.keep hE) wf o h0 h1 ho⟩

/-- An act was done and is not yet appended. -/
structure TurnM (w W : World) (tb cap : Nat) (first : Int) (L : HLoc) (E : List Ent) (v : Value) (act : HAct) : Prop where
  tab : ∃ a h os T, TBx W L h os a cap tb T ∧ Rel h os a cap T (endT ⟨cap, [], first, 0⟩ (E.map (·.1) ++ [act]))
  ans : ansAll ⟨cap, [], first, 0⟩ (E.map (·.1) ++ [act]) = true
  acts : ActsI W (w.heap.size + 1) tb L v E
  above : L.above (w.heap.size + 1)
  tb1 : w.heap.size < tb
  ext : Ext w W
theorem TurnI.done {w wr W W1 W2 : World} {tb a cap : Nat} {first : Int} {L : HLoc} {E : List Ent} {v : Value} {h : HeapS} {os : List Nat} {S : List Nat} {act : HAct}
    (I : TurnI w wr tb cap first L E v) (hb : ∀ x, x ∈ L.blocks → x < wr.heap.size) (ht : tb < wr.heap.size) (hE : Ext wr W)
    (r : ActR W L h os a cap tb (endT ⟨cap, [], first, 0⟩ (E.map (·.1))) act W1) (hM : Mod S W1 W2) (hS : ∀ x, x ∈ S → wr.heap.size ≤ x) : TurnM w W2 tb cap first L E v act := by
  obtain ⟨⟨h', T', t, R⟩, a1, a2, a3⟩ := I.act hb ht hE r hM hS
  exact ⟨⟨_, h', _, T', t, R⟩, a1, a2, I.above, I.tb1, a3⟩
theorem TurnM.keep {w W W' : World} {tb cap : Nat} {first : Int} {L : HLoc} {E : List Ent} {v : Value} {act : HAct} (m : TurnM w W tb cap first L E v act) (hE : Ext W W') : TurnM w W' tb cap first L E v act := by
  obtain ⟨a, h, os, T, t, R⟩ := m.tab
  exact ⟨⟨a, h, os, T, t.keep hE, R⟩, m.ans, m.acts.turned ⟨⟨[], fun x hx => by simp at hx, hE.mod _⟩, fun x hx => .inl hx⟩, m.above, m.tb1, m.ext.trans hE⟩
theorem TurnM.snoc {w W2 W3 : World} {tb cap : Nat} {first : Int} {L : HLoc} {E : List Ent} {v v' : Value} {x : Ent} (m : TurnM w W2 tb cap first L E v x.1) (hx : EntOK W2 (w.heap.size + 1) tb L x)
    (hrow : W3.ownsRow (w.heap.size + 1) 90 6 v' (E.length + 1) (entsC E ++ entC x)) (hg : W2.grownBy W3 v.ownBlock) : TurnI w W3 tb cap first L (E ++ [x]) v' := by
  obtain ⟨a, h, os, T, t, R⟩ := m.tab
  exact TurnI.snoc t R m.ans m.acts hx m.above m.tb1 m.ext hrow hg
theorem TurnM.box {w W2 W3 : World} {tb cap : Nat} {first : Int} {L : HLoc} {E : List Ent} {v : Value} {act : HAct} {o : Obj} (m : TurnM w W2 tb cap first L E v act) (hB : W2.heap[w.heap.size]? = some o) (hg : W2.grownBy W3 v.ownBlock) : W3.heap[w.heap.size]? = some o := by
  refine (grown_modL hg).keep hB (fun hx => ?_)
  cases hv : v.ownBlock with
  | none => rw [hv] at hx; simp at hx
  | some q =>
    rw [hv] at hx
    simp at hx
    have := (m.acts.row.lt q hv).1
    omega
theorem EntOK.bare {W : World} {base tb : Nat} {L : HLoc} (k id n ser err : Int) (i0 : 0 ≤ id) (i1 : id < 18446744073709551616) (s0 : 0 ≤ ser) (s1 : ser < 4294967296) : EntOK W base tb L (⟨k, id, n, ser, [], err⟩, none, 0) :=
  ⟨fun h => by simp at h, by simp, fun _ => rfl, i0, i1, s0, s1⟩
/-- The numbers that Tick gave lie in a row of their own. -/
theorem EntOK.tick {wr W W1 W2 : World} {base tb : Nat} {L : HLoc} {S : List Nat} {v : Value} {ids : List Int} (k id n ser err : Int) (hb : ∀ x, x ∈ L.blocks → x < wr.heap.size) (ht : tb < wr.heap.size) (hbase : base ≤ wr.heap.size) (hE : wr.heap.size + 2 ≤ W.heap.size)
    (hrow : W1.ownsRow W.heap.size 55 1 v ids.length (u64s ids)) (hl : ids.length ≤ 256) (hM : Mod S W1 W2) (hS : ∀ x, x ∈ S → x < wr.heap.size + 2) (i0 : 0 ≤ id) (i1 : id < 18446744073709551616) (s0 : 0 ≤ ser) (s1 : ser < 4294967296) :
    ∃ ad c, v = .slice ad ids.length c ∧ EntOK W2 base tb L (⟨k, id, n, ser, ids, err⟩, ad, c) := by
  obtain ⟨ad, c, rfl, hpos⟩ := own_any hrow
  have hnil : ad = none → c = 0 := fun hn => by
    subst hn
    rcases hrow.2 with ⟨h2, _⟩ | ⟨g', c', cur, h2, _⟩
    · simp only [Value.slice.injEq] at h2; exact h2.2.2
    · simp at h2
  refine ⟨ad, c, rfl, ⟨fun h0 => ?_, by show ids.length ≤ _; omega, hnil, i0, i1, s0, s1⟩⟩
  obtain ⟨g, rfl, g1, g2⟩ := hpos h0
  have hn : ¬ g ∈ S := fun hx => by have := hS g hx; omega
  have hblk := hM.block g g2 hn
  have hty : ∃ cs fz, W1.heap[g]? = some (.cells cs 55 fz) := by
    rcases hrow.2 with ⟨h2, _⟩ | ⟨g', c', cur, h2, _, h4, _⟩
    · cases h2
    · simp only [Value.slice.injEq, Option.some.injEq, Addr.mk.injEq, and_true, true_and] at h2
      rw [h2.1]; exact ⟨_, _, h4⟩
  obtain ⟨cs, fz, hty⟩ := hty
  refine ⟨g, 0, rfl, by omega, Nat.lt_of_lt_of_le g2 hM.size, by omega, fun hx => by have := hb g hx; omega, ⟨cs, fz, by rw [hblk]; exact hty⟩, fun j u hj => ?_⟩
  have h1 := hrow.cells (g := g) rfl j (.int .u64 u) (by simp only [u64s, List.getElem?_map]; rw [show ids[j]? = some u from hj]; rfl)
  rw [Addr.add_lit] at h1
  rw [World.cell?_of_block (a := ⟨g, 0 + j, none⟩) hblk]
  exact h1
theorem info90 : (Tryz.prog.info? 90).map (fun i => (i.zero, i.size, i.bytes)) = some (some (.agg #[.int .i64 0, .int .u64 0, .int .i64 0, .int .u32 0, .slice none 0 0, .int .i64 0]), 6, 64) := by kernel_rfl
theorem entC_one (x : Ent) : ∀ u, u ∈ entC x → u.oneCell' = true := by
  intro u hu
  simp only [entC, List.mem_cons, List.not_mem_nil, or_false] at hu
  rcases hu with rfl | rfl | rfl | rfl | rfl | rfl <;> rfl
theorem isO_nil (os : List Nat) : isO os 0 = false := by simp [isO, isObj]
/-- A number was asked for. -/
theorem ActR.get {W w5 : World} {L : HLoc} {h : HeapS} {os : List Nat} {a cap tb : Nat} {T : HTab} {M : TabS} (t : TBx W L h os a cap tb T) (R : Rel h os a cap T M) (hE : Ext W w5) {id n r err : Int}
    (hg : (lget M.live id = none ∧ err = 160 ∧ r = 0) ∨ (∃ x, lget M.live id = some x ∧ err = 0 ∧ r = x.1)) : ActR W L h os a cap tb M ⟨2, id, n, r, [], err⟩ w5 := by
  have e1 : ansF M ⟨2, id, n, r, [], err⟩ = (M, true) := by rcases hg with ⟨h1, rfl, rfl⟩ | ⟨x, h1, rfl, rfl⟩ <;> simp [ansF, getF, h1]
  exact ⟨by rw [e1], ⟨h, T, t.keep hE, by rw [e1]; exact R⟩, hE.mod _⟩
theorem small_next {n m : Nat} (h : n < m) (hm : m ≤ 1073741824) : (n : Int) < 1073741824 := by omega
theorem meas_next {i n : Nat} (h : i < n) : n - ((i : Int) + 1).toNat < n - ((i : Int)).toNat := by omega
theorem len_snoc {α : Type} {l : List α} {x : α} {i : Nat} (h : l.length ≤ i) : (l ++ [x]).length ≤ i + 1 := by rw [List.length_append]; exact Nat.succ_le_succ h
theorem slice_snoc {α : Type} (l : List α) (x : α) (ad : Option Addr) (c : Nat) : Value.slice ad (l.length + 1) c = .slice ad (l ++ [x]).length c := by rw [List.length_append]; rfl
end Go.Proofs.Eff
