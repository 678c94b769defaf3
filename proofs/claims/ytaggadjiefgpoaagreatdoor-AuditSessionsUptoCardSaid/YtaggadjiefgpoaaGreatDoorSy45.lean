/- Plain laws of a copy of what passed; appending read bytes at a step of a region that draws. -/
import Derived.Test.YtaggadjiefgpoaaGreatDoorSy42
import Derived.Test.YtaggadjiefgpoaaGreatDoorSy44
import Derived.Test.YtaggadjiefgpoaaGreatDoorSy26
import Derived.Test.YtaggadjiefgpoaaGreatDoorSy29
import Derived.Deep.AppendLies
import Derived.Laws.OwnMore
import Derived.Deep.RegionLaw
import Derived.Deep.CutBlock
namespace Go.Proofs.Eff
open Go.RowKit Go

theorem step_append_bu {w : World} {ops : Array Oper} {o : Oper} {a : Act} {K : Act → World → Prop} {Q : Exit → Act → World → Prop} {E : Prop} (hgd : o.guard = none) (s x : Operand)
    (ho : o.op = .call { callee := .builtin .append, args := #[s, x], argTypes := #[37, 37] }) (base : Nat) (v : Value) (n : Nat) (xs : List Value) (hs : a.eval s = v) (hown : w.ownsRow base 5 1 v n xs)
    {top c : Nat} {ad : Option Addr} {l : List Int} (hb : BU w top ad c l) (hx : a.eval x = .slice ad l.length c) (hn : n + l.length ≤ 140737488355328) (hbase : base ≤ w.heap.size)
    (h : ∀ v' w', w'.ownsRow base 5 1 v' (n + l.length) (xs ++ u8s l) → w.grownBy w' v.ownBlock → K (a.put o.dst v') w') :
    if Region.wanted o (yielded ops a.tmps) = true then Oper.wp Tryz.prog o a w K Q else E := by
  have hw : Region.wanted o (yielded ops a.tmps) = true := by simp [Region.wanted, hgd]
  rw [if_pos hw]
  obtain ⟨i5, hi, hz0, hz1, hz3⟩ := info_parts Tryz.cinfo5
  have key : ∃ v' w', (Builtin.append_ #[37, 37] o.type #[v, .slice ad l.length c]).run Tryz.prog w = .ok v' w' ∧ w'.ownsRow base 5 1 v' (n + l.length) (xs ++ u8s l) ∧ w.grownBy w' v.ownBlock := by
    cases ad with
    | none =>
      obtain rfl : c = 0 := hb.nil0 rfl
      have h0 := hb.cap
      obtain rfl : l = [] := List.eq_nil_of_length_eq_zero (by omega)
      exact ⟨v, w, run_append_owned_none (P := Tryz.prog) (w := w) base 37 o.type 5 i5 1 Tryz.underlying37 hi v n xs hown, by simpa [u8s] using hown, ⟨rfl, rfl, rfl, Nat.le_refl _, fun _ _ _ => rfl⟩⟩
    | some ad =>
      obtain ⟨v', w', h1, h2, h3, _⟩ := run_append_own (P := Tryz.prog) w base 37 o.type 5 i5 (.int .u8 0) 1 1 Tryz.underlying37 hi hz0 hz1 hz3 rfl (by decide) v n xs hown ad l.length c (u8s l) (by simp) (fun j u hj => by
        simp only [u8s, List.getElem?_map, Option.map_eq_some_iff] at hj
        obtain ⟨y, hy, rfl⟩ := hj
        obtain ⟨g, off, e1, _, e3⟩ := hb.row ad rfl (by have := hb.cap; have := (List.getElem?_eq_some_iff.1 hy).1; omega)
        subst e1
        rw [Addr.add_lit]
        exact e3 j y hy) (u8s_one _) (by unfold maxLen; omega) (by omega) hbase
      exact ⟨v', w', h1, h2, h3⟩
  obtain ⟨v', w', hr, h2, h3⟩ := key
  unfold Oper.wp execOp
  simp only [ho, resolve, invoke, builtin, Sem.run_bind, Sem.run_pure, Result.andThen_ok, List.map_toArray, List.map_cons, List.map_nil, hs, hx, hr]
  exact h v' w' h2 h3

/-- What passed, as cells. -/
def psC (x : Psx) : List Value := [.bool x.1.out, .bool x.1.cut, .slice x.2.1 x.1.bytes.length x.2.2]
def pssC (l : List Psx) : List Value := l.flatMap psC
theorem pssC_append (l m : List Psx) : pssC (l ++ m) = pssC l ++ pssC m := by simp [pssC]
theorem pssC_get {l : List Psx} {k : Nat} {x : Psx} (h : l[k]? = some x) (j : Nat) (hj : j < 3) : (pssC l)[k * 3 + j]? = (psC x)[j]? := by
  induction l generalizing k with
  | nil => simp at h
  | cons y l ih =>
    have e : pssC (y :: l) = psC y ++ pssC l := rfl
    have hl : (psC y).length = 3 := rfl
    rw [e]
    cases k with
    | zero =>
      simp only [List.getElem?_cons_zero, Option.some.injEq] at h
      subst h
      rw [Nat.zero_mul, Nat.zero_add, List.getElem?_append_left (by omega)]
    | succ k =>
      simp only [List.getElem?_cons_succ] at h
      rw [List.getElem?_append_right (by omega), hl, show (k + 1) * 3 + j - 3 = k * 3 + j by omega]
      exact ih h
/-- Bytes of one's own, read. -/
def ByO (w : World) (y : Psx) : Prop := BU w w.heap.size y.2.1 y.2.2 y.1.bytes ∧ y.1.bytes.length ≤ 1048576 ∧ ∀ ad, y.2.1 = some ad → ∃ cs, w.heap[ad.block]? = some (.cells cs 5)
theorem ByO.ext {w w' : World} {y : Psx} (h : ByO w y) (hx : Ext w w') : ByO w' y := ⟨(h.1.ext hx (Nat.le_refl _)).up hx.size, h.2.1, fun ad e => by obtain ⟨cs, h7⟩ := h.2.2 ad e; exact ⟨cs, hx.keep h7⟩⟩
/-- A copy of what passed. -/
structure GivAt (w : World) (base : Nat) (v : Value) (ys : List Psx) : Prop where
  row : w.ownsRow base 101 3 v ys.length (pssC ys)
  each : ∀ y, y ∈ ys → ByO w y
theorem GivAt.ext {w w' : World} {base : Nat} {v : Value} {ys : List Psx} (h : GivAt w base v ys) (hx : Ext w w') : GivAt w' base v ys := ⟨row_keep h.row hx, fun y hy => (h.each y hy).ext hx⟩
theorem GivAt.nil (w : World) (base : Nat) : GivAt w base (.slice none 0 0) [] := ⟨⟨rfl, .inl ⟨rfl, rfl⟩⟩, fun _ h => (by cases h)⟩
theorem GivAt.snoc {w w' : World} {base : Nat} {v v' : Value} {ys : List Psx} {y : Psx} (h : GivAt w base v ys) (hy : ByO w y) (hown : w'.ownsRow base 101 3 v' (ys.length + 1) (pssC ys ++ psC y)) (hg : w.grownBy w' v.ownBlock) : GivAt w' base v' (ys ++ [y]) := by
  have m2 := mod_grown hg
  have notin : ∀ g cs, w.heap[g]? = some (.cells cs 5) → g ∉ v.ownBlock.toList := fun g cs hgb hm => by
    rcases h.row.2 with ⟨h4, _⟩ | ⟨g', cap', cur, h4, _, h5, _⟩
    · rw [h4] at hm; simp [Value.ownBlock] at hm
    · rw [h4] at hm
      simp only [Value.ownBlock, Option.toList_some, List.mem_cons, List.not_mem_nil, or_false] at hm
      subst hm
      rw [h5] at hgb
      simp at hgb
  have keep : ∀ z, ByO w z → ByO w' z := fun z hz => by
    refine ⟨(hz.1.stay m2 (Nat.le_refl _) (fun ad e => ?_)).up m2.size, hz.2.1, fun ad e => ?_⟩
    · obtain ⟨cs, h7⟩ := hz.2.2 ad e
      exact notin _ _ h7
    · obtain ⟨cs, h7⟩ := hz.2.2 ad e
      exact ⟨cs, m2.keep h7 (notin _ _ h7)⟩
  refine ⟨?_, fun z hz => ?_⟩
  · rw [pssC_append, List.length_append]
    have : pssC [y] = psC y := by simp [pssC]
    rw [this]
    exact hown
  · rcases List.mem_append.1 hz with hz | hz
    · exact keep z (h.each z hz)
    · simp only [List.mem_cons, List.not_mem_nil, or_false] at hz
      subst hz
      exact keep _ hy
theorem GivAt.box {w : World} {base b i : Nat} {v : Value} {ys : List Psx} {cs : Array Value} {T : TypeId} (h : GivAt w base v ys) (hb : w.heap[b]? = some (.cells cs T)) (h5 : T ≠ 5) (h6 : T ≠ 101 ∨ v.ownBlock ≠ some b) (u : Value) : GivAt (w.setCell ⟨b, i, none⟩ u) base v ys := by
  have m := mod_setCell w ⟨b, i, none⟩ u
  refine ⟨m.row h.row fun g hg hm => ?_, fun y hy => ?_⟩
  · have hgb : g = b := by simpa using hm
    subst hgb
    rcases h6 with h6 | h6
    · rcases h.row.2 with ⟨h4, _⟩ | ⟨g', cap', cur, h4, _, h7, _⟩
      · rw [h4] at hg; simp [Value.ownBlock] at hg
      · rw [h4] at hg
        simp only [Value.ownBlock, Option.some.injEq] at hg
        subst hg
        rw [h7] at hb
        simp only [Option.some.injEq, Obj.cells.injEq] at hb
        exact h6 hb.2.1.symm
    · exact h6 hg
  · obtain ⟨q1, q2, q3⟩ := h.each y hy
    have hne : ∀ ad, y.2.1 = some ad → ad.block ∉ [b] := fun ad e hm => by
      obtain ⟨cs2, h7⟩ := q3 ad e
      have hgb : ad.block = b := by simpa using hm
      rw [hgb, hb] at h7
      simp only [Option.some.injEq, Obj.cells.injEq] at h7
      exact h5 h7.2.1
    exact ⟨(q1.stay m (Nat.le_refl _) hne).up m.size, q2, fun ad e => by obtain ⟨cs2, h7⟩ := q3 ad e; exact ⟨cs2, m.keep h7 (hne ad e)⟩⟩
theorem GivAt.psds {w : World} {base : Nat} {ga : Option Addr} {gc : Nat} {ys : List Psx} (h : GivAt w base (.slice ga ys.length gc) ys) : PsdsAt w w.heap.size ga ys := by
  refine ⟨fun h0 => ?_, fun y hy => ⟨(h.each y hy).1, (h.each y hy).2.1⟩⟩
  obtain ⟨ga', gc', e, hf⟩ := own_any h.row
  simp only [Value.slice.injEq, true_and] at e
  obtain ⟨rfl, rfl⟩ := e
  obtain ⟨g, rfl, _, hg2⟩ := hf h0
  refine ⟨g, 0, rfl, hg2, fun k x hx => ?_⟩
  have key : ∀ j, j < 3 → w.cell? ⟨g, 0 + k * 3 + j, none⟩ = (psC x)[j]? := fun j hj => by
    have h1 := pssC_get hx j hj
    obtain ⟨u, hu⟩ : ∃ u, (psC x)[j]? = some u := ⟨(psC x)[j], List.getElem?_eq_getElem (by simp [psC]; omega)⟩
    rw [hu] at h1 ⊢
    have h2 := h.row.cells rfl _ _ h1
    rw [Addr.add_lit, Nat.zero_add] at h2
    rw [Nat.zero_add]
    exact h2
  exact ⟨key 0 (by omega), key 1 (by omega), key 2 (by omega)⟩
theorem Tryz.cinfo101 : (Tryz.prog.info? 101).map (fun i => (i.zero, i.size, i.bytes)) = some (some (.agg #[.bool false, .bool false, .slice none 0 0]), 3, 32) := by kernel_rfl
set_option maxRecDepth 100000 in
/-- One that passed is appended to a row of one's own. -/
theorem wpList_append_ps {w : World} {ops : Array Oper} {rest : List Oper} {o : Oper} {a : Act} {Q : Exit → Act → World → Prop} (hgd : o.guard = none) (s z : Operand)
    (ho : o.op = .call { callee := .builtin .append, args := #[s, z], argTypes := #[99, 99] }) (base : Nat) (v : Value) (ys : List Psx) (hs : a.eval s = v) (hown : w.ownsRow base 101 3 v ys.length (pssC ys))
    (y : Psx) (g : Nat) (hb : w.heap[g]? = some (.cells #[.bool y.1.out, .bool y.1.cut, .slice y.2.1 y.1.bytes.length y.2.2] 101)) (hx : a.eval z = .slice (some ⟨g, 0, none⟩) 1 1) (hn : ys.length ≤ 1099511627776) (hbase : base ≤ w.heap.size)
    (h : ∀ v' w', w'.ownsRow base 101 3 v' (ys.length + 1) (pssC ys ++ psC y) → w.grownBy w' v.ownBlock → wpList Tryz.prog ops Q rest (a.put o.dst v') w') : wpList Tryz.prog ops Q (o :: rest) a w := by
  obtain ⟨i0, hi, hz0, hz1, hz3⟩ := info_parts Tryz.cinfo101
  refine wpList_append_own _ hgd s z 99 ho base 101 i0 (.agg #[.bool false, .bool false, .slice none 0 0]) 3 32 Tryz.underlying99 hi hz0 hz1 hz3 rfl (by decide) v ys.length (pssC ys) hs hown ⟨g, 0, none⟩ 1 1 (psC y) hx rfl ?_ ?_ (by unfold maxLen; omega) (by omega) hbase (fun v' w' h1 h2 _ => h v' w' h1 h2)
  · intro j u hj
    rw [Addr.add_lit, Nat.zero_add, (blk hb).1 j, ← hj]
    simp [psC]
  · intro u hu
    simp only [psC, List.mem_cons, List.not_mem_nil, or_false] at hu
    rcases hu with rfl | rfl | rfl <;> rfl
end Go.Proofs.Eff

/- The law: AuditSessions, walked. -/
namespace Go.Proofs.Eff
open Go.RowKit Go

theorem BU.lit77 {w : World} {g : Nat} (h : w.heap[g]? = some (.cells #[.int .u8 77] 5)) : BU w w.heap.size (some ⟨g, 0, none⟩) 1 [77] := by
  have key : ∀ (j : Nat) (x : Int), [77][j]? = some x → w.cell? ⟨g, 0 + j, none⟩ = some (.int .u8 x) := by
    intro j x hj
    rw [(blk h).1]
    cases j with
    | zero => simp at hj; subst hj; rfl
    | succ j => simp at hj
  exact ⟨by simp, fun e => (by cases e), fun ad e _ => (by cases e; exact ⟨g, 0, rfl, lt_of_block h, key⟩), fun x hx => (by simp at hx; subst hx; omega), by unfold maxLen; omega, by simp⟩
theorem own_cap {w : World} {base e size n c : Nat} {ad : Option Addr} {xs : List Value} (h : w.ownsRow base e size (.slice ad n c) n xs) (hn : 0 < n) : n ≤ c := by
  rcases h.2 with ⟨_, h3⟩ | ⟨g, c', cur, h2, _, _, h5, _⟩
  · omega
  · simp only [Value.slice.injEq] at h2
    obtain ⟨_, _, rfl⟩ := h2
    first | exact h5 | omega
set_option maxRecDepth 100000 in
set_option maxHeartbeats 8000000 in
theorem AuditSessions7 {w : World} (hs : Spares w) {ad : Option Addr} {c : Nat} {l : List Psx} (h : PsdsAt w w.heap.size ad l) (hn : l.length ≤ 1048576) :
    Calls Tryz.prog 7 #[.slice ad l.length c] w fun e w' => e = .returned (.bool true) ∧ Ext w w' := by
  have hp := hs.pos
  have H := Lib.hid h
  have AW : Hid (∀ W, Ext w W → Calls Tryz.prog 9 #[] W fun e w' => e = .returned (.bool true) ∧ Ext W w') := fun W hE => awake9 (hs.kept hE hp)
  have S37 : Hid (∀ W, Ext w W → Calls Tryz.prog 37 #[.slice ad l.length c] W (FindR W ((sessG {} 0 (l.map (·.1))).1, ((sessG {} 0 (l.map (·.1))).2 : Int)))) := fun W hE =>
    Session37 ⟨fun h0 => by obtain ⟨g, off, e1, e2, e3⟩ := (h.ext hE (Nat.le_refl _)).row h0; exact ⟨g, off, e1, Nat.lt_of_lt_of_le e2 hE.size, e3⟩, fun x hx => ⟨((h.ext hE (Nat.le_refl _)).each x hx).1.up hE.size, ((h.ext hE (Nat.le_refl _)).each x hx).2⟩⟩ hn
  have S36 : Hid (∀ W gv (ys : List Psx), GivAt W w.heap.size gv ys → ys.map (·.1) = l.map (·.1) → Calls Tryz.prog 36 #[gv] W (FindR W ((sessG {} 0 (l.map (·.1))).1, ((sessG {} 0 (l.map (·.1))).2 : Int)))) := fun W gv ys hG he => by
    obtain ⟨ga, gc, rfl, _⟩ := own_any hG.row
    rw [← he]
    have hl := congrArg List.length he
    simp only [List.length_map] at hl
    exact Session36 hG.psds (by omega)
  generalize sessG {} 0 (l.map (·.1)) = r at *
  obtain ⟨r1, r2⟩ := r
  have n51 : ∀ w, (binOp .neq 51 (.agg #[.int .i64 r1, .int .i64 (r2 : Int)]) (.agg #[.int .i64 r1, .int .i64 (r2 : Int)])).run Tryz.prog w = .ok (.bool false) w := fun w => by rw [run_neq51]; simp
  clear h hs
  go_enter Tryz.func7, Tryz.ntmps7
  go_wp2_with fail
  go_loopw [4, 3] (fun i gv wr => ∃ (k : Nat) (ys : List Psx), k ≤ l.length ∧ i = .int .i64 k ∧ Ext w wr ∧ GivAt wr w.heap.size gv ys ∧ ys.map (·.1) = (l.take k).map (·.1)) (fun i _ _ => l.length - (intOf i).toNat)
  case atStart => exact ⟨0, [], Nat.zero_le _, rfl, Ext.refl _, GivAt.nil _ _, rfl⟩
  case round =>
    obtain ⟨k, ys, hk, rfl, hE, hG, hY⟩ := hrel
    have E := Lib.hid hE
    have G := Lib.hid hG
    have Y := Lib.hid hY
    clear hE hG hY
    obtain ⟨ga, gc, rfl, _⟩ := own_any G.out.row
    by_cases hlt : k < l.length
    · obtain ⟨x, hx⟩ : ∃ x, l[k]? = some x := ⟨l[k], by simp [hlt]⟩
      have PA := Lib.hid (H.out.ext E.out (Nat.le_refl _))
      obtain ⟨g, off, rfl, hg1, hcells⟩ := PA.out.row (by omega)
      obtain ⟨c0, c1, c2⟩ := hcells k x hx
      obtain ⟨hbu, hbl⟩ := PA.out.each x (List.mem_of_getElem? hx)
      have BUX := Lib.hid hbu
      have hwsz := E.out.size
      have hki : (k : Int) < (l.length : Int) := by omega
      have hgw : g < wr.heap.size := by omega
      have YS : Hid (ys.map (·.1) ++ [x.1] = (l.take (k + 1)).map (·.1)) := by
        show _ = _
        rw [List.take_add_one, hx, Y.out]
        simp
      have hyl : ys.length = k := by have h7 := congrArg List.length Y.out; simp only [List.length_map, List.length_take] at h7; omega
      have HYL := Lib.hid hyl
      clear hcells hbu hx hyl
      obtain ⟨⟨po, pc, pb⟩, pa, pcap⟩ := x
      simp only at c0 c1 c2 hbl
      go_upto_region 6 with fail
      have XA := (Ext.refl wr).alloc (.cells #[.bool po, .bool pc, .slice pa pb.length pcap] 101)
      have NB := Lib.hid (newB wr (.cells #[.bool po, .bool pc, .slice pa pb.length pcap] 101) _ rfl)
      have EB := Lib.hid (E.out.trans XA)
      have GB := Lib.hid (G.out.ext XA)
      have HGX : Hid ((Value.slice ga ys.length gc).ownBlock ≠ some wr.heap.size) := fun e => by have := (G.out.row.lt _ e).2; omega
      have HXW : Hid (w.heap.size ≤ wr.heap.size) := hwsz
      have BB := Lib.hid (BUX.out.ext XA hwsz)
      have hwz2 := Nat.le_trans hwsz XA.size
      clear XA c0 c1 c2 hgw
      generalize wr.heap.size = xb at *
      generalize wr.alloc (.cells #[.bool po, .bool pc, .slice pa pb.length pcap] 101) = w5 at *
      obtain ⟨b3, b4⟩ := blk NB.out
      have hxl := lt_of_block NB.out
      have N77B := Lib.hid (((Ext.refl ((w5.alloc (.cells #[] 5)).alloc (.cells #[.int .u8 77] 5))).drew).keep (newB (w5.alloc (.cells #[] 5)) (.cells #[.int .u8 77] 5) (w5.heap.size + 1) (by simp)))
      have N77C := Lib.hid (((Ext.refl ((w5.alloc (.cells #[.int .u8 77] 5)).alloc (.cells #[] 5))).drew).keep (keepB (newB w5 (.cells #[.int .u8 77] 5) w5.heap.size rfl) (.cells #[] 5)))
      have OWNC : Hid (((w5.alloc (.cells #[.int .u8 77] 5)).alloc (.cells #[] 5)).ownsRow w5.heap.size 5 1 (.slice (some ⟨w5.heap.size + 1, 0, none⟩) 0 0) 0 []) := by
        have h7 := World.ownsRow_lit (base := w5.heap.size) (e := 5) (size := 1) (w5.alloc (.cells #[.int .u8 77] 5)) #[] 0 (by simp) (Nat.zero_le _) rfl
        show World.ownsRow _ _ _ _ _ _ _
        simpa using h7
      have hpl : (pb.length : Int) ≤ 1048576 := by omega
      go_cut [5] from 17 to 27 (fun s5 wc => s5 = .pointer (some ⟨xb, 0, none⟩) ∧ ∃ w7 g7 c7, Ext w5 w7 ∧ w7.ownsRow w5.heap.size 5 1 (.slice (some ⟨g7, 0, none⟩) (pb.length + [77].length) c7) (pb.length + [77].length) (u8s pb ++ u8s [77]) ∧ wc = w7.setCell ⟨xb, 2, none⟩ (.slice (some ⟨g7, 0, none⟩) pb.length c7))
      case first =>
        go_region_law (first
          | (apply step_append_bu (s := .tmp 17) (x := .tmp 19) (l := pb) (top := w.heap.size) (c := pcap) (ad := pa) (base := w5.heap.size) (v := (.slice (some ⟨w5.heap.size, 0, none⟩) 0 0)) (n := 0) (xs := []); (case hgd => rfl); (case ho => rfl); (case hs => first | rfl | simp [Act.eval]); (case hown => exact row_keep (World.ownsRow_lit (base := w5.heap.size) (e := 5) (size := 1) w5 #[] 0 (Nat.le_refl _) (Nat.zero_le _) rfl) (by repeat' (first | exact Ext.refl _ | refine Ext.drew ?_ | refine Ext.alloc ?_ _))); (case hb => exact BB.out.ext (by repeat' (first | exact Ext.refl _ | refine Ext.drew ?_ | refine Ext.alloc ?_ _)) hwz2); (case hx => first | rfl | simp [Act.eval]); (case hn => omega); (case hbase => first | (simp; done) | (simp; omega)); intro v6 w6 hown hgrow; rw [Nat.zero_add, List.nil_append] at hown; obtain ⟨a6, c6, rfl, _⟩ := own_any hown; have E6 : Hid (Ext w5 w6) := Ext.grown (by repeat' (first | exact Ext.refl _ | refine Ext.drew ?_ | refine Ext.alloc ?_ _)) hgrow (fun q hq => (by cases hq; first | exact Nat.le_refl _ | exact Nat.le_succ _)); obtain ⟨m1, m2⟩ := blk (E6.out.keep NB.out); have hx6 := lt_of_block (E6.out.keep NB.out); have R6 := Lib.hid hown; have GR6 := Lib.hid hgrow; clear hown hgrow)
          | (apply step_append_bu (s := .tmp 17) (x := .tmp 19) (l := pb) (top := w.heap.size) (c := pcap) (ad := pa) (base := w5.heap.size) (v := (.slice (some ⟨w5.heap.size + 1, 0, none⟩) 0 0)) (n := 0) (xs := []); (case hgd => rfl); (case ho => rfl); (case hs => first | rfl | simp [Act.eval]); (case hown => exact row_keep OWNC.out (by repeat' (first | exact Ext.refl _ | refine Ext.drew ?_ | refine Ext.alloc ?_ _))); (case hb => exact BB.out.ext (by repeat' (first | exact Ext.refl _ | refine Ext.drew ?_ | refine Ext.alloc ?_ _)) hwz2); (case hx => first | rfl | simp [Act.eval]); (case hn => omega); (case hbase => first | (simp; done) | (simp; omega)); intro v6 w6 hown hgrow; rw [Nat.zero_add, List.nil_append] at hown; obtain ⟨a6, c6, rfl, _⟩ := own_any hown; have E6 : Hid (Ext w5 w6) := Ext.grown (by repeat' (first | exact Ext.refl _ | refine Ext.drew ?_ | refine Ext.alloc ?_ _)) hgrow (fun q hq => (by cases hq; first | exact Nat.le_refl _ | exact Nat.le_succ _)); obtain ⟨m1, m2⟩ := blk (E6.out.keep NB.out); have hx6 := lt_of_block (E6.out.keep NB.out); have R6 := Lib.hid hown; have GR6 := Lib.hid hgrow; clear hown hgrow)
          | (apply step_append_bu (s := .tmp 20) (x := .tmp 21) (l := [77]) (c := 1) (ad := some ⟨w6.heap.size, 0, none⟩) (base := w5.heap.size) (v := .slice a6 pb.length c6) (n := pb.length) (xs := u8s pb); (case hgd => rfl); (case ho => rfl); (case hs => first | rfl | simp [Act.eval]); (case hown => exact row_keep R6.out (by repeat' (first | exact Ext.refl _ | refine Ext.drew ?_ | refine Ext.alloc ?_ _))); (case hb => exact (BU.lit77 (newB w6 _ _ rfl))); (case hx => first | rfl | simp [Act.eval]); (case hn => simp; omega); (case hbase => first | exact E6.out.size | exact Nat.le_trans E6.out.size (by simp)); intro v7 w7 hown hgrow; obtain ⟨a7, c7, rfl, hf7⟩ := own_any hown; obtain ⟨g7, rfl, hg7, hg8⟩ := hf7 (by simp); have E7 : Hid (Ext w5 w7) := Ext.grown (E6.out.trans (by repeat' (first | exact Ext.refl _ | refine Ext.drew ?_ | refine Ext.alloc ?_ _))) hgrow (fun q hq => (R6.out.lt q hq).1); obtain ⟨m3, m4⟩ := blk (E7.out.keep NB.out); have hc7 := own_cap hown (by simp); have hc8 : pb.length ≤ c7 := (by simp only [List.length_cons, List.length_nil] at hc7; omega); have R7 := Lib.hid hown; clear hown hgrow hf7)
          | (apply step_append_bu (s := .tmp 20) (x := .tmp 21) (l := [77]) (c := 1) (ad := some ⟨w5.heap.size + 1, 0, none⟩) (base := w5.heap.size) (v := .slice a6 pb.length c6) (n := pb.length) (xs := u8s pb); (case hgd => rfl); (case ho => rfl); (case hs => first | rfl | simp [Act.eval]); (case hown => exact row_keep R6.out (by repeat' (first | exact Ext.refl _ | refine Ext.drew ?_ | refine Ext.alloc ?_ _))); (case hb => exact (BU.lit77 ((mod_grown GR6.out).keep N77B.out (by simp [Value.ownBlock])))); (case hx => first | rfl | simp [Act.eval]); (case hn => simp; omega); (case hbase => first | exact E6.out.size | exact Nat.le_trans E6.out.size (by simp)); intro v7 w7 hown hgrow; obtain ⟨a7, c7, rfl, hf7⟩ := own_any hown; obtain ⟨g7, rfl, hg7, hg8⟩ := hf7 (by simp); have E7 : Hid (Ext w5 w7) := Ext.grown (E6.out.trans (by repeat' (first | exact Ext.refl _ | refine Ext.drew ?_ | refine Ext.alloc ?_ _))) hgrow (fun q hq => (R6.out.lt q hq).1); obtain ⟨m3, m4⟩ := blk (E7.out.keep NB.out); have hc7 := own_cap hown (by simp); have hc8 : pb.length ≤ c7 := (by simp only [List.length_cons, List.length_nil] at hc7; omega); have R7 := Lib.hid hown; clear hown hgrow hf7)
          | (apply step_append_bu (s := .tmp 20) (x := .tmp 21) (l := [77]) (c := 1) (ad := some ⟨w5.heap.size, 0, none⟩) (base := w5.heap.size) (v := .slice a6 pb.length c6) (n := pb.length) (xs := u8s pb); (case hgd => rfl); (case ho => rfl); (case hs => first | rfl | simp [Act.eval]); (case hown => exact row_keep R6.out (by repeat' (first | exact Ext.refl _ | refine Ext.drew ?_ | refine Ext.alloc ?_ _))); (case hb => exact (BU.lit77 ((mod_grown GR6.out).keep N77C.out (by simp [Value.ownBlock])))); (case hx => first | rfl | simp [Act.eval]); (case hn => simp; omega); (case hbase => first | exact E6.out.size | exact Nat.le_trans E6.out.size (by simp)); intro v7 w7 hown hgrow; obtain ⟨a7, c7, rfl, hf7⟩ := own_any hown; obtain ⟨g7, rfl, hg7, hg8⟩ := hf7 (by simp); have E7 : Hid (Ext w5 w7) := Ext.grown (E6.out.trans (by repeat' (first | exact Ext.refl _ | refine Ext.drew ?_ | refine Ext.alloc ?_ _))) hgrow (fun q hq => (R6.out.lt q hq).1); obtain ⟨m3, m4⟩ := blk (E7.out.keep NB.out); have hc7 := own_cap hown (by simp); have hc8 : pb.length ≤ c7 := (by simp only [List.length_cons, List.length_nil] at hc7; omega); have R7 := Lib.hid hown; clear hown hgrow hf7)
          | fail)
        all_goals (go_wp2; go_meet; exact ⟨rfl, w7, g7, c7, E7.out, R7.out, rfl⟩)
      case rest =>
        obtain ⟨rfl, w7, g7, c7, hE7, hR7, rfl⟩ := hcut
        have NB7 := hE7.keep NB.out
        have m8 := mod_setCell w7 ⟨xb, 2, none⟩ (.slice (some ⟨g7, 0, none⟩) pb.length c7)
        have NB8 := Lib.hid (setB NB7 (i := 2) (.slice (some ⟨g7, 0, none⟩) pb.length c7))
        have hxw : w.heap.size ≤ xb := HXW.out
        have E8 : Hid (Ext w (w7.setCell ⟨xb, 2, none⟩ (.slice (some ⟨g7, 0, none⟩) pb.length c7))) := Ext.setCell (EB.out.trans hE7) (p := ⟨xb, 2, none⟩) hxw _
        have G8 := Lib.hid ((GB.out.ext hE7).box NB7 (by decide) (.inr HGX.out) (i := 2) (.slice (some ⟨g7, 0, none⟩) pb.length c7))
        have Y8 : Hid (ByO (w7.setCell ⟨xb, 2, none⟩ (.slice (some ⟨g7, 0, none⟩) pb.length c7)) (⟨po, pc, pb⟩, some ⟨g7, 0, none⟩, c7)) := by
          obtain ⟨t1, t2, cs, t3⟩ := own_type hR7
          have hbx : g7 ≠ xb := fun e => by
            have t4 : w7.heap[g7]? = some (.cells cs 5) := t3
            rw [e, NB7] at t4
            simp at t4
          have R8 := m8.row hR7 (fun q hq hmem => by cases hq; exact hbx (by simpa using hmem))
          rw [← u8s_append] at R8
          have B8 := BU.of_row (l := pb ++ [77]) (by rw [List.length_append]; exact R8) (fun y hy => (List.mem_append.1 hy).elim (BB.out.u8 y) (fun h => by simp at h; subst h; omega)) (by simp; omega)
          have B9 := B8.front pb.length (by simp)
          rw [List.take_left'] at B9
          · exact ⟨B9, hbl, fun ad e => by cases e; exact ⟨cs, m8.keep t3 (by simpa using hbx)⟩⟩
          · rfl
        clear hE7 hR7 NB7 m8 b3 b4
        generalize w7.setCell ⟨xb, 2, none⟩ (.slice (some ⟨g7, 0, none⟩) pb.length c7) = w8 at *
        obtain ⟨b3, b4⟩ := blk NB8.out
        have PSN : Hid (ys.length ≤ 1099511627776) := by have := HYL.out; show _ ≤ _; omega
        have XQ := (Ext.refl w8).alloc (.cells #[.bool po, .bool pc, .slice (some ⟨g7, 0, none⟩) pb.length c7] 101)
        have GQ := Lib.hid (G8.out.ext XQ)
        have YQ := Lib.hid (Y8.out.ext XQ)
        have NQ : Hid ((w8.alloc (.cells #[.bool po, .bool pc, .slice (some ⟨g7, 0, none⟩) pb.length c7] 101)).heap[w8.heap.size]? = some (.cells #[.bool po, .bool pc, .slice (some ⟨g7, 0, none⟩) pb.length c7] 101)) := newB w8 _ _ rfl
        have EQ8 := Lib.hid (E8.out.trans XQ)
        clear XQ
        go_upto_region 4 with (at_builtin; (refine wpList_append_ps rfl _ _ rfl w.heap.size (.slice ga ys.length gc) ys rfl GQ.out.row ((⟨po, pc, pb⟩ : Psd), some (⟨g7, 0, none⟩ : Addr), c7) w8.heap.size NQ.out rfl PSN.out EQ8.out.size ?_; intro v9 w9 hown hgrow; have G9 := Lib.hid (GQ.out.snoc YQ.out hown hgrow); have E9 := Lib.hid (EQ8.out.grown hgrow (fun q hq => (GQ.out.row.lt q hq).1)); clear hown hgrow))
        go_wp2
        go_roundw
        case rel => exact ⟨k + 1, _, by omega, by go_num, E9.out, G9.out, by rw [List.map_append]; exact YS.out⟩
        case measure => simp [intOf]; omega
    · obtain rfl : k = l.length := by omega
      have Y2 : Hid (ys.map (·.1) = l.map (·.1)) := by have := Y.out; rw [List.take_length] at this; exact this
      have hyl : ys.length = l.length := by have h7 := congrArg List.length Y2.out; simpa using h7
      have HYL := Lib.hid hyl
      clear hyl
      go_wp2_with (first
        | (go_at_call 36; (refine (S36.out wr _ ys G.out Y2.out).mono ?_; rintro e w1 ⟨rfl, hE1⟩; have E1 := Lib.hid hE1; clear hE1))
        | (go_at_call 37; (refine (S37.out _ (E.out.trans E1.out)).mono ?_; rintro e w2 ⟨rfl, hE2⟩; have E2 := Lib.hid (E1.out.trans hE2); clear hE2))
        | (go_at_call 9; (refine (AW.out _ (E.out.trans E2.out)).mono ?_; rintro e w3 ⟨rfl, hE3⟩; have E3 := Lib.hid (E2.out.trans hE3); clear hE3)))
      have EE := Lib.hid (E.out.trans E3.out)
      have GG := Lib.hid (G.out.ext E3.out)
      clear S36 S37 AW E1 E2 E3 E G
      go_loopw [6] (fun i wq => ∃ k : Nat, k ≤ l.length ∧ i = .int .i64 k ∧ Ext w wq ∧ GivAt wq w.heap.size (.slice ga ys.length gc) ys) (fun i _ => l.length - (intOf i).toNat)
      case atStart => exact ⟨0, Nat.zero_le _, rfl, EE.out, GG.out⟩
      case round =>
        obtain ⟨k, hk2, rfl, hE, hG⟩ := hrel
        have E := Lib.hid hE
        have G := Lib.hid hG
        clear hE hG
        by_cases hlt2 : k < l.length
        · obtain ⟨x, hx⟩ : ∃ x, l[k]? = some x := ⟨l[k], by simp [hlt2]⟩
          obtain ⟨y, hy⟩ : ∃ y, ys[k]? = some y := ⟨ys[k]'(by have := HYL.out; omega), by simp [HYL.out, hlt2]⟩
          have hyx : y.1 = x.1 := by
            have h7 := congrArg (fun z => z[k]?) Y2.out
            simpa [hx, hy] using h7
          have PA := Lib.hid (H.out.ext E.out (Nat.le_refl _))
          have PG := Lib.hid G.out.psds
          obtain ⟨g, off, rfl, hg1, hcells⟩ := PA.out.row (by omega)
          obtain ⟨_, _, c2⟩ := hcells k x hx
          obtain ⟨g', off', rfl, hg2, hcells2⟩ := PG.out.row (by have := HYL.out; omega)
          obtain ⟨_, _, d2⟩ := hcells2 k y hy
          have V1 := (PA.out.each x (List.mem_of_getElem? hx)).1
          have V2 := (PG.out.each y (List.mem_of_getElem? hy)).1
          obtain ⟨⟨po, pc, pb⟩, pa, pcap⟩ := x
          obtain ⟨y1, ya, yc⟩ := y
          simp only at hyx
          subst hyx
          simp only at c2 d2 V1 V2
          have X := (Ext.refl wr).drew
          have cv1 := (V1.ext X E.out.size).conv (Nat.le_trans E.out.size X.size)
          have cv2 := (V2.ext X (Nat.le_refl _)).conv X.size
          have i1 : (k : Int) < (l.length : Int) := by omega
          have i2 : (k : Int) < (ys.length : Int) := by have := HYL.out; omega
          have hgl : g < wr.heap.size := by have := E.out.size; omega
          clear hcells hcells2 hx hy V1 V2 X
          generalize strOfNums pb = B0 at *
          go_upto_region 13 with fail
          go_region
          go_wp2
          go_roundw
          case rel => exact ⟨k + 1, by omega, by go_num, E.out.drew, G.out.ext (Ext.refl _).drew⟩
          case measure => simp [intOf]; omega
        · obtain rfl : k = l.length := by omega
          go_wp2
          go_ret
          exact ⟨rfl, E.out⟩
end Go.Proofs.Eff
