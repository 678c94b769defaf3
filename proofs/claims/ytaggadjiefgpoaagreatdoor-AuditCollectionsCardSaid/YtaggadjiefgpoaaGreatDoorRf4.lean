/- The document's Load. -/
import Derived.Test.YtaggadjiefgpoaaGreatDoorRf3
import Derived.Deep.DeepCutAuto
namespace Go.Proofs.Eff
open Go.RowKit

def umk (n : Nat) : Array Value := (List.replicate n (Value.int .u8 0)).toArray
theorem make37 (w : World) (n : Nat) (hn : n ≤ 1048576) : (Instr.makeSlice 37 (.int .i64 (n : Int)) (.int .i64 (n : Int))).run Tryz.prog w = .ok (.slice (some ⟨w.heap.size, 0, none⟩) n n) (w.alloc (.cells (umk n) 5)) := by
  obtain ⟨i0, hi, hz0, hz1, hz3⟩ := info_parts Tryz.cinfo5
  have := run_makeSlice (P := Tryz.prog) w 37 5 i0 (.int .u8 0) Tryz.underlying37 hi hz0 .i64 .i64 n n (by omega) (by omega) (by rw [hz1]; omega) (by rw [hz3]; omega) (by omega)
  rw [this]
  simp only [Int.toNat_natCast, hz1, Nat.mul_one]
  have e : madeCells (Value.int .u8 0).cells n = umk n := by
    have : (Value.int .u8 0).cells = #[Value.int .u8 0] := rfl
    rw [this]
    apply Array.ext
    · simp [madeCells, umk]
    · intro i h1 h2; simp [madeCells, umk, Nat.mod_one]
  rw [e]
theorem umk_list (n : Nat) : (umk n).toList = mark8 (marks n []) := by simp [umk, marks_nil, mark8, b8]

/-- A slice that came in: where its elements can be read. -/
def SlIn (w : World) (ad : Option Addr) (xs : List Value) : Prop := 0 < xs.length → ∃ g off, ad = some ⟨g, off, none⟩ ∧ g < w.heap.size ∧ RRow w ⟨g, off, none⟩ xs
theorem SlIn.keep {a w : World} {ad : Option Addr} {xs : List Value} (h : SlIn a ad xs) (hE : Ext a w) : SlIn w ad xs := fun h0 => by
  obtain ⟨g, off, e1, e2, e3⟩ := h h0
  exact ⟨g, off, e1, Nat.lt_of_lt_of_le e2 hE.size, e3.keep hE e2⟩

/-- The document's heap with its roots. -/
structure RefFull (w : World) (L : HLoc) (h : HeapS) : Prop where
  ref : RefAt w L (.slice (some ⟨L.gr, 0, none⟩) h.roots.length L.cr) h
  rts : w.ownsRow 0 41 1 (.slice (some ⟨L.gr, 0, none⟩) h.roots.length L.cr) h.roots.length (u32s h.roots)
theorem RefFull.keep {a w : World} {L : HLoc} {h : HeapS} (ha : RefFull a L h) (hx : Ext a w) : RefFull w L h := ⟨ha.ref.keep hx, row_keep ha.rts hx⟩

/-- A heap of those words, roots and last serial, where objects begin at those. -/
def stuffH (size : Int) (ws : List Int) (os : List Nat) (rs : List Int) (last : Int) : HeapS := ⟨ws, marks ws.length os, rs, size, last⟩

theorem mark8_set (l : List Bool) (k : Nat) : (mark8 l).set k (.int .u8 1) = mark8 (l.set k true) := by simp [mark8, List.map_set, b8]
theorem RefFull.marked {w : World} {L : HLoc} {size : Int} {ws : List Int} {l : List Nat} {rs : List Int} {last : Int} (ha : RefFull w L (stuffH size ws l rs last)) (k : Nat) : RefFull (w.setCell ⟨L.gs, k, none⟩ (.int .u8 1)) L (stuffH size ws (l ++ [k]) rs last) := by
  obtain ⟨⟨hb, hw, hst⟩, hr⟩ := ha
  obtain ⟨c1, e1, _⟩ := row_block hw
  obtain ⟨c2, e2, _⟩ := row_block hst
  obtain ⟨c3, e3, _⟩ := row_block hr
  have n0 : L.b ≠ L.gs := block_ne hb e2 (by simp)
  have n1 : L.gw ≠ L.gs := block_ne e1 e2 (by simp)
  have n2 : L.gr ≠ L.gs := block_ne e3 e2 (by simp)
  have hm := mod_setCell w ⟨L.gs, k, none⟩ (.int .u8 1)
  refine ⟨⟨?_, ?_, ?_⟩, ?_⟩
  · have := hm.keep hb (by simpa using n0)
    simpa [stuffH, marks_length] using this
  · exact hm.row hw (by intro g hg; cases hg; simpa using n1)
  · have := row_set hst k (.int .u8 1)
    have e : (mark8 (stuffH size ws l rs last).starts).set k (.int .u8 1) = mark8 (stuffH size ws (l ++ [k]) rs last).starts := by
      rw [mark8_set]; simp only [stuffH, marks_set]
    rw [e] at this
    simpa [stuffH, marks_length] using this
  · exact hm.row hr (by intro g hg; cases hg; simpa using n2)

def RLoadR (w : World) (size : Int) (ws rs : List Int) (last : Int) (e : Ending) (w' : World) : Prop :=
  Ext w w' ∧ ((∃ os L, e = .returned (.tuple #[.pointer (some ⟨L.b, 0, none⟩), .int .i64 0]) ∧ RefFull w' L (stuffH size ws os rs last) ∧ WF (stuffH size ws os rs last) os ∧ Sound (stuffH size ws os rs last) os) ∨
    ∃ n : Int, n ≠ 0 ∧ e = .returned (.tuple #[.pointer none, .int .i64 n]))

set_option maxRecDepth 100000 in
set_option maxHeartbeats 1000000 in
theorem RLoad_short {w : World} {size : Int} {ws rs : List Int} {last : Int} {ad1 ad2 : Option Addr} {c1 c2 : Nat} (hl1 : ws.length ≤ 9223372036854775807) (hl2 : rs.length ≤ 9223372036854775807) (hbad : ws.length < 1 ∨ size < (ws.length : Int) ∨ rs.length ≠ 64) :
    Calls Tryz.prog 11 #[.int .i64 size, .slice ad1 ws.length c1, .slice ad2 rs.length c2, .int .u32 last] w (RLoadR w size ws rs last) := by
  have key : ((ws.length : Int) < 1) ∨ (¬ ((ws.length : Int) < 1) ∧ size < (ws.length : Int)) ∨ (¬ ((ws.length : Int) < 1) ∧ ¬ (size < (ws.length : Int)) ∧ ((rs.length : Int) != 64) = true) := by
    by_cases h1 : (ws.length : Int) < 1
    · exact .inl h1
    · by_cases h2 : size < (ws.length : Int)
      · exact .inr (.inl ⟨h1, h2⟩)
      · exact .inr (.inr ⟨h1, h2, by rw [bne_iff_ne]; omega⟩)
  have hb1 : (0 : Int) ≤ (ws.length : Int) := by omega
  have hb2 : (ws.length : Int) ≤ 9223372036854775807 := by omega
  have hb3 : (rs.length : Int) ≤ 9223372036854775807 := by omega
  have PST : Hid (∀ (e : Ending), e = .returned (.tuple #[.pointer none, .int .i64 1]) → RLoadR w size ws rs last e w) := fun e he => ⟨Ext.refl _, .inr ⟨1, by omega, he⟩⟩
  clear hbad hl1 hl2
  generalize ws.length = n at *
  generalize rs.length = m at *
  rcases key with h1 | ⟨h1, h2⟩ | ⟨h1, h2, h3⟩
  · have d1 : decide ((n : Int) < 1) = true := by simpa using h1
    go_enter Tryz.func11, Tryz.ntmps11
    go_wp2
    go_ret2
    exact PST.out _ rfl
  · have d1 : decide ((n : Int) < 1) = false := by simpa using h1
    have d2 : decide (size < (n : Int)) = true := by simpa using h2
    go_enter Tryz.func11, Tryz.ntmps11
    go_wp2
    go_ret2
    exact PST.out _ rfl
  · have d1 : decide ((n : Int) < 1) = false := by simpa using h1
    have d2 : decide (size < (n : Int)) = false := by simpa using h2
    go_enter Tryz.func11, Tryz.ntmps11
    go_wp2
    go_ret2
    exact PST.out _ rfl

set_option maxRecDepth 100000 in
set_option maxHeartbeats 4000000 in
theorem RLoad_long {w : World} {size : Int} {ws rs : List Int} {last : Int} {ga oa gb ob : Nat} {c1 c2 : Nat} (hs0 : 64 ≤ size) (hs1 : size ≤ 1048576) (h1 : 0 < ws.length) (h2 : (ws.length : Int) ≤ size) (h3 : rs.length = 64)
    (hga : ga < w.heap.size) (hra : RRow w ⟨ga, oa, none⟩ (u32s ws)) (hgb : gb < w.heap.size) (hrb : RRow w ⟨gb, ob, none⟩ (u32s rs)) (hw : ∀ x, x ∈ ws → 0 ≤ x ∧ x < 4294967296) (hrw : ∀ x, x ∈ rs → 0 ≤ x ∧ x < 4294967296) (l0 : 0 ≤ last) (l1 : last < 4294967296) :
    Calls Tryz.prog 11 #[.int .i64 size, .slice (some ⟨ga, oa, none⟩) ws.length c1, .slice (some ⟨gb, ob, none⟩) rs.length c2, .int .u32 last] w (RLoadR w size ws rs last) := by
  have d1 : decide ((ws.length : Int) < 1) = false := by simp; omega
  have d2 : decide (size < (ws.length : Int)) = false := by simp; omega
  have d3 : ((rs.length : Int) != 64) = false := by rw [h3]; rfl
  have hbig : ws.length ≤ 1048576 := by omega
  have hmk : ∀ W, (Instr.makeSlice 37 (.int .i64 (ws.length : Int)) (.int .i64 (ws.length : Int))).run Tryz.prog W = .ok (.slice (some ⟨W.heap.size, 0, none⟩) ws.length ws.length) (W.alloc (.cells (umk ws.length) 5)) := fun W => make37 W _ (by omega)
  obtain ⟨i0, hi, hz0, hz1, hz3⟩ := info_parts Tryz.cinfo24
  obtain ⟨j0, hj, hy0, hy1, hy3⟩ := info_parts Tryz.cinfo41
  have H3 := Lib.hid h3
  have RA := Lib.hid hra
  have RB := Lib.hid hrb
  clear h3 hra hrb
  go_enter Tryz.func11, Tryz.ntmps11
  go_upto_region 4 with fail
  have B0 := Lib.hid (newB (w.alloc (.cells (umk ws.length) 5)) (.cells #[.int .i64 size, .slice none 0 0, .slice none 0 0, .int .u32 last, .slice (some ⟨w.heap.size, 0, none⟩) ws.length ws.length] 39) (w.heap.size + 1) (by simp))
  have R0 : Hid (((w.alloc (.cells (umk ws.length) 5)).alloc (.cells #[.int .i64 size, .slice none 0 0, .slice none 0 0, .int .u32 last, .slice (some ⟨w.heap.size, 0, none⟩) ws.length ws.length] 39)).ownsRow 0 5 1 (.slice (some ⟨w.heap.size, 0, none⟩) ws.length ws.length) ws.length (mark8 (marks ws.length []))) := by
    have := World.ownsRow_lit (base := 0) (e := 5) (size := 1) w (umk ws.length) ws.length (Nat.zero_le _) (by unfold maxLen; omega) (by simp [umk])
    rw [umk_list] at this
    exact row_keep this ((Ext.refl _).alloc _)
  have E0 := Lib.hid (((Ext.refl w).alloc (.cells (umk ws.length) 5)).alloc (.cells #[.int .i64 size, .slice none 0 0, .slice none 0 0, .int .u32 last, .slice (some ⟨w.heap.size, 0, none⟩) ws.length ws.length] 39))
  generalize (w.alloc (.cells (umk ws.length) 5)).alloc (.cells #[.int .i64 size, .slice none 0 0, .slice none 0 0, .int .u32 last, .slice (some ⟨w.heap.size, 0, none⟩) ws.length ws.length] 39) = W0 at *
  obtain ⟨bb, hbb⟩ : ∃ n, n = w.heap.size + 1 := ⟨_, rfl⟩
  rw [← hbb] at B0
  try rw [← hbb]
  obtain ⟨st, hst⟩ : ∃ n, n = w.heap.size := ⟨_, rfl⟩
  rw [← hst] at B0 R0
  try rw [← hst]
  have hbb2 : w.heap.size < bb := by omega
  have HST := Lib.hid hst
  clear hbb hst hmk
  have hwl : (u32s ws).length = ws.length := u32s_length ws
  have hrl : (u32s rs).length = rs.length := u32s_length rs
  have HWL := Lib.hid hwl
  have HRL := Lib.hid hrl
  clear hwl hrl
  obtain ⟨b1, b2⟩ := blk B0.out
  have hbw := lt_of_block B0.out
  go_upto_region 5 with (at_builtin; refine wpList_append_own _ rfl _ _ 22 rfl w.heap.size 24 i0 (.int .u32 0) 1 4 Tryz.underlying22 hi hz0 hz1 hz3 rfl (by decide) _ 0 [] rfl (World.ownsRow_nil _ _ _ _) ⟨ga, oa, none⟩ ws.length c1 (u32s ws) rfl (by simp) (RA.out.keep E0.out hga) (u32s_one _) (by unfold maxLen; omega) (by omega) E0.out.size ?_; intro v' w1 hown hgrow hnil; have hv : v' ≠ .slice none 0 0 := (fun hq => by have := (hnil.1 hq).2; omega); obtain ⟨g1, k1, rfl⟩ := own_form hown hv; have hbk := grow_keep hgrow B0.out (by simp [go_sem, Value.ownBlock]); obtain ⟨b3, b4⟩ := blk hbk; have hbw2 := lt_of_block hbk)
  simp only [Nat.zero_add, List.nil_append] at hown
  have E1 : Hid (Ext W0 w1) := (Ext.refl W0).grown hgrow (by intro q hq; simp [go_sem, Value.ownBlock] at hq)
  have hst := HST.out
  have hm1 := mod_setCell w1 ⟨bb, 1, none⟩ (.slice (some ⟨g1, 0, none⟩) ws.length k1)
  have hne1 : g1 ≠ bb := by
    obtain ⟨cur, hcur, _⟩ := row_block hown
    exact block_ne hcur hbk (by simp)
  have hgs : w.heap.size ≤ g1 := (hown.lt g1 rfl).1
  have bqB1 : ((w1.setCell ⟨bb, 1, none⟩ (.slice (some ⟨g1, 0, none⟩) ws.length k1)).heap[bb]? = some (.cells #[.int .i64 size, .slice (some ⟨g1, 0, none⟩) ws.length k1, .slice none 0 0, .int .u32 last, .slice (some ⟨st, 0, none⟩) ws.length ws.length] 39)) := by
    have := setB (i := 1) hbk (.slice (some ⟨g1, 0, none⟩) ws.length k1)
    simpa using this
  have B1 := Lib.hid bqB1
  clear bqB1
  have R1 := Lib.hid (hm1.row (row_keep R0.out E1.out) (by intro g hg; cases hg; simp; omega))
  have O1 := Lib.hid (hm1.row hown (by intro g hg; cases hg; simp; exact hne1))
  have X1 : Hid (Ext w (w1.setCell ⟨bb, 1, none⟩ (.slice (some ⟨g1, 0, none⟩) ws.length k1))) := Ext.setCell (E0.out.trans E1.out) (p := ⟨bb, 1, none⟩) (by simp; omega) _
  clear hown hgrow hnil hv hbk b1 b2 b3 b4 hbw hbw2 hm1 B0 R0 E1
  clear hst
  generalize w1.setCell ⟨bb, 1, none⟩ (.slice (some ⟨g1, 0, none⟩) ws.length k1) = W1 at *
  obtain ⟨b1, b2⟩ := blk B1.out
  have hbw := lt_of_block B1.out

  go_upto_region 6 with (at_builtin; refine wpList_append_own _ rfl _ _ 23 rfl w.heap.size 41 j0 (.int .u32 0) 1 4 Tryz.underlying23 hj hy0 hy1 hy3 rfl (by decide) _ 0 [] rfl (World.ownsRow_nil _ _ _ _) ⟨gb, ob, none⟩ rs.length c2 (u32s rs) rfl (by simp) (RB.out.keep X1.out hgb) (u32s_one _) (by have := H3.out; unfold maxLen; omega) (by have := H3.out; omega) X1.out.size ?_; intro v' w2 hown hgrow hnil; have hv : v' ≠ .slice none 0 0 := (fun hq => by have := (hnil.1 hq).2; have := H3.out; omega); obtain ⟨g2, k2, rfl⟩ := own_form hown hv; have hbk := grow_keep hgrow B1.out (by simp [go_sem, Value.ownBlock]); obtain ⟨b3, b4⟩ := blk hbk; have hbw2 := lt_of_block hbk)
  simp only [Nat.zero_add, List.nil_append] at hown
  have E2 : Hid (Ext W1 w2) := (Ext.refl W1).grown hgrow (by intro q hq; simp [go_sem, Value.ownBlock] at hq)
  have hst := HST.out
  have hm1 := mod_setCell w2 ⟨bb, 2, none⟩ (.slice (some ⟨g2, 0, none⟩) rs.length k2)
  have hne2 : g2 ≠ bb := by
    obtain ⟨cur, hcur, _⟩ := row_block hown
    exact block_ne hcur hbk (by simp)
  have hgr : w.heap.size ≤ g2 := (hown.lt g2 rfl).1
  have bqB2 : ((w2.setCell ⟨bb, 2, none⟩ (.slice (some ⟨g2, 0, none⟩) rs.length k2)).heap[bb]? = some (.cells #[.int .i64 size, .slice (some ⟨g1, 0, none⟩) ws.length k1, .slice (some ⟨g2, 0, none⟩) rs.length k2, .int .u32 last, .slice (some ⟨st, 0, none⟩) ws.length ws.length] 39)) := by
    have := setB (i := 2) hbk (.slice (some ⟨g2, 0, none⟩) rs.length k2)
    simpa using this
  have B2 := Lib.hid bqB2
  clear bqB2
  have R2 := Lib.hid (hm1.row (row_keep R1.out E2.out) (by intro g hg; cases hg; simp; omega))
  have O2 := Lib.hid (hm1.row (row_keep O1.out E2.out) (by intro g hg; cases hg; simp; exact hne1))
  have P2 := Lib.hid (hm1.row hown (by intro g hg; cases hg; simp; exact hne2))
  have X2 : Hid (Ext w (w2.setCell ⟨bb, 2, none⟩ (.slice (some ⟨g2, 0, none⟩) rs.length k2))) := Ext.setCell (X1.out.trans E2.out) (p := ⟨bb, 2, none⟩) (by simp; omega) _
  clear hown hgrow hnil hv hbk b1 b2 b3 b4 hbw hbw2 hm1 B1 R1 O1 X1 E2 hst
  generalize w2.setCell ⟨bb, 2, none⟩ (.slice (some ⟨g2, 0, none⟩) rs.length k2) = W2 at *
  have F0 : Hid (RefFull W2 ⟨bb, g1, k1, st, ws.length, g2, k2⟩ (stuffH size ws [] rs last)) := by
    refine ⟨⟨?_, ?_, ?_⟩, ?_⟩
    · have := B2.out; simpa [stuffH, marks_length] using this
    · exact row_zero O2.out
    · have := R2.out; simpa [stuffH, marks_length] using this
    · exact row_zero P2.out
  clear B2 R2 O2 P2
  have hwd : ∀ j, 0 ≤ wd ws j ∧ wd ws j < 4294967296 := by
    intro j
    unfold wd
    by_cases hj : j < ws.length
    · simp only [List.getElem?_eq_getElem hj, Option.getD_some]; exact hw _ (List.getElem_mem hj)
    · simp only [List.getElem?_eq_none (Nat.le_of_not_lt hj), Option.getD_none]; omega
  have HWD := Lib.hid hwd
  have CELL : Hid (∀ W, Ext w W → ∀ j, j < ws.length → W.cell? ⟨ga, oa + j, none⟩ = some (.int .u32 (wd ws j))) := by
    intro W hE j hj
    have := rrow_cell (RA.out.keep hE hga) j (by simpa using hj)
    rw [this]; simp [u32s, wd, hj]
  have PBAD : Hid (∀ (e : Ending) (W : World) (n : Int), Ext w W → e = .returned (.tuple #[.pointer none, .int .i64 20]) → RLoadR w size ws rs last e W) := fun e W n hE he => ⟨hE, .inr ⟨20, by omega, he⟩⟩
  have HWR := Lib.hid hw
  have HRR := Lib.hid hrw
  have c0 := CELL.out W2 X2.out 0 h1
  rw [Nat.add_zero] at c0
  have hwl2 : (0 : Int) < (ws.length : Int) := by omega
  clear hwd hw hrw
  by_cases h00 : wd ws 0 = 0
  · rw [h00] at c0
    have H00 := Lib.hid h00
    clear h00
    go_wp2
    clear c0
    go_loopw [11] (fun i wr => ∃ (k : Nat) (l : List Nat), i = .int .i64 k ∧ LaidTo ws 1 l k ∧ k ≤ ws.length ∧ RefFull wr ⟨bb, g1, k1, st, ws.length, g2, k2⟩ (stuffH size ws l rs last) ∧ Ext w wr) (fun i _ => ws.length - (intOf i).toNat)
    case atStart => exact ⟨1, [], rfl, rfl, h1, F0.out, X2.out⟩
    case round =>
      obtain ⟨k, l, rfl, hlt, hkk, hfr, her⟩ := hrel
      have HLT := Lib.hid hlt
      have FR := Lib.hid hfr
      have ER := Lib.hid her
      clear hlt hfr her
      by_cases hk1 : k < ws.length
      · by_cases hk3 : k + 3 ≤ ws.length
        · have K0 := Lib.hid (CELL.out wr ER.out k hk1)
          have K1 := Lib.hid (CELL.out wr ER.out (k + 1) (by omega))
          have K2 := Lib.hid (CELL.out wr ER.out (k + 2) (by omega))
          have hgw : ga < wr.heap.size := Nat.lt_of_lt_of_le hga ER.out.size
          have HU : Hid (∃ (A B C c s : Int) (okb : Bool), (∀ W, Calls Tryz.prog 45 #[.agg #[.int .u32 (wd ws k), .int .u32 (wd ws (k + 1)), .int .u32 (wd ws (k + 2))]] W fun e w' => e = .returned (.tuple #[.agg #[.int .i64 A, .int .i64 B, .int .i64 C, .int .u32 c, .int .u32 s], .bool okb]) ∧ Ext W w') ∧ (okb = true → A = (sizeAt ws k : Int)) ∧ 0 ≤ A ∧ A ≤ 65535 ∧ (okb = true → okW (wd ws k) = true)) := by
            cases hok : okW (wd ws k) with
            | true =>
              have hb := mayB_bounds (okW_may (wd ws (k + 1)) (wd ws (k + 2)) hok)
              have hz : (hdrOf (wd ws k) (wd ws (k + 1)) (wd ws (k + 2))).size = sizeAt ws k := by have := HWD.out k; simp [hdrOf, sizeAt]; omega
              exact ⟨_, _, _, _, _, true, fun W => unpack45_ok _ _ _ W (HWD.out k).1 (HWD.out k).2 hok, fun _ => hz, hb.1, hb.2.1, fun _ => rfl⟩
            | false => exact ⟨0, 0, 0, 0, 0, false, fun W => unpack45_bad _ _ _ W (HWD.out k).1 (HWD.out k).2 hok, fun hq => by (cases hq), by omega, by omega, fun hq => by (cases hq)⟩
          obtain ⟨A, B, C, c, s, okb, hu, hsz, ha0, ha1, hokk⟩ := HU.out
          have HUU := Lib.hid hu
          have HSZ := Lib.hid hsz
          have OKK := Lib.hid hokk
          clear HU hu hsz hokk
          have q0 : (k : Int) + 3 ≤ (ws.length : Int) := by omega
          have q1 : (k : Int) < (ws.length : Int) := by omega
          have q2 : (k : Int) + 1 < (ws.length : Int) := by omega
          have q3 : (k : Int) + 2 < (ws.length : Int) := by omega
          have q5 : (0 : Int) ≤ (k : Int) + 1 := by omega
          have q6 : (0 : Int) ≤ (k : Int) + 2 := by omega
          have v1 : IntKind.i64.wrap ((k : Int) + 1) = (k : Int) + 1 := by rw [IntKind.wrap_i64]; omega
          have v2 : IntKind.i64.wrap ((k : Int) + 2) = (k : Int) + 2 := by rw [IntKind.wrap_i64]; omega
          have q7 : ((k : Int) + 1).toNat = k + 1 := by omega
          have q8 : ((k : Int) + 2).toNat = k + 2 := by omega
          generalize wd ws (k + 1) = x1 at *
          generalize wd ws (k + 2) = x2 at *
          obtain ⟨x0, hx0⟩ : ∃ x, x = wd ws k := ⟨_, rfl⟩
          rw [← hx0] at K0 HUU
          clear hx0
          have KE : Hid (∀ W, Ext wr W → (W.cell? ⟨ga, oa + k, none⟩ = some (.int .u32 x0) ∧ W.cell? ⟨ga, oa + (k + 1), none⟩ = some (.int .u32 x1) ∧ W.cell? ⟨ga, oa + (k + 2), none⟩ = some (.int .u32 x2)) ∧ Ext wr W) := by
            intro W hE
            refine ⟨⟨?_, ?_, ?_⟩, hE⟩
            · rw [hE.cell (p := ⟨ga, oa + k, none⟩) hgw]; exact K0.out
            · rw [hE.cell (p := ⟨ga, oa + (k + 1), none⟩) hgw]; exact K1.out
            · rw [hE.cell (p := ⟨ga, oa + (k + 2), none⟩) hgw]; exact K2.out
          go_wp2
          go_region_held3 (fun w' => (w'.cell? ⟨ga, oa + k, none⟩ = some (.int .u32 x0) ∧ w'.cell? ⟨ga, oa + (k + 1), none⟩ = some (.int .u32 x1) ∧ w'.cell? ⟨ga, oa + (k + 2), none⟩ = some (.int .u32 x2)) ∧ Ext wr w') (first | with_reducible exact KE.out _ (Ext.refl wr).drew | with_reducible exact KE.out _ ((Ext.refl wr).alloc hdr0).drew | with_reducible exact KE.out _ ((Ext.refl wr).drew.trans hb) | with_reducible exact KE.out _ (((Ext.refl wr).alloc hdr0).drew.trans hb) | with_reducible exact KE.out _ (((Ext.refl wr).drew.trans hb).alloc hdr0) | with_reducible exact KE.out _ (((Ext.refl wr).drew.trans hb).alloc (Obj.cells #[.int .i64 A, .int .i64 B, .int .i64 C, .int .u32 c, .int .u32 s] 65)) | with_reducible exact KE.out _ (ext_set5 (((Ext.refl wr).alloc hdr0).drew.trans hb) (Nat.le_refl _) (.int .i64 A) (.int .i64 B) (.int .i64 C) (.int .u32 c) (.int .u32 s)))
            ((go_at_call 45; refine (HUU.out _).mono ?_; rintro e w' ⟨rfl, hb⟩; (first | (obtain ⟨t0, t1, t2, t3, t4, t5⟩ := box5 (hb.keep (show (wr.alloc _).drew.heap[wr.heap.size]? = some _ from newB wr _ _ rfl))) | skip)))
          · obtain ⟨W9, hW9⟩ : ∃ W, W = w'.alloc (Obj.cells #[.int .i64 A, .int .i64 B, .int .i64 C, .int .u32 c, .int .u32 s] 65) := ⟨_, rfl⟩
            rw [← hW9]
            have X9 : Ext wr W9 ∧ W9.heap[w'.heap.size]? = some (Obj.cells #[.int .i64 A, .int .i64 B, .int .i64 C, .int .u32 c, .int .u32 s] 65) := by
              rw [hW9]; exact ⟨((Ext.refl wr).drew.trans hb).alloc _, newB _ _ _ rfl⟩
            clear hW9 hb
            obtain ⟨x1, x2⟩ := X9
            generalize w'.heap.size = n9 at *
            have A9 := Lib.hid (FR.out.keep x1)
            have X9 := Lib.hid (ER.out.trans x1)
            obtain ⟨n1, n2⟩ := blk A9.out.ref.blk
            simp only [stuffH, marks_length] at n1
            have n3 := A9.out.ref.start k (by show k < (marks _ _).length; rw [marks_length]; exact hk1)
            have n4 := row_free A9.out.ref.starts k
            have n5 := row_lt A9.out.ref.starts
            have n6 : bb < W9.heap.size := lt_of_block A9.out.ref.blk
            simp only at n3 n4 n5
            generalize b8 (bd (stuffH size ws l rs last).starts k) = yy at *
            obtain ⟨f1, f2⟩ := blk x2
            have hn9 : n9 ≠ st := by
              obtain ⟨cur, hcur, _⟩ := row_block A9.out.ref.starts
              exact block_ne x2 hcur (by simp)
            have hn8 : st ≠ n9 := hn9.symm
            clear x1 x2
            cases okb with
            | false =>
              go_wp2
              go_ret2
              exact PBAD.out _ _ 0 X9.out rfl
            | true =>
              obtain rfl := HSZ.out rfl
              by_cases hfit : k + 3 + sizeAt ws k ≤ ws.length
              · have hfi : decide ((ws.length : Int) < (k : Int) + 3 + (sizeAt ws k : Int)) = false := by simp; omega
                have M9 := Lib.hid (A9.out.marked k)
                have Y9 : Hid (Ext w (W9.setCell ⟨st, k, none⟩ (.int .u8 1))) := Ext.setCell X9.out (p := ⟨st, k, none⟩) (Nat.le_of_eq HST.out.symm) _
                have SN := Lib.hid (HLT.out.snoc hk3 (OKK.out rfl))
                generalize sizeAt ws k = S at *
                go_wp2
                go_roundw
                case rel => exact ⟨k + 3 + S, l ++ [k], by go_num, SN.out, by omega, M9.out, Y9.out⟩
                case measure => simp [intOf]; omega
              · have hfi : decide ((ws.length : Int) < (k : Int) + 3 + (sizeAt ws k : Int)) = true := by simp; omega
                generalize sizeAt ws k = S at *
                go_wp2
                go_ret2
                exact PBAD.out _ _ 0 X9.out rfl
          · obtain ⟨W9, hW9⟩ : ∃ W, W = ((((w'.setCell ⟨wr.heap.size, 0, none⟩ (.int .i64 A)).setCell ⟨wr.heap.size, 1, none⟩ (.int .i64 B)).setCell ⟨wr.heap.size, 2, none⟩ (.int .i64 C)).setCell ⟨wr.heap.size, 3, none⟩ (.int .u32 c)).setCell ⟨wr.heap.size, 4, none⟩ (.int .u32 s) := ⟨_, rfl⟩
            rw [← hW9]
            have X9 : Ext wr W9 ∧ W9.heap[wr.heap.size]? = some (Obj.cells #[.int .i64 A, .int .i64 B, .int .i64 C, .int .u32 c, .int .u32 s] 65) := by
              rw [hW9]; exact ⟨ext_set5 (((Ext.refl wr).alloc hdr0).drew.trans hb) (Nat.le_refl _) _ _ _ _ _, box_set5 (hb.keep (show (wr.alloc _).drew.heap[wr.heap.size]? = some _ from newB wr _ _ rfl)) _ _ _ _ _⟩
            clear hW9 hb t0 t1 t2 t3 t4 t5
            obtain ⟨x1, x2⟩ := X9
            generalize wr.heap.size = n9 at *
            have A9 := Lib.hid (FR.out.keep x1)
            have X9 := Lib.hid (ER.out.trans x1)
            obtain ⟨n1, n2⟩ := blk A9.out.ref.blk
            simp only [stuffH, marks_length] at n1
            have n3 := A9.out.ref.start k (by show k < (marks _ _).length; rw [marks_length]; exact hk1)
            have n4 := row_free A9.out.ref.starts k
            have n5 := row_lt A9.out.ref.starts
            have n6 : bb < W9.heap.size := lt_of_block A9.out.ref.blk
            simp only at n3 n4 n5
            generalize b8 (bd (stuffH size ws l rs last).starts k) = yy at *
            obtain ⟨f1, f2⟩ := blk x2
            have hn9 : n9 ≠ st := by
              obtain ⟨cur, hcur, _⟩ := row_block A9.out.ref.starts
              exact block_ne x2 hcur (by simp)
            have hn8 : st ≠ n9 := hn9.symm
            clear x1 x2
            cases okb with
            | false =>
              go_wp2
              go_ret2
              exact PBAD.out _ _ 0 X9.out rfl
            | true =>
              obtain rfl := HSZ.out rfl
              by_cases hfit : k + 3 + sizeAt ws k ≤ ws.length
              · have hfi : decide ((ws.length : Int) < (k : Int) + 3 + (sizeAt ws k : Int)) = false := by simp; omega
                have M9 := Lib.hid (A9.out.marked k)
                have Y9 : Hid (Ext w (W9.setCell ⟨st, k, none⟩ (.int .u8 1))) := Ext.setCell X9.out (p := ⟨st, k, none⟩) (Nat.le_of_eq HST.out.symm) _
                have SN := Lib.hid (HLT.out.snoc hk3 (OKK.out rfl))
                generalize sizeAt ws k = S at *
                go_wp2
                go_roundw
                case rel => exact ⟨k + 3 + S, l ++ [k], by go_num, SN.out, by omega, M9.out, Y9.out⟩
                case measure => simp [intOf]; omega
              · have hfi : decide ((ws.length : Int) < (k : Int) + 3 + (sizeAt ws k : Int)) = true := by simp; omega
                generalize sizeAt ws k = S at *
                go_wp2
                go_ret2
                exact PBAD.out _ _ 0 X9.out rfl
        · have hg : decide ((ws.length : Int) < (k : Int) + 3) = true := by simp; omega
          go_wp2
          go_ret2
          exact PBAD.out _ _ 0 ER.out rfl
      · have hke : k = ws.length := by omega
        have LD := Lib.hid (LaidTo.laid (hke ▸ HLT.out))
        have wfx : WF (stuffH size ws l rs last) l := ⟨h1, H00.out, HWR.out, LD.out, rfl, H3.out, HRR.out, hs0, hs1, h2, l0, l1⟩
        have KP := Lib.hid (keeps46 FR.out.ref FR.out.rts wfx)
        have SBI := Lib.hid (soundB_iff wfx)
        have WFX := Lib.hid wfx
        clear wfx hke
        simp only at KP
        cases hsb : soundB (stuffH size ws l rs last) l with
        | true =>
          rw [hsb] at KP
          have SO := Lib.hid (SBI.out.1 hsb)
          clear hsb
          go_wp2_with (go_at_call 46; refine KP.out.mono ?_; rintro e W5 ⟨rfl, hE5⟩; have E5 := Lib.hid hE5; clear hE5)
          go_ret2
          exact ⟨ER.out.trans E5.out, .inl ⟨l, ⟨bb, g1, k1, st, ws.length, g2, k2⟩, rfl, FR.out.keep E5.out, WFX.out, SO.out⟩⟩
        | false =>
          rw [hsb] at KP
          clear hsb
          go_wp2_with (go_at_call 46; refine KP.out.mono ?_; rintro e W5 ⟨rfl, hE5⟩; have E5 := Lib.hid hE5; clear hE5)
          go_ret2
          exact PBAD.out _ _ 0 (ER.out.trans E5.out) rfl
  · have hne : (wd ws 0 != 0) = true := by rw [bne_iff_ne]; exact h00
    generalize wd ws 0 = x at *
    clear h00
    go_wp2
    go_ret2
    exact PBAD.out _ _ 0 X2.out rfl

end Go.Proofs.Eff
