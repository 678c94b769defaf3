/- The document's Collect: the walk. -/
import Derived.Test.YtaggadjiefgpoaaGreatDoorKa1
namespace Go.Proofs.Eff
open Go.RowKit

def zmk (n : Nat) : Array Value := (List.replicate n (Value.int .u32 0)).toArray
theorem make23 (w : World) (n : Nat) (hn : n ≤ 1048577) : (Instr.makeSlice 23 (.int .i64 (n : Int)) (.int .i64 (n : Int))).run Tryz.prog w = .ok (.slice (some ⟨w.heap.size, 0, none⟩) n n) (w.alloc (.cells (zmk n) 41)) := by
  obtain ⟨i0, hi, hz0, hz1, hz3⟩ := info_parts Tryz.cinfo41
  have := run_makeSlice (P := Tryz.prog) w 23 41 i0 (.int .u32 0) Tryz.underlying23 hi hz0 .i64 .i64 n n (by omega) (by omega) (by rw [hz1]; omega) (by rw [hz3]; omega) (by omega)
  rw [this]
  simp only [Int.toNat_natCast, hz1, Nat.mul_one]
  have e : madeCells (Value.int .u32 0).cells n = zmk n := by
    have : (Value.int .u32 0).cells = #[Value.int .u32 0] := rfl
    rw [this]
    apply Array.ext
    · simp [madeCells, zmk]
    · intro i h1 h2; simp [madeCells, zmk, Nat.mod_one]
  rw [e]
theorem zmk_tab (n : Nat) : (zmk n).toList = u32s (tabOf n []) := by simp [zmk, tabOf_nil, u32s]
theorem Mod.grownS {S : List Nat} {a w w' : World} {row : Option Nat} (hM : Mod S a w) (hg : w.grownBy w' row) (hr : ∀ q, row = some q → q ∈ S ∨ a.heap.size ≤ q) : Mod S a w' :=
  ⟨hg.os.trans hM.os, hg.tape.trans hM.tape, hg.output.trans hM.output, Nat.le_trans hM.size hg.size, fun k hk hn => (hg.block k (Nat.lt_of_lt_of_le hk hM.size) (fun he => by
    rcases hr k he.symm with h1 | h1
    · exact hn h1
    · omega)).trans (hM.block k hk hn)⟩
theorem Mod.transNew {S S' : List Nat} {a w w' : World} (hM : Mod S a w) (h2 : Mod S' w w') (hs : ∀ x, x ∈ S' → x ∈ S ∨ a.heap.size ≤ x) : Mod S a w' :=
  ⟨h2.os.trans hM.os, h2.tape.trans hM.tape, h2.output.trans hM.output, Nat.le_trans hM.size h2.size, fun k hk hn => (h2.block k (Nat.lt_of_lt_of_le hk hM.size) (fun he => by
    rcases hs k he with h1 | h1
    · exact hn h1
    · omega)).trans (hM.block k hk hn)⟩
/-- What was counted. -/
abbrev cnt (v0 v1 v2 v3 v4 : Int) : Obj := .cells #[.int .i64 v0, .int .i64 v1, .int .i64 v2, .int .i64 v3, .int .i64 v4] 35

/-- A new store with those words and roots. -/
def StoreR (w : World) (ws rs : List Int) (e : Ending) (w' : World) : Prop :=
  ∃ g c g2 c2, ∃ n0 n1 n2 n3 n4 : Int, e = .returned (.tuple #[.agg #[.slice (some ⟨g, 0, none⟩) ws.length c, .slice (some ⟨g2, 0, none⟩) rs.length c2], .agg #[.int .i64 n0, .int .i64 n1, .int .i64 n2, .int .i64 n3, .int .i64 n4]]) ∧ w'.ownsRow w.heap.size 24 1 (.slice (some ⟨g, 0, none⟩) ws.length c) ws.length (u32s ws) ∧ w'.ownsRow w.heap.size 41 1 (.slice (some ⟨g2, 0, none⟩) rs.length c2) rs.length (u32s rs) ∧ Ext w w'

theorem slice_obj (w : World) (g len cap n S : Nat) (h : n + 3 + S ≤ cap) :
    (Instr.slice 22 (.slice (some ⟨g, 0, none⟩) len cap) (some (.int .i64 (n : Int))) (some (.int .i64 ((n : Int) + 3 + (S : Int)))) none).run Tryz.prog w = .ok (.slice (some ⟨g, sOff 0 cap n, none⟩) (3 + S) (cap - n)) w := by
  rw [run_slice_sub w 22 24 Tryz.underlying22 size22 g 0 len cap _ _ (by omega) (by omega) (by omega)]
  rw [show ((n : Int)).toNat = n by omega, show ((n : Int) + 3 + (S : Int)).toNat - n = 3 + S by omega]
theorem obj_read {w : World} {L : HLoc} {h : HeapS} (s : StAt w L h) {a : Nat} (hfit : a + 3 + sizeAt h.words a ≤ h.words.length) : RRow w ⟨L.gw, sOff 0 L.cw a, none⟩ (u32s ((h.words.drop a).take (3 + sizeAt h.words a))) := by
  have hc := (row_max s.words).1
  have e0 : sOff 0 L.cw a = a := by unfold sOff; split <;> omega
  rw [e0]
  intro j u hj
  have hl : ((h.words.drop a).take (3 + sizeAt h.words a)).length = 3 + sizeAt h.words a := by simp; omega
  have hjl : j < 3 + sizeAt h.words a := by
    have := (List.getElem?_eq_some_iff.1 hj).1
    simp only [u32s_length, hl] at this; exact this
  have e : (⟨L.gw, a, none⟩ : Addr).add j = ⟨L.gw, a + j, none⟩ := by unfold Addr.add; split <;> simp_all
  rw [e, s.word (a + j) (by omega)]
  simp only [u32s, List.getElem?_map, List.getElem?_take, hjl, if_true, List.getElem?_drop] at hj
  rw [← hj]
  simp [wd, show a + j < h.words.length by omega]

section
variable {w : World} {L : HLoc} {h : HeapS} {os : List Nat}

set_option maxRecDepth 100000 in
set_option maxHeartbeats 8000000 in
theorem Collect10 (s : StAt w L h) (wf : WF h os) (hso : Sound h os) : Calls Tryz.prog 10 #[stV L h] w (StoreR w (wordsC h os) (rootsC h os)) := by
  have hbig := wf.big
  have hlv := live_valid wf hso
  obtain ⟨i0, hi, hz0, hz1, hz3⟩ := info_parts Tryz.cinfo41
  obtain ⟨j0, hj, hy0, hy1, hy3⟩ := info_parts Tryz.cinfo24
  have hrl := wf.rlen
  have HRL := Lib.hid hrl
  have hr64 : h.roots.length ≤ 64 := by omega
  have hr64i : (h.roots.length : Int) ≤ 64 := by omega
  have RVX := Lib.hid (roots_valid wf hso)
  clear hrl
  have HOS := Lib.hid (reach_le wf)
  have ST := Lib.hid s
  have WFX := Lib.hid wf
  have SO := Lib.hid hso
  have PLC := Lib.hid (fun W (hE : Ext w W) => Plan39 (s.keep hE) wf hso)
  have OB := Lib.hid (fun W (hE : Ext w W) => objects40 (s.keep hE) wf)
  have hmk : ∀ W, (Instr.makeSlice 23 (.int .i64 ((h.words.length : Int) + 1)) (.int .i64 ((h.words.length : Int) + 1))).run Tryz.prog W = .ok (.slice (some ⟨W.heap.size, 0, none⟩) (h.words.length + 1) (h.words.length + 1)) (W.alloc (.cells (zmk (h.words.length + 1)) 41)) := fun W => make23 W (h.words.length + 1) (by omega)
  have PL1 : Hid ((planOf h os).map (·.1) = liveOf h os) := plan_fst _ _ _
  have hpl : (planOf h os).length = (liveOf h os).length := planFrom_length _ _ _
  have hpl2 : (planOf h os).length ≤ 1048576 := by have := HOS.out; omega
  unfold stV at *
  have B0 := Lib.hid (keepB (keepB (newB w (.cells #[.slice (some ⟨L.gw, 0, none⟩) h.words.length L.cw, .slice (some ⟨L.gr, 0, none⟩) h.roots.length L.cr] 33) _ rfl) (.cells #[.slice none 0 0, .slice none 0 0] 33)) (cnt 0 0 0 0 0))
  have RB0 := Lib.hid (keepB (newB (w.alloc (.cells #[.slice (some ⟨L.gw, 0, none⟩) h.words.length L.cw, .slice (some ⟨L.gr, 0, none⟩) h.roots.length L.cr] 33)) (.cells #[.slice none 0 0, .slice none 0 0] 33) (w.heap.size + 1) (by simp)) (cnt 0 0 0 0 0))
  have CB0 := Lib.hid (newB ((w.alloc (.cells #[.slice (some ⟨L.gw, 0, none⟩) h.words.length L.cw, .slice (some ⟨L.gr, 0, none⟩) h.roots.length L.cr] 33)).alloc (.cells #[.slice none 0 0, .slice none 0 0] 33)) (cnt 0 0 0 0 0) (w.heap.size + 1 + 1) (by simp))
  have E0 := Lib.hid ((((Ext.refl w).alloc (.cells #[.slice (some ⟨L.gw, 0, none⟩) h.words.length L.cw, .slice (some ⟨L.gr, 0, none⟩) h.roots.length L.cr] 33)).alloc (.cells #[.slice none 0 0, .slice none 0 0] 33)).alloc (cnt 0 0 0 0 0))
  clear s wf hso hlv hpl
  go_enter Tryz.func10, Tryz.ntmps10
  go_upto_region 1 with fail
  generalize ((w.alloc (.cells #[.slice (some ⟨L.gw, 0, none⟩) h.words.length L.cw, .slice (some ⟨L.gr, 0, none⟩) h.roots.length L.cr] 33)).alloc (.cells #[.slice none 0 0, .slice none 0 0] 33)).alloc (cnt 0 0 0 0 0) = W0 at *
  obtain ⟨bb, hbb⟩ : ∃ n, n = w.heap.size := ⟨_, rfl⟩
  obtain ⟨rb, hrb⟩ : ∃ n, n = w.heap.size + 1 := ⟨_, rfl⟩
  obtain ⟨cb0, hcb⟩ : ∃ n, n = w.heap.size + 1 + 1 := ⟨_, rfl⟩
  rw [← hcb] at CB0 ⊢
  rw [← hrb] at RB0 ⊢
  rw [← hbb] at B0 ⊢
  have hle1 : w.heap.size ≤ bb := by omega
  have hle2 : w.heap.size ≤ rb := by omega
  have hle3 : w.heap.size ≤ cb0 := by omega
  have hne1 : bb ≠ rb := by omega
  clear hbb hrb hcb
  obtain ⟨b1, b2⟩ := blk B0.out
  go_wp2_with (first | (go_at_call 39; refine (PLC.out _ E0.out).mono ?_; rintro e w1 ⟨v1, rfl, hrow1, hE1⟩; obtain ⟨la, lc, rfl, hla⟩ := own_any hrow1; have P1 := Lib.hid hrow1; have E01 := Lib.hid hE1; have E1 := Lib.hid (E0.out.trans hE1); have HLA := Lib.hid hla; obtain ⟨b3, b4⟩ := blk (hE1.keep B0.out); have hbw1 := lt_of_block (hE1.keep B0.out); clear hrow1 hE1 hla b1 b2) | (go_at_call 40; refine (OB.out _ (E1.out.alloc _)).mono ?_; rintro e w2 ⟨v2, rfl, hrow2, hE2⟩; obtain ⟨oa, oc, rfl, hoa⟩ := own_any hrow2; have E12 := Lib.hid hE2; clear hrow2 hE2 hoa))
  have T3 : Hid ((w2.alloc (cnt (planOf h os).length (wrap64 (os.length - (planOf h os).length)) 0 0 0)).ownsRow w.heap.size 41 1 (.slice (some ⟨w1.heap.size, 0, none⟩) (h.words.length + 1) (h.words.length + 1)) (h.words.length + 1) (u32s (tabOf (h.words.length + 1) []))) := by
    have := World.ownsRow_lit (base := w.heap.size) (e := 41) (size := 1) w1 (zmk (h.words.length + 1)) (h.words.length + 1) E1.out.size (by unfold maxLen; omega) (by simp [zmk])
    rw [zmk_tab] at this
    exact row_keep this (E12.out.alloc _)
  have X13 : Ext w1 (w2.alloc (cnt (planOf h os).length (wrap64 (os.length - (planOf h os).length)) 0 0 0)) := (((Ext.refl w1).alloc _).trans E12.out).alloc _
  have P3 := Lib.hid (row_keep (row_mono P1.out E0.out.size) X13)
  have B3 := Lib.hid (X13.keep (E01.out.keep B0.out))
  have RB3 := Lib.hid (X13.keep (E01.out.keep RB0.out))
  have CB3 := Lib.hid (X13.keep (E01.out.keep CB0.out))
  have C3 := Lib.hid (newB w2 (cnt (planOf h os).length (wrap64 (os.length - (planOf h os).length)) 0 0 0) _ rfl)
  have E3 := Lib.hid (E1.out.trans X13)
  have hgt : w.heap.size ≤ w1.heap.size := E1.out.size
  have hcbs : w1.heap.size < w2.heap.size := by have := E12.out.size; simp at this; omega
  have hcb0 : cb0 < w1.heap.size := lt_of_block (E01.out.keep CB0.out)
  have hp3 := HLA.out
  have HL3 : Hid (0 < (planOf h os).length → ∃ g, la = some ⟨g, 0, none⟩) := fun h0 => by obtain ⟨g, hg, _⟩ := hp3 h0; exact ⟨g, hg⟩
  generalize w2.alloc (cnt (planOf h os).length (wrap64 (os.length - (planOf h os).length)) 0 0 0) = W3 at *
  generalize wrap64 (os.length - (planOf h os).length) = z1 at *
  generalize w1.heap.size = gt at *
  generalize w2.heap.size = cb at *
  clear X13 P1 E01 E1 HLA b3 b4 hbw1 E12 hmk hp3 B0 RB0 CB0 E0
  obtain ⟨pl, hpl⟩ : ∃ pl, pl = planOf h os := ⟨_, rfl⟩
  have PLX : Hid (∀ k, (hk : k < pl.length) → ∃ a : Nat, pl[k].1 = 2 * (a : Int) ∧ a < h.words.length ∧ 2 * (a : Int) ∈ liveOf h os ∧ a ∈ os) := by
    intro k hk
    have h1 : pl[k].1 ∈ liveOf h os := by
      have h2 := PL1.out
      rw [← hpl] at h2
      rw [← h2]
      exact List.mem_map.2 ⟨pl[k], List.getElem_mem hk, rfl⟩
    have hv := (live_valid WFX.out SO.out).2.1 _ h1
    have h2 := WFX.out.isO_lt hv.1
    have h3 := WFX.out.mem h2.2
    have h4 : pl[k].1 = 2 * ((pl[k].1 / 2).toNat : Int) := by have := h2.1; simp [isObj] at this; have := hv.2.1; omega
    exact ⟨(pl[k].1 / 2).toNat, h4, by omega, by rw [← h4]; exact h1, h2.2⟩
  have PND : Hid ((pl.map (·.1)).Nodup) := by
    show (pl.map (·.1)).Nodup
    rw [hpl, PL1.out]; exact (live_valid WFX.out SO.out).1
  rw [← hpl] at P3 C3 HL3 hpl2 ⊢
  have HPL := Lib.hid hpl
  clear hpl PL1
  have hpli : (pl.length : Int) ≤ 1048576 := by omega
  have NPG : Hid (∀ g, (Value.slice la pl.length lc).ownBlock = some g → g ≠ gt ∧ g ≠ cb) := fun g hg => by
    obtain ⟨cur, hcur, _⟩ := row_block T3.out
    exact ⟨fun he => own_ne P3.out hcur (by decide) (by rw [hg, he]), fun he => own_ne P3.out C3.out (by decide) (by rw [hg, he])⟩
  have N1 : Hid (bb ≠ gt ∧ bb ≠ cb ∧ rb ≠ gt ∧ rb ≠ cb ∧ cb0 ≠ gt ∧ cb0 ≠ cb) := by
    obtain ⟨cur, hcur, _⟩ := row_block T3.out
    exact ⟨block_ne B3.out hcur (by simp), block_ne B3.out C3.out (by simp), block_ne RB3.out hcur (by simp), block_ne RB3.out C3.out (by simp), by omega, by omega⟩
  go_loopw [40] (fun i wr => ∃ (k : Nat) (v3 : Int), k ≤ pl.length ∧ i = .int .i64 k ∧ wr.ownsRow w.heap.size 41 1 (.slice (some ⟨gt, 0, none⟩) (h.words.length + 1) (h.words.length + 1)) (h.words.length + 1) (u32s (tabOf (h.words.length + 1) (pl.take k))) ∧ wr.heap[cb]? = some (cnt pl.length z1 0 v3 0) ∧ Mod [gt, cb] W3 wr) (fun i _ => pl.length - (intOf i).toNat)
  case atStart => exact ⟨0, 0, by omega, rfl, T3.out, C3.out, Mod.refl _ _⟩
  case round =>
    obtain ⟨k, v3, hk, rfl, hT, hC, hM⟩ := hrel
    have TX := Lib.hid hT
    have CX := Lib.hid hC
    have MX := Lib.hid hM
    have PX := Lib.hid (hM.row P3.out (by intro g hg hq; have := NPG.out g hg; simp at hq; omega))
    clear hT hC hM
    by_cases hlt : k < pl.length
    · obtain ⟨gp, rfl⟩ := HL3.out (by omega)
      obtain ⟨a, hpa, hal, _, _⟩ := PLX.out k hlt
      obtain ⟨cm0, cm1⟩ := moved_cell PX.out k hlt
      have hgpl := row_lt PX.out
      have hgtl := row_lt TX.out
      have hcbl := lt_of_block CX.out
      have cs : wr.cell? ⟨gt, a, none⟩ = some (.int .u32 (wd (tabOf (h.words.length + 1) (pl.take k)) a)) := by
        have h1 : a < h.words.length + 1 := by omega
        rw [row_cell TX.out a h1]; simp [u32s, wd, tabOf_length, h1]
      have fs := row_free TX.out a
      have m5 := mod_setCell wr ⟨gt, a, none⟩ (.int .u32 pl[k].2)
      have T5q := row_keep (row_set TX.out a (.int .u32 pl[k].2)) ((Ext.refl (wr.setCell ⟨gt, a, none⟩ (.int .u32 pl[k].2))).alloc (.cells #[.int .u32 (2 * (a : Int)), .int .u32 pl[k].2] 111))
      rw [u32s_set, tabOf_set hlt PND.out hpa] at T5q
      have M5q := (MX.out.trans (m5.mono (S' := [gt, cb]) (by simp))).ext ((Ext.refl (wr.setCell ⟨gt, a, none⟩ (.int .u32 pl[k].2))).alloc (.cells #[.int .u32 (2 * (a : Int)), .int .u32 pl[k].2] 111))
      have C5q := keepB (m5.keep CX.out (by simp; omega)) (.cells #[.int .u32 (2 * (a : Int)), .int .u32 pl[k].2] 111)
      have D5q := newB (wr.setCell ⟨gt, a, none⟩ (.int .u32 pl[k].2)) (.cells #[.int .u32 (2 * (a : Int)), .int .u32 pl[k].2] 111) wr.heap.size (by simp [World.setCell])
      rw [hpa] at cm0
      have T5 := Lib.hid T5q
      have M5 := Lib.hid M5q
      have C5 := Lib.hid C5q
      have D5 := Lib.hid D5q
      have hki : (k : Int) < (pl.length : Int) := by omega
      have hdv := div2 a
      have vw1 : IntKind.u32.wrap (a : Int) = a := wraps_u32 _ (by omega) (by omega)
      have qi : (a : Int) < (h.words.length : Int) + 1 := by omega
      clear T5q M5q C5q D5q m5 hpa
      generalize pl[k].2 = tt at *
      generalize wd (tabOf (h.words.length + 1) (pl.take k)) a = yy at *
      go_upto_region 8 with fail
      generalize (wr.setCell ⟨gt, a, none⟩ (.int .u32 tt)).alloc (.cells #[.int .u32 (2 * (a : Int)), .int .u32 tt] 111) = W5 at *
      obtain ⟨mb, hmb⟩ : ∃ n, n = wr.heap.size := ⟨_, rfl⟩
      rw [← hmb] at D5 ⊢
      have hcbm : cb ≠ mb := by omega
      clear hmb cm0 cm1 cs fs
      obtain ⟨d1, d2⟩ := blk D5.out
      obtain ⟨e1, e2⟩ := blk C5.out
      have C6q := setB (i := 3) C5.out (.int .i64 (wrap64 (v3 + 1)))
      have C6 := Lib.hid C6q
      have m6 := mod_setCell W5 ⟨cb, 3, none⟩ (.int .i64 (wrap64 (v3 + 1)))
      have T6 := Lib.hid (m6.row T5.out (by intro g hg; cases hg; simp; omega))
      have M6 := Lib.hid (M5.out.trans (m6.mono (S' := [gt, cb]) (by simp)))
      clear C6q m6
      cases hb : (2 * (a : Int) != tt) with
      | true =>
        go_wp2
        go_roundw
        case rel => exact ⟨k + 1, _, by omega, by go_num, T6.out, by simpa using C6.out, M6.out⟩
        case measure => simp [intOf]; omega
      | false =>
        go_wp2
        go_roundw
        case rel => exact ⟨k + 1, _, by omega, by go_num, T5.out, C5.out, M5.out⟩
        case measure => simp [intOf]; omega
    · have hke : k = pl.length := by omega
      have T7q := TX.out
      rw [hke, List.take_length] at T7q
      have T7 := Lib.hid T7q
      have P7 := PX
      have C7 := CX
      have S7 := Lib.hid (MX.out.size)
      have B7 := Lib.hid (MX.out.keep B3.out (by have := N1.out; simp; omega))
      have RB7 := Lib.hid (MX.out.keep RB3.out (by have := N1.out; simp; omega))
      have CB7 := Lib.hid (MX.out.keep CB3.out (by have := N1.out; simp; omega))
      have E7 := Lib.hid (E3.out.of_mod MX.out (by intro x hx; simp only [List.mem_cons, List.not_mem_nil, or_false] at hx; omega))
      clear T7q PX CX TX MX T3 P3 C3 B3 RB3 CB3 E3
      subst hke
      obtain ⟨b1, b2⟩ := blk B7.out
      have hbl7 := lt_of_block B7.out
      have hwr7 := E7.out.size
      go_wp2
      have NB8 := Lib.hid (newB (wr.alloc (.cells #[.int .u32 0] 24)) (.cells #[.slice (some ⟨wr.heap.size, 0, none⟩) 1 1, .slice none 0 0] 33) (wr.heap.size + 1) (by simp))
      have X8 : Ext wr ((wr.alloc (.cells #[.int .u32 0] 24)).alloc (.cells #[.slice (some ⟨wr.heap.size, 0, none⟩) 1 1, .slice none 0 0] 33)) := ((Ext.refl wr).alloc _).alloc _
      have Z8 : Hid (((wr.alloc (.cells #[.int .u32 0] 24)).alloc (.cells #[.slice (some ⟨wr.heap.size, 0, none⟩) 1 1, .slice none 0 0] 33)).ownsRow w.heap.size 24 1 (.slice (some ⟨wr.heap.size, 0, none⟩) 1 1) 1 (u32s [0])) :=
        row_keep (World.ownsRow_lit (base := w.heap.size) (e := 24) (size := 1) wr #[.int .u32 0] 1 hwr7 (by unfold maxLen; omega) rfl) ((Ext.refl _).alloc _)
      have T8 := Lib.hid (row_keep T7.out X8)
      have P8 := Lib.hid (row_keep P7.out X8)
      have C8 := Lib.hid (X8.keep C7.out)
      have B8 := Lib.hid (X8.keep B7.out)
      have RB8 := Lib.hid (X8.keep RB7.out)
      have CB8 := Lib.hid (X8.keep CB7.out)
      have E8 := Lib.hid (E7.out.trans X8)
      have hcbl8 : cb < wr.heap.size := lt_of_block C7.out
      have hrbl8 : rb < wr.heap.size := lt_of_block RB7.out
      have hcb0l8 : cb0 < wr.heap.size := lt_of_block CB7.out
      have hgtl8 : gt < wr.heap.size := row_lt T7.out
      have hpl8 : ∀ g, (Value.slice la pl.length lc).ownBlock = some g → g < wr.heap.size := fun g hg => (P7.out.lt g hg).2
      have HPL8 := Lib.hid hpl8
      have hsz8 : wr.heap.size + 1 < ((wr.alloc (.cells #[.int .u32 0] 24)).alloc (.cells #[.slice (some ⟨wr.heap.size, 0, none⟩) 1 1, .slice none 0 0] 33)).heap.size := by simp
      generalize (wr.alloc (.cells #[.int .u32 0] 24)).alloc (.cells #[.slice (some ⟨wr.heap.size, 0, none⟩) 1 1, .slice none 0 0] 33) = W8 at *
      obtain ⟨g0, hg0⟩ : ∃ n, n = wr.heap.size := ⟨_, rfl⟩
      obtain ⟨nb, hnb⟩ : ∃ n, n = wr.heap.size + 1 := ⟨_, rfl⟩
      rw [← hnb] at NB8 hsz8 ⊢
      rw [← hg0] at NB8 Z8 hcbl8 hrbl8 hcb0l8 hgtl8 hbl7 hwr7 ⊢
      have hgn : g0 < nb := by omega
      have HPL9 : Hid (∀ g, (Value.slice la pl.length lc).ownBlock = some g → g < nb) := fun g hg => by have := HPL8.out g hg; omega
      clear X8 T7 P7 C7 B7 RB7 CB7 E7 S7 b1 b2 hnb hg0 hpl8 HPL8
      go_loopw [67] (fun i wr2 => ∃ (k : Nat) (rv : Value), k ≤ h.roots.length ∧ i = .int .i64 k ∧ wr2.heap[nb]? = some (.cells #[.slice (some ⟨g0, 0, none⟩) 1 1, rv] 33) ∧ wr2.ownsRow W8.heap.size 41 1 rv k (u32s ((h.roots.take k).map (whereV pl))) ∧ Mod [nb] W8 wr2) (fun i _ => h.roots.length - (intOf i).toNat)
      case atStart => exact ⟨0, _, by omega, rfl, NB8.out, World.ownsRow_nil _ _ _ _, Mod.refl _ _⟩
      case round =>
        obtain ⟨k, rv, hk, rfl, hN, hR, hM⟩ := hrel
        obtain ⟨ra, rc, rfl, hra⟩ := own_any hR
        have HRA := Lib.hid hra
        clear hra
        have NX := Lib.hid hN
        have RX := Lib.hid hR
        have MX := Lib.hid hM
        have TX := Lib.hid (hM.row T8.out (by intro g hg hq; cases hg; simp at hq; omega))
        have EX := Lib.hid (E8.out.of_mod hM (by intro x hx; simp only [List.mem_singleton] at hx; omega))
        clear hN hR hM
        by_cases hlt : k < h.roots.length
        · have ck := (ST.out.keep EX.out).root k hlt
          have hrr := WFX.out.root k
          have hin : isObj (wd h.roots k) = true → (wd h.roots k / 2).toNat < h.words.length + 1 := fun ho => by
            have h1 := (RVX.out (wd h.roots k) (List.mem_filter.2 ⟨wd_in hlt, ho⟩)).1
            have := WFX.out.mem (WFX.out.isO_lt h1).2
            omega
          have htl := tabOf_length (h.words.length + 1) pl
          have MV := moved41 (w := wr.drew) (g := gt) (c := h.words.length + 1) (T := tabOf (h.words.length + 1) pl) (by rw [htl]; exact row_keep (row_mono TX.out (Nat.zero_le _)) ((Ext.refl wr).drew)) (by omega) (wd h.roots k) hrr.1 hrr.2 (by rw [htl]; exact hin)
          rw [movedV_tab hrr.1 hin, htl] at MV
          have MVX := Lib.hid MV
          have hki : (k : Int) < (h.roots.length : Int) := by omega
          have SN : Hid (u32s ((h.roots.take k).map (whereV pl)) ++ u32s [whereV pl (wd h.roots k)] = u32s ((h.roots.take (k + 1)).map (whereV pl))) := by
            have e : h.roots.take (k + 1) = h.roots.take k ++ [wd h.roots k] := by rw [List.take_succ_eq_append_getElem hlt]; simp [wd, hlt]
            show _ = _
            rw [e, List.map_append]; simp only [u32s, List.map_append, List.map_cons, List.map_nil]
          clear MV hin htl hrr
          generalize wd h.roots k = x at *
          generalize whereV pl x = y at *
          have RW : Hid ((wr.drew.alloc (.cells #[.int .u32 y] 41)).ownsRow W8.heap.size 41 1 (.slice ra k rc) k (u32s ((h.roots.take k).map (whereV pl)))) := row_keep RX.out ((Ext.refl _).drew.alloc _)
          have RN : Hid (RRow (wr.drew.alloc (.cells #[.int .u32 y] 41)) ⟨wr.heap.size, 0, none⟩ (u32s [y])) := row_read (World.ownsRow_lit (base := 0) (e := 41) wr.drew #[.int .u32 y] 1 (Nat.zero_le _) (by unfold maxLen; omega) rfl)
          have LB : Hid ((wr.drew.alloc (.cells #[.int .u32 y] 41)).heap[nb]? = some (.cells #[.slice (some ⟨g0, 0, none⟩) 1 1, .slice ra k rc] 33)) := keepB (w := wr.drew) NX.out _
          have hWs := MX.out.size
          have hnbl : nb < wr.heap.size := lt_of_block NX.out
          have VB : Hid ((Value.slice ra k rc).ownBlock ≠ some nb) := own_ne RX.out NX.out (by decide)
          go_upto_region 15 with fail
          have c1 := (blk NX.out).1
          obtain ⟨l1, l2⟩ := blk LB.out
          go_region_law (first | (refine step_append_lies _ rfl _ _ _ rfl W8.heap.size 41 i0 _ 1 4 Tryz.underlying23 hi hz0 hz1 hz3 rfl (by omega) (.slice ra k rc) k (u32s ((h.roots.take k).map (whereV pl))) (by simp [Act.eval]) RW.out ⟨wr.heap.size, 0, none⟩ 1 1 (u32s [y]) (by simp [Act.eval]) rfl RN.out (u32s_one _) (by omega) (by unfold maxLen; omega) (by omega) (by simp; omega) (wr.heap.size + 1) (by simp) ?_; intro g1 q1 w3 hown hgrow0 hat hlt3; have hgrow : World.grownBy _ w3 (Value.slice ra k rc).ownBlock := hgrow0; obtain ⟨m1, m2⟩ := blk (grow_keep hgrow LB.out (fun h => VB.out h.symm))) | (go_simp; go_at_call 41; refine MVX.out.mono ?_; rintro e w9 ⟨rfl, rfl⟩))
          all_goals
            rw [SN.out] at hown
            have hb3 := grow_keep hgrow LB.out (fun h => VB.out h.symm)
            have hgb : g1 ≠ nb := by
              obtain ⟨cur, hcur, _⟩ := row_block hown
              exact block_ne hcur hb3 (by simp)
            have B9q := setB (i := 1) hb3 (.slice (some ⟨g1, 0, none⟩) (k + 1) q1)
            have B9 : Hid ((w3.setCell ⟨nb, 1, none⟩ (.slice (some ⟨g1, 0, none⟩) (k + 1) q1)).heap[nb]? = some (.cells #[.slice (some ⟨g0, 0, none⟩) 1 1, .slice (some ⟨g1, 0, none⟩) (k + 1) q1] 33)) := B9q
            have m9 := mod_setCell w3 ⟨nb, 1, none⟩ (.slice (some ⟨g1, 0, none⟩) (k + 1) q1)
            have R9 := Lib.hid (m9.row hown (by intro g hg; cases hg; simpa using hgb))
            have M9 := Lib.hid (((MX.out.ext ((Ext.refl wr).drew.alloc (.cells #[.int .u32 y] 41))).grown hgrow (fun q hq => own_ge RX.out hq)).trans m9)
            clear hown hgrow hgrow0 hb3 B9q m9 m1 m2
            go_wp2
            go_roundw
            case rel => exact ⟨k + 1, _, by omega, by go_num, B9.out, R9.out, M9.out⟩
            case measure => simp [intOf]; omega
        · have hke : k = h.roots.length := by omega
          have R7q := RX.out
          rw [hke, List.take_length] at R7q
          have R9 := Lib.hid R7q
          have N9 := NX
          have T9 := TX
          have E9 := EX
          obtain ⟨gv, rfl⟩ : ∃ g, ra = some ⟨g, 0, none⟩ := by obtain ⟨g, hg, _⟩ := HRA.out (by have := HRL.out; omega); exact ⟨g, hg⟩
          clear HRA
          have ne1 : gt ≠ nb ∧ cb ≠ nb ∧ bb ≠ nb ∧ rb ≠ nb ∧ cb0 ≠ nb := by omega
          have P9 := Lib.hid (MX.out.row P8.out (by intro g hg hq; have := HPL9.out g hg; simp at hq; omega))
          have Z9 := Lib.hid (MX.out.row Z8.out (by intro g hg hq; cases hg; simp at hq; omega))
          have C9 := Lib.hid (MX.out.keep C8.out (by simp; omega))
          have B9 := Lib.hid (MX.out.keep B8.out (by simp; omega))
          have RB9 := Lib.hid (MX.out.keep RB8.out (by simp; omega))
          have CB9 := Lib.hid (MX.out.keep CB8.out (by simp; omega))
          have hW8 := MX.out.size
          clear R7q RX NX TX EX MX P8 Z8 C8 B8 RB8 CB8 T8 E8 NB8
          generalize wr = wr2 at *
          subst hke
          go_wp2
          have hTK : Hid (wordsC h os = [0] ++ layL h.words pl (voidC h os) ((liveOf h os).take pl.length)) := by
            show _ = _
            have h1 : (liveOf h os).length = pl.length := by rw [HPL.out]; exact (planFrom_length _ _ _).symm
            rw [← h1, List.take_length, HPL.out]; rfl
          have RV0 : Hid (wr2.ownsRow W8.heap.size 41 1 (.slice (some ⟨gv, 0, none⟩) h.roots.length rc) h.roots.length (u32s (rootsC h os))) := by
            have := R9.out; rw [HPL.out] at this; exact this
          clear R9
          have FIT : Hid (∀ k, ([0] ++ layL h.words pl (voidC h os) ((liveOf h os).take k)).length ≤ h.words.length) := fun k => by rw [HPL.out]; exact layL_fits WFX.out SO.out _ k
          go_loopw [82] (fun i wr3 => ∃ (k g q : Nat) (v4 : Int), k ≤ pl.length ∧ i = .int .i64 k ∧ wr3.heap[nb]? = some (.cells #[.slice (some ⟨g, 0, none⟩) ([0] ++ layL h.words pl (voidC h os) ((liveOf h os).take k)).length q, .slice (some ⟨gv, 0, none⟩) h.roots.length rc] 33) ∧ wr3.ownsRow w.heap.size 24 1 (.slice (some ⟨g, 0, none⟩) ([0] ++ layL h.words pl (voidC h os) ((liveOf h os).take k)).length q) ([0] ++ layL h.words pl (voidC h os) ((liveOf h os).take k)).length (u32s ([0] ++ layL h.words pl (voidC h os) ((liveOf h os).take k))) ∧ wr3.heap[cb]? = some (cnt pl.length z1 0 v3 v4) ∧ Mod [nb, cb, g0] wr2 wr3 ∧ (g = g0 ∨ wr2.heap.size ≤ g)) (fun i _ => pl.length - (intOf i).toNat)
          case atStart => exact ⟨0, g0, 1, 0, by omega, rfl, by simpa [layL] using N9.out, by simpa [layL] using Z9.out, C9.out, Mod.refl _ _, .inl rfl⟩
          case round =>
            obtain ⟨k, g, q, v4, hk, rfl, hN, hZ, hC, hM, hg⟩ := hrel
            have NX := Lib.hid hN
            have ZX := Lib.hid hZ
            have CX := Lib.hid hC
            have MX := Lib.hid hM
            have HG := Lib.hid hg
            have TX := Lib.hid (hM.row T9.out (by intro g hg hq; cases hg; simp at hq; omega))
            have PX := Lib.hid (hM.row P9.out (by
              intro g hg hq
              have h1 := HPL9.out g hg
              have h2 := NPG.out g hg
              obtain ⟨cur, hcur, _⟩ := row_block Z9.out
              have h3 := own_ne P9.out hcur (by decide)
              simp only [List.mem_cons, List.not_mem_nil, or_false] at hq
              rcases hq with hq | hq | hq
              · omega
              · omega
              · exact h3 (by rw [hg, hq])))
            have VX := Lib.hid (hM.row RV0.out (by intro g hg hq; have := own_ge RV0.out hg; simp at hq; omega))
            have BX := Lib.hid (hM.keep B9.out (by have := N1.out; simp; omega))
            have RBX := Lib.hid (hM.keep RB9.out (by have := N1.out; simp; omega))
            have CBX := Lib.hid (hM.keep CB9.out (by have := N1.out; simp; omega))
            have EX := Lib.hid (E9.out.of_mod hM (by intro x hx; simp only [List.mem_cons, List.not_mem_nil, or_false] at hx; omega))
            clear hN hZ hC hM hg
            by_cases hlt : k < pl.length
            · obtain ⟨gp, rfl⟩ := HL3.out (by omega)
              obtain ⟨a, hpa, hal, halv, haos⟩ := PLX.out k hlt
              obtain ⟨cm0, cm1⟩ := moved_cell PX.out k hlt
              rw [hpa] at cm0
              have hgpl := row_lt PX.out
              have hki : (k : Int) < (pl.length : Int) := by omega
              have hdv := div2 a
              have vw1 : IntKind.u32.wrap (a : Int) = a := wraps_u32 _ (by omega) (by omega)
              have hm := WFX.out.mem haos
              have hfit : a + 3 + sizeAt h.words a ≤ h.words.length := hm.2.1
              have OWN := Lib.hid (ownF_all WFX.out SO.out halv (voidC h os))
              rw [← HPL.out] at OWN
              have LT : Hid (layL h.words pl (voidC h os) ((liveOf h os).take (k + 1)) = layL h.words pl (voidC h os) ((liveOf h os).take k) ++ layAll h.words pl (voidC h os) a) := by
                have hkl : k < (liveOf h os).length := by
                  have : (liveOf h os).length = pl.length := by rw [HPL.out]; exact (planFrom_length _ _ _).symm
                  omega
                have h1 : (liveOf h os)[k] = 2 * (a : Int) := by
                  have h2 : pl.map (·.1) = liveOf h os := by rw [HPL.out]; exact plan_fst _ _ _
                  rw [← hpa]
                  simp only [← h2, List.getElem_map]
                have := layL_take (ws := h.words) (pl := pl) (V := voidC h os) hkl
                rw [h1, show (2 * (a : Int) / 2).toNat = a by omega] at this
                exact this
              have HAO := Lib.hid haos
              have NM := Lib.hid (fun W (hE : Ext w W) => names43 (ST.out.keep hE) WFX.out a haos)
              have SZ := Lib.hid (fun W (hE : Ext w W) => size42 (ST.out.keep hE) WFX.out a hal)
              have RD := Lib.hid (fun W (hE : Ext w W) => obj_read (ST.out.keep hE) hfit)
              have RL : Hid ((u32s ((h.words.drop a).take (3 + sizeAt h.words a))).length = (3 + sizeAt h.words a) * 1) := by show _ = _; simp; omega
              have hcw := (row_max ST.out.words).1
              have hsl := fun W => slice_obj W L.gw h.words.length L.cw a (sizeAt h.words a) (by omega)
              have HFIT := Lib.hid hfit
              have hs1 : a + 3 + sizeAt h.words a ≤ 1048576 := by omega
              have q1 : IntKind.i64.wrap ((a : Int) + 3) = (a : Int) + 3 := IntWalk.i64_in _ (by omega)
              have q2 : IntKind.i64.wrap ((a : Int) + 3 + (sizeAt h.words a : Int)) = (a : Int) + 3 + (sizeAt h.words a : Int) := IntWalk.i64_in _ (by omega)
              have q3 : IntKind.i64.wrap (a : Int) = a := IntWalk.i64_in _ (by omega)
              unfold stV at *
              clear hm haos halv hpa hfit
              generalize pl[k].2 = tt at *
              go_upto_region 21 with fail
              have EB := Lib.hid (EX.out.alloc (.cells #[.int .u32 (2 * (a : Int)), .int .u32 tt] 111))
              have BB := Lib.hid (keepB BX.out (.cells #[.int .u32 (2 * (a : Int)), .int .u32 tt] 111))
              have XW := Lib.hid ((Ext.refl wr).alloc (.cells #[.int .u32 (2 * (a : Int)), .int .u32 tt] 111))
              generalize wr.alloc (.cells #[.int .u32 (2 * (a : Int)), .int .u32 tt] 111) = W5 at *
              clear cm0 cm1
              have KE : Hid (∀ W', Ext W5 W' → (∀ i, W'.cell? ⟨bb, i, none⟩ = (#[.slice (some ⟨L.gw, 0, none⟩) h.words.length L.cw, .slice (some ⟨L.gr, 0, none⟩) h.roots.length L.cr] : Array Value)[i]?) ∧ Ext W5 W') := fun W' hE => ⟨(blk (hE.keep BB.out)).1, hE⟩
              go_region_held3 (fun w' => (∀ i, w'.cell? ⟨bb, i, none⟩ = (#[.slice (some ⟨L.gw, 0, none⟩) h.words.length L.cw, .slice (some ⟨L.gr, 0, none⟩) h.roots.length L.cr] : Array Value)[i]?) ∧ Ext W5 w')
                (first | exact KE.out _ (Ext.refl _).drew | exact KE.out _ (Ext.trans (‹_ ∧ Ext W5 _›).2 hE9) | exact KE.out _ ((‹_ ∧ Ext W5 _›).2.grown hgrow (fun q hq => by cases hq)))
                (first | (go_at_call 42; refine (SZ.out _ (EB.out.trans (‹_ ∧ Ext W5 _›).2)).mono ?_; rintro e w9 ⟨rfl, hE9⟩) | ((refine step_append_lies _ rfl _ _ _ rfl W5.heap.size 24 j0 _ 1 4 Tryz.underlying22 hj hy0 hy1 hy3 rfl (by omega) (.slice none 0 0) 0 [] (by simp [Act.eval]) (World.ownsRow_nil _ _ _ _) ⟨L.gw, sOff 0 L.cw a, none⟩ (3 + sizeAt h.words a) (L.cw - a) (u32s ((h.words.drop a).take (3 + sizeAt h.words a))) (by simp [Act.eval]) RL.out (RD.out _ (EB.out.trans (‹_ ∧ Ext W5 _›).2)) (u32s_one _) (by omega) (by unfold maxLen; omega) (by omega) (‹_ ∧ Ext W5 _›).2.size _ rfl ?_; intro g9 q9 w9 hown hgrow hat hlt9)))
              have E59 := (‹_ ∧ Ext W5 w9›).2
              obtain ⟨b9, b9'⟩ := (‹_ ∧ Ext W5 w9›)
              simp only [Nat.zero_add, List.nil_append] at hown ⊢
              have OW0 := Lib.hid hown
              have hg9 : W5.heap.size ≤ g9 := own_ge hown rfl
              have hw5 := XW.out.size
              have EW9 := Lib.hid (EB.out.trans E59)
              have X9 := Lib.hid (XW.out.trans E59)
              clear hown hgrow hat hlt9 hE9 KE SZ RD RL hsl E59 BB EB XW b9'
              have NIN : Hid (∀ m, m < (nmL h.words a).length → isObj (wd h.words (a + posN m)) = true → (wd h.words (a + posN m) / 2).toNat < h.words.length + 1) := fun m hm ho => nm_in WFX.out SO.out HAO.out hm ho
              have NMG : Hid (∀ m, (hm : m < (nmL h.words a).length) → (nmL h.words a)[m] = a + posN m ∧ posN m < 3 + sizeAt h.words a) := fun m hm => ⟨nmL_get hm, posN_lt hm⟩
              have NLL : Hid ((nmL h.words a).length ≤ sizeAt h.words a + 1) := nmL_len
              have NHL : Hid (nmH h.words a ≤ (nmL h.words a).length) := nmH_le _ _
              have OSUC : Hid (∀ m, (ownF h.words pl (voidC h os) a m).set (posN m) (newV pl (voidC h os) (decide (m < nmH h.words a)) (wd h.words (a + posN m))) = ownF h.words pl (voidC h os) a (m + 1)) := fun m => rfl
              have OW : Hid (w9.ownsRow W5.heap.size 24 1 (.slice (some ⟨g9, 0, none⟩) (3 + sizeAt h.words a) q9) (3 + sizeAt h.words a) (u32s (ownF h.words pl (voidC h os) a 0))) := OW0.out
              clear OW0
              generalize nmL h.words a = NL at *
              generalize nmH h.words a = nh at *
              go_wp2_with (first | (go_at_call 43; refine (NM.out _ EW9.out).mono ?_; rintro e w10 ⟨nv, rfl, hnr, hE10⟩; obtain ⟨na, nc, rfl, hna⟩ := own_any hnr; have NR0 := Lib.hid hnr; have HNA := Lib.hid hna; have XN := Lib.hid hE10; clear hnr hna hE10))
              have OW1 := Lib.hid (row_keep OW.out XN.out)
              have X10 := Lib.hid (X9.out.trans XN.out)
              have C10 := Lib.hid (X10.out.keep CX.out)
              have hg9' : g9 < w9.heap.size := row_lt OW.out
              have hs10 := XN.out.size
              have hcb10 : cb < wr.heap.size := lt_of_block CX.out
              have NR : Hid (w10.ownsRow w9.heap.size 3 1 (.slice na NL.length nc) NL.length (n64s NL)) := NR0.out
              clear NR0 b9 OW NM
              have hnli : NL.length ≤ 1048576 := by have := NLL.out; have := HFIT.out; omega
              have hnlI : (NL.length : Int) ≤ 1048576 := by omega
              generalize wr = wr3 at *
              go_loopw [109] (fun i wr4 => ∃ (m : Nat) (v5 : Int), m ≤ NL.length ∧ i = .int .i64 m ∧ wr4.ownsRow W5.heap.size 24 1 (.slice (some ⟨g9, 0, none⟩) (3 + sizeAt h.words a) q9) (3 + sizeAt h.words a) (u32s (ownF h.words pl (voidC h os) a m)) ∧ wr4.heap[cb]? = some (cnt pl.length z1 0 v3 v5) ∧ Mod [g9, cb] w10 wr4) (fun i _ => NL.length - (intOf i).toNat)
              case atStart => exact ⟨0, v4, by omega, rfl, OW1.out, C10.out, Mod.refl _ _⟩
              case round =>
                obtain ⟨m, v5, hm, rfl, hO, hC, hM⟩ := hrel
                have OX := Lib.hid hO
                have C11 := Lib.hid hC
                have MX2 := Lib.hid hM
                have hsz0 : wr3.heap.size ≤ w9.heap.size := X9.out.size
                have bigs : bb < wr3.heap.size ∧ nb < wr3.heap.size ∧ g < wr3.heap.size ∧ gv < wr3.heap.size ∧ gt < wr3.heap.size ∧ gp < wr3.heap.size := ⟨lt_of_block BX.out, lt_of_block NX.out, row_lt ZX.out, row_lt VX.out, row_lt TX.out, hgpl⟩
                have g9w : wr3.heap.size ≤ g9 := by omega
                have cbne : cb ≠ bb ∧ cb ≠ nb ∧ cb ≠ gt := by have := N1.out; omega
                have gvne : gv ≠ cb := by
                  have := own_ne VX.out CX.out (by decide)
                  intro he; exact this (by rw [he]; rfl)
                have gcb : g ≠ cb := by
                  have := own_ne ZX.out CX.out (by decide)
                  intro he; exact this (by rw [he]; rfl)
                have B11 := Lib.hid (hM.keep (X10.out.keep BX.out) (by simp; omega))
                have N11 := Lib.hid (hM.keep (X10.out.keep NX.out) (by simp; omega))
                have T11 := Lib.hid (hM.row (row_keep TX.out X10.out) (by intro x hx hq; cases hx; simp at hq; omega))
                have V11 := Lib.hid (hM.row (row_keep VX.out X10.out) (by intro x hx hq; cases hx; simp at hq; omega))
                have NR11 := Lib.hid (hM.row NR.out (by intro x hx hq; have := own_ge NR.out hx; simp at hq; omega))
                have E11 := Lib.hid ((EW9.out.trans XN.out).of_mod hM (by intro x hx; simp only [List.mem_cons, List.not_mem_nil, or_false] at hx; have := EX.out.size; omega))
                clear hO hC hM
                by_cases hml : m < NL.length
                · obtain ⟨hnm, hpl3⟩ := NMG.out m hml
                  obtain ⟨gn, rfl, _, _⟩ := HNA.out (by omega)
                  have hnin := NIN.out m hml
                  have hnc : wr.cell? ⟨gn, m, none⟩ = some (.int .i64 ((a + posN m : Nat) : Int)) := by
                    rw [row_cell NR11.out m hml]; simp [n64s, hml, hnm]
                  have hgnl := row_lt NR11.out
                  have hrw := WFX.out.word (a + posN m)
                  have hwc := (ST.out.keep E11.out).word (a + posN m) (by have := HFIT.out; omega)
                  have hgwl := row_lt (ST.out.keep E11.out).words
                  have hvc : wr.cell? ⟨gv, 0, none⟩ = some (.int .u32 (voidC h os)) := by
                    have h0 : 0 < h.roots.length := by have := HRL.out; omega
                    rw [row_cell V11.out 0 h0]
                    have h1 : 0 < (rootsC h os).length := by rw [rootsC_length]; exact h0
                    simp [u32s, voidC, wd, h1]
                  have hgvl := row_lt V11.out
                  have htl := tabOf_length (h.words.length + 1) pl
                  have MV := moved41 (w := wr) (g := gt) (c := h.words.length + 1) (T := tabOf (h.words.length + 1) pl) (by rw [htl]; exact row_mono T11.out (Nat.zero_le _)) (by omega) (wd h.words (a + posN m)) hrw.1 hrw.2 (by rw [htl]; exact hnin)
                  rw [movedV_tab hrw.1 hnin, htl] at MV
                  have MVX := Lib.hid MV
                  have HK := Lib.hid (kind44 (wd h.words (a + posN m)) wr hrw.1 hrw.2)
                  have OSM := Lib.hid (OSUC.out m)
                  have hnl : (a + posN m : Nat) < h.words.length := by have := HFIT.out; omega
                  have hsub : (((a + posN m : Nat)) : Int) - (a : Int) = (posN m : Int) := by omega
                  have hpi : IntKind.i64.wrap (posN m : Int) = (posN m : Int) := IntWalk.i64_in _ (by omega)
                  have hr0 : (0 : Int) < (h.roots.length : Int) := by have := HRL.out; omega
                  obtain ⟨b1, b2⟩ := blk B11.out
                  obtain ⟨c1, c2⟩ := blk N11.out
                  obtain ⟨d1, d2⟩ := blk C11.out
                  have hg9l := row_lt OX.out
                  have hfr := row_free OX.out (posN m)
                  have hmi : (m : Int) < (NL.length : Int) := by omega
                  have hg9c : g9 ≠ cb := by omega
                  clear MV htl hnin hrw hnm
                  have NVX : Hid ((m < nh ∨ isObj (wd h.words (a + posN m)) = false ∨ whereV pl (wd h.words (a + posN m)) ≠ 0) → newV pl (voidC h os) (decide (m < nh)) (wd h.words (a + posN m)) = whereV pl (wd h.words (a + posN m))) := by
                    intro hor
                    unfold newV
                    rw [if_neg]
                    simp only [Bool.and_eq_true, Bool.not_eq_true', decide_eq_false_iff_not, beq_iff_eq, not_and]
                    intro h1 h2
                    rcases hor with h3 | h3 | h3
                    · exact absurd h3 h1
                    · rw [h2] at h3; cases h3
                    · exact h3
                  have NVV : Hid (¬ m < nh → isObj (wd h.words (a + posN m)) = true → whereV pl (wd h.words (a + posN m)) = 0 → newV pl (voidC h os) (decide (m < nh)) (wd h.words (a + posN m)) = voidC h os) := by
                    intro h1 h2 h3
                    unfold newV
                    simp [h1, h2, h3]
                  have OK := Lib.hid (row_set OX.out (posN m) (.int .u32 (whereV pl (wd h.words (a + posN m)))))
                  have mK := mod_setCell wr ⟨g9, posN m, none⟩ (.int .u32 (whereV pl (wd h.words (a + posN m))))
                  have CK := Lib.hid (mK.keep C11.out (by simpa using hg9c.symm))
                  have MK := Lib.hid (MX2.out.trans (mK.mono (S' := [g9, cb]) (by simp)))
                  have m8 := mod_setCell wr ⟨cb, 4, none⟩ (.int .i64 (wrap64 (v5 + 1)))
                  have C8 := setB (i := 4) C11.out (.int .i64 (wrap64 (v5 + 1)))
                  have O8 := m8.row OX.out (by intro x hx; cases hx; simpa using hg9c)
                  have OD := Lib.hid (row_set O8 (posN m) (.int .u32 (voidC h os)))
                  have mD := mod_setCell (wr.setCell ⟨cb, 4, none⟩ (.int .i64 (wrap64 (v5 + 1)))) ⟨g9, posN m, none⟩ (.int .u32 (voidC h os))
                  have CD := Lib.hid (mD.keep C8 (by simpa using hg9c.symm))
                  have MD := Lib.hid ((MX2.out.trans (m8.mono (S' := [g9, cb]) (by simp))).trans (mD.mono (S' := [g9, cb]) (by simp)))
                  clear mK m8 C8 O8 mD
                  have hoc : wr.cell? ⟨g9, posN m, none⟩ = some (.int .u32 (wd (ownF h.words pl (voidC h os) a m) (posN m))) := by
                    have h1 := ownF_length (pl := pl) (V := voidC h os) HFIT.out m
                    rw [row_cell OX.out (posN m) hpl3]; simp [u32s, wd, h1, hpl3]
                  generalize wd (ownF h.words pl (voidC h os) a m) (posN m) = oo at *
                  generalize a + posN m = n at *
                  generalize posN m = pp at *
                  generalize whereV pl (wd h.words n) = y at *
                  generalize wd h.words n = x at *
                  generalize voidC h os = V at *
                  by_cases hh : m < nh
                  · have t1 : decide ((nh : Int) ≤ (m : Int)) = false := by simp; omega
                    clear HK
                    go_wp2_with (go_at_call 41; refine MVX.out.mono ?_; rintro e w9 ⟨rfl, rfl⟩)
                    have NV := NVX.out (.inl hh)
                    have SU := OSM.out
                    rw [NV] at SU
                    have O9 := OK.out
                    rw [u32s_set, SU] at O9
                    go_roundw
                    case rel => exact ⟨m + 1, v5, by omega, by go_num, O9, CK.out, MK.out⟩
                    case measure => simp [intOf]; omega
                  · have t1 : decide ((nh : Int) ≤ (m : Int)) = true := by simp; omega
                    cases hob : isObj x with
                    | false =>
                      have t2 : (kindI x == 2) = false := by simpa using kind_ne hob
                      go_wp2_with (first | (go_at_call 41; refine MVX.out.mono ?_; rintro e w9 ⟨rfl, rfl⟩) | (go_at_call 44; refine HK.out.mono ?_; rintro e w9 ⟨rfl, rfl⟩))
                      have NV := NVX.out (.inr (.inl hob))
                      have SU := OSM.out
                      rw [NV] at SU
                      have O9 := OK.out
                      rw [u32s_set, SU] at O9
                      go_roundw
                      case rel => exact ⟨m + 1, v5, by omega, by go_num, O9, CK.out, MK.out⟩
                      case measure => simp [intOf]; omega
                    | true =>
                      have t2 : (kindI x == 2) = true := by simpa using kind_obj hob
                      by_cases hy0 : y = 0
                      · have t3 : (y == 0) = true := by simpa using hy0
                        have NV := Lib.hid (NVV.out hh hob hy0)
                        clear hy0
                        go_wp2_with (first | (go_at_call 41; refine MVX.out.mono ?_; rintro e w9 ⟨rfl, rfl⟩) | (go_at_call 44; refine HK.out.mono ?_; rintro e w9 ⟨rfl, rfl⟩))
                        have SU := OSM.out
                        rw [NV.out] at SU
                        have O9 := OD.out
                        rw [u32s_set, SU] at O9
                        go_roundw
                        case rel => exact ⟨m + 1, _, by omega, by go_num, O9, by simpa using CD.out, MD.out⟩
                        case measure => simp [intOf]; omega
                      · have t3 : (y == 0) = false := by simpa using hy0
                        go_wp2_with (first | (go_at_call 41; refine MVX.out.mono ?_; rintro e w9 ⟨rfl, rfl⟩) | (go_at_call 44; refine HK.out.mono ?_; rintro e w9 ⟨rfl, rfl⟩))
                        have NV := NVX.out (.inr (.inr hy0))
                        have SU := OSM.out
                        rw [NV] at SU
                        have O9 := OK.out
                        rw [u32s_set, SU] at O9
                        go_roundw
                        case rel => exact ⟨m + 1, v5, by omega, by go_num, O9, CK.out, MK.out⟩
                        case measure => simp [intOf]; omega
                · have hme : m = NL.length := by omega
                  have O9q := OX.out
                  rw [hme, OWN.out] at O9q
                  have O9 := Lib.hid O9q
                  have RN := Lib.hid (row_read O9q)
                  have Z11 := Lib.hid (MX2.out.row (row_keep ZX.out X10.out) (by intro x hx hq; cases hx; simp at hq; omega))
                  have hw23 := MX.out.size
                  have M11 : Hid (Mod [nb, cb, g0] wr2 wr) := (MX.out.ext X10.out).transNew MX2.out (by
                    intro x hx
                    simp only [List.mem_cons, List.not_mem_nil, or_false] at hx ⊢
                    omega)
                  have LEN : Hid (([0] ++ layL h.words pl (voidC h os) ((liveOf h os).take (k + 1))).length = ([0] ++ layL h.words pl (voidC h os) ((liveOf h os).take k)).length + (3 + sizeAt h.words a)) := by
                    show _ = _
                    rw [LT.out]
                    have h1 : (layAll h.words pl (voidC h os) a).length = 3 + sizeAt h.words a := layAll_length _ _ _ _
                    simp only [List.length_append, h1]; omega
                  have SN : Hid (u32s ([0] ++ layL h.words pl (voidC h os) ((liveOf h os).take k)) ++ u32s (layAll h.words pl (voidC h os) a) = u32s ([0] ++ layL h.words pl (voidC h os) ((liveOf h os).take (k + 1)))) := by
                    show _ = _
                    rw [LT.out]
                    simp [u32s]
                  have RL : Hid ((u32s (layAll h.words pl (voidC h os) a)).length = (3 + sizeAt h.words a) * 1) := by
                    show _ = _
                    have h1 : (layAll h.words pl (voidC h os) a).length = 3 + sizeAt h.words a := layAll_length _ _ _ _
                    simp [h1]
                  have fit1 := FIT.out (k + 1)
                  rw [LEN.out] at fit1
                  have hg3 : wr2.heap.size ≤ wr.heap.size := M11.out.size
                  have wws : w.heap.size ≤ wr.heap.size := E11.out.size
                  have V1 := Lib.hid (own_ne Z11.out N11.out (by decide))
                  have V2 := Lib.hid (own_ne Z11.out C11.out (by decide))
                  have cbn := cbne.2.1
                  have hkk : k + 1 ≤ pl.length := by omega
                  clear O9q OX OSUC LT NMG NIN FIT Z9 OWN
                  generalize ([0] ++ layL h.words pl (voidC h os) ((liveOf h os).take k)) = A at *
                  generalize layAll h.words pl (voidC h os) a = LA at *
                  obtain ⟨c1, c2⟩ := blk N11.out
                  subst hme
                  go_wp2_with (at_builtin; refine wpList_append_lies _ rfl _ _ 22 rfl w.heap.size 24 j0 _ 1 4 Tryz.underlying22 hj hy0 hy1 hy3 rfl (by omega) _ A.length _ rfl Z11.out ⟨g9, 0, none⟩ (3 + sizeAt h.words a) q9 (u32s LA) rfl RL.out RN.out (u32s_one _) (by omega) (by unfold maxLen; omega) (by omega) wws _ rfl ?_; intro g1 q1 w3 hown hgrow0 hat hlt3; have hgrow : World.grownBy _ w3 (Value.slice (some ⟨g, 0, none⟩) A.length q).ownBlock := hgrow0; obtain ⟨m1, m2⟩ := blk (grow_keep hgrow N11.out (fun h => V1.out h.symm)))
                  rw [SN.out] at hown
                  have hb3 := grow_keep hgrow N11.out (fun h => V1.out h.symm)
                  have hc3 := grow_keep hgrow C11.out (fun h => V2.out h.symm)
                  have hgb : g1 ≠ nb := by
                    obtain ⟨cur, hcur, _⟩ := row_block hown
                    exact block_ne hcur hb3 (by simp)
                  have N3 := Lib.hid (setB (i := 0) hb3 (.slice (some ⟨g1, 0, none⟩) (A.length + (3 + sizeAt h.words a)) q1))
                  have m9 := mod_setCell w3 ⟨nb, 0, none⟩ (.slice (some ⟨g1, 0, none⟩) (A.length + (3 + sizeAt h.words a)) q1)
                  have Z3 := Lib.hid (m9.row hown (by intro x hx; cases hx; simpa using hgb))
                  have C3 := Lib.hid (m9.keep hc3 (by simpa using cbn))
                  have M3 := Lib.hid ((M11.out.grownS hgrow (fun x hx => by cases hx; exact HG.out.imp (fun h1 => by simp [h1]) id)).trans (m9.mono (S' := [nb, cb, g0]) (by simp)))
                  have G3 : Hid (g1 = g0 ∨ wr2.heap.size ≤ g1) := by
                    have hat2 : (Value.slice (some ⟨g, 0, none⟩) A.length q).ownBlock = some g1 ∨ g1 = wr.heap.size := hat
                    rcases hat2 with h1 | h1
                    · have h2 : g = g1 := by simpa [Value.ownBlock] using h1
                      rw [← h2]; exact HG.out
                    · right; omega
                  clear hown hgrow hgrow0 hat hb3 hc3 m9 m1 m2
                  go_wp2
                  go_roundw
                  case rel =>
                    refine ⟨k + 1, g1, q1, v5, hkk, by go_num, ?_, ?_, C3.out, M3.out, G3.out⟩
                    · rw [LEN.out]; simpa using N3.out
                    · rw [LEN.out]; exact Z3.out
                  case measure => simp [intOf]; omega
            · have hke : k = pl.length := by omega
              have N9 := NX.out
              have Z9 := ZX.out
              rw [hke, ← hTK.out] at N9 Z9
              have N10 := Lib.hid N9
              have Z10 := Lib.hid Z9
              clear N9 Z9 NX ZX TX PX FIT
              generalize ([0] ++ layL h.words pl (voidC h os) ((liveOf h os).take k)) = A at *
              have ne2 : rb ≠ cb := by have := N1.out; omega
              have hrcl : cb0 ≠ cb := by omega
              obtain ⟨a1, a2⟩ := blk BX.out
              obtain ⟨c1, c2⟩ := blk N10.out
              obtain ⟨d1, d2⟩ := blk CX.out
              go_upto_region 36 with fail
              have C6q := setB (i := 2) CX.out (.int .i64 (wrap64 ((h.words.length : Int) - (wordsC h os).length)))
              have C6 : Hid ((wr.setCell ⟨cb, 2, none⟩ (.int .i64 (wrap64 ((h.words.length : Int) - (wordsC h os).length)))).heap[cb]? = some (cnt pl.length z1 (wrap64 ((h.words.length : Int) - (wordsC h os).length)) v3 v4)) := C6q
              have m6 := mod_setCell wr ⟨cb, 2, none⟩ (.int .i64 (wrap64 ((h.words.length : Int) - (wordsC h os).length)))
              have NE6 := N1.out
              have gcb6 : g ≠ cb := by
                have := own_ne Z10.out CX.out (by decide)
                intro he; exact this (by rw [he]; rfl)
              have gvb6 : gv ≠ cb := by
                have := own_ne VX.out CX.out (by decide)
                intro he; exact this (by rw [he]; rfl)
              have N6 := Lib.hid (m6.keep N10.out (by simp; omega))
              have RB6 := Lib.hid (m6.keep RBX.out (by simp; omega))
              have CB6 := Lib.hid (m6.keep CBX.out (by simp; omega))
              have Z6 := Lib.hid (m6.row Z10.out (by intro x hx hq; cases hx; simp at hq; omega))
              have V6 := Lib.hid (m6.row VX.out (by intro x hx hq; cases hx; simp at hq; omega))
              have E6 := Lib.hid (EX.out.of_mod m6 (by intro x hx; simp at hx; omega))
              clear C6q m6 a1 a2 c1 c2 d1 d2
              generalize wr.setCell ⟨cb, 2, none⟩ (.int .i64 (wrap64 ((h.words.length : Int) - (wordsC h os).length))) = W6 at *
              generalize wrap64 ((h.words.length : Int) - (wordsC h os).length) = z3 at *
              have hrc : rb ≠ cb0 := block_ne RB6.out CB6.out (by simp)
              obtain ⟨c1, c2⟩ := blk N6.out
              obtain ⟨d1, d2⟩ := blk C6.out
              obtain ⟨r1, r2⟩ := blk RB6.out
              obtain ⟨s1, s2⟩ := blk CB6.out
              go_region
              obtain ⟨f0, f1, f2⟩ := end10 (v0 := .slice (some ⟨g, 0, none⟩) (wordsC h os).length q) (v1 := .slice (some ⟨gv, 0, none⟩) h.roots.length rc) (x0 := .int .i64 pl.length) (x1 := .int .i64 z1) (x2 := .int .i64 z3) (x3 := .int .i64 v3) (x4 := .int .i64 v4) RB6.out CB6.out hrc
              have own1 := own_ne Z6.out RB6.out (by decide)
              have own2 := own_ne Z6.out CB6.out (by decide)
              have own3 := own_ne V6.out RB6.out (by decide)
              have own4 := own_ne V6.out CB6.out (by decide)
              have ZF := Lib.hid (f2.row Z6.out (by
                intro x hx hq
                simp only [List.mem_cons, List.not_mem_nil, or_false] at hq
                rcases hq with hq | hq
                · exact own1 (by rw [hx, hq])
                · exact own2 (by rw [hx, hq])))
              have VF := Lib.hid (row_mono (f2.row V6.out (by
                intro x hx hq
                simp only [List.mem_cons, List.not_mem_nil, or_false] at hq
                rcases hq with hq | hq
                · exact own3 (by rw [hx, hq])
                · exact own4 (by rw [hx, hq]))) (show w.heap.size ≤ W8.heap.size by omega))
              have EF := Lib.hid (E6.out.of_mod f2 (by intro x hx; simp only [List.mem_cons, List.not_mem_nil, or_false] at hx; omega))
              clear f2 own1 own2 own3 own4 c1 c2 d1 d2 r1 r2 s1 s2
              generalize ((((((((W6.setCell ⟨rb, 0, none⟩ (.slice (some ⟨g, 0, none⟩) (wordsC h os).length q)).setCell ⟨rb, 1, none⟩ (.slice (some ⟨gv, 0, none⟩) h.roots.length rc)).setCell ⟨cb0, 0, none⟩ (.int .i64 pl.length)).setCell ⟨cb0, 1, none⟩ (.int .i64 z1)).setCell ⟨cb0, 2, none⟩ (.int .i64 z3)).setCell ⟨cb0, 3, none⟩ (.int .i64 v3)).setCell ⟨cb0, 4, none⟩ (.int .i64 v4)).drew) = WF0 at *
              obtain ⟨r1, r2⟩ := blk f0
              obtain ⟨s1, s2⟩ := blk f1
              have hrl2 : (rootsC h os).length = h.roots.length := rootsC_length h os
              go_wp2
              refine bodyPost_ret (v := .tuple #[.agg #[.slice (some ⟨g, 0, none⟩) (wordsC h os).length q, .slice (some ⟨gv, 0, none⟩) h.roots.length rc], .agg #[.int .i64 pl.length, .int .i64 z1, .int .i64 z3, .int .i64 v3, .int .i64 v4]]) (by simp [results, Tryz.results10, go_sem, r1, s1]) rfl ⟨g, q, gv, rc, pl.length, z1, z3, v3, v4, by rw [hrl2], ZF.out, by rw [hrl2]; exact VF.out, EF.out⟩
end
end Go.Proofs.Eff
