/- The document's heap: Header, Next. -/
import Derived.Test.YtaggadjiefgpoaaGreatDoorRf1
import Derived.Test.YtaggadjiefgpoaaGreatDoorRp0
namespace Go.Proofs.Eff
open Go.RowKit

variable {w : World} {L : HLoc} {rv : Value} {h : HeapS} {os : List Nat}

theorem box5 {w : World} {b : Nat} {v0 v1 v2 v3 v4 : Value} {T : TypeId} (h : w.heap[b]? = some (.cells #[v0, v1, v2, v3, v4] T (0, 0))) :
    w.cell? ⟨b, 0, none⟩ = some v0 ∧ w.cell? ⟨b, 1, none⟩ = some v1 ∧ w.cell? ⟨b, 2, none⟩ = some v2 ∧ w.cell? ⟨b, 3, none⟩ = some v3 ∧ w.cell? ⟨b, 4, none⟩ = some v4 ∧ (∀ i, w.frozen? ⟨b, i, none⟩ = false) :=
  ⟨(blk h).1 0, (blk h).1 1, (blk h).1 2, (blk h).1 3, (blk h).1 4, (blk h).2⟩

theorem ext_set5 {W0 w : World} (h : Ext W0 w) {b : Nat} (hb : W0.heap.size ≤ b) (v0 v1 v2 v3 v4 : Value) :
    Ext W0 (((((w.setCell ⟨b, 0, none⟩ v0).setCell ⟨b, 1, none⟩ v1).setCell ⟨b, 2, none⟩ v2).setCell ⟨b, 3, none⟩ v3).setCell ⟨b, 4, none⟩ v4) :=
  ((((h.setCell (p := ⟨b, 0, none⟩) hb v0).setCell (p := ⟨b, 1, none⟩) hb v1).setCell (p := ⟨b, 2, none⟩) hb v2).setCell (p := ⟨b, 3, none⟩) hb v3).setCell (p := ⟨b, 4, none⟩) hb v4
theorem box_set5 {w : World} {rb : Nat} {a0 a1 a2 a3 a4 : Value} {T : TypeId} (h : w.heap[rb]? = some (.cells #[a0, a1, a2, a3, a4] T (0, 0))) (v0 v1 v2 v3 v4 : Value) :
    (((((w.setCell ⟨rb, 0, none⟩ v0).setCell ⟨rb, 1, none⟩ v1).setCell ⟨rb, 2, none⟩ v2).setCell ⟨rb, 3, none⟩ v3).setCell ⟨rb, 4, none⟩ v4).heap[rb]? = some (.cells #[v0, v1, v2, v3, v4] T (0, 0)) := by
  have h0 := setB (i := 0) h v0
  generalize w.setCell ⟨rb, 0, none⟩ v0 = u0 at *
  have h1 := setB (i := 1) h0 v1
  generalize u0.setCell ⟨rb, 1, none⟩ v1 = u1 at *
  have h2 := setB (i := 2) h1 v2
  generalize u1.setCell ⟨rb, 2, none⟩ v2 = u2 at *
  have h3 := setB (i := 3) h2 v3
  generalize u2.setCell ⟨rb, 3, none⟩ v3 = u3 at *
  have h4 := setB (i := 4) h3 v4
  simpa using h4
/-- A header that holds nothing. -/
abbrev hdr0 : Obj := Obj.cells #[Value.int IntKind.i64 0, Value.int IntKind.i64 0, Value.int IntKind.i64 0, Value.int IntKind.u32 0, Value.int IntKind.u32 0] 65

set_option maxRecDepth 100000 in
set_option maxHeartbeats 400000 in
theorem header64 (ha : RefAt w L rv h) (wf : WFR h os) (o : Int) (h0 : 0 ≤ o) (h1 : o < 4294967296) (ho : isO os o = true) :
    Calls Tryz.prog 64 #[.pointer (some ⟨L.b, 0, none⟩), .int .u32 o] w fun e w' => e = .returned (hdrAt h.words (o / 2).toNat).val ∧ Ext w w' := by
  have hmem : (o / 2).toNat ∈ os := by have : isObj o = true ∧ (o / 2).toNat ∈ os := by simpa [isO] using ho
                                       exact this.2
  obtain ⟨m1, m2, m3⟩ := wf.mem hmem
  have hbg := wf.big
  obtain ⟨n, hn⟩ : ∃ n : Nat, o / 2 = (n : Int) := ⟨(o / 2).toNat, by omega⟩
  rw [hn] at m1 m2 m3 ⊢
  simp only [Int.toNat_natCast]
  have k0 := ha.word n (by omega)
  have k1 := ha.word (n + 1) (by omega)
  have k2 := ha.word (n + 2) (by omega)
  have HU := Lib.hid (fun W => unpack45_ok (wd h.words n) (wd h.words (n + 1)) (wd h.words (n + 2)) W (wf.rng _).1 (wf.rng _).2 m3)
  change Calls _ _ _ _ (fun e w' => e = .returned (hdrOf (wd h.words n) (wd h.words (n + 1)) (wd h.words (n + 2))).val ∧ Ext w w')
  have hl := lt_of_block ha.blk
  have hl2 := row_lt ha.words
  have A1 := Lib.hid ha.blk
  have K0 := Lib.hid k0
  have K1 := Lib.hid k1
  have K2 := Lib.hid k2
  clear k0 k1 k2
  generalize wd h.words n = x0 at *
  generalize wd h.words (n + 1) = x1 at *
  generalize wd h.words (n + 2) = x2 at *
  generalize hdrOf x0 x1 x2 = H at *
  obtain ⟨A, B, C, c, s⟩ := H
  simp only [Hdr.val, Hdr.cells] at HU ⊢
  have hAA := arrayAt_119
  have q0 : (n : Int) + 3 ≤ (h.words.length : Int) := by omega
  have q1 : (n : Int) < (h.words.length : Int) := by omega
  have q2 : (n : Int) + 1 < (h.words.length : Int) := by omega
  have q3 : (n : Int) + 2 < (h.words.length : Int) := by omega
  have q4 : n < h.words.length := by omega
  have v1 : IntKind.i64.wrap ((n : Int) + 1) = (n : Int) + 1 := by rw [IntKind.wrap_i64]; omega
  have v2 : IntKind.i64.wrap ((n : Int) + 2) = (n : Int) + 2 := by rw [IntKind.wrap_i64]; omega
  have q5 : (0 : Int) ≤ (n : Int) + 1 := by omega
  have q6 : (0 : Int) ≤ (n : Int) + 2 := by omega
  have q7 : ((n : Int) + 1).toNat = n + 1 := by omega
  have q8 : ((n : Int) + 2).toNat = n + 2 := by omega
  clear ha wf m3 hmem ho
  have KP : Hid (∀ W, Ext w W → (∀ i, W.cell? ⟨L.b, i, none⟩ = (#[.int .i64 h.size, .slice (some ⟨L.gw, 0, none⟩) h.words.length L.cw, rv, .int .u32 h.last, .slice (some ⟨L.gs, 0, none⟩) h.starts.length L.cs] : Array Value)[i]?) ∧ W.cell? ⟨L.gw, n, none⟩ = some (.int .u32 x0) ∧ W.cell? ⟨L.gw, n + 1, none⟩ = some (.int .u32 x1) ∧ W.cell? ⟨L.gw, n + 2, none⟩ = some (.int .u32 x2)) := by
    intro W hE
    refine ⟨(blk (hE.keep A1.out)).1, ?_, ?_, ?_⟩
    · rw [hE.cell (p := ⟨L.gw, n, none⟩) hl2]; exact K0.out
    · rw [hE.cell (p := ⟨L.gw, n + 1, none⟩) hl2]; exact K1.out
    · rw [hE.cell (p := ⟨L.gw, n + 2, none⟩) hl2]; exact K2.out
  have E0 := Lib.hid ((Ext.refl w).alloc (Obj.cells #[Value.int IntKind.i64 0, Value.int IntKind.i64 0, Value.int IntKind.i64 0, Value.int IntKind.u32 0, Value.int IntKind.u32 0] 65))
  have N0 := Lib.hid (newB w (Obj.cells #[Value.int IntKind.i64 0, Value.int IntKind.i64 0, Value.int IntKind.i64 0, Value.int IntKind.u32 0, Value.int IntKind.u32 0] 65) _ rfl)
  go_enter Tryz.func64, Tryz.ntmps64
  go_wp2
  obtain ⟨W0, hW0⟩ : ∃ W0, W0 = w.alloc (Obj.cells #[Value.int IntKind.i64 0, Value.int IntKind.i64 0, Value.int IntKind.i64 0, Value.int IntKind.u32 0, Value.int IntKind.u32 0] 65) := ⟨_, rfl⟩
  rw [← hW0] at E0 N0 ⊢
  clear hW0
  have KE : Hid (∀ W, Ext W0 W → _ ∧ Ext W0 W) := fun W hE => ⟨KP.out W (E0.out.trans hE), hE⟩
  go_region_held3 (fun w' => ((∀ i, w'.cell? ⟨L.b, i, none⟩ = (#[.int .i64 h.size, .slice (some ⟨L.gw, 0, none⟩) h.words.length L.cw, rv, .int .u32 h.last, .slice (some ⟨L.gs, 0, none⟩) h.starts.length L.cs] : Array Value)[i]?) ∧ w'.cell? ⟨L.gw, n, none⟩ = some (.int .u32 x0) ∧ w'.cell? ⟨L.gw, n + 1, none⟩ = some (.int .u32 x1) ∧ w'.cell? ⟨L.gw, n + 2, none⟩ = some (.int .u32 x2)) ∧ Ext W0 w') (first | with_reducible exact KE.out _ (Ext.refl W0).drew | with_reducible exact KE.out _ ((Ext.refl W0).alloc hdr0).drew | with_reducible exact KE.out _ ((Ext.refl W0).drew.trans hb) | with_reducible exact KE.out _ (((Ext.refl W0).alloc hdr0).drew.trans hb) | with_reducible exact KE.out _ (((Ext.refl W0).drew.trans hb).alloc hdr0) | with_reducible exact KE.out _ (((Ext.refl W0).drew.trans hb).alloc (Obj.cells #[.int .i64 A, .int .i64 B, .int .i64 C, .int .u32 c, .int .u32 s] 65)) | with_reducible exact KE.out _ (ext_set5 (((Ext.refl W0).alloc hdr0).drew.trans hb) (Nat.le_refl _) (.int .i64 A) (.int .i64 B) (.int .i64 C) (.int .u32 c) (.int .u32 s)))
    ((go_at_call 45; refine (HU.out _).mono ?_; rintro e w' ⟨rfl, hb⟩; (first | (obtain ⟨t0, t1, t2, t3, t4, t5⟩ := box5 (hb.keep (show (W0.alloc _).drew.heap[W0.heap.size]? = some _ from newB W0 _ _ rfl))) | skip)))
  · obtain ⟨W9, hW9⟩ : ∃ W, W = w'.alloc (Obj.cells #[.int .i64 A, .int .i64 B, .int .i64 C, .int .u32 c, .int .u32 s] 65) := ⟨_, rfl⟩
    rw [← hW9]
    have X9 : Ext W0 W9 ∧ W9.heap[w'.heap.size]? = some (Obj.cells #[.int .i64 A, .int .i64 B, .int .i64 C, .int .u32 c, .int .u32 s] 65) := by
      rw [hW9]; exact ⟨((Ext.refl W0).drew.trans hb).alloc _, newB _ _ _ rfl⟩
    clear hW9 hb
    obtain ⟨x1, x2⟩ := X9
    generalize w'.heap.size = n9 at *
    have X := Lib.hid x1
    have lz : w.heap.size < W9.heap.size := lt_of_block (x1.keep N0.out)
    obtain ⟨n1, n2⟩ := blk (x1.keep N0.out)
    obtain ⟨d1, d2⟩ := blk x2
    clear x1 x2
    go_wp2
    refine bodyPost_ret (v := .agg #[.int .i64 A, .int .i64 B, .int .i64 C, .int .u32 c, .int .u32 s]) (by simp [results, Tryz.results64, go_sem, n1]) rfl ⟨rfl, ?_⟩
    exact ext_set5 (E0.out.trans X.out) (Nat.le_refl _) _ _ _ _ _
  · obtain ⟨W9, hW9⟩ : ∃ W, W = ((((w'.setCell ⟨W0.heap.size, 0, none⟩ (.int .i64 A)).setCell ⟨W0.heap.size, 1, none⟩ (.int .i64 B)).setCell ⟨W0.heap.size, 2, none⟩ (.int .i64 C)).setCell ⟨W0.heap.size, 3, none⟩ (.int .u32 c)).setCell ⟨W0.heap.size, 4, none⟩ (.int .u32 s) := ⟨_, rfl⟩
    rw [← hW9]
    have X9 : Ext W0 W9 ∧ W9.heap[W0.heap.size]? = some (Obj.cells #[.int .i64 A, .int .i64 B, .int .i64 C, .int .u32 c, .int .u32 s] 65) := by
      rw [hW9]; exact ⟨ext_set5 (((Ext.refl W0).alloc hdr0).drew.trans hb) (Nat.le_refl _) _ _ _ _ _, box_set5 (hb.keep (show (W0.alloc _).drew.heap[W0.heap.size]? = some _ from newB W0 _ _ rfl)) _ _ _ _ _⟩
    clear hW9 hb t0 t1 t2 t3 t4 t5
    obtain ⟨x1, x2⟩ := X9
    generalize W0.heap.size = n9 at *
    have X := Lib.hid x1
    have lz : w.heap.size < W9.heap.size := lt_of_block (x1.keep N0.out)
    obtain ⟨n1, n2⟩ := blk (x1.keep N0.out)
    obtain ⟨d1, d2⟩ := blk x2
    clear x1 x2
    go_wp2
    refine bodyPost_ret (v := .agg #[.int .i64 A, .int .i64 B, .int .i64 C, .int .u32 c, .int .u32 s]) (by simp [results, Tryz.results64, go_sem, n1]) rfl ⟨rfl, ?_⟩
    exact ext_set5 (E0.out.trans X.out) (Nat.le_refl _) _ _ _ _ _

end Go.Proofs.Eff
