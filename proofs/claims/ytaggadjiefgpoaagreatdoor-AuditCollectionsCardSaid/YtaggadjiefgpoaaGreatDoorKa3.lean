/- ref24.Collection. ref24.Collection, loop 4: plain laws. ref24.Collection with no heap on one side. -/
import Derived.Test.YtaggadjiefgpoaaGreatDoorSt8
import Derived.Test.YtaggadjiefgpoaaGreatDoorKa2
import Derived.BigQuiet
namespace Go.Proofs.Eff
open Go.RowKit

theorem find60' (k a : Int) (w : World) : Calls Tryz.prog 60 #[.int .i64 k, .int .i64 a] w fun e w' => e = .returned (.agg #[.int .i64 k, .int .i64 a]) ∧ Ext w w' := by
  go_enter Tryz.func60, Tryz.ntmps60
  go_wp2
  exact bodyPost_ret (v := .agg #[.int .i64 k, .int .i64 a]) (by simp [results, Tryz.results60, go_sem]) rfl ⟨rfl, (Ext.refl _).alloc _⟩
theorem look136 {W : World} {mb : Nat} {ws l : List Int} (hm : MapAt W mb .u32 (serT ws l)) (s : Int) : (Instr.lookup 136 (.map (some mb)) (.int .u32 s) false).run Tryz.prog W = .ok (.bool ((l.map (serO ws)).contains s)) W := by
  have hz : ∀ w, (zeroValue 4).run Tryz.prog w = .ok (.bool false) w := fun w => by kernel_rfl
  have := run_lookup_at (P := Tryz.prog) W Tryz.underlying136 Tryz.underlying24 hm (.bool false) hz s
  rw [aget_serT] at this; exact this

section
variable {w : World} {L1 L2 : HLoc} {h1 h2 : HeapS} {os1 os2 : List Nat}

set_option maxRecDepth 100000 in
set_option maxHeartbeats 4000000 in
theorem RColl_size (r1 : RefFull w L1 h1) (r2 : RefFull w L2 h2) (hq : ¬ (h1.size = h2.size ∧ h1.last = h2.last)) :
    Calls Tryz.prog 16 #[.pointer (some ⟨L1.b, 0, none⟩), .pointer (some ⟨L2.b, 0, none⟩)] w (FindR w (collF h1 os1 h2 os2)) := by
  have HF : Hid (collF h1 os1 h2 os2 = (10, 0)) := by
    show collF _ _ _ _ = _
    unfold collF; rw [if_neg hq]
  rw [HF.out]
  have A0 : Hid (Ext w (w.alloc (.cells #[.int .i64 0, .int .i64 0] 51))) := (Ext.refl w).alloc _
  have RB0 : Hid ((w.alloc (.cells #[.int .i64 0, .int .i64 0] 51)).heap[w.heap.size]? = some (.cells #[.int .i64 0, .int .i64 0] 51)) := newB _ _ _ rfl
  obtain ⟨b1, b2⟩ := blk (A0.out.keep r1.ref.blk)
  obtain ⟨c1, c2⟩ := blk (A0.out.keep r2.ref.blk)
  clear r1 r2 HF
  have key : (h1.size != h2.size) = true ∨ ((h1.size != h2.size) = false ∧ (h1.last != h2.last) = true) := by
    by_cases e : h1.size = h2.size
    · right; exact ⟨by simpa using e, by simp only [bne_iff_ne, ne_eq]; exact fun e2 => hq ⟨e, e2⟩⟩
    · left; simpa using e
  clear hq
  rcases key with k1 | ⟨k1, k2⟩
  all_goals
    go_enter Tryz.func16, Tryz.ntmps16
    go_wp2
    generalize w.alloc (.cells #[.int .i64 0, .int .i64 0] 51) = W0 at *
    go_quiet (fail)
    have XN : Ext W0 (W0.drewN nq) := (Ext.refl W0).drewN nq
    have XW := Lib.hid (A0.out.trans XN)
    have RB1 := Lib.hid (XN.keep RB0.out)
    clear XN A0 RB0 b1 b2 c1 c2
    generalize W0.drewN nq = W1 at *
    obtain ⟨rb, hrb⟩ : ∃ n, n = w.heap.size := ⟨_, rfl⟩
    rw [← hrb] at RB1 ⊢
    have hrb1 : w.heap.size ≤ rb := by omega
    clear hrb
    go_wp2_with (go_at_call 60; refine (find60' _ _ _).mono ?_; rintro e w2 ⟨rfl, hb2⟩; have B2 := Lib.hid hb2; obtain ⟨y1, y2⟩ := blk (hb2.keep RB1.out); clear hb2)
    have hZ := set2 (B2.out.keep RB1.out) (.int .i64 10) (.int .i64 0)
    have XF : Ext w ((w2.setCell ⟨rb, 0, none⟩ (.int .i64 10)).setCell ⟨rb, 1, none⟩ (.int .i64 0)) := (Ext.setCell (XW.out.trans B2.out) (p := ⟨rb, 0, none⟩) hrb1 _).setCell (p := ⟨rb, 1, none⟩) hrb1 _
    generalize (w2.setCell ⟨rb, 0, none⟩ (.int .i64 10)).setCell ⟨rb, 1, none⟩ (.int .i64 0) = Z at *
    obtain ⟨z1, z2⟩ := blk hZ
    exact bodyPost_ret (v := .agg #[.int .i64 10, .int .i64 0]) (by simp [results, Tryz.results16, go_sem, z1]) rfl ⟨rfl, XF⟩
end
end Go.Proofs.Eff

namespace Go.Proofs.Eff
open Go.RowKit

theorem hdrOf_inj {a b c c' s s' : Int} (h1 : okW a = true) (h2 : okW b = true) (h : hdrOf a c s = hdrOf b c' s') : a = b ∧ c = c' ∧ s = s' := by
  simp only [okW, Bool.and_eq_true, beq_iff_eq] at h1 h2
  simp only [hdrOf, Hdr.mk.injEq] at h
  obtain ⟨e1, e2, e3, e4, e5⟩ := h
  refine ⟨?_, e4, e5⟩
  have := h1.2; have := h2.2
  omega
theorem alike_iff {ws1 ws2 : List Int} {a b : Nat} (h1 : a + 3 + sizeAt ws1 a ≤ ws1.length) (h2 : b + 3 + sizeAt ws2 b ≤ ws2.length) (o1 : okW (wd ws1 a) = true) (o2 : okW (wd ws2 b) = true) :
    alikeB ws1 a ws2 b = true ↔ sizeAt ws1 a = sizeAt ws2 b ∧ ∀ j, j < 3 + sizeAt ws1 a → wd ws1 (a + j) = wd ws2 (b + j) := by
  unfold alikeB
  rw [Bool.and_eq_true, decide_eq_true_eq, decide_eq_true_eq]
  constructor
  · rintro ⟨e1, e2⟩
    obtain ⟨q0, q1, q2⟩ := hdrOf_inj o1 o2 e1
    have hs : sizeAt ws1 a = sizeAt ws2 b := by unfold sizeAt; rw [q0]
    refine ⟨hs, fun j hj => ?_⟩
    have hf := (fields_eq_iff h1 h2 hs).1 e2
    by_cases j0 : j = 0
    · subst j0; simpa using q0
    by_cases j1 : j = 1
    · subst j1; exact q1
    by_cases j2 : j = 2
    · subst j2; exact q2
    have := hf (j - 3) (by omega)
    rw [show a + 3 + (j - 3) = a + j by omega, show b + 3 + (j - 3) = b + j by omega] at this
    exact this
  · rintro ⟨hs, hj⟩
    refine ⟨?_, (fields_eq_iff h1 h2 hs).2 fun j hj2 => ?_⟩
    · unfold hdrAt
      rw [hj 1 (by omega), hj 2 (by omega)]
      have := hj 0 (by omega)
      simp only [Nat.add_zero] at this
      rw [this]
    · have := hj (3 + j) (by omega)
      rw [show a + (3 + j) = a + 3 + j by omega, show b + (3 + j) = b + 3 + j by omega] at this
      exact this
theorem laid_drop {ws : List Int} {os : List Nat} {a k : Nat} (h : Laid ws a (os.drop k)) (hk : k < os.length) : os[k] = a ∧ a + 3 + sizeAt ws a ≤ ws.length ∧ okW (wd ws a) = true ∧ Laid ws (a + 3 + sizeAt ws a) (os.drop (k + 1)) := by
  rw [List.drop_eq_getElem_cons hk] at h
  exact h
theorem wd_oops {os : List Nat} {k : Nat} (hk : k < os.length) : wd (oopsOf os) k = 2 * (os[k] : Int) := by simp [wd, oopsOf, hk]

/-- Up to here the objects of both lie at the same places, and the next begins there. -/
structure Abreast (ws1 : List Int) (os1 : List Nat) (ws2 : List Int) (os2 : List Nat) (k a : Nat) : Prop where
  l1 : Laid ws1 a (os1.drop k)
  l2 : Laid ws2 a (os2.drop k)
  pos : a ≤ ws1.length
/-- What is known of the next. -/
structure Next4 (ws1 : List Int) (os1 : List Nat) (ws2 : List Int) (os2 : List Nat) (k a : Nat) : Prop where
  from2 : wd (oopsOf os2) k = 2 * (a : Int)
  e1 : a + 3 + sizeAt ws1 a ≤ ws1.length
  e2 : a + 3 + sizeAt ws2 a ≤ ws2.length
  pa : pA ws1 (oopsOf os1) ws2 (oopsOf os2) k = !decide (sizeAt ws1 a = sizeAt ws2 a ∧ ∀ j, j < 3 + sizeAt ws1 a → wd ws1 (a + j) = wd ws2 (a + j))
  next : sizeAt ws1 a = sizeAt ws2 a → Abreast ws1 os1 ws2 os2 (k + 1) (a + 3 + sizeAt ws2 a)
theorem Abreast.start {h1 h2 : HeapS} {os1 os2 : List Nat} (wf1 : WF h1 os1) (wf2 : WF h2 os2) : Abreast h1.words os1 h2.words os2 0 1 := ⟨wf1.laid, wf2.laid, wf1.pos⟩
theorem Abreast.at_ {ws1 ws2 : List Int} {os1 os2 : List Nat} {k a : Nat} (h : Abreast ws1 os1 ws2 os2 k a) (k1 : k < os1.length) (k2 : k < os2.length) : Next4 ws1 os1 ws2 os2 k a := by
  obtain ⟨a1, a2, a3, a4⟩ := laid_drop h.l1 k1
  obtain ⟨b1, b2, b3, b4⟩ := laid_drop h.l2 k2
  refine ⟨by rw [wd_oops k2, b1], a2, b2, ?_, ?_⟩
  · unfold pA
    rw [wd_oops k1, wd_oops k2, a1, b1, show (2 * (a : Int) / 2).toNat = a by omega]
    congr 1
    rw [Bool.eq_iff_iff, alike_iff a2 b2 a3 b3, decide_eq_true_eq]
  · intro hs
    refine ⟨?_, b4, by omega⟩
    rw [← hs]; exact a4
end Go.Proofs.Eff

namespace Go.Proofs.Eff
open Go.RowKit

section
variable {w : World} {L : HLoc} {h : HeapS}

set_option maxRecDepth 100000 in
set_option maxHeartbeats 4000000 in
theorem RColl_nil2 (r1 : RefFull w L h) (h64 : 64 ≤ h.size) :
    Calls Tryz.prog 16 #[.pointer (some ⟨L.b, 0, none⟩), .pointer none] w (FindR w (10, 0)) := by
  have A0 : Hid (Ext w (w.alloc (.cells #[.int .i64 0, .int .i64 0] 51))) := (Ext.refl w).alloc _
  have RB0 : Hid ((w.alloc (.cells #[.int .i64 0, .int .i64 0] 51)).heap[w.heap.size]? = some (.cells #[.int .i64 0, .int .i64 0] 51)) := newB _ _ _ rfl
  have R1 := Lib.hid r1
  have k1 : (h.size != 0) = true := by rw [bne_iff_ne]; omega
  clear r1
  go_enter Tryz.func16, Tryz.ntmps16
  go_wp2_with fail
  generalize w.alloc (.cells #[.int .i64 0, .int .i64 0] 51) = W0 at *
  refine empty59.mono ?_
  rintro e W1 ⟨⟨LN, rfl, hN⟩, hE1⟩
  have XW := Lib.hid (A0.out.trans hE1)
  have RB1 := Lib.hid (hE1.keep RB0.out)
  obtain ⟨b1, b2⟩ := blk (XW.out.keep R1.out.ref.blk)
  obtain ⟨c1, c2⟩ := blk hN.blk
  have hn0 : nilH.size = 0 := rfl
  rw [hn0] at c1
  clear A0 RB0 hE1
  obtain ⟨rb, hrb⟩ : ∃ n, n = w.heap.size := ⟨_, rfl⟩
  rw [← hrb] at RB1 ⊢
  have hrb1 : w.heap.size ≤ rb := by omega
  clear hrb
  go_wp2_with fail
  go_quiet (fail)
  have XN : Ext W1 (W1.drewN nq) := (Ext.refl W1).drewN nq
  have XW2 := Lib.hid (XW.out.trans XN)
  have RB2 := Lib.hid (XN.keep RB1.out)
  clear XN XW RB1 b1 b2 c1 c2
  generalize W1.drewN nq = W2 at *
  go_wp2_with (go_at_call 60; refine (find60' _ _ _).mono ?_; rintro e w2 ⟨rfl, hb2⟩; have B2 := Lib.hid hb2; obtain ⟨y1, y2⟩ := blk (hb2.keep RB2.out); clear hb2)
  have hZ := set2 (B2.out.keep RB2.out) (.int .i64 10) (.int .i64 0)
  have XF : Ext w ((w2.setCell ⟨rb, 0, none⟩ (.int .i64 10)).setCell ⟨rb, 1, none⟩ (.int .i64 0)) := (Ext.setCell (XW2.out.trans B2.out) (p := ⟨rb, 0, none⟩) hrb1 _).setCell (p := ⟨rb, 1, none⟩) hrb1 _
  generalize (w2.setCell ⟨rb, 0, none⟩ (.int .i64 10)).setCell ⟨rb, 1, none⟩ (.int .i64 0) = Z at *
  obtain ⟨z1, z2⟩ := blk hZ
  exact bodyPost_ret (v := .agg #[.int .i64 10, .int .i64 0]) (by simp [results, Tryz.results16, go_sem, z1]) rfl ⟨rfl, XF⟩

set_option maxRecDepth 100000 in
set_option maxHeartbeats 4000000 in
theorem RColl_nil1 (r1 : RefFull w L h) (h64 : 64 ≤ h.size) :
    Calls Tryz.prog 16 #[.pointer none, .pointer (some ⟨L.b, 0, none⟩)] w (FindR w (10, 0)) := by
  have A0 : Hid (Ext w (w.alloc (.cells #[.int .i64 0, .int .i64 0] 51))) := (Ext.refl w).alloc _
  have RB0 : Hid ((w.alloc (.cells #[.int .i64 0, .int .i64 0] 51)).heap[w.heap.size]? = some (.cells #[.int .i64 0, .int .i64 0] 51)) := newB _ _ _ rfl
  have R1 := Lib.hid r1
  have k1 : ((0 : Int) != h.size) = true := by rw [bne_iff_ne]; omega
  clear r1
  go_enter Tryz.func16, Tryz.ntmps16
  go_wp2_with fail
  generalize w.alloc (.cells #[.int .i64 0, .int .i64 0] 51) = W0 at *
  refine empty59.mono ?_
  rintro e W1 ⟨⟨LN, rfl, hN⟩, hE1⟩
  have XW := Lib.hid (A0.out.trans hE1)
  have RB1 := Lib.hid (hE1.keep RB0.out)
  obtain ⟨b1, b2⟩ := blk (XW.out.keep R1.out.ref.blk)
  obtain ⟨c1, c2⟩ := blk hN.blk
  have hn0 : nilH.size = 0 := rfl
  rw [hn0] at c1
  clear A0 RB0 hE1
  obtain ⟨rb, hrb⟩ : ∃ n, n = w.heap.size := ⟨_, rfl⟩
  rw [← hrb] at RB1 ⊢
  have hrb1 : w.heap.size ≤ rb := by omega
  clear hrb
  go_wp2_with fail
  go_quiet (fail)
  have XN : Ext W1 (W1.drewN nq) := (Ext.refl W1).drewN nq
  have XW2 := Lib.hid (XW.out.trans XN)
  have RB2 := Lib.hid (XN.keep RB1.out)
  clear XN XW RB1 b1 b2 c1 c2
  generalize W1.drewN nq = W2 at *
  go_wp2_with (go_at_call 60; refine (find60' _ _ _).mono ?_; rintro e w2 ⟨rfl, hb2⟩; have B2 := Lib.hid hb2; obtain ⟨y1, y2⟩ := blk (hb2.keep RB2.out); clear hb2)
  have hZ := set2 (B2.out.keep RB2.out) (.int .i64 10) (.int .i64 0)
  have XF : Ext w ((w2.setCell ⟨rb, 0, none⟩ (.int .i64 10)).setCell ⟨rb, 1, none⟩ (.int .i64 0)) := (Ext.setCell (XW2.out.trans B2.out) (p := ⟨rb, 0, none⟩) hrb1 _).setCell (p := ⟨rb, 1, none⟩) hrb1 _
  generalize (w2.setCell ⟨rb, 0, none⟩ (.int .i64 10)).setCell ⟨rb, 1, none⟩ (.int .i64 0) = Z at *
  obtain ⟨z1, z2⟩ := blk hZ
  exact bodyPost_ret (v := .agg #[.int .i64 10, .int .i64 0]) (by simp [results, Tryz.results16, go_sem, z1]) rfl ⟨rfl, XF⟩
end
end Go.Proofs.Eff
