/- ref24.Collection: the walk. -/
import Derived.Test.YtaggadjiefgpoaaGreatDoorKa3
import Derived.Deep.DeepCutAuto
namespace Go.Proofs.Eff
open Go.RowKit

theorem hdr_val (ws : List Int) (a : Nat) : ∃ b c d, (hdrAt ws a).val = .agg #[.int .i64 (hdrAt ws a).size, .int .i64 b, .int .i64 c, .int .u32 d, .int .u32 (serAt ws a)] := ⟨_, _, _, rfl⟩
theorem ser64 {w : World} {L : HLoc} {rv : Value} {h : HeapS} {os : List Nat} (ha : RefAt w L rv h) (wf : WFR h os) (o : Int) (h0 : 0 ≤ o) (h1 : o < 4294967296) (ho : isO os o = true) :
    Calls Tryz.prog 64 #[.pointer (some ⟨L.b, 0, none⟩), .int .u32 o] w fun e w' => (∃ b c d, e = .returned (.agg #[.int .i64 (sizeAt h.words (o / 2).toNat), .int .i64 b, .int .i64 c, .int .u32 d, .int .u32 (serO h.words o)])) ∧ Ext w w' := by
  have hz : (hdrAt h.words (o / 2).toNat).size = sizeAt h.words (o / 2).toNat := by have := (wf.rng (o / 2).toNat).1; simp [hdrAt, hdrOf, sizeAt]; omega
  obtain ⟨b, c, d, hv⟩ := hdr_val h.words (o / 2).toNat
  rw [hz] at hv
  have := header64 ha wf o h0 h1 ho
  rw [hv] at this
  exact this.mono fun e w' hh => ⟨⟨b, c, d, hh.1⟩, hh.2⟩

/-- A store that a variable holds. -/
structure StBox (W0 w : World) (n g c g2 c2 : Nat) (ws rs : List Int) : Prop where
  ext : Ext W0 w
  lt : n < w.heap.size
  c0 : w.cell? ⟨n, 0, none⟩ = some (.slice (some ⟨g, 0, none⟩) ws.length c)
  c1 : w.cell? ⟨n, 1, none⟩ = some (.slice (some ⟨g2, 0, none⟩) rs.length c2)
  words : w.ownsRow 0 24 1 (.slice (some ⟨g, 0, none⟩) ws.length c) ws.length (u32s ws)
  roots : w.ownsRow 0 41 1 (.slice (some ⟨g2, 0, none⟩) rs.length c2) rs.length (u32s rs)
theorem StBox.keep {W0 w W : World} {n g c g2 c2 : Nat} {ws rs : List Int} (h : StBox W0 w n g c g2 c2 ws rs) (hE : Ext w W) : StBox W0 W n g c g2 c2 ws rs :=
  ⟨h.ext.trans hE, Nat.lt_of_lt_of_le h.lt hE.size, by rw [hE.cell (p := ⟨n, 0, none⟩) h.lt]; exact h.c0, by rw [hE.cell (p := ⟨n, 1, none⟩) h.lt]; exact h.c1, row_keep h.words hE, row_keep h.roots hE⟩
/-- What is owned from there on is owned still. -/
def Above (base : Nat) (w W : World) : Prop := ∀ (e : TypeId) (size : Nat) (v : Value) (n : Nat) (xs : List Value), w.ownsRow base e size v n xs → W.ownsRow base e size v n xs
theorem Above.refl (base : Nat) (w : World) : Above base w w := fun _ _ _ _ _ h => h
theorem Above.alloc {base : Nat} {w W : World} (h : Above base w W) (o : Obj) : Above base w (W.alloc o) := fun _ _ _ _ _ hr => row_keep (h _ _ _ _ _ hr) ((Ext.refl _).alloc _)
theorem Above.drew {base : Nat} {w W : World} (h : Above base w W) : Above base w W.drew := fun _ _ _ _ _ hr => row_keep (h _ _ _ _ _ hr) (Ext.refl _).drew
theorem Above.setCell {base : Nat} {w W : World} (h : Above base w W) {p : Addr} (hp : p.block < base) (u : Value) : Above base w (W.setCell p u) := fun _ _ _ _ _ hr => ownsRow_setCell_below (h _ _ _ _ _ hr) hp u

section
variable {w : World} {L1 L2 : HLoc} {h1 h2 : HeapS} {os1 os2 : List Nat}

set_option maxRecDepth 100000 in
set_option maxHeartbeats 8000000 in
theorem RColl_main (r1 : RefFull w L1 h1) (wf1 : WF h1 os1) (so1 : Sound h1 os1) (r2 : RefFull w L2 h2) (wf2 : WF h2 os2) (so2 : Sound h2 os2) (hq1 : h1.size = h2.size) (hq2 : h1.last = h2.last) :
    Calls Tryz.prog 16 #[.pointer (some ⟨L1.b, 0, none⟩), .pointer (some ⟨L2.b, 0, none⟩)] w (FindR w (collF h1 os1 h2 os2)) := by
  have k1 : (h1.size != h2.size) = false := by simpa using hq1
  have k2 : (h1.last != h2.last) = false := by simpa using hq2
  have HF : Hid (collF h1 os1 h2 os2 = cF1 11 h1.words (liveOf h1 os1) h2.words (oopsOf os2) (cF1 12 h2.words (oopsOf os2) h1.words (liveOf h1 os1)
      (cF3 h1.words (liveOf h1 os1) h2.words (oopsOf os2) (cF4 (wordsC h1 os1) (oopsOf (osC h1 os1)) h2.words (oopsOf os2) (cF5 (rootsC h1 os1) h2.roots))))) := by
    show collF _ _ _ _ = _
    unfold collF; rw [if_pos ⟨hq1, hq2⟩]
  have LIV := Lib.hid (fun W (hE : Ext w W) => Live61 (r1.keep hE).st wf1 so1)
  have OBJ := Lib.hid (fun W (hE : Ext w W) => objects62 (r2.keep hE).ref wf2.wfr)
  have lv := live_valid wf1 so1
  have ov := oops_valid wf2
  have ol1 := reach_le wf1
  have ol2 := reach_le wf2
  have LN1 := Lib.hid (live_nodup wf1 so1)
  have LN2 := Lib.hid (oops_nodup so2)
  have hl1 : (liveOf h1 os1).length ≤ 1048576 := by omega
  have hl2 : (oopsOf os2).length ≤ 1048576 := by rw [oopsOf_length]; omega
  have SE1 := Lib.hid (fun W (hE : Ext w W) v base hr => serials63 (r1.keep hE).ref wf1.wfr v (liveOf h1 os1) base hr lv.2.1 LN1.out hl1)
  have SE2 := Lib.hid (fun W (hE : Ext w W) v base hr => serials63 (r2.keep hE).ref wf2.wfr v (oopsOf os2) base hr ov LN2.out hl2)
  have SR1 := Lib.hid (fun W (hE : Ext w W) (k : Nat) (hk : k < (liveOf h1 os1).length) => ser64 (r1.keep hE).ref wf1.wfr (wd (liveOf h1 os1) k) (lv.2.1 _ (wd_mem hk)).2.1 (lv.2.1 _ (wd_mem hk)).2.2 (lv.2.1 _ (wd_mem hk)).1)
  have SR2 := Lib.hid (fun W (hE : Ext w W) (k : Nat) (hk : k < (oopsOf os2).length) => ser64 (r2.keep hE).ref wf2.wfr (wd (oopsOf os2) k) (ov _ (wd_mem hk)).2.1 (ov _ (wd_mem hk)).2.2 (ov _ (wd_mem hk)).1)
  have SB1 : Hid (∀ x, 0 ≤ serO h1.words x ∧ serO h1.words x < 4294967296) := fun x => wf1.word _
  have SB2 : Hid (∀ x, 0 ≤ serO h2.words x ∧ serO h2.words x < 4294967296) := fun x => wf2.word _
  have HA1 := Lib.hid r1
  have HA2 := Lib.hid r2
  have HW1 := Lib.hid wf1
  have HW2 := Lib.hid wf2
  have HSO1 := Lib.hid so1
  have HSO2 := Lib.hid so2
  have OV := Lib.hid ov
  have LLC : Hid ((osC h1 os1).length = (liveOf h1 os1).length) := by
    have := congrArg List.length (serC wf1 so1)
    show List.length _ = _
    simpa using this
  rw [HF.out]
  have A0 : Hid (Ext w (w.alloc (.cells #[.int .i64 0, .int .i64 0] 51))) := (Ext.refl w).alloc _
  have RB0 : Hid ((w.alloc (.cells #[.int .i64 0, .int .i64 0] 51)).heap[w.heap.size]? = some (.cells #[.int .i64 0, .int .i64 0] 51)) := newB _ _ _ rfl
  obtain ⟨b1, b2⟩ := blk (A0.out.keep r1.ref.blk)
  obtain ⟨c1, c2⟩ := blk (A0.out.keep r2.ref.blk)
  clear r1 r2 wf1 wf2 so1 so2 hq1 hq2 HF lv ov ol1 ol2
  obtain ⟨LV, hLV⟩ : ∃ l, l = liveOf h1 os1 := ⟨_, rfl⟩
  obtain ⟨LF, hLF⟩ : ∃ l, l = oopsOf os2 := ⟨_, rfl⟩
  rw [← hLV] at hl1 LIV SE1 SR1 LN1 LLC ⊢
  rw [← hLF] at hl2 OBJ SE2 SR2 LN2 OV ⊢
  have HLV := Lib.hid hLV
  have HLF := Lib.hid hLF
  clear hLV hLF
  obtain ⟨r, hr⟩ : ∃ r, r = cF1 11 h1.words LV h2.words LF (cF1 12 h2.words LF h1.words LV (cF3 h1.words LV h2.words LF (cF4 (wordsC h1 os1) (oopsOf (osC h1 os1)) h2.words LF (cF5 (rootsC h1 os1) h2.roots)))) := ⟨_, rfl⟩
  rw [← hr]
  have HR10 := Lib.hid hr
  have hF4 := field65_4
  unfold stV at *
  clear hr
  go_enter Tryz.func16, Tryz.ntmps16
  go_wp2
  generalize w.alloc (.cells #[.int .i64 0, .int .i64 0] 51) = W0 at *
  go_quiet (fail)
  have XN : Ext W0 (W0.drewN nq) := (Ext.refl W0).drewN nq
  have XW := Lib.hid (A0.out.trans XN)
  have RB1 := Lib.hid (XN.keep RB0.out)
  clear XN A0 RB0 b1 b2 c1 c2
  generalize W0.drewN nq = W1 at *
  obtain ⟨rb, hrb⟩ : ∃ n, n = w.heap.size := ⟨_, rfl⟩
  rw [← hrb] at RB1 ⊢
  have hrb1 : w.heap.size ≤ rb := by omega
  clear hrb
  go_upto_region 7 with fail
  have KE : Hid (∀ W', Ext W1 W' → (∀ i, W'.cell? ⟨L1.b, i, none⟩ = (#[.int .i64 h1.size, .slice (some ⟨L1.gw, 0, none⟩) h1.words.length L1.cw, .slice (some ⟨L1.gr, 0, none⟩) h1.roots.length L1.cr, .int .u32 h1.last, .slice (some ⟨L1.gs, 0, none⟩) h1.starts.length L1.cs] : Array Value)[i]?) ∧ Ext W1 W') := fun W' hE => ⟨(blk ((HA1.out.keep (XW.out.trans hE)).ref.blk)).1, hE⟩
  go_region_held3 (fun w' => (∀ i, w'.cell? ⟨L1.b, i, none⟩ = (#[.int .i64 h1.size, .slice (some ⟨L1.gw, 0, none⟩) h1.words.length L1.cw, .slice (some ⟨L1.gr, 0, none⟩) h1.roots.length L1.cr, .int .u32 h1.last, .slice (some ⟨L1.gs, 0, none⟩) h1.starts.length L1.cs] : Array Value)[i]?) ∧ Ext W1 w')
    (first | exact KE.out _ (Ext.refl _).drew | exact KE.out _ (Ext.trans (‹_ ∧ Ext W1 _›).2 hba))
    (first | (go_at_call 61; refine (LIV.out _ (XW.out.trans (‹_ ∧ Ext W1 _›).2)).mono ?_; rintro e wa ⟨v1, rfl, hr1, hba⟩))
  have E7 := Lib.hid (XW.out.trans (‹_ ∧ Ext W1 _›).2)
  obtain ⟨ad1, c1, rfl, hd1⟩ := own_any hr1
  have R1 : Hid (wa.ownsRow w.heap.size 41 1 (.slice ad1 LV.length c1) LV.length (u32s LV)) := row_mono hr1 (by have := XW.out.size; simpa using this)
  have D1 := Lib.hid hd1
  have RB2 : Hid (wa.heap[rb]? = some (.cells #[.int .i64 0, .int .i64 0] 51)) := ((‹_ ∧ Ext W1 _›).2).keep RB1.out
  clear hr1 hd1 hba KE
  go_wp2_with fail
  refine (OBJ.out _ E7.out).mono ?_
  rintro e wb ⟨v2, rfl, hr2, hbb⟩
  obtain ⟨ad2, c2, rfl, hd2⟩ := own_any hr2
  have R2 := Lib.hid hr2
  have D2 := Lib.hid hd2
  have BB := Lib.hid hbb
  clear hr2 hd2 hbb
  go_wp2_with fail
  refine (SE2.out _ (E7.out.trans BB.out) _ _ R2.out).mono ?_
  rintro e wc ⟨m2, rfl, hmb2, hmp2, hbc⟩
  have P2 := Lib.hid hmp2
  have BC := Lib.hid hbc
  clear hmp2 hbc hmb2
  go_wp2_with fail
  refine (SE1.out _ ((E7.out.trans BB.out).trans BC.out) _ _ (row_keep R1.out (BB.out.trans BC.out))).mono ?_
  rintro e wx ⟨m1, rfl, hmb1, hmp1, hbd⟩
  have EX : Hid (Ext w wx) := ((E7.out.trans BB.out).trans BC.out).trans hbd
  have RB : Hid (wx.heap[rb]? = some (.cells #[.int .i64 0, .int .i64 0] 51)) := ((BB.out.trans BC.out).trans hbd).keep RB2.out
  have RX1 : Hid (wx.ownsRow w.heap.size 41 1 (.slice ad1 LV.length c1) LV.length (u32s LV)) := row_keep R1.out ((BB.out.trans BC.out).trans hbd)
  have RX2 : Hid (wx.ownsRow w.heap.size 41 1 (.slice ad2 LF.length c2) LF.length (u32s LF)) := row_mono (row_keep R2.out (BC.out.trans hbd)) E7.out.size
  have PX2 := Lib.hid (P2.out.keep hbd)
  have PX1 := Lib.hid hmp1
  clear hmp1 hbd hmb1 R1 R2 BB BC P2 RB1 RB2 E7 XW
  have AX1 : Hid (0 < LV.length → ∃ g, ad1 = some ⟨g, 0, none⟩) := fun h => by obtain ⟨g, hg, _⟩ := D1.out h; exact ⟨g, hg⟩
  have AX2 : Hid (0 < LF.length → ∃ g, ad2 = some ⟨g, 0, none⟩) := fun h => by obtain ⟨g, hg, _⟩ := D2.out h; exact ⟨g, hg⟩
  clear D1 D2
  go_wp2
  go_loopw [9] (fun i wr => ∃ (k : Nat), k ≤ LV.length ∧ i = .int .i64 k ∧ Ext wx wr ∧ NoneTo (pC h1.words LV h2.words LF) k) (fun i _ => LV.length - (intOf i).toNat)
  case atStart => exact ⟨0, by omega, rfl, Ext.refl _, NoneTo.zero _⟩
  case round =>
    obtain ⟨k, hk, rfl, hE, hN⟩ := hrel
    have E := Lib.hid hE
    have N := Lib.hid hN
    have EW := Lib.hid (EX.out.trans hE)
    clear hE hN
    by_cases hlt : k < LV.length
    · obtain ⟨g, rfl⟩ := AX1.out (by omega)
      have cx : wr.cell? ⟨g, k, none⟩ = some (.int .u32 (wd LV k)) := by
        rw [row_cell (row_keep RX1.out E.out) k hlt]; simp [u32s, wd, hlt]
      have hgl := row_lt (row_keep RX1.out E.out)
      have SRk := Lib.hid (fun W hE => SR1.out W (EW.out.trans hE) k hlt)
      have CXK : Hid (∀ W, Ext wr W → W.cell? ⟨g, k, none⟩ = some (.int .u32 (wd LV k))) := fun W hE => by
        rw [row_cell (row_keep RX1.out (E.out.trans hE)) k hlt]; simp [u32s, wd, hlt]
      have LK : Hid (∀ W, Ext wr W → (Instr.lookup 136 (.map (some m2)) (.int .u32 (serO h1.words (wd LV k))) false).run Tryz.prog W = .ok (.bool ((LF.map (serO h2.words)).contains (serO h1.words (wd LV k)))) W) := fun W hE => look136 (PX2.out.keep (E.out.trans hE)) _
      have hki : (k : Int) < (LV.length : Int) := by omega
      have hsb := SB1.out (wd LV k)
      cases hc : (LF.map (serO h2.words)).contains (serO h1.words (wd LV k)) with
      | true =>
        have NK : Hid (NoneTo (pC h1.words LV h2.words LF) (k + 1)) := N.out.succ (by unfold pC; rw [hc]; rfl)
        rw [hc] at LK
        clear hc
        generalize sizeAt h1.words (wd LV k / 2).toNat = sz at *
        generalize serO h1.words (wd LV k) = s at *
        generalize wd LV k = x at *
        go_wp2_with (go_at_call 64; refine (SRk.out _ (Ext.refl _)).mono ?_; rintro e w2 ⟨⟨q1, q2, q3, rfl⟩, hb2⟩; have B2 := Lib.hid hb2; have hlk := LK.out _ hb2; clear hb2)
        go_roundw
        case rel => exact ⟨k + 1, by omega, by go_num, E.out.trans B2.out, NK.out⟩
        case measure => simp [intOf]; omega
      | false =>
        have RK : Hid (r = (11, serO h1.words (wd LV k))) := HR10.out.trans (cF1_some _ hlt N.out (by unfold pC; rw [hc]; rfl))
        rw [hc] at LK
        clear hc
        generalize sizeAt h1.words (wd LV k / 2).toNat = sz at *
        generalize serO h1.words (wd LV k) = s at *
        generalize wd LV k = x at *
        have hws : IntKind.i64.wrap s = s := IntWalk.i64_in _ (by omega)
        have hB3 : Hid (∀ W, Ext wr W → W.heap[rb]? = some (.cells #[.int .i64 0, .int .i64 0] 51)) := fun W hE => (E.out.trans hE).keep RB.out
        go_wp2_with fail
        refine (SRk.out _ (Ext.refl _)).mono ?_
        rintro e w2 ⟨⟨q1, q2, q3, rfl⟩, hb2⟩
        have B2 := Lib.hid hb2
        have hlk := LK.out _ hb2
        have cx2 := CXK.out _ hb2
        clear hb2
        go_wp2_with fail
        refine (SRk.out _ B2.out).mono ?_
        rintro e w3 ⟨⟨q4, q5, q6, rfl⟩, hb3⟩
        have B3 := Lib.hid (B2.out.trans hb3)
        clear hb3
        go_wp2_with fail
        refine (find60' _ _ _).mono ?_
        rintro e w4 ⟨rfl, hb4⟩
        have B4 := Lib.hid (B3.out.trans hb4)
        obtain ⟨y1, y2⟩ := blk (hB3.out _ B4.out)
        clear hb4
        go_wp2
        have hZ := set2 (hB3.out _ B4.out) (.int .i64 11) (.int .i64 s)
        have XF : Ext w ((w4.setCell ⟨rb, 0, none⟩ (.int .i64 11)).setCell ⟨rb, 1, none⟩ (.int .i64 s)) := (Ext.setCell (EW.out.trans B4.out) (p := ⟨rb, 0, none⟩) hrb1 _).setCell (p := ⟨rb, 1, none⟩) hrb1 _
        generalize (w4.setCell ⟨rb, 0, none⟩ (.int .i64 11)).setCell ⟨rb, 1, none⟩ (.int .i64 s) = Z at *
        obtain ⟨z1, z2⟩ := blk hZ
        exact bodyPost_ret (v := .agg #[.int .i64 11, .int .i64 s]) (by simp [results, Tryz.results16, go_sem, z1]) rfl ⟨by rw [RK.out], XF⟩
    · obtain rfl : k = LV.length := by omega
      have HR11 := Lib.hid (HR10.out.trans (cF1_none _ N.out))
      have N11 := Lib.hid N.out
      have E11 := Lib.hid E.out
      generalize wr = wy11 at *
      go_wp2
      go_loopw [10] (fun i wr => ∃ (k : Nat), k ≤ LF.length ∧ i = .int .i64 k ∧ Ext wx wr ∧ NoneTo (pC h2.words LF h1.words LV) k) (fun i _ => LF.length - (intOf i).toNat)
      case atStart => exact ⟨0, by omega, rfl, E11.out, NoneTo.zero _⟩
      case round =>
        obtain ⟨k, hk, rfl, hE, hN⟩ := hrel
        have E := Lib.hid hE
        have N := Lib.hid hN
        have EW := Lib.hid (EX.out.trans hE)
        clear hE hN
        by_cases hlt : k < LF.length
        · obtain ⟨g, rfl⟩ := AX2.out (by omega)
          have cx : wr.cell? ⟨g, k, none⟩ = some (.int .u32 (wd LF k)) := by
            rw [row_cell (row_keep RX2.out E.out) k hlt]; simp [u32s, wd, hlt]
          have hgl := row_lt (row_keep RX2.out E.out)
          have SRk := Lib.hid (fun W hE => SR2.out W (EW.out.trans hE) k hlt)
          have CXK : Hid (∀ W, Ext wr W → W.cell? ⟨g, k, none⟩ = some (.int .u32 (wd LF k))) := fun W hE => by
            rw [row_cell (row_keep RX2.out (E.out.trans hE)) k hlt]; simp [u32s, wd, hlt]
          have LK : Hid (∀ W, Ext wr W → (Instr.lookup 136 (.map (some m1)) (.int .u32 (serO h2.words (wd LF k))) false).run Tryz.prog W = .ok (.bool ((LV.map (serO h1.words)).contains (serO h2.words (wd LF k)))) W) := fun W hE => look136 (PX1.out.keep (E.out.trans hE)) _
          have hki : (k : Int) < (LF.length : Int) := by omega
          have hsb := SB2.out (wd LF k)
          cases hc : (LV.map (serO h1.words)).contains (serO h2.words (wd LF k)) with
          | true =>
            have NK : Hid (NoneTo (pC h2.words LF h1.words LV) (k + 1)) := N.out.succ (by unfold pC; rw [hc]; rfl)
            rw [hc] at LK
            clear hc
            generalize sizeAt h2.words (wd LF k / 2).toNat = sz at *
            generalize serO h2.words (wd LF k) = s at *
            generalize wd LF k = x at *
            go_wp2_with (go_at_call 64; refine (SRk.out _ (Ext.refl _)).mono ?_; rintro e w2 ⟨⟨q1, q2, q3, rfl⟩, hb2⟩; have B2 := Lib.hid hb2; have hlk := LK.out _ hb2; clear hb2)
            go_roundw
            case rel => exact ⟨k + 1, by omega, by go_num, E.out.trans B2.out, NK.out⟩
            case measure => simp [intOf]; omega
          | false =>
            have RK : Hid (r = (12, serO h2.words (wd LF k))) := HR11.out.trans (cF1_some _ hlt N.out (by unfold pC; rw [hc]; rfl))
            rw [hc] at LK
            clear hc
            generalize sizeAt h2.words (wd LF k / 2).toNat = sz at *
            generalize serO h2.words (wd LF k) = s at *
            generalize wd LF k = x at *
            have hws : IntKind.i64.wrap s = s := IntWalk.i64_in _ (by omega)
            have hB3 : Hid (∀ W, Ext wr W → W.heap[rb]? = some (.cells #[.int .i64 0, .int .i64 0] 51)) := fun W hE => (E.out.trans hE).keep RB.out
            go_wp2_with fail
            refine (SRk.out _ (Ext.refl _)).mono ?_
            rintro e w2 ⟨⟨q1, q2, q3, rfl⟩, hb2⟩
            have B2 := Lib.hid hb2
            have hlk := LK.out _ hb2
            have cx2 := CXK.out _ hb2
            clear hb2
            go_wp2_with fail
            refine (SRk.out _ B2.out).mono ?_
            rintro e w3 ⟨⟨q4, q5, q6, rfl⟩, hb3⟩
            have B3 := Lib.hid (B2.out.trans hb3)
            clear hb3
            go_wp2_with fail
            refine (find60' _ _ _).mono ?_
            rintro e w4 ⟨rfl, hb4⟩
            have B4 := Lib.hid (B3.out.trans hb4)
            obtain ⟨y1, y2⟩ := blk (hB3.out _ B4.out)
            clear hb4
            go_wp2
            have hZ := set2 (hB3.out _ B4.out) (.int .i64 12) (.int .i64 s)
            have XF : Ext w ((w4.setCell ⟨rb, 0, none⟩ (.int .i64 12)).setCell ⟨rb, 1, none⟩ (.int .i64 s)) := (Ext.setCell (EW.out.trans B4.out) (p := ⟨rb, 0, none⟩) hrb1 _).setCell (p := ⟨rb, 1, none⟩) hrb1 _
            generalize (w4.setCell ⟨rb, 0, none⟩ (.int .i64 12)).setCell ⟨rb, 1, none⟩ (.int .i64 s) = Z at *
            obtain ⟨z1, z2⟩ := blk hZ
            exact bodyPost_ret (v := .agg #[.int .i64 12, .int .i64 s]) (by simp [results, Tryz.results16, go_sem, z1]) rfl ⟨by rw [RK.out], XF⟩
        · obtain rfl : k = LF.length := by omega
          have HR12 := Lib.hid (HR11.out.trans (cF1_none _ N.out))
          have N12 := Lib.hid N.out
          have E12 := Lib.hid E.out
          generalize wr = wy12 at *
          go_wp2
          have LEQ : LV.length = LF.length := by
            have a1 := len_of_all LN1.out N11.out
            have a2 := len_of_all LN2.out N12.out
            omega
          go_loopw [11] (fun i wr => ∃ (k : Nat), k ≤ LF.length ∧ i = .int .i64 k ∧ Ext wx wr ∧ NoneTo (pO h1.words LV h2.words LF) k) (fun i _ => LF.length - (intOf i).toNat)
          case atStart => exact ⟨0, by omega, rfl, E12.out, NoneTo.zero _⟩
          case round =>
            obtain ⟨k, hk, rfl, hE, hN⟩ := hrel
            have E := Lib.hid hE
            have N := Lib.hid hN
            have EW := Lib.hid (EX.out.trans hE)
            clear hE hN
            by_cases hlt : k < LF.length
            · have hlt1 : k < LV.length := by omega
              obtain ⟨g, rfl⟩ := AX2.out (by omega)
              obtain ⟨g1, rfl⟩ := AX1.out (by omega)
              have CX : Hid (∀ W, Ext wr W → (W.cell? ⟨g, k, none⟩ = some (.int .u32 (wd LF k)) ∧ W.cell? ⟨g1, k, none⟩ = some (.int .u32 (wd LV k))) ∧ Ext wr W) := by
                intro W hE
                refine ⟨⟨?_, ?_⟩, hE⟩
                · rw [row_cell (row_keep RX2.out (E.out.trans hE)) k hlt]; simp [u32s, wd, hlt]
                · rw [row_cell (row_keep RX1.out (E.out.trans hE)) k hlt1]; simp [u32s, wd, hlt1]
              have SRk := Lib.hid (fun W hE => SR2.out W (EW.out.trans hE) k hlt)
              have SRj := Lib.hid (fun W (hE : Ext wr W) => SR1.out W (EW.out.trans hE) k hlt1)
              have hki : (k : Int) < (LF.length : Int) := by omega
              have hki1 : (k : Int) < (LV.length : Int) := by omega
              have ep : pO h1.words LV h2.words LF k = (serO h2.words (wd LF k) != serO h1.words (wd LV k)) := rfl
              obtain ⟨hs0, hs1⟩ := SB2.out (wd LF k)
              have HS0 := Lib.hid hs0
              have HS1 := Lib.hid hs1
              clear hs0 hs1
              have RK : Hid (pO h1.words LV h2.words LF k = true → r = (13, serO h2.words (wd LF k))) := fun hc => HR12.out.trans (cF3_some _ hlt N.out hc)
              have NK : Hid (pO h1.words LV h2.words LF k = false → NoneTo (pO h1.words LV h2.words LF) (k + 1)) := fun hc => N.out.succ hc
              generalize sizeAt h2.words (wd LF k / 2).toNat = sz at *
              generalize sizeAt h1.words (wd LV k / 2).toNat = sy at *
              generalize serO h2.words (wd LF k) = s at *
              generalize serO h1.words (wd LV k) = t at *
              generalize wd LF k = x at *
              generalize wd LV k = y at *
              go_upto_region 23 with fail
              generalize hpc : pO h1.words LV h2.words LF k = pc at *
              have EPX := Lib.hid ep
              have HPC := Lib.hid hpc
              clear ep hpc hlt hlt1 LEQ
              go_region_held3 (fun w' => (w'.cell? ⟨g, k, none⟩ = some (.int .u32 x) ∧ w'.cell? ⟨g1, k, none⟩ = some (.int .u32 y)) ∧ Ext wr w')
                (first | exact CX.out _ (Ext.refl _).drew | exact CX.out _ (Ext.trans (‹_ ∧ Ext wr _›).2 hb2))
                (first | (go_at_call 64; with_reducible refine (SRk.out _ (‹_ ∧ Ext wr _›).2).mono ?_; rintro e w2 ⟨⟨q1, q2, q3, rfl⟩, hb2⟩) | (go_at_call 64; with_reducible refine (SRj.out _ (‹_ ∧ Ext wr _›).2).mono ?_; rintro e w2 ⟨⟨q1, q2, q3, rfl⟩, hb2⟩))
              have EP2 := Lib.hid (EPX.out)
              have B2 := Lib.hid ((‹_ ∧ Ext wr w2›).2)
              obtain ⟨⟨cx2, cy2⟩, cz2⟩ := (‹_ ∧ Ext wr w2›)
              clear cz2 hb2 cy2
              cases hpd : pc with
              | false =>
                rw [hpd] at EP2 NK
                have hst : (s != t) = false := EP2.out.symm
                go_wp2
                go_roundw
                case rel => exact ⟨k + 1, by omega, by go_num, E.out.trans B2.out, NK.out rfl⟩
                case measure => simp [intOf]; omega
              | true =>
                rw [hpd] at EP2 RK
                have hst : (s != t) = true := EP2.out.symm
                have hs0 := HS0.out
                have hs1 := HS1.out
                have hws : IntKind.i64.wrap s = s := IntWalk.i64_in _ (by omega)
                have hB3 : Hid (∀ W, Ext wr W → W.heap[rb]? = some (.cells #[.int .i64 0, .int .i64 0] 51)) := fun W hE => (E.out.trans hE).keep RB.out
                have hgl := row_lt (row_keep RX2.out (E.out.trans B2.out))
                clear hs0 hs1
                go_wp2_with fail
                refine (SRk.out _ B2.out).mono ?_
                rintro e w3 ⟨⟨q4, q5, q6, rfl⟩, hb3⟩
                have B3 := Lib.hid (B2.out.trans hb3)
                clear hb3
                go_wp2_with fail
                refine (find60' _ _ _).mono ?_
                rintro e w4 ⟨rfl, hb4⟩
                have B4 := Lib.hid (B3.out.trans hb4)
                obtain ⟨y1, y2⟩ := blk (hB3.out _ B4.out)
                clear hb4
                go_wp2
                have hZ := set2 (hB3.out _ B4.out) (.int .i64 13) (.int .i64 s)
                have XF : Ext w ((w4.setCell ⟨rb, 0, none⟩ (.int .i64 13)).setCell ⟨rb, 1, none⟩ (.int .i64 s)) := (Ext.setCell (EW.out.trans B4.out) (p := ⟨rb, 0, none⟩) hrb1 _).setCell (p := ⟨rb, 1, none⟩) hrb1 _
                generalize (w4.setCell ⟨rb, 0, none⟩ (.int .i64 13)).setCell ⟨rb, 1, none⟩ (.int .i64 s) = Z at *
                obtain ⟨z1, z2⟩ := blk hZ
                exact bodyPost_ret (v := .agg #[.int .i64 13, .int .i64 s]) (by simp [results, Tryz.results16, go_sem, z1]) rfl ⟨by rw [RK.out (by simp)], XF⟩
            · obtain rfl : k = LF.length := by omega
              have HR13 := Lib.hid (HR12.out.trans (cF3_none _ N.out))
              have N13 := Lib.hid N.out
              have E13 := Lib.hid E.out
              generalize wr = wy13 at *
              have LOC : Hid ((osC h1 os1).length = LF.length) := LLC.out.trans LEQ
              clear N E EW LEQ
              have COL := Lib.hid (fun W (hE : Ext w W) => Collect10 (HA1.out.keep hE).st HW1.out HSO1.out)
              have EW := Lib.hid (EX.out.trans E13.out)
              unfold stV at COL
              have KE : Hid (∀ W', Ext wy13 W' → (∀ i, W'.cell? ⟨L1.b, i, none⟩ = (#[.int .i64 h1.size, .slice (some ⟨L1.gw, 0, none⟩) h1.words.length L1.cw, .slice (some ⟨L1.gr, 0, none⟩) h1.roots.length L1.cr, .int .u32 h1.last, .slice (some ⟨L1.gs, 0, none⟩) h1.starts.length L1.cs] : Array Value)[i]?) ∧ Ext wy13 W') := fun W' hE => ⟨(blk ((HA1.out.keep (EW.out.trans hE)).ref.blk)).1, hE⟩
              go_upto_region 25 with fail
              go_cut [12, 13] from 146 (fun s12 _ wc => ∃ n g c g2 c2, s12 = .pointer (some ⟨n, 0, none⟩) ∧ StBox wy13 wc n g c g2 c2 (wordsC h1 os1) (rootsC h1 os1))
              case first =>
                go_region_held3 (fun w' => (∀ i, w'.cell? ⟨L1.b, i, none⟩ = (#[.int .i64 h1.size, .slice (some ⟨L1.gw, 0, none⟩) h1.words.length L1.cw, .slice (some ⟨L1.gr, 0, none⟩) h1.roots.length L1.cr, .int .u32 h1.last, .slice (some ⟨L1.gs, 0, none⟩) h1.starts.length L1.cs] : Array Value)[i]?) ∧ Ext wy13 w')
                  (with_reducible (refine KE.out _ ?_; (repeat' (first | refine Ext.setCell ?_ ?_ _ | refine Ext.alloc ?_ _ | refine Ext.drew ?_ | exact Ext.refl _ | refine Ext.trans ?_ hE9)); (all_goals (first | exact Nat.le_refl _ | ((try have h9 := hE9.size); (try simp at h9); simp; (try omega))))))
                  (first | (go_at_call 10; (with_reducible refine (COL.out _ (EW.out.trans (‹_ ∧ Ext wy13 _›).2)).mono ?_); rintro e w9 ⟨g10, c10, g11, c11, n0, n1, n2, n3, n4, rfl, hz10, hv10, hE9⟩; (first | (obtain ⟨p1, p2⟩ := blk (hE9.keep (keepB (newB wy13 _ wy13.heap.size rfl) _)); obtain ⟨p3, p4⟩ := blk (hE9.keep (newB (wy13.alloc _) _ (wy13.heap.size + 1) (by simp))); have z1 : wy13.heap.size < w9.heap.size := (by have := hE9.size; simp at this; omega); have z2 : wy13.heap.size + 1 < w9.heap.size := (by have := hE9.size; simp at this; omega)) | (obtain ⟨p1, p2⟩ := blk (hE9.keep (newB wy13 _ wy13.heap.size rfl)); have z1 : wy13.heap.size < w9.heap.size := (by have := hE9.size; simp at this; omega)) | skip)))
                all_goals
                  go_wp2_with fail
                  go_meet
                  case rel =>
                    refine ⟨_, g10, c10, g11, c11, rfl, ?_⟩
                    have hX9 := hE9.size
                    simp only [World.size_alloc, World.size_drew] at hX9
                    have hXX := (‹_ ∧ Ext wy13 _›).2
                    refine ⟨hXX, ?_, ?_, ?_, ?_, ?_⟩
                    · simp; try omega
                    · go_simp
                    · go_simp
                    · refine row_zero ((?_ : Above _ w9 _) _ _ _ _ _ hz10)
                      (with_reducible (repeat' (first | refine Above.setCell ?_ ?_ _ | refine Above.alloc ?_ _ | refine Above.drew ?_ | exact Above.refl _ _))) <;> (simp; try omega)
                    · refine row_zero ((?_ : Above _ w9 _) _ _ _ _ _ hv10)
                      (with_reducible (repeat' (first | refine Above.setCell ?_ ?_ _ | refine Above.alloc ?_ _ | refine Above.drew ?_ | exact Above.refl _ _))) <;> (simp; try omega)
              case rest =>
                obtain ⟨n, gW, cW, gR, cR, hs12, hbx⟩ := hcut
                subst hs12
                have BX := Lib.hid hbx
                clear hbx
                have EC : Hid (Ext wx wc) := E13.out.trans BX.out.ext
                have AB0 : Hid (Abreast (wordsC h1 os1) (osC h1 os1) h2.words os2 0 1) := Abreast.start (h1 := collectH h1 os1) (collect_wf HW1.out HSO1.out) HW2.out
                have WCB : (wordsC h1 os1).length ≤ 1048576 := (collect_wf HW1.out HSO1.out).big
                have WCW : Hid (∀ j, 0 ≤ wd (wordsC h1 os1) j ∧ wd (wordsC h1 os1) j < 4294967296) := fun j => (collect_wf HW1.out HSO1.out).word j
                have W2W : Hid (∀ j, 0 ≤ wd h2.words j ∧ wd h2.words j < 4294967296) := fun j => HW2.out.word j
                have WCL : Hid ((rootsC h1 os1).length = 64) := rootsC_len HW1.out
                have R2L : Hid (h2.roots.length = 64) := HW2.out.rlen
                have HB2 : h2.words.length ≤ 1048576 := HW2.out.big
                have LOF : Hid (os2.length = LF.length) := by show _ = _; rw [HLF.out, oopsOf_length]
                have LOO : Hid ((oopsOf (osC h1 os1)).length = LF.length) := by show _ = _; rw [oopsOf_length]; exact LOC.out
                have hF0 := field65_0
                clear E13 COL EW KE N11 N12 N13
                generalize wordsC h1 os1 = WC at *
                generalize osC h1 os1 = OC at *
                generalize rootsC h1 os1 = RC at *
                go_wp2
                go_loopw [14, 15] (fun at_ i wr => ∃ (k a : Nat), k ≤ LF.length ∧ at_ = .int .i64 a ∧ i = .int .i64 k ∧ Ext wc wr ∧ NoneTo (pA WC (oopsOf OC) h2.words LF) k ∧ Abreast WC OC h2.words os2 k a) (fun _ i _ => LF.length - (intOf i).toNat)
                case atStart => exact ⟨0, 1, by omega, rfl, rfl, Ext.refl _, NoneTo.zero _, AB0.out⟩
                case round =>
                  obtain ⟨k, a, hk, rfl, rfl, hE, hN, hA⟩ := hrel
                  have E := Lib.hid hE
                  have N := Lib.hid hN
                  have AB := Lib.hid hA
                  have EW := Lib.hid (EX.out.trans (EC.out.trans hE))
                  clear hE hN hA
                  by_cases hlt : k < LF.length
                  · obtain ⟨g3, rfl⟩ := AX2.out (by omega)
                    obtain ⟨nf2, ne1, ne2, npa, nnx⟩ := AB.out.at_ (by rw [LOC.out]; exact hlt) (by rw [LOF.out]; exact hlt)
                    rw [← HLF.out] at nf2 npa
                    have NX := Lib.hid nnx
                    have PA := Lib.hid npa
                    clear nnx npa
                    have CX : Hid (∀ W, Ext wr W → W.cell? ⟨g3, k, none⟩ = some (.int .u32 (2 * (a : Int)))) := fun W hE => by
                      rw [row_cell (row_keep RX2.out (EC.out.trans (E.out.trans hE))) k hlt]; rw [← nf2]; simp [u32s, wd, hlt]
                    have hgl := row_lt (row_keep RX2.out (EC.out.trans E.out))
                    have SRk := Lib.hid (fun W hE => SR2.out W (EW.out.trans hE) k hlt)
                    have RK : Hid (pA WC (oopsOf OC) h2.words LF k = true → r = (14, serO h2.words (wd LF k))) := fun hc => HR13.out.trans (cF4_some _ (by rw [LOO.out]; exact hlt) N.out hc)
                    have NK : Hid (pA WC (oopsOf OC) h2.words LF k = false → NoneTo (pA WC (oopsOf OC) h2.words LF) (k + 1)) := fun hc => N.out.succ hc
                    have HSB := Lib.hid (SB2.out (wd LF k))
                    rw [nf2] at SRk RK HSB
                    rw [show (2 * (a : Int) / 2).toNat = a by omega] at SRk
                    clear nf2
                    have hki : (k : Int) < (LF.length : Int) := by omega
                    have hq2 : Int.tdiv (2 * (a : Int)) 2 = (a : Int) := by rw [Int.tdiv_eq_ediv_of_nonneg (by omega)]; omega
                    have hq3 : 2 * (a : Int) / 2 = (a : Int) := by omega
                    have CWA : Hid (∀ W, Ext wr W → W.cell? ⟨gW, a, none⟩ = some (.int .u32 (wd WC a))) := fun W hE => by
                      rw [row_cell (BX.out.keep (E.out.trans hE)).words a (by omega)]; simp [u32s, wd, show a < WC.length by omega]
                    have hS1 : (sizeAt WC a : Int) = wd WC a % 16777216 := by have := WCW.out a; simp [sizeAt]; omega
                    have tm : Int.tmod (wd WC a) 16777216 = (sizeAt WC a : Int) := by rw [hS1]; exact Int.tmod_eq_emod_of_nonneg (WCW.out a).1
                    have hw0 := (WCW.out a)
                    clear hS1
                    generalize serO h2.words (2 * (a : Int)) = s at *
                    generalize hz1 : sizeAt WC a = S1 at *
                    generalize hz2 : sizeAt h2.words a = S2 at *
                    have HZ1 := Lib.hid hz1
                    have HZ2 := Lib.hid hz2
                    clear hz1 hz2
                    generalize hx1 : wd WC a = x1 at *
                    have HX1 := Lib.hid hx1
                    clear hx1
                    obtain ⟨l2a, l2b⟩ := blk ((HA2.out.keep EW.out).ref.blk)
                    have cx := CX.out _ (Ext.refl _)
                    have ha0 : (a : Int) < (WC.length : Int) := by omega
                    have haS : a + 3 + S2 ≤ h2.words.length := ne2
                    have hb0 := (BX.out.keep E.out).c0
                    have hB3 : Hid (∀ W, Ext wr W → W.heap[rb]? = some (.cells #[.int .i64 0, .int .i64 0] 51)) := fun W hE => (EC.out.trans (E.out.trans hE)).keep RB.out
                    go_wp2_with fail
                    refine (SRk.out _ (Ext.refl _)).mono ?_
                    rintro e w2 ⟨⟨q1, q2, q3, rfl⟩, hb2⟩
                    have B2 := Lib.hid hb2
                    have cwa := CWA.out _ hb2
                    have cx2 := CX.out _ hb2
                    have c02 := (BX.out.keep (E.out.trans hb2)).c0
                    clear hb2 l2a l2b cx hb0
                    by_cases hSS : S2 = S1
                    · subst hSS
                      have hne : (((3 : Int) + (S2 : Int)) != ((3 : Int) + (S2 : Int))) = false := by simp
                      have hne2 : ((a : Int) != (a : Int)) = false := by simp
                      have N4 := Lib.hid (NX.out rfl)
                      have CWJ : Hid (∀ W, Ext wr W → ∀ j, j < 3 + S2 → W.cell? ⟨gW, a + j, none⟩ = some (.int .u32 (wd WC (a + j)))) := fun W hE j hj => by
                        rw [row_cell (BX.out.keep (E.out.trans hE)).words (a + j) (by omega)]; simp [u32s, wd, show a + j < WC.length by omega]
                      have C2J : Hid (∀ W, Ext wr W → ∀ j, j < 3 + S2 → W.cell? ⟨L2.gw, a + j, none⟩ = some (.int .u32 (wd h2.words (a + j)))) := fun W hE j hj => (HA2.out.keep (EW.out.trans hE)).ref.word (a + j) (by omega)
                      have L2K : Hid (∀ W, Ext wr W → ∀ i, W.cell? ⟨L2.b, i, none⟩ = (#[.int .i64 h2.size, .slice (some ⟨L2.gw, 0, none⟩) h2.words.length L2.cw, .slice (some ⟨L2.gr, 0, none⟩) h2.roots.length L2.cr, .int .u32 h2.last, .slice (some ⟨L2.gs, 0, none⟩) h2.starts.length L2.cs] : Array Value)[i]?) := fun W hE => (blk ((HA2.out.keep (EW.out.trans hE)).ref.blk)).1
                      have S0K : Hid (∀ W, Ext wr W → W.cell? ⟨n, 0, none⟩ = some (.slice (some ⟨gW, 0, none⟩) WC.length cW)) := fun W hE => (BX.out.keep (E.out.trans hE)).c0
                      clear NX CWA HZ1 HZ2
                      go_wp2
                      clear cwa cx2 c02 hq2 hq3 tm hw0
                      generalize wr = wq at *
                      go_loopw [19] (fun i wr => ∃ (m : Nat), m ≤ 3 + S2 ∧ i = .int .i64 m ∧ Ext wq wr ∧ ∀ j, j < m → wd WC (a + j) = wd h2.words (a + j)) (fun i _ => 3 + S2 - (intOf i).toNat)
                      case atStart => exact ⟨0, by omega, rfl, B2.out, fun j hj => by omega⟩
                      case round =>
                        obtain ⟨m, hm, rfl, hE5, hEq⟩ := hrel
                        have E5 := Lib.hid hE5
                        have EQ := Lib.hid hEq
                        clear hE5 hEq
                        by_cases hlt5 : m < 3 + S2
                        · have cA := CWJ.out _ E5.out m hlt5
                          have cB := C2J.out _ E5.out m hlt5
                          have l2a := L2K.out _ E5.out
                          have hb0 := S0K.out _ E5.out
                          have hq10 : (a : Int) + (m : Int) ≤ 2000000 := by omega
                          have hq5 : (0 : Int) ≤ (a : Int) + (m : Int) := by omega
                          have hq6 : (a : Int) + (m : Int) < (WC.length : Int) := by omega
                          have hq7 : (a : Int) + (m : Int) < (h2.words.length : Int) := by omega
                          have hq8 : ((a : Int) + (m : Int)).toNat = a + m := by omega
                          have hq9 : (m : Int) < 3 + (S2 : Int) := by omega
                          have ENX : Hid (wd WC (a + m) = wd h2.words (a + m) → ∀ j, j < m + 1 → wd WC (a + j) = wd h2.words (a + j)) := fun he j hj => by
                            by_cases hjm : j = m
                            · rw [hjm]; exact he
                            · exact EQ.out j (by omega)
                          have RK3 : Hid (wd WC (a + m) ≠ wd h2.words (a + m) → r = (14, s)) := fun he => RK.out (by rw [PA.out]; simp only [Bool.not_eq_true', decide_eq_false_iff_not]; exact fun h => he (h.2 m hlt5))
                          generalize wd WC (a + m) = x at *
                          generalize wd h2.words (a + m) = y at *
                          have hv1 : IntKind.i64.wrap ((a : Int) + (m : Int)) = (a : Int) + (m : Int) := IntWalk.i64_in _ (by omega)
                          have SK : Hid ((∀ i, wr.drew.cell? ⟨L2.b, i, none⟩ = (#[.int .i64 h2.size, .slice (some ⟨L2.gw, 0, none⟩) h2.words.length L2.cw, .slice (some ⟨L2.gr, 0, none⟩) h2.roots.length L2.cr, .int .u32 h2.last, .slice (some ⟨L2.gs, 0, none⟩) h2.starts.length L2.cs] : Array Value)[i]?) ∧ wr.drew.cell? ⟨n, 0, none⟩ = some (.slice (some ⟨gW, 0, none⟩) WC.length cW) ∧ wr.drew.cell? ⟨gW, a + m, none⟩ = some (.int .u32 x) ∧ wr.drew.cell? ⟨L2.gw, a + m, none⟩ = some (.int .u32 y)) := ⟨l2a, hb0, cA, cB⟩
                          clear cA cB l2a hb0
                          go_upto_region 38 with fail
                          go_region_held3 (fun w' => (∀ i, w'.cell? ⟨L2.b, i, none⟩ = (#[.int .i64 h2.size, .slice (some ⟨L2.gw, 0, none⟩) h2.words.length L2.cw, .slice (some ⟨L2.gr, 0, none⟩) h2.roots.length L2.cr, .int .u32 h2.last, .slice (some ⟨L2.gs, 0, none⟩) h2.starts.length L2.cs] : Array Value)[i]?) ∧ w'.cell? ⟨n, 0, none⟩ = some (.slice (some ⟨gW, 0, none⟩) WC.length cW) ∧ w'.cell? ⟨gW, a + m, none⟩ = some (.int .u32 x) ∧ w'.cell? ⟨L2.gw, a + m, none⟩ = some (.int .u32 y))
                            (with_reducible exact SK.out) (fail)
                          have E6 := Lib.hid (E5.out.drew)
                          clear hq10 hq5 hq6 hq7 hq8 hv1 SK
                          generalize wr.drew = w6 at *
                          by_cases hxy : x = y
                          · have hyx : (y != x) = false := by simp [hxy]
                            have EN := Lib.hid (ENX.out hxy)
                            clear hxy
                            go_wp2
                            go_roundw
                            case rel => exact ⟨m + 1, by omega, by go_num, E6.out, EN.out⟩
                            case measure => simp [intOf]; omega
                          · have hyx : (y != x) = true := by rw [bne_iff_ne]; exact fun h => hxy h.symm
                            have RK2 := Lib.hid (RK3.out hxy)
                            have cx2 := CX.out _ E6.out
                            have hgl2 : g3 < w6.heap.size := Nat.lt_of_lt_of_le hgl E6.out.size
                            clear hxy
                            have hws : IntKind.i64.wrap s = s := IntWalk.i64_in _ (by have := HSB.out; omega)
                            go_wp2_with fail
                            refine (SRk.out _ E6.out).mono ?_
                            rintro e w3 ⟨⟨q4, q5, q6, rfl⟩, hb3⟩
                            have B3 := Lib.hid (E6.out.trans hb3)
                            clear hb3
                            go_wp2_with fail
                            refine (find60' _ _ _).mono ?_
                            rintro e w4 ⟨rfl, hb4⟩
                            have B4 := Lib.hid (B3.out.trans hb4)
                            obtain ⟨y1, y2⟩ := blk (hB3.out _ B4.out)
                            clear hb4
                            go_wp2
                            have hZ := set2 (hB3.out _ B4.out) (.int .i64 14) (.int .i64 s)
                            have XF : Ext w ((w4.setCell ⟨rb, 0, none⟩ (.int .i64 14)).setCell ⟨rb, 1, none⟩ (.int .i64 s)) := (Ext.setCell (EW.out.trans B4.out) (p := ⟨rb, 0, none⟩) hrb1 _).setCell (p := ⟨rb, 1, none⟩) hrb1 _
                            generalize (w4.setCell ⟨rb, 0, none⟩ (.int .i64 14)).setCell ⟨rb, 1, none⟩ (.int .i64 s) = Z at *
                            obtain ⟨z1, z2⟩ := blk hZ
                            exact bodyPost_ret (v := .agg #[.int .i64 14, .int .i64 s]) (by simp [results, Tryz.results16, go_sem, z1]) rfl ⟨by rw [RK2.out], XF⟩
                        · obtain rfl : m = 3 + S2 := by omega
                          have NK2 := Lib.hid (NK.out (by rw [PA.out, decide_eq_true ⟨by first | rfl | trivial, EQ.out⟩]; rfl))
                          have hv1 : IntKind.i64.wrap ((a : Int) + (3 + (S2 : Int))) = (a : Int) + (3 + (S2 : Int)) := by rw [IntKind.wrap_i64]; omega
                          go_wp2
                          go_roundw
                          case rel => exact ⟨k + 1, a + 3 + S2, by omega, by go_num, by go_num, E.out.trans E5.out, NK2.out, N4.out⟩
                          case measure => simp [intOf]; omega
                    · have hne : (((3 : Int) + (S2 : Int)) != ((3 : Int) + (S1 : Int))) = true := by rw [bne_iff_ne]; omega
                      have RK2 : Hid (r = (14, s)) := RK.out (by rw [PA.out]; simp only [Bool.not_eq_true', decide_eq_false_iff_not]; exact fun h => hSS h.1.symm)
                      have hws : IntKind.i64.wrap s = s := IntWalk.i64_in _ (by have := HSB.out; omega)
                      go_wp2_with fail
                      refine (SRk.out _ B2.out).mono ?_
                      rintro e w3 ⟨⟨q4, q5, q6, rfl⟩, hb3⟩
                      have B3 := Lib.hid (B2.out.trans hb3)
                      clear hb3
                      go_wp2_with fail
                      refine (find60' _ _ _).mono ?_
                      rintro e w4 ⟨rfl, hb4⟩
                      have B4 := Lib.hid (B3.out.trans hb4)
                      obtain ⟨y1, y2⟩ := blk (hB3.out _ B4.out)
                      clear hb4
                      go_wp2
                      have hZ := set2 (hB3.out _ B4.out) (.int .i64 14) (.int .i64 s)
                      have XF : Ext w ((w4.setCell ⟨rb, 0, none⟩ (.int .i64 14)).setCell ⟨rb, 1, none⟩ (.int .i64 s)) := (Ext.setCell (EW.out.trans B4.out) (p := ⟨rb, 0, none⟩) hrb1 _).setCell (p := ⟨rb, 1, none⟩) hrb1 _
                      generalize (w4.setCell ⟨rb, 0, none⟩ (.int .i64 14)).setCell ⟨rb, 1, none⟩ (.int .i64 s) = Z at *
                      obtain ⟨z1, z2⟩ := blk hZ
                      exact bodyPost_ret (v := .agg #[.int .i64 14, .int .i64 s]) (by simp [results, Tryz.results16, go_sem, z1]) rfl ⟨by rw [RK2.out], XF⟩
                  · obtain rfl : k = LF.length := by omega
                    have HR14 := Lib.hid (HR13.out.trans (cF4_none _ (by rw [LOO.out]; exact N.out)))
                    have E14 := Lib.hid E.out
                    clear E N AB EW AB0
                    generalize wr = wy14 at *
                    go_wp2
                    go_loopw [20] (fun i wr => ∃ (k : Nat), k ≤ 64 ∧ i = .int .i64 k ∧ Ext wc wr ∧ NoneTo (pR RC h2.roots) k) (fun i _ => 64 - (intOf i).toNat)
                    case atStart => exact ⟨0, by omega, rfl, E14.out, NoneTo.zero _⟩
                    case round =>
                      obtain ⟨k, hk6, rfl, hE, hN⟩ := hrel
                      have E := Lib.hid hE
                      have N := Lib.hid hN
                      have EW := Lib.hid (EX.out.trans (EC.out.trans hE))
                      clear hE hN
                      obtain ⟨l2a, l2b⟩ := blk ((HA2.out.keep EW.out).ref.blk)
                      have hb0 := (BX.out.keep E.out).c1
                      have hB3 : Hid (∀ W, Ext wr W → W.heap[rb]? = some (.cells #[.int .i64 0, .int .i64 0] 51)) := fun W hE => (EC.out.trans (E.out.trans hE)).keep RB.out
                      by_cases hlt6 : k < 64
                      · have k1' : (k : Int) < (h2.roots.length : Int) := by have := R2L.out; omega
                        have k2' : (k : Int) < (RC.length : Int) := by have := WCL.out; omega
                        have cr2 : wr.cell? ⟨L2.gr, k, none⟩ = some (.int .u32 (wd h2.roots k)) := by
                          have hkk : k < h2.roots.length := by omega
                          rw [row_cell (HA2.out.keep EW.out).rts k hkk]; simp [u32s, wd, hkk]
                        have crc : wr.cell? ⟨gR, k, none⟩ = some (.int .u32 (wd RC k)) := by
                          have hkk : k < RC.length := by omega
                          rw [row_cell (BX.out.keep E.out).roots k hkk]; simp [u32s, wd, hkk]
                        have ep : pR RC h2.roots k = (wd h2.roots k != wd RC k) := by unfold pR; exact bne_comm
                        have RK : Hid (pR RC h2.roots k = true → r = (15, (k : Int))) := fun hc => HR14.out.trans (cF5_some hlt6 N.out hc)
                        have NK : Hid (pR RC h2.roots k = false → NoneTo (pR RC h2.roots) (k + 1)) := fun hc => N.out.succ hc
                        generalize hpc : pR RC h2.roots k = pc at *
                        have HPC := Lib.hid hpc
                        clear hpc
                        generalize wd h2.roots k = y at *
                        generalize wd RC k = x at *
                        have EP := Lib.hid ep
                        clear ep
                        go_wp2
                        go_quiet (fail)
                        have XN : Ext wr (wr.drewN nq) := (Ext.refl wr).drewN nq
                        have E6 := Lib.hid (E.out.trans XN)
                        have EX6 := Lib.hid XN
                        clear XN cr2 crc hb0 l2a l2b
                        generalize wr.drewN nq = w6 at *
                        cases pc with
                        | false =>
                          have hyx : (y != x) = false := EP.out.symm
                          go_wp2
                          go_roundw
                          case rel => exact ⟨k + 1, by omega, by go_num, E6.out, NK.out (by simp)⟩
                          case measure => simp [intOf]; omega
                        | true =>
                          have hyx : (y != x) = true := EP.out.symm
                          go_wp2_with fail
                          refine (find60' _ _ _).mono ?_
                          rintro e w4 ⟨rfl, hb4⟩
                          have B4 := Lib.hid (EX6.out.trans hb4)
                          obtain ⟨y1, y2⟩ := blk (hB3.out _ B4.out)
                          clear hb4
                          go_wp2
                          have hZ := set2 (hB3.out _ B4.out) (.int .i64 15) (.int .i64 (k : Int))
                          have XF : Ext w ((w4.setCell ⟨rb, 0, none⟩ (.int .i64 15)).setCell ⟨rb, 1, none⟩ (.int .i64 (k : Int))) := (Ext.setCell (EW.out.trans B4.out) (p := ⟨rb, 0, none⟩) hrb1 _).setCell (p := ⟨rb, 1, none⟩) hrb1 _
                          generalize (w4.setCell ⟨rb, 0, none⟩ (.int .i64 15)).setCell ⟨rb, 1, none⟩ (.int .i64 (k : Int)) = Z at *
                          obtain ⟨z1, z2⟩ := blk hZ
                          exact bodyPost_ret (v := .agg #[.int .i64 15, .int .i64 (k : Int)]) (by simp [results, Tryz.results16, go_sem, z1]) rfl ⟨by rw [RK.out (by simp)], XF⟩
                      · obtain rfl : k = 64 := by omega
                        have hn6 : ¬ ((64 : Int) < (h2.roots.length : Int)) := by have := R2L.out; omega
                        have RK : Hid (r = (0, 0)) := HR14.out.trans (cF5_none N.out)
                        obtain ⟨y1, y2⟩ := blk (hB3.out _ (Ext.refl _))
                        go_wp2
                        have hZ := set2 (hB3.out _ (Ext.refl _)) (.int .i64 0) (.int .i64 0)
                        have XF : Ext w ((wr.setCell ⟨rb, 0, none⟩ (.int .i64 0)).setCell ⟨rb, 1, none⟩ (.int .i64 0)) := (Ext.setCell (EW.out) (p := ⟨rb, 0, none⟩) hrb1 _).setCell (p := ⟨rb, 1, none⟩) hrb1 _
                        generalize (wr.setCell ⟨rb, 0, none⟩ (.int .i64 0)).setCell ⟨rb, 1, none⟩ (.int .i64 0) = Z at *
                        obtain ⟨z1, z2⟩ := blk hZ
                        exact bodyPost_ret (v := .agg #[.int .i64 0, .int .i64 0]) (by simp [results, Tryz.results16, go_sem, z1]) rfl ⟨by rw [RK.out], XF⟩

theorem RColl_ok (r1 : RefFull w L1 h1) (wf1 : WF h1 os1) (so1 : Sound h1 os1) (r2 : RefFull w L2 h2) (wf2 : WF h2 os2) (so2 : Sound h2 os2) :
    Calls Tryz.prog 16 #[.pointer (some ⟨L1.b, 0, none⟩), .pointer (some ⟨L2.b, 0, none⟩)] w (FindR w (collF h1 os1 h2 os2)) := by
  by_cases hq1 : h1.size = h2.size
  · by_cases hq2 : h1.last = h2.last
    · exact RColl_main r1 wf1 so1 r2 wf2 so2 hq1 hq2
    · exact RColl_size r1 r2 (fun h => hq2 h.2)
  · exact RColl_size r1 r2 (fun h => hq1 h.1)
end
end Go.Proofs.Eff
