/- effigylaw24.AuditCollections: the walk. -/
import Derived.Test.YtaggadjiefgpoaaGreatDoorSl2
import Derived.Test.YtaggadjiefgpoaaGreatDoorNl0
import Derived.Test.YtaggadjiefgpoaaGreatDoorKa3
import Derived.Test.YtaggadjiefgpoaaGreatDoorSt13
import Derived.Deep.DeepCutAuto
namespace Go.Proofs.Eff
open Go.RowKit


set_option maxRecDepth 100000 in
set_option maxHeartbeats 8000000 in
theorem AuditCollections3 {w : World} {size : Int} {ws rs : List Int} {last : Int} {ad1 ad2 : Option Addr} (c1 c2 : Nat) {sizeb : Int} {wsb rsb : List Int} {lastb : Int} {ad1b ad2b : Option Addr} (c1b c2b : Nat) (hs : Spares w)
    (ha : StuffIn w ws rs last ad1 ad2) (hb : StuffIn w wsb rsb lastb ad1b ad2b) (col : Bool) (t x : Int) (t0 : -9223372036854775808 ≤ t) (t1 : t ≤ 9223372036854775807) (x0 : 0 ≤ x) (x1 : x < 4294967296) :
    Calls Tryz.prog 3 #[.agg #[.int .i64 size, .slice ad1 ws.length c1, .slice ad2 rs.length c2, .int .u32 last], .agg #[.int .i64 sizeb, .slice ad1b wsb.length c1b, .slice ad2b rsb.length c2b, .int .u32 lastb], .bool col, .int .i64 t, .int .u32 x] w fun e w' => e = .returned (.bool true) ∧ Ext w w' := by
  have hp := hs.pos
  have HS := Lib.hid hs
  have BO := Lib.hid (fun W (hE : Ext w W) => both8 (size := size) c1 c2 (hs.kept hE hp) (ha.keep hE))
  have BO2 := Lib.hid (fun W (hE : Ext w W) => both8 (size := sizeb) c1b c2b (hs.kept hE hp) (hb.keep hE))
  have AW := Lib.hid (fun W (hE : Ext w W) => awake9 (hs.kept hE hp))
  have HL : Hid (0 ≤ last ∧ last < 4294967296) := ⟨ha.l0, ha.l1⟩
  clear ha hb hs
  have B5 := Lib.hid (keepB (newB w (.cells #[.int .i64 size, .slice ad1 ws.length c1, .slice ad2 rs.length c2, .int .u32 last] 26) _ rfl) (.cells #[.int .i64 sizeb, .slice ad1b wsb.length c1b, .slice ad2b rsb.length c2b, .int .u32 lastb] 26))
  have B6 := Lib.hid (newB (w.alloc (.cells #[.int .i64 size, .slice ad1 ws.length c1, .slice ad2 rs.length c2, .int .u32 last] 26)) (.cells #[.int .i64 sizeb, .slice ad1b wsb.length c1b, .slice ad2b rsb.length c2b, .int .u32 lastb] 26) (w.heap.size + 1) (by simp))
  have E0 := Lib.hid (((Ext.refl w).alloc (.cells #[.int .i64 size, .slice ad1 ws.length c1, .slice ad2 rs.length c2, .int .u32 last] 26)).alloc (.cells #[.int .i64 sizeb, .slice ad1b wsb.length c1b, .slice ad2b rsb.length c2b, .int .u32 lastb] 26))
  go_enter Tryz.func3, Tryz.ntmps3
  go_wp2_with fail
  obtain ⟨bA, hbA⟩ : ∃ n, n = w.heap.size := ⟨_, rfl⟩
  rw [← hbA] at B5 B6
  try rw [← hbA]
  clear hbA
  refine (BO.out _ E0.out).mono ?_
  rintro e w1 ⟨hE1, ⟨os, L, LR, rfl, hA, hF, hwf, hso, hab⟩ | rfl⟩
  · have A1 := Lib.hid hA
    have F1 := Lib.hid hF
    have WFX := Lib.hid hwf
    have SO := Lib.hid hso
    have E1 := Lib.hid (E0.out.trans hE1)
    have B51 := Lib.hid (hE1.keep B5.out)
    have s0 : 64 ≤ size := hwf.size0
    have s1 : size ≤ 1048576 := hwf.size1
    obtain ⟨b1, b2⟩ := blk (hE1.keep B6.out)
    clear hA hF hwf hso hE1 hab BO B5 B6 E0
    generalize stuffH size ws os rs last = h at *
    go_wp2_with fail
    refine (BO2.out _ E1.out).mono ?_
    rintro e w2 ⟨hE2, ⟨osb, Lb, LRb, rfl, hA2, hF2, hwf2, hso2, hab2⟩ | rfl⟩
    · have A2 := Lib.hid (A1.out.keep hE2)
      have F2 := Lib.hid (F1.out.keep hE2)
      have E2 := Lib.hid (E1.out.trans hE2)
      have B52 := Lib.hid (hE2.keep B51.out)
      clear b1 b2 A1 F1 E1 BO2
      cases col with
      | false =>
        have G2 := Lib.hid hA2
        have FG2 := Lib.hid hF2
        have WFG := Lib.hid hwf2
        have SOG := Lib.hid hso2
        clear hA2 hF2 hwf2 hso2 hab2 hE2 B51 B52 s0 s1
        generalize stuffH sizeb wsb osb rsb lastb = g at *
        have hpos : 0 < 64 := by omega
        have C1 := Lib.hid (fun W (hE : Ext w2 W) => Collection_ok (A2.out.keep hE) WFX.out SO.out (G2.out.keep hE) WFG.out SOG.out (HS.out.kept (E2.out.trans hE) hp))
        have C2 := Lib.hid (fun W (hE : Ext w2 W) => RColl_ok (F2.out.keep hE) WFX.out SO.out (FG2.out.keep hE) WFG.out SOG.out)
        have K1 := Lib.hid (fun W (hE : Ext w2 W) => Coll_nil2 (A2.out.keep hE) WFX.out)
        have K2 := Lib.hid (fun W (hE : Ext w2 W) => RColl_nil2 (F2.out.keep hE) WFX.out.size0)
        have K3 := Lib.hid (fun W (hE : Ext w2 W) => Coll_nil1 (A2.out.keep hE) WFX.out)
        have K4 := Lib.hid (fun W (hE : Ext w2 W) => RColl_nil1 (F2.out.keep hE) WFX.out.size0)
        generalize collF h os g osb = R at *
        obtain ⟨k0, k1⟩ := R
        have e51 : ∀ w, (binOp .neq 51 (.agg #[.int .i64 k0, .int .i64 k1]) (.agg #[.int .i64 k0, .int .i64 k1])).run Tryz.prog w = .ok (.bool false) w := fun w => by rw [run_neq51]; simp
        have f51 : ∀ w, (binOp .eql 51 (.agg #[.int .i64 0, .int .i64 0]) (.agg #[.int .i64 0, .int .i64 0])).run Tryz.prog w = .ok (.bool true) w := fun w => by rw [run_eql51]; rfl
        have g51 : ∀ w, (binOp .eql 51 (.agg #[.int .i64 10, .int .i64 0]) (.agg #[.int .i64 10, .int .i64 0])).run Tryz.prog w = .ok (.bool true) w := fun w => by rw [run_eql51]; rfl
        go_wp2_with fail
        refine (C1.out _ (Ext.refl _)).mono ?_
        rintro e v1 ⟨rfl, hX1⟩
        have X1 := Lib.hid hX1
        clear hX1
        go_wp2_with fail
        refine (C2.out _ X1.out).mono ?_
        rintro e v2 ⟨rfl, hX2⟩
        have X2 := Lib.hid (X1.out.trans hX2)
        clear hX2
        go_wp2_with fail
        refine (Coll_nilnil _).mono ?_
        rintro e v3 ⟨rfl, hX3⟩
        have X3 := Lib.hid (X2.out.trans hX3)
        clear hX3
        go_wp2_with fail
        refine (K1.out _ X3.out).mono ?_
        rintro e v4 ⟨rfl, hX4⟩
        have X4 := Lib.hid (X3.out.trans hX4)
        clear hX4
        go_wp2_with fail
        refine (K2.out _ X4.out).mono ?_
        rintro e v5 ⟨rfl, hX5⟩
        have X5 := Lib.hid (X4.out.trans hX5)
        clear hX5
        go_wp2_with fail
        refine (K3.out _ X5.out).mono ?_
        rintro e v6 ⟨rfl, hX6⟩
        have X6 := Lib.hid (X5.out.trans hX6)
        clear hX6
        go_wp2_with fail
        refine (K4.out _ X6.out).mono ?_
        rintro e v7 ⟨rfl, hX7⟩
        have X7 := Lib.hid (X6.out.trans hX7)
        clear hX7
        go_wp2
        go_ret
        exact ⟨rfl, E2.out.trans X7.out⟩
      | true =>
        clear hA2 hF2 hwf2 hso2 hab2 hE2 B51
        have SIZ : Hid (64 ≤ size ∧ size ≤ 1048576) := ⟨s0, s1⟩
        clear s0 s1
        have COL := Lib.hid (fun W (hE : Ext w2 W) => Collect10 (F2.out.keep hE).st WFX.out SO.out)
        unfold stV at COL
        have KE : Hid (∀ W', Ext w2 W' → (∀ i, W'.cell? ⟨LR.b, i, none⟩ = (#[.int .i64 h.size, .slice (some ⟨LR.gw, 0, none⟩) h.words.length LR.cw, .slice (some ⟨LR.gr, 0, none⟩) h.roots.length LR.cr, .int .u32 h.last, .slice (some ⟨LR.gs, 0, none⟩) h.starts.length LR.cs] : Array Value)[i]?) ∧ Ext w2 W') := fun W' hE => ⟨(blk ((F2.out.keep hE).ref.blk)).1, hE⟩
        go_upto_region 8 with fail
        go_cut [17] from 50 (fun s17 wc => ∃ n g c g2 c2, s17 = .pointer (some ⟨n, 0, none⟩) ∧ StBox w2 wc n g c g2 c2 (wordsC h os) (rootsC h os))
        case first =>
          go_region_held3 (fun w' => (∀ i, w'.cell? ⟨LR.b, i, none⟩ = (#[.int .i64 h.size, .slice (some ⟨LR.gw, 0, none⟩) h.words.length LR.cw, .slice (some ⟨LR.gr, 0, none⟩) h.roots.length LR.cr, .int .u32 h.last, .slice (some ⟨LR.gs, 0, none⟩) h.starts.length LR.cs] : Array Value)[i]?) ∧ Ext w2 w')
            (with_reducible (refine KE.out _ ?_; (repeat' (first | refine Ext.setCell ?_ ?_ _ | refine Ext.alloc ?_ _ | refine Ext.drew ?_ | exact Ext.refl _ | refine Ext.trans ?_ hE9)); (all_goals (first | exact Nat.le_refl _ | ((try have h9 := hE9.size); (try simp at h9); simp; (try omega))))))
            (first | (go_at_call 10; (with_reducible refine (COL.out _ (‹_ ∧ Ext w2 _›).2).mono ?_); rintro e w9 ⟨g10, c10, g11, c11, n0, n1, n2, n3, n4, rfl, hz10, hv10, hE9⟩; (first | (obtain ⟨p1, p2⟩ := blk (hE9.keep (keepB (newB w2 _ w2.heap.size rfl) _)); obtain ⟨p3, p4⟩ := blk (hE9.keep (newB (w2.alloc _) _ (w2.heap.size + 1) (by simp))); have z1 : w2.heap.size < w9.heap.size := (by have := hE9.size; simp at this; omega); have z2 : w2.heap.size + 1 < w9.heap.size := (by have := hE9.size; simp at this; omega)) | (obtain ⟨p1, p2⟩ := blk (hE9.keep (newB w2 _ w2.heap.size rfl)); have z1 : w2.heap.size < w9.heap.size := (by have := hE9.size; simp at this; omega)) | skip)))
          all_goals
            go_wp2_with fail
            go_meet
            case rel =>
              refine ⟨_, g10, c10, g11, c11, rfl, ?_⟩
              have hX9 := hE9.size
              simp only [World.size_alloc, World.size_drew] at hX9
              have hXX := (‹_ ∧ Ext w2 _›).2
              refine ⟨hXX, ?_, ?_, ?_, ?_, ?_⟩
              · simp; try omega
              · go_simp
              · go_simp
              · refine row_zero ((?_ : Above _ w9 _) _ _ _ _ _ hz10)
                (with_reducible (repeat' (first | refine Above.setCell ?_ ?_ _ | refine Above.alloc ?_ _ | refine Above.drew ?_ | exact Above.refl _ _))) <;> (simp; try omega)
              · refine row_zero ((?_ : Above _ w9 _) _ _ _ _ _ hv10)
                (with_reducible (repeat' (first | refine Above.setCell ?_ ?_ _ | refine Above.alloc ?_ _ | refine Above.drew ?_ | exact Above.refl _ _))) <;> (simp; try omega)
        case rest =>
          obtain ⟨n, gW, cW, gR, cR, hs12, hbx⟩ := hcut
          subst hs12
          have BX := Lib.hid hbx
          clear hbx COL KE
          have WCB : (wordsC h os).length ≤ 1048576 := (collect_wf WFX.out SO.out).big
          have WC0 : 0 < (wordsC h os).length := (collect_wf WFX.out SO.out).pos
          have WCR : Hid (∀ x, x ∈ wordsC h os → 0 ≤ x ∧ x < 4294967296) := (collect_wf WFX.out SO.out).rng
          have RCL : Hid ((rootsC h os).length = 64) := rootsC_len WFX.out
          have RCR : Hid (∀ x, x ∈ rootsC h os → 0 ≤ x ∧ x < 4294967296) := (collect_wf WFX.out SO.out).rrng
          generalize wordsC h os = WC at *
          generalize rootsC h os = RC at *
          obtain ⟨i0, hi, hz0, hz1, hz3⟩ := info_parts Tryz.cinfo24
          obtain ⟨j0, hj, hy0, hy1, hy3⟩ := info_parts Tryz.cinfo41
          have hc0 := BX.out.c0
          have hn0 := BX.out.lt
          have HE1 : Hid ((wc.alloc (.cells #[] 24)).ownsRow w2.heap.size 24 1 (.slice (some ⟨wc.heap.size, 0, none⟩) 0 0) 0 []) := World.ownsRow_lit (base := w2.heap.size) (e := 24) (size := 1) wc #[] 0 BX.out.ext.size (by unfold maxLen; omega) rfl
          have RN1 := Lib.hid (row_read (row_keep BX.out.words ((Ext.refl wc).alloc (.cells #[] 24))))
          have hb1 : w2.heap.size ≤ (wc.alloc (.cells #[] 24)).heap.size := ((BX.out.ext).alloc _).size
          go_upto_region 10 with (at_builtin; refine wpList_append_lies _ rfl _ _ 22 rfl w2.heap.size 24 i0 _ 1 4 Tryz.underlying22 hi hz0 hz1 hz3 rfl (by omega) _ 0 _ rfl HE1.out ⟨gW, 0, none⟩ WC.length cW (u32s WC) rfl (by simp) RN1.out (u32s_one _) (by omega) (by unfold maxLen; omega) (by omega) hb1 _ rfl ?_; intro g1 q1 w3 hown hgrow0 hat hlt3; have hgrow : World.grownBy _ w3 (some wc.heap.size) := hgrow0)
          simp only [Nat.zero_add, List.nil_append] at hown
          have E3 : Hid (Ext wc w3) := ((Ext.refl wc).alloc (.cells #[] 24)).grown hgrow (fun q hq => by cases hq; exact Nat.le_refl _)
          have BX3 := Lib.hid (BX.out.keep E3.out)
          have WR3 := Lib.hid hown
          clear hown hgrow hgrow0 hat hlt3 hc0 hn0 HE1 RN1 hb1
          have hc0 := BX3.out.c1
          have hn0 := BX3.out.lt
          have HE1 : Hid ((w3.alloc (.cells #[] 41)).ownsRow w2.heap.size 41 1 (.slice (some ⟨w3.heap.size, 0, none⟩) 0 0) 0 []) := World.ownsRow_lit (base := w2.heap.size) (e := 41) (size := 1) w3 #[] 0 BX3.out.ext.size (by unfold maxLen; omega) rfl
          have RN1 := Lib.hid (row_read (row_keep BX3.out.roots ((Ext.refl w3).alloc (.cells #[] 41))))
          have hb1 : w2.heap.size ≤ (w3.alloc (.cells #[] 41)).heap.size := ((BX3.out.ext).alloc _).size
          go_upto_region 11 with (at_builtin; refine wpList_append_lies _ rfl _ _ 23 rfl w2.heap.size 41 j0 _ 1 4 Tryz.underlying23 hj hy0 hy1 hy3 rfl (by omega) _ 0 _ rfl HE1.out ⟨gR, 0, none⟩ RC.length cR (u32s RC) rfl (by simp) RN1.out (u32s_one _) (by have := RCL.out; omega) (by have := RCL.out; unfold maxLen; omega) (by have := RCL.out; omega) hb1 _ rfl ?_; intro g2 q2 w4 hown hgrow0 hat hlt3; have hgrow : World.grownBy _ w4 (some w3.heap.size) := hgrow0)
          simp only [Nat.zero_add, List.nil_append] at hown
          have E4 : Hid (Ext w3 w4) := ((Ext.refl w3).alloc (.cells #[] 41)).grown hgrow (fun q hq => by cases hq; exact Nat.le_refl _)
          have WR4 := Lib.hid (row_keep WR3.out E4.out)
          have RR4 := Lib.hid hown
          have EX4 := Lib.hid (BX3.out.ext.trans E4.out)
          clear hown hgrow hgrow0 hat hlt3 hc0 hn0 HE1 RN1 hb1 BX BX3 WR3 E3 E4
          have ap : g1 ≠ g2 := by
            rcases rows_apart WR4.out RR4.out (by decide) with h | h
            · simp [Value.ownBlock] at h
            · simpa [Value.ownBlock] using h
          have gl1 := (WR4.out.lt g1 rfl).1
          have gl2 := (RR4.out.lt g2 rfl).1
          have hng : IntKind.i64.wrap (-(RC.length : Int)) = -(RC.length : Int) := IntWalk.i64_in _ (by have := RCL.out; omega)
          by_cases c1 : 0 ≤ t ∧ t < (WC.length : Int)
          · obtain ⟨i, rfl⟩ : ∃ i : Nat, t = (i : Int) := ⟨t.toNat, by omega⟩
            obtain ⟨c1a, c1b⟩ := c1
            have hil : i < WC.length := by omega
            have cx : w4.cell? ⟨g1, i, none⟩ = some (.int .u32 (wd WC i)) := by
              rw [row_cell WR4.out i hil]; simp [u32s, wd, hil]
            have fx : ∀ j, w4.frozen? ⟨g1, j, none⟩ = false := fun j => row_free WR4.out j
            have c3 : ¬ ((i : Int) < 0) := by omega
            go_upto_region 15 with fail
            have m4 := mod_setCell w4 ⟨g1, i, none⟩ (.int .u32 x)
            have WX0 := row_set WR4.out i (.int .u32 x)
            have RX := Lib.hid (m4.row RR4.out (by intro y hy hq; cases hy; simp at hq; exact ap hq.symm))
            have EWX : Hid (Ext w2 (w4.setCell ⟨g1, i, none⟩ (.int .u32 x))) := Ext.setCell EX4.out (p := ⟨g1, i, none⟩) gl1 _
            clear cx fx m4 WR4 RR4 EX4 gl1 gl2 hng c1a c1b c3 t0 t1
            generalize w4.setCell ⟨g1, i, none⟩ (.int .u32 x) = wx at *
            obtain ⟨WS, hWS⟩ : ∃ WS, WS = WC.set i x := ⟨_, rfl⟩
            have WX1 : wx.ownsRow w2.heap.size 24 1 (.slice (some ⟨g1, 0, none⟩) WC.length q1) WC.length (u32s WS) := by
              rw [hWS]; simpa [u32s, List.map_set] using WX0
            have WX := Lib.hid WX1
            clear WX1
            have HWL : Hid (WS.length = WC.length) := by show _ = _; rw [hWS]; simp
            have WSR : Hid (∀ y, y ∈ WS → 0 ≤ y ∧ y < 4294967296) := by
              intro y hy
              rw [hWS] at hy
              rcases List.mem_or_eq_of_mem_set hy with h | rfl
              · exact WCR.out y h
              · exact ⟨x0, x1⟩
            obtain ⟨RS, hRS⟩ : ∃ RS, RS = RC := ⟨_, rfl⟩
            rw [← hRS] at RX
            have HRL : Hid (RS.length = RC.length) := by show _ = _; rw [hRS]
            have RSR : Hid (∀ y, y ∈ RS → 0 ≤ y ∧ y < 4294967296) := by
              show ∀ y, _; rw [hRS]; exact RCR.out
            have hX1 := HRL.out
            rw [hX1] at RX
            clear hX1 WX0 hWS hRS
            obtain ⟨b1, b2⟩ := blk (EWX.out.keep B52.out)
            have RL : Hid (Calls Tryz.prog 11 #[.int .i64 size, .slice (some ⟨g1, 0, none⟩) WC.length q1, .slice (some ⟨g2, 0, none⟩) RC.length q2, .int .u32 last] wx (RLoadR wx size WS RS last)) := by
              have := RLoad_any (size := size) (ad1 := some ⟨g1, 0, none⟩) (ad2 := some ⟨g2, 0, none⟩) (ws := WS) (rs := RS) (last := last) q1 q2 SIZ.out.1 SIZ.out.2 (w := wx) ⟨fun _ => ⟨g1, 0, rfl, row_lt WX.out, row_read WX.out⟩, fun _ => ⟨g2, 0, rfl, row_lt RX.out, row_read RX.out⟩, WSR.out, RSR.out, HL.out.1, HL.out.2, by have := HWL.out; omega, by have := HRL.out; have := RCL.out; omega⟩
              rw [HWL.out, HRL.out] at this
              exact this
            go_wp2_with fail
            refine RL.out.mono ?_
            rintro e w5 ⟨hE5, ⟨os5, LR5, rfl, hF5, hwf5, hso5⟩ | ⟨n5, hn5, rfl⟩⟩
            · have E5 := Lib.hid (EWX.out.trans hE5)
              have FG5 := Lib.hid hF5
              have WFG := Lib.hid hwf5
              have SOG := Lib.hid hso5
              have WX5 := Lib.hid (row_keep WX.out hE5)
              have RX5 := Lib.hid (row_keep RX.out hE5)
              have NW := Lib.hid (New_ok size SIZ.out.1 SIZ.out.2 w5)
              clear hE5 hF5 hwf5 hso5 RL b1 b2 WX RX
              obtain ⟨b1, b2⟩ := blk (E5.out.keep B52.out)
              go_wp2_with fail
              refine NW.out.mono ?_
              rintro e w6 ⟨L6, rfl, hA6, hE6, hf6⟩
              have A6 := Lib.hid hA6
              have E56 := Lib.hid hE6
              have E6 := Lib.hid (E5.out.trans hE6)
              have F6 := Lib.hid hf6
              have LD : Hid (Calls Tryz.prog 14 #[.pointer (some ⟨L6.b, 0, none⟩), .slice (some ⟨g1, 0, none⟩) WC.length q1, .slice (some ⟨g2, 0, none⟩) RC.length q2, .int .u32 last] w6 (LoadR w6 L6 (stuffH size WS os5 RS last))) := by
                have := Load_ok (os := os5) A6.out (emptyH_wf size SIZ.out.1 SIZ.out.2) (HS.out.kept (E2.out.trans E6.out) hp) (ws := WS) (rs := RS) (last := last) ⟨g1, 0, none⟩ ⟨g2, 0, none⟩ q1 q2 (row_read (row_keep WX5.out hE6)) (row_lt (row_keep WX5.out hE6)) (row_read (row_keep RX5.out hE6)) (row_lt (row_keep RX5.out hE6)) WFG.out.pos WFG.out.fits WSR.out (by rw [HRL.out]; exact RCL.out) RSR.out HL.out.1 HL.out.2 WFG.out.zero WFG.out.laid SOG.out
                rw [HWL.out, HRL.out] at this
                exact this
              clear hA6 hE6 hf6 NW b1 b2
              obtain ⟨b1, b2⟩ := blk (E6.out.keep B52.out)
              go_wp2_with fail
              refine LD.out.mono ?_
              rintro e w7 ⟨rfl, L7, hb7, hA7, hM7, n1, n2, n3⟩
              have E57 : Hid (Ext w5 w7) := Mod.ext_of_new E56.out hM7 F6.out.1
              have G2 := Lib.hid hA7
              have FG2 := Lib.hid (FG5.out.keep E57.out)
              have A2 := Lib.hid (A2.out.keep (E5.out.trans E57.out))
              have F2 := Lib.hid (F2.out.keep (E5.out.trans E57.out))
              have E2 := Lib.hid (E2.out.trans (E5.out.trans E57.out))
              clear hA7 hM7 n1 n2 n3 LD b1 b2 A6 F6 FG5 WX5 RX5 WSR RSR HWL HRL EWX B52 SIZ HL E5 E56 E57 E6
              generalize stuffH size WS os5 RS last = g at *
              go_wp2_with fail
              refine (num13 _ _).mono ?_
              rintro e w' ⟨rfl, rfl⟩
              generalize L6.b = b6 at *
              subst hb7
              have hpos : 0 < 64 := by omega
              have C1 := Lib.hid (fun W (hE : Ext w7 W) => Collection_ok (A2.out.keep hE) WFX.out SO.out (G2.out.keep hE) WFG.out SOG.out (HS.out.kept (E2.out.trans hE) hp))
              have C2 := Lib.hid (fun W (hE : Ext w7 W) => RColl_ok (F2.out.keep hE) WFX.out SO.out (FG2.out.keep hE) WFG.out SOG.out)
              have K1 := Lib.hid (fun W (hE : Ext w7 W) => Coll_nil2 (A2.out.keep hE) WFX.out)
              have K2 := Lib.hid (fun W (hE : Ext w7 W) => RColl_nil2 (F2.out.keep hE) WFX.out.size0)
              have K3 := Lib.hid (fun W (hE : Ext w7 W) => Coll_nil1 (A2.out.keep hE) WFX.out)
              have K4 := Lib.hid (fun W (hE : Ext w7 W) => RColl_nil1 (F2.out.keep hE) WFX.out.size0)
              generalize collF h os g os5 = R at *
              obtain ⟨k0, k1⟩ := R
              have e51 : ∀ w, (binOp .neq 51 (.agg #[.int .i64 k0, .int .i64 k1]) (.agg #[.int .i64 k0, .int .i64 k1])).run Tryz.prog w = .ok (.bool false) w := fun w => by rw [run_neq51]; simp
              have f51 : ∀ w, (binOp .eql 51 (.agg #[.int .i64 0, .int .i64 0]) (.agg #[.int .i64 0, .int .i64 0])).run Tryz.prog w = .ok (.bool true) w := fun w => by rw [run_eql51]; rfl
              have g51 : ∀ w, (binOp .eql 51 (.agg #[.int .i64 10, .int .i64 0]) (.agg #[.int .i64 10, .int .i64 0])).run Tryz.prog w = .ok (.bool true) w := fun w => by rw [run_eql51]; rfl
              go_wp2_with fail
              refine (C1.out _ (Ext.refl _)).mono ?_
              rintro e v1 ⟨rfl, hX1⟩
              have X1 := Lib.hid hX1
              clear hX1
              go_wp2_with fail
              refine (C2.out _ X1.out).mono ?_
              rintro e v2 ⟨rfl, hX2⟩
              have X2 := Lib.hid (X1.out.trans hX2)
              clear hX2
              go_wp2_with fail
              refine (Coll_nilnil _).mono ?_
              rintro e v3 ⟨rfl, hX3⟩
              have X3 := Lib.hid (X2.out.trans hX3)
              clear hX3
              go_wp2_with fail
              refine (K1.out _ X3.out).mono ?_
              rintro e v4 ⟨rfl, hX4⟩
              have X4 := Lib.hid (X3.out.trans hX4)
              clear hX4
              go_wp2_with fail
              refine (K2.out _ X4.out).mono ?_
              rintro e v5 ⟨rfl, hX5⟩
              have X5 := Lib.hid (X4.out.trans hX5)
              clear hX5
              go_wp2_with fail
              refine (K3.out _ X5.out).mono ?_
              rintro e v6 ⟨rfl, hX6⟩
              have X6 := Lib.hid (X5.out.trans hX6)
              clear hX6
              go_wp2_with fail
              refine (K4.out _ X6.out).mono ?_
              rintro e v7 ⟨rfl, hX7⟩
              have X7 := Lib.hid (X6.out.trans hX7)
              clear hX7
              go_wp2
              go_ret
              exact ⟨rfl, E2.out.trans X7.out⟩
            · have hn : (n5 != 0) = true := by simpa using hn5
              have E5 := Lib.hid (E2.out.trans (EWX.out.trans hE5))
              clear hE5 hn5
              go_wp2_with (go_at_call 9; refine (AW.out _ E5.out).mono ?_; rintro e w6 ⟨rfl, hE6⟩; have E6 := Lib.hid (E5.out.trans hE6); clear hE6)
              go_ret
              exact ⟨rfl, E6.out⟩
          · by_cases c2 : t < 0 ∧ -(RC.length : Int) ≤ t
            · obtain ⟨c2a, c2b⟩ := c2
              obtain ⟨i, hi⟩ : ∃ i : Nat, -t - 1 = (i : Int) := ⟨(-t - 1).toNat, by omega⟩
              have hil : i < RC.length := by omega
              have cx : w4.cell? ⟨g2, i, none⟩ = some (.int .u32 (wd RC i)) := by
                rw [row_cell RR4.out i hil]; simp [u32s, wd, hil]
              have fx : ∀ j, w4.frozen? ⟨g2, j, none⟩ = false := fun j => row_free RR4.out j
              have v1 : IntKind.i64.wrap (-t) = -t := IntWalk.i64_in _ (by have := RCL.out; omega)
              have v2 : IntKind.i64.wrap (-t - 1) = (i : Int) := by rw [hi]; exact IntWalk.i64_in _ (by have := RCL.out; omega)
              have c3 : ¬ (0 ≤ t) := by omega
              have hil2 : (i : Int) < (RC.length : Int) := by omega
              go_upto_region 15 with fail
              have m4 := mod_setCell w4 ⟨g2, i, none⟩ (.int .u32 x)
              have RX0 := row_set RR4.out i (.int .u32 x)
              have WX := Lib.hid (m4.row WR4.out (by intro y hy hq; cases hy; simp at hq; exact ap hq))
              have EWX : Hid (Ext w2 (w4.setCell ⟨g2, i, none⟩ (.int .u32 x))) := Ext.setCell EX4.out (p := ⟨g2, i, none⟩) gl2 _
              clear cx fx m4 WR4 RR4 EX4 gl1 gl2 hng c1 c2a c2b c3 v1 v2 hi hil2
              generalize w4.setCell ⟨g2, i, none⟩ (.int .u32 x) = wx at *
              obtain ⟨RS, hRS⟩ : ∃ RS, RS = RC.set i x := ⟨_, rfl⟩
              have RX1 : wx.ownsRow w2.heap.size 41 1 (.slice (some ⟨g2, 0, none⟩) RC.length q2) RC.length (u32s RS) := by
                rw [hRS]; simpa [u32s, List.map_set] using RX0
              have RX := Lib.hid RX1
              clear RX1
              have HRL : Hid (RS.length = RC.length) := by show _ = _; rw [hRS]; simp
              have RSR : Hid (∀ y, y ∈ RS → 0 ≤ y ∧ y < 4294967296) := by
                intro y hy
                rw [hRS] at hy
                rcases List.mem_or_eq_of_mem_set hy with h | rfl
                · exact RCR.out y h
                · exact ⟨x0, x1⟩
              obtain ⟨WS, hWS⟩ : ∃ WS, WS = WC := ⟨_, rfl⟩
              rw [← hWS] at WX
              have HWL : Hid (WS.length = WC.length) := by show _ = _; rw [hWS]
              have WSR : Hid (∀ y, y ∈ WS → 0 ≤ y ∧ y < 4294967296) := by
                show ∀ y, _; rw [hWS]; exact WCR.out
              have hX1 := HWL.out
              rw [hX1] at WX
              clear hX1 RX0 hRS hWS
              obtain ⟨b1, b2⟩ := blk (EWX.out.keep B52.out)
              have RL : Hid (Calls Tryz.prog 11 #[.int .i64 size, .slice (some ⟨g1, 0, none⟩) WC.length q1, .slice (some ⟨g2, 0, none⟩) RC.length q2, .int .u32 last] wx (RLoadR wx size WS RS last)) := by
                have := RLoad_any (size := size) (ad1 := some ⟨g1, 0, none⟩) (ad2 := some ⟨g2, 0, none⟩) (ws := WS) (rs := RS) (last := last) q1 q2 SIZ.out.1 SIZ.out.2 (w := wx) ⟨fun _ => ⟨g1, 0, rfl, row_lt WX.out, row_read WX.out⟩, fun _ => ⟨g2, 0, rfl, row_lt RX.out, row_read RX.out⟩, WSR.out, RSR.out, HL.out.1, HL.out.2, by have := HWL.out; omega, by have := HRL.out; have := RCL.out; omega⟩
                rw [HWL.out, HRL.out] at this
                exact this
              go_wp2_with fail
              refine RL.out.mono ?_
              rintro e w5 ⟨hE5, ⟨os5, LR5, rfl, hF5, hwf5, hso5⟩ | ⟨n5, hn5, rfl⟩⟩
              · have E5 := Lib.hid (EWX.out.trans hE5)
                have FG5 := Lib.hid hF5
                have WFG := Lib.hid hwf5
                have SOG := Lib.hid hso5
                have WX5 := Lib.hid (row_keep WX.out hE5)
                have RX5 := Lib.hid (row_keep RX.out hE5)
                have NW := Lib.hid (New_ok size SIZ.out.1 SIZ.out.2 w5)
                clear hE5 hF5 hwf5 hso5 RL b1 b2 WX RX
                obtain ⟨b1, b2⟩ := blk (E5.out.keep B52.out)
                go_wp2_with fail
                refine NW.out.mono ?_
                rintro e w6 ⟨L6, rfl, hA6, hE6, hf6⟩
                have A6 := Lib.hid hA6
                have E56 := Lib.hid hE6
                have E6 := Lib.hid (E5.out.trans hE6)
                have F6 := Lib.hid hf6
                have LD : Hid (Calls Tryz.prog 14 #[.pointer (some ⟨L6.b, 0, none⟩), .slice (some ⟨g1, 0, none⟩) WC.length q1, .slice (some ⟨g2, 0, none⟩) RC.length q2, .int .u32 last] w6 (LoadR w6 L6 (stuffH size WS os5 RS last))) := by
                  have := Load_ok (os := os5) A6.out (emptyH_wf size SIZ.out.1 SIZ.out.2) (HS.out.kept (E2.out.trans E6.out) hp) (ws := WS) (rs := RS) (last := last) ⟨g1, 0, none⟩ ⟨g2, 0, none⟩ q1 q2 (row_read (row_keep WX5.out hE6)) (row_lt (row_keep WX5.out hE6)) (row_read (row_keep RX5.out hE6)) (row_lt (row_keep RX5.out hE6)) WFG.out.pos WFG.out.fits WSR.out (by rw [HRL.out]; exact RCL.out) RSR.out HL.out.1 HL.out.2 WFG.out.zero WFG.out.laid SOG.out
                  rw [HWL.out, HRL.out] at this
                  exact this
                clear hA6 hE6 hf6 NW b1 b2
                obtain ⟨b1, b2⟩ := blk (E6.out.keep B52.out)
                go_wp2_with fail
                refine LD.out.mono ?_
                rintro e w7 ⟨rfl, L7, hb7, hA7, hM7, n1, n2, n3⟩
                have E57 : Hid (Ext w5 w7) := Mod.ext_of_new E56.out hM7 F6.out.1
                have G2 := Lib.hid hA7
                have FG2 := Lib.hid (FG5.out.keep E57.out)
                have A2 := Lib.hid (A2.out.keep (E5.out.trans E57.out))
                have F2 := Lib.hid (F2.out.keep (E5.out.trans E57.out))
                have E2 := Lib.hid (E2.out.trans (E5.out.trans E57.out))
                clear hA7 hM7 n1 n2 n3 LD b1 b2 A6 F6 FG5 WX5 RX5 WSR RSR HWL HRL EWX B52 SIZ HL E5 E56 E57 E6
                generalize stuffH size WS os5 RS last = g at *
                go_wp2_with fail
                refine (num13 _ _).mono ?_
                rintro e w' ⟨rfl, rfl⟩
                generalize L6.b = b6 at *
                subst hb7
                have hpos : 0 < 64 := by omega
                have C1 := Lib.hid (fun W (hE : Ext w7 W) => Collection_ok (A2.out.keep hE) WFX.out SO.out (G2.out.keep hE) WFG.out SOG.out (HS.out.kept (E2.out.trans hE) hp))
                have C2 := Lib.hid (fun W (hE : Ext w7 W) => RColl_ok (F2.out.keep hE) WFX.out SO.out (FG2.out.keep hE) WFG.out SOG.out)
                have K1 := Lib.hid (fun W (hE : Ext w7 W) => Coll_nil2 (A2.out.keep hE) WFX.out)
                have K2 := Lib.hid (fun W (hE : Ext w7 W) => RColl_nil2 (F2.out.keep hE) WFX.out.size0)
                have K3 := Lib.hid (fun W (hE : Ext w7 W) => Coll_nil1 (A2.out.keep hE) WFX.out)
                have K4 := Lib.hid (fun W (hE : Ext w7 W) => RColl_nil1 (F2.out.keep hE) WFX.out.size0)
                generalize collF h os g os5 = R at *
                obtain ⟨k0, k1⟩ := R
                have e51 : ∀ w, (binOp .neq 51 (.agg #[.int .i64 k0, .int .i64 k1]) (.agg #[.int .i64 k0, .int .i64 k1])).run Tryz.prog w = .ok (.bool false) w := fun w => by rw [run_neq51]; simp
                have f51 : ∀ w, (binOp .eql 51 (.agg #[.int .i64 0, .int .i64 0]) (.agg #[.int .i64 0, .int .i64 0])).run Tryz.prog w = .ok (.bool true) w := fun w => by rw [run_eql51]; rfl
                have g51 : ∀ w, (binOp .eql 51 (.agg #[.int .i64 10, .int .i64 0]) (.agg #[.int .i64 10, .int .i64 0])).run Tryz.prog w = .ok (.bool true) w := fun w => by rw [run_eql51]; rfl
                go_wp2_with fail
                refine (C1.out _ (Ext.refl _)).mono ?_
                rintro e v1 ⟨rfl, hX1⟩
                have X1 := Lib.hid hX1
                clear hX1
                go_wp2_with fail
                refine (C2.out _ X1.out).mono ?_
                rintro e v2 ⟨rfl, hX2⟩
                have X2 := Lib.hid (X1.out.trans hX2)
                clear hX2
                go_wp2_with fail
                refine (Coll_nilnil _).mono ?_
                rintro e v3 ⟨rfl, hX3⟩
                have X3 := Lib.hid (X2.out.trans hX3)
                clear hX3
                go_wp2_with fail
                refine (K1.out _ X3.out).mono ?_
                rintro e v4 ⟨rfl, hX4⟩
                have X4 := Lib.hid (X3.out.trans hX4)
                clear hX4
                go_wp2_with fail
                refine (K2.out _ X4.out).mono ?_
                rintro e v5 ⟨rfl, hX5⟩
                have X5 := Lib.hid (X4.out.trans hX5)
                clear hX5
                go_wp2_with fail
                refine (K3.out _ X5.out).mono ?_
                rintro e v6 ⟨rfl, hX6⟩
                have X6 := Lib.hid (X5.out.trans hX6)
                clear hX6
                go_wp2_with fail
                refine (K4.out _ X6.out).mono ?_
                rintro e v7 ⟨rfl, hX7⟩
                have X7 := Lib.hid (X6.out.trans hX7)
                clear hX7
                go_wp2
                go_ret
                exact ⟨rfl, E2.out.trans X7.out⟩
              · have hn : (n5 != 0) = true := by simpa using hn5
                have E5 := Lib.hid (E2.out.trans (EWX.out.trans hE5))
                clear hE5 hn5
                go_wp2_with (go_at_call 9; refine (AW.out _ E5.out).mono ?_; rintro e w6 ⟨rfl, hE6⟩; have E6 := Lib.hid (E5.out.trans hE6); clear hE6)
                go_ret
                exact ⟨rfl, E6.out⟩
            · have key : (0 ≤ t ∧ ¬ (t < (WC.length : Int)) ∧ ¬ (t < 0)) ∨ (¬ (0 ≤ t) ∧ t < 0 ∧ ¬ (-(RC.length : Int) ≤ t)) := by omega
              clear c1 c2
              have EWX := EX4
              rcases key with ⟨k1, k2, k3⟩ | ⟨k1, k2, k3⟩
              all_goals
                go_upto_region 15 with fail
                clear gl1 gl2 hng k1 k2 k3
                generalize w4 = wx at *
                have WX := WR4
                have RX := RR4
                obtain ⟨WS, hWS⟩ : ∃ WS, WS = WC := ⟨_, rfl⟩
                rw [← hWS] at WX
                have HWL : Hid (WS.length = WC.length) := by show _ = _; rw [hWS]
                have WSR : Hid (∀ y, y ∈ WS → 0 ≤ y ∧ y < 4294967296) := by
                  show ∀ y, _; rw [hWS]; exact WCR.out
                have hX1 := HWL.out
                rw [hX1] at WX
                clear hX1
                obtain ⟨RS, hRS⟩ : ∃ RS, RS = RC := ⟨_, rfl⟩
                rw [← hRS] at RX
                have HRL : Hid (RS.length = RC.length) := by show _ = _; rw [hRS]
                have RSR : Hid (∀ y, y ∈ RS → 0 ≤ y ∧ y < 4294967296) := by
                  show ∀ y, _; rw [hRS]; exact RCR.out
                have hX1 := HRL.out
                rw [hX1] at RX
                clear hX1 hWS hRS WR4 RR4 EX4
                obtain ⟨b1, b2⟩ := blk (EWX.out.keep B52.out)
                have RL : Hid (Calls Tryz.prog 11 #[.int .i64 size, .slice (some ⟨g1, 0, none⟩) WC.length q1, .slice (some ⟨g2, 0, none⟩) RC.length q2, .int .u32 last] wx (RLoadR wx size WS RS last)) := by
                  have := RLoad_any (size := size) (ad1 := some ⟨g1, 0, none⟩) (ad2 := some ⟨g2, 0, none⟩) (ws := WS) (rs := RS) (last := last) q1 q2 SIZ.out.1 SIZ.out.2 (w := wx) ⟨fun _ => ⟨g1, 0, rfl, row_lt WX.out, row_read WX.out⟩, fun _ => ⟨g2, 0, rfl, row_lt RX.out, row_read RX.out⟩, WSR.out, RSR.out, HL.out.1, HL.out.2, by have := HWL.out; omega, by have := HRL.out; have := RCL.out; omega⟩
                  rw [HWL.out, HRL.out] at this
                  exact this
                go_wp2_with fail
                refine RL.out.mono ?_
                rintro e w5 ⟨hE5, ⟨os5, LR5, rfl, hF5, hwf5, hso5⟩ | ⟨n5, hn5, rfl⟩⟩
                · have E5 := Lib.hid (EWX.out.trans hE5)
                  have FG5 := Lib.hid hF5
                  have WFG := Lib.hid hwf5
                  have SOG := Lib.hid hso5
                  have WX5 := Lib.hid (row_keep WX.out hE5)
                  have RX5 := Lib.hid (row_keep RX.out hE5)
                  have NW := Lib.hid (New_ok size SIZ.out.1 SIZ.out.2 w5)
                  clear hE5 hF5 hwf5 hso5 RL b1 b2 WX RX
                  obtain ⟨b1, b2⟩ := blk (E5.out.keep B52.out)
                  go_wp2_with fail
                  refine NW.out.mono ?_
                  rintro e w6 ⟨L6, rfl, hA6, hE6, hf6⟩
                  have A6 := Lib.hid hA6
                  have E56 := Lib.hid hE6
                  have E6 := Lib.hid (E5.out.trans hE6)
                  have F6 := Lib.hid hf6
                  have LD : Hid (Calls Tryz.prog 14 #[.pointer (some ⟨L6.b, 0, none⟩), .slice (some ⟨g1, 0, none⟩) WC.length q1, .slice (some ⟨g2, 0, none⟩) RC.length q2, .int .u32 last] w6 (LoadR w6 L6 (stuffH size WS os5 RS last))) := by
                    have := Load_ok (os := os5) A6.out (emptyH_wf size SIZ.out.1 SIZ.out.2) (HS.out.kept (E2.out.trans E6.out) hp) (ws := WS) (rs := RS) (last := last) ⟨g1, 0, none⟩ ⟨g2, 0, none⟩ q1 q2 (row_read (row_keep WX5.out hE6)) (row_lt (row_keep WX5.out hE6)) (row_read (row_keep RX5.out hE6)) (row_lt (row_keep RX5.out hE6)) WFG.out.pos WFG.out.fits WSR.out (by rw [HRL.out]; exact RCL.out) RSR.out HL.out.1 HL.out.2 WFG.out.zero WFG.out.laid SOG.out
                    rw [HWL.out, HRL.out] at this
                    exact this
                  clear hA6 hE6 hf6 NW b1 b2
                  obtain ⟨b1, b2⟩ := blk (E6.out.keep B52.out)
                  go_wp2_with fail
                  refine LD.out.mono ?_
                  rintro e w7 ⟨rfl, L7, hb7, hA7, hM7, n1, n2, n3⟩
                  have E57 : Hid (Ext w5 w7) := Mod.ext_of_new E56.out hM7 F6.out.1
                  have G2 := Lib.hid hA7
                  have FG2 := Lib.hid (FG5.out.keep E57.out)
                  have A2 := Lib.hid (A2.out.keep (E5.out.trans E57.out))
                  have F2 := Lib.hid (F2.out.keep (E5.out.trans E57.out))
                  have E2 := Lib.hid (E2.out.trans (E5.out.trans E57.out))
                  clear hA7 hM7 n1 n2 n3 LD b1 b2 A6 F6 FG5 WX5 RX5 WSR RSR HWL HRL EWX B52 SIZ HL E5 E56 E57 E6
                  generalize stuffH size WS os5 RS last = g at *
                  go_wp2_with fail
                  refine (num13 _ _).mono ?_
                  rintro e w' ⟨rfl, rfl⟩
                  generalize L6.b = b6 at *
                  subst hb7
                  have hpos : 0 < 64 := by omega
                  have C1 := Lib.hid (fun W (hE : Ext w7 W) => Collection_ok (A2.out.keep hE) WFX.out SO.out (G2.out.keep hE) WFG.out SOG.out (HS.out.kept (E2.out.trans hE) hp))
                  have C2 := Lib.hid (fun W (hE : Ext w7 W) => RColl_ok (F2.out.keep hE) WFX.out SO.out (FG2.out.keep hE) WFG.out SOG.out)
                  have K1 := Lib.hid (fun W (hE : Ext w7 W) => Coll_nil2 (A2.out.keep hE) WFX.out)
                  have K2 := Lib.hid (fun W (hE : Ext w7 W) => RColl_nil2 (F2.out.keep hE) WFX.out.size0)
                  have K3 := Lib.hid (fun W (hE : Ext w7 W) => Coll_nil1 (A2.out.keep hE) WFX.out)
                  have K4 := Lib.hid (fun W (hE : Ext w7 W) => RColl_nil1 (F2.out.keep hE) WFX.out.size0)
                  generalize collF h os g os5 = R at *
                  obtain ⟨k0, k1⟩ := R
                  have e51 : ∀ w, (binOp .neq 51 (.agg #[.int .i64 k0, .int .i64 k1]) (.agg #[.int .i64 k0, .int .i64 k1])).run Tryz.prog w = .ok (.bool false) w := fun w => by rw [run_neq51]; simp
                  have f51 : ∀ w, (binOp .eql 51 (.agg #[.int .i64 0, .int .i64 0]) (.agg #[.int .i64 0, .int .i64 0])).run Tryz.prog w = .ok (.bool true) w := fun w => by rw [run_eql51]; rfl
                  have g51 : ∀ w, (binOp .eql 51 (.agg #[.int .i64 10, .int .i64 0]) (.agg #[.int .i64 10, .int .i64 0])).run Tryz.prog w = .ok (.bool true) w := fun w => by rw [run_eql51]; rfl
                  go_wp2_with fail
                  refine (C1.out _ (Ext.refl _)).mono ?_
                  rintro e v1 ⟨rfl, hX1⟩
                  have X1 := Lib.hid hX1
                  clear hX1
                  go_wp2_with fail
                  refine (C2.out _ X1.out).mono ?_
                  rintro e v2 ⟨rfl, hX2⟩
                  have X2 := Lib.hid (X1.out.trans hX2)
                  clear hX2
                  go_wp2_with fail
                  refine (Coll_nilnil _).mono ?_
                  rintro e v3 ⟨rfl, hX3⟩
                  have X3 := Lib.hid (X2.out.trans hX3)
                  clear hX3
                  go_wp2_with fail
                  refine (K1.out _ X3.out).mono ?_
                  rintro e v4 ⟨rfl, hX4⟩
                  have X4 := Lib.hid (X3.out.trans hX4)
                  clear hX4
                  go_wp2_with fail
                  refine (K2.out _ X4.out).mono ?_
                  rintro e v5 ⟨rfl, hX5⟩
                  have X5 := Lib.hid (X4.out.trans hX5)
                  clear hX5
                  go_wp2_with fail
                  refine (K3.out _ X5.out).mono ?_
                  rintro e v6 ⟨rfl, hX6⟩
                  have X6 := Lib.hid (X5.out.trans hX6)
                  clear hX6
                  go_wp2_with fail
                  refine (K4.out _ X6.out).mono ?_
                  rintro e v7 ⟨rfl, hX7⟩
                  have X7 := Lib.hid (X6.out.trans hX7)
                  clear hX7
                  go_wp2
                  go_ret
                  exact ⟨rfl, E2.out.trans X7.out⟩
                · have hn : (n5 != 0) = true := by simpa using hn5
                  have E5 := Lib.hid (E2.out.trans (EWX.out.trans hE5))
                  clear hE5 hn5
                  go_wp2_with (go_at_call 9; refine (AW.out _ E5.out).mono ?_; rintro e w6 ⟨rfl, hE6⟩; have E6 := Lib.hid (E5.out.trans hE6); clear hE6)
                  go_ret
                  exact ⟨rfl, E6.out⟩
    · have E2 := Lib.hid (E1.out.trans hE2)
      clear hE2
      go_wp2_with (go_at_call 9; refine (AW.out _ E2.out).mono ?_; rintro e w3 ⟨rfl, hE3⟩; have E3 := Lib.hid (E2.out.trans hE3); clear hE3)
      go_ret
      exact ⟨rfl, E3.out⟩
  · have E1 := Lib.hid (E0.out.trans hE1)
    obtain ⟨b1, b2⟩ := blk (hE1.keep B6.out)
    clear hE1 B5 B6
    go_wp2_with fail
    refine (BO2.out _ E1.out).mono ?_
    rintro e w2 ⟨hE2, ⟨osb, Lb, LRb, rfl, hA2, hF2, hwf2, hso2, hab2⟩ | rfl⟩
    all_goals
      have E2 := Lib.hid (E1.out.trans hE2)
      clear hE2
      go_wp2_with (go_at_call 9; refine (AW.out _ E2.out).mono ?_; rintro e w3 ⟨rfl, hE3⟩; have E3 := Lib.hid (E2.out.trans hE3); clear hE3)
      go_ret
      exact ⟨rfl, E3.out⟩
end Go.Proofs.Eff
