/- effigylaw24.AuditTables: the walk. -/
import Derived.Laws.AppendOwnNone
import Derived.Test.YtaggadjiefgpoaaGreatDoorTbE
import Derived.Deep.CutBlock
namespace Go.Proofs.Eff
open Go.RowKit

theorem ids_of_row {W : World} {base g : Nat} {ad : Option Addr} {c : Nat} {ids : List Int} (h : W.ownsRow base 55 1 (.slice ad ids.length c) ids.length (u64s ids)) (hg : g < base) : ∀ W', Mod [g] W W' → IdsAt W' ad ids := by
  intro W' hM h0
  have h2 := hM.row h (fun q hq => by
    have := (h.lt q hq).1
    simp
    omega)
  obtain ⟨ad', c', e, hpos⟩ := own_any h2
  simp only [Value.slice.injEq, true_and] at e
  obtain ⟨rfl, rfl⟩ := e
  obtain ⟨q, rfl, q1, q2⟩ := hpos h0
  exact ⟨q, 0, rfl, q2, h2.cells (g := q) rfl⟩

set_option maxRecDepth 100000 in
set_option maxHeartbeats 4000000 in
theorem AuditTables6 {w : World} (hs : Spares w) (size objects cap first : Int) (ad : Option Addr) (ds : List HDeed) (c : Nat) (spoil : Int) (hds : DeedsAt w ad ds) (hdl : ds.length ≤ 1073741824) (hdo : ∀ d, d ∈ ds → DeedOK d) (_o0 : -9223372036854775808 ≤ objects) (_o1 : objects ≤ 9223372036854775807) (c0 : -9223372036854775808 ≤ cap) (c1 : cap ≤ 9223372036854775807) (f0 : 0 ≤ first) (f1 : first < 18446744073709551616) :
    Calls Tryz.prog 6 #[scrV size objects cap first ad ds.length c, .int .i64 spoil] w fun e w' => e = .returned (.bool true) ∧ Ext w w' := by
  have hp := hs.pos
  have HS := Lib.hid hs
  have NW := Lib.hid (fun W => New_ok 2000 (by omega) (by omega) W)
  have AW := Lib.hid (fun W (hE : Ext w W) => awake9 (hs.kept hE hp))
  have B0 := Lib.hid (newB w (.cells #[.int .i64 size, .int .i64 objects, .int .i64 cap, .int .u64 first, .slice ad ds.length c] 80) _ rfl)
  have E0 := Lib.hid ((Ext.refl w).alloc (.cells #[.int .i64 size, .int .i64 objects, .int .i64 cap, .int .u64 first, .slice ad ds.length c] 80))
  clear hs
  go_enter Tryz.func6, Tryz.ntmps6
  go_wp2_with fail
  refine (NW.out _).mono ?_
  rintro e w1 ⟨L0, rfl, hA0, hE1, hf0⟩
  have E1 := Lib.hid (E0.out.trans hE1)
  have A0 := Lib.hid hA0
  have f0 : L0.above (w.heap.size + 1) := by have := fresh_above hf0; simpa using this
  have F0 := Lib.hid f0
  have B1 := Lib.hid (hE1.keep B0.out)
  clear hA0 hE1 hf0 B0 E0 f0
  go_wp2_with fail
  refine (num13 _ _).mono ?_
  rintro e w' ⟨rfl, rfl⟩
  go_wp2_with fail
  refine (AW.out _ E1.out).mono ?_
  rintro e w2 ⟨rfl, hE2⟩
  have E2 := Lib.hid (E1.out.trans hE2)
  have A2 := Lib.hid (A0.out.keep hE2)
  have B2 := Lib.hid (hE2.keep B1.out)
  clear hE2 A0 B1 E1
  go_upto_block 0 with fail
  go_cut [7] from 36 to 47 (fun _ wc => ∃ (L : HLoc) (h : HeapS) (os : List Nat) (i : Nat), i ≤ 20 ∧ L.b = L0.b ∧ HeapAt wc L h ∧ Made h os i ∧ L.above (w.heap.size + 1) ∧ Ext w wc ∧ wc.heap[w.heap.size]? = some (.cells #[.int .i64 size, .int .i64 objects, .int .i64 cap, .int .u64 first, .slice ad ds.length c] 80))
  case first =>
    go_wp2_with fail
    go_loopw [7] (fun v wr => ∃ (i : Nat) (L : HLoc) (h : HeapS) (os : List Nat), i ≤ 20 ∧ v = .int .i64 i ∧ L.b = L0.b ∧ HeapAt wr L h ∧ Made h os i ∧ L.above (w.heap.size + 1) ∧ Ext w wr ∧ wr.heap[w.heap.size]? = some (.cells #[.int .i64 size, .int .i64 objects, .int .i64 cap, .int .u64 first, .slice ad ds.length c] 80)) (fun v _ => 20 - (intOf v).toNat)
    case atStart => exact ⟨0, L0, emptyH 2000, [], by omega, rfl, rfl, A2.out, Made.zero, F0.out, E2.out, B2.out⟩
    case round =>
      obtain ⟨i, L, h, os, hi, rfl, hLb, hA, hM, hab, hE, hB⟩ := hrel
      have A := Lib.hid hA
      have MD := Lib.hid hM
      have AB := Lib.hid hab
      have E := Lib.hid hE
      have BB := Lib.hid hB
      have HLb := Lib.hid hLb
      obtain ⟨b1, b2⟩ := blk hB
      clear hA hM hab hE hB hLb
      by_cases hgo : (i : Int) < objects ∧ i < 20
      · obtain ⟨g1, g2⟩ := hgo
        have g3 : (i : Int) < 20 := by omega
        have AL := Lib.hid (Alloc_ok A.out MD.out.wf (HS.out.kept E.out hp) 0 1 2 (by omega) (by omega) (by omega) (by omega) (by omega) (by omega) rfl (by have := MD.out.len; have := MD.out.size; omega) (by have := MD.out.last; omega) (fun h0 => by have := AB.out 0 h0; omega))
        rw [HLb.out] at AL
        go_wp2_with fail
        refine AL.out.mono ?_
        rintro e w3 ⟨rfl, L', hb', hA', hM', hf'⟩
        have IN : Hid (HeapAt w3 L' (allocH h ⟨2, 1, 0, 0, 0⟩) ∧ L'.b = L0.b ∧ L'.above (w.heap.size + 1) ∧ Ext w w3 ∧ w3.heap[w.heap.size]? = some (.cells #[.int .i64 size, .int .i64 objects, .int .i64 cap, .int .u64 first, .slice ad ds.length c] 80)) := by
          have hs1 := E.out.size
          have hlt := lt_of_block BB.out
          refine ⟨hA', hb'.trans HLb.out, fun x hx => ?_, E.out.of_mod hM' (fun x hx => by have := AB.out x hx; omega), hM'.keep BB.out (fun hx => by have := AB.out _ hx; omega)⟩
          rcases hf' x hx with h1 | h1
          · exact AB.out x h1
          · omega
        have MS := Lib.hid (MD.out.succ g2)
        clear hA' hM' hf' hb' AL b1 b2
        go_wp2
        go_roundw
        case rel => exact ⟨i + 1, L', _, _, by omega, by go_num, IN.out.2.1, IN.out.1, MS.out, IN.out.2.2.1, IN.out.2.2.2.1, IN.out.2.2.2.2⟩
        case measure => simp [intOf]; omega
      · have key : ¬ (i : Int) < objects ∨ ((i : Int) < objects ∧ ¬ (i : Int) < 20) := by omega
        clear hgo
        generalize wr = wq at *
        rcases key with k1 | ⟨k1, k2⟩
        all_goals
          go_wp2_with fail
          go_meet
          exact ⟨L, h, os, i, hi, HLb.out, A.out, MD.out, AB.out, E.out, BB.out⟩
  case rest =>
    obtain ⟨L, h, os, i, hi, hLb, hA, hM, hab, hE, hB⟩ := hcut
    have A := Lib.hid hA
    have MD := Lib.hid hM
    have AB := Lib.hid hab
    have E := Lib.hid hE
    have BB := Lib.hid hB
    have HLb := Lib.hid hLb
    obtain ⟨b1, b2⟩ := blk hB
    clear hA hM hab hE hB hLb
    cases hbt : badTab cap first with
    | true =>
      have NB := Lib.hid (New30_bad (w := wc) (.pointer (some ⟨L0.b, 0, none⟩)) cap first hbt)
      have HB := Lib.hid (Handles_bad cap first (.slice none 0 0) wc hbt)
      have key : (cap < 1) ∨ (¬ cap < 1 ∧ 256 < cap) ∨ (¬ cap < 1 ∧ ¬ 256 < cap ∧ (first == 0) = true) := by
        simp only [badTab, Bool.or_eq_true, decide_eq_true_eq, beq_iff_eq] at hbt ⊢
        omega
      clear hbt
      rcases key with k1 | ⟨k1, k2⟩ | ⟨k1, k2, k3⟩
      all_goals
        go_wp2_with fail
        refine NB.out.mono ?_
        rintro e w3 ⟨rfl, rfl⟩
        go_wp2_with fail
        refine HB.out.mono ?_
        rintro e w3 ⟨rfl, hE3⟩
        have E3 := Lib.hid (E.out.trans hE3)
        clear hE3
        have hf := field51_0 10 0 w3
        go_wp2_with fail
        go_ret
        exact ⟨rfl, E3.out⟩
    | false =>
      have key : 1 ≤ cap ∧ cap ≤ 256 ∧ (first == 0) = false := by
        have h3 : (first == 0) = false := by
          cases h3 : (first == 0) with
          | true => simp [badTab, h3] at hbt
          | false => rfl
        simp only [badTab, h3, Bool.or_false, Bool.or_eq_false_iff, decide_eq_false_iff_not] at hbt
        exact ⟨by omega, by omega, h3⟩
      obtain ⟨k1, k2, k3⟩ := key
      obtain ⟨cap, rfl⟩ : ∃ n : Nat, cap = (n : Int) := ⟨cap.toNat, by omega⟩
      have NT := Lib.hid (New30 (w := wc) (L := L) (h := h) (os := os) A.out MD.out.wf MD.out.so (HS.out.kept E.out hp) (fun h0 => by have := AB.out 0 h0; omega) cap first hbt f0 f1 (by have := MD.out.roots; rw [this]; rfl) (by have := MD.out.len; have := MD.out.size; omega) (by have := MD.out.last; omega))
      rw [HLb.out] at NT
      have HBT := Lib.hid hbt
      clear hbt
      go_wp2_with fail
      refine NT.out.mono ?_
      rintro e w3 ⟨tb, L1, h1, os1, a, T, rfl, hb1, htb, hT, hR, ⟨S, hS, hMd⟩, hbl⟩
      have I0 : Hid (L1.b = L0.b ∧ tb ≠ 0 ∧ L1.gw ≠ 0 ∧ TBx w3 L1 h1 os1 a cap tb T ∧ Rel h1 os1 a cap T ⟨cap, [], first, 0⟩ ∧ w.heap.size < tb ∧ L1.above (w.heap.size + 1) ∧ Ext w w3 ∧ w3.heap[w.heap.size]? = some (.cells #[.int .i64 size, .int .i64 objects, .int .i64 cap, .int .u64 first, .slice ad ds.length c] 80)) := by
        have hs1 := E.out.size
        have hlt := lt_of_block BB.out
        have hab : L1.above (w.heap.size + 1) := fun x hx => by
          rcases hbl x hx with h1 | h1
          · exact AB.out x h1
          · omega
        refine ⟨hb1.trans HLb.out, by omega, ?_, hT, hR, by omega, hab, E.out.of_mod hMd (fun x hx => ?_), hMd.keep BB.out (fun hx => ?_)⟩
        · have := hab L1.gw (by simp [HLoc.blocks])
          omega
        · rcases hS x hx with h1 | h1
          · have := AB.out x h1; omega
          · omega
        · rcases hS _ hx with h1 | h1
          · have := AB.out _ h1; omega
          · omega
      clear b1 b2
      obtain ⟨b1, b2⟩ := blk I0.out.2.2.2.2.2.2.2.2
      clear hb1 htb hT hR hbl hS hMd NT A MD AB E BB HLb A2 B2 E2 F0
      go_wp2_with fail
      refine (num13 _ _).mono ?_
      rintro e w4 ⟨rfl, rfl⟩
      have TI : Hid (TurnI w w3 tb cap first L1 [] (.slice none 0 0)) := by
        obtain ⟨_, _, _, i4, i5, i6, i7, i8, _⟩ := I0.out
        exact ⟨⟨_, _, _, _, i4, i5⟩, rfl, ActsI.nil _ _ _ _, i7, i6, i8⟩
      have LB : Hid (L1.b = L0.b) := I0.out.1
      have BB := Lib.hid I0.out.2.2.2.2.2.2.2.2
      have HDS := Lib.hid hds
      have HDL := Lib.hid hdl
      have HDO := Lib.hid hdo
      clear hds hdl hdo b1 b2 I0
      go_upto_block 2 with fail
      go_cut [9, 10] from 88 to 193 (fun v9 _ wc => ∃ (E : List Ent) (L : HLoc) (ad2 : Option Addr) (c2 : Nat), v9 = .slice ad2 E.length c2 ∧ E.length ≤ ds.length ∧ L.b = L0.b ∧ TurnI w wc tb cap first L E v9 ∧ wc.heap[w.heap.size]? = some (.cells #[.int .i64 size, .int .i64 objects, .int .i64 cap, .int .u64 first, .slice ad ds.length c] 80))
      case first =>
        go_wp2_with fail
        go_loopw [9, 10] (fun v9 v10 wr => ∃ (i : Nat) (E : List Ent) (L : HLoc) (ad2 : Option Addr) (c2 : Nat), i ≤ ds.length ∧ v10 = .int .i64 i ∧ v9 = .slice ad2 E.length c2 ∧ E.length ≤ i ∧ L.b = L0.b ∧ TurnI w wr tb cap first L E v9 ∧ wr.heap[w.heap.size]? = some (.cells #[.int .i64 size, .int .i64 objects, .int .i64 cap, .int .u64 first, .slice ad ds.length c] 80)) (fun _ v10 _ => ds.length - (intOf v10).toNat)
        case atStart => exact ⟨0, [], L1, none, 0, by omega, rfl, rfl, by simp, LB.out, TI.out, BB.out⟩
        case round =>
          obtain ⟨i, E, L, ad2, c2, hi, rfl, rfl, hEi, hLb, hT, hB⟩ := hrel
          have TT := Lib.hid hT
          have BX := Lib.hid hB
          have HLB := Lib.hid hLb
          obtain ⟨b1, b2⟩ := blk hB
          clear hT hB hLb
          by_cases hlt : i < ds.length
          · have hlt2 : (i : Int) < (ds.length : Int) := by omega
            have HWR := Lib.hid (small_next hlt HDL.out)
            have DSW := Lib.hid (HDS.out.ofExt TT.out.ext)
            obtain ⟨b, off, rfl, hb, hdeeds⟩ := DSW.out (by omega)
            obtain ⟨d, hd⟩ : ∃ d, ds[i]? = some d := ⟨ds[i], by simp [hlt]⟩
            have hat := hdeeds i d hd
            have DOK := Lib.hid (HDO.out d (List.mem_of_getElem? hd))
            have a0 := hat.c0
            have a1 := hat.c1
            have a2 := hat.c2
            have a3 := hat.c3
            have a4 := hat.c4
            obtain ⟨dk, dO, dId, dN, dI⟩ := d
            simp only at a0 a1 a2 a3 a4
            clear hat hd hdeeds DSW
            go_upto_region 21 with fail
            generalize Int.tmod dk 10 = q at *
            have key : q = 0 ∨ q = 1 ∨ q = 2 ∨ q = 3 ∨ q = 4 ∨ q = 5 ∨ q = 6 ∨ (q ≠ 0 ∧ q ≠ 1 ∧ q ≠ 2 ∧ q ≠ 3 ∧ q ≠ 4 ∧ q ≠ 5 ∧ q ≠ 6) := by omega
            rcases key with rfl | rfl | rfl | rfl | rfl | rfl | rfl | ⟨q0, q1, q2, q3, q4, q5, q6⟩
            case inr.inr.inr.inr.inr.inr.inr =>
              obtain ⟨ac, hc, osc, Tc, t2, R2⟩ := TT.out.tab
              have EW : Hid (Ext wr ((wr.alloc (.cells #[.int .i64 dk, .int .u32 dO, .int .u64 dId, .int .i64 dN, .int .i64 dI] 86)).alloc (.cells #[.int .i64 0, .int .u64 dId, .int .i64 dN, .int .u32 0, .slice none 0 0, .int .i64 0] 90))) := ((Ext.refl _).alloc _).alloc _
              have BD : Hid (((wr.alloc (.cells #[.int .i64 dk, .int .u32 dO, .int .u64 dId, .int .i64 dN, .int .i64 dI] 86)).alloc (.cells #[.int .i64 0, .int .u64 dId, .int .i64 dN, .int .u32 0, .slice none 0 0, .int .i64 0] 90)).heap[wr.heap.size]? = some (.cells #[.int .i64 dk, .int .u32 dO, .int .u64 dId, .int .i64 dN, .int .i64 dI] 86)) := keepB (newB wr _ wr.heap.size rfl) _
              have BA : Hid (((wr.alloc (.cells #[.int .i64 dk, .int .u32 dO, .int .u64 dId, .int .i64 dN, .int .i64 dI] 86)).alloc (.cells #[.int .i64 0, .int .u64 dId, .int .i64 dN, .int .u32 0, .slice none 0 0, .int .i64 0] 90)).heap[wr.heap.size + 1]? = some (.cells #[.int .i64 0, .int .u64 dId, .int .i64 dN, .int .u32 0, .slice none 0 0, .int .i64 0] 90)) := newB _ _ _ (by simp)
              have hbl : ∀ x, x ∈ L.blocks → x < wr.heap.size := t2.heap.bl
              have htb : tb < wr.heap.size := t2.tab.lt
              have HBL := Lib.hid hbl
              have HTB := Lib.hid htb
              have SZ : Hid (wr.heap.size + 2 ≤ ((wr.alloc (.cells #[.int .i64 dk, .int .u32 dO, .int .u64 dId, .int .i64 dN, .int .i64 dI] 86)).alloc (.cells #[.int .i64 0, .int .u64 dId, .int .i64 dN, .int .u32 0, .slice none 0 0, .int .i64 0] 90)).heap.size) := by show _ ≤ _; simp
              have NM : Hid (∀ x, x ∈ [tb, L.gw] → x < wr.heap.size) := fun x hx => by
                simp only [List.mem_cons, List.not_mem_nil, or_false] at hx
                rcases hx with rfl | rfl
                · exact htb
                · exact hbl _ (by simp [HLoc.blocks])
              have NS : Hid (¬ w.heap.size ∈ [tb, L.gw]) := fun hx => by
                simp only [List.mem_cons, List.not_mem_nil, or_false] at hx
                rcases hx with hx | hx
                · have := TT.out.tb1; omega
                · have := TT.out.above L.gw (by simp [HLoc.blocks]); omega
              have SLT : Hid (w.heap.size < wr.heap.size) := lt_of_block BX.out
              have t2h := Lib.hid t2
              have R2h := Lib.hid R2
              have LBE := HLB.out
              have HTN : Hid (tb ≠ 0) := by have := TT.out.tb1; show tb ≠ 0; omega
              have HGN : Hid (L.gw ≠ 0) := by have := TT.out.above L.gw (by simp [HLoc.blocks]); show L.gw ≠ 0; omega
              have SPW : Hid (Spares wr) := HS.out.kept TT.out.ext hp
              have spp : 0 < wr.heap.size := by have := SLT.out; omega
              clear R2 t2 hbl htb
              generalize (wr.alloc (.cells #[.int .i64 dk, .int .u32 dO, .int .u64 dId, .int .i64 dN, .int .i64 dI] 86)).alloc (.cells #[.int .i64 0, .int .u64 dId, .int .i64 dN, .int .u32 0, .slice none 0 0, .int .i64 0] 90) = wq at *
              clear b1 b2 a0 a1 a2 a3 a4
              have BSq : Hid (wq.heap[w.heap.size]? = some (.cells #[.int .i64 size, .int .i64 objects, .int .i64 cap, .int .u64 first, .slice (some ⟨b, off, none⟩) ds.length c] 80)) := EW.out.keep BX.out
              obtain ⟨d1, d2⟩ := blk BD.out
              obtain ⟨a1, a2⟩ := blk BA.out
              obtain ⟨b1, b2⟩ := blk BSq.out
              have co := Collect_ok (t2h.out.heap.keep EW.out) t2h.out.wf t2h.out.so (SPW.out.kept EW.out spp)
              rw [LBE] at co
              have CO := Lib.hid co
              clear co
              have q0b : (q == 0) = false := by rw [beq_eq_false_iff_ne]; exact q0
              have q1b : (q == 1) = false := by rw [beq_eq_false_iff_ne]; exact q1
              have q2b : (q == 2) = false := by rw [beq_eq_false_iff_ne]; exact q2
              have q3b : (q == 3) = false := by rw [beq_eq_false_iff_ne]; exact q3
              have q4b : (q == 4) = false := by rw [beq_eq_false_iff_ne]; exact q4
              have q5b : (q == 5) = false := by rw [beq_eq_false_iff_ne]; exact q5
              have q6b : (q == 6) = false := by rw [beq_eq_false_iff_ne]; exact q6
              clear q0 q1 q2 q3 q4 q5 q6
              go_upto_region 16 with (go_at_call 20; refine CO.out.mono ?_; rintro e w5 ⟨⟨vc, rfl⟩, L', hb', hA', hM', g1, g2, g3⟩; have X9 := Lib.hid (And.intro hb' (And.intro hA' (And.intro hM' (And.intro g1 (And.intro g2 g3))))); clear hb' hA' hM' g1 g2 g3)
              obtain ⟨hb', hA', hM', g1, g2, g3⟩ := X9.out
              have TN := Lib.hid (TT.out.collect (t2h.out.keep EW.out) R2h.out HTB.out EW.out hb' hA' hM' g1 g2 g3)
              have BN : Hid (w5.heap[w.heap.size]? = some (.cells #[.int .i64 size, .int .i64 objects, .int .i64 cap, .int .u64 first, .slice (some ⟨b, off, none⟩) ds.length c] 80)) := hM'.keep BSq.out (fun hx => by
                rw [List.mem_singleton] at hx
                have := TT.out.above L.b (by simp [HLoc.blocks])
                omega)
              have LN := Lib.hid (hb'.trans LBE)
              clear hb' hA' hM' g1 g2 g3 X9
              have hwr := HWR.out
              go_wp2_with fail
              go_roundw
              case rel => exact ⟨i + 1, E, L', ad2, c2, hlt, by go_num, rfl, Nat.le_succ_of_le hEi, LN.out, TN.out, BN.out⟩
              case measure =>
                simp only [intOf]
                exact meas_next hlt
            case inl =>
              obtain ⟨ac, hc, osc, Tc, t2, R2⟩ := TT.out.tab
              have EW : Hid (Ext wr ((wr.alloc (.cells #[.int .i64 dk, .int .u32 dO, .int .u64 dId, .int .i64 dN, .int .i64 dI] 86)).alloc (.cells #[.int .i64 0, .int .u64 dId, .int .i64 dN, .int .u32 0, .slice none 0 0, .int .i64 0] 90))) := ((Ext.refl _).alloc _).alloc _
              have BD : Hid (((wr.alloc (.cells #[.int .i64 dk, .int .u32 dO, .int .u64 dId, .int .i64 dN, .int .i64 dI] 86)).alloc (.cells #[.int .i64 0, .int .u64 dId, .int .i64 dN, .int .u32 0, .slice none 0 0, .int .i64 0] 90)).heap[wr.heap.size]? = some (.cells #[.int .i64 dk, .int .u32 dO, .int .u64 dId, .int .i64 dN, .int .i64 dI] 86)) := keepB (newB wr _ wr.heap.size rfl) _
              have BA : Hid (((wr.alloc (.cells #[.int .i64 dk, .int .u32 dO, .int .u64 dId, .int .i64 dN, .int .i64 dI] 86)).alloc (.cells #[.int .i64 0, .int .u64 dId, .int .i64 dN, .int .u32 0, .slice none 0 0, .int .i64 0] 90)).heap[wr.heap.size + 1]? = some (.cells #[.int .i64 0, .int .u64 dId, .int .i64 dN, .int .u32 0, .slice none 0 0, .int .i64 0] 90)) := newB _ _ _ (by simp)
              have hbl : ∀ x, x ∈ L.blocks → x < wr.heap.size := t2.heap.bl
              have htb : tb < wr.heap.size := t2.tab.lt
              have HBL := Lib.hid hbl
              have HTB := Lib.hid htb
              have SZ : Hid (wr.heap.size + 2 ≤ ((wr.alloc (.cells #[.int .i64 dk, .int .u32 dO, .int .u64 dId, .int .i64 dN, .int .i64 dI] 86)).alloc (.cells #[.int .i64 0, .int .u64 dId, .int .i64 dN, .int .u32 0, .slice none 0 0, .int .i64 0] 90)).heap.size) := by show _ ≤ _; simp
              have NM : Hid (∀ x, x ∈ [tb, L.gw] → x < wr.heap.size) := fun x hx => by
                simp only [List.mem_cons, List.not_mem_nil, or_false] at hx
                rcases hx with rfl | rfl
                · exact htb
                · exact hbl _ (by simp [HLoc.blocks])
              have NS : Hid (¬ w.heap.size ∈ [tb, L.gw]) := fun hx => by
                simp only [List.mem_cons, List.not_mem_nil, or_false] at hx
                rcases hx with hx | hx
                · have := TT.out.tb1; omega
                · have := TT.out.above L.gw (by simp [HLoc.blocks]); omega
              have SLT : Hid (w.heap.size < wr.heap.size) := lt_of_block BX.out
              have t2h := Lib.hid t2
              have R2h := Lib.hid R2
              have LBE := HLB.out
              have HTN : Hid (tb ≠ 0) := by have := TT.out.tb1; show tb ≠ 0; omega
              have HGN : Hid (L.gw ≠ 0) := by have := TT.out.above L.gw (by simp [HLoc.blocks]); show L.gw ≠ 0; omega
              have SPW : Hid (Spares wr) := HS.out.kept TT.out.ext hp
              have spp : 0 < wr.heap.size := by have := SLT.out; omega
              clear R2 t2 hbl htb
              generalize (wr.alloc (.cells #[.int .i64 dk, .int .u32 dO, .int .u64 dId, .int .i64 dN, .int .i64 dI] 86)).alloc (.cells #[.int .i64 0, .int .u64 dId, .int .i64 dN, .int .u32 0, .slice none 0 0, .int .i64 0] 90) = wq at *
              clear b1 b2 a0 a1 a2 a3 a4
              have BSq : Hid (wq.heap[w.heap.size]? = some (.cells #[.int .i64 size, .int .i64 objects, .int .i64 cap, .int .u64 first, .slice (some ⟨b, off, none⟩) ds.length c] 80)) := EW.out.keep BX.out
              obtain ⟨d1, d2⟩ := blk BD.out
              obtain ⟨a1, a2⟩ := blk BA.out
              obtain ⟨b1, b2⟩ := blk BSq.out
              obtain ⟨hs0, hf0, hsp0, hc0, hr, he, hcase, hr0, hr1, hHD⟩ := header_any (t2h.out.heap.keep EW.out) t2h.out.wf (SPW.out.kept EW.out spp) dO DOK.out.o0 DOK.out.o1
              rw [LBE] at hHD
              have HD := Lib.hid hHD
              have HCASE := Lib.hid hcase
              clear hHD hcase
              go_upto_region 25 with (go_at_call 22; refine (HD.out _ (Ext.refl _)).mono ?_; rintro e9 w9 ⟨rfl, hE9⟩; have E9 := Lib.hid hE9; clear hE9)
              have hc4 : (w9.alloc (.cells #[.int .i64 hs0, .int .i64 hf0, .int .i64 hsp0, .int .u32 hc0, .int .u32 hr] 65)).cell? ⟨w9.heap.size, 4, none⟩ = some (.int .u32 hr) := (blk (newB w9 _ w9.heap.size rfl)).1 4
              have hEc : Ext wq (w9.alloc (.cells #[.int .i64 hs0, .int .i64 hf0, .int .i64 hsp0, .int .u32 hc0, .int .u32 hr] 65)) := E9.out.alloc _
              generalize w9.alloc (.cells #[.int .i64 hs0, .int .i64 hf0, .int .i64 hsp0, .int .u32 hc0, .int .u32 hr] 65) = wc at *
              generalize w9.heap.size = b6 at *
              clear E9
              have EX0 : Hid (Ext wr wc) := EW.out.trans hEc
              have BAc := Lib.hid (hEc.keep BA.out)
              have BDc := Lib.hid (hEc.keep BD.out)
              have BSc := Lib.hid (hEc.keep BSq.out)
              have HC4 := Lib.hid hc4
              clear hEc hc4 HD d1 d2 a1 a2 b1 b2 BA BD BSq EW
              have JOIN : Hid (he = 0 ∨ he = 3 ∧ hr = 0) := by
                rcases HCASE.out with ⟨h1, _⟩ | ⟨h1, _, h2⟩
                · exact .inl h1
                · exact .inr ⟨h1, h2⟩
              have HSER : Hid (isO osc dO = true → hr = serO hc.words dO) := fun ho => by
                rcases HCASE.out with ⟨_, _, h2⟩ | ⟨_, h1, _⟩
                · exact h2
                · rw [ho] at h1; cases h1
              clear HCASE
              have ISS : Hid (∀ W, Ext wr W → Calls Tryz.prog 31 #[.pointer (some ⟨tb, 0, none⟩), .int .u32 dO, .int .i64 dN] W (IssueR W L hc osc ac cap tb (endT ⟨cap, [], first, 0⟩ (E.map (·.1))) dN hr [])) := fun W hE => Issue31 (t2h.out.keep hE) (SPW.out.kept hE spp) HTN.out R2h.out dO dN hr [] DOK.out.o0 DOK.out.o1 HSER.out
              rcases JOIN.out with hz | ⟨hz, hz2⟩
              case' inl =>
                subst hz
                obtain ⟨a1, a2⟩ := blk BAc.out
                have hc4 := HC4.out
                go_upto_region 27 with (go_at_call 13; refine (num13 _ _).mono ?_; rintro e w' ⟨rfl, rfl⟩)
                have EX1 : Hid (Ext wr (wc.setCell ⟨wr.heap.size + 1, 3, none⟩ (.int .u32 hr))) := EX0.out.setCell (by simp) _
                have BA1 : Hid ((wc.setCell ⟨wr.heap.size + 1, 3, none⟩ (.int .u32 hr)).heap[wr.heap.size + 1]? = some (.cells #[.int .i64 0, .int .u64 dId, .int .i64 dN, .int .u32 hr, .slice none 0 0, .int .i64 0] 90)) := setB BAc.out _
                have BS1 : Hid ((wc.setCell ⟨wr.heap.size + 1, 3, none⟩ (.int .u32 hr)).heap[w.heap.size]? = some (.cells #[.int .i64 size, .int .i64 objects, .int .i64 cap, .int .u64 first, .slice (some ⟨b, off, none⟩) ds.length c] 80)) := keepS BSc.out (by have := SLT.out; simp; omega) _
                have BD1 : Hid ((wc.setCell ⟨wr.heap.size + 1, 3, none⟩ (.int .u32 hr)).heap[wr.heap.size]? = some (.cells #[.int .i64 dk, .int .u32 dO, .int .u64 dId, .int .i64 dN, .int .i64 dI] 86)) := keepS BDc.out (by simp) _
                clear a1 a2 hc4 HC4 EX0 BAc BDc BSc
                generalize wc.setCell ⟨wr.heap.size + 1, 3, none⟩ (.int .u32 hr) = wy at *
              case' inr =>
                subst hz hz2
                go_upto_region 27 with (go_at_call 13; refine (num13 _ _).mono ?_; rintro e w' ⟨rfl, rfl⟩)
                have EX1 := EX0
                have BA1 := BAc
                have BS1 := BSc
                have BD1 := BDc
                clear HC4 EX0 BAc BDc BSc
                generalize wc = wy at *
              case inl =>
                obtain ⟨a1, a2⟩ := blk BA1.out
                go_upto_region 28 with fail
                have EX : Hid (Ext wr (wy.setCell ⟨wr.heap.size + 1, 0, none⟩ (.int .i64 1))) := EX1.out.setCell (by simp) _
                have BXx : Hid ((wy.setCell ⟨wr.heap.size + 1, 0, none⟩ (.int .i64 1)).heap[wr.heap.size + 1]? = some (.cells #[.int .i64 1, .int .u64 dId, .int .i64 dN, .int .u32 hr, .slice none 0 0, .int .i64 0] 90)) := setB BA1.out _
                have BSx : Hid ((wy.setCell ⟨wr.heap.size + 1, 0, none⟩ (.int .i64 1)).heap[w.heap.size]? = some (.cells #[.int .i64 size, .int .i64 objects, .int .i64 cap, .int .u64 first, .slice (some ⟨b, off, none⟩) ds.length c] 80)) := keepS BS1.out (by have := SLT.out; simp; omega) _
                have BDx : Hid ((wy.setCell ⟨wr.heap.size + 1, 0, none⟩ (.int .i64 1)).heap[wr.heap.size]? = some (.cells #[.int .i64 dk, .int .u32 dO, .int .u64 dId, .int .i64 dN, .int .i64 dI] 86)) := keepS BD1.out (by simp) _
                clear a1 a2 EX1 BA1 BS1 BD1
                generalize (wy.setCell ⟨wr.heap.size + 1, 0, none⟩ (.int .i64 1)) = wx at *
                obtain ⟨d1, d2⟩ := blk BDx.out
                obtain ⟨a1, a2⟩ := blk BXx.out
                obtain ⟨b1, b2⟩ := blk BSx.out
                go_upto_region 43 with (go_at_call 31; refine (ISS.out _ EX.out).mono ?_; rintro e w5 ⟨id, err, id0, id1, rfl, hr9⟩; have HR := Lib.hid hr9; have BA5 := Lib.hid (hr9.mod.keep BXx.out (fun hx => by have := NM.out _ hx; omega)); have BS5 := Lib.hid (hr9.mod.keep BSx.out NS.out); obtain ⟨x1, x2⟩ := blk BA5.out; clear hr9 d1 d2 a1 a2 b1 b2 BDx BXx BSx ISS)
                have TM := Lib.hid (TT.out.done HBL.out HTB.out EX.out HR.out (S := [wr.heap.size + 1]) ((mod_setCell w5 ⟨wr.heap.size + 1, 1, none⟩ (.int .u64 id)).trans (mod_setCell (w5.setCell ⟨wr.heap.size + 1, 1, none⟩ (.int .u64 id)) ⟨wr.heap.size + 1, 5, none⟩ (.int .i64 err))) (by intro x hx; simp at hx; omega))
                have BZ : Hid (((w5.setCell ⟨wr.heap.size + 1, 1, none⟩ (.int .u64 id)).setCell ⟨wr.heap.size + 1, 5, none⟩ (.int .i64 err)).heap[wr.heap.size + 1]? = some (.cells #[.int .i64 1, .int .u64 id, .int .i64 dN, .int .u32 hr, .slice none 0 0, .int .i64 err] 90)) := (setB (setB BA5.out (.int .u64 id)) (.int .i64 err))
                have BSz : Hid (((w5.setCell ⟨wr.heap.size + 1, 1, none⟩ (.int .u64 id)).setCell ⟨wr.heap.size + 1, 5, none⟩ (.int .i64 err)).heap[w.heap.size]? = some (.cells #[.int .i64 size, .int .i64 objects, .int .i64 cap, .int .u64 first, .slice (some ⟨b, off, none⟩) ds.length c] 80)) := (keepS (keepS BS5.out (by have := SLT.out; simp; omega) (.int .u64 id)) (by have := SLT.out; simp; omega) (.int .i64 err))
                have ESZ : Hid (wr.heap.size ≤ ((w5.setCell ⟨wr.heap.size + 1, 1, none⟩ (.int .u64 id)).setCell ⟨wr.heap.size + 1, 5, none⟩ (.int .i64 err)).heap.size) := by have := EX.out.size; have := HR.out.mod.size; show _ ≤ _; simp; omega
                have EO := Lib.hid (EntOK.bare (W := ((w5.setCell ⟨wr.heap.size + 1, 1, none⟩ (.int .u64 id)).setCell ⟨wr.heap.size + 1, 5, none⟩ (.int .i64 err))) (base := w.heap.size + 1) (tb := tb) (L := L) 1 id dN hr err id0 id1 (by omega) (by omega))
                clear HR BA5 BS5 x1 x2 EX
                generalize ((w5.setCell ⟨wr.heap.size + 1, 1, none⟩ (.int .u64 id)).setCell ⟨wr.heap.size + 1, 5, none⟩ (.int .i64 err)) = wz at *
                obtain ⟨z1, z2⟩ := blk BZ.out
                obtain ⟨i90, hi, hz0, hz1, hz3⟩ := info_parts info90
                have ROW := Lib.hid (TM.out.keep ((Ext.refl wz).alloc (.cells #[.int .i64 1, .int .u64 id, .int .i64 dN, .int .u32 hr, .slice none 0 0, .int .i64 err] 90)))
                have NWR := Lib.hid ((World.ownsRow_lit (base := 0) (e := 90) (size := 6) wz #[.int .i64 1, .int .u64 id, .int .i64 dN, .int .u32 hr, .slice none 0 0, .int .i64 err] 1 (Nat.zero_le _) (by unfold maxLen; omega) rfl).cells rfl)
                have EO2 := Lib.hid (EO.out.turned (L' := L) (w' := wz.alloc (.cells #[.int .i64 1, .int .u64 id, .int .i64 dN, .int .u32 hr, .slice none 0 0, .int .i64 err] 90)) ⟨⟨[], fun x hx => by simp at hx, ((Ext.refl wz).alloc _).mod _⟩, fun x hx => .inl hx⟩)
                have BS2 := Lib.hid (keepB BSz.out (.cells #[.int .i64 1, .int .u64 id, .int .i64 dN, .int .u32 hr, .slice none 0 0, .int .i64 err] 90))
                go_upto_region 16 with (at_builtin; refine wpList_append_own _ rfl _ _ 56 rfl (w.heap.size + 1) 90 i90 (.agg #[.int .i64 0, .int .u64 0, .int .i64 0, .int .u32 0, .slice none 0 0, .int .i64 0]) 6 64 Tryz.underlying56 hi hz0 hz1 hz3 rfl (by decide) _ E.length (entsC E) rfl ROW.out.acts.row ⟨wz.heap.size, 0, none⟩ 1 1 (entC ((⟨1, id, dN, hr, [], err⟩, none, 0) : Ent)) rfl rfl NWR.out (entC_one _) (by have := HDL.out; unfold maxLen; omega) (by have := HDL.out; omega) (by have := SLT.out; have := ESZ.out; simp; omega) ?_; intro v' w3 hown hgrow0 hnil2; have hgrow : World.grownBy _ w3 (Value.slice ad2 E.length c2).ownBlock := hgrow0; obtain ⟨ad3, c3, rfl, _⟩ := own_any hown; have TN := Lib.hid (ROW.out.snoc EO2.out hown hgrow); have BN := Lib.hid (ROW.out.box BS2.out hgrow); clear hown hgrow hgrow0 hnil2)
                have hwr := HWR.out
                go_wp2_with fail
                go_roundw
                case rel => exact ⟨i + 1, E ++ [((⟨1, id, dN, hr, [], err⟩, none, 0) : Ent)], L, ad3, c3, hlt, by go_num, slice_snoc _ _ _ _, len_snoc hEi, HLB.out, TN.out, BN.out⟩
                case measure =>
                  simp only [intOf]
                  exact meas_next hlt
              case inr =>
                obtain ⟨a1, a2⟩ := blk BA1.out
                go_upto_region 28 with fail
                have EX : Hid (Ext wr (wy.setCell ⟨wr.heap.size + 1, 0, none⟩ (.int .i64 1))) := EX1.out.setCell (by simp) _
                have BXx : Hid ((wy.setCell ⟨wr.heap.size + 1, 0, none⟩ (.int .i64 1)).heap[wr.heap.size + 1]? = some (.cells #[.int .i64 1, .int .u64 dId, .int .i64 dN, .int .u32 0, .slice none 0 0, .int .i64 0] 90)) := setB BA1.out _
                have BSx : Hid ((wy.setCell ⟨wr.heap.size + 1, 0, none⟩ (.int .i64 1)).heap[w.heap.size]? = some (.cells #[.int .i64 size, .int .i64 objects, .int .i64 cap, .int .u64 first, .slice (some ⟨b, off, none⟩) ds.length c] 80)) := keepS BS1.out (by have := SLT.out; simp; omega) _
                have BDx : Hid ((wy.setCell ⟨wr.heap.size + 1, 0, none⟩ (.int .i64 1)).heap[wr.heap.size]? = some (.cells #[.int .i64 dk, .int .u32 dO, .int .u64 dId, .int .i64 dN, .int .i64 dI] 86)) := keepS BD1.out (by simp) _
                clear a1 a2 EX1 BA1 BS1 BD1
                generalize (wy.setCell ⟨wr.heap.size + 1, 0, none⟩ (.int .i64 1)) = wx at *
                obtain ⟨d1, d2⟩ := blk BDx.out
                obtain ⟨a1, a2⟩ := blk BXx.out
                obtain ⟨b1, b2⟩ := blk BSx.out
                go_upto_region 43 with (go_at_call 31; refine (ISS.out _ EX.out).mono ?_; rintro e w5 ⟨id, err, id0, id1, rfl, hr9⟩; have HR := Lib.hid hr9; have BA5 := Lib.hid (hr9.mod.keep BXx.out (fun hx => by have := NM.out _ hx; omega)); have BS5 := Lib.hid (hr9.mod.keep BSx.out NS.out); obtain ⟨x1, x2⟩ := blk BA5.out; clear hr9 d1 d2 a1 a2 b1 b2 BDx BXx BSx ISS)
                have TM := Lib.hid (TT.out.done HBL.out HTB.out EX.out HR.out (S := [wr.heap.size + 1]) ((mod_setCell w5 ⟨wr.heap.size + 1, 1, none⟩ (.int .u64 id)).trans (mod_setCell (w5.setCell ⟨wr.heap.size + 1, 1, none⟩ (.int .u64 id)) ⟨wr.heap.size + 1, 5, none⟩ (.int .i64 err))) (by intro x hx; simp at hx; omega))
                have BZ : Hid (((w5.setCell ⟨wr.heap.size + 1, 1, none⟩ (.int .u64 id)).setCell ⟨wr.heap.size + 1, 5, none⟩ (.int .i64 err)).heap[wr.heap.size + 1]? = some (.cells #[.int .i64 1, .int .u64 id, .int .i64 dN, .int .u32 0, .slice none 0 0, .int .i64 err] 90)) := (setB (setB BA5.out (.int .u64 id)) (.int .i64 err))
                have BSz : Hid (((w5.setCell ⟨wr.heap.size + 1, 1, none⟩ (.int .u64 id)).setCell ⟨wr.heap.size + 1, 5, none⟩ (.int .i64 err)).heap[w.heap.size]? = some (.cells #[.int .i64 size, .int .i64 objects, .int .i64 cap, .int .u64 first, .slice (some ⟨b, off, none⟩) ds.length c] 80)) := (keepS (keepS BS5.out (by have := SLT.out; simp; omega) (.int .u64 id)) (by have := SLT.out; simp; omega) (.int .i64 err))
                have ESZ : Hid (wr.heap.size ≤ ((w5.setCell ⟨wr.heap.size + 1, 1, none⟩ (.int .u64 id)).setCell ⟨wr.heap.size + 1, 5, none⟩ (.int .i64 err)).heap.size) := by have := EX.out.size; have := HR.out.mod.size; show _ ≤ _; simp; omega
                have EO := Lib.hid (EntOK.bare (W := ((w5.setCell ⟨wr.heap.size + 1, 1, none⟩ (.int .u64 id)).setCell ⟨wr.heap.size + 1, 5, none⟩ (.int .i64 err))) (base := w.heap.size + 1) (tb := tb) (L := L) 1 id dN 0 err id0 id1 (by omega) (by omega))
                clear HR BA5 BS5 x1 x2 EX
                generalize ((w5.setCell ⟨wr.heap.size + 1, 1, none⟩ (.int .u64 id)).setCell ⟨wr.heap.size + 1, 5, none⟩ (.int .i64 err)) = wz at *
                obtain ⟨z1, z2⟩ := blk BZ.out
                obtain ⟨i90, hi, hz0, hz1, hz3⟩ := info_parts info90
                have ROW := Lib.hid (TM.out.keep ((Ext.refl wz).alloc (.cells #[.int .i64 1, .int .u64 id, .int .i64 dN, .int .u32 0, .slice none 0 0, .int .i64 err] 90)))
                have NWR := Lib.hid ((World.ownsRow_lit (base := 0) (e := 90) (size := 6) wz #[.int .i64 1, .int .u64 id, .int .i64 dN, .int .u32 0, .slice none 0 0, .int .i64 err] 1 (Nat.zero_le _) (by unfold maxLen; omega) rfl).cells rfl)
                have EO2 := Lib.hid (EO.out.turned (L' := L) (w' := wz.alloc (.cells #[.int .i64 1, .int .u64 id, .int .i64 dN, .int .u32 0, .slice none 0 0, .int .i64 err] 90)) ⟨⟨[], fun x hx => by simp at hx, ((Ext.refl wz).alloc _).mod _⟩, fun x hx => .inl hx⟩)
                have BS2 := Lib.hid (keepB BSz.out (.cells #[.int .i64 1, .int .u64 id, .int .i64 dN, .int .u32 0, .slice none 0 0, .int .i64 err] 90))
                go_upto_region 16 with (at_builtin; refine wpList_append_own _ rfl _ _ 56 rfl (w.heap.size + 1) 90 i90 (.agg #[.int .i64 0, .int .u64 0, .int .i64 0, .int .u32 0, .slice none 0 0, .int .i64 0]) 6 64 Tryz.underlying56 hi hz0 hz1 hz3 rfl (by decide) _ E.length (entsC E) rfl ROW.out.acts.row ⟨wz.heap.size, 0, none⟩ 1 1 (entC ((⟨1, id, dN, 0, [], err⟩, none, 0) : Ent)) rfl rfl NWR.out (entC_one _) (by have := HDL.out; unfold maxLen; omega) (by have := HDL.out; omega) (by have := SLT.out; have := ESZ.out; simp; omega) ?_; intro v' w3 hown hgrow0 hnil2; have hgrow : World.grownBy _ w3 (Value.slice ad2 E.length c2).ownBlock := hgrow0; obtain ⟨ad3, c3, rfl, _⟩ := own_any hown; have TN := Lib.hid (ROW.out.snoc EO2.out hown hgrow); have BN := Lib.hid (ROW.out.box BS2.out hgrow); clear hown hgrow hgrow0 hnil2)
                have hwr := HWR.out
                go_wp2_with fail
                go_roundw
                case rel => exact ⟨i + 1, E ++ [((⟨1, id, dN, 0, [], err⟩, none, 0) : Ent)], L, ad3, c3, hlt, by go_num, slice_snoc _ _ _ _, len_snoc hEi, HLB.out, TN.out, BN.out⟩
                case measure =>
                  simp only [intOf]
                  exact meas_next hlt
            case inr.inl =>
              obtain ⟨ac, hc, osc, Tc, t2, R2⟩ := TT.out.tab
              have EW : Hid (Ext wr ((wr.alloc (.cells #[.int .i64 dk, .int .u32 dO, .int .u64 dId, .int .i64 dN, .int .i64 dI] 86)).alloc (.cells #[.int .i64 0, .int .u64 dId, .int .i64 dN, .int .u32 0, .slice none 0 0, .int .i64 0] 90))) := ((Ext.refl _).alloc _).alloc _
              have BD : Hid (((wr.alloc (.cells #[.int .i64 dk, .int .u32 dO, .int .u64 dId, .int .i64 dN, .int .i64 dI] 86)).alloc (.cells #[.int .i64 0, .int .u64 dId, .int .i64 dN, .int .u32 0, .slice none 0 0, .int .i64 0] 90)).heap[wr.heap.size]? = some (.cells #[.int .i64 dk, .int .u32 dO, .int .u64 dId, .int .i64 dN, .int .i64 dI] 86)) := keepB (newB wr _ wr.heap.size rfl) _
              have BA : Hid (((wr.alloc (.cells #[.int .i64 dk, .int .u32 dO, .int .u64 dId, .int .i64 dN, .int .i64 dI] 86)).alloc (.cells #[.int .i64 0, .int .u64 dId, .int .i64 dN, .int .u32 0, .slice none 0 0, .int .i64 0] 90)).heap[wr.heap.size + 1]? = some (.cells #[.int .i64 0, .int .u64 dId, .int .i64 dN, .int .u32 0, .slice none 0 0, .int .i64 0] 90)) := newB _ _ _ (by simp)
              have hbl : ∀ x, x ∈ L.blocks → x < wr.heap.size := t2.heap.bl
              have htb : tb < wr.heap.size := t2.tab.lt
              have HBL := Lib.hid hbl
              have HTB := Lib.hid htb
              have SZ : Hid (wr.heap.size + 2 ≤ ((wr.alloc (.cells #[.int .i64 dk, .int .u32 dO, .int .u64 dId, .int .i64 dN, .int .i64 dI] 86)).alloc (.cells #[.int .i64 0, .int .u64 dId, .int .i64 dN, .int .u32 0, .slice none 0 0, .int .i64 0] 90)).heap.size) := by show _ ≤ _; simp
              have NM : Hid (∀ x, x ∈ [tb, L.gw] → x < wr.heap.size) := fun x hx => by
                simp only [List.mem_cons, List.not_mem_nil, or_false] at hx
                rcases hx with rfl | rfl
                · exact htb
                · exact hbl _ (by simp [HLoc.blocks])
              have NS : Hid (¬ w.heap.size ∈ [tb, L.gw]) := fun hx => by
                simp only [List.mem_cons, List.not_mem_nil, or_false] at hx
                rcases hx with hx | hx
                · have := TT.out.tb1; omega
                · have := TT.out.above L.gw (by simp [HLoc.blocks]); omega
              have SLT : Hid (w.heap.size < wr.heap.size) := lt_of_block BX.out
              have t2h := Lib.hid t2
              have R2h := Lib.hid R2
              have LBE := HLB.out
              have HTN : Hid (tb ≠ 0) := by have := TT.out.tb1; show tb ≠ 0; omega
              have HGN : Hid (L.gw ≠ 0) := by have := TT.out.above L.gw (by simp [HLoc.blocks]); show L.gw ≠ 0; omega
              have SPW : Hid (Spares wr) := HS.out.kept TT.out.ext hp
              have spp : 0 < wr.heap.size := by have := SLT.out; omega
              clear R2 t2 hbl htb
              generalize (wr.alloc (.cells #[.int .i64 dk, .int .u32 dO, .int .u64 dId, .int .i64 dN, .int .i64 dI] 86)).alloc (.cells #[.int .i64 0, .int .u64 dId, .int .i64 dN, .int .u32 0, .slice none 0 0, .int .i64 0] 90) = wq at *
              clear b1 b2 a0 a1 a2 a3 a4
              have BSq : Hid (wq.heap[w.heap.size]? = some (.cells #[.int .i64 size, .int .i64 objects, .int .i64 cap, .int .u64 first, .slice (some ⟨b, off, none⟩) ds.length c] 80)) := EW.out.keep BX.out
              obtain ⟨d1, d2⟩ := blk BD.out
              obtain ⟨a1, a2⟩ := blk BA.out
              obtain ⟨b1, b2⟩ := blk BSq.out
              obtain ⟨hs0, hf0, hsp0, hc0, hr, he, hcase, hr0, hr1, hHD⟩ := header_any (t2h.out.heap.keep EW.out) t2h.out.wf (SPW.out.kept EW.out spp) dO DOK.out.o0 DOK.out.o1
              rw [LBE] at hHD
              have HD := Lib.hid hHD
              have HCASE := Lib.hid hcase
              clear hHD hcase
              go_upto_region 25 with (go_at_call 22; refine (HD.out _ (Ext.refl _)).mono ?_; rintro e9 w9 ⟨rfl, hE9⟩; have E9 := Lib.hid hE9; clear hE9)
              have hc4 : (w9.alloc (.cells #[.int .i64 hs0, .int .i64 hf0, .int .i64 hsp0, .int .u32 hc0, .int .u32 hr] 65)).cell? ⟨w9.heap.size, 4, none⟩ = some (.int .u32 hr) := (blk (newB w9 _ w9.heap.size rfl)).1 4
              have hEc : Ext wq (w9.alloc (.cells #[.int .i64 hs0, .int .i64 hf0, .int .i64 hsp0, .int .u32 hc0, .int .u32 hr] 65)) := E9.out.alloc _
              generalize w9.alloc (.cells #[.int .i64 hs0, .int .i64 hf0, .int .i64 hsp0, .int .u32 hc0, .int .u32 hr] 65) = wc at *
              generalize w9.heap.size = b6 at *
              clear E9
              have EX0 : Hid (Ext wr wc) := EW.out.trans hEc
              have BAc := Lib.hid (hEc.keep BA.out)
              have BDc := Lib.hid (hEc.keep BD.out)
              have BSc := Lib.hid (hEc.keep BSq.out)
              have HC4 := Lib.hid hc4
              clear hEc hc4 HD d1 d2 a1 a2 b1 b2 BA BD BSq EW
              have JOIN : Hid (he = 0 ∨ he = 3 ∧ hr = 0) := by
                rcases HCASE.out with ⟨h1, _⟩ | ⟨h1, _, h2⟩
                · exact .inl h1
                · exact .inr ⟨h1, h2⟩
              have HSER : Hid (isO osc dO = true → hr = serO hc.words dO) := fun ho => by
                rcases HCASE.out with ⟨_, _, h2⟩ | ⟨_, h1, _⟩
                · exact h2
                · rw [ho] at h1; cases h1
              clear HCASE
              have ISS : Hid (∀ W, Ext wr W → Calls Tryz.prog 31 #[.pointer (some ⟨tb, 0, none⟩), .int .u32 dO, .int .i64 dN] W (IssueR W L hc osc ac cap tb (endT ⟨cap, [], first, 0⟩ (E.map (·.1))) dN hr [])) := fun W hE => Issue31 (t2h.out.keep hE) (SPW.out.kept hE spp) HTN.out R2h.out dO dN hr [] DOK.out.o0 DOK.out.o1 HSER.out
              rcases JOIN.out with hz | ⟨hz, hz2⟩
              case' inl =>
                subst hz
                obtain ⟨a1, a2⟩ := blk BAc.out
                have hc4 := HC4.out
                go_upto_region 27 with (go_at_call 13; refine (num13 _ _).mono ?_; rintro e w' ⟨rfl, rfl⟩)
                have EX1 : Hid (Ext wr (wc.setCell ⟨wr.heap.size + 1, 3, none⟩ (.int .u32 hr))) := EX0.out.setCell (by simp) _
                have BA1 : Hid ((wc.setCell ⟨wr.heap.size + 1, 3, none⟩ (.int .u32 hr)).heap[wr.heap.size + 1]? = some (.cells #[.int .i64 0, .int .u64 dId, .int .i64 dN, .int .u32 hr, .slice none 0 0, .int .i64 0] 90)) := setB BAc.out _
                have BS1 : Hid ((wc.setCell ⟨wr.heap.size + 1, 3, none⟩ (.int .u32 hr)).heap[w.heap.size]? = some (.cells #[.int .i64 size, .int .i64 objects, .int .i64 cap, .int .u64 first, .slice (some ⟨b, off, none⟩) ds.length c] 80)) := keepS BSc.out (by have := SLT.out; simp; omega) _
                have BD1 : Hid ((wc.setCell ⟨wr.heap.size + 1, 3, none⟩ (.int .u32 hr)).heap[wr.heap.size]? = some (.cells #[.int .i64 dk, .int .u32 dO, .int .u64 dId, .int .i64 dN, .int .i64 dI] 86)) := keepS BDc.out (by simp) _
                clear a1 a2 hc4 HC4 EX0 BAc BDc BSc
                generalize wc.setCell ⟨wr.heap.size + 1, 3, none⟩ (.int .u32 hr) = wy at *
              case' inr =>
                subst hz hz2
                go_upto_region 27 with (go_at_call 13; refine (num13 _ _).mono ?_; rintro e w' ⟨rfl, rfl⟩)
                have EX1 := EX0
                have BA1 := BAc
                have BS1 := BSc
                have BD1 := BDc
                clear HC4 EX0 BAc BDc BSc
                generalize wc = wy at *
              case inl =>
                obtain ⟨a1, a2⟩ := blk BA1.out
                go_upto_region 28 with fail
                have EX : Hid (Ext wr (wy.setCell ⟨wr.heap.size + 1, 0, none⟩ (.int .i64 1))) := EX1.out.setCell (by simp) _
                have BXx : Hid ((wy.setCell ⟨wr.heap.size + 1, 0, none⟩ (.int .i64 1)).heap[wr.heap.size + 1]? = some (.cells #[.int .i64 1, .int .u64 dId, .int .i64 dN, .int .u32 hr, .slice none 0 0, .int .i64 0] 90)) := setB BA1.out _
                have BSx : Hid ((wy.setCell ⟨wr.heap.size + 1, 0, none⟩ (.int .i64 1)).heap[w.heap.size]? = some (.cells #[.int .i64 size, .int .i64 objects, .int .i64 cap, .int .u64 first, .slice (some ⟨b, off, none⟩) ds.length c] 80)) := keepS BS1.out (by have := SLT.out; simp; omega) _
                have BDx : Hid ((wy.setCell ⟨wr.heap.size + 1, 0, none⟩ (.int .i64 1)).heap[wr.heap.size]? = some (.cells #[.int .i64 dk, .int .u32 dO, .int .u64 dId, .int .i64 dN, .int .i64 dI] 86)) := keepS BD1.out (by simp) _
                clear a1 a2 EX1 BA1 BS1 BD1
                generalize (wy.setCell ⟨wr.heap.size + 1, 0, none⟩ (.int .i64 1)) = wx at *
                obtain ⟨d1, d2⟩ := blk BDx.out
                obtain ⟨a1, a2⟩ := blk BXx.out
                obtain ⟨b1, b2⟩ := blk BSx.out
                go_upto_region 43 with (go_at_call 31; refine (ISS.out _ EX.out).mono ?_; rintro e w5 ⟨id, err, id0, id1, rfl, hr9⟩; have HR := Lib.hid hr9; have BA5 := Lib.hid (hr9.mod.keep BXx.out (fun hx => by have := NM.out _ hx; omega)); have BS5 := Lib.hid (hr9.mod.keep BSx.out NS.out); obtain ⟨x1, x2⟩ := blk BA5.out; clear hr9 d1 d2 a1 a2 b1 b2 BDx BXx BSx ISS)
                have TM := Lib.hid (TT.out.done HBL.out HTB.out EX.out HR.out (S := [wr.heap.size + 1]) ((mod_setCell w5 ⟨wr.heap.size + 1, 1, none⟩ (.int .u64 id)).trans (mod_setCell (w5.setCell ⟨wr.heap.size + 1, 1, none⟩ (.int .u64 id)) ⟨wr.heap.size + 1, 5, none⟩ (.int .i64 err))) (by intro x hx; simp at hx; omega))
                have BZ : Hid (((w5.setCell ⟨wr.heap.size + 1, 1, none⟩ (.int .u64 id)).setCell ⟨wr.heap.size + 1, 5, none⟩ (.int .i64 err)).heap[wr.heap.size + 1]? = some (.cells #[.int .i64 1, .int .u64 id, .int .i64 dN, .int .u32 hr, .slice none 0 0, .int .i64 err] 90)) := (setB (setB BA5.out (.int .u64 id)) (.int .i64 err))
                have BSz : Hid (((w5.setCell ⟨wr.heap.size + 1, 1, none⟩ (.int .u64 id)).setCell ⟨wr.heap.size + 1, 5, none⟩ (.int .i64 err)).heap[w.heap.size]? = some (.cells #[.int .i64 size, .int .i64 objects, .int .i64 cap, .int .u64 first, .slice (some ⟨b, off, none⟩) ds.length c] 80)) := (keepS (keepS BS5.out (by have := SLT.out; simp; omega) (.int .u64 id)) (by have := SLT.out; simp; omega) (.int .i64 err))
                have ESZ : Hid (wr.heap.size ≤ ((w5.setCell ⟨wr.heap.size + 1, 1, none⟩ (.int .u64 id)).setCell ⟨wr.heap.size + 1, 5, none⟩ (.int .i64 err)).heap.size) := by have := EX.out.size; have := HR.out.mod.size; show _ ≤ _; simp; omega
                have EO := Lib.hid (EntOK.bare (W := ((w5.setCell ⟨wr.heap.size + 1, 1, none⟩ (.int .u64 id)).setCell ⟨wr.heap.size + 1, 5, none⟩ (.int .i64 err))) (base := w.heap.size + 1) (tb := tb) (L := L) 1 id dN hr err id0 id1 (by omega) (by omega))
                clear HR BA5 BS5 x1 x2 EX
                generalize ((w5.setCell ⟨wr.heap.size + 1, 1, none⟩ (.int .u64 id)).setCell ⟨wr.heap.size + 1, 5, none⟩ (.int .i64 err)) = wz at *
                obtain ⟨z1, z2⟩ := blk BZ.out
                obtain ⟨i90, hi, hz0, hz1, hz3⟩ := info_parts info90
                have ROW := Lib.hid (TM.out.keep ((Ext.refl wz).alloc (.cells #[.int .i64 1, .int .u64 id, .int .i64 dN, .int .u32 hr, .slice none 0 0, .int .i64 err] 90)))
                have NWR := Lib.hid ((World.ownsRow_lit (base := 0) (e := 90) (size := 6) wz #[.int .i64 1, .int .u64 id, .int .i64 dN, .int .u32 hr, .slice none 0 0, .int .i64 err] 1 (Nat.zero_le _) (by unfold maxLen; omega) rfl).cells rfl)
                have EO2 := Lib.hid (EO.out.turned (L' := L) (w' := wz.alloc (.cells #[.int .i64 1, .int .u64 id, .int .i64 dN, .int .u32 hr, .slice none 0 0, .int .i64 err] 90)) ⟨⟨[], fun x hx => by simp at hx, ((Ext.refl wz).alloc _).mod _⟩, fun x hx => .inl hx⟩)
                have BS2 := Lib.hid (keepB BSz.out (.cells #[.int .i64 1, .int .u64 id, .int .i64 dN, .int .u32 hr, .slice none 0 0, .int .i64 err] 90))
                go_upto_region 16 with (at_builtin; refine wpList_append_own _ rfl _ _ 56 rfl (w.heap.size + 1) 90 i90 (.agg #[.int .i64 0, .int .u64 0, .int .i64 0, .int .u32 0, .slice none 0 0, .int .i64 0]) 6 64 Tryz.underlying56 hi hz0 hz1 hz3 rfl (by decide) _ E.length (entsC E) rfl ROW.out.acts.row ⟨wz.heap.size, 0, none⟩ 1 1 (entC ((⟨1, id, dN, hr, [], err⟩, none, 0) : Ent)) rfl rfl NWR.out (entC_one _) (by have := HDL.out; unfold maxLen; omega) (by have := HDL.out; omega) (by have := SLT.out; have := ESZ.out; simp; omega) ?_; intro v' w3 hown hgrow0 hnil2; have hgrow : World.grownBy _ w3 (Value.slice ad2 E.length c2).ownBlock := hgrow0; obtain ⟨ad3, c3, rfl, _⟩ := own_any hown; have TN := Lib.hid (ROW.out.snoc EO2.out hown hgrow); have BN := Lib.hid (ROW.out.box BS2.out hgrow); clear hown hgrow hgrow0 hnil2)
                have hwr := HWR.out
                go_wp2_with fail
                go_roundw
                case rel => exact ⟨i + 1, E ++ [((⟨1, id, dN, hr, [], err⟩, none, 0) : Ent)], L, ad3, c3, hlt, by go_num, slice_snoc _ _ _ _, len_snoc hEi, HLB.out, TN.out, BN.out⟩
                case measure =>
                  simp only [intOf]
                  exact meas_next hlt
              case inr =>
                obtain ⟨a1, a2⟩ := blk BA1.out
                go_upto_region 28 with fail
                have EX : Hid (Ext wr (wy.setCell ⟨wr.heap.size + 1, 0, none⟩ (.int .i64 1))) := EX1.out.setCell (by simp) _
                have BXx : Hid ((wy.setCell ⟨wr.heap.size + 1, 0, none⟩ (.int .i64 1)).heap[wr.heap.size + 1]? = some (.cells #[.int .i64 1, .int .u64 dId, .int .i64 dN, .int .u32 0, .slice none 0 0, .int .i64 0] 90)) := setB BA1.out _
                have BSx : Hid ((wy.setCell ⟨wr.heap.size + 1, 0, none⟩ (.int .i64 1)).heap[w.heap.size]? = some (.cells #[.int .i64 size, .int .i64 objects, .int .i64 cap, .int .u64 first, .slice (some ⟨b, off, none⟩) ds.length c] 80)) := keepS BS1.out (by have := SLT.out; simp; omega) _
                have BDx : Hid ((wy.setCell ⟨wr.heap.size + 1, 0, none⟩ (.int .i64 1)).heap[wr.heap.size]? = some (.cells #[.int .i64 dk, .int .u32 dO, .int .u64 dId, .int .i64 dN, .int .i64 dI] 86)) := keepS BD1.out (by simp) _
                clear a1 a2 EX1 BA1 BS1 BD1
                generalize (wy.setCell ⟨wr.heap.size + 1, 0, none⟩ (.int .i64 1)) = wx at *
                obtain ⟨d1, d2⟩ := blk BDx.out
                obtain ⟨a1, a2⟩ := blk BXx.out
                obtain ⟨b1, b2⟩ := blk BSx.out
                go_upto_region 43 with (go_at_call 31; refine (ISS.out _ EX.out).mono ?_; rintro e w5 ⟨id, err, id0, id1, rfl, hr9⟩; have HR := Lib.hid hr9; have BA5 := Lib.hid (hr9.mod.keep BXx.out (fun hx => by have := NM.out _ hx; omega)); have BS5 := Lib.hid (hr9.mod.keep BSx.out NS.out); obtain ⟨x1, x2⟩ := blk BA5.out; clear hr9 d1 d2 a1 a2 b1 b2 BDx BXx BSx ISS)
                have TM := Lib.hid (TT.out.done HBL.out HTB.out EX.out HR.out (S := [wr.heap.size + 1]) ((mod_setCell w5 ⟨wr.heap.size + 1, 1, none⟩ (.int .u64 id)).trans (mod_setCell (w5.setCell ⟨wr.heap.size + 1, 1, none⟩ (.int .u64 id)) ⟨wr.heap.size + 1, 5, none⟩ (.int .i64 err))) (by intro x hx; simp at hx; omega))
                have BZ : Hid (((w5.setCell ⟨wr.heap.size + 1, 1, none⟩ (.int .u64 id)).setCell ⟨wr.heap.size + 1, 5, none⟩ (.int .i64 err)).heap[wr.heap.size + 1]? = some (.cells #[.int .i64 1, .int .u64 id, .int .i64 dN, .int .u32 0, .slice none 0 0, .int .i64 err] 90)) := (setB (setB BA5.out (.int .u64 id)) (.int .i64 err))
                have BSz : Hid (((w5.setCell ⟨wr.heap.size + 1, 1, none⟩ (.int .u64 id)).setCell ⟨wr.heap.size + 1, 5, none⟩ (.int .i64 err)).heap[w.heap.size]? = some (.cells #[.int .i64 size, .int .i64 objects, .int .i64 cap, .int .u64 first, .slice (some ⟨b, off, none⟩) ds.length c] 80)) := (keepS (keepS BS5.out (by have := SLT.out; simp; omega) (.int .u64 id)) (by have := SLT.out; simp; omega) (.int .i64 err))
                have ESZ : Hid (wr.heap.size ≤ ((w5.setCell ⟨wr.heap.size + 1, 1, none⟩ (.int .u64 id)).setCell ⟨wr.heap.size + 1, 5, none⟩ (.int .i64 err)).heap.size) := by have := EX.out.size; have := HR.out.mod.size; show _ ≤ _; simp; omega
                have EO := Lib.hid (EntOK.bare (W := ((w5.setCell ⟨wr.heap.size + 1, 1, none⟩ (.int .u64 id)).setCell ⟨wr.heap.size + 1, 5, none⟩ (.int .i64 err))) (base := w.heap.size + 1) (tb := tb) (L := L) 1 id dN 0 err id0 id1 (by omega) (by omega))
                clear HR BA5 BS5 x1 x2 EX
                generalize ((w5.setCell ⟨wr.heap.size + 1, 1, none⟩ (.int .u64 id)).setCell ⟨wr.heap.size + 1, 5, none⟩ (.int .i64 err)) = wz at *
                obtain ⟨z1, z2⟩ := blk BZ.out
                obtain ⟨i90, hi, hz0, hz1, hz3⟩ := info_parts info90
                have ROW := Lib.hid (TM.out.keep ((Ext.refl wz).alloc (.cells #[.int .i64 1, .int .u64 id, .int .i64 dN, .int .u32 0, .slice none 0 0, .int .i64 err] 90)))
                have NWR := Lib.hid ((World.ownsRow_lit (base := 0) (e := 90) (size := 6) wz #[.int .i64 1, .int .u64 id, .int .i64 dN, .int .u32 0, .slice none 0 0, .int .i64 err] 1 (Nat.zero_le _) (by unfold maxLen; omega) rfl).cells rfl)
                have EO2 := Lib.hid (EO.out.turned (L' := L) (w' := wz.alloc (.cells #[.int .i64 1, .int .u64 id, .int .i64 dN, .int .u32 0, .slice none 0 0, .int .i64 err] 90)) ⟨⟨[], fun x hx => by simp at hx, ((Ext.refl wz).alloc _).mod _⟩, fun x hx => .inl hx⟩)
                have BS2 := Lib.hid (keepB BSz.out (.cells #[.int .i64 1, .int .u64 id, .int .i64 dN, .int .u32 0, .slice none 0 0, .int .i64 err] 90))
                go_upto_region 16 with (at_builtin; refine wpList_append_own _ rfl _ _ 56 rfl (w.heap.size + 1) 90 i90 (.agg #[.int .i64 0, .int .u64 0, .int .i64 0, .int .u32 0, .slice none 0 0, .int .i64 0]) 6 64 Tryz.underlying56 hi hz0 hz1 hz3 rfl (by decide) _ E.length (entsC E) rfl ROW.out.acts.row ⟨wz.heap.size, 0, none⟩ 1 1 (entC ((⟨1, id, dN, 0, [], err⟩, none, 0) : Ent)) rfl rfl NWR.out (entC_one _) (by have := HDL.out; unfold maxLen; omega) (by have := HDL.out; omega) (by have := SLT.out; have := ESZ.out; simp; omega) ?_; intro v' w3 hown hgrow0 hnil2; have hgrow : World.grownBy _ w3 (Value.slice ad2 E.length c2).ownBlock := hgrow0; obtain ⟨ad3, c3, rfl, _⟩ := own_any hown; have TN := Lib.hid (ROW.out.snoc EO2.out hown hgrow); have BN := Lib.hid (ROW.out.box BS2.out hgrow); clear hown hgrow hgrow0 hnil2)
                have hwr := HWR.out
                go_wp2_with fail
                go_roundw
                case rel => exact ⟨i + 1, E ++ [((⟨1, id, dN, 0, [], err⟩, none, 0) : Ent)], L, ad3, c3, hlt, by go_num, slice_snoc _ _ _ _, len_snoc hEi, HLB.out, TN.out, BN.out⟩
                case measure =>
                  simp only [intOf]
                  exact meas_next hlt
            case inr.inr.inl =>
              obtain ⟨ac, hc, osc, Tc, t2, R2⟩ := TT.out.tab
              have EW : Hid (Ext wr ((wr.alloc (.cells #[.int .i64 dk, .int .u32 dO, .int .u64 dId, .int .i64 dN, .int .i64 dI] 86)).alloc (.cells #[.int .i64 0, .int .u64 dId, .int .i64 dN, .int .u32 0, .slice none 0 0, .int .i64 0] 90))) := ((Ext.refl _).alloc _).alloc _
              have BD : Hid (((wr.alloc (.cells #[.int .i64 dk, .int .u32 dO, .int .u64 dId, .int .i64 dN, .int .i64 dI] 86)).alloc (.cells #[.int .i64 0, .int .u64 dId, .int .i64 dN, .int .u32 0, .slice none 0 0, .int .i64 0] 90)).heap[wr.heap.size]? = some (.cells #[.int .i64 dk, .int .u32 dO, .int .u64 dId, .int .i64 dN, .int .i64 dI] 86)) := keepB (newB wr _ wr.heap.size rfl) _
              have BA : Hid (((wr.alloc (.cells #[.int .i64 dk, .int .u32 dO, .int .u64 dId, .int .i64 dN, .int .i64 dI] 86)).alloc (.cells #[.int .i64 0, .int .u64 dId, .int .i64 dN, .int .u32 0, .slice none 0 0, .int .i64 0] 90)).heap[wr.heap.size + 1]? = some (.cells #[.int .i64 0, .int .u64 dId, .int .i64 dN, .int .u32 0, .slice none 0 0, .int .i64 0] 90)) := newB _ _ _ (by simp)
              have hbl : ∀ x, x ∈ L.blocks → x < wr.heap.size := t2.heap.bl
              have htb : tb < wr.heap.size := t2.tab.lt
              have HBL := Lib.hid hbl
              have HTB := Lib.hid htb
              have SZ : Hid (wr.heap.size + 2 ≤ ((wr.alloc (.cells #[.int .i64 dk, .int .u32 dO, .int .u64 dId, .int .i64 dN, .int .i64 dI] 86)).alloc (.cells #[.int .i64 0, .int .u64 dId, .int .i64 dN, .int .u32 0, .slice none 0 0, .int .i64 0] 90)).heap.size) := by show _ ≤ _; simp
              have NM : Hid (∀ x, x ∈ [tb, L.gw] → x < wr.heap.size) := fun x hx => by
                simp only [List.mem_cons, List.not_mem_nil, or_false] at hx
                rcases hx with rfl | rfl
                · exact htb
                · exact hbl _ (by simp [HLoc.blocks])
              have NS : Hid (¬ w.heap.size ∈ [tb, L.gw]) := fun hx => by
                simp only [List.mem_cons, List.not_mem_nil, or_false] at hx
                rcases hx with hx | hx
                · have := TT.out.tb1; omega
                · have := TT.out.above L.gw (by simp [HLoc.blocks]); omega
              have SLT : Hid (w.heap.size < wr.heap.size) := lt_of_block BX.out
              have t2h := Lib.hid t2
              have R2h := Lib.hid R2
              have LBE := HLB.out
              have HTN : Hid (tb ≠ 0) := by have := TT.out.tb1; show tb ≠ 0; omega
              have HGN : Hid (L.gw ≠ 0) := by have := TT.out.above L.gw (by simp [HLoc.blocks]); show L.gw ≠ 0; omega
              have SPW : Hid (Spares wr) := HS.out.kept TT.out.ext hp
              have spp : 0 < wr.heap.size := by have := SLT.out; omega
              clear R2 t2 hbl htb
              generalize (wr.alloc (.cells #[.int .i64 dk, .int .u32 dO, .int .u64 dId, .int .i64 dN, .int .i64 dI] 86)).alloc (.cells #[.int .i64 0, .int .u64 dId, .int .i64 dN, .int .u32 0, .slice none 0 0, .int .i64 0] 90) = wq at *
              clear b1 b2 a0 a1 a2 a3 a4
              have BSq : Hid (wq.heap[w.heap.size]? = some (.cells #[.int .i64 size, .int .i64 objects, .int .i64 cap, .int .u64 first, .slice (some ⟨b, off, none⟩) ds.length c] 80)) := EW.out.keep BX.out
              obtain ⟨d1, d2⟩ := blk BD.out
              obtain ⟨a1, a2⟩ := blk BA.out
              obtain ⟨b1, b2⟩ := blk BSq.out
              obtain ⟨hs0, hf0, hsp0, hc0, hr, he, hcase, hr0, hr1, hHD⟩ := header_any (t2h.out.heap.keep EW.out) t2h.out.wf (SPW.out.kept EW.out spp) dO DOK.out.o0 DOK.out.o1
              rw [LBE] at hHD
              have HD := Lib.hid hHD
              have HCASE := Lib.hid hcase
              clear hHD hcase
              go_upto_region 25 with (go_at_call 22; refine (HD.out _ (Ext.refl _)).mono ?_; rintro e9 w9 ⟨rfl, hE9⟩; have E9 := Lib.hid hE9; clear hE9)
              have hc4 : (w9.alloc (.cells #[.int .i64 hs0, .int .i64 hf0, .int .i64 hsp0, .int .u32 hc0, .int .u32 hr] 65)).cell? ⟨w9.heap.size, 4, none⟩ = some (.int .u32 hr) := (blk (newB w9 _ w9.heap.size rfl)).1 4
              have hEc : Ext wq (w9.alloc (.cells #[.int .i64 hs0, .int .i64 hf0, .int .i64 hsp0, .int .u32 hc0, .int .u32 hr] 65)) := E9.out.alloc _
              generalize w9.alloc (.cells #[.int .i64 hs0, .int .i64 hf0, .int .i64 hsp0, .int .u32 hc0, .int .u32 hr] 65) = wc at *
              generalize w9.heap.size = b6 at *
              clear E9
              have EX0 : Hid (Ext wr wc) := EW.out.trans hEc
              have BAc := Lib.hid (hEc.keep BA.out)
              have BDc := Lib.hid (hEc.keep BD.out)
              have BSc := Lib.hid (hEc.keep BSq.out)
              have HC4 := Lib.hid hc4
              clear hEc hc4 HD d1 d2 a1 a2 b1 b2 BA BD BSq EW
              have JOIN : Hid (he = 0 ∨ he = 3 ∧ hr = 0) := by
                rcases HCASE.out with ⟨h1, _⟩ | ⟨h1, _, h2⟩
                · exact .inl h1
                · exact .inr ⟨h1, h2⟩
              have HSER : Hid (isO osc dO = true → hr = serO hc.words dO) := fun ho => by
                rcases HCASE.out with ⟨_, _, h2⟩ | ⟨_, h1, _⟩
                · exact h2
                · rw [ho] at h1; cases h1
              clear HCASE
              have ISS : Hid (∀ W, Ext wr W → Calls Tryz.prog 31 #[.pointer (some ⟨tb, 0, none⟩), .int .u32 dO, .int .i64 dN] W (IssueR W L hc osc ac cap tb (endT ⟨cap, [], first, 0⟩ (E.map (·.1))) dN hr [])) := fun W hE => Issue31 (t2h.out.keep hE) (SPW.out.kept hE spp) HTN.out R2h.out dO dN hr [] DOK.out.o0 DOK.out.o1 HSER.out
              rcases JOIN.out with hz | ⟨hz, hz2⟩
              case' inl =>
                subst hz
                obtain ⟨a1, a2⟩ := blk BAc.out
                have hc4 := HC4.out
                go_upto_region 27 with (go_at_call 13; refine (num13 _ _).mono ?_; rintro e w' ⟨rfl, rfl⟩)
                have EX1 : Hid (Ext wr (wc.setCell ⟨wr.heap.size + 1, 3, none⟩ (.int .u32 hr))) := EX0.out.setCell (by simp) _
                have BA1 : Hid ((wc.setCell ⟨wr.heap.size + 1, 3, none⟩ (.int .u32 hr)).heap[wr.heap.size + 1]? = some (.cells #[.int .i64 0, .int .u64 dId, .int .i64 dN, .int .u32 hr, .slice none 0 0, .int .i64 0] 90)) := setB BAc.out _
                have BS1 : Hid ((wc.setCell ⟨wr.heap.size + 1, 3, none⟩ (.int .u32 hr)).heap[w.heap.size]? = some (.cells #[.int .i64 size, .int .i64 objects, .int .i64 cap, .int .u64 first, .slice (some ⟨b, off, none⟩) ds.length c] 80)) := keepS BSc.out (by have := SLT.out; simp; omega) _
                have BD1 : Hid ((wc.setCell ⟨wr.heap.size + 1, 3, none⟩ (.int .u32 hr)).heap[wr.heap.size]? = some (.cells #[.int .i64 dk, .int .u32 dO, .int .u64 dId, .int .i64 dN, .int .i64 dI] 86)) := keepS BDc.out (by simp) _
                clear a1 a2 hc4 HC4 EX0 BAc BDc BSc
                generalize wc.setCell ⟨wr.heap.size + 1, 3, none⟩ (.int .u32 hr) = wy at *
              case' inr =>
                subst hz hz2
                go_upto_region 27 with (go_at_call 13; refine (num13 _ _).mono ?_; rintro e w' ⟨rfl, rfl⟩)
                have EX1 := EX0
                have BA1 := BAc
                have BS1 := BSc
                have BD1 := BDc
                clear HC4 EX0 BAc BDc BSc
                generalize wc = wy at *
              case inl =>
                obtain ⟨a1, a2⟩ := blk BA1.out
                go_upto_region 28 with fail
                have EX : Hid (Ext wr (wy.setCell ⟨wr.heap.size + 1, 0, none⟩ (.int .i64 1))) := EX1.out.setCell (by simp) _
                have BXx : Hid ((wy.setCell ⟨wr.heap.size + 1, 0, none⟩ (.int .i64 1)).heap[wr.heap.size + 1]? = some (.cells #[.int .i64 1, .int .u64 dId, .int .i64 dN, .int .u32 hr, .slice none 0 0, .int .i64 0] 90)) := setB BA1.out _
                have BSx : Hid ((wy.setCell ⟨wr.heap.size + 1, 0, none⟩ (.int .i64 1)).heap[w.heap.size]? = some (.cells #[.int .i64 size, .int .i64 objects, .int .i64 cap, .int .u64 first, .slice (some ⟨b, off, none⟩) ds.length c] 80)) := keepS BS1.out (by have := SLT.out; simp; omega) _
                have BDx : Hid ((wy.setCell ⟨wr.heap.size + 1, 0, none⟩ (.int .i64 1)).heap[wr.heap.size]? = some (.cells #[.int .i64 dk, .int .u32 dO, .int .u64 dId, .int .i64 dN, .int .i64 dI] 86)) := keepS BD1.out (by simp) _
                clear a1 a2 EX1 BA1 BS1 BD1
                generalize (wy.setCell ⟨wr.heap.size + 1, 0, none⟩ (.int .i64 1)) = wx at *
                obtain ⟨d1, d2⟩ := blk BDx.out
                obtain ⟨a1, a2⟩ := blk BXx.out
                obtain ⟨b1, b2⟩ := blk BSx.out
                go_upto_region 43 with (go_at_call 31; refine (ISS.out _ EX.out).mono ?_; rintro e w5 ⟨id, err, id0, id1, rfl, hr9⟩; have HR := Lib.hid hr9; have BA5 := Lib.hid (hr9.mod.keep BXx.out (fun hx => by have := NM.out _ hx; omega)); have BS5 := Lib.hid (hr9.mod.keep BSx.out NS.out); obtain ⟨x1, x2⟩ := blk BA5.out; clear hr9 d1 d2 a1 a2 b1 b2 BDx BXx BSx ISS)
                have TM := Lib.hid (TT.out.done HBL.out HTB.out EX.out HR.out (S := [wr.heap.size + 1]) ((mod_setCell w5 ⟨wr.heap.size + 1, 1, none⟩ (.int .u64 id)).trans (mod_setCell (w5.setCell ⟨wr.heap.size + 1, 1, none⟩ (.int .u64 id)) ⟨wr.heap.size + 1, 5, none⟩ (.int .i64 err))) (by intro x hx; simp at hx; omega))
                have BZ : Hid (((w5.setCell ⟨wr.heap.size + 1, 1, none⟩ (.int .u64 id)).setCell ⟨wr.heap.size + 1, 5, none⟩ (.int .i64 err)).heap[wr.heap.size + 1]? = some (.cells #[.int .i64 1, .int .u64 id, .int .i64 dN, .int .u32 hr, .slice none 0 0, .int .i64 err] 90)) := (setB (setB BA5.out (.int .u64 id)) (.int .i64 err))
                have BSz : Hid (((w5.setCell ⟨wr.heap.size + 1, 1, none⟩ (.int .u64 id)).setCell ⟨wr.heap.size + 1, 5, none⟩ (.int .i64 err)).heap[w.heap.size]? = some (.cells #[.int .i64 size, .int .i64 objects, .int .i64 cap, .int .u64 first, .slice (some ⟨b, off, none⟩) ds.length c] 80)) := (keepS (keepS BS5.out (by have := SLT.out; simp; omega) (.int .u64 id)) (by have := SLT.out; simp; omega) (.int .i64 err))
                have ESZ : Hid (wr.heap.size ≤ ((w5.setCell ⟨wr.heap.size + 1, 1, none⟩ (.int .u64 id)).setCell ⟨wr.heap.size + 1, 5, none⟩ (.int .i64 err)).heap.size) := by have := EX.out.size; have := HR.out.mod.size; show _ ≤ _; simp; omega
                have EO := Lib.hid (EntOK.bare (W := ((w5.setCell ⟨wr.heap.size + 1, 1, none⟩ (.int .u64 id)).setCell ⟨wr.heap.size + 1, 5, none⟩ (.int .i64 err))) (base := w.heap.size + 1) (tb := tb) (L := L) 1 id dN hr err id0 id1 (by omega) (by omega))
                clear HR BA5 BS5 x1 x2 EX
                generalize ((w5.setCell ⟨wr.heap.size + 1, 1, none⟩ (.int .u64 id)).setCell ⟨wr.heap.size + 1, 5, none⟩ (.int .i64 err)) = wz at *
                obtain ⟨z1, z2⟩ := blk BZ.out
                obtain ⟨i90, hi, hz0, hz1, hz3⟩ := info_parts info90
                have ROW := Lib.hid (TM.out.keep ((Ext.refl wz).alloc (.cells #[.int .i64 1, .int .u64 id, .int .i64 dN, .int .u32 hr, .slice none 0 0, .int .i64 err] 90)))
                have NWR := Lib.hid ((World.ownsRow_lit (base := 0) (e := 90) (size := 6) wz #[.int .i64 1, .int .u64 id, .int .i64 dN, .int .u32 hr, .slice none 0 0, .int .i64 err] 1 (Nat.zero_le _) (by unfold maxLen; omega) rfl).cells rfl)
                have EO2 := Lib.hid (EO.out.turned (L' := L) (w' := wz.alloc (.cells #[.int .i64 1, .int .u64 id, .int .i64 dN, .int .u32 hr, .slice none 0 0, .int .i64 err] 90)) ⟨⟨[], fun x hx => by simp at hx, ((Ext.refl wz).alloc _).mod _⟩, fun x hx => .inl hx⟩)
                have BS2 := Lib.hid (keepB BSz.out (.cells #[.int .i64 1, .int .u64 id, .int .i64 dN, .int .u32 hr, .slice none 0 0, .int .i64 err] 90))
                go_upto_region 16 with (at_builtin; refine wpList_append_own _ rfl _ _ 56 rfl (w.heap.size + 1) 90 i90 (.agg #[.int .i64 0, .int .u64 0, .int .i64 0, .int .u32 0, .slice none 0 0, .int .i64 0]) 6 64 Tryz.underlying56 hi hz0 hz1 hz3 rfl (by decide) _ E.length (entsC E) rfl ROW.out.acts.row ⟨wz.heap.size, 0, none⟩ 1 1 (entC ((⟨1, id, dN, hr, [], err⟩, none, 0) : Ent)) rfl rfl NWR.out (entC_one _) (by have := HDL.out; unfold maxLen; omega) (by have := HDL.out; omega) (by have := SLT.out; have := ESZ.out; simp; omega) ?_; intro v' w3 hown hgrow0 hnil2; have hgrow : World.grownBy _ w3 (Value.slice ad2 E.length c2).ownBlock := hgrow0; obtain ⟨ad3, c3, rfl, _⟩ := own_any hown; have TN := Lib.hid (ROW.out.snoc EO2.out hown hgrow); have BN := Lib.hid (ROW.out.box BS2.out hgrow); clear hown hgrow hgrow0 hnil2)
                have hwr := HWR.out
                go_wp2_with fail
                go_roundw
                case rel => exact ⟨i + 1, E ++ [((⟨1, id, dN, hr, [], err⟩, none, 0) : Ent)], L, ad3, c3, hlt, by go_num, slice_snoc _ _ _ _, len_snoc hEi, HLB.out, TN.out, BN.out⟩
                case measure =>
                  simp only [intOf]
                  exact meas_next hlt
              case inr =>
                obtain ⟨a1, a2⟩ := blk BA1.out
                go_upto_region 28 with fail
                have EX : Hid (Ext wr (wy.setCell ⟨wr.heap.size + 1, 0, none⟩ (.int .i64 1))) := EX1.out.setCell (by simp) _
                have BXx : Hid ((wy.setCell ⟨wr.heap.size + 1, 0, none⟩ (.int .i64 1)).heap[wr.heap.size + 1]? = some (.cells #[.int .i64 1, .int .u64 dId, .int .i64 dN, .int .u32 0, .slice none 0 0, .int .i64 0] 90)) := setB BA1.out _
                have BSx : Hid ((wy.setCell ⟨wr.heap.size + 1, 0, none⟩ (.int .i64 1)).heap[w.heap.size]? = some (.cells #[.int .i64 size, .int .i64 objects, .int .i64 cap, .int .u64 first, .slice (some ⟨b, off, none⟩) ds.length c] 80)) := keepS BS1.out (by have := SLT.out; simp; omega) _
                have BDx : Hid ((wy.setCell ⟨wr.heap.size + 1, 0, none⟩ (.int .i64 1)).heap[wr.heap.size]? = some (.cells #[.int .i64 dk, .int .u32 dO, .int .u64 dId, .int .i64 dN, .int .i64 dI] 86)) := keepS BD1.out (by simp) _
                clear a1 a2 EX1 BA1 BS1 BD1
                generalize (wy.setCell ⟨wr.heap.size + 1, 0, none⟩ (.int .i64 1)) = wx at *
                obtain ⟨d1, d2⟩ := blk BDx.out
                obtain ⟨a1, a2⟩ := blk BXx.out
                obtain ⟨b1, b2⟩ := blk BSx.out
                go_upto_region 43 with (go_at_call 31; refine (ISS.out _ EX.out).mono ?_; rintro e w5 ⟨id, err, id0, id1, rfl, hr9⟩; have HR := Lib.hid hr9; have BA5 := Lib.hid (hr9.mod.keep BXx.out (fun hx => by have := NM.out _ hx; omega)); have BS5 := Lib.hid (hr9.mod.keep BSx.out NS.out); obtain ⟨x1, x2⟩ := blk BA5.out; clear hr9 d1 d2 a1 a2 b1 b2 BDx BXx BSx ISS)
                have TM := Lib.hid (TT.out.done HBL.out HTB.out EX.out HR.out (S := [wr.heap.size + 1]) ((mod_setCell w5 ⟨wr.heap.size + 1, 1, none⟩ (.int .u64 id)).trans (mod_setCell (w5.setCell ⟨wr.heap.size + 1, 1, none⟩ (.int .u64 id)) ⟨wr.heap.size + 1, 5, none⟩ (.int .i64 err))) (by intro x hx; simp at hx; omega))
                have BZ : Hid (((w5.setCell ⟨wr.heap.size + 1, 1, none⟩ (.int .u64 id)).setCell ⟨wr.heap.size + 1, 5, none⟩ (.int .i64 err)).heap[wr.heap.size + 1]? = some (.cells #[.int .i64 1, .int .u64 id, .int .i64 dN, .int .u32 0, .slice none 0 0, .int .i64 err] 90)) := (setB (setB BA5.out (.int .u64 id)) (.int .i64 err))
                have BSz : Hid (((w5.setCell ⟨wr.heap.size + 1, 1, none⟩ (.int .u64 id)).setCell ⟨wr.heap.size + 1, 5, none⟩ (.int .i64 err)).heap[w.heap.size]? = some (.cells #[.int .i64 size, .int .i64 objects, .int .i64 cap, .int .u64 first, .slice (some ⟨b, off, none⟩) ds.length c] 80)) := (keepS (keepS BS5.out (by have := SLT.out; simp; omega) (.int .u64 id)) (by have := SLT.out; simp; omega) (.int .i64 err))
                have ESZ : Hid (wr.heap.size ≤ ((w5.setCell ⟨wr.heap.size + 1, 1, none⟩ (.int .u64 id)).setCell ⟨wr.heap.size + 1, 5, none⟩ (.int .i64 err)).heap.size) := by have := EX.out.size; have := HR.out.mod.size; show _ ≤ _; simp; omega
                have EO := Lib.hid (EntOK.bare (W := ((w5.setCell ⟨wr.heap.size + 1, 1, none⟩ (.int .u64 id)).setCell ⟨wr.heap.size + 1, 5, none⟩ (.int .i64 err))) (base := w.heap.size + 1) (tb := tb) (L := L) 1 id dN 0 err id0 id1 (by omega) (by omega))
                clear HR BA5 BS5 x1 x2 EX
                generalize ((w5.setCell ⟨wr.heap.size + 1, 1, none⟩ (.int .u64 id)).setCell ⟨wr.heap.size + 1, 5, none⟩ (.int .i64 err)) = wz at *
                obtain ⟨z1, z2⟩ := blk BZ.out
                obtain ⟨i90, hi, hz0, hz1, hz3⟩ := info_parts info90
                have ROW := Lib.hid (TM.out.keep ((Ext.refl wz).alloc (.cells #[.int .i64 1, .int .u64 id, .int .i64 dN, .int .u32 0, .slice none 0 0, .int .i64 err] 90)))
                have NWR := Lib.hid ((World.ownsRow_lit (base := 0) (e := 90) (size := 6) wz #[.int .i64 1, .int .u64 id, .int .i64 dN, .int .u32 0, .slice none 0 0, .int .i64 err] 1 (Nat.zero_le _) (by unfold maxLen; omega) rfl).cells rfl)
                have EO2 := Lib.hid (EO.out.turned (L' := L) (w' := wz.alloc (.cells #[.int .i64 1, .int .u64 id, .int .i64 dN, .int .u32 0, .slice none 0 0, .int .i64 err] 90)) ⟨⟨[], fun x hx => by simp at hx, ((Ext.refl wz).alloc _).mod _⟩, fun x hx => .inl hx⟩)
                have BS2 := Lib.hid (keepB BSz.out (.cells #[.int .i64 1, .int .u64 id, .int .i64 dN, .int .u32 0, .slice none 0 0, .int .i64 err] 90))
                go_upto_region 16 with (at_builtin; refine wpList_append_own _ rfl _ _ 56 rfl (w.heap.size + 1) 90 i90 (.agg #[.int .i64 0, .int .u64 0, .int .i64 0, .int .u32 0, .slice none 0 0, .int .i64 0]) 6 64 Tryz.underlying56 hi hz0 hz1 hz3 rfl (by decide) _ E.length (entsC E) rfl ROW.out.acts.row ⟨wz.heap.size, 0, none⟩ 1 1 (entC ((⟨1, id, dN, 0, [], err⟩, none, 0) : Ent)) rfl rfl NWR.out (entC_one _) (by have := HDL.out; unfold maxLen; omega) (by have := HDL.out; omega) (by have := SLT.out; have := ESZ.out; simp; omega) ?_; intro v' w3 hown hgrow0 hnil2; have hgrow : World.grownBy _ w3 (Value.slice ad2 E.length c2).ownBlock := hgrow0; obtain ⟨ad3, c3, rfl, _⟩ := own_any hown; have TN := Lib.hid (ROW.out.snoc EO2.out hown hgrow); have BN := Lib.hid (ROW.out.box BS2.out hgrow); clear hown hgrow hgrow0 hnil2)
                have hwr := HWR.out
                go_wp2_with fail
                go_roundw
                case rel => exact ⟨i + 1, E ++ [((⟨1, id, dN, 0, [], err⟩, none, 0) : Ent)], L, ad3, c3, hlt, by go_num, slice_snoc _ _ _ _, len_snoc hEi, HLB.out, TN.out, BN.out⟩
                case measure =>
                  simp only [intOf]
                  exact meas_next hlt
            case inr.inr.inr.inl =>
              obtain ⟨ac, hc, osc, Tc, t2, R2⟩ := TT.out.tab
              have EW : Hid (Ext wr ((wr.alloc (.cells #[.int .i64 dk, .int .u32 dO, .int .u64 dId, .int .i64 dN, .int .i64 dI] 86)).alloc (.cells #[.int .i64 0, .int .u64 dId, .int .i64 dN, .int .u32 0, .slice none 0 0, .int .i64 0] 90))) := ((Ext.refl _).alloc _).alloc _
              have BD : Hid (((wr.alloc (.cells #[.int .i64 dk, .int .u32 dO, .int .u64 dId, .int .i64 dN, .int .i64 dI] 86)).alloc (.cells #[.int .i64 0, .int .u64 dId, .int .i64 dN, .int .u32 0, .slice none 0 0, .int .i64 0] 90)).heap[wr.heap.size]? = some (.cells #[.int .i64 dk, .int .u32 dO, .int .u64 dId, .int .i64 dN, .int .i64 dI] 86)) := keepB (newB wr _ wr.heap.size rfl) _
              have BA : Hid (((wr.alloc (.cells #[.int .i64 dk, .int .u32 dO, .int .u64 dId, .int .i64 dN, .int .i64 dI] 86)).alloc (.cells #[.int .i64 0, .int .u64 dId, .int .i64 dN, .int .u32 0, .slice none 0 0, .int .i64 0] 90)).heap[wr.heap.size + 1]? = some (.cells #[.int .i64 0, .int .u64 dId, .int .i64 dN, .int .u32 0, .slice none 0 0, .int .i64 0] 90)) := newB _ _ _ (by simp)
              have hbl : ∀ x, x ∈ L.blocks → x < wr.heap.size := t2.heap.bl
              have htb : tb < wr.heap.size := t2.tab.lt
              have HBL := Lib.hid hbl
              have HTB := Lib.hid htb
              have SZ : Hid (wr.heap.size + 2 ≤ ((wr.alloc (.cells #[.int .i64 dk, .int .u32 dO, .int .u64 dId, .int .i64 dN, .int .i64 dI] 86)).alloc (.cells #[.int .i64 0, .int .u64 dId, .int .i64 dN, .int .u32 0, .slice none 0 0, .int .i64 0] 90)).heap.size) := by show _ ≤ _; simp
              have NM : Hid (∀ x, x ∈ [tb, L.gw] → x < wr.heap.size) := fun x hx => by
                simp only [List.mem_cons, List.not_mem_nil, or_false] at hx
                rcases hx with rfl | rfl
                · exact htb
                · exact hbl _ (by simp [HLoc.blocks])
              have NS : Hid (¬ w.heap.size ∈ [tb, L.gw]) := fun hx => by
                simp only [List.mem_cons, List.not_mem_nil, or_false] at hx
                rcases hx with hx | hx
                · have := TT.out.tb1; omega
                · have := TT.out.above L.gw (by simp [HLoc.blocks]); omega
              have SLT : Hid (w.heap.size < wr.heap.size) := lt_of_block BX.out
              have t2h := Lib.hid t2
              have R2h := Lib.hid R2
              have LBE := HLB.out
              have HTN : Hid (tb ≠ 0) := by have := TT.out.tb1; show tb ≠ 0; omega
              have HGN : Hid (L.gw ≠ 0) := by have := TT.out.above L.gw (by simp [HLoc.blocks]); show L.gw ≠ 0; omega
              have SPW : Hid (Spares wr) := HS.out.kept TT.out.ext hp
              have spp : 0 < wr.heap.size := by have := SLT.out; omega
              clear R2 t2 hbl htb
              generalize (wr.alloc (.cells #[.int .i64 dk, .int .u32 dO, .int .u64 dId, .int .i64 dN, .int .i64 dI] 86)).alloc (.cells #[.int .i64 0, .int .u64 dId, .int .i64 dN, .int .u32 0, .slice none 0 0, .int .i64 0] 90) = wq at *
              clear b1 b2 a0 a1 a2 a3 a4
              have BSq : Hid (wq.heap[w.heap.size]? = some (.cells #[.int .i64 size, .int .i64 objects, .int .i64 cap, .int .u64 first, .slice (some ⟨b, off, none⟩) ds.length c] 80)) := EW.out.keep BX.out
              obtain ⟨d1, d2⟩ := blk BD.out
              obtain ⟨a1, a2⟩ := blk BA.out
              obtain ⟨b1, b2⟩ := blk BSq.out
              go_upto_region 31 with fail
              have EX : Hid (Ext wr (wq.setCell ⟨wr.heap.size + 1, 0, none⟩ (.int .i64 2))) := EW.out.setCell (by simp) _
              have BXx : Hid ((wq.setCell ⟨wr.heap.size + 1, 0, none⟩ (.int .i64 2)).heap[wr.heap.size + 1]? = some (.cells #[.int .i64 2, .int .u64 dId, .int .i64 dN, .int .u32 0, .slice none 0 0, .int .i64 0] 90)) := setB BA.out _
              have BSx : Hid ((wq.setCell ⟨wr.heap.size + 1, 0, none⟩ (.int .i64 2)).heap[w.heap.size]? = some (.cells #[.int .i64 size, .int .i64 objects, .int .i64 cap, .int .u64 first, .slice (some ⟨b, off, none⟩) ds.length c] 80)) := keepS BSq.out (by have := SLT.out; simp; omega) _
              have BDx : Hid ((wq.setCell ⟨wr.heap.size + 1, 0, none⟩ (.int .i64 2)).heap[wr.heap.size]? = some (.cells #[.int .i64 dk, .int .u32 dO, .int .u64 dId, .int .i64 dN, .int .i64 dI] 86)) := keepS BD.out (by simp) _
              have GT := Lib.hid (Get32 (t2h.out.keep EX.out) (SPW.out.kept EX.out spp) R2h.out dId DOK.out.i0)
              clear d1 d2 a1 a2 b1 b2 EW BA BSq BD
              generalize wq.setCell ⟨wr.heap.size + 1, 0, none⟩ (.int .i64 2) = wx at *
              obtain ⟨d1, d2⟩ := blk BDx.out
              obtain ⟨b1, b2⟩ := blk BSx.out
              go_upto_region 32 with (go_at_call 32; refine GT.out.mono ?_; rintro e w4 ⟨⟨o, gerr, rfl, hcs⟩, hE4⟩; have HCS := Lib.hid hcs; have E4 := Lib.hid hE4; clear hcs hE4 GT)
              have OB : Hid (0 ≤ o ∧ o < 4294967296) := by
                rcases HCS.out with ⟨_, h1, _⟩ | ⟨x, _, _, _, h1, h2, _⟩
                · subst h1; exact ⟨by omega, by omega⟩
                · exact ⟨h1, h2⟩
              obtain ⟨hs0, hf0, hsp0, hc0, hr, he, hcase, hr0, hr1, hHD⟩ := header_any (t2h.out.heap.keep (EX.out.trans E4.out)) t2h.out.wf (SPW.out.kept (EX.out.trans E4.out) spp) o OB.out.1 OB.out.2
              rw [LBE] at hHD
              have HD := Lib.hid hHD
              have ANS : Hid ((lget (endT ⟨cap, [], first, 0⟩ (E.map (·.1))).live dId = none ∧ gerr = 160 ∧ hr = 0) ∨ (∃ x, lget (endT ⟨cap, [], first, 0⟩ (E.map (·.1))).live dId = some x ∧ gerr = 0 ∧ hr = x.1)) := by
                rcases HCS.out with ⟨h1, h2, h3⟩ | ⟨x, h1, h2, h3, _, _, h4⟩
                · refine .inl ⟨h1, h3, ?_⟩
                  rcases hcase with ⟨_, h5, _⟩ | ⟨_, _, h5⟩
                  · rw [h2, isO_nil] at h5; cases h5
                  · exact h5
                · refine .inr ⟨x, h1, h2, ?_⟩
                  rcases hcase with ⟨_, _, h5⟩ | ⟨_, h5, _⟩
                  · rw [h5, h4]
                  · rw [h3] at h5; cases h5
              clear hHD hcase HCS
              go_upto_region 33 with (go_at_call 22; refine (HD.out _ (Ext.refl _)).mono ?_; rintro e9 w9 ⟨rfl, hE9⟩; have E9 := Lib.hid hE9; clear hE9)
              have hc4 : (w9.alloc (.cells #[.int .i64 hs0, .int .i64 hf0, .int .i64 hsp0, .int .u32 hc0, .int .u32 hr] 65)).cell? ⟨w9.heap.size, 4, none⟩ = some (.int .u32 hr) := (blk (newB w9 _ w9.heap.size rfl)).1 4
              have hEc : Ext w4 (w9.alloc (.cells #[.int .i64 hs0, .int .i64 hf0, .int .i64 hsp0, .int .u32 hc0, .int .u32 hr] 65)) := E9.out.alloc _
              generalize w9.alloc (.cells #[.int .i64 hs0, .int .i64 hf0, .int .i64 hsp0, .int .u32 hc0, .int .u32 hr] 65) = wc at *
              generalize w9.heap.size = b6 at *
              clear E9
              have HR : Hid (ActR wx L hc osc ac cap tb (endT ⟨cap, [], first, 0⟩ (E.map (·.1))) ⟨2, dId, dN, hr, [], gerr⟩ wc) := ActR.get (t2h.out.keep EX.out) R2h.out (E4.out.trans hEc) ANS.out
              have BA5 := Lib.hid (hEc.keep (E4.out.keep BXx.out))
              have BS5 := Lib.hid (hEc.keep (E4.out.keep BSx.out))
              obtain ⟨x1, x2⟩ := blk BA5.out
              clear hEc HD E4 BXx BSx BDx ANS d1 d2 b1 b2
              go_upto_region 43 with fail
              clear hc4
              generalize wc = w5 at *
              have TM := Lib.hid (TT.out.done HBL.out HTB.out EX.out HR.out (S := [wr.heap.size + 1]) ((mod_setCell w5 ⟨wr.heap.size + 1, 3, none⟩ (.int .u32 hr)).trans (mod_setCell (w5.setCell ⟨wr.heap.size + 1, 3, none⟩ (.int .u32 hr)) ⟨wr.heap.size + 1, 5, none⟩ (.int .i64 gerr))) (by intro x hx; simp at hx; omega))
              have BZ : Hid (((w5.setCell ⟨wr.heap.size + 1, 3, none⟩ (.int .u32 hr)).setCell ⟨wr.heap.size + 1, 5, none⟩ (.int .i64 gerr)).heap[wr.heap.size + 1]? = some (.cells #[.int .i64 2, .int .u64 dId, .int .i64 dN, .int .u32 hr, .slice none 0 0, .int .i64 gerr] 90)) := (setB (setB BA5.out (.int .u32 hr)) (.int .i64 gerr))
              have BSz : Hid (((w5.setCell ⟨wr.heap.size + 1, 3, none⟩ (.int .u32 hr)).setCell ⟨wr.heap.size + 1, 5, none⟩ (.int .i64 gerr)).heap[w.heap.size]? = some (.cells #[.int .i64 size, .int .i64 objects, .int .i64 cap, .int .u64 first, .slice (some ⟨b, off, none⟩) ds.length c] 80)) := (keepS (keepS BS5.out (by have := SLT.out; simp; omega) (.int .u32 hr)) (by have := SLT.out; simp; omega) (.int .i64 gerr))
              have ESZ : Hid (wr.heap.size ≤ ((w5.setCell ⟨wr.heap.size + 1, 3, none⟩ (.int .u32 hr)).setCell ⟨wr.heap.size + 1, 5, none⟩ (.int .i64 gerr)).heap.size) := by have := EX.out.size; have := HR.out.mod.size; show _ ≤ _; simp; omega
              have EO := Lib.hid (EntOK.bare (W := ((w5.setCell ⟨wr.heap.size + 1, 3, none⟩ (.int .u32 hr)).setCell ⟨wr.heap.size + 1, 5, none⟩ (.int .i64 gerr))) (base := w.heap.size + 1) (tb := tb) (L := L) 2 dId dN hr gerr DOK.out.i0 DOK.out.i1 (by omega) (by omega))
              clear HR BA5 BS5 x1 x2 EX
              generalize ((w5.setCell ⟨wr.heap.size + 1, 3, none⟩ (.int .u32 hr)).setCell ⟨wr.heap.size + 1, 5, none⟩ (.int .i64 gerr)) = wz at *
              obtain ⟨z1, z2⟩ := blk BZ.out
              obtain ⟨i90, hi, hz0, hz1, hz3⟩ := info_parts info90
              have ROW := Lib.hid (TM.out.keep ((Ext.refl wz).alloc (.cells #[.int .i64 2, .int .u64 dId, .int .i64 dN, .int .u32 hr, .slice none 0 0, .int .i64 gerr] 90)))
              have NWR := Lib.hid ((World.ownsRow_lit (base := 0) (e := 90) (size := 6) wz #[.int .i64 2, .int .u64 dId, .int .i64 dN, .int .u32 hr, .slice none 0 0, .int .i64 gerr] 1 (Nat.zero_le _) (by unfold maxLen; omega) rfl).cells rfl)
              have EO2 := Lib.hid (EO.out.turned (L' := L) (w' := wz.alloc (.cells #[.int .i64 2, .int .u64 dId, .int .i64 dN, .int .u32 hr, .slice none 0 0, .int .i64 gerr] 90)) ⟨⟨[], fun x hx => by simp at hx, ((Ext.refl wz).alloc _).mod _⟩, fun x hx => .inl hx⟩)
              have BS2 := Lib.hid (keepB BSz.out (.cells #[.int .i64 2, .int .u64 dId, .int .i64 dN, .int .u32 hr, .slice none 0 0, .int .i64 gerr] 90))
              go_upto_region 16 with (at_builtin; refine wpList_append_own _ rfl _ _ 56 rfl (w.heap.size + 1) 90 i90 (.agg #[.int .i64 0, .int .u64 0, .int .i64 0, .int .u32 0, .slice none 0 0, .int .i64 0]) 6 64 Tryz.underlying56 hi hz0 hz1 hz3 rfl (by decide) _ E.length (entsC E) rfl ROW.out.acts.row ⟨wz.heap.size, 0, none⟩ 1 1 (entC ((⟨2, dId, dN, hr, [], gerr⟩, none, 0) : Ent)) rfl rfl NWR.out (entC_one _) (by have := HDL.out; unfold maxLen; omega) (by have := HDL.out; omega) (by have := SLT.out; have := ESZ.out; simp; omega) ?_; intro v' w3 hown hgrow0 hnil2; have hgrow : World.grownBy _ w3 (Value.slice ad2 E.length c2).ownBlock := hgrow0; obtain ⟨ad3, c3, rfl, _⟩ := own_any hown; have TN := Lib.hid (ROW.out.snoc EO2.out hown hgrow); have BN := Lib.hid (ROW.out.box BS2.out hgrow); clear hown hgrow hgrow0 hnil2)
              have hwr := HWR.out
              go_wp2_with fail
              go_roundw
              case rel => exact ⟨i + 1, E ++ [((⟨2, dId, dN, hr, [], gerr⟩, none, 0) : Ent)], L, ad3, c3, hlt, by go_num, slice_snoc _ _ _ _, len_snoc hEi, HLB.out, TN.out, BN.out⟩
              case measure =>
                simp only [intOf]
                exact meas_next hlt
            case inr.inr.inr.inr.inl =>
              obtain ⟨ac, hc, osc, Tc, t2, R2⟩ := TT.out.tab
              have EW : Hid (Ext wr ((wr.alloc (.cells #[.int .i64 dk, .int .u32 dO, .int .u64 dId, .int .i64 dN, .int .i64 dI] 86)).alloc (.cells #[.int .i64 0, .int .u64 dId, .int .i64 dN, .int .u32 0, .slice none 0 0, .int .i64 0] 90))) := ((Ext.refl _).alloc _).alloc _
              have BD : Hid (((wr.alloc (.cells #[.int .i64 dk, .int .u32 dO, .int .u64 dId, .int .i64 dN, .int .i64 dI] 86)).alloc (.cells #[.int .i64 0, .int .u64 dId, .int .i64 dN, .int .u32 0, .slice none 0 0, .int .i64 0] 90)).heap[wr.heap.size]? = some (.cells #[.int .i64 dk, .int .u32 dO, .int .u64 dId, .int .i64 dN, .int .i64 dI] 86)) := keepB (newB wr _ wr.heap.size rfl) _
              have BA : Hid (((wr.alloc (.cells #[.int .i64 dk, .int .u32 dO, .int .u64 dId, .int .i64 dN, .int .i64 dI] 86)).alloc (.cells #[.int .i64 0, .int .u64 dId, .int .i64 dN, .int .u32 0, .slice none 0 0, .int .i64 0] 90)).heap[wr.heap.size + 1]? = some (.cells #[.int .i64 0, .int .u64 dId, .int .i64 dN, .int .u32 0, .slice none 0 0, .int .i64 0] 90)) := newB _ _ _ (by simp)
              have hbl : ∀ x, x ∈ L.blocks → x < wr.heap.size := t2.heap.bl
              have htb : tb < wr.heap.size := t2.tab.lt
              have HBL := Lib.hid hbl
              have HTB := Lib.hid htb
              have SZ : Hid (wr.heap.size + 2 ≤ ((wr.alloc (.cells #[.int .i64 dk, .int .u32 dO, .int .u64 dId, .int .i64 dN, .int .i64 dI] 86)).alloc (.cells #[.int .i64 0, .int .u64 dId, .int .i64 dN, .int .u32 0, .slice none 0 0, .int .i64 0] 90)).heap.size) := by show _ ≤ _; simp
              have NM : Hid (∀ x, x ∈ [tb, L.gw] → x < wr.heap.size) := fun x hx => by
                simp only [List.mem_cons, List.not_mem_nil, or_false] at hx
                rcases hx with rfl | rfl
                · exact htb
                · exact hbl _ (by simp [HLoc.blocks])
              have NS : Hid (¬ w.heap.size ∈ [tb, L.gw]) := fun hx => by
                simp only [List.mem_cons, List.not_mem_nil, or_false] at hx
                rcases hx with hx | hx
                · have := TT.out.tb1; omega
                · have := TT.out.above L.gw (by simp [HLoc.blocks]); omega
              have SLT : Hid (w.heap.size < wr.heap.size) := lt_of_block BX.out
              have t2h := Lib.hid t2
              have R2h := Lib.hid R2
              have LBE := HLB.out
              have HTN : Hid (tb ≠ 0) := by have := TT.out.tb1; show tb ≠ 0; omega
              have HGN : Hid (L.gw ≠ 0) := by have := TT.out.above L.gw (by simp [HLoc.blocks]); show L.gw ≠ 0; omega
              have SPW : Hid (Spares wr) := HS.out.kept TT.out.ext hp
              have spp : 0 < wr.heap.size := by have := SLT.out; omega
              clear R2 t2 hbl htb
              generalize (wr.alloc (.cells #[.int .i64 dk, .int .u32 dO, .int .u64 dId, .int .i64 dN, .int .i64 dI] 86)).alloc (.cells #[.int .i64 0, .int .u64 dId, .int .i64 dN, .int .u32 0, .slice none 0 0, .int .i64 0] 90) = wq at *
              clear b1 b2 a0 a1 a2 a3 a4
              have BSq : Hid (wq.heap[w.heap.size]? = some (.cells #[.int .i64 size, .int .i64 objects, .int .i64 cap, .int .u64 first, .slice (some ⟨b, off, none⟩) ds.length c] 80)) := EW.out.keep BX.out
              obtain ⟨d1, d2⟩ := blk BD.out
              obtain ⟨a1, a2⟩ := blk BA.out
              obtain ⟨b1, b2⟩ := blk BSq.out
              go_upto_region 36 with fail
              have EX : Hid (Ext wr (wq.setCell ⟨wr.heap.size + 1, 0, none⟩ (.int .i64 3))) := EW.out.setCell (by simp) _
              have BXx : Hid ((wq.setCell ⟨wr.heap.size + 1, 0, none⟩ (.int .i64 3)).heap[wr.heap.size + 1]? = some (.cells #[.int .i64 3, .int .u64 dId, .int .i64 dN, .int .u32 0, .slice none 0 0, .int .i64 0] 90)) := setB BA.out _
              have BSx : Hid ((wq.setCell ⟨wr.heap.size + 1, 0, none⟩ (.int .i64 3)).heap[w.heap.size]? = some (.cells #[.int .i64 size, .int .i64 objects, .int .i64 cap, .int .u64 first, .slice (some ⟨b, off, none⟩) ds.length c] 80)) := keepS BSq.out (by have := SLT.out; simp; omega) _
              have BDx : Hid ((wq.setCell ⟨wr.heap.size + 1, 0, none⟩ (.int .i64 3)).heap[wr.heap.size]? = some (.cells #[.int .i64 dk, .int .u32 dO, .int .u64 dId, .int .i64 dN, .int .i64 dI] 86)) := keepS BD.out (by simp) _
              have RN := Lib.hid (Renew33 (t2h.out.keep EX.out) (SPW.out.kept EX.out spp) R2h.out dId dN 0 [] DOK.out.i0)
              clear d1 d2 a1 a2 b1 b2 EW BA BSq BD
              generalize (wq.setCell ⟨wr.heap.size + 1, 0, none⟩ (.int .i64 3)) = wx at *
              obtain ⟨d1, d2⟩ := blk BDx.out
              obtain ⟨a1, a2⟩ := blk BXx.out
              obtain ⟨b1, b2⟩ := blk BSx.out
              go_upto_region 43 with (go_at_call 33; refine RN.out.mono ?_; rintro e w5 ⟨err, rfl, hr⟩; have HR := Lib.hid hr; have BA5 := Lib.hid (hr.mod.keep BXx.out (fun hx => by have := NM.out _ hx; omega)); have BS5 := Lib.hid (hr.mod.keep BSx.out NS.out); obtain ⟨x1, x2⟩ := blk BA5.out; clear hr d1 d2 a1 a2 b1 b2 BDx BXx BSx RN)
              have TM := Lib.hid (TT.out.done HBL.out HTB.out EX.out HR.out (S := [wr.heap.size + 1]) (mod_setCell w5 ⟨wr.heap.size + 1, 5, none⟩ (.int .i64 err)) (by intro x hx; simp at hx; omega))
              have BZ : Hid ((w5.setCell ⟨wr.heap.size + 1, 5, none⟩ (.int .i64 err)).heap[wr.heap.size + 1]? = some (.cells #[.int .i64 3, .int .u64 dId, .int .i64 dN, .int .u32 0, .slice none 0 0, .int .i64 err] 90)) := (setB BA5.out (.int .i64 err))
              have BSz : Hid ((w5.setCell ⟨wr.heap.size + 1, 5, none⟩ (.int .i64 err)).heap[w.heap.size]? = some (.cells #[.int .i64 size, .int .i64 objects, .int .i64 cap, .int .u64 first, .slice (some ⟨b, off, none⟩) ds.length c] 80)) := (keepS BS5.out (by have := SLT.out; simp; omega) (.int .i64 err))
              have ESZ : Hid (wr.heap.size ≤ (w5.setCell ⟨wr.heap.size + 1, 5, none⟩ (.int .i64 err)).heap.size) := by have := EX.out.size; have := HR.out.mod.size; show _ ≤ _; simp; omega
              have EO := Lib.hid (EntOK.bare (W := (w5.setCell ⟨wr.heap.size + 1, 5, none⟩ (.int .i64 err))) (base := w.heap.size + 1) (tb := tb) (L := L) 3 dId dN 0 err DOK.out.i0 DOK.out.i1 (by omega) (by omega))
              clear HR BA5 BS5 x1 x2 EX
              generalize (w5.setCell ⟨wr.heap.size + 1, 5, none⟩ (.int .i64 err)) = wz at *
              obtain ⟨z1, z2⟩ := blk BZ.out
              obtain ⟨i90, hi, hz0, hz1, hz3⟩ := info_parts info90
              have ROW := Lib.hid (TM.out.keep ((Ext.refl wz).alloc (.cells #[.int .i64 3, .int .u64 dId, .int .i64 dN, .int .u32 0, .slice none 0 0, .int .i64 err] 90)))
              have NWR := Lib.hid ((World.ownsRow_lit (base := 0) (e := 90) (size := 6) wz #[.int .i64 3, .int .u64 dId, .int .i64 dN, .int .u32 0, .slice none 0 0, .int .i64 err] 1 (Nat.zero_le _) (by unfold maxLen; omega) rfl).cells rfl)
              have EO2 := Lib.hid (EO.out.turned (L' := L) (w' := wz.alloc (.cells #[.int .i64 3, .int .u64 dId, .int .i64 dN, .int .u32 0, .slice none 0 0, .int .i64 err] 90)) ⟨⟨[], fun x hx => by simp at hx, ((Ext.refl wz).alloc _).mod _⟩, fun x hx => .inl hx⟩)
              have BS2 := Lib.hid (keepB BSz.out (.cells #[.int .i64 3, .int .u64 dId, .int .i64 dN, .int .u32 0, .slice none 0 0, .int .i64 err] 90))
              go_upto_region 16 with (at_builtin; refine wpList_append_own _ rfl _ _ 56 rfl (w.heap.size + 1) 90 i90 (.agg #[.int .i64 0, .int .u64 0, .int .i64 0, .int .u32 0, .slice none 0 0, .int .i64 0]) 6 64 Tryz.underlying56 hi hz0 hz1 hz3 rfl (by decide) _ E.length (entsC E) rfl ROW.out.acts.row ⟨wz.heap.size, 0, none⟩ 1 1 (entC ((⟨3, dId, dN, 0, [], err⟩, none, 0) : Ent)) rfl rfl NWR.out (entC_one _) (by have := HDL.out; unfold maxLen; omega) (by have := HDL.out; omega) (by have := SLT.out; have := ESZ.out; simp; omega) ?_; intro v' w3 hown hgrow0 hnil2; have hgrow : World.grownBy _ w3 (Value.slice ad2 E.length c2).ownBlock := hgrow0; obtain ⟨ad3, c3, rfl, _⟩ := own_any hown; have TN := Lib.hid (ROW.out.snoc EO2.out hown hgrow); have BN := Lib.hid (ROW.out.box BS2.out hgrow); clear hown hgrow hgrow0 hnil2)
              have hwr := HWR.out
              go_wp2_with fail
              go_roundw
              case rel => exact ⟨i + 1, E ++ [((⟨3, dId, dN, 0, [], err⟩, none, 0) : Ent)], L, ad3, c3, hlt, by go_num, slice_snoc _ _ _ _, len_snoc hEi, HLB.out, TN.out, BN.out⟩
              case measure =>
                simp only [intOf]
                exact meas_next hlt
            case inr.inr.inr.inr.inr.inl =>
              obtain ⟨ac, hc, osc, Tc, t2, R2⟩ := TT.out.tab
              have EW : Hid (Ext wr ((wr.alloc (.cells #[.int .i64 dk, .int .u32 dO, .int .u64 dId, .int .i64 dN, .int .i64 dI] 86)).alloc (.cells #[.int .i64 0, .int .u64 dId, .int .i64 dN, .int .u32 0, .slice none 0 0, .int .i64 0] 90))) := ((Ext.refl _).alloc _).alloc _
              have BD : Hid (((wr.alloc (.cells #[.int .i64 dk, .int .u32 dO, .int .u64 dId, .int .i64 dN, .int .i64 dI] 86)).alloc (.cells #[.int .i64 0, .int .u64 dId, .int .i64 dN, .int .u32 0, .slice none 0 0, .int .i64 0] 90)).heap[wr.heap.size]? = some (.cells #[.int .i64 dk, .int .u32 dO, .int .u64 dId, .int .i64 dN, .int .i64 dI] 86)) := keepB (newB wr _ wr.heap.size rfl) _
              have BA : Hid (((wr.alloc (.cells #[.int .i64 dk, .int .u32 dO, .int .u64 dId, .int .i64 dN, .int .i64 dI] 86)).alloc (.cells #[.int .i64 0, .int .u64 dId, .int .i64 dN, .int .u32 0, .slice none 0 0, .int .i64 0] 90)).heap[wr.heap.size + 1]? = some (.cells #[.int .i64 0, .int .u64 dId, .int .i64 dN, .int .u32 0, .slice none 0 0, .int .i64 0] 90)) := newB _ _ _ (by simp)
              have hbl : ∀ x, x ∈ L.blocks → x < wr.heap.size := t2.heap.bl
              have htb : tb < wr.heap.size := t2.tab.lt
              have HBL := Lib.hid hbl
              have HTB := Lib.hid htb
              have SZ : Hid (wr.heap.size + 2 ≤ ((wr.alloc (.cells #[.int .i64 dk, .int .u32 dO, .int .u64 dId, .int .i64 dN, .int .i64 dI] 86)).alloc (.cells #[.int .i64 0, .int .u64 dId, .int .i64 dN, .int .u32 0, .slice none 0 0, .int .i64 0] 90)).heap.size) := by show _ ≤ _; simp
              have NM : Hid (∀ x, x ∈ [tb, L.gw] → x < wr.heap.size) := fun x hx => by
                simp only [List.mem_cons, List.not_mem_nil, or_false] at hx
                rcases hx with rfl | rfl
                · exact htb
                · exact hbl _ (by simp [HLoc.blocks])
              have NS : Hid (¬ w.heap.size ∈ [tb, L.gw]) := fun hx => by
                simp only [List.mem_cons, List.not_mem_nil, or_false] at hx
                rcases hx with hx | hx
                · have := TT.out.tb1; omega
                · have := TT.out.above L.gw (by simp [HLoc.blocks]); omega
              have SLT : Hid (w.heap.size < wr.heap.size) := lt_of_block BX.out
              have t2h := Lib.hid t2
              have R2h := Lib.hid R2
              have LBE := HLB.out
              have HTN : Hid (tb ≠ 0) := by have := TT.out.tb1; show tb ≠ 0; omega
              have HGN : Hid (L.gw ≠ 0) := by have := TT.out.above L.gw (by simp [HLoc.blocks]); show L.gw ≠ 0; omega
              have SPW : Hid (Spares wr) := HS.out.kept TT.out.ext hp
              have spp : 0 < wr.heap.size := by have := SLT.out; omega
              clear R2 t2 hbl htb
              generalize (wr.alloc (.cells #[.int .i64 dk, .int .u32 dO, .int .u64 dId, .int .i64 dN, .int .i64 dI] 86)).alloc (.cells #[.int .i64 0, .int .u64 dId, .int .i64 dN, .int .u32 0, .slice none 0 0, .int .i64 0] 90) = wq at *
              clear b1 b2 a0 a1 a2 a3 a4
              have BSq : Hid (wq.heap[w.heap.size]? = some (.cells #[.int .i64 size, .int .i64 objects, .int .i64 cap, .int .u64 first, .slice (some ⟨b, off, none⟩) ds.length c] 80)) := EW.out.keep BX.out
              obtain ⟨d1, d2⟩ := blk BD.out
              obtain ⟨a1, a2⟩ := blk BA.out
              obtain ⟨b1, b2⟩ := blk BSq.out
              go_upto_region 39 with fail
              have EX : Hid (Ext wr (wq.setCell ⟨wr.heap.size + 1, 0, none⟩ (.int .i64 4))) := EW.out.setCell (by simp) _
              have BXx : Hid ((wq.setCell ⟨wr.heap.size + 1, 0, none⟩ (.int .i64 4)).heap[wr.heap.size + 1]? = some (.cells #[.int .i64 4, .int .u64 dId, .int .i64 dN, .int .u32 0, .slice none 0 0, .int .i64 0] 90)) := setB BA.out _
              have BSx : Hid ((wq.setCell ⟨wr.heap.size + 1, 0, none⟩ (.int .i64 4)).heap[w.heap.size]? = some (.cells #[.int .i64 size, .int .i64 objects, .int .i64 cap, .int .u64 first, .slice (some ⟨b, off, none⟩) ds.length c] 80)) := keepS BSq.out (by have := SLT.out; simp; omega) _
              have BDx : Hid ((wq.setCell ⟨wr.heap.size + 1, 0, none⟩ (.int .i64 4)).heap[wr.heap.size]? = some (.cells #[.int .i64 dk, .int .u32 dO, .int .u64 dId, .int .i64 dN, .int .i64 dI] 86)) := keepS BD.out (by simp) _
              have RN := Lib.hid (Release34 (t2h.out.keep EX.out) (SPW.out.kept EX.out spp) HTN.out R2h.out dId dN 0 [] DOK.out.i0)
              clear d1 d2 a1 a2 b1 b2 EW BA BSq BD
              generalize (wq.setCell ⟨wr.heap.size + 1, 0, none⟩ (.int .i64 4)) = wx at *
              obtain ⟨d1, d2⟩ := blk BDx.out
              obtain ⟨a1, a2⟩ := blk BXx.out
              obtain ⟨b1, b2⟩ := blk BSx.out
              go_upto_region 43 with (go_at_call 34; refine RN.out.mono ?_; rintro e w5 ⟨err, rfl, hr⟩; have HR := Lib.hid hr; have BA5 := Lib.hid (hr.mod.keep BXx.out (fun hx => by have := NM.out _ hx; omega)); have BS5 := Lib.hid (hr.mod.keep BSx.out NS.out); obtain ⟨x1, x2⟩ := blk BA5.out; clear hr d1 d2 a1 a2 b1 b2 BDx BXx BSx RN)
              have TM := Lib.hid (TT.out.done HBL.out HTB.out EX.out HR.out (S := [wr.heap.size + 1]) (mod_setCell w5 ⟨wr.heap.size + 1, 5, none⟩ (.int .i64 err)) (by intro x hx; simp at hx; omega))
              have BZ : Hid ((w5.setCell ⟨wr.heap.size + 1, 5, none⟩ (.int .i64 err)).heap[wr.heap.size + 1]? = some (.cells #[.int .i64 4, .int .u64 dId, .int .i64 dN, .int .u32 0, .slice none 0 0, .int .i64 err] 90)) := (setB BA5.out (.int .i64 err))
              have BSz : Hid ((w5.setCell ⟨wr.heap.size + 1, 5, none⟩ (.int .i64 err)).heap[w.heap.size]? = some (.cells #[.int .i64 size, .int .i64 objects, .int .i64 cap, .int .u64 first, .slice (some ⟨b, off, none⟩) ds.length c] 80)) := (keepS BS5.out (by have := SLT.out; simp; omega) (.int .i64 err))
              have ESZ : Hid (wr.heap.size ≤ (w5.setCell ⟨wr.heap.size + 1, 5, none⟩ (.int .i64 err)).heap.size) := by have := EX.out.size; have := HR.out.mod.size; show _ ≤ _; simp; omega
              have EO := Lib.hid (EntOK.bare (W := (w5.setCell ⟨wr.heap.size + 1, 5, none⟩ (.int .i64 err))) (base := w.heap.size + 1) (tb := tb) (L := L) 4 dId dN 0 err DOK.out.i0 DOK.out.i1 (by omega) (by omega))
              clear HR BA5 BS5 x1 x2 EX
              generalize (w5.setCell ⟨wr.heap.size + 1, 5, none⟩ (.int .i64 err)) = wz at *
              obtain ⟨z1, z2⟩ := blk BZ.out
              obtain ⟨i90, hi, hz0, hz1, hz3⟩ := info_parts info90
              have ROW := Lib.hid (TM.out.keep ((Ext.refl wz).alloc (.cells #[.int .i64 4, .int .u64 dId, .int .i64 dN, .int .u32 0, .slice none 0 0, .int .i64 err] 90)))
              have NWR := Lib.hid ((World.ownsRow_lit (base := 0) (e := 90) (size := 6) wz #[.int .i64 4, .int .u64 dId, .int .i64 dN, .int .u32 0, .slice none 0 0, .int .i64 err] 1 (Nat.zero_le _) (by unfold maxLen; omega) rfl).cells rfl)
              have EO2 := Lib.hid (EO.out.turned (L' := L) (w' := wz.alloc (.cells #[.int .i64 4, .int .u64 dId, .int .i64 dN, .int .u32 0, .slice none 0 0, .int .i64 err] 90)) ⟨⟨[], fun x hx => by simp at hx, ((Ext.refl wz).alloc _).mod _⟩, fun x hx => .inl hx⟩)
              have BS2 := Lib.hid (keepB BSz.out (.cells #[.int .i64 4, .int .u64 dId, .int .i64 dN, .int .u32 0, .slice none 0 0, .int .i64 err] 90))
              go_upto_region 16 with (at_builtin; refine wpList_append_own _ rfl _ _ 56 rfl (w.heap.size + 1) 90 i90 (.agg #[.int .i64 0, .int .u64 0, .int .i64 0, .int .u32 0, .slice none 0 0, .int .i64 0]) 6 64 Tryz.underlying56 hi hz0 hz1 hz3 rfl (by decide) _ E.length (entsC E) rfl ROW.out.acts.row ⟨wz.heap.size, 0, none⟩ 1 1 (entC ((⟨4, dId, dN, 0, [], err⟩, none, 0) : Ent)) rfl rfl NWR.out (entC_one _) (by have := HDL.out; unfold maxLen; omega) (by have := HDL.out; omega) (by have := SLT.out; have := ESZ.out; simp; omega) ?_; intro v' w3 hown hgrow0 hnil2; have hgrow : World.grownBy _ w3 (Value.slice ad2 E.length c2).ownBlock := hgrow0; obtain ⟨ad3, c3, rfl, _⟩ := own_any hown; have TN := Lib.hid (ROW.out.snoc EO2.out hown hgrow); have BN := Lib.hid (ROW.out.box BS2.out hgrow); clear hown hgrow hgrow0 hnil2)
              have hwr := HWR.out
              go_wp2_with fail
              go_roundw
              case rel => exact ⟨i + 1, E ++ [((⟨4, dId, dN, 0, [], err⟩, none, 0) : Ent)], L, ad3, c3, hlt, by go_num, slice_snoc _ _ _ _, len_snoc hEi, HLB.out, TN.out, BN.out⟩
              case measure =>
                simp only [intOf]
                exact meas_next hlt
            case inr.inr.inr.inr.inr.inr.inl =>
              obtain ⟨ac, hc, osc, Tc, t2, R2⟩ := TT.out.tab
              have EW : Hid (Ext wr ((wr.alloc (.cells #[.int .i64 dk, .int .u32 dO, .int .u64 dId, .int .i64 dN, .int .i64 dI] 86)).alloc (.cells #[.int .i64 0, .int .u64 dId, .int .i64 dN, .int .u32 0, .slice none 0 0, .int .i64 0] 90))) := ((Ext.refl _).alloc _).alloc _
              have BD : Hid (((wr.alloc (.cells #[.int .i64 dk, .int .u32 dO, .int .u64 dId, .int .i64 dN, .int .i64 dI] 86)).alloc (.cells #[.int .i64 0, .int .u64 dId, .int .i64 dN, .int .u32 0, .slice none 0 0, .int .i64 0] 90)).heap[wr.heap.size]? = some (.cells #[.int .i64 dk, .int .u32 dO, .int .u64 dId, .int .i64 dN, .int .i64 dI] 86)) := keepB (newB wr _ wr.heap.size rfl) _
              have BA : Hid (((wr.alloc (.cells #[.int .i64 dk, .int .u32 dO, .int .u64 dId, .int .i64 dN, .int .i64 dI] 86)).alloc (.cells #[.int .i64 0, .int .u64 dId, .int .i64 dN, .int .u32 0, .slice none 0 0, .int .i64 0] 90)).heap[wr.heap.size + 1]? = some (.cells #[.int .i64 0, .int .u64 dId, .int .i64 dN, .int .u32 0, .slice none 0 0, .int .i64 0] 90)) := newB _ _ _ (by simp)
              have hbl : ∀ x, x ∈ L.blocks → x < wr.heap.size := t2.heap.bl
              have htb : tb < wr.heap.size := t2.tab.lt
              have HBL := Lib.hid hbl
              have HTB := Lib.hid htb
              have SZ : Hid (wr.heap.size + 2 ≤ ((wr.alloc (.cells #[.int .i64 dk, .int .u32 dO, .int .u64 dId, .int .i64 dN, .int .i64 dI] 86)).alloc (.cells #[.int .i64 0, .int .u64 dId, .int .i64 dN, .int .u32 0, .slice none 0 0, .int .i64 0] 90)).heap.size) := by show _ ≤ _; simp
              have NM : Hid (∀ x, x ∈ [tb, L.gw] → x < wr.heap.size) := fun x hx => by
                simp only [List.mem_cons, List.not_mem_nil, or_false] at hx
                rcases hx with rfl | rfl
                · exact htb
                · exact hbl _ (by simp [HLoc.blocks])
              have NS : Hid (¬ w.heap.size ∈ [tb, L.gw]) := fun hx => by
                simp only [List.mem_cons, List.not_mem_nil, or_false] at hx
                rcases hx with hx | hx
                · have := TT.out.tb1; omega
                · have := TT.out.above L.gw (by simp [HLoc.blocks]); omega
              have SLT : Hid (w.heap.size < wr.heap.size) := lt_of_block BX.out
              have t2h := Lib.hid t2
              have R2h := Lib.hid R2
              have LBE := HLB.out
              have HTN : Hid (tb ≠ 0) := by have := TT.out.tb1; show tb ≠ 0; omega
              have HGN : Hid (L.gw ≠ 0) := by have := TT.out.above L.gw (by simp [HLoc.blocks]); show L.gw ≠ 0; omega
              have SPW : Hid (Spares wr) := HS.out.kept TT.out.ext hp
              have spp : 0 < wr.heap.size := by have := SLT.out; omega
              clear R2 t2 hbl htb
              generalize (wr.alloc (.cells #[.int .i64 dk, .int .u32 dO, .int .u64 dId, .int .i64 dN, .int .i64 dI] 86)).alloc (.cells #[.int .i64 0, .int .u64 dId, .int .i64 dN, .int .u32 0, .slice none 0 0, .int .i64 0] 90) = wq at *
              clear b1 b2 a0 a1 a2 a3 a4
              have BSq : Hid (wq.heap[w.heap.size]? = some (.cells #[.int .i64 size, .int .i64 objects, .int .i64 cap, .int .u64 first, .slice (some ⟨b, off, none⟩) ds.length c] 80)) := EW.out.keep BX.out
              obtain ⟨d1, d2⟩ := blk BD.out
              obtain ⟨a1, a2⟩ := blk BA.out
              obtain ⟨b1, b2⟩ := blk BSq.out
              go_upto_region 42 with fail
              have EX : Hid (Ext wr (wq.setCell ⟨wr.heap.size + 1, 0, none⟩ (.int .i64 5))) := EW.out.setCell (by simp) _
              have BXx : Hid ((wq.setCell ⟨wr.heap.size + 1, 0, none⟩ (.int .i64 5)).heap[wr.heap.size + 1]? = some (.cells #[.int .i64 5, .int .u64 dId, .int .i64 dN, .int .u32 0, .slice none 0 0, .int .i64 0] 90)) := setB BA.out _
              have BSx : Hid ((wq.setCell ⟨wr.heap.size + 1, 0, none⟩ (.int .i64 5)).heap[w.heap.size]? = some (.cells #[.int .i64 size, .int .i64 objects, .int .i64 cap, .int .u64 first, .slice (some ⟨b, off, none⟩) ds.length c] 80)) := keepS BSq.out (by have := SLT.out; simp; omega) _
              have BDx : Hid ((wq.setCell ⟨wr.heap.size + 1, 0, none⟩ (.int .i64 5)).heap[wr.heap.size]? = some (.cells #[.int .i64 dk, .int .u32 dO, .int .u64 dId, .int .i64 dN, .int .i64 dI] 86)) := keepS BD.out (by simp) _
              have SZx : Hid (wr.heap.size + 2 ≤ (wq.setCell ⟨wr.heap.size + 1, 0, none⟩ (.int .i64 5)).heap.size) := by have := SZ.out; show _ ≤ _; simpa using this
              have RN := Lib.hid (Tick35 (t2h.out.keep EX.out) (SPW.out.kept EX.out spp) HTN.out HGN.out R2h.out dId dN 0 DOK.out.n0 DOK.out.n1)
              clear d1 d2 a1 a2 b1 b2 EW BA BSq BD
              generalize (wq.setCell ⟨wr.heap.size + 1, 0, none⟩ (.int .i64 5)) = wx at *
              obtain ⟨d1, d2⟩ := blk BDx.out
              obtain ⟨a1, a2⟩ := blk BXx.out
              obtain ⟨b1, b2⟩ := blk BSx.out
              go_upto_region 43 with (go_at_call 35; refine RN.out.mono ?_; rintro e w5 ⟨v5, ids, err, rfl, hrow, hil, hr⟩; obtain ⟨adI, cI, rfl, _⟩ := own_any hrow; have HR := Lib.hid hr; have HROW := Lib.hid hrow; have HIL := Lib.hid hil; have BA5 := Lib.hid (hr.mod.keep BXx.out (fun hx => by have := NM.out _ hx; omega)); have BS5 := Lib.hid (hr.mod.keep BSx.out NS.out); obtain ⟨x1, x2⟩ := blk BA5.out; clear hr hrow hil d1 d2 a1 a2 b1 b2 BDx BXx BSx RN)
              have TM := Lib.hid (TT.out.done HBL.out HTB.out EX.out HR.out (S := [wr.heap.size + 1]) ((mod_setCell w5 ⟨wr.heap.size + 1, 4, none⟩ (.slice adI ids.length cI)).trans (mod_setCell (w5.setCell ⟨wr.heap.size + 1, 4, none⟩ (.slice adI ids.length cI)) ⟨wr.heap.size + 1, 5, none⟩ (.int .i64 err))) (by intro x hx; simp at hx; omega))
              have BZ : Hid (((w5.setCell ⟨wr.heap.size + 1, 4, none⟩ (.slice adI ids.length cI)).setCell ⟨wr.heap.size + 1, 5, none⟩ (.int .i64 err)).heap[wr.heap.size + 1]? = some (.cells #[.int .i64 5, .int .u64 dId, .int .i64 dN, .int .u32 0, .slice adI ids.length cI, .int .i64 err] 90)) := (setB (setB BA5.out (.slice adI ids.length cI)) (.int .i64 err))
              have BSz : Hid (((w5.setCell ⟨wr.heap.size + 1, 4, none⟩ (.slice adI ids.length cI)).setCell ⟨wr.heap.size + 1, 5, none⟩ (.int .i64 err)).heap[w.heap.size]? = some (.cells #[.int .i64 size, .int .i64 objects, .int .i64 cap, .int .u64 first, .slice (some ⟨b, off, none⟩) ds.length c] 80)) := (keepS (keepS BS5.out (by have := SLT.out; simp; omega) (.slice adI ids.length cI)) (by have := SLT.out; simp; omega) (.int .i64 err))
              have ESZ : Hid (wr.heap.size ≤ ((w5.setCell ⟨wr.heap.size + 1, 4, none⟩ (.slice adI ids.length cI)).setCell ⟨wr.heap.size + 1, 5, none⟩ (.int .i64 err)).heap.size) := by have := EX.out.size; have := HR.out.mod.size; show _ ≤ _; simp; omega
              have EO : Hid (EntOK ((w5.setCell ⟨wr.heap.size + 1, 4, none⟩ (.slice adI ids.length cI)).setCell ⟨wr.heap.size + 1, 5, none⟩ (.int .i64 err)) (w.heap.size + 1) tb L ((⟨5, dId, dN, 0, ids, err⟩, adI, cI) : Ent)) := by
                obtain ⟨ad9, c9, h9, h8⟩ := EntOK.tick (S := [wr.heap.size + 1]) 5 dId dN 0 err HBL.out HTB.out (base := w.heap.size + 1) (by have := SLT.out; omega) SZx.out HROW.out HIL.out ((mod_setCell w5 ⟨wr.heap.size + 1, 4, none⟩ (.slice adI ids.length cI)).trans (mod_setCell (w5.setCell ⟨wr.heap.size + 1, 4, none⟩ (.slice adI ids.length cI)) ⟨wr.heap.size + 1, 5, none⟩ (.int .i64 err))) (by intro x hx; simp at hx; omega) DOK.out.i0 DOK.out.i1 (by omega) (by omega)
                simp only [Value.slice.injEq, true_and] at h9
                obtain ⟨rfl, rfl⟩ := h9
                exact h8
              clear HR BA5 BS5 x1 x2 EX
              generalize ((w5.setCell ⟨wr.heap.size + 1, 4, none⟩ (.slice adI ids.length cI)).setCell ⟨wr.heap.size + 1, 5, none⟩ (.int .i64 err)) = wz at *
              obtain ⟨z1, z2⟩ := blk BZ.out
              obtain ⟨i90, hi, hz0, hz1, hz3⟩ := info_parts info90
              have ROW := Lib.hid (TM.out.keep ((Ext.refl wz).alloc (.cells #[.int .i64 5, .int .u64 dId, .int .i64 dN, .int .u32 0, .slice adI ids.length cI, .int .i64 err] 90)))
              have NWR := Lib.hid ((World.ownsRow_lit (base := 0) (e := 90) (size := 6) wz #[.int .i64 5, .int .u64 dId, .int .i64 dN, .int .u32 0, .slice adI ids.length cI, .int .i64 err] 1 (Nat.zero_le _) (by unfold maxLen; omega) rfl).cells rfl)
              have EO2 := Lib.hid (EO.out.turned (L' := L) (w' := wz.alloc (.cells #[.int .i64 5, .int .u64 dId, .int .i64 dN, .int .u32 0, .slice adI ids.length cI, .int .i64 err] 90)) ⟨⟨[], fun x hx => by simp at hx, ((Ext.refl wz).alloc _).mod _⟩, fun x hx => .inl hx⟩)
              have BS2 := Lib.hid (keepB BSz.out (.cells #[.int .i64 5, .int .u64 dId, .int .i64 dN, .int .u32 0, .slice adI ids.length cI, .int .i64 err] 90))
              go_upto_region 16 with (at_builtin; refine wpList_append_own _ rfl _ _ 56 rfl (w.heap.size + 1) 90 i90 (.agg #[.int .i64 0, .int .u64 0, .int .i64 0, .int .u32 0, .slice none 0 0, .int .i64 0]) 6 64 Tryz.underlying56 hi hz0 hz1 hz3 rfl (by decide) _ E.length (entsC E) rfl ROW.out.acts.row ⟨wz.heap.size, 0, none⟩ 1 1 (entC ((⟨5, dId, dN, 0, ids, err⟩, adI, cI) : Ent)) rfl rfl NWR.out (entC_one _) (by have := HDL.out; unfold maxLen; omega) (by have := HDL.out; omega) (by have := SLT.out; have := ESZ.out; simp; omega) ?_; intro v' w3 hown hgrow0 hnil2; have hgrow : World.grownBy _ w3 (Value.slice ad2 E.length c2).ownBlock := hgrow0; obtain ⟨ad3, c3, rfl, _⟩ := own_any hown; have TN := Lib.hid (ROW.out.snoc EO2.out hown hgrow); have BN := Lib.hid (ROW.out.box BS2.out hgrow); clear hown hgrow hgrow0 hnil2)
              have hwr := HWR.out
              go_wp2_with fail
              go_roundw
              case rel => exact ⟨i + 1, E ++ [((⟨5, dId, dN, 0, ids, err⟩, adI, cI) : Ent)], L, ad3, c3, hlt, by go_num, slice_snoc _ _ _ _, len_snoc hEi, HLB.out, TN.out, BN.out⟩
              case measure =>
                simp only [intOf]
                exact meas_next hlt
          · obtain rfl : i = ds.length := by omega
            go_wp2_with fail
            go_meet
            exact ⟨E, L, ad2, c2, rfl, hEi, HLB.out, TT.out, BX.out⟩
      case rest =>
        obtain ⟨E, L, ad2, c2, rfl, hEl, hLb, hT, hB⟩ := hcut
        have TT := Lib.hid hT
        have BX := Lib.hid hB
        obtain ⟨b1, b2⟩ := blk hB
        have HF0 : handF cap first (E.map (·.1)) = (0, 0) := by
          unfold handF
          rw [HBT.out]
          exact hgo_ok _ _ _ hT.ans
        have han := Handles_ok (cap : Int) first ad2 c2 (E.map (·.1)) wc HBT.out f0 f1 hT.acts.acts (by have := HDL.out; simp; omega)
        rw [HF0, List.length_map] at han
        have HAN : Hid (Calls Tryz.prog 17 #[.int .i64 cap, .int .u64 first, .slice ad2 E.length c2] wc fun e w' => e = .returned (.agg #[.int .i64 0, .int .i64 0]) ∧ Ext wc w') := han
        have HEL : Hid (E.length ≤ 1073741824) := by have := HDL.out; show _ ≤ _; omega
        clear han HF0 hT hB hLb hEl
        have key : (((E.length : Nat) : Int) == 0) = true ∨ ((((E.length : Nat) : Int) == 0) = false ∧ 0 < E.length ∧ spoil < 0) ∨ ((((E.length : Nat) : Int) == 0) = false ∧ 0 < E.length ∧ ¬ spoil < 0) := by
          by_cases h1 : E.length = 0
          · left; simp [h1]
          · right
            have h2 : (((E.length : Nat) : Int) == 0) = false := by rw [beq_eq_false_iff_ne]; omega
            by_cases h3 : spoil < 0
            · exact .inl ⟨h2, by omega, h3⟩
            · exact .inr ⟨h2, by omega, h3⟩
        rcases key with k7 | ⟨k7, k8, k9⟩ | ⟨k7, k8, k9⟩
        case inl =>
          go_wp2_with (go_at_call 17; refine HAN.out.mono ?_; rintro e w7 ⟨rfl, hE7⟩; have E7 := Lib.hid hE7; clear hE7)
          go_ret
          exact ⟨rfl, TT.out.ext.trans E7.out⟩
        case inr.inl =>
          go_wp2_with (go_at_call 17; refine HAN.out.mono ?_; rintro e w7 ⟨rfl, hE7⟩; have E7 := Lib.hid hE7; clear hE7)
          go_ret
          exact ⟨rfl, TT.out.ext.trans E7.out⟩
        case inr.inr =>
          have CH : Hid (E.length = E.length ∧ ∃ g cur, ad2 = some ⟨g, 0, none⟩ ∧ w.heap.size + 1 ≤ g ∧ g < wc.heap.size ∧ wc.heap[g]? = some (.cells cur 90 (0, 0)) ∧ ∀ k x, E[k]? = some x → ∀ j u, j < 6 → (entC x)[j]? = some u → wc.cell? ⟨g, k * 6 + j, none⟩ = some u) := TT.out.acts.slot k8
          obtain ⟨_, g, cur, rfl, hg1, hg2, hgb, hgc⟩ := CH.out
          obtain ⟨i, hi, hil⟩ : ∃ i : Nat, spoil % (E.length : Int) = (i : Int) ∧ i < E.length := by
            have h1 := Int.emod_nonneg spoil (b := (E.length : Int)) (by omega)
            have h2 := Int.emod_lt_of_pos spoil (b := (E.length : Int)) (by omega)
            exact ⟨(spoil % (E.length : Int)).toNat, by omega, by omega⟩
          have hil2 : (i : Int) < ((E.length : Nat) : Int) := by omega
          obtain ⟨x, hx⟩ : ∃ x, E[i]? = some x := ⟨E[i], by simp [hil]⟩
          have XOK := Lib.hid (TT.out.acts.all x (List.mem_of_getElem? hx))
          have HX := Lib.hid hx
          have HCC := Lib.hid (hgc i x hx)
          have HGB := Lib.hid hgb
          have HI := Lib.hid hi
          have HK8 := Lib.hid k8
          clear CH hgc hgb hx hi k8
          go_upto_region 49 with (go_at_call 17; refine HAN.out.mono ?_; rintro e w7 ⟨rfl, hE7⟩; have E7 := Lib.hid hE7; clear hE7)
          rw [HI.out]
          obtain ⟨⟨k, id, n, ser, ids, err⟩, adx, cx⟩ := x
          have hg7 : g < w7.heap.size := Nat.lt_of_lt_of_le hg2 E7.out.size
          have e0 : w7.cell? ⟨g, i * 6, none⟩ = some (.int .i64 k) := (E7.out.cell (p := ⟨g, i * 6, none⟩) hg2).trans (HCC.out 0 _ (by omega) rfl)
          have e1 : w7.cell? ⟨g, i * 6 + 1, none⟩ = some (.int .u64 id) := (E7.out.cell (p := ⟨g, i * 6 + 1, none⟩) hg2).trans (HCC.out 1 _ (by omega) rfl)
          have e3 : w7.cell? ⟨g, i * 6 + 3, none⟩ = some (.int .u32 ser) := (E7.out.cell (p := ⟨g, i * 6 + 3, none⟩) hg2).trans (HCC.out 3 _ (by omega) rfl)
          have e4 : w7.cell? ⟨g, i * 6 + 4, none⟩ = some (.slice adx ids.length cx) := (E7.out.cell (p := ⟨g, i * 6 + 4, none⟩) hg2).trans (HCC.out 4 _ (by omega) rfl)
          have e5 : w7.cell? ⟨g, i * 6 + 5, none⟩ = some (.int .i64 err) := (E7.out.cell (p := ⟨g, i * 6 + 5, none⟩) hg2).trans (HCC.out 5 _ (by omega) rfl)
          have BX7 := Lib.hid (E7.out.keep BX.out)
          have GB7 := Lib.hid (E7.out.keep HGB.out)
          have fz := (blk GB7.out).2
          clear b1 b2
          obtain ⟨b1, b2⟩ := blk BX7.out
          clear hg2 HAN
          have key : k = 1 ∨ k = 2 ∨ k = 5 ∨ (k ≠ 1 ∧ k ≠ 2 ∧ k ≠ 5) := by omega
          rcases key with rfl | rfl | rfl | ⟨q1, q2, q5⟩
          case inl =>
            go_upto_region 57 with fail
            have HA2 := Lib.hid (TT.out.audit HBT.out f0 f1 E7.out HX.out rfl (j := 1) (by omega) (v := .int .u64 (IntKind.u64.wrap (id + 1))) (y := (⟨1, (id + 1) % 18446744073709551616, n, ser, ids, err⟩, adx, cx)) rfl (by simp [spoilF]) (XOK.out.idsAt E7.out HGB.out) (XOK.out.len) HEL.out)
            have EZ : Hid (Ext w (w7.setCell ⟨g, i * 6 + 1, none⟩ (.int .u64 (IntKind.u64.wrap (id + 1))))) := (TT.out.ext.trans E7.out).setCell (Nat.le_of_succ_le hg1) _
            have BZ : Hid ((w7.setCell ⟨g, i * 6 + 1, none⟩ (.int .u64 (IntKind.u64.wrap (id + 1)))).heap[w.heap.size]? = some (.cells #[.int .i64 size, .int .i64 objects, .int .i64 cap, .int .u64 first, .slice ad ds.length c] 80)) := keepS BX7.out (by show w.heap.size ≠ g; exact Nat.ne_of_lt hg1) _
            generalize w7.setCell ⟨g, i * 6 + 1, none⟩ (.int .u64 (IntKind.u64.wrap (id + 1))) = wz at *
            clear b1 b2
            obtain ⟨b1, b2⟩ := blk BZ.out
            go_wp2_with (go_at_call 17; refine HA2.out.mono ?_; rintro e w8 ⟨rfl, hE8⟩; have E8 := Lib.hid hE8; clear hE8)
            go_ret
            exact ⟨rfl, (EZ.out.trans E8.out).alloc _⟩
          case inr.inl =>
            go_upto_region 57 with fail
            have HA2 := Lib.hid (TT.out.audit HBT.out f0 f1 E7.out HX.out rfl (j := 3) (by omega) (v := .int .u32 ((ser + 1) % 4294967296)) (y := (⟨2, id, n, (ser + 1) % 4294967296, ids, err⟩, adx, cx)) rfl (by simp [spoilF]) (XOK.out.idsAt E7.out HGB.out) (XOK.out.len) HEL.out)
            have EZ : Hid (Ext w (w7.setCell ⟨g, i * 6 + 3, none⟩ (.int .u32 ((ser + 1) % 4294967296)))) := (TT.out.ext.trans E7.out).setCell (Nat.le_of_succ_le hg1) _
            have BZ : Hid ((w7.setCell ⟨g, i * 6 + 3, none⟩ (.int .u32 ((ser + 1) % 4294967296))).heap[w.heap.size]? = some (.cells #[.int .i64 size, .int .i64 objects, .int .i64 cap, .int .u64 first, .slice ad ds.length c] 80)) := keepS BX7.out (by show w.heap.size ≠ g; exact Nat.ne_of_lt hg1) _
            generalize w7.setCell ⟨g, i * 6 + 3, none⟩ (.int .u32 ((ser + 1) % 4294967296)) = wz at *
            clear b1 b2
            obtain ⟨b1, b2⟩ := blk BZ.out
            go_wp2_with (go_at_call 17; refine HA2.out.mono ?_; rintro e w8 ⟨rfl, hE8⟩; have E8 := Lib.hid hE8; clear hE8)
            go_ret
            exact ⟨rfl, (EZ.out.trans E8.out).alloc _⟩
          case inr.inr.inl =>
            go_upto_region 56 with fail
            obtain ⟨j0, hj, hy0, hy1, hy3⟩ := info_parts Tryz.cinfo55
            have NWR0 := Lib.hid (World.ownsRow_lit (base := w7.heap.size) (e := 55) (size := 1) w7 #[] 0 (Nat.le_refl _) (Nat.zero_le _) rfl)
            have SM := Lib.hid XOK.out.small
            cases adx with
            | none =>
              obtain rfl : ids = [] := by
                cases ids with
                | nil => rfl
                | cons q r => obtain ⟨_, _, h, _⟩ := XOK.out.ids (by simp); cases h
              obtain rfl : cx = 0 := XOK.out.nil rfl
              have NWR1 : Hid (∀ j u, (u64s [7])[j]? = some u → ((w7.alloc (.cells #[] 55)).alloc (.cells #[.int .u64 7] 55)).cell? ((⟨w7.heap.size + 1, 0, none⟩ : Addr).add j) = some u) := by
                have h5 := (World.ownsRow_lit (base := 0) (e := 55) (size := 1) (w7.alloc (.cells #[] 55)) #[.int .u64 7] 1 (Nat.zero_le _) (by unfold maxLen; omega) rfl).cells rfl
                rw [show (w7.alloc (.cells #[] 55)).heap.size = w7.heap.size + 1 by simp] at h5
                exact h5
              go_upto_region 57 with (first | (at_builtin; refine wpList_append_own_none rfl _ _ 88 rfl w7.heap.size 55 j0 1 Tryz.underlying88 hj _ 0 [] rfl NWR0.out rfl ?_) | (at_builtin; (refine wpList_append_own _ rfl _ _ 88 rfl w7.heap.size 55 j0 (.int .u64 0) 1 8 Tryz.underlying88 hj hy0 hy1 hy3 rfl (by decide) _ 0 [] rfl (row_keep NWR0.out ((Ext.refl _).alloc _)) ⟨w7.heap.size + 1, 0, none⟩ 1 1 (u64s [7]) rfl rfl NWR1.out (by intro u hu; simp [u64s] at hu; subst hu; rfl) (by unfold maxLen; omega) (by omega) (by simp; omega) ?_; intro v9 w9 hown hgrow hnil2; obtain ⟨ad9, c9, rfl, _⟩ := own_any hown; have E9 : Hid (Ext w7 w9) := (((Ext.refl w7).alloc _).alloc _).grown (show World.grownBy _ w9 (some w7.heap.size) from hgrow) (fun q hq => Nat.le_of_eq (Option.some.inj hq)); have R9 := Lib.hid hown; have e49 := (E9.out.cell (p := ⟨g, i * 6 + 4, none⟩) hg7).trans e4; have fz9 := (blk (E9.out.keep GB7.out)).2; clear hown hgrow hnil2)))
              have ED := Lib.hid (TT.out.audit HBT.out f0 f1 (E7.out.trans E9.out) HX.out rfl (j := 4) (by omega) (v := .slice ad9 1 c9) (y := (⟨5, id, n, ser, [] ++ [7], err⟩, ad9, c9)) (by simp [entC]) (by simp [spoilF]) (ids_of_row R9.out hg7) (by simp) HEL.out)
              have EZ : Hid (Ext w (w9.setCell ⟨g, i * 6 + 4, none⟩ (.slice ad9 1 c9))) := ((TT.out.ext.trans E7.out).trans E9.out).setCell (Nat.le_of_succ_le hg1) _
              have BZ : Hid ((w9.setCell ⟨g, i * 6 + 4, none⟩ (.slice ad9 1 c9)).heap[w.heap.size]? = some (.cells #[.int .i64 size, .int .i64 objects, .int .i64 cap, .int .u64 first, .slice ad ds.length c] 80)) := keepS (E9.out.keep BX7.out) (by show w.heap.size ≠ g; exact Nat.ne_of_lt hg1) _
              generalize w9.setCell ⟨g, i * 6 + 4, none⟩ (.slice ad9 1 c9) = wz at *
              clear b1 b2
              obtain ⟨b1, b2⟩ := blk BZ.out
              go_wp2_with (go_at_call 17; refine ED.out.mono ?_; rintro e w8 ⟨rfl, hE8⟩; have E8 := Lib.hid hE8; clear hE8)
              go_ret
              exact ⟨rfl, (EZ.out.trans E8.out).alloc _⟩
            | some a =>
              have NWS : Hid (∀ W : World, ∀ j u, (u64s [7])[j]? = some u → (W.alloc (.cells #[.int .u64 7] 55)).cell? ((⟨W.heap.size, 0, none⟩ : Addr).add j) = some u) := fun W => (World.ownsRow_lit (base := 0) (e := 55) (size := 1) W #[.int .u64 7] 1 (Nat.zero_le _) (by unfold maxLen; omega) rfl).cells rfl
              have RD := Lib.hid (XOK.out.read (E7.out.alloc (.cells #[] 55)) (a := a) rfl)
              have hsm : ids.length ≤ 256 := SM.out
              have u1 : ∀ l : List Int, ∀ u, u ∈ u64s l → u.oneCell' = true := by intro l u hu; simp only [u64s, List.mem_map] at hu; obtain ⟨q, _, rfl⟩ := hu; rfl
              have U1 := Lib.hid u1
              clear u1
              go_upto_region 57 with (first | (at_builtin; (refine wpList_append_own _ rfl _ _ 88 rfl w7.heap.size 55 j0 (.int .u64 0) 1 8 Tryz.underlying88 hj hy0 hy1 hy3 rfl (by decide) _ 0 [] rfl NWR0.out a ids.length cx (u64s ids) rfl (by simp [u64s]) RD.out (U1.out _) (by unfold maxLen; omega) (by omega) (by simp) ?_; intro v8 w8 hown hgrow hnil2; have E8 : Hid (Ext w7 w8) := ((Ext.refl w7).alloc _).grown (show World.grownBy _ w8 (some w7.heap.size) from hgrow) (fun q hq => Nat.le_of_eq (Option.some.inj hq)); rw [Nat.zero_add] at hown; obtain ⟨ad8, c8, rfl, _⟩ := own_any hown; have R8 := Lib.hid hown; have S8 := Lib.hid E8.out.size; clear hown hgrow hnil2)) | (at_builtin; (refine wpList_append_own _ rfl _ _ 88 rfl w7.heap.size 55 j0 (.int .u64 0) 1 8 Tryz.underlying88 hj hy0 hy1 hy3 rfl (by decide) _ ids.length ([] ++ u64s ids) rfl (row_keep R8.out ((Ext.refl _).alloc _)) ⟨w8.heap.size, 0, none⟩ 1 1 (u64s [7]) rfl rfl (NWS.out w8) (U1.out _) (by unfold maxLen; omega) (by omega) (by have := S8.out; simp; omega) ?_; intro v9 w9 hown hgrow hnil2; obtain ⟨ad9, c9, rfl, _⟩ := own_any hown; have E9 : Hid (Ext w7 w9) := (E8.out.alloc _).grown (show World.grownBy _ w9 (Value.slice ad8 ids.length c8).ownBlock from hgrow) (fun q hq => (R8.out.lt q hq).1); have R9 := Lib.hid hown; have e49 := (E9.out.cell (p := ⟨g, i * 6 + 4, none⟩) hg7).trans e4; have fz9 := (blk (E9.out.keep GB7.out)).2; clear hown hgrow hnil2)))
              have ED := Lib.hid (TT.out.audit HBT.out f0 f1 (E7.out.trans E9.out) HX.out rfl (j := 4) (by omega) (v := .slice ad9 (ids.length + 1) c9) (y := (⟨5, id, n, ser, ids ++ [7], err⟩, ad9, c9)) (by simp [entC]) (by simp [spoilF]) (ids_of_row (by simpa [u64s] using R9.out) hg7) (by have := SM.out; simp at this ⊢; omega) HEL.out)
              have EZ : Hid (Ext w (w9.setCell ⟨g, i * 6 + 4, none⟩ (.slice ad9 (ids.length + 1) c9))) := ((TT.out.ext.trans E7.out).trans E9.out).setCell (Nat.le_of_succ_le hg1) _
              have BZ : Hid ((w9.setCell ⟨g, i * 6 + 4, none⟩ (.slice ad9 (ids.length + 1) c9)).heap[w.heap.size]? = some (.cells #[.int .i64 size, .int .i64 objects, .int .i64 cap, .int .u64 first, .slice ad ds.length c] 80)) := keepS (E9.out.keep BX7.out) (by show w.heap.size ≠ g; exact Nat.ne_of_lt hg1) _
              generalize w9.setCell ⟨g, i * 6 + 4, none⟩ (.slice ad9 (ids.length + 1) c9) = wz at *
              clear b1 b2
              obtain ⟨b1, b2⟩ := blk BZ.out
              go_wp2_with (go_at_call 17; refine ED.out.mono ?_; rintro e w8 ⟨rfl, hE8⟩; have E8 := Lib.hid hE8; clear hE8)
              go_ret
              exact ⟨rfl, (EZ.out.trans E8.out).alloc _⟩
          case inr.inr.inr =>
            have HQ : Hid (k ≠ 1 ∧ k ≠ 2 ∧ k ≠ 5) := ⟨q1, q2, q5⟩
            have HW : Hid (wrap64 (err + 1) = err + 1) := wrap_small (act_err_small HX.out TT.out.ans q1 q2 q5)
            have q1b : (k == 1) = false := by rw [beq_eq_false_iff_ne]; exact q1
            have q2b : (k == 2) = false := by rw [beq_eq_false_iff_ne]; exact q2
            have q5b : (k == 5) = false := by rw [beq_eq_false_iff_ne]; exact q5
            clear q1 q2 q5
            go_upto_region 57 with fail
            rw [HW.out]
            have HA2 := Lib.hid (TT.out.audit HBT.out f0 f1 E7.out HX.out rfl (j := 5) (by omega) (v := .int .i64 (err + 1)) (y := (⟨k, id, n, ser, ids, err + 1⟩, adx, cx)) rfl (by have := HQ.out; simp [spoilF, this.1, this.2.1, this.2.2]) (XOK.out.idsAt E7.out HGB.out) (XOK.out.len) HEL.out)
            have EZ : Hid (Ext w (w7.setCell ⟨g, i * 6 + 5, none⟩ (.int .i64 (err + 1)))) := (TT.out.ext.trans E7.out).setCell (Nat.le_of_succ_le hg1) _
            have BZ : Hid ((w7.setCell ⟨g, i * 6 + 5, none⟩ (.int .i64 (err + 1))).heap[w.heap.size]? = some (.cells #[.int .i64 size, .int .i64 objects, .int .i64 cap, .int .u64 first, .slice ad ds.length c] 80)) := keepS BX7.out (by show w.heap.size ≠ g; exact Nat.ne_of_lt hg1) _
            generalize w7.setCell ⟨g, i * 6 + 5, none⟩ (.int .i64 (err + 1)) = wz at *
            clear b1 b2
            obtain ⟨b1, b2⟩ := blk BZ.out
            go_wp2_with (go_at_call 17; refine HA2.out.mono ?_; rintro e w8 ⟨rfl, hE8⟩; have E8 := Lib.hid hE8; clear hE8)
            go_ret
            exact ⟨rfl, (EZ.out.trans E8.out).alloc _⟩
end Go.Proofs.Eff
