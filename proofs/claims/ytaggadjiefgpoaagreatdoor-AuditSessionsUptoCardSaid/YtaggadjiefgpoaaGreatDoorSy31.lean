/- wire.PutReply. -/
import Derived.Test.YtaggadjiefgpoaaGreatDoorSy30
import Derived.Deep.AppendLies
import Derived.Deep.RegionLaw
import Derived.Deep.CutBlock
import Derived.Deep.DeepCutAuto
namespace Go.Proofs.Eff
open Go.RowKit

theorem RowTo.mono {w w' : World} {base b n : Nat} {v : Value} (h : RowTo w w' base v n) (hb : b ≤ base) : RowTo w w' b v n := by
  obtain ⟨⟨xs, h1, h2⟩, h3, h4⟩ := h
  refine ⟨⟨xs, h1, ?_⟩, Below.mono h3 hb, h4⟩
  rcases h2 with h2 | ⟨g, c, cur, a1, a2, a3⟩
  · exact .inl h2
  · exact .inr ⟨g, c, cur, a1, Nat.le_trans hb a2, a3⟩
theorem own_zero {w : World} {base n : Nat} {v : Value} {xs : List Value} (h : w.ownsRow base 5 1 v n xs) : w.ownsRow 0 5 1 v n xs := by
  obtain ⟨h1, h2⟩ := h
  refine ⟨h1, ?_⟩
  rcases h2 with h2 | ⟨g, c, cur, a1, _, a3⟩
  · exact .inl h2
  · exact .inr ⟨g, c, cur, a1, Nat.zero_le _, a3⟩
theorem news_old {W w3 : World} {k : Nat} {x : Value} (hb : W.heap[k]? = some (.cells #[x] 5)) (hx : Ext W w3) : ∀ j u, [x][j]? = some u → w3.cell? ((⟨k, 0, none⟩ : Addr).add j) = some u := by
  intro j u hj
  cases j with
  | zero =>
    simp only [List.getElem?_cons_zero, Option.some.injEq] at hj
    subst hj
    exact (blk (hx.keep hb)).1 0
  | succ j => simp at hj
theorem one_one (x : Int) : ∀ u, u ∈ [Value.int .u8 x] → u.oneCell' = true := by intro u hu; simp at hu; subst hu; rfl
theorem own_low {w : World} {base b n : Nat} {v : Value} {xs : List Value} (h : w.ownsRow base 5 1 v n xs) (hb : b ≤ base) : w.ownsRow b 5 1 v n xs := by
  obtain ⟨h1, h2⟩ := h
  refine ⟨h1, ?_⟩
  rcases h2 with h2 | ⟨g, c, cur, a1, a2, a3⟩
  · exact .inl h2
  · exact .inr ⟨g, c, cur, a1, Nat.le_trans hb a2, a3⟩
theorem own_nil (w : World) (base : Nat) : w.ownsRow base 5 1 (.slice none 0 0) 0 [] := ⟨rfl, .inl ⟨rfl, rfl⟩⟩
set_option maxRecDepth 100000 in
set_option maxHeartbeats 16000000 in
theorem PutReply207 {w : World} (err : Int) {vb : Nat} (a : Option Addr) (n c : Nat) (vs : List (Int × Int)) (s : ByteArray) (hv : ValsAt w vb (.slice a n c) vs) (hvn : vs.length = n) (hn : n ≤ 32) (hs : s.size ≤ 512) (e0 : -9223372036854775808 ≤ err) (e1 : err < 9223372036854775808) :
    Calls Tryz.prog 207 #[.agg #[.int .i64 err, .slice a n c, .string s]] w fun e w' => ∃ v er, e = .returned (.tuple #[v, .int .i64 er]) ∧ Ext w w' ∧ (er = 0 ↔ plen err vs s.size ≤ 1024) := by
  have HV := Lib.hid hv
  have HVN := Lib.hid hvn
  have PL : Hid (plen err vs s.size = clen (zig err) + 1 + vlen vs + clen (s.size : Int) + s.size) := rfl
  clear hv hvn
  have BX : Hid ((w.alloc (.cells #[.int .i64 err, .slice a n c, .string s] 262)).heap[w.heap.size]? = some (.cells #[.int .i64 err, .slice a n c, .string s] 262)) := newB w _ _ rfl
  go_enter Tryz.func207, Tryz.ntmps207
  go_wp2_with fail
  have EW := Lib.hid ((Ext.refl w).alloc (.cells #[.int .i64 err, .slice a n c, .string s] 262))
  have HSZ : Hid (w.heap.size < (w.alloc (.cells #[.int .i64 err, .slice a n c, .string s] 262)).heap.size) := lt_of_block BX.out
  obtain ⟨z0, z1⟩ := zig_in e0 e1
  have HZ := Lib.hid (fun W => zigzag210 W err e0 e1)
  generalize zig err = z at *
  generalize w.alloc (.cells #[.int .i64 err, .slice a n c, .string s] 262) = w1 at *
  obtain ⟨b1, b2⟩ := blk BX.out
  have bl : w.heap.size < w1.heap.size := HSZ.out
  obtain ⟨i5, hi, hz0, hz1, hz3⟩ := info_parts Tryz.cinfo5
  have CL : Hid (clen z ≤ 10) := clenG_le 9 z
  have CLM : Hid (clen z + 1 ≤ maxLen) := by have := CL.out; show _ ≤ _; unfold maxLen; omega
  have CLB : Hid ((clen z + 1) * 1 ≤ 140737488355328) := by have := CL.out; show _ ≤ _; omega
  have ONE : Hid (1 ≤ maxLen) := by show _ ≤ _; unfold maxLen; omega
  go_cut [4] from 17 to 27 (fun s4 wc => ∃ g c, s4 = .slice (some ⟨g, 0, none⟩) (clen z + 1) c ∧ RowTo w1 wc w1.heap.size s4 (clen z + 1))
  case first =>
    go_region_law (first
      | (go_simp; go_at_call 210; refine (HZ.out _).mono ?_; rintro e w2 ⟨rfl, rfl⟩)
      | (go_simp; go_at_call 209; refine (counts209 (n := 0) (xs := []) (vb := .slice none 0 0) (own_nil _ _) (Nat.le_refl _) ?hk z0 z1 (by omega)).mono ?_; (case hk => first | exact newB _ _ _ rfl | exact keepB (newB _ _ _ rfl) _ | (refine newB _ _ _ ?_; simp; done) | (refine keepB (newB _ _ _ ?_) _; simp; done)); rintro e w3 ⟨v3, rfl, R3⟩; rw [Nat.zero_add] at R3; obtain ⟨m1, m2⟩ := blk (R3.keep _ _ (Ext.keep (by repeat' (first | exact Ext.refl _ | refine Ext.drew ?_ | refine Ext.alloc ?_ _)) BX.out) (by intro cs fz h; cases h)); have X3 : Hid (Ext w1 w3) := (by refine Ext.trans ?_ R3.below; repeat' (first | exact Ext.refl _ | refine Ext.drew ?_ | refine Ext.alloc ?_ _)); obtain ⟨xs3, hrow3⟩ := R3.row; obtain ⟨ad3, c3, rfl, _⟩ := own_any hrow3; have HR3 := Lib.hid (own_low (b := w1.heap.size) hrow3 (by first | (simp; done) | (simp; omega))); have WW3 := Lib.hid (show Ext _ w3 from Ext.trans ((Ext.refl _).drew) R3.below))
      | ((refine step_append_lies _ rfl _ _ _ rfl w1.heap.size 5 i5 _ 1 1 Tryz.underlying37 hi hz0 hz1 hz3 rfl Nat.zero_lt_one (.slice ad3 (clen z) c3) (clen z) xs3 ?hs ?hrow ⟨w3.heap.size, 0, none⟩ 1 1 [.int .u8 (IntKind.u8.wrap n)] ?hx rfl ?hnews (one_one _) Nat.zero_lt_one CLM.out CLB.out ?hb _ rfl ?_; (case hs => simp [Act.eval]); (case hx => simp [Act.eval]); (case hrow => exact row_keep HR3.out ((Ext.refl _).alloc _)); (case hnews => exact (World.ownsRow_lit (base := 0) (e := 5) (size := 1) w3 #[.int .u8 (IntKind.u8.wrap n)] 1 (Nat.zero_le _) ONE.out rfl).cells rfl); (case hb => exact Nat.le_trans X3.out.size (((Ext.refl w3).alloc _).size)); intro g1 q1 w4 hown hgrow hat hlt3; have DONE := Lib.hid (RowTo.grow (w := w1) (row_keep HR3.out ((Ext.refl w3).alloc _)) (X3.out.alloc _) (Nat.le_refl _) hown hgrow)))
      | ((refine step_append_lies _ rfl _ _ _ rfl w1.heap.size 5 i5 _ 1 1 Tryz.underlying37 hi hz0 hz1 hz3 rfl Nat.zero_lt_one (.slice ad3 (clen z) c3) (clen z) xs3 ?hs ?hrow ⟨w1.heap.size, 0, none⟩ 1 1 [.int .u8 (IntKind.u8.wrap n)] ?hx rfl ?hnews (one_one _) Nat.zero_lt_one CLM.out CLB.out ?hb _ rfl ?_; (case hs => simp [Act.eval]); (case hx => simp [Act.eval]); (case hrow => exact HR3.out); (case hnews => first | (refine news_old (newB _ _ _ ?_) WW3.out; simp; done) | (refine news_old (keepB (newB _ _ _ ?_) _) WW3.out; simp; done)); (case hb => exact X3.out.size); intro g1 q1 w4 hown hgrow hat hlt3; have DONE := Lib.hid (RowTo.grow (w := w1) (HR3.out) X3.out (Nat.le_refl _) hown hgrow)))
      | ((refine step_append_lies _ rfl _ _ _ rfl w1.heap.size 5 i5 _ 1 1 Tryz.underlying37 hi hz0 hz1 hz3 rfl Nat.zero_lt_one (.slice ad3 (clen z) c3) (clen z) xs3 ?hs ?hrow ⟨w1.heap.size + 1, 0, none⟩ 1 1 [.int .u8 (IntKind.u8.wrap n)] ?hx rfl ?hnews (one_one _) Nat.zero_lt_one CLM.out CLB.out ?hb _ rfl ?_; (case hs => simp [Act.eval]); (case hx => simp [Act.eval]); (case hrow => exact HR3.out); (case hnews => first | (refine news_old (newB _ _ _ ?_) WW3.out; simp; done) | (refine news_old (keepB (newB _ _ _ ?_) _) WW3.out; simp; done)); (case hb => exact X3.out.size); intro g1 q1 w4 hown hgrow hat hlt3; have DONE := Lib.hid (RowTo.grow (w := w1) (HR3.out) X3.out (Nat.le_refl _) hown hgrow)))
      | fail)
    all_goals (go_wp2; go_meet; exact ⟨g1, q1, rfl, DONE.out⟩)
  case rest =>
    obtain ⟨g, c4, rfl, hR⟩ := hcut
    have HR := Lib.hid hR
    obtain ⟨m1, m2⟩ := blk (hR.keep _ _ BX.out (by intro cs fz h; cases h))
    clear hR b1 b2
    go_wp2_with fail
    go_loopw [31, 4] (fun i b wr => ∃ (k : Nat) (ad : Option Addr) (cc : Nat), k ≤ n ∧ i = .int .i64 k ∧ b = .slice ad (clen z + 1 + vlen (vs.take k)) cc ∧ RowTo w1 wr w1.heap.size b (clen z + 1 + vlen (vs.take k))) (fun i _ _ => n - (intOf i).toNat)
    case atStart => exact ⟨0, _, _, by omega, rfl, rfl, HR.out⟩
    case round =>
      obtain ⟨k, ad, cc, hk, rfl, rfl, hR⟩ := hrel
      have RB := Lib.hid hR
      obtain ⟨m1, m2⟩ := blk (hR.keep _ _ BX.out (by intro cs fz h; cases h))
      clear hR
      have VL : Hid (vlen (vs.take k) ≤ 640) := by have h1 := vlen_le (vs.take k); have := HVN.out; show _ ≤ _; rw [List.length_take] at h1; omega
      by_cases hlt : k < n
      · obtain ⟨x, hx⟩ : ∃ x, vs[k]? = some x := ⟨vs[k]'(by have := HVN.out; omega), by simp [HVN.out, hlt]⟩
        have VT := Lib.hid (vlen_take hx)
        have VO := Lib.hid (HV.out.ok x (List.mem_of_getElem? hx))
        obtain ⟨gv, ha, hg, v1, v2⟩ := HV.out.at hx
        obtain ⟨h, nn⟩ := x
        subst ha
        have ER : Hid (Ext w wr) := EW.out.trans RB.out.below
        have cv1 : wr.cell? ⟨gv, k * 2, none⟩ = some (.int .u64 h) := (ER.out.cell (p := ⟨gv, k * 2, none⟩) hg).trans v1
        have cv2 : wr.cell? ⟨gv, k * 2 + 1, none⟩ = some (.int .i64 nn) := (ER.out.cell (p := ⟨gv, k * 2 + 1, none⟩) hg).trans v2
        have hgw : gv < wr.heap.size := Nat.lt_of_lt_of_le hg ER.out.size
        have S1 : Hid (w1.heap.size ≤ wr.heap.size) := Below.size RB.out.below
        have bwr : w.heap.size < wr.heap.size := Nat.lt_of_lt_of_le bl S1.out
        obtain ⟨⟨ho0, ho1⟩, ⟨hp0, hp1⟩, hq⟩ := VO.out
        obtain ⟨zz0, zz1⟩ := zig_in hp0 hp1
        obtain ⟨xs, hrow⟩ := RB.out.row
        have LB : Hid (clen z + 1 + vlen (vs.take k) ≤ 1000) := by have h1 := CL.out; have h2 := VL.out; show _ ≤ _; omega
        have HQ := Lib.hid hq
        have CN1 : Hid (∀ W kk, Ext wr W → W.heap[kk]? = some (.cells #[.int .u64 h] 55) → Calls Tryz.prog 209 #[.slice ad (clen z + 1 + vlen (vs.take k)) cc, .slice (some ⟨kk, 0, none⟩) 1 1] W fun e w' => ∃ v', e = .returned v' ∧ RowTo W w' w1.heap.size v' (clen z + 1 + vlen (vs.take k) + clen h)) := fun W kk hE hk =>
          counts209 (row_keep hrow hE) (Nat.le_trans S1.out hE.size) hk ho0 ho1 (by have := LB.out; omega)
        have C2 : Hid (clen h ≤ 10) := clenG_le 9 h
        have ZN := Lib.hid (fun W => zigzag210 W nn hp0 hp1)
        have VTL : Hid (clen z + 1 + vlen (vs.take (k + 1)) = (clen z + 1 + vlen (vs.take k)) + clen h + (if h = 0 then clen (zig nn) else 0)) := by show _ = _; have h7 := VT.out; dsimp only at h7; omega
        generalize zig nn = zn at *
        generalize clen z + 1 + vlen (vs.take k) = LL at *
        have KX : Hid (∀ W, Ext wr W → RowTo w1 W w1.heap.size (.slice ad LL cc) LL) := fun W hE => RB.out.trans (RowTo.start hrow hE S1.out)
        clear hq v1 v2 hrow
        have HX := Lib.hid hx
        clear hx
        by_cases h0 : h = 0
        · have h0b : (h == 0) = true := by simp [h0]
          have VT2 : Hid (clen z + 1 + vlen (vs.take (k + 1)) = LL + clen h + clen zn) := VTL.out.trans (by rw [if_pos h0])
          clear h0
          go_upto_region 6 with fail
          go_upto_region 7 with fail
          have BV := Lib.hid (newB wr (.cells #[.int .u64 h, .int .i64 nn] 298) _ rfl)
          have EV := Lib.hid ((Ext.refl wr).alloc (.cells #[.int .u64 h, .int .i64 nn] 298))
          have SV : Hid (wr.heap.size < (wr.alloc (.cells #[.int .u64 h, .int .i64 nn] 298)).heap.size) := lt_of_block BV.out
          generalize wr.alloc (.cells #[.int .u64 h, .int .i64 nn] 298) = wv at *
          obtain ⟨p1, p2⟩ := blk BV.out
          clear cv1 cv2
          go_upto_region 8 with (go_at_call 209; (refine (CN1.out _ _ (EV.out.alloc _) (newB _ _ _ (by simp))).mono ?_; rintro e w3 ⟨v3, rfl, R3⟩; obtain ⟨q1, q2⟩ := blk (R3.keep _ _ (keepB BV.out _) (by intro cs fz h; cases h)); obtain ⟨xs3, hrow3⟩ := R3.row; obtain ⟨ad3, c3, rfl, _⟩ := own_any hrow3; have BV3 := Lib.hid (R3.keep _ _ (keepB BV.out _) (by intro cs fz h; cases h)); have R3h := Lib.hid ((KX.out _ (EV.out.alloc _)).trans R3); have H3 := Lib.hid hrow3; clear R3 hrow3))
          have S3 : Hid (w1.heap.size ≤ w3.heap.size) := Below.size R3h.out.below
          have CN2 : Hid (∀ kk, (w3.alloc (.cells #[.int .u64 zn] 55)).heap[kk]? = some (.cells #[.int .u64 zn] 55) → Calls Tryz.prog 209 #[.slice ad3 (LL + clen h) c3, .slice (some ⟨kk, 0, none⟩) 1 1] (w3.alloc (.cells #[.int .u64 zn] 55)) fun e w' => ∃ v', e = .returned v' ∧ RowTo (w3.alloc (.cells #[.int .u64 zn] 55)) w' w1.heap.size v' (LL + clen h + clen zn)) := fun kk hk =>
            counts209 (row_keep H3.out ((Ext.refl w3).alloc _)) (Nat.le_trans S3.out ((Ext.refl w3).alloc _).size) hk zz0 zz1 (by have := LB.out; have := C2.out; omega)
          have KY : Hid (RowTo w1 (w3.alloc (.cells #[.int .u64 zn] 55)) w1.heap.size (.slice ad3 (LL + clen h) c3) (LL + clen h)) := R3h.out.trans (RowTo.start H3.out ((Ext.refl w3).alloc _) S3.out)
          go_wp2_with (first
            | (go_at_call 210; refine (ZN.out _).mono ?_; rintro e w4 ⟨rfl, rfl⟩)
            | (go_at_call 209; (refine (CN2.out _ (newB _ _ _ (by simp))).mono ?_; rintro e w5 ⟨v5, rfl, R5⟩; have R5h := Lib.hid (KY.out.trans R5); obtain ⟨xs5, hrow5⟩ := R5.row; obtain ⟨ad5, c5, rfl, _⟩ := own_any hrow5; clear R5 hrow5)))
          exact ⟨⟨k + 1, ad5, c5, by omega, by go_num, by rw [VT2.out], by rw [VT2.out]; exact R5h.out⟩, by simp [intOf]; omega⟩
        · have h0b : (h == 0) = false := by simp [h0]
          have VT2 : Hid (clen z + 1 + vlen (vs.take (k + 1)) = LL + clen h) := VTL.out.trans (by rw [if_neg h0]; omega)
          have hn0 : nn = 0 := HQ.out h0
          subst hn0
          clear h0
          go_upto_region 6 with fail
          go_upto_region 7 with fail
          have BV := Lib.hid (newB wr (.cells #[.int .u64 h, .int .i64 0] 298) _ rfl)
          have EV := Lib.hid ((Ext.refl wr).alloc (.cells #[.int .u64 h, .int .i64 0] 298))
          have SV : Hid (wr.heap.size < (wr.alloc (.cells #[.int .u64 h, .int .i64 0] 298)).heap.size) := lt_of_block BV.out
          generalize wr.alloc (.cells #[.int .u64 h, .int .i64 0] 298) = wv at *
          obtain ⟨p1, p2⟩ := blk BV.out
          clear cv1 cv2
          go_upto_region 8 with (go_at_call 209; (refine (CN1.out _ _ (EV.out.alloc _) (newB _ _ _ (by simp))).mono ?_; rintro e w3 ⟨v3, rfl, R3⟩; obtain ⟨q1, q2⟩ := blk (R3.keep _ _ (keepB BV.out _) (by intro cs fz h; cases h)); obtain ⟨xs3, hrow3⟩ := R3.row; obtain ⟨ad3, c3, rfl, _⟩ := own_any hrow3; have BV3 := Lib.hid (R3.keep _ _ (keepB BV.out _) (by intro cs fz h; cases h)); have R3h := Lib.hid ((KX.out _ (EV.out.alloc _)).trans R3); have H3 := Lib.hid hrow3; clear R3 hrow3))
          go_wp2_with fail
          exact ⟨⟨k + 1, ad3, c3, by omega, by go_num, by rw [VT2.out], by rw [VT2.out]; exact R3h.out⟩, by simp [intOf]; omega⟩
      · obtain rfl : k = n := by omega
        have hvt : vs.take k = vs := by have := HVN.out; rw [← this]; exact List.take_length
        generalize vs.take k = tk at *
        subst hvt
        have VL2 : Hid (clen z + 1 + vlen tk ≤ 1000) := by have h1 := CL.out; have h2 := VL.out; show _ ≤ _; omega
        have TL : Hid (clen (s.size : Int) ≤ 10) := clenG_le 9 _
        have S1 : Hid (w1.heap.size ≤ wr.heap.size) := Below.size RB.out.below
        obtain ⟨xs, hrow⟩ := RB.out.row
        have HROW := Lib.hid hrow
        have s64 : IntKind.u64.wrap (s.size : Int) = s.size := wrap_u64_in (by omega) (by omega)
        have CN1 : Hid (∀ W kk, Ext wr W → W.heap[kk]? = some (.cells #[.int .u64 (s.size : Int)] 55) → Calls Tryz.prog 209 #[.slice ad (clen z + 1 + vlen tk) cc, .slice (some ⟨kk, 0, none⟩) 1 1] W fun e w' => ∃ v', e = .returned v' ∧ RowTo W w' w1.heap.size v' (clen z + 1 + vlen tk + clen (s.size : Int))) := fun W kk hE hk =>
          counts209 (row_keep hrow hE) (Nat.le_trans S1.out hE.size) hk (by omega) (by omega) (by have := VL2.out; omega)
        have BXR := Lib.hid (RB.out.keep _ _ BX.out (by intro cs fz h; cases h))
        have ER : Hid (Ext w wr) := EW.out.trans RB.out.below
        have bwr : w.heap.size < wr.heap.size := Nat.lt_of_lt_of_le bl S1.out
        have SZ : Hid (s.size ≤ 512) := hs
        have HA : Hid (clen z + 1 + vlen tk + clen (s.size : Int) + s.size ≤ maxLen) := by have := VL2.out; have := TL.out; show _ ≤ _; unfold maxLen; omega
        have HB2 : Hid (clen z + 1 + vlen tk + clen (s.size : Int) + s.size ≤ 140737488355328) := by have := VL2.out; have := TL.out; show _ ≤ _; omega
        have PL2 : Hid (plen err tk s.size = clen z + 1 + vlen tk + clen (s.size : Int) + s.size) := PL.out
        generalize clen (s.size : Int) = ts at *
        generalize clen z + 1 + vlen tk = LL at *
        clear hrow hlt VL PL
        go_wp2_with fail
        go_cut [4] from 56 to 64 (fun s4 wc => ∃ (a4 : Option Addr) (c4 : Nat), s4 = .slice a4 (LL + ts + s.size) c4 ∧ Ext w1 wc)
        case first =>
          go_region_law (first
            | (go_simp; go_at_call 209; refine (CN1.out _ _ ?e ?k).mono ?_; (case e => repeat' (first | exact Ext.refl _ | refine Ext.drew ?_ | refine Ext.alloc ?_ _)); (case k => first | exact newB _ _ _ rfl | (refine newB _ _ _ ?_; simp; done)); rintro e w3 ⟨v3, rfl, R3⟩; obtain ⟨q1, q2⟩ := blk (R3.keep _ _ (Ext.keep (by repeat' (first | exact Ext.refl _ | refine Ext.drew ?_ | refine Ext.alloc ?_ _)) BXR.out) (by intro cs fz h; cases h)); have X3 : Hid (Ext w1 w3) := Below.trans (Ext.trans RB.out.below (by repeat' (first | exact Ext.refl _ | refine Ext.drew ?_ | refine Ext.alloc ?_ _))) R3.below; obtain ⟨xs3, hrow3⟩ := R3.row; obtain ⟨ad3, c3, rfl, _⟩ := own_any hrow3; have H3 := Lib.hid hrow3; clear R3 hrow3)
            | ((refine step_append_own_string rfl _ _ 37 9 rfl w1.heap.size 5 i5 Tryz.underlying37 Tryz.underlying9 hi hz0 hz1 hz3 (.slice ad3 (LL + ts) c3) (LL + ts) xs3 ?hs H3.out s ?hx HA.out HB2.out X3.out.size ?_; (case hs => simp [Act.eval]); (case hx => simp [Act.eval]); intro v5 w5 hown hgrow; obtain ⟨ad5, c5, rfl, _⟩ := own_any hown; have DONE := Lib.hid (X3.out.grown hgrow (fun q hq => (H3.out.lt q hq).1)); clear hown hgrow))
            | fail)
          all_goals (go_wp2; go_meet; exact ⟨ad5, c5, rfl, DONE.out⟩)
        case rest =>
          obtain ⟨a4, c4, rfl, hE4⟩ := hcut
          have E4 := Lib.hid (EW.out.trans hE4)
          clear hE4
          go_wp2_with fail
          all_goals
            go_ret2
            refine ⟨_, _, rfl, E4.out, ?_⟩
            rw [PL2.out]
            omega
end Go.Proofs.Eff

/- wire.PutReply, whole. -/
namespace Go.Proofs.Eff
open Go.RowKit

set_option maxRecDepth 100000 in
set_option maxHeartbeats 1000000 in
theorem PutReply207_many {w : World} (err : Int) (a : Option Addr) (n c : Nat) (s : ByteArray) (hn : ¬ n ≤ 32) :
    Calls Tryz.prog 207 #[.agg #[.int .i64 err, .slice a n c, .string s]] w fun e w' => ∃ v, e = .returned (.tuple #[v, .int .i64 173]) ∧ Ext w w' := by
  have EW := Lib.hid ((Ext.refl w).alloc (.cells #[.int .i64 err, .slice a n c, .string s] 262))
  have hn2 : (32 : Int) < (n : Int) := by omega
  go_enter Tryz.func207, Tryz.ntmps207
  go_wp2_with fail
  go_ret2
  exact ⟨_, rfl, EW.out⟩
/-- PutReply's answer: 0 where the reply may be. -/
theorem PutReply207_any {w : World} (err : Int) {vb : Nat} (a : Option Addr) (n c : Nat) (vs : List (Int × Int)) (s : ByteArray) (hv : ValsAt w vb (.slice a n c) vs) (hvn : vs.length = n) (hs : s.size ≤ 512) (e0 : -9223372036854775808 ≤ err) (e1 : err < 9223372036854775808) :
    Calls Tryz.prog 207 #[.agg #[.int .i64 err, .slice a n c, .string s]] w fun e w' => ∃ v er, e = .returned (.tuple #[v, .int .i64 er]) ∧ Ext w w' ∧ (er = 0 ↔ vs.length ≤ 32 ∧ plen err vs s.size ≤ 1024) := by
  by_cases hn : n ≤ 32
  · refine (PutReply207 err a n c vs s hv hvn hn hs e0 e1).mono ?_
    rintro e w' ⟨v, er, rfl, hE, hi⟩
    refine ⟨v, er, rfl, hE, ?_⟩
    rw [hi, hvn]
    simp [hn]
  · refine (PutReply207_many err a n c s hn).mono ?_
    rintro e w' ⟨v, rfl, hE⟩
    refine ⟨v, 173, rfl, hE, ?_⟩
    rw [hvn]
    simp [hn]
end Go.Proofs.Eff
