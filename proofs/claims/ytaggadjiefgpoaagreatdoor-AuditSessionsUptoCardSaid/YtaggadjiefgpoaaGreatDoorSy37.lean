/- The document's Reader.Feed. -/
import Derived.Test.YtaggadjiefgpoaaGreatDoorSy29
import Derived.Test.YtaggadjiefgpoaaGreatDoorSy33
import Derived.Test.YtaggadjiefgpoaaGreatDoorSy36
import Derived.Deep.CutBlock
namespace Go.Proofs.Eff
open Go.RowKit

set_option maxRecDepth 100000 in
set_option maxHeartbeats 8000000 in
theorem Feed101 {w : World} {rb top kc cc : Nat} {ka ca : Option Addr} {kept chunk : List Int} {d : Int} (h : w.heap[rb]? = some (.cells #[.slice ka kept.length kc, .int .i64 d] 208)) (hk : BU w top ka kc kept) (hc : BU w top ca cc chunk) (ht : top ≤ w.heap.size) (hn : kept.length + chunk.length ≤ 1099511627776) :
    Calls Tryz.prog 101 #[.pointer (some ⟨rb, 0, none⟩), .slice ca chunk.length cc] w (FeedR w rb 208 (kept ++ chunk)) := by
  have HB := Lib.hid h
  have HK := Lib.hid hk
  have HC := Lib.hid hc
  have hlt := lt_of_block h
  obtain ⟨b1, b2⟩ := blk h
  clear h hk hc
  go_enter Tryz.func101, Tryz.ntmps101
  go_upto_region 2 with (first
    | (at_builtin; (refine wpList_append_bu rfl _ _ rfl w.heap.size (.slice none 0 0) 0 [] rfl ⟨rfl, .inl ⟨rfl, rfl⟩⟩ HK.out rfl (by omega) (Nat.le_refl _) ?_; intro v1 w1 hown hgrow; rw [Nat.zero_add] at hown; obtain ⟨a1, c1, rfl, _⟩ := own_any hown; have E1 : Hid (Ext w w1) := (Ext.refl w).grown (show World.grownBy _ w1 none from hgrow) (fun q hq => (by cases hq)); have R1 := Lib.hid hown; clear hown hgrow))
    | (at_builtin; (refine wpList_append_bu rfl _ _ rfl w.heap.size (.slice a1 kept.length c1) kept.length ([] ++ u8s kept) rfl R1.out (HC.out.ext E1.out ht) rfl (by omega) E1.out.size ?_; intro v2 w2 hown hgrow; obtain ⟨a2, c2, rfl, _⟩ := own_any hown; have E2 : Hid (Ext w w2) := E1.out.grown hgrow (fun q hq => (R1.out.lt q hq).1); have R2 := Lib.hid hown; obtain ⟨m1, m2⟩ := blk (E2.out.keep HB.out); clear hown hgrow)))
  have LA : Hid ((kept ++ chunk).length = kept.length + chunk.length) := List.length_append
  have UA : Hid (U8s (kept ++ chunk)) := fun x hx => (List.mem_append.1 hx).elim (HK.out.u8 x) (HC.out.u8 x)
  have M3 := Lib.hid ((E2.out.mod [rb]).trans (mod_setCell w2 ⟨rb, 0, none⟩ (.slice a2 (kept.length + chunk.length) c2)))
  have B3 := Lib.hid (setB (E2.out.keep HB.out) (i := 0) (.slice a2 (kept.length + chunk.length) c2))
  have R3 : Hid ((w2.setCell ⟨rb, 0, none⟩ (.slice a2 (kept.length + chunk.length) c2)).ownsRow w.heap.size 5 1 (.slice a2 (kept ++ chunk).length c2) (kept ++ chunk).length (u8s (kept ++ chunk))) := by
    have h7 := (mod_setCell w2 ⟨rb, 0, none⟩ (.slice a2 (kept.length + chunk.length) c2)).row R2.out (fun q hq => by have := (R2.out.lt q hq).1; simp; omega)
    show World.ownsRow _ _ _ _ _ _ _
    rw [LA.out, u8s_append]
    simpa using h7
  have BL : Hid (w.heap.size ≤ w2.heap.size) := E2.out.size
  have I0 : Hid (FeedI w rb w2.heap.size 208 (kept ++ chunk) (kept ++ chunk) (.slice none 0 0) (w2.setCell ⟨rb, 0, none⟩ (.slice a2 (kept.length + chunk.length) c2))) := ⟨M3.out, by simp [World.setCell], [], a2, c2, d, by rw [LA.out]; exact B3.out, by
      have h8 := BU.of_row R3.out UA.out (by rw [LA.out]; exact hn)
      have h9 : (w2.setCell ⟨rb, 0, none⟩ (.slice a2 (kept.length + chunk.length) c2)).heap.size = w2.heap.size := by simp [World.setCell]
      rwa [h9] at h8, fun ad e => by
        subst e
        have h10 := R3.out.lt ad.block rfl
        exact ⟨h10.1, by simpa [World.setCell] using h10.2⟩, PksAt.nil _ _, by simp⟩
  clear M3 B3 R3 R2 R1 E1 m1 m2 b1 b2 HB
  generalize w2.setCell ⟨rb, 0, none⟩ (.slice a2 (kept.length + chunk.length) c2) = w3 at *
  generalize w2.heap.size = B at *
  have ALN : Hid ((kept ++ chunk).length ≤ 1099511627776) := by show _ ≤ _; rw [LA.out]; exact hn
  generalize kept ++ chunk = all at *
  go_wp2_with fail
  go_loopw [5] (fun v wr => ∃ b, FeedI w rb B 208 all b v wr) (fun _ wr => keptLen rb wr)
  case atStart => exact ⟨all, I0.out⟩
  case round =>
    obtain ⟨b, hFI⟩ := hrel
    have ME := Lib.hid (feed_meas hFI)
    have RET := Lib.hid (fun (hs : scanP b = ([], b)) => feed_ret hFI hs BL.out)
    obtain ⟨hM, hsz, ps, ka, kc, d, hb, hu, hfar, hP, hsc⟩ := hFI
    have HFA := Lib.hid hfar
    have HM := Lib.hid hM
    have HBS := Lib.hid hsz
    have HBR := Lib.hid hb
    have HU := Lib.hid hu
    have HP := Lib.hid hP
    have SC := Lib.hid hsc
    obtain ⟨b1, b2⟩ := blk hb
    clear hM hb hu hP hsc hfar hsz
    cases b with
    | nil =>
      have SE : Hid ((scanP all).1 = ps.map (·.1) ∧ (scanP all).2 = []) := by show _ ∧ _; rw [SC.out, scanP_nil]; simp
      go_wp2_with fail
      go_ret
      refine ⟨_, ps, ka, kc, d, rfl, HM.out, by rw [SE.out.2]; exact HBR.out, by rw [SE.out.2]; exact HU.out.up HBS.out, fun ad e => ⟨(HFA.out ad e).1, Nat.lt_of_lt_of_le (HFA.out ad e).2 HBS.out⟩, HP.out.low BL.out, SE.out.1.symm⟩
    | cons x r =>
      obtain ⟨g, off, rfl, hgB, bx⟩ := HU.out.head
      by_cases hx : x = 239
      · subst hx
        cases r with
        | nil =>
          have RT := Lib.hid (RET.out (scanP_short (by simp) (by simp [wd]) (by simp)))
          clear RET
          go_wp2_with fail
          go_ret
          exact RT.out
        | cons y r =>
          have hkc := HU.out.cap
          simp only [List.length_cons] at hkc
          have by1 := (HU.out.cells rfl).2 1 y rfl
          by_cases hy : y = 30
          · subst hy
            have NB : Hid (¬ (wd (239 :: 30 :: r) 0 ≠ 239 ∨ (1 < (239 :: 30 :: r).length ∧ wd (239 :: 30 :: r) 1 ≠ 30))) := by show ¬ _; simp [wd]
            by_cases h4 : (239 :: 30 :: r).length < 4
            · have RT := Lib.hid (RET.out (scanP_short (by simp) NB.out h4))
              have h4i : (r.length : Int) + 1 + 1 < 4 := by simp only [List.length_cons] at h4; omega
              clear RET h4
              go_wp2_with fail
              go_ret
              exact RT.out
            · obtain ⟨y2, y3, r', rfl⟩ : ∃ y2 y3 r', r = y2 :: y3 :: r' := by
                cases r with
                | nil => simp at h4
                | cons y2 r => cases r with
                  | nil => simp at h4
                  | cons y3 r => exact ⟨y2, y3, r, rfl⟩
              have by2 := (HU.out.cells rfl).2 2 y2 rfl
              have by3 := (HU.out.cells rfl).2 3 y3 rfl
              obtain ⟨p0, p1⟩ := HU.out.u8 y2 (by simp)
              obtain ⟨p2, p3⟩ := HU.out.u8 y3 (by simp)
              have LEN : Hid (lenAt (239 :: 30 :: y2 :: y3 :: r') = y2 + 256 * y3) := rfl
              have N4 : Hid (¬ (239 :: 30 :: y2 :: y3 :: r').length < 4) := h4
              have hdr : (239 :: 30 :: y2 :: y3 :: r').drop 1 = 30 :: y2 :: y3 :: r' := rfl
              generalize 239 :: 30 :: y2 :: y3 :: r' = b at *
              have hl4 : ¬ (b.length : Int) < 4 := by omega
              have l0 : 0 < b.length := by omega
              have lne : b ≠ [] := List.length_pos_iff.1 l0
              have l1 : (1 : Int) < (b.length : Int) := by omega
              have l2 : (2 : Int) < (b.length : Int) := by omega
              have l3 : (3 : Int) < (b.length : Int) := by omega
              have r1 : IntKind.i64.wrap (256 * y3) = 256 * y3 := IntWalk.i64_in _ (by omega)
              have r2 : IntKind.i64.wrap (y2 + 256 * y3) = y2 + 256 * y3 := IntWalk.i64_in _ (by omega)
              have r3 : IntKind.i64.wrap (y2 + 256 * y3 + 8) = y2 + 256 * y3 + 8 := IntWalk.i64_in _ (by omega)
              clear h4 hdr
              go_upto_region 10 with fail
              go_quiet (fail)
              have FQ := Lib.hid (FeedI.drewN (show FeedI w rb B 208 all b _ wr from ⟨HM.out, HBS.out, ps, _, kc, d, HBR.out, HU.out, HFA.out, HP.out, SC.out⟩) nq)
              have HX := Lib.hid ((Ext.refl wr).drewN nq)
              have HMq := Lib.hid (HM.out.ext HX.out)
              have HBSq := Lib.hid (Nat.le_trans HBS.out HX.out.size)
              have HBRq := Lib.hid (HX.out.keep HBR.out)
              have HUq := Lib.hid (HU.out.ext HX.out HBS.out)
              have HFAq := HFA
              have HPq := Lib.hid (HP.out.ext HX.out)
              have SCq := SC
              clear b1 b2 bx by1 by2 by3 HM HBS HBR HU HFA HP SC RET HX
              generalize wr.drewN nq = wq at *
              have RETq := Lib.hid (fun (hs : scanP b = ([], b)) => feed_ret FQ.out hs BL.out)
              obtain ⟨b1, b2⟩ := blk HBRq.out
              have hkc2 := HUq.out.cap
              clear l0 lne l1 l2 l3 r1 r2 r3
              by_cases hlong : 1080 < y2 + 256 * y3
              · have HSB : Hid (scanP b = scanP (b.drop 1)) := scanP_long NB.out N4.out (by rw [LEN.out]; exact hlong)
                have hk1 : ¬ kc = 1 := by omega
                have hli : (1088 : Int) < y2 + 256 * y3 + 8 := by omega
                have FS := Lib.hid (feed_skip (d' := wrap64 (d + 1)) HMq.out HBSq.out HBRq.out HPq.out SCq.out HSB.out (HUq.out.rest_ne (lo := 1) (by omega) hk1) (far_map HFAq.out) hlt (by decide) (by decide))
                go_wp2_with fail
                have FS2 := FS.out
                rw [List.length_drop] at FS2
                exact ⟨⟨b.drop 1, FS2⟩, feed_lt FS2 ME.out (by rw [List.length_drop]; omega)⟩
              · by_cases hw : (b.length : Int) < y2 + 256 * y3 + 8
                · have RT := Lib.hid (RETq.out (scanP_wait NB.out N4.out (by rw [LEN.out]; exact hlong) (by rw [LEN.out]; exact hw)))
                  have hli : ¬ (1088 : Int) < y2 + 256 * y3 + 8 := by omega
                  go_wp2_with fail
                  go_ret
                  exact RT.out
                · obtain ⟨S, hS⟩ : ∃ S : Nat, y2 + 256 * y3 + 8 = (S : Int) := ⟨(y2 + 256 * y3 + 8).toNat, by omega⟩
                  have hSl : S ≤ b.length := by omega
                  have hS8 : 8 ≤ S := by omega
                  have HS2 : Hid ((lenAt b + 8).toNat = S) := by show _ = _; rw [LEN.out]; omega
                  have HLG : Hid (¬ 1080 < lenAt b) := by show ¬ _; rw [LEN.out]; exact hlong
                  have HWT : Hid (¬ (b.length : Int) < lenAt b + 8) := by show ¬ _; rw [LEN.out]; exact hw
                  have UN : Hid (Calls Tryz.prog 98 #[.slice (some ⟨g, off, none⟩) S kc] wq (UnpackR wq (b.take S))) := by
                    have h7 := Unpack98 (HUq.out.front S hSl) HBSq.out
                    rwa [List.length_take, Nat.min_eq_left hSl] at h7
                  have hli : ¬ (1088 : Int) < (S : Int) := by omega
                  have hwi : ¬ (b.length : Int) < (S : Int) := by omega
                  rw [hS]
                  cases hun : unpack (b.take S) with
                  | none =>
                    have HSB : Hid (scanP b = scanP (b.drop 1)) := scanP_none NB.out N4.out HLG.out HWT.out (by rw [HS2.out]; exact hun)
                    have HNO := Lib.hid hun
                    have hk1 : ¬ kc = 1 := by omega
                    clear hun hlong hw hS
                    go_upto_region 17 with (go_at_call 98; refine UN.out.mono ?_; rintro e w5 ⟨hx5, h1, _⟩; obtain ⟨er, e0, e1, rfl⟩ := h1 HNO.out; have X5 := Lib.hid hx5; clear hx5 h1)
                    have X6 := Lib.hid (X5.out.alloc (.cells #[.int .i64 0, .int .u64 0, .int .u64 0, .int .u64 0, .slice none 0 0] 211))
                    have HM6 := Lib.hid (HMq.out.ext X6.out)
                    have HBS6 := Lib.hid (Nat.le_trans HBSq.out X6.out.size)
                    have HBR6 := Lib.hid (X6.out.keep HBRq.out)
                    have HU6 := Lib.hid (HUq.out.ext X6.out HBSq.out)
                    have HP6 := Lib.hid (HPq.out.ext X6.out)
                    clear b1 b2 X5 X6 HMq HBSq HBRq HUq HPq UN
                    generalize w5.alloc (.cells #[.int .i64 0, .int .u64 0, .int .u64 0, .int .u64 0, .slice none 0 0] 211) = w6 at *
                    obtain ⟨b1, b2⟩ := blk HBR6.out
                    have heb : (er != 0) = true := by simp; omega
                    have FS := Lib.hid (feed_skip (d' := wrap64 (d + 1)) HM6.out HBS6.out HBR6.out HP6.out SCq.out HSB.out (HU6.out.rest_ne (lo := 1) (by omega) hk1) (far_map HFAq.out) hlt (by decide) (by decide))
                    go_wp2_with fail
                    have FS2 := FS.out
                    rw [List.length_drop] at FS2
                    exact ⟨⟨b.drop 1, FS2⟩, feed_lt FS2 ME.out (by rw [List.length_drop]; omega)⟩
                  | some p =>
                    have HSP := Lib.hid (scanP_some NB.out N4.out HLG.out HWT.out (by rw [HS2.out]; exact hun))
                    have HPK := Lib.hid hun
                    obtain ⟨av, cv, hvv, _⟩ := own_any HPq.out.row
                    subst hvv
                    clear hun hlong hw hS
                    go_upto_region 20 with (go_at_call 98; refine UN.out.mono ?_; rintro e w5 ⟨hx5, _, h2⟩; obtain ⟨a5, c5, rfl, hr5, hu5, hs5⟩ := h2 p HPK.out; have X5 := Lib.hid hx5; have R5 := Lib.hid hr5; have U5 := Lib.hid hu5; have S5 := Lib.hid hs5; clear hx5 h2 hr5 hu5 hs5)
                    have UT : Hid (U8s (b.take S)) := fun x hx => HUq.out.u8 x (List.mem_of_mem_take hx)
                    have X6 := Lib.hid (X5.out.alloc (.cells #[.int .i64 p.kind, .int .u64 p.tok, .int .u64 p.seq, .int .u64 p.ack, .slice a5 p.body.length c5] 211))
                    have NB6 := Lib.hid (newB w5 (.cells #[.int .i64 p.kind, .int .u64 p.tok, .int .u64 p.seq, .int .u64 p.ack, .slice a5 p.body.length c5] 211) _ rfl)
                    have BA6 := Lib.hid ((unpack_body UT.out HPK.out R5.out U5.out S5.out).ext ((Ext.refl w5).alloc (.cells #[.int .i64 p.kind, .int .u64 p.tok, .int .u64 p.seq, .int .u64 p.ack, .slice a5 p.body.length c5] 211)))
                    have HM6 := Lib.hid (HMq.out.ext X6.out)
                    have HBS6 := Lib.hid (Nat.le_trans HBSq.out X6.out.size)
                    have HBR6 := Lib.hid (X6.out.keep HBRq.out)
                    have HU6 := Lib.hid (HUq.out.ext X6.out HBSq.out)
                    have HP6 := Lib.hid (HPq.out.ext X6.out)
                    have PSN : Hid (ps.length ≤ 1099511627776) := by
                      show _ ≤ _
                      have h8 := scanP_many all
                      rw [SCq.out] at h8
                      simp only [List.length_append, List.length_map] at h8
                      have := ALN.out
                      omega
                    clear b1 b2 X5 X6 HMq HBSq HBRq HUq HPq UN R5 U5 S5 UT
                    generalize w5.alloc (.cells #[.int .i64 p.kind, .int .u64 p.tok, .int .u64 p.seq, .int .u64 p.ack, .slice a5 p.body.length c5] 211) = w6 at *
                    generalize w5.heap.size = g5 at *
                    obtain ⟨b1, b2⟩ := blk HBR6.out
                    obtain ⟨b3, b4⟩ := blk NB6.out
                    go_upto_region 21 with (at_builtin; (refine wpList_append_pk rfl _ _ rfl B (.slice av ps.length cv) ps rfl (HP6.out.ext ((Ext.refl w6).alloc _)).row (p, a5, c5) w6.heap.size (newB w6 _ _ rfl) rfl PSN.out (Nat.le_trans HBS6.out ((Ext.refl w6).alloc _).size) ?_; intro v7 w7 hown hgrow; have OW7 := Lib.hid hown; have GR7 := Lib.hid hgrow; clear hown hgrow))
                    have HSS : Hid (scanP b = (p :: (scanP (b.drop S)).1, (scanP (b.drop S)).2)) := by
                      have e : (lenAt b).toNat + 8 = S := by have := HS2.out; have := LEN.out; omega
                      show _ = _
                      rw [← e]
                      exact HSP.out
                    have X7 : Ext w6 (w6.alloc (.cells #[.int .i64 p.kind, .int .u64 p.tok, .int .u64 p.seq, .int .u64 p.ack, .slice a5 p.body.length c5] 211)) := (Ext.refl w6).alloc _
                    have HB7 := Lib.hid ((mod_grown GR7.out).keep (X7.keep HBR6.out) (fun hm => by
                      have h7 := (HP6.out.row.lt rb (by simpa using hm)).1
                      have := BL.out
                      omega))
                    obtain ⟨b5, b6⟩ := blk HB7.out
                    clear b1 b2 b3 b4
                    by_cases hkS : kc = S
                    · have FS := Lib.hid (feed_pack (HM6.out.ext X7) (Nat.le_trans HBS6.out X7.size) (X7.keep HBR6.out) (HP6.out.ext X7) SCq.out HSS.out (BA6.out.ext X7) OW7.out GR7.out ((HU6.out.rest_eq (lo := S) hSl hkS).ext X7 HBS6.out) HFAq.out hlt BL.out (by decide) (by decide))
                      subst hkS
                      have hbk : b.length = kc := by omega
                      go_wp2_with fail
                      have FS2 := FS.out
                      rw [List.length_drop, hbk, Nat.sub_self] at FS2
                      exact ⟨⟨b.drop kc, FS2⟩, feed_lt FS2 ME.out (by rw [List.length_drop]; omega)⟩
                    · have FS := Lib.hid (feed_pack (HM6.out.ext X7) (Nat.le_trans HBS6.out X7.size) (X7.keep HBR6.out) (HP6.out.ext X7) SCq.out HSS.out (BA6.out.ext X7) OW7.out GR7.out ((HU6.out.rest_ne (lo := S) hSl hkS).ext X7 HBS6.out) (far_map HFAq.out) hlt BL.out (by decide) (by decide))
                      go_wp2_with fail
                      have FS2 := FS.out
                      rw [List.length_drop] at FS2
                      simp only [Option.map_some, Addr.add_lit] at FS2
                      exact ⟨⟨b.drop S, FS2⟩, feed_lt FS2 ME.out (by rw [List.length_drop]; omega)⟩
          · have HSB : Hid (scanP (239 :: y :: r) = scanP ((239 :: y :: r).drop 1)) := scanP_bad (by simp) (.inr ⟨by simp, by simpa [wd] using hy⟩)
            have hyb : (y != 30) = true := by simp [hy]
            clear hy
            by_cases hk1 : kc = 1
            · omega
            · have FS := Lib.hid (feed_skip (d' := wrap64 (d + 1)) HM.out HBS.out HBR.out HP.out SC.out HSB.out (HU.out.rest_ne (lo := 1) (by simp) hk1) (far_map HFA.out) hlt (by decide) (by decide))
              go_wp2_with fail
              exact ⟨⟨y :: r, FS.out⟩, feed_lt FS.out ME.out (by simp)⟩
      · have HSB : Hid (scanP (x :: r) = scanP ((x :: r).drop 1)) := scanP_bad (by simp) (.inl (by simpa [wd] using hx))
        have hxb : (x != 239) = true := by simp [hx]
        clear hx
        · have hkc := HU.out.cap
          simp only [List.length_cons] at hkc
          by_cases hk1 : kc = 1
          · have FS := Lib.hid (feed_skip (d' := wrap64 (d + 1)) HM.out HBS.out HBR.out HP.out SC.out HSB.out (HU.out.rest_eq (lo := 1) (by simp) hk1) HFA.out hlt (by decide) (by decide))
            obtain rfl : r = [] := List.eq_nil_of_length_eq_zero (by omega)
            subst hk1
            go_wp2_with fail
            exact ⟨⟨[], FS.out⟩, feed_lt FS.out ME.out (by simp)⟩
          · have FS := Lib.hid (feed_skip (d' := wrap64 (d + 1)) HM.out HBS.out HBR.out HP.out SC.out HSB.out (HU.out.rest_ne (lo := 1) (by simp) hk1) (far_map HFA.out) hlt (by decide) (by decide))
            go_wp2_with fail
            exact ⟨⟨r, FS.out⟩, feed_lt FS.out ME.out (by simp)⟩
end Go.Proofs.Eff
