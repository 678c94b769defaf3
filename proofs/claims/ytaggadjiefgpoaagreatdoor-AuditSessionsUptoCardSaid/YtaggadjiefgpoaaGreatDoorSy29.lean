/- wire.Unpack: a whole frame. -/
import Derived.Test.YtaggadjiefgpoaaGreatDoorSy28
import Derived.Laws.AppendOwnNone
namespace Go.Proofs.Eff
open Go.RowKit

theorem Mod.set {b : Nat} {w w' : World} (h : Mod [b] w w') (i : Nat) (v : Value) : Mod [b] w (w'.setCell ⟨b, i, none⟩ v) := h.trans (mod_setCell _ ⟨b, i, none⟩ v)
theorem innerS_cons (y : Int) (r : List Int) : innerS (y :: r) = (countS (countS (countS (some r)).2).2).2.map fun b => (⟨y, (countS (some r)).1, (countS (countS (some r)).2).1, (countS (countS (countS (some r)).2).2).1, b⟩ : Pkt) := by
  show (match (countS (countS (countS (some r)).2).2).2 with
    | none => none
    | some b => some (⟨y, (countS (some r)).1, (countS (countS (some r)).2).1, (countS (countS (countS (some r)).2).2).1, b⟩ : Pkt)) = _
  cases (countS (countS (countS (some r)).2).2).2 <;> rfl
/-- A row of bytes of one's own can be read. -/
theorem BU.of_row {w : World} {base c : Nat} {a : Option Addr} {l : List Int} (h : w.ownsRow base 5 1 (.slice a l.length c) l.length (u8s l)) (hu : U8s l) (hl : l.length ≤ 1099511627776) : BU w w.heap.size a c l := by
  rcases h.2 with ⟨h2, h3⟩ | ⟨g', cap', cur, h2, h3, h4, h5, h6, h7⟩
  · simp only [Value.slice.injEq] at h2
    obtain ⟨rfl, h2, rfl⟩ := h2
    exact ⟨by omega, fun _ => rfl, fun ad e => (by cases e), hu, Nat.zero_le _, hl⟩
  · simp only [Value.slice.injEq] at h2
    obtain ⟨rfl, -, rfl⟩ := h2
    refine ⟨h5, fun e => (by cases e), fun ad e _ => ?_, hu, h6, hl⟩
    cases e
    refine ⟨g', 0, rfl, lt_of_block h4, fun j x hj => ?_⟩
    have := h.cells (g := g') rfl j (.int .u8 x) (by simp [u8s, hj])
    rwa [Addr.add_lit] at this
theorem BU.news {w : World} {top c : Nat} {ad : Addr} {l : List Int} (h : BU w top (some ad) c l) : ∀ j u, (u8s l)[j]? = some u → w.cell? (ad.add j) = some u := by
  intro j u hj
  simp only [u8s, List.getElem?_map, Option.map_eq_some_iff] at hj
  obtain ⟨x, hx, rfl⟩ := hj
  obtain ⟨g, off, rfl, _, e3⟩ := h.row ad rfl (by have := h.cap; have := (List.getElem?_eq_some_iff.1 hx).1; omega)
  rw [Addr.add_lit]
  exact e3 j x hx

set_option maxRecDepth 100000 in
set_option maxHeartbeats 8000000 in
theorem Unpack139_in {w : World} {top : Nat} {a : Option Addr} {c : Nat} {l : List Int} (h : BU w top a c l) (ht : top ≤ w.heap.size) (hf : frameOK l = true) (hb : sumOK l = true) :
    Calls Tryz.prog 139 #[.slice a l.length c] w (UnpackR w l) := by
  have BXB : Hid ((w.alloc (.cells #[.int .i64 0, .int .u64 0, .int .u64 0, .int .u64 0, .slice none 0 0] 211)).heap[w.heap.size]? = some (.cells #[.int .i64 0, .int .u64 0, .int .u64 0, .int .u64 0, .slice none 0 0] 211)) := newB w _ _ rfl
  obtain ⟨h8, q0, q1, q2⟩ := frameOK_parts hf
  obtain ⟨g, off, rfl, bl, b0⟩ := h.at (i := 0) (get_wd (by omega))
  have b1 := (h.cells rfl).2 1 _ (get_wd (by omega))
  rw [Nat.add_zero] at b0
  have bl2 : g < w.heap.size := Nat.lt_of_lt_of_le bl ht
  have HLEN := Lib.hid (fun W (hE : Ext w W) => length178 (h.ext hE ht) (by omega))
  obtain ⟨n0, n1⟩ := lenAt_in h.u8 (by omega)
  obtain ⟨m, hm⟩ : ∃ m, l.length = m + 4 := ⟨l.length - 4, by omega⟩
  have hcap := h.cap
  have hmx : m ≤ 9223372036854775803 := by have := h.big; unfold maxLen at this; omega
  have HSUM : Hid (∀ W, Ext w W → Calls Tryz.prog 179 #[.slice (some ⟨g, off, none⟩) m c] W fun e w' => e = .returned (.int .u32 (crc (l.take m))) ∧ w' = W) := fun W hE => by
    have := sum179 ((h.ext hE ht).front m (by omega))
    rwa [List.length_take, Nat.min_eq_left (by omega)] at this
  have BT : Hid (∀ W, Ext w W → BytesV W (.slice (some ⟨g, off + m, none⟩) 4 (c - m)) (l.drop m)) := fun W hE => by
    have := ((h.ext hE ht).rest_ne (lo := m) (by omega) (by omega)).bytesV (Nat.le_trans ht hE.size) (.inl (by rw [List.length_drop]; omega))
    rw [List.length_drop, hm, Nat.add_sub_cancel_left] at this
    simpa [Addr.add_lit] using this
  have UD := Lib.hid (show U8s (l.drop m) from fun x hx => h.u8 x (List.mem_of_mem_drop hx))
  obtain ⟨s0, s1⟩ := crc_in (l.take m)
  have S4 := Lib.hid (bytes4_rng s0 s1)
  have BI : Hid (∀ W, Ext w W → BU W top (some ⟨g, off + 4, none⟩) (c - 4) (inside l)) := fun W hE => by
    have := (h.ext hE ht).sub 4 m (by omega) (by omega)
    rw [if_neg (by omega)] at this
    simp only [Option.map_some, Nat.mul_one, Addr.add_lit] at this
    unfold inside
    rwa [show l.length - 4 = m by omega]
  have LI : Hid ((inside l).length = m - 4) := by show _ = _; simp [inside]; omega
  have HS : Hid (sumOK l = decide (l.drop m = bytes4 (crc (l.take m)))) := sumOK_at hm
  have FIN1 : Hid (sumOK l = false → ∀ w', Ext w w' → UnpackR w l (.returned (.tuple #[zeroP, .int .i64 171])) w') := fun hs w' hx => UnpackR.bad (unpack_sum hs) hx 171 (by omega) (by omega)
  have FIN2 : Hid (sumOK l = true → unpack l = (innerP (inside l)).filter mayP) := fun hs => unpack_in hf hs
  rw [hm] at hcap HLEN q2 ⊢
  have hmi : (m : Int) + 4 = lenAt l + 8 := by omega
  rw [q0] at b0
  rw [q1] at b1
  clear h hf q2 hm q0 q1
  generalize crc (l.take m) = s at *
  generalize lenAt l = n at *
  have hq : ((m : Int) + 4 != n + 4 + 4) = false := by simp; omega
  have hcm : ¬ c = m := by omega
  have hm0 : ¬ m = 0 := by omega
  have hm8 : ¬ (m : Int) + 4 < 8 := by omega
  clear hmi
  have NW : Hid (∀ W : World, BytesV (W.alloc (.cells #[.int .u8 (s % 256), .int .u8 (s / 256 % 256), .int .u8 (s / 65536 % 256), .int .u8 (s / 16777216)] 5)) (.slice (some ⟨W.heap.size, 0, none⟩) 4 4) (bytes4 s)) := fun W =>
    .inr ⟨⟨W.heap.size, 0, none⟩, 4, rfl, row_read (World.ownsRow_lit (base := 0) W #[.int .u8 (s % 256), .int .u8 (s / 256 % 256), .int .u8 (s / 65536 % 256), .int .u8 (s / 16777216)] 4 (Nat.zero_le _) (by unfold maxLen; omega) rfl), by simp⟩
  have HS2 : Hid (decide (l.drop m = bytes4 s) = true) := HS.out.symm.trans hb
  have FIN := Lib.hid (FIN2.out hb)
  clear hb FIN1 FIN2
  go_enter Tryz.func139, Tryz.ntmps139
  go_upto_region 3 with ((go_at_call 178; refine (HLEN.out _ ((Ext.refl w).alloc _)).mono ?_; rintro e w1 ⟨rfl, hE⟩; obtain ⟨b3, b4⟩ := blk (hE.keep BXB.out); have BXX := Lib.hid (hE.keep BXB.out); have E1 := Lib.hid (((Ext.refl w).alloc _).trans hE); clear hE))
  go_upto_region 5 with (go_at_call 179; refine (HSUM.out _ E1.out).mono ?_; rintro e w2 ⟨rfl, rfl⟩)
  go_upto_region 7 with (go_at_call 180; refine (equal180 (BT.out _ (E1.out.alloc _)) (NW.out _) UD.out S4.out).mono ?_; rintro e w3 ⟨rfl, rfl⟩; obtain ⟨b5, b6⟩ := blk (keepB BXX.out (.cells #[.int .u8 (s % 256), .int .u8 (s / 256 % 256), .int .u8 (s / 65536 % 256), .int .u8 (s / 16777216)] 5)); rw [HS2.out])
  generalize inside l = IN at *
  have E2 := Lib.hid (E1.out.alloc (.cells #[.int .u8 (s % 256), .int .u8 (s / 256 % 256), .int .u8 (s / 65536 % 256), .int .u8 (s / 16777216)] 5))
  have BX2 := Lib.hid (keepB BXX.out (.cells #[.int .u8 (s % 256), .int .u8 (s / 256 % 256), .int .u8 (s / 65536 % 256), .int .u8 (s / 16777216)] 5))
  generalize w2.alloc (.cells #[.int .u8 (s % 256), .int .u8 (s / 256 % 256), .int .u8 (s / 65536 % 256), .int .u8 (s / 16777216)] 5) = w3 at *
  clear b3 b4 b0 b1
  have hc4 : ¬ c = 4 := by omega
  go_upto_region 8 with fail
  have RD0 : Hid (RdAt (w3.alloc (.cells #[.slice (some ⟨g, off + 4, none⟩) (m - 4) (c - 4), .bool false] 294)) w3.heap.size 294 IN false) :=
    ⟨some ⟨g, off + 4, none⟩, c - 4, by rw [LI.out]; exact newB _ _ _ rfl, (BI.out _ (E2.out.alloc _)).up (Nat.le_trans ht E2.out.size)⟩
  have E4 := Lib.hid (E2.out.alloc (.cells #[.slice (some ⟨g, off + 4, none⟩) (m - 4) (c - 4), .bool false] 294))
  have BX4 := Lib.hid (keepB BX2.out (.cells #[.slice (some ⟨g, off + 4, none⟩) (m - 4) (c - 4), .bool false] 294))
  have HPB : Hid (w.heap.size < w3.heap.size) := lt_of_block BX2.out
  generalize w3.alloc (.cells #[.slice (some ⟨g, off + 4, none⟩) (m - 4) (c - 4), .bool false] 294) = w4 at *
  generalize w3.heap.size = pb at *
  clear E2 BX2 b5 b6 BI NW BT HSUM HLEN BXB BXX E1 HS HS2 S4 UD
  go_upto_region 9 with (first
    | (go_at_call 181; refine (byte181 RD0.out).mono ?_; rintro e w5 ⟨x, l', bad', rfl, x0, x1, h2, h3, h4, h5⟩; obtain ⟨st1, hst, hs1, hs2⟩ : ∃ st1, Rd w5 pb 294 st1 ∧ (∀ y r, IN = y :: r → x = y ∧ st1 = some r) ∧ (IN = [] → st1 = none) := ⟨_, h2.close, fun y r hy => (by obtain ⟨a1, a2, a3⟩ := h4 y r hy; subst a2; subst a3; exact ⟨a1, rfl⟩), fun hy => (by obtain ⟨a1, a2⟩ := h5 hy; subst a2; rfl)⟩; have S1 := Lib.hid hst; have M1 := Lib.hid h3; have HS1 := Lib.hid hs1; have HS0 := Lib.hid hs2; clear h2 h3 h4 h5 hst hs1 hs2)
    | (go_at_call 182; refine (count182 S3.out).mono ?_; rintro e w8 ⟨rfl, h2, h3⟩; have S4 := Lib.hid h2; have M4 := Lib.hid h3; clear h2 h3)
    | (go_at_call 182; refine (count182 S2.out).mono ?_; rintro e w7 ⟨rfl, h2, h3⟩; have S3 := Lib.hid h2; have M3 := Lib.hid h3; clear h2 h3)
    | (go_at_call 182; refine (count182 S1.out).mono ?_; rintro e w6 ⟨rfl, h2, h3⟩; have S2 := Lib.hid h2; have M2 := Lib.hid h3; clear h2 h3))
  have INP : Hid (innerP IN = (countS (countS (countS st1).2).2).2.map fun r => ⟨x, (countS st1).1, (countS (countS st1).2).1, (countS (countS (countS st1).2).2).1, r⟩) := by
    show _ = _
    rw [innerP_eq]
    cases IN with
    | nil => rw [HS0.out rfl]; rfl
    | cons y r =>
      obtain ⟨a1, a2⟩ := HS1.out y r rfl
      rw [a2, a1]
      exact innerS_cons y r
  have M8 := Lib.hid (((M1.out.trans M2.out).trans M3.out).trans M4.out)
  have E8 := Lib.hid (Mod.ext_of_new E4.out M8.out (Nat.le_of_lt HPB.out))
  have BX8 := Lib.hid (M8.out.keep BX4.out (by have := HPB.out; simp; omega))
  generalize (countS (countS (countS st1).2).2).2 = fs at *
  generalize (countS (countS (countS st1).2).2).1 = kk at *
  generalize (countS (countS st1).2).1 = qq at *
  generalize (countS st1).1 = tt at *
  clear M1 M2 M3 M4 S1 S2 S3 HS0 HS1 RD0 E4 BX4 M8 LI
  obtain ⟨lf, bad, hrd, hf1, hf2⟩ := S4.out.open
  have HF1 := Lib.hid hf1
  have HF2 := Lib.hid hf2
  obtain ⟨af, cf, hbf, huf⟩ := hrd
  have HUF := Lib.hid huf
  have U8F := Lib.hid huf.u8
  have hcf := huf.cap
  have hbg := huf.small
  have BP9 := Lib.hid (keepB hbf (.cells #[.int .i64 x, .int .u64 tt, .int .u64 qq, .int .u64 kk, .slice none 0 0] 211))
  have HPL := Lib.hid (lt_of_block hbf)
  have B79 := Lib.hid (newB w8 (.cells #[.int .i64 x, .int .u64 tt, .int .u64 qq, .int .u64 kk, .slice none 0 0] 211) _ rfl)
  have E9 := Lib.hid (E8.out.alloc (.cells #[.int .i64 x, .int .u64 tt, .int .u64 qq, .int .u64 kk, .slice none 0 0] 211))
  have BX9 := Lib.hid (keepB BX8.out (.cells #[.int .i64 x, .int .u64 tt, .int .u64 qq, .int .u64 kk, .slice none 0 0] 211))
  have HB7 : Hid (w.heap.size < w8.heap.size) := lt_of_block BX8.out
  have HUF9 := Lib.hid (HUF.out.ext ((Ext.refl w8).alloc (.cells #[.int .i64 x, .int .u64 tt, .int .u64 qq, .int .u64 kk, .slice none 0 0] 211)) (Nat.le_of_lt HPL.out))
  clear hbf huf hf1 hf2 S4 HUF E8 BX8
  generalize w8.alloc (.cells #[.int .i64 x, .int .u64 tt, .int .u64 qq, .int .u64 kk, .slice none 0 0] 211) = w9 at *
  generalize w8.heap.size = bx at *
  obtain ⟨d1, d2⟩ := blk BP9.out
  obtain ⟨d3, d4⟩ := blk B79.out
  obtain ⟨i5, hi, hz0, hz1, hz3⟩ := info_parts Tryz.cinfo5
  have NWR := Lib.hid (World.ownsRow_lit (base := w9.heap.size) (e := 5) (size := 1) w9 #[] 0 (Nat.le_refl _) (Nat.zero_le _) rfl)
  have PB9 := Lib.hid (lt_of_block BP9.out)
  have BXL := Lib.hid (lt_of_block B79.out)
  have pbl : pb < w9.heap.size := PB9.out
  have bxl : bx < w9.heap.size := BXL.out
  cases af with
  | none =>
    obtain rfl : cf = 0 := HUF9.out.nil0 rfl
    obtain rfl : lf = [] := List.eq_nil_of_length_eq_zero (by omega)
    have E10 := Lib.hid ((Ext.refl w9).alloc (.cells #[] 5))
    have R10 := NWR
    go_upto_region 10 with (at_builtin; refine wpList_append_own_none rfl _ _ 37 rfl w9.heap.size 5 i5 1 Tryz.underlying37 hi _ 0 [] rfl NWR.out rfl ?_; obtain ⟨b1, b2⟩ := blk (E10.out.keep BP9.out); obtain ⟨b3, b4⟩ := blk (E10.out.keep B79.out); clear d1 d2 d3 d4; generalize w9.alloc (.cells #[] 5) = w10 at *)
    have NE1 : Hid (pb ≠ bx) := by have := HPL.out; show pb ≠ bx; omega
    have E11 := Lib.hid ((E9.out.trans E10.out).setCell (p := ⟨bx, 4, none⟩) (Nat.le_of_lt HB7.out) (.slice (some ⟨w9.heap.size, 0, none⟩) 0 0))
    have BP11 := Lib.hid (keepS (a := ⟨bx, 4, none⟩) (E10.out.keep BP9.out) NE1.out (.slice (some ⟨w9.heap.size, 0, none⟩) 0 0))
    have B711 := Lib.hid (setB (E10.out.keep B79.out) (i := 4) (.slice (some ⟨w9.heap.size, 0, none⟩) 0 0))
    have BX11 := Lib.hid (keepS (a := ⟨bx, 4, none⟩) (E10.out.keep BX9.out) (Nat.ne_of_lt HB7.out) (.slice (some ⟨w9.heap.size, 0, none⟩) 0 0))
    have R11 := Lib.hid ((mod_setCell w10 ⟨bx, 4, none⟩ (.slice (some ⟨w9.heap.size, 0, none⟩) 0 0)).row R10.out (fun q hq => by have h1 := (R10.out.lt q hq).1; have h2 := BXL.out; simp; omega))
    have L11 : Hid (0 ≤ 1099511627776) := hbg
    clear b1 b2 b3 b4 E9 E10 BP9 B79 BX9 R10
    generalize w10.setCell ⟨bx, 4, none⟩ (.slice (some ⟨w9.heap.size, 0, none⟩) 0 0) = w11 at *
    obtain ⟨b1, b2⟩ := blk BP11.out
    obtain ⟨b5, b6⟩ := blk BX11.out
    cases bad with
    | true =>
      have FX : Hid (unpack l = none) := by show _ = _; rw [FIN.out, INP.out, HF2.out rfl]; rfl
      go_wp2_with fail
      (try simp only [Exit.inBlock, Exit.then])
      refine bodyPost_ret (v := .tuple #[zeroP, .int .i64 172]) ?_ rfl (UnpackR.bad FX.out ?_ 172 (by omega) (by omega))
      · rw [results_cell_tmp rfl]
        go_simp
      · repeat' (first | exact E11.out | exact Ext.refl _ | refine Ext.setCell ?_ (Nat.le_refl _) _ | refine Ext.alloc ?_ _)
    | false =>
      have FY : Hid (unpack l = (some (⟨x, tt, qq, kk, []⟩ : Pkt)).filter mayP) := by show _ = _; rw [FIN.out, INP.out, HF1.out rfl]; rfl
      obtain ⟨b3, b4⟩ := blk B711.out
      cases hmay : (decide (1 ≤ x) && decide (x ≤ 7) && decide (0 ≤ 1024)) with
      | false =>
        have HM := Lib.hid hmay
        have FX : Hid (unpack l = none) := by show _ = _; rw [FY.out]; exact Option.filter_some_neg (by unfold mayP; exact HM.out)
        clear hmay
        go_wp2_with (go_at_call 183; refine (may183 w11 x tt qq kk (some ⟨w9.heap.size, 0, none⟩) 0 0).mono ?_; rintro e w12 ⟨rfl, hE⟩; rw [HM.out]; obtain ⟨b7, b8⟩ := blk (hE.keep BX11.out); have E12 := Lib.hid (E11.out.trans hE); clear hE)
        (try simp only [Exit.inBlock, Exit.then])
        refine bodyPost_ret (v := .tuple #[zeroP, .int .i64 172]) ?_ rfl (UnpackR.bad FX.out ?_ 172 (by omega) (by omega))
        · rw [results_cell_tmp rfl]
          go_simp
        · repeat' (first | exact E12.out | exact Ext.refl _ | refine Ext.setCell ?_ (Nat.le_refl _) _ | refine Ext.alloc ?_ _)
      | true =>
        have HM := Lib.hid hmay
        have FX : Hid (unpack l = some (⟨x, tt, qq, kk, []⟩ : Pkt)) := by show _ = _; rw [FY.out]; exact Option.filter_some_pos (by unfold mayP; exact HM.out)
        clear hmay
        go_wp2_with (go_at_call 183; refine (may183 w11 x tt qq kk (some ⟨w9.heap.size, 0, none⟩) 0 0).mono ?_; rintro e w12 ⟨rfl, hE⟩; rw [HM.out]; obtain ⟨b7, b8⟩ := blk (hE.keep BX11.out); obtain ⟨b9, b10⟩ := blk (hE.keep B711.out); have X12 := Lib.hid hE; have E12 := Lib.hid (E11.out.trans hE); clear hE)
        (try simp only [Exit.inBlock, Exit.then])
        refine bodyPost_ret (v := .tuple #[.agg #[.int .i64 x, .int .u64 tt, .int .u64 qq, .int .u64 kk, .slice (some ⟨w9.heap.size, 0, none⟩) 0 0], .int .i64 0]) ?_ rfl (UnpackR.ok FX.out ?_ ?_)
        · rw [results_cell_tmp rfl]
          go_simp
        · repeat' (first | exact E12.out | exact Ext.refl _ | refine Ext.setCell ?_ (Nat.le_refl _) _ | refine Ext.alloc ?_ _)
        · exact ⟨row_low (Mod.row ((((((Mod.refl [w.heap.size] w12).set _ _).set _ _).set _ _).set _ _).set _ _) (row_keep R11.out X12.out) (fun q hq => by have h1 := (R11.out.lt q hq).1; have h2 := BXL.out; have h3 := HB7.out; simp; omega)) (by have h2 := BXL.out; have h3 := HB7.out; omega), U8F.out, L11.out⟩
  | some ad =>
    have NEWS : Hid (∀ j u, (u8s lf)[j]? = some u → (w9.alloc (.cells #[] 5)).cell? (ad.add j) = some u) := (HUF9.out.ext ((Ext.refl w9).alloc _) (Nat.le_of_lt PB9.out)).news
    go_upto_region 10 with (at_builtin; (refine wpList_append_own _ rfl _ _ 37 rfl w9.heap.size 5 i5 (.int .u8 0) 1 1 Tryz.underlying37 hi hz0 hz1 hz3 rfl (by decide) _ 0 [] rfl NWR.out ad lf.length cf (u8s lf) rfl (by simp) NEWS.out (u8s_one _) (by unfold maxLen; omega) (by omega) (by simp) ?_; intro v' w10 hown hgrow hnil2; rw [Nat.zero_add] at hown; obtain ⟨ad9, c9, rfl, _⟩ := own_any hown; have E10 : Hid (Ext w9 w10) := ((Ext.refl w9).alloc _).grown (show World.grownBy _ w10 (some w9.heap.size) from hgrow) (fun q hq => Nat.le_of_eq (Option.some.inj hq)); have R10 := Lib.hid hown; obtain ⟨b1, b2⟩ := blk (E10.out.keep BP9.out); obtain ⟨b3, b4⟩ := blk (E10.out.keep B79.out); clear hown hgrow hnil2 d1 d2 d3 d4))
    have NE1 : Hid (pb ≠ bx) := by have := HPL.out; show pb ≠ bx; omega
    have E11 := Lib.hid ((E9.out.trans E10.out).setCell (p := ⟨bx, 4, none⟩) (Nat.le_of_lt HB7.out) (.slice ad9 lf.length c9))
    have BP11 := Lib.hid (keepS (a := ⟨bx, 4, none⟩) (E10.out.keep BP9.out) NE1.out (.slice ad9 lf.length c9))
    have B711 := Lib.hid (setB (E10.out.keep B79.out) (i := 4) (.slice ad9 lf.length c9))
    have BX11 := Lib.hid (keepS (a := ⟨bx, 4, none⟩) (E10.out.keep BX9.out) (Nat.ne_of_lt HB7.out) (.slice ad9 lf.length c9))
    have R11 := Lib.hid ((mod_setCell w10 ⟨bx, 4, none⟩ (.slice ad9 lf.length c9)).row R10.out (fun q hq => by have h1 := (R10.out.lt q hq).1; have h2 := BXL.out; simp; omega))
    have L11 : Hid (lf.length ≤ 1099511627776) := hbg
    clear b1 b2 b3 b4 E9 E10 BP9 B79 BX9 R10
    generalize w10.setCell ⟨bx, 4, none⟩ (.slice ad9 lf.length c9) = w11 at *
    obtain ⟨b1, b2⟩ := blk BP11.out
    obtain ⟨b5, b6⟩ := blk BX11.out
    cases bad with
    | true =>
      have FX : Hid (unpack l = none) := by show _ = _; rw [FIN.out, INP.out, HF2.out rfl]; rfl
      go_wp2_with fail
      (try simp only [Exit.inBlock, Exit.then])
      refine bodyPost_ret (v := .tuple #[zeroP, .int .i64 172]) ?_ rfl (UnpackR.bad FX.out ?_ 172 (by omega) (by omega))
      · rw [results_cell_tmp rfl]
        go_simp
      · repeat' (first | exact E11.out | exact Ext.refl _ | refine Ext.setCell ?_ (Nat.le_refl _) _ | refine Ext.alloc ?_ _)
    | false =>
      have FY : Hid (unpack l = (some (⟨x, tt, qq, kk, lf⟩ : Pkt)).filter mayP) := by show _ = _; rw [FIN.out, INP.out, HF1.out rfl]; rfl
      obtain ⟨b3, b4⟩ := blk B711.out
      cases hmay : (decide (1 ≤ x) && decide (x ≤ 7) && decide (lf.length ≤ 1024)) with
      | false =>
        have HM := Lib.hid hmay
        have FX : Hid (unpack l = none) := by show _ = _; rw [FY.out]; exact Option.filter_some_neg (by unfold mayP; exact HM.out)
        clear hmay
        go_wp2_with (go_at_call 183; refine (may183 w11 x tt qq kk ad9 lf.length c9).mono ?_; rintro e w12 ⟨rfl, hE⟩; rw [HM.out]; obtain ⟨b7, b8⟩ := blk (hE.keep BX11.out); have E12 := Lib.hid (E11.out.trans hE); clear hE)
        (try simp only [Exit.inBlock, Exit.then])
        refine bodyPost_ret (v := .tuple #[zeroP, .int .i64 172]) ?_ rfl (UnpackR.bad FX.out ?_ 172 (by omega) (by omega))
        · rw [results_cell_tmp rfl]
          go_simp
        · repeat' (first | exact E12.out | exact Ext.refl _ | refine Ext.setCell ?_ (Nat.le_refl _) _ | refine Ext.alloc ?_ _)
      | true =>
        have HM := Lib.hid hmay
        have FX : Hid (unpack l = some (⟨x, tt, qq, kk, lf⟩ : Pkt)) := by show _ = _; rw [FY.out]; exact Option.filter_some_pos (by unfold mayP; exact HM.out)
        clear hmay
        go_wp2_with (go_at_call 183; refine (may183 w11 x tt qq kk ad9 lf.length c9).mono ?_; rintro e w12 ⟨rfl, hE⟩; rw [HM.out]; obtain ⟨b7, b8⟩ := blk (hE.keep BX11.out); obtain ⟨b9, b10⟩ := blk (hE.keep B711.out); have X12 := Lib.hid hE; have E12 := Lib.hid (E11.out.trans hE); clear hE)
        (try simp only [Exit.inBlock, Exit.then])
        refine bodyPost_ret (v := .tuple #[.agg #[.int .i64 x, .int .u64 tt, .int .u64 qq, .int .u64 kk, .slice ad9 lf.length c9], .int .i64 0]) ?_ rfl (UnpackR.ok FX.out ?_ ?_)
        · rw [results_cell_tmp rfl]
          go_simp
        · repeat' (first | exact E12.out | exact Ext.refl _ | refine Ext.setCell ?_ (Nat.le_refl _) _ | refine Ext.alloc ?_ _)
        · exact ⟨row_low (Mod.row ((((((Mod.refl [w.heap.size] w12).set _ _).set _ _).set _ _).set _ _).set _ _) (row_keep R11.out X12.out) (fun q hq => by have h1 := (R11.out.lt q hq).1; have h2 := BXL.out; have h3 := HB7.out; simp; omega)) (by have h2 := BXL.out; have h3 := HB7.out; omega), U8F.out, L11.out⟩
theorem Unpack139 {w : World} {top : Nat} {a : Option Addr} {c : Nat} {l : List Int} (h : BU w top a c l) (ht : top ≤ w.heap.size) : Calls Tryz.prog 139 #[.slice a l.length c] w (UnpackR w l) := by
  cases hf : frameOK l with
  | false => exact Unpack139_frame h ht hf
  | true =>
    cases hb : sumOK l with
    | false => exact Unpack139_sum h ht hf hb
    | true => exact Unpack139_in h ht hf hb
end Go.Proofs.Eff

/- Appending bytes that are read to a row of one's own: nil or not. -/
namespace Go.Proofs.Eff
open Go.RowKit

theorem BU.news2 {w : World} {top c : Nat} {ad : Addr} {l : List Int} (h : BU w top (some ad) c l) : ∀ j u, (u8s l)[j]? = some u → w.cell? (ad.add j) = some u := by
  intro j u hj
  simp only [u8s, List.getElem?_map, Option.map_eq_some_iff] at hj
  obtain ⟨x, hx, rfl⟩ := hj
  obtain ⟨g, off, rfl, _, e3⟩ := h.row ad rfl (by have := h.cap; have := (List.getElem?_eq_some_iff.1 hx).1; omega)
  rw [Addr.add_lit]
  exact e3 j x hx
theorem wpList_append_bu {w : World} {ops : Array Oper} {rest : List Oper} {o : Oper} {a : Act} {Q : Exit → Act → World → Prop} (hgd : o.guard = none) (s x : Operand)
    (ho : o.op = .call { callee := .builtin .append, args := #[s, x], argTypes := #[37, 37] }) (base : Nat) (v : Value) (n : Nat) (xs : List Value) (hs : a.eval s = v) (hown : w.ownsRow base 5 1 v n xs)
    {top c : Nat} {ad : Option Addr} {l : List Int} (hb : BU w top ad c l) (hx : a.eval x = .slice ad l.length c) (hn : n + l.length ≤ 140737488355328) (hbase : base ≤ w.heap.size)
    (h : ∀ v' w', w'.ownsRow base 5 1 v' (n + l.length) (xs ++ u8s l) → w.grownBy w' v.ownBlock → wpList Tryz.prog ops Q rest (a.put o.dst v') w') : wpList Tryz.prog ops Q (o :: rest) a w := by
  obtain ⟨i5, hi, hz0, hz1, hz3⟩ := info_parts Tryz.cinfo5
  cases ad with
  | none =>
    obtain rfl : c = 0 := hb.nil0 rfl
    have h0 := hb.cap
    obtain rfl : l = [] := List.eq_nil_of_length_eq_zero (by omega)
    refine wpList_append_own_none hgd s x 37 ho base 5 i5 1 Tryz.underlying37 hi v n xs hs hown hx (h v w ?_ ?_)
    · simpa [u8s] using hown
    · exact ⟨rfl, rfl, rfl, Nat.le_refl _, fun _ _ _ => rfl⟩
  | some ad =>
    exact wpList_append_own _ hgd s x 37 ho base 5 i5 (.int .u8 0) 1 1 Tryz.underlying37 hi hz0 hz1 hz3 rfl (by decide) v n xs hs hown ad l.length c (u8s l) hx (by simp) hb.news2 (u8s_one _) (by unfold maxLen; omega) (by omega) hbase
      (fun v' w' h1 h2 _ => h v' w' h1 h2)
end Go.Proofs.Eff

/- Plain laws of a reader that is fed. -/
namespace Go.Proofs.Eff
open Go.RowKit

/-- A packet of a frame, as it lies. -/
theorem unpack_body {w : World} {base c : Nat} {a : Option Addr} {l : List Int} {p : Pkt} (hu : U8s l) (h : unpack l = some p) (hr : w.ownsRow base 5 1 (.slice a p.body.length c) p.body.length (u8s p.body)) (h8 : U8s p.body) (hs : p.body.length ≤ 1099511627776) : BodyAt w (p, a, c) := by
  have h1 : innerP (inside l) = some p := by
    unfold unpack at h
    split at h
    · exact (Option.filter_eq_some_iff.1 h).1
    · cases h
  have h2 : U8s (inside l) := fun x hx => hu x (List.mem_of_mem_take (List.mem_of_mem_drop hx))
  obtain ⟨r1, r2, r3, r4, _⟩ := innerP_some h2 h1
  exact ⟨row_low hr (Nat.zero_le _), h8, hs, by show _ ≤ p.kind ∧ p.kind < _; omega, r2, r3, r4⟩
theorem Tryz.cinfo211 : (Tryz.prog.info? 211).map (fun i => (i.zero, i.size, i.bytes)) = some (some (.agg #[.int .i64 0, .int .u64 0, .int .u64 0, .int .u64 0, .slice none 0 0]), 5, 56) := by kernel_rfl
set_option maxRecDepth 100000 in
/-- A packet is appended to a row of one's own. -/
theorem wpList_append_pk {w : World} {ops : Array Oper} {rest : List Oper} {o : Oper} {a : Act} {Q : Exit → Act → World → Prop} (hgd : o.guard = none) (s y : Operand)
    (ho : o.op = .call { callee := .builtin .append, args := #[s, y], argTypes := #[216, 216] }) (base : Nat) (v : Value) (ps : List Pk) (hs : a.eval s = v) (hown : w.ownsRow base 211 5 v ps.length (pksC ps))
    (x : Pk) (g : Nat) (hb : w.heap[g]? = some (.cells #[.int .i64 x.1.kind, .int .u64 x.1.tok, .int .u64 x.1.seq, .int .u64 x.1.ack, .slice x.2.1 x.1.body.length x.2.2] 211)) (hx : a.eval y = .slice (some ⟨g, 0, none⟩) 1 1) (hn : ps.length ≤ 1099511627776) (hbase : base ≤ w.heap.size)
    (h : ∀ v' w', w'.ownsRow base 211 5 v' (ps.length + 1) (pksC ps ++ pkC x) → w.grownBy w' v.ownBlock → wpList Tryz.prog ops Q rest (a.put o.dst v') w') : wpList Tryz.prog ops Q (o :: rest) a w := by
  obtain ⟨i0, hi, hz0, hz1, hz3⟩ := info_parts Tryz.cinfo211
  refine wpList_append_own _ hgd s y 216 ho base 211 i0 (.agg #[.int .i64 0, .int .u64 0, .int .u64 0, .int .u64 0, .slice none 0 0]) 5 56 Tryz.underlying216 hi hz0 hz1 hz3 rfl (by decide) v ps.length (pksC ps) hs hown ⟨g, 0, none⟩ 1 1 (pkC x) hx rfl ?_ ?_ (by unfold maxLen; omega) (by omega) hbase (fun v' w' h1 h2 _ => h v' w' h1 h2)
  · intro j u hj
    rw [Addr.add_lit, Nat.zero_add, (blk hb).1 j, ← hj]
    simp [pkC]
  · intro u hu
    simp only [pkC, List.mem_cons, List.not_mem_nil, or_false] at hu
    rcases hu with rfl | rfl | rfl | rfl | rfl <;> rfl
/-- Bytes that lie in a part of a row of one's own: for a reader's rest. -/
structure FeedI (w : World) (rb base rty : Nat) (all b : List Int) (v : Value) (wr : World) : Prop where
  mod : Mod [rb] w wr
  sz : base ≤ wr.heap.size
  st : ∃ (ps : List Pk) (ka : Option Addr) (kc : Nat) (d : Int), wr.heap[rb]? = some (.cells #[.slice ka b.length kc, .int .i64 d] rty) ∧ BU wr base ka kc b ∧ (∀ ad, ka = some ad → w.heap.size ≤ ad.block ∧ ad.block < base) ∧ PksAt wr base v ps ∧ scanP all = (ps.map (·.1) ++ (scanP b).1, (scanP b).2)
theorem BU.set {w : World} {top c : Nat} {a : Option Addr} {l : List Int} (h : BU w top a c l) (p : Addr) (u : Value) (hp : ∀ ad, a = some ad → ad.block ≠ p.block) : BU (w.setCell p u) top a c l :=
  ⟨h.cap, h.nil0, fun ad e hc => by
    obtain ⟨g, off, e1, e2, e3⟩ := h.row ad e hc
    have h7 := hp ad e
    subst e1
    refine ⟨g, off, rfl, e2, fun j x hj => ?_⟩
    rw [← e3 j x hj]
    exact World.cell?_of_block (a := ⟨g, off + j, none⟩) (Below.heap_setCell _ _ _ _ h7), h.u8, h.big, h.small⟩
theorem row_mod {w w' : World} {base b e ty size n : Nat} {v : Value} {xs : List Value} {cs : Array Value} (h : w.ownsRow base e size v n xs) (hm : Mod [b] w w') (hb : w.heap[b]? = some (.cells cs ty)) (ht : ty ≠ e) : w'.ownsRow base e size v n xs :=
  hm.row h fun g hg => by
    rcases h.2 with ⟨h4, _⟩ | ⟨g', cap', cur, h4, _, h5, _⟩
    · rw [h4] at hg; simp [Value.ownBlock] at hg
    · rw [h4] at hg
      simp only [Value.ownBlock, Option.some.injEq] at hg
      subst hg
      intro hm2
      simp only [List.mem_cons, List.not_mem_nil, or_false] at hm2
      subst hm2
      rw [h5] at hb
      simp only [Option.some.injEq, Obj.cells.injEq] at hb
      exact ht hb.2.1.symm
theorem PksAt.mod {w w' : World} {base b ty : Nat} {v : Value} {ps : List Pk} {cs : Array Value} (h : PksAt w base v ps) (hm : Mod [b] w w') (hb : w.heap[b]? = some (.cells cs ty)) (h5 : ty ≠ 5) (h211 : ty ≠ 211) : PksAt w' base v ps :=
  ⟨row_mod h.row hm hb h211, fun x hx => ⟨row_mod (h.ok x hx).row hm hb h5, (h.ok x hx).u8, (h.ok x hx).small, (h.ok x hx).k0, (h.ok x hx).t0, (h.ok x hx).s0, (h.ok x hx).a0⟩⟩
theorem PksAt.low {w : World} {base b : Nat} {v : Value} {ps : List Pk} (h : PksAt w base v ps) (hb : b ≤ base) : PksAt w b v ps := by
  obtain ⟨⟨h1, h2⟩, h3⟩ := h
  refine ⟨⟨h1, ?_⟩, h3⟩
  rcases h2 with h2 | ⟨g, c, cur, a1, a2, a3⟩
  · exact .inl h2
  · exact .inr ⟨g, c, cur, a1, Nat.le_trans hb a2, a3⟩
theorem far_map {w : World} {base : Nat} {a : Option Addr} {k : Nat} (h : ∀ ad, a = some ad → w.heap.size ≤ ad.block ∧ ad.block < base) : ∀ ad, (a.map fun x => x.add k) = some ad → w.heap.size ≤ ad.block ∧ ad.block < base := by
  intro ad e
  cases a with
  | none => simp at e
  | some a' =>
    simp only [Option.map_some, Option.some.injEq] at e
    subst e
    rw [add_block]
    exact h a' rfl
/-- Some bytes were dropped. -/
theorem feed_skip {w wr : World} {rb base rty kc c' : Nat} {all b b' : List Int} {v : Value} {ps : List Pk} {ka a' : Option Addr} {d d' : Int} (hM : Mod [rb] w wr) (hsz : base ≤ wr.heap.size) (hb : wr.heap[rb]? = some (.cells #[.slice ka b.length kc, .int .i64 d] rty))
    (hP : PksAt wr base v ps) (hsc : scanP all = (ps.map (·.1) ++ (scanP b).1, (scanP b).2)) (hs : scanP b = scanP b') (hu' : BU wr base a' c' b') (hf : ∀ ad, a' = some ad → w.heap.size ≤ ad.block ∧ ad.block < base) (hrb : rb < w.heap.size) (h5 : rty ≠ 5) (h211 : rty ≠ 211) :
    FeedI w rb base rty all b' v ((wr.setCell ⟨rb, 0, none⟩ (.slice a' b'.length c')).setCell ⟨rb, 1, none⟩ (.int .i64 d')) := by
  have hne : ∀ ad, a' = some ad → ad.block ≠ rb := fun ad e => by have := hf ad e; omega
  have m2 := (mod_setCell wr ⟨rb, 0, none⟩ (.slice a' b'.length c')).trans (mod_setCell _ ⟨rb, 1, none⟩ (.int .i64 d'))
  refine ⟨hM.trans m2, Nat.le_trans hsz m2.size, ps, a', c', d', setB (setB hb _) _, (hu'.set ⟨rb, 0, none⟩ _ hne).set ⟨rb, 1, none⟩ _ hne, hf, hP.mod m2 hb h5 h211, ?_⟩
  rw [hsc, hs]
theorem mod_grown {w w' : World} {row : Option Nat} (h : w.grownBy w' row) : Mod row.toList w w' := by
  obtain ⟨h1, h2, h3, h4, h5⟩ := h
  refine ⟨h1, h2, h3, h4, fun k hk hn => h5 k hk (fun e => hn ?_)⟩
  rw [← e]; simp
/-- A packet was taken. -/
theorem feed_pack {w wr w7 : World} {rb base rty kc c' : Nat} {all b b' : List Int} {v v' : Value} {ps : List Pk} {ka a' : Option Addr} {d : Int} {x : Pk} (hM : Mod [rb] w wr) (hsz : base ≤ wr.heap.size) (hb : wr.heap[rb]? = some (.cells #[.slice ka b.length kc, .int .i64 d] rty))
    (hP : PksAt wr base v ps) (hsc : scanP all = (ps.map (·.1) ++ (scanP b).1, (scanP b).2)) (hs : scanP b = (x.1 :: (scanP b').1, (scanP b').2)) (hx : BodyAt wr x) (hown : w7.ownsRow base 211 5 v' (ps.length + 1) (pksC ps ++ pkC x)) (hg : wr.grownBy w7 v.ownBlock)
    (hu' : BU wr base a' c' b') (hf : ∀ ad, a' = some ad → w.heap.size ≤ ad.block ∧ ad.block < base) (hrb : rb < w.heap.size) (hB : w.heap.size ≤ base) (h5 : rty ≠ 5) (h211 : rty ≠ 211) :
    FeedI w rb base rty all b' v' (w7.setCell ⟨rb, 0, none⟩ (.slice a' b'.length c')) := by
  have hne : ∀ ad, a' = some ad → ad.block ≠ rb := fun ad e => by have := hf ad e; omega
  have hv : ∀ g, v.ownBlock = some g → base ≤ g := fun g e => (hP.row.lt g e).1
  have m2 := mod_grown hg
  have hn : ∀ y, y ∈ v.ownBlock.toList → base ≤ y := fun y hy => hv y (by simpa using hy)
  have hb7 := m2.keep hb (fun hm => by have := hn _ hm; omega)
  have m3 := mod_setCell w7 ⟨rb, 0, none⟩ (.slice a' b'.length c')
  refine ⟨(hM.via m2 (fun y hy => .inr (by have := hn y hy; omega))).trans m3, Nat.le_trans hsz (Nat.le_trans m2.size m3.size), ps ++ [x], a', c', d, setB hb7 _, (hu'.mod m2 hsz hn).set ⟨rb, 0, none⟩ _ hne, hf, (hP.snoc hx hown hg).mod m3 hb7 h5 h211, ?_⟩
  rw [hsc, hs]; simp
/-- The measure of a round: how many bytes are left. -/
def keptLen (rb : Nat) (wr : World) : Nat := match wr.cell? ⟨rb, 0, none⟩ with | some (.slice _ n _) => n | _ => 0
theorem feed_meas {w wr : World} {rb base rty : Nat} {all b : List Int} {v : Value} (h : FeedI w rb base rty all b v wr) : keptLen rb wr = b.length := by
  obtain ⟨_, _, ps, ka, kc, d, hb, _⟩ := h
  unfold keptLen
  rw [(blk hb).1 0]
  rfl
theorem feed_lt {w wr w' : World} {rb base rty n : Nat} {all b : List Int} {v : Value} (h : FeedI w rb base rty all b v w') (hm : keptLen rb wr = n) (hl : b.length < n) : keptLen rb w' < keptLen rb wr := by rw [feed_meas h, hm]; exact hl
/-- What a reader that was fed answers. -/
def FeedR (w : World) (rb rty : Nat) (all : List Int) (e : Ending) (w' : World) : Prop :=
  ∃ v ps ka kc d, e = .returned v ∧ Mod [rb] w w' ∧ w'.heap[rb]? = some (.cells #[.slice ka (scanP all).2.length kc, .int .i64 d] rty) ∧ BU w' w'.heap.size ka kc (scanP all).2 ∧ (∀ ad, ka = some ad → w.heap.size ≤ ad.block ∧ ad.block < w'.heap.size) ∧ PksAt w' w.heap.size v ps ∧ ps.map (·.1) = (scanP all).1
theorem FeedI.drewN {w wr : World} {rb base rty : Nat} {all b : List Int} {v : Value} (h : FeedI w rb base rty all b v wr) (n : Nat) : FeedI w rb base rty all b v (wr.drewN n) := by
  obtain ⟨hM, hsz, ps, ka, kc, d, hb, hu, hf, hP, hsc⟩ := h
  have hx : Ext wr (wr.drewN n) := (Ext.refl wr).drewN n
  exact ⟨hM.ext hx, Nat.le_trans hsz hx.size, ps, ka, kc, d, hx.keep hb, hu.ext hx hsz, hf, hP.ext hx, hsc⟩
theorem feed_ret {w wr : World} {rb base rty : Nat} {all b : List Int} {v : Value} (h : FeedI w rb base rty all b v wr) (hs : scanP b = ([], b)) (hB : w.heap.size ≤ base) : FeedR w rb rty all (.returned v) wr := by
  obtain ⟨hM, hsz, ps, ka, kc, d, hb, hu, hfa, hP, hsc⟩ := h
  rw [hs, List.append_nil] at hsc
  refine ⟨v, ps, ka, kc, d, rfl, hM, ?_, ?_, fun ad e => ⟨(hfa ad e).1, Nat.lt_of_lt_of_le (hfa ad e).2 hsz⟩, hP.low hB, ?_⟩
  · rw [hsc]; exact hb
  · rw [hsc]; exact hu.up hsz
  · rw [hsc]
end Go.Proofs.Eff

/- Plain laws of the program's reader that is fed. -/
namespace Go.Proofs.Eff
open Go.RowKit

/-- A row of one's own lies at a block of its type. -/
theorem own_type {w : World} {base e size n c : Nat} {ad : Addr} {xs : List Value} (h : w.ownsRow base e size (.slice (some ad) n c) n xs) : base ≤ ad.block ∧ ad.block < w.heap.size ∧ ∃ cs, w.heap[ad.block]? = some (.cells cs e) := by
  rcases h.2 with ⟨h2, _⟩ | ⟨g, c', cur, h2, h3, h5, _⟩
  · cases h2
  · simp only [Value.slice.injEq, Option.some.injEq] at h2
    obtain ⟨rfl, _⟩ := h2
    exact ⟨h3, lt_of_block h5, cur, h5⟩
/-- Between two looks: w1 the world since the bytes lie together. -/
def FeedJ (w1 : World) (rb : Nat) (all b : List Int) (ab : Option Addr) (cb : Nat) (v : Value) (wr : World) : Prop :=
  ∃ (ps : List Pk) (ka : Option Addr) (kn kc : Nat) (d : Int), Mod [rb] w1 wr ∧ wr.heap[rb]? = some (.cells #[.bool true, .slice ka kn kc, .int .i64 d] 249) ∧ BU wr w1.heap.size ab cb b ∧ (∀ ad, ab = some ad → ad.block ≠ rb) ∧ PksAt wr w1.heap.size v ps ∧ scanP all = (ps.map (·.1) ++ (scanP b).1, (scanP b).2)
theorem FeedJ.ext {w1 wr wr' : World} {rb cb : Nat} {all b : List Int} {ab : Option Addr} {v : Value} (h : FeedJ w1 rb all b ab cb v wr) (hx : Ext wr wr') : FeedJ w1 rb all b ab cb v wr' := by
  obtain ⟨ps, ka, kn, kc, d, hM, hb, hu, hn, hP, hs⟩ := h
  exact ⟨ps, ka, kn, kc, d, hM.ext hx, hx.keep hb, hu.ext hx hM.size, hn, hP.ext hx, hs⟩
theorem far_sub {a : Option Addr} {g k : Nat} (h : ∀ ad, a = some ad → ad.block ≠ g) : ∀ ad, (a.map fun x => x.add k) = some ad → ad.block ≠ g := by
  intro ad e
  cases a with
  | none => simp at e
  | some a' =>
    simp only [Option.map_some, Option.some.injEq] at e
    subst e
    rw [add_block]
    exact h a' rfl
/-- A byte was dropped. -/
theorem FeedJ.next {w1 wr : World} {rb cb c' : Nat} {all b b' : List Int} {ab a' : Option Addr} {v : Value} (h : FeedJ w1 rb all b ab cb v wr) (hs : scanP b = scanP b') (hu : BU wr w1.heap.size a' c' b') (hf : ∀ ad, a' = some ad → ad.block ≠ rb) (d' : Int) : FeedJ w1 rb all b' a' c' v (wr.setCell ⟨rb, 2, none⟩ (.int .i64 d')) := by
  obtain ⟨ps, ka, kn, kc, d, hM, hb, _, _, hP, hsc⟩ := h
  have m2 := mod_setCell wr ⟨rb, 2, none⟩ (.int .i64 d')
  exact ⟨ps, ka, kn, kc, d', hM.trans m2, setB hb _, hu.set ⟨rb, 2, none⟩ _ hf, hf, hP.mod m2 hb (by decide) (by decide), by rw [hsc, hs]⟩
/-- A packet was taken. -/
theorem FeedJ.pack {w1 wr w' : World} {rb cb c' : Nat} {all b b' : List Int} {ab a' : Option Addr} {v v' : Value} {ps : List Pk} {ka : Option Addr} {kn kc : Nat} {d : Int} {x : Pk} (hM : Mod [rb] w1 wr) (hb : wr.heap[rb]? = some (.cells #[.bool true, .slice ka kn kc, .int .i64 d] 249)) (_hu : BU wr w1.heap.size ab cb b) (hP : PksAt wr w1.heap.size v ps) (hsc : scanP all = (ps.map (·.1) ++ (scanP b).1, (scanP b).2))
    (hs : scanP b = (x.1 :: (scanP b').1, (scanP b').2)) (hx : BodyAt wr x) (hown : w'.ownsRow w1.heap.size 211 5 v' (ps.length + 1) (pksC ps ++ pkC x)) (hg : wr.grownBy w' v.ownBlock) (hrb : rb < w1.heap.size)
    (hu' : BU wr w1.heap.size a' c' b') (hf : ∀ ad, a' = some ad → ad.block ≠ rb) : FeedJ w1 rb all b' a' c' v' w' := by
  have hv : ∀ g, v.ownBlock = some g → w1.heap.size ≤ g := fun g e => (hP.row.lt g e).1
  have m2 := mod_grown hg
  have hn : ∀ y, y ∈ v.ownBlock.toList → w1.heap.size ≤ y := fun y hy => hv y (by simpa using hy)
  refine ⟨ps ++ [x], ka, kn, kc, d, ?_, m2.keep hb (fun hm => by have := hn _ hm; omega), hu'.mod m2 hM.size hn, hf, hP.snoc hx hown hg, ?_⟩
  · exact hM.via m2 (fun y hy => .inr (hn y hy))
  · rw [hsc, hs]; simp
/-- What the program's reader that was fed answers. -/
def FeedW (w : World) (rb : Nat) (ka : Option Addr) (all : List Int) (e : Ending) (w' : World) : Prop :=
  ∃ v ps ka' kc' d', e = .returned v ∧ Mod (rb :: (ka.map (·.block)).toList) w w' ∧ w'.heap[rb]? = some (.cells #[.bool true, .slice ka' (scanP all).2.length kc', .int .i64 d'] 249) ∧ w'.ownsRow w.heap.size 5 1 (.slice ka' (scanP all).2.length kc') (scanP all).2.length (u8s (scanP all).2) ∧ U8s (scanP all).2 ∧ PksAt w' w.heap.size v ps ∧ ps.map (·.1) = (scanP all).1
/-- All is looked at; what is left is kept. -/
theorem FeedJ.done {w w1 wr w' : World} {rb cb c' : Nat} {all b : List Int} {ab a' ka0 : Option Addr} {v : Value} (h : FeedJ w1 rb all b ab cb v wr) (h1 : Mod (ka0.map (·.block)).toList w w1) (hrb : rb < w.heap.size) (hs : scanP b = ([], b)) (hx : Ext wr w') (hown : w'.ownsRow w1.heap.size 5 1 (.slice a' b.length c') b.length (u8s b)) :
    FeedW w rb ka0 all (.returned v) (w'.setCell ⟨rb, 1, none⟩ (.slice a' b.length c')) := by
  obtain ⟨ps, ka, kn, kc, d, hM, hb, hu, _, hP, hsc⟩ := h
  have m2 := mod_setCell w' ⟨rb, 1, none⟩ (.slice a' b.length c')
  have hne : ∀ g, (Value.slice a' b.length c').ownBlock = some g → g ∉ [rb] := fun g e hm => by
    have := (hown.lt g e).1
    have := h1.size
    simp at hm
    omega
  rw [hs, List.append_nil] at hsc
  have hl := h1.size
  refine ⟨v, ps, a', c', d, rfl, ?_, ?_, ?_, ?_, (hP.ext hx).mod m2 (hx.keep hb) (by decide) (by decide) |>.low hl, ?_⟩
  · have m3 := (hM.ext hx).trans m2
    exact (h1.mono (fun x hx => List.mem_cons_of_mem _ hx)).trans (m3.mono (fun x hx => by simp at hx; simp [hx]))
  · rw [hsc]; exact setB (hx.keep hb) _
  · rw [hsc]; exact row_low (m2.row hown hne) hl
  · rw [hsc]; exact hu.u8
  · rw [hsc]
end Go.Proofs.Eff
