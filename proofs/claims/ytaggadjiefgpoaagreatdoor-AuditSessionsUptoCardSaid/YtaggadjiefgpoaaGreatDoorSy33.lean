/- The document's Unpack: behind the head. -/
import Derived.Test.YtaggadjiefgpoaaGreatDoorSy29
import Derived.Test.YtaggadjiefgpoaaGreatDoorSy28
import Derived.Test.YtaggadjiefgpoaaGreatDoorSy32
import Derived.Deep.CutBlock
namespace Go.Proofs.Eff
open Go.RowKit

theorem bytes4_at {x : Int} {j : Nat} (h0 : 0 ≤ x) (h1 : x < 4294967296) (hj : j < 4) : (bytes4 x)[j]? = some (x / 256 ^ j % 256) := by
  have : j = 0 ∨ j = 1 ∨ j = 2 ∨ j = 3 := by omega
  rcases this with rfl | rfl | rfl | rfl
  · simp [bytes4]
  · simp [bytes4]
  · simp [bytes4]
  · simp only [bytes4, List.getElem?_cons_succ, List.getElem?_cons_zero, Option.some.injEq]
    have e : (256 : Int) ^ 3 = 16777216 := by decide
    rw [e]
    omega
theorem own_nil0 (w : World) : w.ownsRow w.heap.size 5 1 (.slice none 0 0) 0 [] := ⟨rfl, .inl ⟨rfl, rfl⟩⟩
theorem div_next (s : Int) {j : Nat} (hj : j < 4) : s / 256 ^ j / 256 = s / 256 ^ (j + 1) := by
  have : j = 0 ∨ j = 1 ∨ j = 2 ∨ j = 3 := by omega
  rcases this with rfl | rfl | rfl | rfl
  · rw [show (256 : Int) ^ 0 = 1 from by decide, show (256 : Int) ^ (0 + 1) = 256 from by decide]; omega
  · rw [show (256 : Int) ^ 1 = 256 from by decide, show (256 : Int) ^ (1 + 1) = 65536 from by decide]; omega
  · rw [show (256 : Int) ^ 2 = 65536 from by decide, show (256 : Int) ^ (2 + 1) = 16777216 from by decide]; omega
  · rw [show (256 : Int) ^ 3 = 16777216 from by decide, show (256 : Int) ^ (3 + 1) = 4294967296 from by decide]; omega
theorem four_eq {a b : List Int} (ha : a.length = 4) (hb : b.length = 4) (h : ∀ j, j < 4 → a[j]? = b[j]?) : a = b := by
  apply List.ext_getElem?
  intro i
  by_cases hi : i < 4
  · exact h i hi
  · rw [List.getElem?_eq_none (by omega), List.getElem?_eq_none (by omega)]
set_option maxRecDepth 100000 in
set_option maxHeartbeats 16000000 in
theorem Unpack98_in {w : World} {top : Nat} {a : Option Addr} {c : Nat} {l : List Int} (h : BU w top a c l) (ht : top ≤ w.heap.size) (hf : frameOK l = true) :
    Calls Tryz.prog 98 #[.slice a l.length c] w (UnpackR w l) := by
  obtain ⟨h8, q0, q1, q2⟩ := frameOK_parts hf
  obtain ⟨g, off, rfl, bl, b0⟩ := h.at (i := 0) (get_wd (by omega))
  have b1 := (h.cells rfl).2 1 _ (get_wd (by omega))
  have b2 := (h.cells rfl).2 2 _ (get_wd (by omega))
  have b3 := (h.cells rfl).2 3 _ (get_wd (by omega))
  rw [Nat.add_zero] at b0
  have bl2 : g < w.heap.size := Nat.lt_of_lt_of_le bl ht
  obtain ⟨x0, x1⟩ := h.u8 (wd l 2) (List.mem_of_getElem? (get_wd (by omega)))
  obtain ⟨y0, y1⟩ := h.u8 (wd l 3) (List.mem_of_getElem? (get_wd (by omega)))
  obtain ⟨m, hm⟩ : ∃ m, l.length = m + 4 := ⟨l.length - 4, by omega⟩
  have hcap := h.cap
  have hsm := h.small
  have BZB : Hid ((w.alloc (.cells #[.int .i64 0, .int .u64 0, .int .u64 0, .int .u64 0, .slice none 0 0] 211)).heap[w.heap.size]? = some (.cells #[.int .i64 0, .int .u64 0, .int .u64 0, .int .u64 0, .slice none 0 0] 211)) := newB w _ _ rfl
  have HSUM : Hid (∀ W, Ext w W → Calls Tryz.prog 143 #[.slice (some ⟨g, off, none⟩) m c] W fun e w' => e = .returned (.int .u32 (crc (l.take m))) ∧ w' = W) := fun W hE => by
    have := sum143 ((h.ext hE ht).front m (by omega))
    rwa [List.length_take, Nat.min_eq_left (by omega)] at this
  have BI : Hid (∀ W, Ext w W → BU W top (some ⟨g, off + 4, none⟩) (c - 4) (inside l)) := fun W hE => by
    have := (h.ext hE ht).sub 4 m (by omega) (by omega)
    rw [if_neg (by omega)] at this
    simp only [Option.map_some, Nat.mul_one, Addr.add_lit] at this
    unfold inside
    rwa [show l.length - 4 = m by omega]
  have LI : Hid ((inside l).length = m - 4) := by show _ = _; simp [inside]; omega
  have BD : Hid (∀ W, Ext w W → ∀ j, j < 4 → ∃ z, (l.drop m)[j]? = some z ∧ 0 ≤ z ∧ z < 256 ∧ W.cell? ⟨g, off + (m + j), none⟩ = some (.int .u8 z)) := fun W hE j hj => by
    have hz := get_wd (l := l) (i := m + j) (by omega)
    have hu := h.u8 _ (List.mem_of_getElem? hz)
    exact ⟨wd l (m + j), by rw [List.getElem?_drop]; exact hz, hu.1, hu.2, ((h.ext hE ht).cells rfl).2 _ _ hz⟩
  obtain ⟨s0, s1⟩ := crc_in (l.take m)
  have HS : Hid (sumOK l = decide (l.drop m = bytes4 (crc (l.take m)))) := sumOK_at hm
  have LD : Hid ((l.drop m).length = 4) := by show _ = _; rw [List.length_drop]; omega
  have FIN1 : Hid (sumOK l = false → ∀ w', Ext w w' → UnpackR w l (.returned (.tuple #[zeroP, .int .i64 171])) w') := fun hs w' hx => UnpackR.bad (unpack_sum hs) hx 171 (by omega) (by omega)
  have FIN2 : Hid (sumOK l = true → unpack l = (innerP (inside l)).filter mayP) := fun hs => unpack_in hf hs
  have q3 : wd l 2 + 256 * wd l 3 = (l.length : Int) - 8 := by unfold lenAt at q2; omega
  rw [q0] at b0
  rw [q1] at b1
  clear h hf q2 q0 q1
  generalize crc (l.take m) = s at *
  generalize wd l 2 = x at *
  generalize wd l 3 = y at *
  have HM := Lib.hid hm
  have l0 : 0 < l.length := by omega
  have lne : l ≠ [] := List.length_pos_iff.1 l0
  have l1 : (1 : Int) < (l.length : Int) := by omega
  have l2 : (2 : Int) < (l.length : Int) := by omega
  have l3 : (3 : Int) < (l.length : Int) := by omega
  have r1 : IntKind.i64.wrap (256 * y) = 256 * y := IntWalk.i64_in _ (by omega)
  have r2 : IntKind.i64.wrap (x + 256 * y) = x + 256 * y := IntWalk.i64_in _ (by omega)
  have r3 : IntKind.i64.wrap ((l.length : Int) - 8) = (l.length : Int) - 8 := IntWalk.i64_in _ (by omega)
  have k2b : (x + 256 * y != (l.length : Int) - 8) = false := by simp [q3]
  have hd8 : decide ((l.length : Int) < 8) = false := by simp; omega
  have HSM := Lib.hid hsm
  have HCAP := Lib.hid hcap
  have H8 := Lib.hid h8
  have Q3 := Lib.hid q3
  clear hm h8 hsm hcap q3
  go_enter Tryz.func98, Tryz.ntmps98
  go_wp2_with fail
  go_quiet (fail)
  clear b0 b1 b2 b3 l0 lne l1 l2 l3 r1 r2 r3 hd8 k2b
  go_upto_region 3 with fail
  have E1 := Lib.hid (((Ext.refl w).alloc (.cells #[.int .i64 0, .int .u64 0, .int .u64 0, .int .u64 0, .slice none 0 0] 211)).drewN nq)
  have BZ1 := Lib.hid ((Ext.refl (w.alloc (.cells #[.int .i64 0, .int .u64 0, .int .u64 0, .int .u64 0, .slice none 0 0] 211))).drewN nq |>.keep BZB.out)
  generalize (w.alloc (.cells #[.int .i64 0, .int .u64 0, .int .u64 0, .int .u64 0, .slice none 0 0] 211)).drewN nq = w1 at *
  rw [HM.out]
  have hmx : m ≤ 1099511627776 := by have := HSM.out; have := HM.out; omega
  have hm8 : 4 ≤ m := by have := H8.out; have := HM.out; omega
  have hcap : m + 4 ≤ c := by have := HCAP.out; have := HM.out; omega
  have hcm : ¬ c = m := by omega
  have hm0 : ¬ m = 0 := by omega
  clear BZB HSM H8 HCAP Q3
  go_upto_region 5 with (go_at_call 143; refine (HSUM.out _ E1.out).mono ?_; rintro e w2 ⟨rfl, rfl⟩)
  clear HSUM
  go_wp2_with fail
  go_loopw [6, 5] (fun kk sv wr => ∃ j : Nat, j ≤ 4 ∧ kk = .int .i64 j ∧ sv = .int .u32 (s / 256 ^ j) ∧ wr = w2 ∧ ∀ i, i < j → (l.drop m)[i]? = (bytes4 s)[i]?) (fun kk _ _ => 4 - (intOf kk).toNat)
  case atStart => exact ⟨0, by omega, rfl, by simp, rfl, fun i hi => absurd hi (Nat.not_lt_zero _)⟩
  case round =>
    obtain ⟨j, hj, rfl, rfl, rfl, heq⟩ := hrel
    have HEQ := Lib.hid heq
    clear heq
    obtain ⟨d1, d2⟩ := blk BZ1.out
    by_cases hj4 : j < 4
    · obtain ⟨z, hz, z0, z1, bz⟩ := BD.out wr E1.out j hj4
      have HZ := Lib.hid hz
      have B4 := Lib.hid (bytes4_at s0 s1 hj4)
      have t0 : 0 ≤ s / 256 ^ j := Int.ediv_nonneg s0 (Int.le_of_lt (Int.pow_pos (by omega)))
      have t1 : s / 256 ^ j < 4294967296 := Int.lt_of_le_of_lt (Int.ediv_le_self _ s0) s1
      have TN : Hid (s / 256 ^ j / 256 = s / 256 ^ (j + 1)) := by
        exact div_next s hj4
      have hmj : (m : Int) + (j : Int) < (m : Int) + 4 := by omega
      clear hz
      generalize s / 256 ^ j = t at *
      by_cases hzt : z = t % 256
      · have HZT := Lib.hid hzt
        subst hzt
        go_wp2_with fail
        exact ⟨⟨j + 1, by omega, by go_num, by rw [TN.out], trivial, fun i hi => by
          by_cases h6 : i < j
          · exact HEQ.out i h6
          · obtain rfl : i = j := by omega
            rw [HZ.out, B4.out]⟩, by simp only [intOf]; omega⟩
      · have HZT := Lib.hid hzt
        have hne : (z != t % 256) = true := by simp [hzt]
        have RT : Hid (sumOK l = false) := HS.out.trans (decide_eq_false (fun e => by
          have h6 := HZ.out
          rw [e, B4.out] at h6
          exact hzt (Option.some.inj h6).symm))
        have FN := Lib.hid (FIN1.out RT.out)
        clear hzt FIN1 FIN2
        go_wp2_with fail
        (try simp only [Exit.inBlock, Exit.then])
        refine bodyPost_ret (v := .tuple #[zeroP, .int .i64 171]) ?_ rfl (FN.out _ ?_)
        · rw [results_cell_tmp rfl]
          go_simp
        · repeat' (first | exact E1.out | exact Ext.refl _ | refine Ext.setCell ?_ (Nat.le_refl _) _ | refine Ext.alloc ?_ _)
    · obtain rfl : j = 4 := by omega
      have FIN := Lib.hid (FIN2.out (HS.out.trans (decide_eq_true (four_eq LD.out rfl HEQ.out))))
      generalize s / 256 ^ 4 = t at *
      clear HEQ FIN1 FIN2 HS LD BD d1 d2
      generalize inside l = IN at *
      have hc4 : ¬ c = 4 := by omega
      go_upto_region 12 with fail
      have RD0 : Hid (RdAt (wr.alloc (.cells #[.slice (some ⟨g, off + 4, none⟩) (m - 4) (c - 4), .bool false] 257)) wr.heap.size 257 IN false) :=
        ⟨some ⟨g, off + 4, none⟩, c - 4, by rw [LI.out]; exact newB _ _ _ rfl, (BI.out _ (E1.out.alloc _)).up (Nat.le_trans ht E1.out.size)⟩
      have E4 := Lib.hid (E1.out.alloc (.cells #[.slice (some ⟨g, off + 4, none⟩) (m - 4) (c - 4), .bool false] 257))
      have BX4 := Lib.hid (keepB BZ1.out (.cells #[.slice (some ⟨g, off + 4, none⟩) (m - 4) (c - 4), .bool false] 257))
      have HPB : Hid (w.heap.size < wr.heap.size) := lt_of_block BZ1.out
      generalize wr.alloc (.cells #[.slice (some ⟨g, off + 4, none⟩) (m - 4) (c - 4), .bool false] 257) = w4 at *
      generalize wr.heap.size = pb at *
      clear BI BZ1 E1
      go_upto_region 13 with (first
        | (go_at_call 144; refine (byte144 RD0.out).mono ?_; rintro e w5 ⟨x, l', bad', rfl, x0, x1, h2, h3, h4, h5⟩; obtain ⟨st1, hst, hs1, hs2⟩ : ∃ st1, Rd w5 pb 257 st1 ∧ (∀ y r, IN = y :: r → x = y ∧ st1 = some r) ∧ (IN = [] → st1 = none) := ⟨_, h2.close, fun y r hy => (by obtain ⟨a1, a2, a3⟩ := h4 y r hy; subst a2; subst a3; exact ⟨a1, rfl⟩), fun hy => (by obtain ⟨a1, a2⟩ := h5 hy; subst a2; rfl)⟩; have S1 := Lib.hid hst; have M1 := Lib.hid h3; have HS1 := Lib.hid hs1; have HS0 := Lib.hid hs2; clear h2 h3 h4 h5 hst hs1 hs2)
        | (go_at_call 145; refine (count145 S1.out).mono ?_; rintro e w6 ⟨rfl, h2, h3⟩; have S2 := Lib.hid h2; have M2 := Lib.hid h3; clear h2 h3))
      have M12 := Lib.hid (M1.out.trans M2.out)
      have E6 := Lib.hid (Mod.ext_of_new E4.out M12.out (Nat.le_of_lt HPB.out))
      have BX6 := Lib.hid (M12.out.keep BX4.out (by have := HPB.out; simp; omega))
      have HPX : Hid (pb < w6.heap.size) := S2.out.lt
      have S7 := Lib.hid (S2.out.ext ((Ext.refl w6).alloc (.cells #[.int .i64 x, .int .u64 (countS st1).1, .int .u64 0, .int .u64 0, .slice none 0 0] 211)))
      have B7 := Lib.hid (newB w6 (.cells #[.int .i64 x, .int .u64 (countS st1).1, .int .u64 0, .int .u64 0, .slice none 0 0] 211) _ rfl)
      have E7 := Lib.hid (E6.out.alloc (.cells #[.int .i64 x, .int .u64 (countS st1).1, .int .u64 0, .int .u64 0, .slice none 0 0] 211))
      have BX7 := Lib.hid (keepB BX6.out (.cells #[.int .i64 x, .int .u64 (countS st1).1, .int .u64 0, .int .u64 0, .slice none 0 0] 211))
      have INP : Hid (innerP IN = (countS (countS (countS st1).2).2).2.map fun r => ⟨x, (countS st1).1, (countS (countS st1).2).1, (countS (countS (countS st1).2).2).1, r⟩) := by
        show _ = _
        rw [innerP_eq]
        cases IN with
        | nil => rw [HS0.out rfl]; rfl
        | cons y r =>
          obtain ⟨a1, a2⟩ := HS1.out y r rfl
          rw [a2, a1]
          exact innerS_cons y r
      generalize (countS st1).1 = tt at *
      generalize (countS st1).2 = st2 at *
      generalize w6.alloc (.cells #[.int .i64 x, .int .u64 tt, .int .u64 0, .int .u64 0, .slice none 0 0] 211) = w7 at *
      have HB7 : Hid (w.heap.size < w6.heap.size) := lt_of_block BX6.out
      generalize w6.heap.size = bx at *
      clear M12 E6 BX6 S2 M1 M2 S1 HS0 HS1 RD0 E4 BX4 LI
      go_upto_region 14 with (go_at_call 145; refine (count145 S7.out).mono ?_; rintro e w8 ⟨rfl, h2, h3⟩; have S8 := Lib.hid h2; have M8 := Lib.hid h3; have B8 := Lib.hid (h3.keep B7.out (by have := HPX.out; simp; omega)); obtain ⟨p1, p2⟩ := blk B8.out; clear h2 h3)
      have S9 := Lib.hid (Rd.low (s := (countS st2).2) S8.out (w' := w8.setCell ⟨bx, 2, none⟩ (.int .u64 (countS st2).1)) (fun j hj => Below.heap_setCell _ _ _ _ (by have := HPX.out; show j ≠ bx; omega)))
      have B9 := Lib.hid (setB B8.out (i := 2) (.int .u64 (countS st2).1))
      have E9 := Lib.hid ((Mod.ext_of_new E7.out M8.out (Nat.le_of_lt HPB.out)).setCell (p := ⟨bx, 2, none⟩) (Nat.le_of_lt HB7.out) (.int .u64 (countS st2).1))
      have BX9 := Lib.hid (keepS (a := ⟨bx, 2, none⟩) (M8.out.keep BX7.out (by have := HPB.out; simp; omega)) (Nat.ne_of_lt HB7.out) (.int .u64 (countS st2).1))
      clear p1 p2 S8 M8 B8 S7 B7 E7 BX7
      generalize w8.setCell ⟨bx, 2, none⟩ (.int .u64 (countS st2).1) = w9 at *
      generalize (countS st2).1 = qq at *
      generalize (countS st2).2 = st3 at *
      go_upto_region 15 with (go_at_call 145; refine (count145 S9.out).mono ?_; rintro e w10 ⟨rfl, h2, h3⟩; have S8 := Lib.hid h2; have M8 := Lib.hid h3; have B8 := Lib.hid (h3.keep B9.out (by have := HPX.out; simp; omega)); obtain ⟨p1, p2⟩ := blk B8.out; clear h2 h3)
      have S4 := Lib.hid (Rd.low (s := (countS st3).2) S8.out (w' := w10.setCell ⟨bx, 3, none⟩ (.int .u64 (countS st3).1)) (fun j hj => Below.heap_setCell _ _ _ _ (by have := HPX.out; show j ≠ bx; omega)))
      have B79 := Lib.hid (setB B8.out (i := 3) (.int .u64 (countS st3).1))
      have E9' := Lib.hid ((Mod.ext_of_new E9.out M8.out (Nat.le_of_lt HPB.out)).setCell (p := ⟨bx, 3, none⟩) (Nat.le_of_lt HB7.out) (.int .u64 (countS st3).1))
      have BX9' := Lib.hid (keepS (a := ⟨bx, 3, none⟩) (M8.out.keep BX9.out (by have := HPB.out; simp; omega)) (Nat.ne_of_lt HB7.out) (.int .u64 (countS st3).1))
      clear p1 p2 S8 M8 B8 S9 B9 E9 BX9
      have E9 := E9'
      have BX9 := BX9'
      clear E9' BX9'
      generalize w10.setCell ⟨bx, 3, none⟩ (.int .u64 (countS st3).1) = w11 at *
      obtain ⟨w9, rfl⟩ : ∃ w9, w9 = w11 := ⟨_, rfl⟩
      generalize (countS st3).1 = kk at *
      generalize (countS st3).2 = fs at *
      obtain ⟨lf, bad, hrd, hf1, hf2⟩ := S4.out.open
      have HF1 := Lib.hid hf1
      have HF2 := Lib.hid hf2
      obtain ⟨af, cf, hbf, huf⟩ := hrd
      have HUF9 := Lib.hid huf
      have U8F := Lib.hid huf.u8
      have hcf := huf.cap
      have hbg := huf.small
      have BP9 := Lib.hid hbf
      have HPL := HPX
      clear hbf huf hf1 hf2 S4
      obtain ⟨d1, d2⟩ := blk BP9.out
      obtain ⟨d3, d4⟩ := blk B79.out
      obtain ⟨i5, hi, hz0, hz1, hz3⟩ := info_parts Tryz.cinfo5
      have BXL := Lib.hid (lt_of_block B79.out)
      cases af with
      | none =>
        obtain rfl : cf = 0 := HUF9.out.nil0 rfl
        obtain rfl : lf = [] := List.eq_nil_of_length_eq_zero (by omega)
        go_upto_region 16 with (at_builtin; refine wpList_append_own_none rfl _ _ 37 rfl w9.heap.size 5 i5 1 Tryz.underlying37 hi _ 0 [] rfl (own_nil0 w9) rfl ?_)
        have E10 := Lib.hid (Ext.refl w9)
        have R10 := Lib.hid (own_nil0 w9)
        obtain ⟨b1, b2⟩ := blk BP9.out
        obtain ⟨b3, b4⟩ := blk B79.out
        clear d1 d2 d3 d4
        obtain ⟨w10, rfl⟩ : ∃ w10, w10 = w9 := ⟨_, rfl⟩
        have NE1 : Hid (pb ≠ bx) := by have := HPL.out; show pb ≠ bx; omega
        have E11 := Lib.hid ((E9.out.trans E10.out).setCell (p := ⟨bx, 4, none⟩) (Nat.le_of_lt HB7.out) (.slice none 0 0))
        have BP11 := Lib.hid (keepS (a := ⟨bx, 4, none⟩) (E10.out.keep BP9.out) NE1.out (.slice none 0 0))
        have B711 := Lib.hid (setB (E10.out.keep B79.out) (i := 4) (.slice none 0 0))
        have BX11 := Lib.hid (keepS (a := ⟨bx, 4, none⟩) (E10.out.keep BX9.out) (Nat.ne_of_lt HB7.out) (.slice none 0 0))
        have R11 := Lib.hid ((mod_setCell w10 ⟨bx, 4, none⟩ (.slice none 0 0)).row R10.out (fun q hq => by have h1 := (R10.out.lt q hq).1; have h2 := BXL.out; simp; omega))
        have L11 : Hid (0 ≤ 1099511627776) := hbg
        clear b1 b2 b3 b4 E9 E10 BP9 B79 BX9 R10
        generalize w10.setCell ⟨bx, 4, none⟩ (.slice none 0 0) = w11 at *
        obtain ⟨b1, b2⟩ := blk BP11.out
        obtain ⟨b5, b6⟩ := blk BX11.out
        cases bad with
        | true =>
          have FX : Hid (unpack l = none) := by show _ = _; rw [FIN.out, INP.out, HF2.out rfl]; rfl
          go_wp2_with fail
          (try simp only [Exit.inBlock, Exit.then])
          refine bodyPost_ret (v := .tuple #[zeroP, .int .i64 172]) ?_ rfl (UnpackR.bad FX.out ?_ 172 (by omega) (by omega))
          · rw [results_cell_tmp rfl]
            go_simp
          · repeat' (first | exact E11.out | exact Ext.refl _ | refine Ext.setCell ?_ (Nat.le_refl _) _ | refine Ext.alloc ?_ _)
        | false =>
          have FY : Hid (unpack l = (some (⟨x, tt, qq, kk, []⟩ : Pkt)).filter mayP) := by show _ = _; rw [FIN.out, INP.out, HF1.out rfl]; rfl
          obtain ⟨b3, b4⟩ := blk B711.out
          cases hmay : (decide (1 ≤ x) && decide (x ≤ 7) && decide (0 ≤ 1024)) with
          | false =>
            have HM := Lib.hid hmay
            have FX : Hid (unpack l = none) := by show _ = _; rw [FY.out]; exact Option.filter_some_neg (by unfold mayP; exact HM.out)
            clear hmay
            go_wp2_with (go_at_call 146; refine (may146 w11 x tt qq kk none 0 0).mono ?_; rintro e w12 ⟨rfl, hE⟩; rw [HM.out]; obtain ⟨b7, b8⟩ := blk (hE.keep BX11.out); have E12 := Lib.hid (E11.out.trans hE); clear hE)
            (try simp only [Exit.inBlock, Exit.then])
            refine bodyPost_ret (v := .tuple #[zeroP, .int .i64 172]) ?_ rfl (UnpackR.bad FX.out ?_ 172 (by omega) (by omega))
            · rw [results_cell_tmp rfl]
              go_simp
            · repeat' (first | exact E12.out | exact Ext.refl _ | refine Ext.setCell ?_ (Nat.le_refl _) _ | refine Ext.alloc ?_ _)
          | true =>
            have HM := Lib.hid hmay
            have FX : Hid (unpack l = some (⟨x, tt, qq, kk, []⟩ : Pkt)) := by show _ = _; rw [FY.out]; exact Option.filter_some_pos (by unfold mayP; exact HM.out)
            clear hmay
            go_wp2_with (go_at_call 146; refine (may146 w11 x tt qq kk none 0 0).mono ?_; rintro e w12 ⟨rfl, hE⟩; rw [HM.out]; obtain ⟨b7, b8⟩ := blk (hE.keep BX11.out); obtain ⟨b9, b10⟩ := blk (hE.keep B711.out); have X12 := Lib.hid hE; have E12 := Lib.hid (E11.out.trans hE); clear hE)
            (try simp only [Exit.inBlock, Exit.then])
            refine bodyPost_ret (v := .tuple #[.agg #[.int .i64 x, .int .u64 tt, .int .u64 qq, .int .u64 kk, .slice none 0 0], .int .i64 0]) ?_ rfl (UnpackR.ok FX.out ?_ ?_)
            · rw [results_cell_tmp rfl]
              go_simp
            · repeat' (first | exact E12.out | exact Ext.refl _ | refine Ext.setCell ?_ (Nat.le_refl _) _ | refine Ext.alloc ?_ _)
            · exact ⟨row_low (Mod.row ((((((Mod.refl [w.heap.size] w12).set _ _).set _ _).set _ _).set _ _).set _ _) (row_keep R11.out X12.out) (fun q hq => by have h1 := (R11.out.lt q hq).1; have h2 := BXL.out; have h3 := HB7.out; simp; omega)) (by have h2 := BXL.out; have h3 := HB7.out; omega), U8F.out, L11.out⟩
      | some ad =>
        go_upto_region 16 with (at_builtin; (refine wpList_append_own _ rfl _ _ 37 rfl w9.heap.size 5 i5 (.int .u8 0) 1 1 Tryz.underlying37 hi hz0 hz1 hz3 rfl (by decide) _ 0 [] rfl (own_nil0 w9) ad lf.length cf (u8s lf) rfl (by simp) HUF9.out.news (u8s_one _) (by unfold maxLen; omega) (by omega) (Nat.le_refl _) ?_; intro v' w10 hown hgrow hnil2; rw [Nat.zero_add] at hown; obtain ⟨ad9, c9, rfl, _⟩ := own_any hown; have E10 : Hid (Ext w9 w10) := (Ext.refl w9).grown (show World.grownBy _ w10 none from hgrow) (fun q hq => (by cases hq)); have R10 := Lib.hid hown; obtain ⟨b1, b2⟩ := blk (E10.out.keep BP9.out); obtain ⟨b3, b4⟩ := blk (E10.out.keep B79.out); clear hown hgrow hnil2 d1 d2 d3 d4))
        have NE1 : Hid (pb ≠ bx) := by have := HPL.out; show pb ≠ bx; omega
        have E11 := Lib.hid ((E9.out.trans E10.out).setCell (p := ⟨bx, 4, none⟩) (Nat.le_of_lt HB7.out) (.slice ad9 lf.length c9))
        have BP11 := Lib.hid (keepS (a := ⟨bx, 4, none⟩) (E10.out.keep BP9.out) NE1.out (.slice ad9 lf.length c9))
        have B711 := Lib.hid (setB (E10.out.keep B79.out) (i := 4) (.slice ad9 lf.length c9))
        have BX11 := Lib.hid (keepS (a := ⟨bx, 4, none⟩) (E10.out.keep BX9.out) (Nat.ne_of_lt HB7.out) (.slice ad9 lf.length c9))
        have R11 := Lib.hid ((mod_setCell w10 ⟨bx, 4, none⟩ (.slice ad9 lf.length c9)).row R10.out (fun q hq => by have h1 := (R10.out.lt q hq).1; have h2 := BXL.out; simp; omega))
        have L11 : Hid (lf.length ≤ 1099511627776) := hbg
        clear b1 b2 b3 b4 E9 E10 BP9 B79 BX9 R10
        generalize w10.setCell ⟨bx, 4, none⟩ (.slice ad9 lf.length c9) = w11 at *
        obtain ⟨b1, b2⟩ := blk BP11.out
        obtain ⟨b5, b6⟩ := blk BX11.out
        cases bad with
        | true =>
          have FX : Hid (unpack l = none) := by show _ = _; rw [FIN.out, INP.out, HF2.out rfl]; rfl
          go_wp2_with fail
          (try simp only [Exit.inBlock, Exit.then])
          refine bodyPost_ret (v := .tuple #[zeroP, .int .i64 172]) ?_ rfl (UnpackR.bad FX.out ?_ 172 (by omega) (by omega))
          · rw [results_cell_tmp rfl]
            go_simp
          · repeat' (first | exact E11.out | exact Ext.refl _ | refine Ext.setCell ?_ (Nat.le_refl _) _ | refine Ext.alloc ?_ _)
        | false =>
          have FY : Hid (unpack l = (some (⟨x, tt, qq, kk, lf⟩ : Pkt)).filter mayP) := by show _ = _; rw [FIN.out, INP.out, HF1.out rfl]; rfl
          obtain ⟨b3, b4⟩ := blk B711.out
          cases hmay : (decide (1 ≤ x) && decide (x ≤ 7) && decide (lf.length ≤ 1024)) with
          | false =>
            have HM := Lib.hid hmay
            have FX : Hid (unpack l = none) := by show _ = _; rw [FY.out]; exact Option.filter_some_neg (by unfold mayP; exact HM.out)
            clear hmay
            go_wp2_with (go_at_call 146; refine (may146 w11 x tt qq kk ad9 lf.length c9).mono ?_; rintro e w12 ⟨rfl, hE⟩; rw [HM.out]; obtain ⟨b7, b8⟩ := blk (hE.keep BX11.out); have E12 := Lib.hid (E11.out.trans hE); clear hE)
            (try simp only [Exit.inBlock, Exit.then])
            refine bodyPost_ret (v := .tuple #[zeroP, .int .i64 172]) ?_ rfl (UnpackR.bad FX.out ?_ 172 (by omega) (by omega))
            · rw [results_cell_tmp rfl]
              go_simp
            · repeat' (first | exact E12.out | exact Ext.refl _ | refine Ext.setCell ?_ (Nat.le_refl _) _ | refine Ext.alloc ?_ _)
          | true =>
            have HM := Lib.hid hmay
            have FX : Hid (unpack l = some (⟨x, tt, qq, kk, lf⟩ : Pkt)) := by show _ = _; rw [FY.out]; exact Option.filter_some_pos (by unfold mayP; exact HM.out)
            clear hmay
            go_wp2_with (go_at_call 146; refine (may146 w11 x tt qq kk ad9 lf.length c9).mono ?_; rintro e w12 ⟨rfl, hE⟩; rw [HM.out]; obtain ⟨b7, b8⟩ := blk (hE.keep BX11.out); obtain ⟨b9, b10⟩ := blk (hE.keep B711.out); have X12 := Lib.hid hE; have E12 := Lib.hid (E11.out.trans hE); clear hE)
            (try simp only [Exit.inBlock, Exit.then])
            refine bodyPost_ret (v := .tuple #[.agg #[.int .i64 x, .int .u64 tt, .int .u64 qq, .int .u64 kk, .slice ad9 lf.length c9], .int .i64 0]) ?_ rfl (UnpackR.ok FX.out ?_ ?_)
            · rw [results_cell_tmp rfl]
              go_simp
            · repeat' (first | exact E12.out | exact Ext.refl _ | refine Ext.setCell ?_ (Nat.le_refl _) _ | refine Ext.alloc ?_ _)
            · exact ⟨row_low (Mod.row ((((((Mod.refl [w.heap.size] w12).set _ _).set _ _).set _ _).set _ _).set _ _) (row_keep R11.out X12.out) (fun q hq => by have h1 := (R11.out.lt q hq).1; have h2 := BXL.out; have h3 := HB7.out; simp; omega)) (by have h2 := BXL.out; have h3 := HB7.out; omega), U8F.out, L11.out⟩
theorem Unpack98 {w : World} {top : Nat} {a : Option Addr} {c : Nat} {l : List Int} (h : BU w top a c l) (ht : top ≤ w.heap.size) : Calls Tryz.prog 98 #[.slice a l.length c] w (UnpackR w l) := by
  cases hf : frameOK l with
  | false => exact Unpack98_frame h ht hf
  | true => exact Unpack98_in h ht hf
end Go.Proofs.Eff
