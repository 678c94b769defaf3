/- The document's heap: Next, keeps. -/
import Derived.Test.YtaggadjiefgpoaaGreatDoorRf2
namespace Go.Proofs.Eff
open Go.RowKit

section
variable {w : World} {L : HLoc} {rv : Value} {h : HeapS} {os : List Nat}

set_option maxRecDepth 100000 in
set_option maxHeartbeats 1000000 in
theorem next105 (ha : RefAt w L rv h) (wf : WFR h os) (o : Int) (h0 : 0 ≤ o) (h1 : o < 4294967296) (ho : isO os o = true) :
    Calls Tryz.prog 105 #[.pointer (some ⟨L.b, 0, none⟩), .int .u32 o] w fun e w' => e = .returned (.int .u32 (nextO h.words o)) ∧ Ext w w' := by
  have hmem : (o / 2).toNat ∈ os := by have : isObj o = true ∧ (o / 2).toNat ∈ os := by simpa [isO] using ho
                                       exact this.2
  have hm := wf.mem hmem
  have hw := wf.rng (o / 2).toNat
  have hz : (hdrAt h.words (o / 2).toNat).size = sizeAt h.words (o / 2).toNat := by simp [hdrAt, hdrOf, sizeAt]; omega
  have hbig := wf.big
  have HH := Lib.hid (header64 ha wf o h0 h1 ho)
  have KW : Hid (∀ W, Ext w W → _) := fun W hE => (blk (hE.keep ha.blk)).1
  generalize hdrAt h.words (o / 2).toNat = H at *
  obtain ⟨A, B, C, c, s⟩ := H
  simp only [Hdr.val, Hdr.cells] at hz HH
  subst hz
  have hF := field65_0
  unfold nextO objAt
  have hb1 : 0 ≤ o / 2 := by omega
  have hb2 : o / 2 + 3 + (sizeAt h.words (o / 2).toNat : Int) ≤ (h.words.length : Int) := by omega
  generalize sizeAt h.words (o / 2).toNat = Z at *
  clear ha wf ho hmem hm hw
  by_cases hlt : o / 2 + 3 + (Z : Int) < (h.words.length : Int)
  · rw [if_pos hlt]
    have he : ((o / 2 + 3 + (Z : Int)) == (h.words.length : Int)) = false := by rw [beq_eq_false_iff_ne]; omega
    go_enter Tryz.func105, Tryz.ntmps105
    go_wp2_with (go_at_call 64; refine HH.out.mono ?_; rintro e w1 ⟨rfl, hb⟩; have c1 := KW.out _ hb; have X := Lib.hid hb; clear hb)
    go_ret
    exact ⟨rfl, X.out⟩
  · rw [if_neg hlt]
    have he : ((o / 2 + 3 + (Z : Int)) == (h.words.length : Int)) = true := by rw [beq_iff_eq]; omega
    go_enter Tryz.func105, Tryz.ntmps105
    go_wp2_with (go_at_call 64; refine HH.out.mono ?_; rintro e w1 ⟨rfl, hb⟩; have c1 := KW.out _ hb; have X := Lib.hid hb; clear hb)
    go_ret
    exact ⟨rfl, X.out⟩

theorem first104' (ha : RefAt w L rv h) (wf : WFR h os) :
    Calls Tryz.prog 104 #[.pointer (some ⟨L.b, 0, none⟩)] w fun e w' => e = .returned (.int .u32 (firstO os)) ∧ w = w' := by
  have := first104 ha wf.big
  have e : (if h.words.length = 1 then 0 else 2 : Int) = firstO os := by
    rw [← wf.laid.first]
    unfold objAt
    have := wf.pos
    by_cases h1 : h.words.length = 1
    · rw [if_pos h1, if_neg (by omega)]
    · rw [if_neg h1, if_pos (by omega)]; rfl
  rw [e] at this
  exact this

/-- Between two objects. -/
structure KInv (w : World) (h : HeapS) (os : List Nat) (pre rest : List Nat) (mb : Nat) (wr : World) : Prop where
  ext : Ext w wr
  map : MapAt wr mb .u32 (serA h.words pre)
  mbase : w.heap.size ≤ mb
  sb : soundB h os = (okAll h os pre rest && h.roots.all (valueOK os))

theorem wd_in {l : List Int} {i : Nat} (hi : i < l.length) : wd l i ∈ l := by simp [wd, hi]
theorem div2 (x : Nat) : (2 * (x : Int)) / 2 = x := by omega

set_option maxRecDepth 100000 in
set_option maxHeartbeats 4000000 in
theorem keeps46 (ha : RefAt w L (.slice (some ⟨L.gr, 0, none⟩) h.roots.length L.cr) h) (hro : w.ownsRow 0 41 1 (.slice (some ⟨L.gr, 0, none⟩) h.roots.length L.cr) h.roots.length (u32s h.roots)) (wf : WF h os) :
    Calls Tryz.prog 46 #[.pointer (some ⟨L.b, 0, none⟩)] w fun e w' => e = .returned (.bool (soundB h os)) ∧ Ext w w' := by
  have hmm := @run_makeMap Tryz.prog
  have wfr := wf.wfr
  have HF := Lib.hid (fun W (hE : Ext w W) => first104' (ha.keep hE) wfr)
  have HNX := Lib.hid (fun pre x rest he hx => wf.laid.next (pre := pre) (x := x) (rest := rest) he hx)
  have HA := Lib.hid ha
  have HRO := Lib.hid hro
  have HW := Lib.hid wf
  have HWR := Lib.hid wfr
  have hrl : h.roots.length = 64 := wf.rlen
  have HRL := Lib.hid hrl
  have hrl2 : (h.roots.length : Int) ≤ 64 := by omega
  clear ha hro wf wfr hrl
  go_enter Tryz.func46, Tryz.ntmps46
  go_wp2_with (go_at_call 104; refine (HF.out _ ((Ext.refl _).alloc _)).mono ?_; rintro e W ⟨rfl, rfl⟩)
  have I0 : Hid (KInv w h os [] os w.heap.size (w.alloc (.map #[] 0))) := ⟨(Ext.refl _).alloc _, MapAt.new _ _ rfl _, Nat.le_refl _, rfl⟩
  generalize w.alloc (.map #[] 0) = W at *
  obtain ⟨mb, hmb⟩ : ∃ n, n = w.heap.size := ⟨_, rfl⟩
  rw [← hmb] at I0 ⊢
  clear hmb
  go_loopw [4] (fun o wr => ∃ (pre rest : List Nat) (z : Int), os = pre ++ rest ∧ o = .int .u32 z ∧ z = firstO rest ∧ KInv w h os pre rest mb wr) (fun o wr => allLeft h.words.length o)
  case atStart => exact ⟨[], os, _, rfl, rfl, rfl, I0.out⟩
  case round =>
    obtain ⟨pre, rest, z, hx, rfl, hz, hI⟩ := hrel
    have HX := Lib.hid hx
    have I1 := Lib.hid hI
    clear hx hI I0
    cases rest with
    | nil =>
      obtain rfl : z = 0 := hz
      have hSB : soundB h os = h.roots.all (valueOK os) := by have := I1.out.sb; simpa [okAll] using this
      have HSB := Lib.hid hSB
      have AW := HA.out.keep I1.out.ext
      obtain ⟨d1, d2⟩ := blk AW.blk
      have HVL := Lib.hid (fun k => value107 AW HWR.out (wd h.roots k) (HW.out.root k).1 (HW.out.root k).2)
      have HRC : Hid (∀ k, k < h.roots.length → wr.cell? ⟨L.gr, k, none⟩ = some (.int .u32 (wd h.roots k))) := fun k hk => by
        rw [row_cell (row_keep HRO.out I1.out.ext) k hk]; simp [u32s, wd, hk]
      clear hSB AW
      go_wp2
      go_loop [8] (fun i => ∃ k : Nat, k ≤ h.roots.length ∧ i = .int .i64 k ∧ ∀ j, j < k → valueOK os (wd h.roots j) = true) (fun i => h.roots.length - (intOf i).toNat)
      case atStart => exact ⟨0, by omega, rfl, by omega⟩
      case round =>
        obtain ⟨k, hk, rfl, hall⟩ := hrel
        have HAL := Lib.hid hall
        clear hall
        by_cases hlt : k < h.roots.length
        · have ck := HRC.out k hlt
          have HVk := Lib.hid (HVL.out k)
          have hki : (k : Int) < (h.roots.length : Int) := by omega
          cases q8 : valueOK os (wd h.roots k) with
          | false =>
            rw [q8] at HVk
            have HNk : Hid (soundB h os = false) := by
              show soundB h os = false
              rw [HSB.out, ← Bool.not_eq_true, List.all_eq_true]
              intro hall
              have := hall (wd h.roots k) (wd_in hlt)
              rw [q8] at this; cases this
            generalize wd h.roots k = y at *
            clear q8
            go_wp2_with (go_at_call 107; refine HVk.out.mono ?_; rintro e W9 ⟨rfl, rfl⟩)
            go_ret
            refine ⟨?_, I1.out.ext⟩
            rw [HNk.out]; rfl
          | true =>
            rw [q8] at HVk
            have Q8 := Lib.hid q8
            have HAL2 : Hid (∀ j, j < k + 1 → valueOK os (wd h.roots j) = true) := by
              intro j hj
              by_cases h1 : j < k
              · exact HAL.out j h1
              · obtain rfl : j = k := by omega
                exact Q8.out
            generalize wd h.roots k = y at *
            clear q8 Q8
            go_wp2_with (go_at_call 107; refine HVk.out.mono ?_; rintro e W9 ⟨rfl, rfl⟩)
            go_round
            case rel => exact ⟨k + 1, by omega, by go_num, HAL2.out⟩
            case measure => simp [intOf]; omega
        · obtain rfl : k = h.roots.length := by omega
          have HTT : Hid (soundB h os = true) := by
            show soundB h os = true
            rw [HSB.out, List.all_eq_true]
            intro y hy
            obtain ⟨j, hj, rfl⟩ := List.getElem_of_mem hy
            have := HAL.out j hj
            simpa [wd, hj] using this
          go_wp2
          go_ret
          refine ⟨?_, I1.out.ext⟩
          rw [HTT.out]; rfl
    | cons x rest =>
      obtain rfl : z = 2 * (x : Int) := hz
      have hxm : x ∈ os := by rw [HX.out]; simp
      have hm := HW.out.mem hxm
      have hbig := HW.out.big
      have hnx := HNX.out pre x rest HX.out (by omega)
      have hdv := div2 x
      have hio : isO os (2 * (x : Int)) = true := by simp [isO, isObj, hdv, hxm]; omega
      have HHD := Lib.hid (header64 (HA.out.keep I1.out.ext) HWR.out (2 * (x : Int)) (by omega) (by omega) hio)
      have HNO := Lib.hid (fun W (hE : Ext w W) => next105 (HA.out.keep hE) HWR.out (2 * (x : Int)) (by omega) (by omega) hio)
      have HVA := Lib.hid (fun W (hE : Ext w W) => class106 (HA.out.keep hE) HWR.out (clsAt h.words x) (HW.out.word _).1 (HW.out.word _).2)
      have hne : (2 * (x : Int) != 0) = true := by simp; omega
      rw [hdv] at HHD
      simp only [Int.toNat_natCast] at HHD
      have hHd : hdrAt h.words x = ⟨sizeAt h.words x, fmtAt h.words x, spAt h.words x, clsAt h.words x, serAt h.words x⟩ := by
        have := HW.out.word x
        simp [hdrAt, hdrOf, sizeAt, fmtAt, spAt, clsAt, serAt]; omega
      rw [hHd] at HHD
      simp only [Hdr.val, Hdr.cells] at HHD
      clear hHd
      have hmb := mayB_bounds (HW.out.hdr hxm)
      have hS : sizeAt h.words x ≤ 65535 := by
        have h1 := hmb.2.1
        have := HW.out.word x
        simp [hdrAt, hdrOf] at h1
        simp [sizeAt]; omega
      have hP0 : 0 ≤ spAt h.words x := hmb.2.2.1
      have hP1 : spAt h.words x ≤ 3 := hmb.2.2.2.1
      clear hmb
      have hE1 := I1.out.ext
      go_wp2_with (first | (go_at_call 64; refine HHD.out.mono ?_; rintro e w4 ⟨rfl, hE4⟩; have E4 := Lib.hid (hE1.trans hE4); have M4 := Lib.hid (I1.out.map.keep hE4); clear hE4))
      obtain ⟨W5, hW5⟩ : ∃ X, X = w4.alloc (.cells #[.int .i64 (sizeAt h.words x : Int), .int .i64 (fmtAt h.words x), .int .i64 (spAt h.words x), .int .u32 (clsAt h.words x), .int .u32 (serAt h.words x)] 65) := ⟨_, rfl⟩
      obtain ⟨hb, hhb⟩ : ∃ n, n = w4.heap.size := ⟨_, rfl⟩
      have X5 : Ext w W5 ∧ MapAt W5 mb .u32 (serA h.words pre) ∧ W5.heap[hb]? = some (.cells #[.int .i64 (sizeAt h.words x : Int), .int .i64 (fmtAt h.words x), .int .i64 (spAt h.words x), .int .u32 (clsAt h.words x), .int .u32 (serAt h.words x)] 65) := by
        subst hW5; subst hhb
        exact ⟨E4.out.alloc _, M4.out.keep ((Ext.refl _).alloc _), newB _ _ _ rfl⟩
      rw [← hW5, ← hhb]
      clear hW5 hhb E4 M4 HHD
      obtain ⟨x1, x4, x5⟩ := X5
      have E5 := Lib.hid x1
      have M5 := Lib.hid x4
      have H5 := Lib.hid x5
      obtain ⟨c1, c2⟩ := blk x5
      obtain ⟨d1, d2⟩ := blk (HA.out.keep x1).blk
      have hv : ∃ v : Int, 0 ≤ v ∧ v ≤ 1 ∧ (aget (serA h.words pre) (serAt h.words x)).getD (.int .i64 0) = .int .i64 v ∧ ((pre.map (serAt h.words)).contains (serAt h.words x) = decide (0 < v)) := by
        rw [aget_serA]
        cases (pre.map (serAt h.words)).contains (serAt h.words x)
        · exact ⟨0, by omega, by omega, rfl, rfl⟩
        · exact ⟨1, by omega, by omega, rfl, rfl⟩
      obtain ⟨v, hv0, hv1, hv2, hv3⟩ := hv
      have hlk : ∀ n, (Instr.lookup 219 (.map (some mb)) (.int .u32 (serAt h.words x)) false).run Tryz.prog (W5.drewN n) = .ok (.int .i64 v) (W5.drewN n) := by
        intro n
        have := run_lookup_at (P := Tryz.prog) (W5.drewN n) Tryz.underlying219 Tryz.underlying24 (M5.out.keep ((Ext.refl _).drewN n)) (.int .i64 0) zero3 (serAt h.words x)
        rw [hv2] at this
        exact this
      have HV3 := Lib.hid hv3
      have HVA5 : Hid (∀ n, Calls Tryz.prog 106 #[.pointer (some ⟨L.b, 0, none⟩), .int .u32 (clsAt h.words x)] (W5.drewN n) fun e w' => e = .returned (.bool (classOK os (clsAt h.words x))) ∧ W5.drewN n = w') := fun n => HVA.out _ (E5.out.drewN n)
      have HOB : Hid (okObj h os pre x = (serAt h.words x != 0 && decide (serAt h.words x ≤ h.last) && !decide (0 < v) && classOK os (clsAt h.words x) && (List.range (sizeAt h.words x)).all (fldOK h os x))) := by
        show okObj h os pre x = _
        rw [okObj_flds HW.out hxm, HV3.out]
      have HSB : Hid (soundB h os = (okObj h os pre x && okAll h os (pre ++ [x]) rest && h.roots.all (valueOK os))) := I1.out.sb
      have HFD : Hid (∀ j, fldOK h os x j = ((!(ptrF (fmtAt h.words x)) || valueOK os (wd h.words (x + 3 + j))) && !(decide (j + 1 = sizeAt h.words x) && decide (0 < spAt h.words x) && decide (wd h.words (x + 3 + j) / 2 ^ (32 - 8 * (spAt h.words x)).toNat ≠ 0)))) := by
        intro j
        unfold fldOK
        rw [show 32 - 8 * (spAt h.words x).toNat = (32 - 8 * (spAt h.words x)).toNat by omega]
      have APS : Hid (decide (0 < v) = false → aput (serA h.words pre) (serAt h.words x) (.int .i64 1) = serA h.words (pre ++ [x])) := by
        intro hc
        exact aput_serA (by rw [HV3.out]; exact hc)
      have NXT : Hid (nextO h.words (2 * (x : Int)) = firstO rest ∧ (∀ y, y ∈ rest → x < y)) := hnx
      have HML : Hid (allLeft h.words.length (.int .u32 (nextO h.words (2 * (x : Int)))) < allLeft h.words.length (.int .u32 (2 * (x : Int)))) := by
        refine allLeft_lt h.words.length x _ (by omega) (by omega) ?_
        rw [NXT.out.1]
        cases rest with
        | nil => exact .inl rfl
        | cons y l =>
          have := HW.out.mem (x := y) (by rw [HX.out]; simp)
          exact .inr ⟨y, rfl, NXT.out.2 y (by simp), by omega⟩
      have HWD : Hid (∀ W, Ext w W → ∀ j, j < sizeAt h.words x → W.cell? ⟨L.gw, x + 3 + j, none⟩ = some (.int .u32 (wd h.words (x + 3 + j)))) := fun W hE j hj => (HA.out.keep hE).word (x + 3 + j) (by omega)
      have HVL : Hid (∀ W, Ext w W → ∀ j, Calls Tryz.prog 107 #[.pointer (some ⟨L.b, 0, none⟩), .int .u32 (wd h.words (x + 3 + j))] W fun e w' => e = .returned (.bool (valueOK os (wd h.words (x + 3 + j)))) ∧ W = w') := fun W hE j => value107 (HA.out.keep hE) HWR.out _ (HW.out.word _).1 (HW.out.word _).2
      have HWG : Hid (∀ j, 0 ≤ wd h.words (x + 3 + j) ∧ wd h.words (x + 3 + j) < 4294967296) := fun j => HW.out.word _
      have hfit : (x : Int) + 3 + (sizeAt h.words x : Int) ≤ (h.words.length : Int) := by omega
      have hHdr : Hid (∀ n, n < sizeAt h.words x → (ptrF (fmtAt h.words x) = false ∨ ((fmtAt h.words x == 1) = true) ∨ ((fmtAt h.words x == 1) = false ∧ (fmtAt h.words x == 4) = true))) := by
        intro n _
        unfold ptrF
        cases fmtAt h.words x == 1 <;> cases fmtAt h.words x == 4 <;> simp
      clear hnx hv2 hv3 x1 x4 x5 hm hHdr
      have hser := HW.out.word (x + 2)
      generalize serAt h.words x = s at *
      generalize clsAt h.words x = C at *
      generalize fmtAt h.words x = F at *
      generalize spAt h.words x = P at *
      generalize sizeAt h.words x = S at *
      cases q4 : classOK os C with
      | false =>
        rw [q4] at HVA5
        go_quiet ((go_at_call 106; exact Calls.quiet_of_same ((HVA5.out _).mono (fun _ _ hq => ⟨hq.1, hq.2.symm⟩))))
        go_wp2
        go_ret
        refine ⟨?_, E5.out.drewN _⟩
        rw [HSB.out, HOB.out, q4]; simp
      | true =>
        rw [q4] at HVA5
        cases q1 : (s == 0) with
        | true =>
          go_quiet ((go_at_call 106; exact Calls.quiet_of_same ((HVA5.out _).mono (fun _ _ hq => ⟨hq.1, hq.2.symm⟩))))
          go_wp2
          go_ret
          refine ⟨?_, E5.out.drewN _⟩
          have : (s != 0) = false := by rw [bne, q1]; rfl
          rw [HSB.out, HOB.out, this]; simp
        | false =>
          cases q2 : decide (h.last < s) with
          | true =>
            go_quiet ((go_at_call 106; exact Calls.quiet_of_same ((HVA5.out _).mono (fun _ _ hq => ⟨hq.1, hq.2.symm⟩))))
            go_wp2
            go_ret
            refine ⟨?_, E5.out.drewN _⟩
            have : decide (s ≤ h.last) = false := by simp at q2 ⊢; omega
            rw [HSB.out, HOB.out, this]; simp
          | false =>
            cases q3 : decide (0 < v) with
            | true =>
              go_quiet ((go_at_call 106; exact Calls.quiet_of_same ((HVA5.out _).mono (fun _ _ hq => ⟨hq.1, hq.2.symm⟩))))
              go_wp2
              go_ret
              refine ⟨?_, E5.out.drewN _⟩
              rw [HSB.out, HOB.out, q3]; simp
            | false =>
              have HOB2 : Hid (okObj h os pre x = (List.range S).all (fldOK h os x)) := by
                have h1 : (s != 0) = true := by rw [bne, q1]; rfl
                have h2 : decide (s ≤ h.last) = true := by simp at q2 ⊢; omega
                show okObj h os pre x = _
                rw [HOB.out, h1, h2, q3, q4]; simp
              have APT := Lib.hid (APS.out q3)
              go_quiet ((go_at_call 106; exact Calls.quiet_of_same ((HVA5.out _).mono (fun _ _ hq => ⟨hq.1, hq.2.symm⟩))))
              clear hlk HVA5 q1 q2 q3 q4 c1 c2 d1 d2 HOB APS HV3
              obtain ⟨W6, hW6⟩ : ∃ X, X = W5.drewN nq := ⟨_, rfl⟩
              rw [← hW6]
              have X56 : Ext W5 W6 := by rw [hW6]; exact (Ext.refl _).drewN _
              clear hW6
              have E6 := Lib.hid (E5.out.trans X56)
              have M6 := Lib.hid (M5.out.keep X56)
              have H6 := Lib.hid (X56.keep H5.out)
              clear E5 M5 H5 X56
              obtain ⟨W7, hup, hm7, hmod7⟩ := run_mapUpdate_int (P := Tryz.prog) W6 Tryz.underlying219 Tryz.underlying24 M6.out s (.int .i64 1)
              rw [APT.out] at hm7
              obtain ⟨c1, c2⟩ := blk H6.out
              have hhm : hb ≠ mb := M6.out.ne_cells H6.out
              have E7 := Lib.hid (Mod.ext_of_new E6.out hmod7 I1.out.mbase)
              have H7 := Lib.hid (hmod7.keep H6.out (by simpa using hhm))
              have M7 := Lib.hid hm7
              clear hm7 hmod7 APT
              go_wp2
              clear hup c1 c2 E6 M6 H6
              obtain ⟨c1, c2⟩ := blk H7.out
              obtain ⟨d1, d2⟩ := blk (HA.out.keep E7.out).blk
              have RFin : Hid (∀ W, Ext W7 W → okObj h os pre x = true → KInv w h os (pre ++ [x]) rest mb W) := by
                intro W hE ho
                refine ⟨E7.out.trans hE, M7.out.keep hE, I1.out.mbase, ?_⟩
                rw [HSB.out, ho, Bool.true_and]
              have HXE : Hid (os = pre ++ [x] ++ rest) := by show os = _; rw [HX.out]; simp
              have HWD7 := Lib.hid (HWD.out W7 E7.out)
              have HVL7 := Lib.hid (HVL.out W7 E7.out)
              clear HWD HVL
              have HPT : Hid ((ptrF F = true ∧ ((F == 1) = true ∨ ((F == 1) = false ∧ (F == 4) = true))) ∨ (ptrF F = false ∧ (F == 1) = false ∧ (F == 4) = false)) := by
                show (ptrF F = true ∧ ((F == 1) = true ∨ ((F == 1) = false ∧ (F == 4) = true))) ∨ (ptrF F = false ∧ (F == 1) = false ∧ (F == 4) = false)
                unfold ptrF
                cases F == 1 <;> cases F == 4 <;> simp
              clear hdv
              have hdv2 : (2 * (x : Int)) / 2 = x := by omega
              go_loop [6] (fun i => ∃ k : Nat, k ≤ S ∧ i = .int .i64 k ∧ ∀ j, j < k → fldOK h os x j = true) (fun i => S - (intOf i).toNat)
              case atStart => exact ⟨0, by omega, rfl, by omega⟩
              case round =>
                obtain ⟨k, hk, rfl, hall⟩ := hrel
                have HAL := Lib.hid hall
                clear hall
                by_cases hlt : k < S
                · have ck := HWD7.out k hlt
                  have HVk := Lib.hid (HVL7.out k)
                  have hyw := HWG.out k
                  have HFk := Lib.hid (HFD.out k)
                  have HALT : Hid (fldOK h os x k = true → ∀ j, j < k + 1 → fldOK h os x j = true) := by
                    intro hf j hj
                    by_cases h1 : j < k
                    · exact HAL.out j h1
                    · obtain rfl : j = k := by omega
                      exact hf
                  have HNO2 : Hid (fldOK h os x k = false → soundB h os = false) := by
                    intro hf
                    have : okObj h os pre x = false := by
                      rw [HOB2.out, ← Bool.not_eq_true, List.all_eq_true]
                      intro hall
                      have := hall k (by simpa using hlt)
                      rw [hf] at this; cases this
                    rw [HSB.out, this]; rfl
                  have e1 : ((x : Int) + 3 + (k : Int)).toNat = x + 3 + k := by omega
                  have e2 : (x : Int) + 3 + (k : Int) < (h.words.length : Int) := by omega
                  have hkS : (k : Int) < (S : Int) := by omega
                  generalize wd h.words (x + 3 + k) = y at *
                  obtain ⟨y0, y1⟩ := hyw
                  have hsh0 : 0 ≤ 32 - 8 * P := by omega
                  have hsh1 : 32 - 8 * P ≤ 32 := by omega
                  have parts : (((k : Int) == (S : Int) - 1) = false ∧ Hid (decide (k + 1 = S) = false)) ∨ (((k : Int) == (S : Int) - 1) = true ∧ Hid (decide (k + 1 = S) = true)) := by
                    by_cases h1 : k + 1 = S
                    · exact .inr ⟨by rw [beq_iff_eq]; omega, by show decide (k + 1 = S) = true; simpa using h1⟩
                    · exact .inl ⟨by rw [beq_eq_false_iff_ne]; omega, by show decide (k + 1 = S) = false; simpa using h1⟩
                  have quot : ((y / 2 ^ (32 - 8 * P).toNat != 0) = false ∧ Hid (decide (y / 2 ^ (32 - 8 * P).toNat ≠ 0) = false)) ∨ ((y / 2 ^ (32 - 8 * P).toNat != 0) = true ∧ Hid (decide (y / 2 ^ (32 - 8 * P).toNat ≠ 0) = true)) := by
                    by_cases h1 : y / 2 ^ (32 - 8 * P).toNat = 0
                    · exact .inl ⟨by rw [h1]; rfl, by show decide (y / 2 ^ (32 - 8 * P).toNat ≠ 0) = false; rw [h1]; rfl⟩
                    · exact .inr ⟨by rw [bne_iff_ne]; exact h1, by show decide (y / 2 ^ (32 - 8 * P).toNat ≠ 0) = true; simpa using h1⟩
                  have posi : (decide (0 < P) = false) ∨ (decide (0 < P) = true) := by cases decide (0 < P) <;> simp
                  have PART : Hid _ := Lib.hid parts
                  have QUOT : Hid _ := Lib.hid quot
                  have POSI : Hid _ := Lib.hid posi
                  clear parts quot posi
                  have first : Hid ((valueOK os y = true ∧ ptrF F = true ∧ (F == 1) = true) ∨ (valueOK os y = true ∧ ptrF F = true ∧ (F == 1) = false ∧ (F == 4) = true) ∨ (valueOK os y = false ∧ ptrF F = true ∧ (F == 1) = true) ∨ (valueOK os y = false ∧ ptrF F = true ∧ (F == 1) = false ∧ (F == 4) = true) ∨ (ptrF F = false ∧ (F == 1) = false ∧ (F == 4) = false)) := by
                    rcases HPT.out with ⟨p1, p2 | ⟨p2, p3⟩⟩ | ⟨p1, p2, p3⟩
                    · cases hv : valueOK os y with
                      | true => exact .inl ⟨rfl, p1, p2⟩
                      | false => exact .inr (.inr (.inl ⟨rfl, p1, p2⟩))
                    · cases hv : valueOK os y with
                      | true => exact .inr (.inl ⟨rfl, p1, p2, p3⟩)
                      | false => exact .inr (.inr (.inr (.inl ⟨rfl, p1, p2, p3⟩)))
                    · exact .inr (.inr (.inr (.inr ⟨p1, p2, p3⟩)))
                  have SECOND : Hid (((!(ptrF F) || valueOK os y) = true) → ((∃ _ : ((k : Int) == (S : Int) - 1) = false, fldOK h os x k = true) ∨ (∃ (_ : ((k : Int) == (S : Int) - 1) = true) (_ : (y / 2 ^ (32 - 8 * P).toNat != 0) = false), fldOK h os x k = true) ∨ (∃ (_ : ((k : Int) == (S : Int) - 1) = true) (_ : (y / 2 ^ (32 - 8 * P).toNat != 0) = true) (_ : decide (0 < P) = false), fldOK h os x k = true) ∨ (∃ (_ : ((k : Int) == (S : Int) - 1) = true) (_ : (y / 2 ^ (32 - 8 * P).toNat != 0) = true) (_ : decide (0 < P) = true), fldOK h os x k = false))) := by
                    intro h0
                    have hf := HFk.out
                    rw [h0, Bool.true_and] at hf
                    rcases PART.out with ⟨a1, a2⟩ | ⟨a1, a2⟩
                    · exact .inl ⟨a1, by rw [hf, a2.out]; rfl⟩
                    · rcases QUOT.out with ⟨b1, b2⟩ | ⟨b1, b2⟩
                      · exact .inr (.inl ⟨a1, b1, by rw [hf, b2.out]; simp⟩)
                      · rcases POSI.out with c1 | c1
                        · exact .inr (.inr (.inl ⟨a1, b1, c1, by rw [hf, c1]; simp⟩))
                        · exact .inr (.inr (.inr ⟨a1, b1, c1, by rw [hf, a2.out, b2.out, c1]; rfl⟩))
                  have FIRSTNO : Hid (valueOK os y = false → ptrF F = true → soundB h os = false) := by
                    intro hv hp
                    exact HNO2.out (by rw [HFk.out, hv, hp]; rfl)
                  clear HFk PART QUOT POSI
                  rcases first.out with ⟨v1, p1, p2⟩ | ⟨v1, p1, p2, p3⟩ | ⟨v1, p1, p2⟩ | ⟨v1, p1, p2, p3⟩ | ⟨p1, p2, p3⟩
                  · have S2 := Lib.hid (SECOND.out (by rw [v1]; simp))
                    rw [v1] at HVk
                    clear v1 p1 first SECOND
                    rcases S2.out with ⟨a1, hf⟩ | ⟨a1, b1, hf⟩ | ⟨a1, b1, c1, hf⟩ | ⟨a1, b1, c1, hf⟩
                    · have HF := Lib.hid (HALT.out hf)
                      clear hf
                      go_wp2_with (go_at_call 107; refine HVk.out.mono ?_; rintro e W9 ⟨rfl, rfl⟩)
                      go_round
                      case rel => exact ⟨k + 1, by omega, by go_num, HF.out⟩
                      case measure => simp [intOf]; omega
                    · have HF := Lib.hid (HALT.out hf)
                      clear hf
                      go_wp2_with (go_at_call 107; refine HVk.out.mono ?_; rintro e W9 ⟨rfl, rfl⟩)
                      go_round
                      case rel => exact ⟨k + 1, by omega, by go_num, HF.out⟩
                      case measure => simp [intOf]; omega
                    · have HF := Lib.hid (HALT.out hf)
                      clear hf
                      go_wp2_with (go_at_call 107; refine HVk.out.mono ?_; rintro e W9 ⟨rfl, rfl⟩)
                      go_round
                      case rel => exact ⟨k + 1, by omega, by go_num, HF.out⟩
                      case measure => simp [intOf]; omega
                    · have HB := Lib.hid (HNO2.out hf)
                      clear hf
                      go_wp2_with (go_at_call 107; refine HVk.out.mono ?_; rintro e W9 ⟨rfl, rfl⟩)
                      go_ret
                      refine ⟨?_, E7.out⟩
                      rw [HB.out]; rfl
                  · have S2 := Lib.hid (SECOND.out (by rw [v1]; simp))
                    rw [v1] at HVk
                    clear v1 p1 first SECOND
                    rcases S2.out with ⟨a1, hf⟩ | ⟨a1, b1, hf⟩ | ⟨a1, b1, c1, hf⟩ | ⟨a1, b1, c1, hf⟩
                    · have HF := Lib.hid (HALT.out hf)
                      clear hf
                      go_wp2_with (go_at_call 107; refine HVk.out.mono ?_; rintro e W9 ⟨rfl, rfl⟩)
                      go_round
                      case rel => exact ⟨k + 1, by omega, by go_num, HF.out⟩
                      case measure => simp [intOf]; omega
                    · have HF := Lib.hid (HALT.out hf)
                      clear hf
                      go_wp2_with (go_at_call 107; refine HVk.out.mono ?_; rintro e W9 ⟨rfl, rfl⟩)
                      go_round
                      case rel => exact ⟨k + 1, by omega, by go_num, HF.out⟩
                      case measure => simp [intOf]; omega
                    · have HF := Lib.hid (HALT.out hf)
                      clear hf
                      go_wp2_with (go_at_call 107; refine HVk.out.mono ?_; rintro e W9 ⟨rfl, rfl⟩)
                      go_round
                      case rel => exact ⟨k + 1, by omega, by go_num, HF.out⟩
                      case measure => simp [intOf]; omega
                    · have HB := Lib.hid (HNO2.out hf)
                      clear hf
                      go_wp2_with (go_at_call 107; refine HVk.out.mono ?_; rintro e W9 ⟨rfl, rfl⟩)
                      go_ret
                      refine ⟨?_, E7.out⟩
                      rw [HB.out]; rfl
                  · have HB := Lib.hid (FIRSTNO.out v1 p1)
                    skip
                    rw [v1] at HVk
                    clear v1 p1 first SECOND
                    go_wp2_with (go_at_call 107; refine HVk.out.mono ?_; rintro e W9 ⟨rfl, rfl⟩)
                    go_ret
                    refine ⟨?_, E7.out⟩
                    rw [HB.out]; rfl
                  · have HB := Lib.hid (FIRSTNO.out v1 p1)
                    skip
                    rw [v1] at HVk
                    clear v1 p1 first SECOND
                    go_wp2_with (go_at_call 107; refine HVk.out.mono ?_; rintro e W9 ⟨rfl, rfl⟩)
                    go_ret
                    refine ⟨?_, E7.out⟩
                    rw [HB.out]; rfl
                  · have S2 := Lib.hid (SECOND.out (by rw [p1]; simp))
                    clear p1 first SECOND
                    rcases S2.out with ⟨a1, hf⟩ | ⟨a1, b1, hf⟩ | ⟨a1, b1, c1, hf⟩ | ⟨a1, b1, c1, hf⟩
                    · have HF := Lib.hid (HALT.out hf)
                      clear hf
                      go_wp2
                      go_round
                      case rel => exact ⟨k + 1, by omega, by go_num, HF.out⟩
                      case measure => simp [intOf]; omega
                    · have HF := Lib.hid (HALT.out hf)
                      clear hf
                      go_wp2
                      go_round
                      case rel => exact ⟨k + 1, by omega, by go_num, HF.out⟩
                      case measure => simp [intOf]; omega
                    · have HF := Lib.hid (HALT.out hf)
                      clear hf
                      go_wp2
                      go_round
                      case rel => exact ⟨k + 1, by omega, by go_num, HF.out⟩
                      case measure => simp [intOf]; omega
                    · have HB := Lib.hid (HNO2.out hf)
                      clear hf
                      go_wp2
                      go_ret
                      refine ⟨?_, E7.out⟩
                      rw [HB.out]; rfl
                · obtain rfl : k = S := by omega
                  have HOT : Hid (okObj h os pre x = true) := by
                    show okObj h os pre x = true
                    rw [HOB2.out, List.all_eq_true]
                    intro j hj
                    exact HAL.out j (by simpa using hj)
                  go_wp2_with (first | (go_at_call 105; refine (HNO.out _ E7.out).mono ?_; rintro e W10 ⟨rfl, hE10⟩; have E10 := Lib.hid hE10; clear hE10))
                  exact ⟨⟨pre ++ [x], rest, _, HXE.out, rfl, NXT.out.1, RFin.out _ E10.out HOT.out⟩, HML.out⟩

end
end Go.Proofs.Eff
