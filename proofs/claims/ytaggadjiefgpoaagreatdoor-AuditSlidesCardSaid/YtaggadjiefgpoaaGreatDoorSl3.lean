/- effigylaw24.AuditSlides: the walk. -/
import Derived.Test.YtaggadjiefgpoaaGreatDoorSl2
namespace Go.Proofs.Eff
open Go.RowKit

theorem hdr_eta {h : HeapS} {os : List Nat} (wf : WF h os) (a : Nat) : hdrAt h.words a = ⟨sizeAt h.words a, fmtAt h.words a, spAt h.words a, clsAt h.words a, serAt h.words a⟩ := by
  have := wf.word a
  simp [hdrAt, hdrOf, sizeAt, fmtAt, spAt, clsAt, serAt]; omega
theorem isO_two {os : List Nat} {a : Nat} (ha : a ∈ os) (h1 : 1 ≤ a) : isO os (2 * (a : Int)) = true := by
  simp [isO, isObj, show (2 * (a : Int)) / 2 = a by omega, ha]; omega

/-- What is found between a heap and its collection with another word. -/
def Found14 (w : World) (e : Ending) (w' : World) : Prop := ∃ s : Int, 0 < s ∧ e = .returned (.agg #[.int .i64 14, .int .i64 s]) ∧ Ext w w'

theorem found_other {w : World} {L5 L6 : HLoc} {h : HeapS} {os : List Nat} (hg : HeapAt w L5 h) (wf : WF h os) (hso : Sound h os) (hs : Spares w) {a : Nat} {y : Int} (ha : a ∈ osC h os) (hz : 0 < sizeAt (wordsC h os) a) (hne : y ≠ wd (wordsC h os) (a + 3)) (y0 : 0 ≤ y) (y1 : y < 4294967296)
    (hv : (hdrAt (wordsC h os) a).fmt = 1 ∨ (hdrAt (wordsC h os) a).fmt = 4 → valueOK (osC h os) y = true) (hb : (hdrAt (wordsC h os) a).fmt = 2 → (hdrAt (wordsC h os) a).spare < 4 * (sizeAt (wordsC h os) a : Int) ∧ y / 256 = wd (wordsC h os) (a + 3) / 256)
    (h6 : HeapAt w L6 (setW (collectH h os) (a + 3) y)) :
    Calls Tryz.prog 15 #[.pointer (some ⟨L5.b, 0, none⟩), .pointer (some ⟨L6.b, 0, none⟩)] w (Found14 w) := by
  have wfc := collect_wf wf hso
  have soc := collect_sound wf hso
  obtain ⟨s, hs0, he⟩ := coll_other wf hso ha hz hne
  have := Collection_ok hg wf hso h6 (setW_wf wfc ha hz y0 y1) (setW_sound wfc soc ha hz hv hb) hs
  rw [he] at this
  exact this.mono fun e w' hq => ⟨s, hs0, hq.1, hq.2⟩

set_option maxRecDepth 100000 in
set_option maxHeartbeats 4000000 in
theorem AuditSlides5 {w : World} {size : Int} {ws rs : List Int} {last : Int} {ad1 ad2 : Option Addr} (c1 c2 : Nat) (hs : Spares w) (h : StuffIn w ws rs last ad1 ad2) (t : Int) (t1 : t ≤ 9223372036854775807) :
    Calls Tryz.prog 5 #[.agg #[.int .i64 size, .slice ad1 ws.length c1, .slice ad2 rs.length c2, .int .u32 last], .int .i64 t] w fun e w' => e = .returned (.bool true) ∧ Ext w w' := by
  have hp := hs.pos
  have HS := Lib.hid hs
  have e51 : ∀ w, (binOp .neq 51 (.agg #[.int .i64 0, .int .i64 0]) (.agg #[.int .i64 0, .int .i64 0])).run Tryz.prog w = .ok (.bool false) w := fun w => by rw [run_neq51]; rfl
  have BO := Lib.hid (fun W (hE : Ext w W) => both8 (size := size) c1 c2 (hs.kept hE hp) (h.keep hE))
  have AW := Lib.hid (fun W (hE : Ext w W) => awake9 (hs.kept hE hp))
  clear h hs
  have E0 := Lib.hid ((Ext.refl w).alloc (.cells #[.int .i64 size, .slice ad1 ws.length c1, .slice ad2 rs.length c2, .int .u32 last] 26))
  go_enter Tryz.func5, Tryz.ntmps5
  go_wp2_with fail
  refine (BO.out _ E0.out).mono ?_
  rintro e w1 ⟨hE1, ⟨os, L, LR, rfl, hA, _, hwf, hso, hab⟩ | rfl⟩
  · have A1 := Lib.hid hA
    have WFX := Lib.hid hwf
    have SO := Lib.hid hso
    have AB := Lib.hid (show L.above w.heap.size from fun x hx => Nat.le_trans E0.out.size (hab x hx))
    have E1 := Lib.hid (E0.out.trans hE1)
    clear hE1 hA hwf hso hab BO
    generalize stuffH size ws os rs last = h at *
    go_wp2_with fail
    refine (AW.out _ E1.out).mono ?_
    rintro e w2 ⟨rfl, hE2⟩
    have A2 := Lib.hid (A1.out.keep hE2)
    have E2 := Lib.hid (E1.out.trans hE2)
    clear hE2 A1 E1
    go_wp2_with fail
    have CL := Lib.hid (Clone_ok A2.out WFX.out)
    refine CL.out.mono ?_
    rintro e w3 ⟨L5, rfl, hA5, hE3, hf5⟩
    have G3 := Lib.hid hA5
    have A3 := Lib.hid (A2.out.keep hE3)
    have E3 := Lib.hid (E2.out.trans hE3)
    have F5 := Lib.hid (fresh_above hf5)
    have LT2 := Lib.hid A2.out.lt
    clear hA5 hE3 hf5 CL A2 E2
    go_wp2_with fail
    have CO := Lib.hid (Collect_ok A3.out WFX.out SO.out (HS.out.kept E3.out hp))
    refine CO.out.mono ?_
    rintro e w4 ⟨⟨vv, rfl⟩, L6, hb6, hA6, hM6, n1, n2, n3⟩
    have A4 := Lib.hid hA6
    have HB6 := Lib.hid hb6
    have G4 := Lib.hid (G3.out.mod hM6 (by
      intro x hx hq
      have h1 := F5.out x hx
      have h2 := LT2.out
      simp only [List.mem_singleton] at hq
      omega))
    have E4 := Lib.hid (E3.out.of_mod hM6 (by
      intro x hx
      simp only [List.mem_singleton] at hx
      rw [hx]; exact AB.out _ (by simp [HLoc.blocks])))
    have N6 : Hid (∀ x, x ∈ L6.blocks → w.heap.size ≤ x) := by
      intro x hx
      have q := E3.out.size
      have q2 : w.heap.size ≤ L6.b := by rw [hb6]; exact AB.out _ (by simp [HLoc.blocks])
      simp only [HLoc.blocks, List.mem_cons, List.not_mem_nil, or_false] at hx
      rcases hx with rfl | rfl | rfl | rfl <;> omega
    have N65 : Hid (∀ x, x ∈ L5.blocks → x ≠ L6.gw) := by
      intro x hx hq
      have := G3.out.bl x hx
      omega
    clear hb6 hA6 hM6 n1 n2 n3 CO A3 G3 E3
    go_wp2_with fail
    have C1 := Lib.hid (Collection_ok G4.out WFX.out SO.out A4.out (collect_wf WFX.out SO.out) (collect_sound WFX.out SO.out) (HS.out.kept E4.out hp))
    rw [coll_self WFX.out SO.out, HB6.out] at C1
    refine C1.out.mono ?_
    rintro e w5 ⟨rfl, hE5⟩
    have A5 := Lib.hid (A4.out.keep hE5)
    have G5 := Lib.hid (G4.out.keep hE5)
    have E5 := Lib.hid (E4.out.trans hE5)
    clear hE5 C1 A4 G4 E4
    go_wp2_with fail
    have WFC := Lib.hid (collect_wf WFX.out SO.out)
    have SOC := Lib.hid (collect_sound WFX.out SO.out)
    have LV := Lib.hid (Live_ok A5.out WFC.out SOC.out (HS.out.kept E5.out hp))
    rw [HB6.out] at LV
    refine LV.out.mono ?_
    rintro e w6 ⟨v, rfl, hrow, hE6⟩
    have LVV := Lib.hid (live_valid WFC.out SOC.out)
    have LOS : Hid (∀ x, x ∈ liveOf (collectH h os) (osC h os) → (x / 2).toNat ∈ osC h os) := fun x hx => live_os WFC.out SOC.out hx
    have LLE := Lib.hid (reach_le WFC.out)
    generalize liveOf (collectH h os) (osC h os) = l at *
    obtain ⟨ad, cp, rfl, hrb⟩ := own_any hrow
    have A6 := Lib.hid (A5.out.keep hE6)
    have G6 := Lib.hid (G5.out.keep hE6)
    have E6 := Lib.hid (E5.out.trans hE6)
    have ROW := Lib.hid hrow
    have RB := Lib.hid hrb
    clear hE6 hrow hrb LV A5 G5 E5
    have hll : l.length ≤ 1048576 := by have h1 := LVV.out.2.2; have h2 := LLE.out; omega
    by_cases hl0 : l.length = 0
    · have q : ((l.length : Int) == 0) = true := by simp [hl0]
      have q2 : (l.length == 0) = true := by simp [hl0]
      clear hl0
      go_wp2
      go_ret
      exact ⟨rfl, E6.out⟩
    · have q : ((l.length : Int) == 0) = false := by rw [beq_eq_false_iff_ne]; omega
      have q2 : (l.length == 0) = false := by simpa using hl0
      by_cases ht : t < 0
      · go_wp2
        go_ret
        exact ⟨rfl, E6.out⟩
      · have qt : decide (t < 0) = false := by simpa using ht
        have tm : Int.tmod t (l.length : Int) = t % (l.length : Int) := Int.tmod_eq_emod_of_nonneg (by omega)
        have tm0 : 0 ≤ t % (l.length : Int) := Int.emod_nonneg _ (by omega)
        have tm1 : t % (l.length : Int) < (l.length : Int) := Int.emod_lt_of_pos _ (by omega)
        obtain ⟨gl, rfl, hgl0, hgl1⟩ := RB.out (by omega)
        obtain ⟨i, hi⟩ : ∃ i : Nat, t % (l.length : Int) = (i : Int) := ⟨(t % (l.length : Int)).toNat, by omega⟩
        rw [hi] at tm tm0 tm1
        have hil : i < l.length := by omega
        have hmem : wd l i ∈ l := wd_in hil
        have ci : w6.cell? ⟨gl, i, none⟩ = some (.int .u32 (wd l i)) := by
          rw [row_cell ROW.out i hil]; simp [u32s, wd, hil]
        have hval := LVV.out.2.1 _ hmem
        have haos := LOS.out _ hmem
        have wc := WFC.out
        have hm := wc.mem haos
        have hbg := wc.big
        have hx0 := hval.2.1
        have hobj := (wc.isO_lt hval.1).1
        obtain ⟨a, ha⟩ : ∃ a, a = (wd l i / 2).toNat := ⟨_, rfl⟩
        have hoa : wd l i = 2 * (a : Int) := by
          simp [isObj] at hobj; omega
        rw [hoa] at ci
        rw [← ha] at haos hm
        clear hmem hval hobj ha hoa wc hx0
        have HIO := Lib.hid (isO_two haos hm.1)
        have HAO := Lib.hid haos
        have hda : (2 * (a : Int) / 2).toNat = a := by omega
        have HD := Lib.hid (Header_ok A6.out WFC.out (HS.out.kept E6.out hp) (2 * (a : Int)) (by omega) (by omega) HIO.out)
        have hmb := mayB_bounds (WFC.out.hdr haos)
        rw [hdr_eta WFC.out a] at hmb
        simp only at hmb
        have BY : Hid (fmtAt (collectH h os).words a = 2 → spAt (collectH h os).words a < 4 * (sizeAt (collectH h os).words a : Int) → ∀ W, Ext w6 W → Calls Tryz.prog 23 #[.pointer (some ⟨L.b, 0, none⟩), .int .u32 (2 * (a : Int)), .int .i64 0] W fun e w' => e = .returned (.tuple #[.int .u8 (wd (collectH h os).words (a + 3) % 256), .int .i64 0]) ∧ Ext W w') := by
          intro hf hl W hE
          have := Byte0 (A6.out.keep hE) WFC.out (HS.out.kept (E6.out.trans hE) hp) (2 * (a : Int)) (by omega) (by omega) HIO.out (by rw [hda]; exact hf) (by rw [hda]; omega) (by rw [hda]; simp only [lenH, hdr_eta WFC.out a, hf, if_true]; omega)
          rw [hda, HB6.out] at this
          exact this
        have SB : Hid (fmtAt (collectH h os).words a = 2 → spAt (collectH h os).words a < 4 * (sizeAt (collectH h os).words a : Int) → ∀ W b, Ext w6 W → 0 ≤ b → b < 256 → Calls Tryz.prog 24 #[.pointer (some ⟨L.b, 0, none⟩), .int .u32 (2 * (a : Int)), .int .i64 0, .int .u8 b] W fun e w' => e = .returned (.int .i64 0) ∧ HeapAt w' L6 (setW (collectH h os) (a + 3) (wd (collectH h os).words (a + 3) - wd (collectH h os).words (a + 3) % 256 + b)) ∧ Mod [L6.gw] W w') := by
          intro hf hl W b hE b0 b1
          have := SetByte0 (A6.out.keep hE) WFC.out (HS.out.kept (E6.out.trans hE) hp) (2 * (a : Int)) b (by omega) (by omega) b0 b1 HIO.out (by rw [hda]; exact hf) (by rw [hda]; omega) (by rw [hda]; simp only [lenH, hdr_eta WFC.out a, hf, if_true]; omega)
          rw [hda, HB6.out] at this
          exact this
        have WO : Hid (fmtAt (collectH h os).words a = 3 → 0 < sizeAt (collectH h os).words a → ∀ W, Ext w6 W → Calls Tryz.prog 25 #[.pointer (some ⟨L.b, 0, none⟩), .int .u32 (2 * (a : Int)), .int .i64 0] W fun e w' => e = .returned (.tuple #[.int .u32 (wd (collectH h os).words (a + 3)), .int .i64 0]) ∧ Ext W w') := by
          intro hf hl W hE
          have := Word_any (A6.out.keep hE) WFC.out (HS.out.kept (E6.out.trans hE) hp) (2 * (a : Int)) 0 (by omega) (by omega)
          obtain ⟨q1, q2⟩ := look0 WFC.out [3] (2 * (a : Int)) HIO.out (by rw [hda]; show List.contains [3] (fmtAt _ a) = true; rw [hf]; rfl) (by rw [hda]; simp only [lenH, hdr_eta WFC.out a, hf]; simp; omega)
          rw [getA, if_pos q1, q1, HB6.out, show (2 * (a : Int) / 2 + 3 + 0).toNat = a + 3 by omega] at this
          exact this
        have SW : Hid (fmtAt (collectH h os).words a = 3 → 0 < sizeAt (collectH h os).words a → ∀ W y, Ext w6 W → Calls Tryz.prog 26 #[.pointer (some ⟨L.b, 0, none⟩), .int .u32 (2 * (a : Int)), .int .i64 0, .int .u32 y] W fun e w' => e = .returned (.int .i64 0) ∧ HeapAt w' L6 (setW (collectH h os) (a + 3) y) ∧ Mod [L6.gw] W w') := by
          intro hf hl W y hE
          have := SetWord0 (A6.out.keep hE) WFC.out (HS.out.kept (E6.out.trans hE) hp) (2 * (a : Int)) y (by omega) (by omega) HIO.out (by rw [hda]; exact hf) (by rw [hda]; exact hl)
          rw [hda, HB6.out] at this
          exact this
        have GE : Hid ((fmtAt (collectH h os).words a = 1 ∨ fmtAt (collectH h os).words a = 4) → 0 < sizeAt (collectH h os).words a → ∀ W, Ext w6 W → Calls Tryz.prog 27 #[.pointer (some ⟨L.b, 0, none⟩), .int .u32 (2 * (a : Int)), .int .i64 0] W fun e w' => e = .returned (.tuple #[.int .u32 (wd (collectH h os).words (a + 3)), .int .i64 0]) ∧ Ext W w') := by
          intro hf hl W hE
          have := Get_any (A6.out.keep hE) WFC.out (HS.out.kept (E6.out.trans hE) hp) (2 * (a : Int)) 0 (by omega) (by omega)
          obtain ⟨q1, q2⟩ := look0 WFC.out [1, 4] (2 * (a : Int)) HIO.out (by rw [hda]; show List.contains [1, 4] (fmtAt _ a) = true; rcases hf with hf | hf <;> rw [hf] <;> rfl) (by rw [hda]; simp only [lenH, hdr_eta WFC.out a]; rcases hf with hf | hf <;> rw [hf] <;> simp <;> omega)
          rw [getA, if_pos q1, q1, HB6.out, show (2 * (a : Int) / 2 + 3 + 0).toNat = a + 3 by omega] at this
          exact this
        have PU : Hid ((fmtAt (collectH h os).words a = 1 ∨ fmtAt (collectH h os).words a = 4) → 0 < sizeAt (collectH h os).words a → ∀ W y, Ext w6 W → (y = 5 ∨ y = 7) → Calls Tryz.prog 28 #[.pointer (some ⟨L.b, 0, none⟩), .int .u32 (2 * (a : Int)), .int .i64 0, .int .u32 y] W fun e w' => e = .returned (.int .i64 0) ∧ HeapAt w' L6 (setW (collectH h os) (a + 3) y) ∧ Mod [L6.gw] W w') := by
          intro hf hl W y hE hy
          have := Put0 (A6.out.keep hE) WFC.out (HS.out.kept (E6.out.trans hE) hp) (2 * (a : Int)) y (by omega) (by omega) (by omega) (by omega) (by rcases hy with rfl | rfl <;> rfl) HIO.out (by rw [hda]; exact hf) (by rw [hda]; exact hl)
          rw [hda, HB6.out] at this
          exact this
        have FC : Hid (∀ W y, HeapAt W L5 h → HeapAt W L6 (setW (collectH h os) (a + 3) y) → Ext w W → (0 < sizeAt (collectH h os).words a ∧ y ≠ wd (collectH h os).words (a + 3) ∧ 0 ≤ y ∧ y < 4294967296 ∧ (fmtAt (collectH h os).words a = 1 ∨ fmtAt (collectH h os).words a = 4 → y = 5 ∨ y = 7) ∧ (fmtAt (collectH h os).words a = 2 → spAt (collectH h os).words a < 4 * (sizeAt (collectH h os).words a : Int) ∧ y / 256 = wd (collectH h os).words (a + 3) / 256)) → Calls Tryz.prog 15 #[.pointer (some ⟨L5.b, 0, none⟩), .pointer (some ⟨L.b, 0, none⟩)] W (Found14 W)) := by
          intro W y hG hH hE ⟨z1, z2, z3, z4, z5, z6⟩
          have := found_other hG WFX.out SO.out (HS.out.kept hE hp) HAO.out z1 z2 z3 z4 (fun hf => by rcases z5 hf with rfl | rfl <;> rfl) z6 hH
          rw [HB6.out] at this
          exact this
        have XR := Lib.hid (WFC.out.word (a + 3))
        rw [HB6.out, hda, hdr_eta WFC.out a] at HD
        simp only [Hdr.val, Hdr.cells] at HD
        clear hda
        clear haos hi hl0 ht
        generalize wd (collectH h os).words (a + 3) = x at *
        generalize sizeAt (collectH h os).words a = S at *
        generalize fmtAt (collectH h os).words a = F at *
        generalize spAt (collectH h os).words a = P at *
        generalize clsAt (collectH h os).words a = C at *
        generalize serAt (collectH h os).words a = s at *
        obtain ⟨m1, m2, m3, m4, m5, m6⟩ := hmb
        have key : Hid ((F = 2 ∧ P < 4 * (S : Int) ∧ (F == 2) = true ∧ decide (P < 4 * (S : Int)) = true) ∨ (F = 3 ∧ 0 < S ∧ (F == 2) = false ∧ (F == 3) = true ∧ decide (0 < S) = true) ∨ ((F = 1 ∨ F = 4) ∧ 0 < S ∧ (F == 2) = false ∧ (F == 3) = false ∧ decide (0 < S) = true ∧ (F != 2) = true) ∨ ((F == 2) = true ∧ decide (P < 4 * (S : Int)) = false ∧ (F == 3) = false ∧ decide (0 < S) = false) ∨ ((F == 2) = false ∧ (F == 3) = true ∧ decide (0 < S) = false) ∨ ((F == 2) = false ∧ (F == 3) = false ∧ decide (0 < S) = false)) := by
          show _ ∨ _
          by_cases f2 : F = 2
          · subst f2
            by_cases hp4 : P < 4 * (S : Int)
            · exact .inl ⟨rfl, hp4, rfl, by simpa using hp4⟩
            · exact .inr (.inr (.inr (.inl ⟨rfl, by simpa using hp4, rfl, by simp; omega⟩)))
          · have f2' : (F == 2) = false := by simpa using f2
            by_cases hz : 0 < S
            · have hz' : decide (0 < S) = true := by simpa using hz
              by_cases f3 : F = 3
              · exact .inr (.inl ⟨f3, hz, f2', by simpa using f3, hz'⟩)
              · exact .inr (.inr (.inl ⟨by omega, hz, f2', by simpa using f3, hz', by rw [bne_iff_ne]; exact f2⟩))
            · have hz' : decide (0 < S) = false := by simpa using hz
              cases f3 : (F == 3) with
              | true => exact .inr (.inr (.inr (.inr (.inl ⟨f2', rfl, hz'⟩))))
              | false => exact .inr (.inr (.inr (.inr (.inr ⟨f2', rfl, hz'⟩))))
        rcases key.out with ⟨f, z, k1, k2⟩ | ⟨f, z, k1, k2, k3⟩ | ⟨f, z, k1, k2, k3, k4⟩ | ⟨k1, k2, k3, k4⟩ | ⟨k1, k2, k3⟩ | ⟨k1, k2, k3⟩
        · have BY2 := Lib.hid (BY.out f z)
          have SB2 := Lib.hid (SB.out f z)
          have hb0 : 0 ≤ x % 256 := by omega
          have hb1 : x % 256 < 256 := by omega
          have XO := Lib.hid (xor_one_u8 hb0 hb1)
          have CND : Hid (0 < S ∧ x - x % 256 + bits .xor .u8 (x % 256) 1 ≠ x ∧ 0 ≤ x - x % 256 + bits .xor .u8 (x % 256) 1 ∧ x - x % 256 + bits .xor .u8 (x % 256) 1 < 4294967296 ∧ (F = 1 ∨ F = 4 → x - x % 256 + bits .xor .u8 (x % 256) 1 = 5 ∨ x - x % 256 + bits .xor .u8 (x % 256) 1 = 7) ∧ (F = 2 → P < 4 * (S : Int) ∧ (x - x % 256 + bits .xor .u8 (x % 256) 1) / 256 = x / 256)) := by
            obtain ⟨q1, q2, q3⟩ := XO.out
            have q4 := XR.out
            generalize bits .xor .u8 (x % 256) 1 = b at *
            exact ⟨by omega, by omega, by omega, by omega, by omega, fun _ => ⟨z, by omega⟩⟩
          clear f z key BY SB WO SW GE PU
          go_wp2_with (first | (go_at_call 22; refine HD.out.mono ?_; rintro e w7 ⟨rfl, hE7⟩; have E7 := Lib.hid (hE7.alloc (.cells #[.int .i64 (S : Int), .int .i64 F, .int .i64 P, .int .u32 C, .int .u32 s] 65)); clear hE7) | (go_at_call 13; refine (num13 _ _).mono ?_; rintro e w' ⟨rfl, rfl⟩) | (go_at_call 23; refine (BY2.out _ E7.out).mono ?_; rintro e w8 ⟨rfl, hE8⟩; have E8 := Lib.hid (E7.out.trans hE8); clear hE8))
          refine (SB2.out _ _ E8.out XO.out.1 XO.out.2.1).mono ?_
          rintro e w9 ⟨rfl, hA9, hM9⟩
          have A9 := Lib.hid hA9
          have G9 := Lib.hid ((G6.out.keep E8.out).mod hM9 (by intro x hx hq; exact N65.out x hx (by simpa using hq)))
          have E9 := Lib.hid ((E6.out.trans E8.out).of_mod hM9 (by intro x hx; simp only [List.mem_singleton] at hx; rw [hx]; exact N6.out _ (by simp [HLoc.blocks])))
          clear hA9 hM9
          go_wp2_with fail
          refine (FC.out _ _ G9.out A9.out E9.out CND.out).mono ?_
          rintro e w12 ⟨sr, hsr, rfl, hE12⟩
          have E12 := Lib.hid (E9.out.trans hE12)
          have sne : (sr != 0) = true := by rw [bne_iff_ne]; omega
          clear hE12 hsr
          go_wp2
          go_ret
          exact ⟨rfl, E12.out.alloc _⟩
        · have WO2 := Lib.hid (WO.out f z)
          have SW2 := Lib.hid (SW.out f z)
          have CND : Hid (0 < S ∧ bits .xor .u32 x 1 ≠ x ∧ 0 ≤ bits .xor .u32 x 1 ∧ bits .xor .u32 x 1 < 4294967296 ∧ (F = 1 ∨ F = 4 → bits .xor .u32 x 1 = 5 ∨ bits .xor .u32 x 1 = 7) ∧ (F = 2 → P < 4 * (S : Int) ∧ bits .xor .u32 x 1 / 256 = x / 256)) := by
            obtain ⟨q1, q2, q3⟩ := xor_one_u32 XR.out.1 XR.out.2
            exact ⟨z, q3, q1, q2, by omega, by omega⟩
          clear f z key BY SB WO SW GE PU
          go_wp2_with (first | (go_at_call 22; refine HD.out.mono ?_; rintro e w7 ⟨rfl, hE7⟩; have E7 := Lib.hid (hE7.alloc (.cells #[.int .i64 (S : Int), .int .i64 F, .int .i64 P, .int .u32 C, .int .u32 s] 65)); clear hE7) | (go_at_call 13; refine (num13 _ _).mono ?_; rintro e w' ⟨rfl, rfl⟩) | (go_at_call 25; refine (WO2.out _ E7.out).mono ?_; rintro e w8 ⟨rfl, hE8⟩; have E8 := Lib.hid (E7.out.trans hE8); clear hE8))
          refine (SW2.out _ _ E8.out).mono ?_
          rintro e w9 ⟨rfl, hA9, hM9⟩
          have A9 := Lib.hid hA9
          have G9 := Lib.hid ((G6.out.keep E8.out).mod hM9 (by intro x hx hq; exact N65.out x hx (by simpa using hq)))
          have E9 := Lib.hid ((E6.out.trans E8.out).of_mod hM9 (by intro x hx; simp only [List.mem_singleton] at hx; rw [hx]; exact N6.out _ (by simp [HLoc.blocks])))
          clear hA9 hM9
          go_wp2_with fail
          refine (FC.out _ _ G9.out A9.out E9.out CND.out).mono ?_
          rintro e w12 ⟨sr, hsr, rfl, hE12⟩
          have E12 := Lib.hid (E9.out.trans hE12)
          have sne : (sr != 0) = true := by rw [bne_iff_ne]; omega
          clear hE12 hsr
          go_wp2
          go_ret
          exact ⟨rfl, E12.out.alloc _⟩
        · have GE2 := Lib.hid (GE.out f z)
          have PU2 := Lib.hid (PU.out f z)
          obtain ⟨y, hy⟩ : ∃ y : Int, (((x == 5) = true ∧ y = 7) ∨ ((x == 5) = false ∧ y = 5)) := by
            cases h5 : (x == 5)
            · exact ⟨5, .inr ⟨rfl, rfl⟩⟩
            · exact ⟨7, .inl ⟨rfl, rfl⟩⟩
          have CND : Hid (0 < S ∧ y ≠ x ∧ 0 ≤ y ∧ y < 4294967296 ∧ (F = 1 ∨ F = 4 → y = 5 ∨ y = 7) ∧ (F = 2 → P < 4 * (S : Int) ∧ y / 256 = x / 256)) := by
            rcases hy with ⟨h5, rfl⟩ | ⟨h5, rfl⟩
            · have : x = 5 := by simpa using h5
              exact ⟨z, by omega, by omega, by omega, by omega, by omega⟩
            · have : x ≠ 5 := by simpa using h5
              exact ⟨z, by omega, by omega, by omega, by omega, by omega⟩
          clear f z key BY SB WO SW GE PU
          rcases hy with ⟨h5, rfl⟩ | ⟨h5, rfl⟩
          all_goals
            go_wp2_with (first | (go_at_call 22; refine HD.out.mono ?_; rintro e w7 ⟨rfl, hE7⟩; have E7 := Lib.hid (hE7.alloc (.cells #[.int .i64 (S : Int), .int .i64 F, .int .i64 P, .int .u32 C, .int .u32 s] 65)); clear hE7) | (go_at_call 13; refine (num13 _ _).mono ?_; rintro e w' ⟨rfl, rfl⟩) | (go_at_call 27; refine (GE2.out _ E7.out).mono ?_; rintro e w8 ⟨rfl, hE8⟩; have E8 := Lib.hid (E7.out.trans hE8); clear hE8))
            refine (PU2.out _ _ E8.out (by first | exact .inl rfl | exact .inr rfl)).mono ?_
            rintro e w9 ⟨rfl, hA9, hM9⟩
            have A9 := Lib.hid hA9
            have G9 := Lib.hid ((G6.out.keep E8.out).mod hM9 (by intro x hx hq; exact N65.out x hx (by simpa using hq)))
            have E9 := Lib.hid ((E6.out.trans E8.out).of_mod hM9 (by intro x hx; simp only [List.mem_singleton] at hx; rw [hx]; exact N6.out _ (by simp [HLoc.blocks])))
            clear hA9 hM9
            go_wp2_with fail
            refine (FC.out _ _ G9.out A9.out E9.out (by simpa using CND.out)).mono ?_
            rintro e w12 ⟨sr, hsr, rfl, hE12⟩
            have E12 := Lib.hid (E9.out.trans hE12)
            have sne : (sr != 0) = true := by rw [bne_iff_ne]; omega
            clear hE12 hsr
            go_wp2
            go_ret
            exact ⟨rfl, E12.out.alloc _⟩
        · clear key BY SB WO SW GE PU FC
          go_wp2_with (first | (go_at_call 22; refine HD.out.mono ?_; rintro e w7 ⟨rfl, hE7⟩; have E7 := Lib.hid (hE7.alloc (.cells #[.int .i64 (S : Int), .int .i64 F, .int .i64 P, .int .u32 C, .int .u32 s] 65)); clear hE7) | (go_at_call 13; refine (num13 _ _).mono ?_; rintro e w' ⟨rfl, rfl⟩))
          go_ret
          exact ⟨rfl, E6.out.trans E7.out⟩
        · clear key BY SB WO SW GE PU FC
          go_wp2_with (first | (go_at_call 22; refine HD.out.mono ?_; rintro e w7 ⟨rfl, hE7⟩; have E7 := Lib.hid (hE7.alloc (.cells #[.int .i64 (S : Int), .int .i64 F, .int .i64 P, .int .u32 C, .int .u32 s] 65)); clear hE7) | (go_at_call 13; refine (num13 _ _).mono ?_; rintro e w' ⟨rfl, rfl⟩))
          go_ret
          exact ⟨rfl, E6.out.trans E7.out⟩
        · clear key BY SB WO SW GE PU FC
          go_wp2_with (first | (go_at_call 22; refine HD.out.mono ?_; rintro e w7 ⟨rfl, hE7⟩; have E7 := Lib.hid (hE7.alloc (.cells #[.int .i64 (S : Int), .int .i64 F, .int .i64 P, .int .u32 C, .int .u32 s] 65)); clear hE7) | (go_at_call 13; refine (num13 _ _).mono ?_; rintro e w' ⟨rfl, rfl⟩))
          go_ret
          exact ⟨rfl, E6.out.trans E7.out⟩
  · have E1 := Lib.hid (E0.out.trans hE1)
    clear hE1
    go_wp2_with (go_at_call 9; refine (AW.out _ E1.out).mono ?_; rintro e w2 ⟨rfl, hE2⟩; have E2 := Lib.hid (E1.out.trans hE2); clear hE2)
    go_ret
    exact ⟨rfl, E2.out⟩

end Go.Proofs.Eff
