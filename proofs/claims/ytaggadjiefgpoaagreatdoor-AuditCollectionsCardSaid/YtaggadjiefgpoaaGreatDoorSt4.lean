/- The document's walk: Walk. -/
import Derived.Test.YtaggadjiefgpoaaGreatDoorKa0
namespace Go.Proofs.Eff
open Go.RowKit

theorem make120' (w : World) (n : Nat) (hn : n ≤ 1048577) : (Instr.makeSlice 120 (.int .i64 (n : Int)) (.int .i64 (n : Int))).run Tryz.prog w = .ok (.slice (some ⟨w.heap.size, 0, none⟩) n n) (w.alloc (.cells (bmk n) 4)) := by
  obtain ⟨i0, hi, hz0, hz1, hz3⟩ := info_parts Tryz.cinfo4
  have := run_makeSlice (P := Tryz.prog) w 120 4 i0 (.bool false) Tryz.underlying120 hi hz0 .i64 .i64 n n (by omega) (by omega) (by rw [hz1]; omega) (by rw [hz3]; omega) (by omega)
  rw [this]
  simp only [Int.toNat_natCast, hz1, Nat.mul_one]
  have e : madeCells (Value.bool false).cells n = bmk n := by
    have : (Value.bool false).cells = #[Value.bool false] := rfl
    rw [this]
    apply Array.ext
    · simp [madeCells, bmk]
    · intro i h1 h2; simp [madeCells, bmk, Nat.mod_one]
  rw [e]
theorem bmk_seen (n : Nat) : (bmk n).toList = bools (seenOf n []) := by simp [bmk, seenOf_nil, bools]

def WalkD (w : World) (met : List Int) (e : Ending) (w' : World) : Prop :=
  ∃ v cv, e = .returned (.tuple #[v, cv]) ∧ w'.ownsRow w.heap.size 41 1 v met.length (u32s met) ∧ Ext w w'

theorem row_of_block {w w' : World} {base n size cap g : Nat} {e : TypeId} {xs : List Value} (h : w.ownsRow base e size (.slice (some ⟨g, 0, none⟩) n cap) n xs) (hb : w'.heap[g]? = w.heap[g]?) : w'.ownsRow base e size (.slice (some ⟨g, 0, none⟩) n cap) n xs := by
  obtain ⟨h1, h2⟩ := h
  refine ⟨h1, ?_⟩
  rcases h2 with h2 | ⟨g', c, cur, a1, a2, a3, a4⟩
  · exact .inl h2
  · obtain rfl : g = g' := by cases a1; rfl
    exact .inr ⟨g, c, cur, a1, a2, by rw [hb]; exact a3, a4⟩
theorem heldO_wd {ws : List Int} {a k : Nat} (hk : k < nmH ws a) : ∃ hl : k < (nmL ws a).length, wd (heldO ws a) k = wd ws (nmL ws a)[k] := by
  have h1 := nmH_le ws a
  refine ⟨by omega, ?_⟩
  have hl := heldO_length ws a
  have : k < (heldO ws a).length := by omega
  simp only [wd, List.getElem?_eq_getElem this, Option.getD_some]
  simp [heldO, wd]

theorem foldl_bound {h : HeapS} {os : List Nat} {xs met : List Int} {at_ : Nat} (wf : WF h os) (hso : Sound h os) (I : DInv h os xs at_ met) {a : Nat} (ha : a ∈ os) (k : Nat) : (((heldO h.words a).take k).foldl putO met).length ≤ 1048577 := by
  rw [putO_foldl]
  have hm := wf.mem ha
  have hin : ∀ x, x ∈ ((heldO h.words a).take k).filter isObj → x ∈ namesAt h.words a true := by
    intro x hx
    obtain ⟨h1, h2⟩ := List.mem_filter.1 hx
    rw [← heldO_names hm.2.1]
    exact List.mem_filter.2 ⟨List.mem_of_mem_take h1, h2⟩
  have h1 := met_le (os := os) (putAll_nodup I.nodup (l := ((heldO h.words a).take k).filter isObj)) (fun x hx => by
    rcases putAll_mem.1 hx with h1 | h1
    · exact I.valid x h1
    · exact hso.names ha true x (hin x h1)) (fun x hx => by
    rcases putAll_mem.1 hx with h1 | h1
    · exact (I.rng x h1).1
    · exact (names_rng wf x (hin x h1)).1)
  have h2 := reach_le wf
  omega

section
variable {w : World} {L : HLoc} {h : HeapS} {os : List Nat}

set_option maxRecDepth 100000 in
set_option maxHeartbeats 4000000 in
theorem Walk117 (s : StAt w L h) (wf : WF h os) (hso : Sound h os) :
    Calls Tryz.prog 117 #[stV L h, .slice (some ⟨L.gr, 0, none⟩) h.roots.length L.cr] w (WalkD w (reach h.words os.length (h.roots.filter isObj))) := by
  have hbig := wf.big
  have hrl := wf.rlen
  have HRL := Lib.hid hrl
  have ST := Lib.hid s
  have WFX := Lib.hid wf
  have SO := Lib.hid hso
  have hmk : ∀ W, (Instr.makeSlice 120 (.int .i64 ((h.words.length : Int) + 1)) (.int .i64 ((h.words.length : Int) + 1))).run Tryz.prog W = .ok (.slice (some ⟨W.heap.size, 0, none⟩) (h.words.length + 1) (h.words.length + 1)) (W.alloc (.cells (bmk (h.words.length + 1)) 4)) := fun W => make120' W (h.words.length + 1) (by omega)
  have hr64 : h.roots.length ≤ 64 := by omega
  have VR : Hid (∀ k, k < h.roots.length → (isObj (wd h.roots k) = true → (wd h.roots k / 2).toNat < h.words.length + 1) ∧ 0 ≤ wd h.roots k ∧ wd h.roots k < 4294967296) := by
    intro k hk
    have hm := wd_in hk
    refine ⟨fun ho => ?_, wf.root k⟩
    have h1 := (roots_valid wf hso (wd h.roots k) (List.mem_filter.2 ⟨hm, ho⟩)).1
    have := wf.mem (wf.isO_lt h1).2
    omega
  have DF : Hid (DInv h os (h.roots.filter isObj) 0 (putAll [] (h.roots.filter isObj))) := DInv.first (fun x hx => roots_valid wf hso x hx)
  unfold stV
  clear s wf hso hrl
  go_enter Tryz.func117, Tryz.ntmps117
  go_wp2
  have B0 := Lib.hid (keepB (keepB (newB w (.cells #[.slice (some ⟨L.gw, 0, none⟩) h.words.length L.cw, .slice (some ⟨L.gr, 0, none⟩) h.roots.length L.cr] 33) _ rfl) (.cells (bmk (h.words.length + 1)) 4)) (.cells #[.slice none 0 0, .slice none 0 0, .slice (some ⟨w.heap.size + 1, 0, none⟩) (h.words.length + 1) (h.words.length + 1)] 269))
  have E0 := Lib.hid ((((Ext.refl w).alloc (.cells #[.slice (some ⟨L.gw, 0, none⟩) h.words.length L.cw, .slice (some ⟨L.gr, 0, none⟩) h.roots.length L.cr] 33)).alloc (.cells (bmk (h.words.length + 1)) 4)).alloc (.cells #[.slice none 0 0, .slice none 0 0, .slice (some ⟨w.heap.size + 1, 0, none⟩) (h.words.length + 1) (h.words.length + 1)] 269))
  have D0 : Hid (DWalk (((w.alloc (.cells #[.slice (some ⟨L.gw, 0, none⟩) h.words.length L.cw, .slice (some ⟨L.gr, 0, none⟩) h.roots.length L.cr] 33)).alloc (.cells (bmk (h.words.length + 1)) 4)).alloc (.cells #[.slice none 0 0, .slice none 0 0, .slice (some ⟨w.heap.size + 1, 0, none⟩) (h.words.length + 1) (h.words.length + 1)] 269)) (w.heap.size + 1) (w.heap.size + 1 + 1) (.slice none 0 0) (.slice none 0 0) (w.heap.size + 1) (h.words.length + 1) [] []) := by
    refine ⟨newB _ _ _ (by simp), World.ownsRow_nil _ _ _ _, World.ownsRow_nil _ _ _ _, ?_, by omega, rfl⟩
    have := World.ownsRow_lit (base := w.heap.size + 1) (e := 4) (size := 1) (w.alloc (.cells #[.slice (some ⟨L.gw, 0, none⟩) h.words.length L.cw, .slice (some ⟨L.gr, 0, none⟩) h.roots.length L.cr] 33)) (bmk (h.words.length + 1)) (h.words.length + 1) (by simp) (by unfold maxLen; omega) (by simp [bmk])
    rw [bmk_seen] at this
    simp only [World.size_alloc] at this
    exact row_keep this ((Ext.refl _).alloc _)
  generalize ((w.alloc (.cells #[.slice (some ⟨L.gw, 0, none⟩) h.words.length L.cw, .slice (some ⟨L.gr, 0, none⟩) h.roots.length L.cr] 33)).alloc (.cells (bmk (h.words.length + 1)) 4)).alloc (.cells #[.slice none 0 0, .slice none 0 0, .slice (some ⟨w.heap.size + 1, 0, none⟩) (h.words.length + 1) (h.words.length + 1)] 269) = W0 at *
  obtain ⟨bb, hbb⟩ : ∃ n, n = w.heap.size := ⟨_, rfl⟩
  obtain ⟨b, hb⟩ : ∃ n, n = w.heap.size + 1 + 1 := ⟨_, rfl⟩
  obtain ⟨gs, hgs⟩ : ∃ n, n = w.heap.size + 1 := ⟨_, rfl⟩
  rw [← hb] at D0 ⊢
  rw [← hgs] at D0 ⊢
  have qB1 : W0.heap[bb]? = some (.cells #[.slice (some ⟨L.gw, 0, none⟩) h.words.length L.cw, .slice (some ⟨L.gr, 0, none⟩) h.roots.length L.cr] 33) := by rw [hbb]; exact B0.out
  have B1 := Lib.hid qB1
  have hbbg : bb < gs := by omega
  have hgw : gs ≤ W0.heap.size := Nat.le_of_lt (row_lt D0.out.seen)
  have hwg : w.heap.size ≤ gs := by omega
  rw [← hbb]
  clear B0 hbb hb hgs hmk qB1
  have XE : Hid (∀ W, Below gs W0 W → Ext w W) := fun W hB => Below.trans E0.out (Below.mono hB hwg)
  have XB : Hid (∀ W, Below gs W0 W → W.heap[bb]? = some (.cells #[.slice (some ⟨L.gw, 0, none⟩) h.words.length L.cw, .slice (some ⟨L.gr, 0, none⟩) h.roots.length L.cr] 33)) := fun W hB => by rw [hB.block bb hbbg]; exact B1.out
  have hrt : (h.roots.length : Int) ≤ 64 := by omega
  go_loopw [23] (fun i wr => ∃ (k : Nat) (lv cv : Value) (cm : List Int), k ≤ h.roots.length ∧ i = .int .i64 k ∧ DWalk wr gs b lv cv gs (h.words.length + 1) ((h.roots.take k).foldl putO []) cm ∧ Below gs W0 wr) (fun i _ => h.roots.length - (intOf i).toNat)
  case atStart => exact ⟨0, _, _, [], by omega, rfl, D0.out, Below.refl _ _⟩
  case round =>
    obtain ⟨k, lv, cv, cm, hk, rfl, hD, hB⟩ := hrel
    have DX := Lib.hid hD
    have BX := Lib.hid hB
    clear hD hB
    by_cases hlt : k < h.roots.length
    · have ck := (ST.out.keep (XE.out _ BX.out)).root k hlt
      have hki : (k : Int) < (h.roots.length : Int) := by omega
      have SN := Lib.hid (foldl_take_succ (met := []) hlt)
      have hml := foldl_len (h.roots.take k) []
      rw [List.length_take] at hml
      have PT := Lib.hid (put153 DX.out (Nat.le_trans hgw BX.out.size) (wd h.roots k) (-1) (VR.out k hlt).2.1 (VR.out k hlt).2.2 (VR.out k hlt).1 (by omega) (by simp only [List.length_nil] at hml; omega))
      clear hml
      go_wp2_with (go_at_call 153; refine PT.out.mono ?_; rintro e w2 ⟨rfl, lv2, cv2, cm2, hD2, hB2, _, _⟩; have D2 := Lib.hid hD2; have B2 := Lib.hid (Below.trans BX.out hB2); clear hD2 hB2 ck)
      go_roundw
      case rel => exact ⟨k + 1, lv2, cv2, cm2, by omega, by go_num, by rw [SN.out]; exact D2.out, B2.out⟩
      case measure => simp [intOf]; omega
    · have hke : k = h.roots.length := by omega
      have D1q := DX.out
      rw [hke, List.take_length, putO_foldl] at D1q
      have D1 := Lib.hid D1q
      subst hke
      clear D1q DX
      go_wp2
      have hosl := reach_le WFX.out
      go_loopw [9] (fun i wr2 => ∃ (at_ : Nat) (met : List Int) (lv cv : Value) (cm : List Int), i = .int .i64 at_ ∧ DWalk wr2 gs b lv cv gs (h.words.length + 1) met cm ∧ DInv h os (h.roots.filter isObj) at_ met ∧ Below gs W0 wr2) (fun i _ => os.length + 1 - (intOf i).toNat)
      case atStart => exact ⟨0, _, lv, cv, cm, rfl, D1.out, DF.out, BX.out⟩
      case round =>
        obtain ⟨at_, met, lv, cv, cm, rfl, hD, hI, hB⟩ := hrel
        have DY := Lib.hid hD
        have IX := Lib.hid hI
        have BY := Lib.hid hB
        obtain ⟨la, lc, rfl, hla⟩ := own_any DY.out.list
        have HLA := Lib.hid hla
        clear hla
        obtain ⟨ca, cc, rfl, _⟩ := own_any DY.out.came
        have hmlq := hI.len WFX.out
        have hml : met.length ≤ 1048576 := hmlq.2
        have hmo : met.length ≤ os.length := hmlq.1
        have hat := hI.le
        obtain ⟨b1, b2⟩ := blk hD.blk
        clear hD hI hB hmlq
        by_cases hlt : at_ < met.length
        · obtain ⟨gl, rfl, hgl0, hgl1⟩ := HLA.out (by omega)
          have hmem := wd_in hlt
          have hx0 := (IX.out.rng _ hmem).1
          have hx1 := (IX.out.rng _ hmem).2
          have hv0 := IX.out.valid _ hmem
          have haos := (WFX.out.isO_lt hv0).2
          have hobj := (WFX.out.isO_lt hv0).1
          have NI := Lib.hid (IX.out.step WFX.out SO.out hlt)
          have ck : wr.cell? ⟨gl, at_, none⟩ = some (.int .u32 (wd met at_)) := by
            rw [row_cell DY.out.list at_ hlt]; simp [u32s, wd, hlt]
          obtain ⟨a, ha⟩ : ∃ a, a = (wd met at_ / 2).toNat := ⟨_, rfl⟩
          have hoa : wd met at_ = 2 * (a : Int) := by simp [isObj] at hobj; omega
          rw [← ha] at haos NI
          rw [hoa] at ck
          have HAOS := Lib.hid haos
          have hm := WFX.out.mem haos
          have hdv := div2 a
          have vw1 : IntKind.u32.wrap (a : Int) = a := wraps_u32 _ (by omega) (by omega)
          have vw2 : IntKind.i64.wrap (a : Int) = a := by rw [IntKind.wrap_i64]; omega
          have NM := Lib.hid (fun W (hE : Ext w W) => names43 (ST.out.keep hE) WFX.out a haos)
          unfold stV at NM
          have HV := Lib.hid (held_valid WFX.out SO.out haos)
          have NMB := Lib.hid (nmL_bound hm.2.1)
          have HNM := Lib.hid (heldO_names hm.2.1)
          have HNL := nmH_le h.words a
          have hnl2 : (nmL h.words a).length ≤ sizeAt h.words a + 1 := nmL_len
          have hnp := nmL_pos h.words a
          have hss := hm.2.1
          have HLN := Lib.hid (heldO_length h.words a)
          have hsz2 := BY.out.size
          have CK := Lib.hid ck
          have KE : Hid (∀ W, Ext wr W → ((∀ i, W.cell? ⟨bb, i, none⟩ = (#[.slice (some ⟨L.gw, 0, none⟩) h.words.length L.cw, .slice (some ⟨L.gr, 0, none⟩) h.roots.length L.cr] : Array Value)[i]?) ∧ (∀ i, W.cell? ⟨b, i, none⟩ = (#[.slice (some ⟨gl, 0, none⟩) met.length lc, .slice ca cm.length cc, .slice (some ⟨gs, 0, none⟩) (h.words.length + 1) (h.words.length + 1)] : Array Value)[i]?) ∧ W.cell? ⟨gl, at_, none⟩ = some (.int .u32 (2 * (a : Int)))) ∧ Ext wr W) := by
            intro W hE
            refine ⟨⟨(blk (hE.keep (XB.out _ BY.out))).1, (blk (hE.keep DY.out.blk)).1, ?_⟩, hE⟩
            rw [hE.cell (p := ⟨gl, at_, none⟩) hgl1]; exact CK.out
          have hati : (at_ : Int) < (met.length : Int) := by omega
          have hmne : met ≠ [] := by intro e; rw [e] at hlt; simp at hlt
          clear hmem hx0 hx1 hv0 hobj ha hoa hm ck b1 b2
          have hb0 := (blk (DY.out.blk)).1
          go_wp2
          clear hb0
          go_region_held3 (fun w' => ((∀ i, w'.cell? ⟨bb, i, none⟩ = (#[.slice (some ⟨L.gw, 0, none⟩) h.words.length L.cw, .slice (some ⟨L.gr, 0, none⟩) h.roots.length L.cr] : Array Value)[i]?) ∧ (∀ i, w'.cell? ⟨b, i, none⟩ = (#[.slice (some ⟨gl, 0, none⟩) met.length lc, .slice ca cm.length cc, .slice (some ⟨gs, 0, none⟩) (h.words.length + 1) (h.words.length + 1)] : Array Value)[i]?) ∧ w'.cell? ⟨gl, at_, none⟩ = some (.int .u32 (2 * (a : Int)))) ∧ Ext wr w') (first | with_reducible exact KE.out _ (Ext.refl wr).drew | with_reducible exact KE.out _ ((Ext.refl wr).drew.trans hE9))
            ((go_at_call 43; refine (NM.out _ ((XE.out _ BY.out).trans (‹_ ∧ Ext wr _›).2)).mono ?_; rintro e w9 ⟨v9, rfl, hrow9, hE9⟩; obtain ⟨ad9, cn, rfl, hq9⟩ := own_any hrow9; obtain ⟨gn, rfl, hg1, hg2⟩ := hq9 hnp))
          have EX9 : Ext wr w9 := (Ext.refl wr).drew.trans hE9
          have hsz3 : gs ≤ wr.heap.size := Nat.le_trans hgw BY.out.size
          have D9 := Lib.hid (DY.out.keep EX9)
          have BE9 := Lib.hid (Below.trans BY.out (Below.mono EX9 hsz3))
          have hg1' : wr.heap.size ≤ gn := hg1
          have RN : Hid (w9.ownsRow gs 3 1 (.slice (some ⟨gn, 0, none⟩) (nmL h.words a).length cn) (nmL h.words a).length (n64s (nmL h.words a))) := row_mono hrow9 hsz3
          have hcn := (row_max hrow9).1
          have hcn2 := (row_max hrow9).2
          unfold maxLen at hcn2
          have NC : Hid (∀ g, (Value.slice ca cm.length cc).ownBlock = some g → g ≠ gn) := fun g hg => by
            have := (DY.out.came.lt g hg).2; omega
          have HWD : Hid (∀ k, k < nmH h.words a → ∃ hl : k < (nmL h.words a).length, wd (heldO h.words a) k = wd h.words (nmL h.words a)[k]) := fun k hk => heldO_wd hk
          have hH0 : (nmH h.words a : Int) ≤ (cn : Int) := by omega
          clear hE9 EX9 hrow9 hg1 hg2 hq9 hdv vw1 vw2
          generalize nmH h.words a = Hn at *
          have hH1 : Hn ≤ 1048577 := by omega
          go_wp2
          go_loopw [58] (fun i w3 => ∃ (k : Nat) (lv cv : Value) (cm2 : List Int), k ≤ Hn ∧ i = .int .i64 k ∧ DWalk w3 gs b lv cv gs (h.words.length + 1) (((heldO h.words a).take k).foldl putO met) cm2 ∧ Below gs W0 w3 ∧ w3.ownsRow gs 3 1 (.slice (some ⟨gn, 0, none⟩) (nmL h.words a).length cn) (nmL h.words a).length (n64s (nmL h.words a)) ∧ (∀ g, cv.ownBlock = some g → g ≠ gn)) (fun i _ => Hn - (intOf i).toNat)
          case atStart => exact ⟨0, _, _, cm, by omega, rfl, D9.out, BE9.out, RN.out, NC.out⟩
          case round =>
            obtain ⟨k, lv, cv, cm2, hk, rfl, hD, hB, hR, hC⟩ := hrel
            have DX2 := Lib.hid hD
            have BX2 := Lib.hid hB
            have RX2 := Lib.hid hR
            have CX2 := Lib.hid hC
            clear hD hB hR hC
            by_cases hlk : k < Hn
            · obtain ⟨hl, hwk⟩ := HWD.out k hlk
              have hmm : (nmL h.words a)[k] ∈ nmL h.words a := List.getElem_mem hl
              have hmb := (NMB.out _ hmm).1
              have cnk : wr.cell? ⟨gn, k, none⟩ = some (.int .i64 ((nmL h.words a)[k] : Int)) := by
                rw [row_cell RX2.out k hl]; simp [n64s, hl]
              have hkh : k < (heldO h.words a).length := by rw [HLN.out]; exact hlk
              have hvk := HV.out _ (wd_in hkh)
              have SN := Lib.hid (foldl_take_succ (met := met) hkh)
              have cw := (ST.out.keep (XE.out _ BX2.out)).word (nmL h.words a)[k] hmb
              rw [← hwk] at cw
              have hml3 := foldl_len ((heldO h.words a).take k) met
              rw [List.length_take] at hml3
              have PT := Lib.hid (put153 DX2.out (Nat.le_trans hgw BX2.out.size) (wd (heldO h.words a) k) (at_ : Int) hvk.2.1 hvk.2.2 (fun ho => by have := hvk.1 ho; omega) (by omega) (foldl_bound WFX.out SO.out IX.out HAOS.out k))
              have bz := (blk (XB.out _ BX2.out)).1
              obtain ⟨m, hm⟩ : ∃ m, m = (nmL h.words a)[k] := ⟨_, rfl⟩
              rw [← hm] at cnk cw hmb
              have hmi : (m : Int) < (h.words.length : Int) := by omega
              have hki : (k : Int) < (Hn : Int) := by omega
              clear hwk hmm hvk hm hml3
              generalize wd (heldO h.words a) k = y at *
              go_wp2_with (go_at_call 153; refine PT.out.mono ?_; rintro e w2 ⟨rfl, lv2, cv2, cm3, hD2, hB2, hF2, hG2⟩; have D2 := Lib.hid hD2; have B2 := Lib.hid (Below.trans BX2.out hB2); have F2 := Lib.hid hF2; have G2 := Lib.hid hG2; clear hD2 hB2 hF2 hG2 cnk cw bz)
              have RR2 : Hid (w2.ownsRow gs 3 1 (.slice (some ⟨gn, 0, none⟩) (nmL h.words a).length cn) (nmL h.words a).length (n64s (nmL h.words a))) := by
                refine row_of_block RX2.out (F2.out gn (row_lt RX2.out) ?_ ?_ ?_ ?_)
                · obtain ⟨cur, hcur, _⟩ := row_block RX2.out
                  exact block_ne hcur DX2.out.blk (by simp)
                · obtain ⟨cur, hcur, _⟩ := row_block RX2.out
                  obtain ⟨cur2, hcur2, _⟩ := row_block DX2.out.seen
                  exact block_ne hcur hcur2 (by simp)
                · obtain ⟨cur, hcur, _⟩ := row_block RX2.out
                  exact own_ne DX2.out.list hcur (by decide)
                · intro he; exact CX2.out gn he rfl
              have CC2 : Hid (∀ g, cv2.ownBlock = some g → g ≠ gn) := fun g hg => by
                rcases G2.out g hg with h1 | h1
                · exact CX2.out g h1
                · have := row_lt RX2.out; omega
              go_roundw
              case rel => exact ⟨k + 1, lv2, cv2, cm3, by omega, by go_num, by rw [SN.out]; exact D2.out, B2.out, RR2.out, CC2.out⟩
              case measure => simp [intOf]; omega
            · have hke : k = Hn := by omega
              subst hke
              have D3q := DX2.out
              rw [List.take_of_length_le (by rw [HLN.out]; exact Nat.le_refl _), putO_foldl, HNM.out] at D3q
              have D3 := Lib.hid D3q
              clear D3q
              go_wp2
              go_roundw
              case rel => exact ⟨at_ + 1, _, lv, cv, cm2, by go_num, D3.out, NI.out, BX2.out⟩
              case measure => simp [intOf]; omega
        · have hke : at_ = met.length := by omega
          subst hke
          have LS := Lib.hid (IX.out.last WFX.out)
          have hd2 : decide ((met.length : Int) < (met.length : Int)) = false := by simp
          go_wp2
          go_quiet (fail)
          go_wp2
          go_ret2
          refine ⟨_, _, rfl, ?_, ?_⟩
          · rw [LS.out]; exact row_keep (row_mono DY.out.list hwg) ((Ext.refl _).drewN _)
          · exact (XE.out _ BY.out).drewN _
end
end Go.Proofs.Eff
