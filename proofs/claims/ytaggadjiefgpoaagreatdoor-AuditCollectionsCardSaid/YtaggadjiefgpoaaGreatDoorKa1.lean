/- The document's store: Live. The document's store: Plan. The document's Collect: plain laws. The document's Collect: plain laws, more. -/
import Derived.Test.YtaggadjiefgpoaaGreatDoorSt4
import Derived.Test.YtaggadjiefgpoaaGreatDoorHa26
import Derived.Test.YtaggadjiefgpoaaGreatDoorSl0
namespace Go.Proofs.Eff
open Go.RowKit

theorem Laid.sorted {ws : List Int} : ∀ {os : List Nat} {a : Nat}, Laid ws a os → os.Pairwise (· < ·) := by
  intro os
  induction os with
  | nil => intro a _; exact List.Pairwise.nil
  | cons x l ih =>
    rintro a ⟨rfl, h2, h3, h4⟩
    refine List.pairwise_cons.2 ⟨fun y hy => ?_, ih h4⟩
    have := (h4.mem y hy).1
    omega
/-- Whether an object is come to. -/
def liveB (h : HeapS) (os : List Nat) (a : Nat) : Bool := (reach h.words os.length (h.roots.filter isObj)).contains (2 * (a : Int))
theorem live_filter {h : HeapS} {os : List Nat} (wf : WF h os) (hso : Sound h os) : liveOf h os = oopsOf (os.filter (liveB h os)) := by
  have hrv := reach_valid wf hso (roots_valid wf hso)
  have hsrt := wf.laid.sorted
  unfold liveOf liveB
  generalize reach h.words os.length (h.roots.filter isObj) = R at *
  have hS : (oopsOf (os.filter fun a => R.contains (2 * (a : Int)))).Pairwise (fun a b : Int => a < b) := by
    unfold oopsOf
    rw [List.pairwise_map]
    exact (hsrt.filter _).imp (fun h => by omega)
  have hnd : (oopsOf (os.filter fun a => R.contains (2 * (a : Int)))).Nodup := hS.imp (fun h => by omega)
  have hp : R.Perm (oopsOf (os.filter fun a => R.contains (2 * (a : Int)))) := by
    rw [List.perm_ext_iff_of_nodup hrv.1 hnd]
    intro x
    unfold oopsOf
    simp only [List.mem_map, List.mem_filter, List.contains_eq_mem, decide_eq_true_eq]
    constructor
    · intro hx
      have h1 := (hrv.2.1 x hx).1
      have h2 := wf.isO_lt h1
      have h3 : x = 2 * ((x / 2).toNat : Int) := by have := h2.1; simp [isObj] at this; have := (hrv.2.1 x hx).2.1; omega
      exact ⟨(x / 2).toNat, ⟨h2.2, by rw [← h3]; exact hx⟩, h3.symm⟩
    · rintro ⟨a, ⟨_, h2⟩, rfl⟩
      exact h2
  have h1 := List.mergeSort_perm R (fun x y => decide (x ≤ y))
  have hl : (R.mergeSort fun x y => decide (x ≤ y)).Pairwise (fun a b : Int => a ≤ b) := by
    have := List.pairwise_mergeSort (le := fun x y : Int => decide (x ≤ y)) (by intro a b c; simp; omega) (by intro a b; simp; omega) R
    exact this.imp (fun h => by simpa using h)
  exact (h1.trans hp).eq_of_pairwise (fun a b _ _ h1 h2 => by omega) hl (hS.imp (fun h => by omega))

section
variable {w : World} {L : HLoc} {h : HeapS} {os : List Nat}

set_option maxRecDepth 100000 in
set_option maxHeartbeats 4000000 in
theorem Live61 (s : StAt w L h) (wf : WF h os) (hso : Sound h os) : Calls Tryz.prog 61 #[stV L h] w (OopsR w (liveOf h os)) := by
  have hbig := wf.big
  obtain ⟨i0, hi, hz0, hz1, hz3⟩ := info_parts Tryz.cinfo41
  have LF := Lib.hid (live_filter wf hso)
  have hrv := reach_valid wf hso (roots_valid wf hso)
  have RVX := Lib.hid hrv
  have HOS := Lib.hid (reach_le wf)
  have WK := Lib.hid (fun W (hE : Ext w W) => Walk117 (s.keep hE) wf hso)
  have OB := Lib.hid (fun W (hE : Ext w W) => objects40 (s.keep hE) wf)
  have MEM : Hid (∀ x, x ∈ os → x < h.words.length ∧ 1 ≤ x) := fun x hx => by have := wf.mem hx; omega
  have RIN : Hid (∀ x, x ∈ reach h.words os.length (h.roots.filter isObj) → (x / 2).toNat < h.words.length + 1 ∧ x = 2 * ((x / 2).toNat : Int) ∧ x < 4294967296) := by
    intro x hx
    have h1 := hrv.2.1 x hx
    have h2 := wf.isO_lt h1.1
    have h3 := wf.mem h2.2
    refine ⟨by omega, ?_, h1.2.2⟩
    have := h2.1; simp [isObj] at this; omega
  have hmk : ∀ W, (Instr.makeSlice 120 (.int .i64 ((h.words.length : Int) + 1)) (.int .i64 ((h.words.length : Int) + 1))).run Tryz.prog W = .ok (.slice (some ⟨W.heap.size, 0, none⟩) (h.words.length + 1) (h.words.length + 1)) (W.alloc (.cells (bmk (h.words.length + 1)) 4)) := fun W => make120' W (h.words.length + 1) (by omega)
  unfold stV at *
  unfold liveB at LF
  generalize reach h.words os.length (h.roots.filter isObj) = R at *
  have hRl : R.length ≤ 1048576 := by have h1 := hrv.2.2; have h2 := HOS.out; omega
  have B0 := Lib.hid (newB w (.cells #[.slice (some ⟨L.gw, 0, none⟩) h.words.length L.cw, .slice (some ⟨L.gr, 0, none⟩) h.roots.length L.cr] 33) _ rfl)
  have E0 := Lib.hid ((Ext.refl w).alloc (.cells #[.slice (some ⟨L.gw, 0, none⟩) h.words.length L.cw, .slice (some ⟨L.gr, 0, none⟩) h.roots.length L.cr] 33))
  clear s wf hso hrv
  go_enter Tryz.func61, Tryz.ntmps61
  go_wp2_with (go_at_call 117; refine (WK.out _ E0.out).mono ?_; rintro e w1 ⟨v1, cv1, rfl, hrow1, hE1⟩; obtain ⟨la, lc, rfl, hla⟩ := own_any hrow1; have R1 := Lib.hid hrow1; have E1 := Lib.hid (E0.out.trans hE1); have B1 := Lib.hid (hE1.keep B0.out); have HLA := Lib.hid hla; obtain ⟨b1, b2⟩ := blk (hE1.keep B0.out); clear hrow1 hE1 hla)
  have S1 : Hid ((w1.alloc (.cells (bmk (h.words.length + 1)) 4)).ownsRow w.heap.size 4 1 (.slice (some ⟨w1.heap.size, 0, none⟩) (h.words.length + 1) (h.words.length + 1)) (h.words.length + 1) (bools (seenOf (h.words.length + 1) []))) := by
    have := World.ownsRow_lit (base := w.heap.size) (e := 4) (size := 1) w1 (bmk (h.words.length + 1)) (h.words.length + 1) E1.out.size (by unfold maxLen; omega) (by simp [bmk])
    rw [bmk_seen] at this
    exact this
  have R2 := Lib.hid (row_keep (row_mono R1.out (by simp : w.heap.size ≤ (w.alloc (.cells #[.slice (some ⟨L.gw, 0, none⟩) h.words.length L.cw, .slice (some ⟨L.gr, 0, none⟩) h.roots.length L.cr] 33)).heap.size)) ((Ext.refl w1).alloc (.cells (bmk (h.words.length + 1)) 4)))
  have E2 := Lib.hid (E1.out.alloc (.cells (bmk (h.words.length + 1)) 4))
  have B2 := Lib.hid (keepB B1.out (.cells (bmk (h.words.length + 1)) 4))
  have hgs := E1.out.size
  generalize w1.alloc (.cells (bmk (h.words.length + 1)) 4) = W2 at *
  generalize w1.heap.size = gs at *
  obtain ⟨bb, hbb⟩ : ∃ n, n = w.heap.size := ⟨_, rfl⟩
  rw [← hbb] at B2 ⊢
  have HBB := Lib.hid hbb
  have hla3 : 0 < R.length → ∃ g, la = some ⟨g, 0, none⟩ := fun h0 => by obtain ⟨g, hg, _⟩ := HLA.out h0; exact ⟨g, hg⟩
  have HL3 := Lib.hid hla3
  clear hbb B0 E0 B1 R1 E1 b1 b2 hmk hla3
  have LG : Hid (∀ g, (Value.slice la R.length lc).ownBlock = some g → g ≠ gs) := fun g hg => by
    obtain ⟨cur, hcur, _⟩ := row_block S1.out
    exact fun he => own_ne R2.out hcur (by decide) (by rw [hg, he])
  have NB : Hid (bb ≠ gs) := by
    obtain ⟨cur, hcur, _⟩ := row_block S1.out
    exact block_ne B2.out hcur (by simp)
  have hRi : (R.length : Int) ≤ 1048576 := by omega
  go_loopw [25] (fun i wr => ∃ k : Nat, k ≤ R.length ∧ i = .int .i64 k ∧ wr.ownsRow w.heap.size 4 1 (.slice (some ⟨gs, 0, none⟩) (h.words.length + 1) (h.words.length + 1)) (h.words.length + 1) (bools (seenOf (h.words.length + 1) (R.take k))) ∧ Mod [gs] W2 wr) (fun i _ => R.length - (intOf i).toNat)
  case atStart => exact ⟨0, by omega, rfl, S1.out, Mod.refl _ _⟩
  case round =>
    obtain ⟨k, hk, rfl, hS, hM⟩ := hrel
    have SX := Lib.hid hS
    have MX := Lib.hid hM
    have RX := Lib.hid (hM.row R2.out (by intro g hg; simpa using LG.out g hg))
    clear hS hM
    by_cases hlt : k < R.length
    · obtain ⟨gl, rfl⟩ := HL3.out (by omega)
      have ck : wr.cell? ⟨gl, k, none⟩ = some (.int .u32 (wd R k)) := by
        rw [row_cell RX.out k hlt]; simp [u32s, wd, hlt]
      obtain ⟨q1, q2, q3⟩ := RIN.out _ (wd_in hlt)
      obtain ⟨a, ha⟩ : ∃ a, a = (wd R k / 2).toNat := ⟨_, rfl⟩
      rw [← ha] at q1 q2
      have hki : (k : Int) < (R.length : Int) := by omega
      have hdv := div2 a
      have SN : Hid (R.take (k + 1) = R.take k ++ [2 * (a : Int)]) := by
        show R.take (k + 1) = _
        rw [List.take_succ_eq_append_getElem hlt, ← q2]; simp [wd, hlt]
      have cs : wr.cell? ⟨gs, a, none⟩ = some (.bool (bd (seenOf (h.words.length + 1) (R.take k)) a)) := by
        rw [row_cell SX.out a q1]; simp [bools, bd, seenOf_length, q1]
      have fs := row_free SX.out a
      have gsl := row_lt SX.out
      have qi : (a : Int) < (h.words.length : Int) + 1 := by omega
      have S3q := row_set SX.out a (.bool true)
      rw [bools_set, seenOf_set, ← SN.out] at S3q
      have S3 := Lib.hid S3q
      have M3 := Lib.hid (MX.out.trans (mod_setCell wr ⟨gs, a, none⟩ (.bool true)))
      rw [q2] at ck
      have vw1 : IntKind.u32.wrap (a : Int) = a := wraps_u32 _ (by omega) (by omega)
      generalize bd (seenOf (h.words.length + 1) (R.take k)) a = yy at *
      clear q2 q3 ha S3q
      go_wp2
      go_roundw
      case rel => exact ⟨k + 1, by omega, by go_num, S3.out, M3.out⟩
      case measure => simp [intOf]; omega
    · have hke : k = R.length := by omega
      have S4q := SX.out
      rw [hke, List.take_length] at S4q
      have S4 := Lib.hid S4q
      have E4 := Lib.hid (E2.out.of_mod MX.out (by intro x hx; simp only [List.mem_singleton] at hx; omega))
      have B4 := Lib.hid (MX.out.keep B2.out (by simpa using NB.out))
      obtain ⟨b1, b2⟩ := blk B4.out
      clear S4q SX MX RX R2 S1
      subst hke
      go_wp2_with (go_at_call 40; refine (OB.out _ E4.out).mono ?_; rintro e w5 ⟨v5, rfl, hrow5, hE5⟩; obtain ⟨oa, oc, rfl, hoa⟩ := own_any hrow5; have HOA := Lib.hid hoa; have O5 := Lib.hid hrow5; have E5 := Lib.hid (E4.out.trans hE5); have S5 := Lib.hid (row_keep S4.out hE5); clear hrow5 hE5 hoa b1 b2)
      have hosl := HOS.out
      have hoi : (os.length : Int) ≤ 1048576 := by omega
      have hw5 := E5.out.size
      go_loopw [8, 38] (fun v i wr => ∃ k : Nat, k ≤ os.length ∧ i = .int .i64 k ∧ wr.ownsRow w5.heap.size 41 1 v (oopsOf ((os.take k).filter fun a => R.contains (2 * (a : Int)))).length (u32s (oopsOf ((os.take k).filter fun a => R.contains (2 * (a : Int))))) ∧ Ext w5 wr) (fun _ i _ => os.length - (intOf i).toNat)
      case atStart => exact ⟨0, by omega, rfl, World.ownsRow_nil _ _ _ _, Ext.refl _⟩
      case round =>
        obtain ⟨k, hk, rfl, hV, hE⟩ := hrel
        have VX := Lib.hid hV
        have EX := Lib.hid hE
        have SX := Lib.hid (row_keep S5.out hE)
        have OX := Lib.hid (row_keep O5.out hE)
        clear hV hE
        by_cases hlt : k < os.length
        · obtain ⟨go, rfl, hgo1, hgo2⟩ := HOA.out (by omega)
          obtain ⟨a, ha⟩ : ∃ a, a = os[k] := ⟨_, rfl⟩
          have hmem : a ∈ os := by rw [ha]; exact List.getElem_mem hlt
          have hal := MEM.out a hmem
          have ck : wr.cell? ⟨go, k, none⟩ = some (.int .i64 (a : Int)) := by
            rw [row_cell OX.out k hlt]; simp [n64s, hlt, ha]
          have cs : wr.cell? ⟨gs, a, none⟩ = some (.bool (R.contains (2 * (a : Int)))) := by
            have h1 : a < h.words.length + 1 := by omega
            rw [row_cell SX.out a h1]
            have h2 := seenOf_bd (met := R) h1
            rw [← h2]
            simp [bools, bd, seenOf_length, h1]
          have hki : (k : Int) < (os.length : Int) := by omega
          have qi : (a : Int) < (h.words.length : Int) + 1 := by omega
          have SNT : Hid (R.contains (2 * (a : Int)) = true → oopsOf ((os.take (k + 1)).filter fun a => R.contains (2 * (a : Int))) = oopsOf ((os.take k).filter fun a => R.contains (2 * (a : Int))) ++ [2 * (a : Int)]) := by
            intro hc
            rw [List.take_succ_eq_append_getElem hlt, ← ha, List.filter_append, List.filter_cons, if_pos hc]
            simp [oopsOf]
          have SNF : Hid (R.contains (2 * (a : Int)) = false → oopsOf ((os.take (k + 1)).filter fun a => R.contains (2 * (a : Int))) = oopsOf ((os.take k).filter fun a => R.contains (2 * (a : Int)))) := by
            intro hc
            rw [List.take_succ_eq_append_getElem hlt, ← ha, List.filter_append, List.filter_cons, if_neg (by rw [hc]; simp)]
            simp [oopsOf]
          have hvl : (oopsOf ((os.take k).filter fun a => R.contains (2 * (a : Int)))).length ≤ 1048576 := by
            have h1 := List.length_filter_le (fun a : Nat => R.contains (2 * (a : Int))) (os.take k)
            rw [List.length_take] at h1
            rw [oopsOf_length]; omega
          clear ha hmem
          cases hc : R.contains (2 * (a : Int)) with
          | false =>
            rw [hc] at cs
            have SF := Lib.hid (SNF.out hc)
            clear hc SNT SNF
            go_wp2
            go_roundw
            case rel => exact ⟨k + 1, by omega, by go_num, by rw [SF.out]; exact VX.out, EX.out⟩
            case measure => simp [intOf]; omega
          | true =>
            rw [hc] at cs
            have SF := Lib.hid (SNT.out hc)
            obtain ⟨va, vc, rfl, _⟩ := own_any VX.out
            have VG : Hid (∀ q, (Value.slice va (oopsOf ((os.take k).filter fun a => R.contains (2 * (a : Int)))).length vc).ownBlock = some q → w5.heap.size ≤ q) := fun q hq => own_ge VX.out hq
            have hs9 := EX.out.size
            have a0 : (0 : Int) ≤ (a : Int) := by omega
            have a1 : (a : Int) ≤ 1048577 := by omega
            have NW : Hid (RRow (wr.alloc (.cells #[.int .u32 (2 * (a : Int))] 41)) ⟨wr.heap.size, 0, none⟩ (u32s [2 * (a : Int)])) := row_read (World.ownsRow_lit (base := 0) wr #[.int .u32 (2 * (a : Int))] 1 (Nat.zero_le _) (by unfold maxLen; omega) rfl)
            clear hc SNT SNF
            generalize oopsOf ((os.take k).filter fun a => R.contains (2 * (a : Int))) = lk at *
            go_wp2_with (at_builtin; refine wpList_append_own _ rfl _ _ 23 rfl w5.heap.size 41 i0 (.int .u32 0) 1 4 Tryz.underlying23 hi hz0 hz1 hz3 rfl (by decide) _ lk.length _ rfl (row_keep VX.out ((Ext.refl _).alloc _)) ⟨wr.heap.size, 0, none⟩ 1 1 (u32s [2 * (a : Int)]) rfl rfl NW.out (u32s_one _) (by unfold maxLen; omega) (by omega) (by simp; omega) ?_; intro v' w8 hown hgrow0 hnil2; have hgrow : World.grownBy _ w8 (Value.slice va lk.length vc).ownBlock := hgrow0; have hE8 : Ext w5 w8 := (EX.out.alloc _).grown hgrow (fun q hq => VG.out q hq); have E8 := Lib.hid hE8; clear hE8)
            have hsn : u32s lk ++ u32s [2 * (a : Int)] = u32s (lk ++ [2 * (a : Int)]) := by simp [u32s]
            rw [hsn] at hown
            have OW := Lib.hid hown
            clear hown hgrow hgrow0 hnil2 hsn
            go_roundw
            case rel => exact ⟨k + 1, by omega, by go_num, by rw [SF.out]; simpa using OW.out, E8.out⟩
            case measure => simp [intOf]; omega
        · have hke : k = os.length := by omega
          have VQ := VX.out
          rw [hke, List.take_length, ← LF.out] at VQ
          have V4 := Lib.hid VQ
          clear VQ VX
          subst hke
          go_wp2
          go_ret
          exact ⟨_, rfl, row_mono V4.out hw5, E5.out.trans EX.out⟩
end
end Go.Proofs.Eff

namespace Go.Proofs.Eff
open Go.RowKit

section
variable {w : World} {L : HLoc} {h : HeapS} {os : List Nat}

set_option maxRecDepth 100000 in
set_option maxHeartbeats 4000000 in
theorem Plan39 (s : StAt w L h) (wf : WF h os) (hso : Sound h os) : Calls Tryz.prog 39 #[stV L h] w (PlanR w (planOf h os)) := by
  have hlv := live_valid wf hso
  have hol := reach_le wf
  have hbig := wf.big
  have LVC := Lib.hid (fun W (hE : Ext w W) => Live61 (s.keep hE) wf hso)
  have HSZ : Hid (∀ W, Ext w W → ∀ k : Nat, k < (liveOf h os).length → ∃ a : Nat, wd (liveOf h os) k = 2 * (a : Int) ∧ a < 1048576 ∧ Calls Tryz.prog 42 #[stV L h, .int .i64 a] W fun e w' => e = .returned (.int .i64 (sizeAt h.words (wd (liveOf h os) k / 2).toNat)) ∧ Ext W w') := by
    intro W hE k hk
    have hm : wd (liveOf h os) k ∈ liveOf h os := wd_in hk
    have hv := hlv.2.1 _ hm
    have h2 := wf.isO_lt hv.1
    have h3 := wf.mem h2.2
    have h4 : wd (liveOf h os) k = 2 * ((wd (liveOf h os) k / 2).toNat : Int) := by have := h2.1; simp [isObj] at this; have := hv.2.1; omega
    exact ⟨(wd (liveOf h os) k / 2).toNat, h4, by omega, size42 (s.keep hE) wf _ (by omega)⟩
  have HEN : Hid (∀ k, k ≤ (liveOf h os).length → 1 ≤ endAt h.words 1 ((liveOf h os).take k) ∧ endAt h.words 1 ((liveOf h os).take k) ≤ 1048576) := by
    intro k _
    have h1 := endAt_le wf (l := (liveOf h os).take k) (hlv.1.sublist (List.take_sublist _ _)) (fun x hx => hlv.2.1 x (List.mem_of_mem_take hx))
    have h2 := wf.big
    have h3 : 1 ≤ endAt h.words 1 ((liveOf h os).take k) := by rw [endAt_total]; omega
    omega
  have HSN : Hid (∀ k, k < (liveOf h os).length → (liveOf h os).take (k + 1) = (liveOf h os).take k ++ [wd (liveOf h os) k]) := by
    intro k hk
    rw [List.take_succ_eq_append_getElem hk]; simp [wd, hk]
  have hll : (liveOf h os).length ≤ 1048576 := by omega
  obtain ⟨i0, hi, hz0, hz1, hz3⟩ := info_parts Tryz.cinfo111
  unfold planOf
  unfold stV at *
  generalize liveOf h os = LV at *
  clear s wf hso hlv hol
  have B0 := Lib.hid (newB w (.cells #[.slice (some ⟨L.gw, 0, none⟩) h.words.length L.cw, .slice (some ⟨L.gr, 0, none⟩) h.roots.length L.cr] 33) _ rfl)
  have E0 := Lib.hid ((Ext.refl w).alloc (.cells #[.slice (some ⟨L.gw, 0, none⟩) h.words.length L.cw, .slice (some ⟨L.gr, 0, none⟩) h.roots.length L.cr] 33))
  go_enter Tryz.func39, Tryz.ntmps39
  go_wp2_with (go_at_call 61; refine (LVC.out _ E0.out).mono ?_; rintro e w1 ⟨v1, rfl, hrow1, hE1⟩; obtain ⟨la, lc, rfl, hla⟩ := own_any hrow1; have R1 := Lib.hid hrow1; have E1 := Lib.hid (E0.out.trans hE1); have B1 := Lib.hid (hE1.keep B0.out); have HLA := Lib.hid hla; clear hrow1 hE1 hla)
  obtain ⟨bb, hbb⟩ : ∃ n, n = w.heap.size := ⟨_, rfl⟩
  rw [← hbb] at B1 ⊢
  have hw1 := E1.out.size
  have hLVi : (LV.length : Int) ≤ 1048576 := by omega
  clear hbb B0 E0
  go_loopw [3, 4, 10] (fun v a i wr => ∃ (k : Nat), k ≤ LV.length ∧ i = .int .i64 k ∧ a = .int .i64 (endAt h.words 1 (LV.take k) : Nat) ∧ wr.ownsRow w1.heap.size 111 2 v k (movedCells (planFrom h.words 1 (LV.take k))) ∧ Ext w1 wr) (fun _ _ i _ => LV.length - (intOf i).toNat)
  case atStart => exact ⟨0, by omega, rfl, rfl, by simpa [planFrom, movedCells] using World.ownsRow_nil w1 w1.heap.size 111 2, Ext.refl _⟩
  case round =>
    obtain ⟨k, hk, rfl, rfl, hrow, hE1⟩ := hrel
    have ROW := Lib.hid hrow
    have XE1 := Lib.hid hE1
    have BX := Lib.hid (hE1.keep B1.out)
    clear hrow hE1
    by_cases hlt : k < LV.length
    · obtain ⟨gl, rfl, hgl0, hgl1⟩ := HLA.out (by omega)
      have cx : wr.cell? ⟨gl, k, none⟩ = some (.int .u32 (wd LV k)) := by
        rw [row_cell (row_keep R1.out XE1.out) k hlt]; simp [u32s, wd, hlt]
      have hen := HEN.out k hk
      have hen2 := HEN.out (k + 1) hlt
      have hsn := HSN.out k hlt
      obtain ⟨a, hxa, ha1, _⟩ := HSZ.out wr (E1.out.trans XE1.out) k hlt
      have HSZk : Hid (∀ W, Ext w W → Calls Tryz.prog 42 #[.agg #[.slice (some ⟨L.gw, 0, none⟩) h.words.length L.cw, .slice (some ⟨L.gr, 0, none⟩) h.roots.length L.cr], .int .i64 a] W fun e w' => e = .returned (.int .i64 (sizeAt h.words a)) ∧ Ext W w') := by
        intro W hE
        obtain ⟨a', h1, h2, h3⟩ := HSZ.out W hE k hlt
        obtain rfl : a' = a := by omega
        rw [show (wd LV k / 2).toNat = a' by omega] at h3
        exact h3
      have SN : Hid (movedCells (planFrom h.words 1 (LV.take (k + 1))) = movedCells (planFrom h.words 1 (LV.take k)) ++ movedCells [(2 * (a : Int), 2 * (endAt h.words 1 (LV.take k) : Int))]) := by
        show movedCells _ = _
        rw [hsn, planFrom_snoc, movedCells_append, hxa]
      have EN : Hid (endAt h.words 1 (LV.take (k + 1)) = endAt h.words 1 (LV.take k) + (3 + sizeAt h.words a)) := by
        show endAt _ _ _ = _
        rw [hsn, endAt_snoc, show (wd LV k / 2).toNat = a by omega]; rfl
      rw [EN.out] at hen2
      rw [hxa] at cx
      generalize endAt h.words 1 (LV.take k) = en at *
      generalize sizeAt h.words a = S at *
      have hal : (k : Int) < (LV.length : Int) := by omega
      obtain ⟨hen1, hen3⟩ := hen
      obtain ⟨_, hen4⟩ := hen2
      have hdv := div2 a
      have vw1 : IntKind.u32.wrap (a : Int) = a := wraps_u32 _ (by omega) (by omega)
      have vw2 : IntKind.u32.wrap (2 * (en : Int)) = 2 * (en : Int) := wraps_u32 _ (by omega) (by omega)
      clear hsn hxa
      obtain ⟨va, vc, rfl, _⟩ := own_any ROW.out
      have VG : Hid (∀ q, (Value.slice va k vc).ownBlock = some q → w1.heap.size ≤ q) := fun q hq => own_ge ROW.out hq
      have hs9 := XE1.out.size
      have NW : Hid (RRow (wr.alloc (.cells #[.int .u32 (2 * (a : Int)), .int .u32 (2 * (en : Int))] 111)) ⟨wr.heap.size, 0, none⟩ (movedCells [(2 * (a : Int), 2 * (en : Int))])) := (World.ownsRow_lit (base := 0) (e := 111) (size := 2) wr #[.int .u32 (2 * (a : Int)), .int .u32 (2 * (en : Int))] 1 (Nat.zero_le _) (by unfold maxLen; omega) rfl).cells rfl
      go_wp2_with (first | (at_builtin; refine wpList_append_own _ rfl _ _ 106 rfl w1.heap.size 111 i0 (.agg #[.int .u32 0, .int .u32 0]) 2 8 Tryz.underlying106 hi hz0 hz1 hz3 rfl (by decide) _ k _ rfl (ROW.out.alloc _) ⟨wr.heap.size, 0, none⟩ 1 1 (movedCells [(2 * (a : Int), 2 * (en : Int))]) rfl rfl NW.out (moved_one _) (by unfold maxLen; omega) (by omega) (by simp; omega) ?_; intro v' w3 hown hgrow0 hnil2; have hgrow : World.grownBy _ w3 (Value.slice va k vc).ownBlock := hgrow0; have OW := Lib.hid hown; have hE13 := ((XE1.out.alloc (.cells #[.int .u32 (2 * (a : Int)), .int .u32 (2 * (en : Int))] 111)).grown hgrow (fun q hq => VG.out q hq)); have E13 := Lib.hid hE13; obtain ⟨b1, b2⟩ := blk (hE13.keep B1.out); clear hown hgrow hgrow0 hnil2 hE13) | (go_at_call 42; refine (HSZk.out _ (E1.out.trans E13.out)).mono ?_; rintro e w4 ⟨rfl, hb4⟩; have B4 := Lib.hid hb4; clear hb4))
      go_roundw
      case rel => exact ⟨k + 1, by omega, by go_num, by rw [EN.out]; go_num, by rw [SN.out]; exact row_keep OW.out B4.out, E13.out.trans B4.out⟩
      case measure => simp [intOf]; omega
    · have hke : k = LV.length := by omega
      have VQ := ROW.out
      rw [hke, List.take_length] at VQ
      have V4 := Lib.hid VQ
      clear VQ ROW
      subst hke
      go_wp2
      go_ret
      refine ⟨_, rfl, ?_, E1.out.trans XE1.out⟩
      rw [planFrom_length]
      exact row_mono V4.out hw1
end
end Go.Proofs.Eff

namespace Go.Proofs.Eff
open Go.RowKit

theorem goesTo_snoc (o t : Int) : ∀ (l : List (Int × Int)) (x : Int), goesTo (l ++ [(o, t)]) x = (goesTo l x).or (if o = x then some t else none) := by
  intro l
  induction l with
  | nil => intro x; simp [goesTo]
  | cons p l ih =>
    intro x
    simp only [List.cons_append, goesTo]
    by_cases h : p.1 = x
    · simp [h]
    · simp [h, ih x]
theorem goesTo_none {l : List (Int × Int)} {x : Int} (h : ¬ x ∈ l.map (·.1)) : goesTo l x = none := by
  cases hg : goesTo l x with
  | none => rfl
  | some t => exact absurd (List.mem_map.2 ⟨_, goes_mem hg, rfl⟩) h

/-- Where objects go, as a table. -/
def tabOf (n : Nat) (pl : List (Int × Int)) : List Int := (List.range n).map fun (i : Nat) => (goesTo pl (2 * (i : Int))).getD 0
theorem tabOf_length (n : Nat) (pl : List (Int × Int)) : (tabOf n pl).length = n := by simp [tabOf]
theorem tabOf_wd {n : Nat} {pl : List (Int × Int)} {i : Nat} (hi : i < n) : wd (tabOf n pl) i = (goesTo pl (2 * (i : Int))).getD 0 := by simp [wd, tabOf, hi]
theorem tabOf_nil (n : Nat) : tabOf n [] = List.replicate n 0 := by
  apply List.ext_getElem
  · simp [tabOf]
  · intro i h1 h2; simp [tabOf, goesTo]
theorem tabOf_set {n : Nat} {pl : List (Int × Int)} {k a : Nat} (hk : k < pl.length) (hn : (pl.map (·.1)).Nodup) (ha : pl[k].1 = 2 * (a : Int)) : (tabOf n (pl.take k)).set a pl[k].2 = tabOf n (pl.take (k + 1)) := by
  have hnew : ¬ (2 * (a : Int)) ∈ (pl.take k).map (·.1) := by
    intro hm
    rw [← ha] at hm
    rw [List.map_take] at hm
    have h1 : k < (pl.map (·.1)).length := by simpa using hk
    have h2 : (pl.map (·.1)).take (k + 1) = (pl.map (·.1)).take k ++ [pl[k].1] := by
      rw [List.take_succ_eq_append_getElem h1]; simp
    have h3 : ((pl.map (·.1)).take (k + 1)).Nodup := hn.sublist (List.take_sublist _ _)
    rw [h2, List.nodup_append] at h3
    exact h3.2.2 _ hm _ (by simp) rfl
  have ets : pl.take (k + 1) = pl.take k ++ [pl[k]] := List.take_succ_eq_append_getElem hk
  rw [ets]
  apply List.ext_getElem
  · simp [tabOf]
  · intro i h1 h2
    simp only [tabOf, List.getElem_set, List.getElem_map, List.getElem_range]
    have hp : pl[k] = (2 * (a : Int), pl[k].2) := by rw [← ha]
    rw [hp, goesTo_snoc]
    by_cases h : a = i
    · subst h
      rw [goesTo_none hnew]; simp
    · rw [if_neg h]
      have : ¬ (2 * (a : Int)) = 2 * (i : Int) := by omega
      rw [if_neg this]
      cases goesTo (pl.take k) (2 * (i : Int)) <;> simp
theorem movedV_tab {n : Nat} {pl : List (Int × Int)} {o : Int} (h0 : 0 ≤ o) (hin : isObj o = true → (o / 2).toNat < n) : movedV (tabOf n pl) o = whereV pl o := by
  unfold movedV whereV
  cases hk : isObj o with
  | false => simp
  | true =>
    simp only [if_true]
    rw [tabOf_wd (hin hk)]
    congr 2
    simp [isObj] at hk; omega

/-- What a name becomes. -/
def newV (pl : List (Int × Int)) (V : Int) (held : Bool) (x : Int) : Int := if (!held && (isObj x && whereV pl x == 0)) = true then V else whereV pl x
/-- Where the number of a name stands in its object. -/
def posN (i : Nat) : Nat := if i = 0 then 1 else i + 2
theorem nmL_get {ws : List Int} {a i : Nat} (hi : i < (nmL ws a).length) : (nmL ws a)[i] = a + posN i := by
  unfold posN
  cases i with
  | zero => simp [nmL]
  | succ i =>
    unfold nmL at hi ⊢
    split at hi
    · rename_i hp
      simp [hp]; omega
    · simp at hi
def ownF (ws : List Int) (pl : List (Int × Int)) (V : Int) (a : Nat) : Nat → List Int
  | 0 => (ws.drop a).take (3 + sizeAt ws a)
  | k + 1 => (ownF ws pl V a k).set (posN k) (newV pl V (decide (k < nmH ws a)) (wd ws (a + posN k)))
theorem ownF_length {ws : List Int} {pl : List (Int × Int)} {V : Int} {a : Nat} (hf : a + 3 + sizeAt ws a ≤ ws.length) : ∀ k, (ownF ws pl V a k).length = 3 + sizeAt ws a := by
  intro k
  induction k with
  | zero => simp [ownF]; omega
  | succ k ih => simp [ownF, ih]
theorem posN_lt {ws : List Int} {a k : Nat} (hk : k < (nmL ws a).length) : posN k < 3 + sizeAt ws a := by
  have := nmL_len (ws := ws) (a := a)
  unfold posN; split <;> omega
theorem ownF_wd {ws : List Int} {pl : List (Int × Int)} {V : Int} {a : Nat} (hf : a + 3 + sizeAt ws a ≤ ws.length) : ∀ k, k ≤ (nmL ws a).length → ∀ j, j < 3 + sizeAt ws a →
    wd (ownF ws pl V a k) j = if (j = 1 ∧ 0 < k) ∨ (3 ≤ j ∧ j - 2 < k) then newV pl V (decide ((if j = 1 then 0 else j - 2) < nmH ws a)) (wd ws (a + j)) else wd ws (a + j) := by
  intro k
  induction k with
  | zero =>
    intro _ j hj
    rw [if_neg (by omega)]
    show wd ((ws.drop a).take (3 + sizeAt ws a)) j = _
    simp [wd, hj, List.getElem?_drop]
  | succ k ih =>
    intro hk j hj
    have h1 := ih (by omega) j hj
    show wd ((ownF ws pl V a k).set (posN k) _) j = _
    have hlen : posN k < (ownF ws pl V a k).length := by rw [ownF_length hf]; exact posN_lt (by omega)
    by_cases hp : posN k = j
    · rw [hp, wd_set_eq _ (by rw [← hp]; exact hlen)]
      unfold posN at hp
      split at hp
      · rename_i hk0
        subst hk0 hp
        simp
      · rename_i hk0
        subst hp
        rw [if_pos (by omega)]
        rw [if_neg (by omega), show k + 2 - 2 = k by omega]
    · rw [wd_set_ne _ hp, h1]
      have hp2 : (k = 0 ∧ j ≠ 1) ∨ (0 < k ∧ j ≠ k + 2) := by
        unfold posN at hp
        rcases Nat.eq_zero_or_pos k with h0 | h0
        · rw [if_pos h0] at hp; exact .inl ⟨h0, fun h => hp h.symm⟩
        · rw [if_neg (by omega)] at hp; exact .inr ⟨h0, fun h => hp h.symm⟩
      by_cases c : (j = 1 ∧ 0 < k) ∨ (3 ≤ j ∧ j - 2 < k)
      · rw [if_pos c, if_pos (show (j = 1 ∧ 0 < k + 1) ∨ (3 ≤ j ∧ j - 2 < k + 1) by omega)]
      · rw [if_neg c, if_neg (show ¬ ((j = 1 ∧ 0 < k + 1) ∨ (3 ≤ j ∧ j - 2 < k + 1)) by omega)]
theorem layAll_wd {ws : List Int} {pl : List (Int × Int)} {V : Int} {a j : Nat} (hj : j < 3 + sizeAt ws a) :
    wd (layAll ws pl V a) j = if j = 1 then whereV pl (wd ws (a + 1)) else if 3 ≤ j then layOne pl V (ptrF (hdrAt ws a).fmt) (wd ws (a + j)) else wd ws (a + j) := by
  by_cases h0 : j = 0
  · subst h0; rfl
  · by_cases h1 : j = 1
    · subst h1; rfl
    · by_cases h2 : j = 2
      · subst h2; rfl
      · rw [if_neg h1, if_pos (by omega)]
        have := wd_layAll3 ws pl V a (j - 3) (by omega)
        rw [show 3 + (j - 3) = j by omega, show a + 3 + (j - 3) = a + j by omega] at this
        exact this
theorem wd_ext {l m : List Int} (hl : l.length = m.length) (h : ∀ j, j < l.length → wd l j = wd m j) : l = m := by
  apply List.ext_getElem hl
  intro j h1 h2
  have := h j h1
  simpa [wd, h1, h2] using this

/-- An object that is live, laid by its names one after another. -/
theorem ownF_all {h : HeapS} {os : List Nat} (wf : WF h os) (hso : Sound h os) {a : Nat} (ha : 2 * (a : Int) ∈ liveOf h os) (V : Int) : ownF h.words (planOf h os) V a (nmL h.words a).length = layAll h.words (planOf h os) V a := by
  have haos := live_os wf hso ha
  rw [show (2 * (a : Int) / 2).toNat = a by omega] at haos
  have hm := wf.mem haos
  have hf := hm.2.1
  have hfm : (hdrAt h.words a).fmt = fmtAt h.words a := rfl
  have hl1 := ownF_length (pl := planOf h os) (V := V) hf (nmL h.words a).length
  have hl2 : (layAll h.words (planOf h os) V a).length = 3 + sizeAt h.words a := layAll_length _ _ _ _
  apply wd_ext (by rw [hl1, hl2])
  intro j hj
  rw [hl1] at hj
  rw [ownF_wd hf _ (Nat.le_refl _) j hj, layAll_wd hj, hfm]
  have hnp := nmL_pos h.words a
  by_cases h1 : j = 1
  · subst h1
    rw [if_pos (.inl ⟨rfl, hnp⟩), if_pos rfl, if_pos rfl]
    have : 0 < nmH h.words a := by unfold nmH; split <;> omega
    simp [newV, this]
  · simp only [if_neg h1]
    by_cases h3 : 3 ≤ j
    · rw [if_pos h3]
      cases hp : ptrF (fmtAt h.words a) with
      | false =>
        have hnl : (nmL h.words a).length = 1 := by simp [nmL, hp]
        rw [if_neg (by omega)]
        simp [layOne]
      | true =>
        have hnl : (nmL h.words a).length = sizeAt h.words a + 1 := by simp [nmL, hp]
        rw [if_pos (.inr ⟨h3, by omega⟩)]
        simp only [layOne, if_true]
        by_cases h4 : fmtAt h.words a = 4
        · have hnh : nmH h.words a = 1 := by simp [nmH, h4]
          have : ¬ (j - 2 < nmH h.words a) := by omega
          simp only [this, decide_false, newV, Bool.not_false, Bool.true_and]
          unfold whereB
          cases ho : isObj (wd h.words (a + j)) with
          | false => simp
          | true =>
            simp only [Bool.true_and, if_true]
            have hwv : whereV (planOf h os) (wd h.words (a + j)) = (goesTo (planOf h os) (wd h.words (a + j))).getD 0 := by simp [whereV, ho]
            rw [hwv]
            cases hg : goesTo (planOf h os) (wd h.words (a + j)) with
            | none => simp
            | some t =>
              obtain ⟨b, hb1, hb2⟩ := plan_snd (goes_mem hg)
              have ht0 : t ≠ 0 := by simp only at hb1; omega
              simp [ht0]
        · have h1f : fmtAt h.words a = 1 := by simp [ptrF] at hp; omega
          have hnh : nmH h.words a = (nmL h.words a).length := by simp [nmH, h4]
          have hlt : j - 2 < nmH h.words a := by omega
          simp only [hlt, decide_true, newV, Bool.not_true, Bool.false_and, Bool.false_eq_true, if_false]
          unfold whereB
          cases ho : isObj (wd h.words (a + j)) with
          | false => simp
          | true =>
            have hmem : wd h.words (a + j) ∈ fieldsAt h.words a := by
              have := fieldsAt_wd (ws := h.words) (a := a) (i := j - 3) (by omega)
              rw [show a + 3 + (j - 3) = a + j by omega] at this
              rw [← this]
              exact wd_in (by rw [fieldsAt_length hf]; omega)
            have hn := names_field (by rw [hfm]; exact h1f) hmem ho
            have hlv := live_closed wf hso ha (y := wd h.words (a + j)) (by rw [show (2 * (a : Int) / 2).toNat = a by omega]; exact hn)
            obtain ⟨b, hb, _⟩ := goes_live hlv
            simp [hb]
    · rw [if_neg (by omega), if_neg h3]

end Go.Proofs.Eff

namespace Go.Proofs.Eff
open Go.RowKit

theorem nm_in {h : HeapS} {os : List Nat} (wf : WF h os) (hso : Sound h os) {a m : Nat} (ha : a ∈ os) (hm : m < (nmL h.words a).length) (ho : isObj (wd h.words (a + posN m)) = true) : (wd h.words (a + posN m) / 2).toNat < h.words.length + 1 := by
  have key : isO os (wd h.words (a + posN m)) = true := by
    by_cases h0 : m = 0
    · subst h0
      have := hso.cls a ha
      simp only [classOK, Bool.or_eq_true, beq_iff_eq] at this
      rcases this with h1 | h1
      · have e : wd h.words (a + posN 0) = 0 := h1
        rw [e] at ho; simp [isObj] at ho
      · exact h1
    · have e : posN m = 3 + (m - 1) := by unfold posN; rw [if_neg h0]; omega
      cases hp : ptrF (fmtAt h.words a) with
      | false => simp [nmL, hp] at hm; omega
      | true =>
        have hl : (nmL h.words a).length = sizeAt h.words a + 1 := by simp [nmL, hp]
        have hf : (hdrAt h.words a).fmt = 1 ∨ (hdrAt h.words a).fmt = 4 := by
          have : fmtAt h.words a = 1 ∨ fmtAt h.words a = 4 := by simpa [ptrF] using hp
          exact this
        have hmem : wd h.words (a + posN m) ∈ fieldsAt h.words a := by
          have := fieldsAt_wd (ws := h.words) (a := a) (i := m - 1) (by omega)
          rw [show a + 3 + (m - 1) = a + posN m by omega] at this
          rw [← this]
          exact wd_in (by rw [fieldsAt_length (wf.mem ha).2.1]; omega)
        have := hso.fld a ha hf _ hmem
        simpa [valueOK, ho, isO] using this
  have := wf.mem (wf.isO_lt key).2
  omega
theorem rootsC_length (h : HeapS) (os : List Nat) : (rootsC h os).length = h.roots.length := by simp [rootsC]
theorem set5c {W : World} {b : Nat} {y0 y1 y2 y3 y4 x0 x1 x2 x3 x4 : Value} (hc : W.heap[b]? = some (.cells #[y0, y1, y2, y3, y4] 35)) :
    (((((W.setCell ⟨b, 0, none⟩ x0).setCell ⟨b, 1, none⟩ x1).setCell ⟨b, 2, none⟩ x2).setCell ⟨b, 3, none⟩ x3).setCell ⟨b, 4, none⟩ x4).heap[b]? = some (.cells #[x0, x1, x2, x3, x4] 35) ∧
    Mod [b] W (((((W.setCell ⟨b, 0, none⟩ x0).setCell ⟨b, 1, none⟩ x1).setCell ⟨b, 2, none⟩ x2).setCell ⟨b, 3, none⟩ x3).setCell ⟨b, 4, none⟩ x4) := by
  have d0 : (W.setCell ⟨b, 0, none⟩ x0).heap[b]? = some (.cells #[x0, y1, y2, y3, y4] 35) := setB (i := 0) hc x0
  have k0 := mod_setCell W ⟨b, 0, none⟩ x0
  generalize W.setCell ⟨b, 0, none⟩ x0 = W1 at *
  have d1 : (W1.setCell ⟨b, 1, none⟩ x1).heap[b]? = some (.cells #[x0, x1, y2, y3, y4] 35) := setB (i := 1) d0 x1
  have k1 := k0.trans (mod_setCell W1 ⟨b, 1, none⟩ x1)
  generalize W1.setCell ⟨b, 1, none⟩ x1 = W2 at *
  have d2 : (W2.setCell ⟨b, 2, none⟩ x2).heap[b]? = some (.cells #[x0, x1, x2, y3, y4] 35) := setB (i := 2) d1 x2
  have k2 := k1.trans (mod_setCell W2 ⟨b, 2, none⟩ x2)
  generalize W2.setCell ⟨b, 2, none⟩ x2 = W3 at *
  have d3 : (W3.setCell ⟨b, 3, none⟩ x3).heap[b]? = some (.cells #[x0, x1, x2, x3, y4] 35) := setB (i := 3) d2 x3
  have k3 := k2.trans (mod_setCell W3 ⟨b, 3, none⟩ x3)
  generalize W3.setCell ⟨b, 3, none⟩ x3 = W4 at *
  have d4 : (W4.setCell ⟨b, 4, none⟩ x4).heap[b]? = some (.cells #[x0, x1, x2, x3, x4] 35) := setB (i := 4) d3 x4
  exact ⟨d4, k3.trans (mod_setCell W4 ⟨b, 4, none⟩ x4)⟩
theorem set2c {W : World} {b : Nat} {y0 y1 x0 x1 : Value} (hc : W.heap[b]? = some (.cells #[y0, y1] 33)) :
    ((W.setCell ⟨b, 0, none⟩ x0).setCell ⟨b, 1, none⟩ x1).heap[b]? = some (.cells #[x0, x1] 33) ∧ Mod [b] W ((W.setCell ⟨b, 0, none⟩ x0).setCell ⟨b, 1, none⟩ x1) := by
  have d0 : (W.setCell ⟨b, 0, none⟩ x0).heap[b]? = some (.cells #[x0, y1] 33) := setB (i := 0) hc x0
  have k0 := mod_setCell W ⟨b, 0, none⟩ x0
  generalize W.setCell ⟨b, 0, none⟩ x0 = W1 at *
  have d1 : (W1.setCell ⟨b, 1, none⟩ x1).heap[b]? = some (.cells #[x0, x1] 33) := setB (i := 1) d0 x1
  exact ⟨d1, k0.trans (mod_setCell W1 ⟨b, 1, none⟩ x1)⟩
theorem end10 {W : World} {rb cb : Nat} {a0 a1 v0 v1 y0 y1 y2 y3 y4 x0 x1 x2 x3 x4 : Value} (hr : W.heap[rb]? = some (.cells #[a0, a1] 33)) (hc : W.heap[cb]? = some (.cells #[y0, y1, y2, y3, y4] 35)) (hne : rb ≠ cb) :
    ((((((((W.setCell ⟨rb, 0, none⟩ v0).setCell ⟨rb, 1, none⟩ v1).setCell ⟨cb, 0, none⟩ x0).setCell ⟨cb, 1, none⟩ x1).setCell ⟨cb, 2, none⟩ x2).setCell ⟨cb, 3, none⟩ x3).setCell ⟨cb, 4, none⟩ x4).drew).heap[rb]? = some (.cells #[v0, v1] 33) ∧
    ((((((((W.setCell ⟨rb, 0, none⟩ v0).setCell ⟨rb, 1, none⟩ v1).setCell ⟨cb, 0, none⟩ x0).setCell ⟨cb, 1, none⟩ x1).setCell ⟨cb, 2, none⟩ x2).setCell ⟨cb, 3, none⟩ x3).setCell ⟨cb, 4, none⟩ x4).drew).heap[cb]? = some (.cells #[x0, x1, x2, x3, x4] 35) ∧
    Mod [rb, cb] W ((((((((W.setCell ⟨rb, 0, none⟩ v0).setCell ⟨rb, 1, none⟩ v1).setCell ⟨cb, 0, none⟩ x0).setCell ⟨cb, 1, none⟩ x1).setCell ⟨cb, 2, none⟩ x2).setCell ⟨cb, 3, none⟩ x3).setCell ⟨cb, 4, none⟩ x4).drew) := by
  have n1 : ¬ cb ∈ [rb] := by simpa using hne.symm
  have n2 : ¬ rb ∈ [cb] := by simpa using hne
  obtain ⟨r1, m1⟩ := set2c (x0 := v0) (x1 := v1) hr
  have c1 := m1.keep hc n1
  generalize (W.setCell ⟨rb, 0, none⟩ v0).setCell ⟨rb, 1, none⟩ v1 = W1 at *
  obtain ⟨d4, k4⟩ := set5c (x0 := x0) (x1 := x1) (x2 := x2) (x3 := x3) (x4 := x4) c1
  have rk := k4.keep r1 n2
  generalize ((((W1.setCell ⟨cb, 0, none⟩ x0).setCell ⟨cb, 1, none⟩ x1).setCell ⟨cb, 2, none⟩ x2).setCell ⟨cb, 3, none⟩ x3).setCell ⟨cb, 4, none⟩ x4 = W2 at *
  exact ⟨rk, d4, ((m1.mono (S' := [rb, cb]) (by simp)).trans (k4.mono (S' := [rb, cb]) (by simp))).ext (Ext.refl _).drew⟩
end Go.Proofs.Eff
