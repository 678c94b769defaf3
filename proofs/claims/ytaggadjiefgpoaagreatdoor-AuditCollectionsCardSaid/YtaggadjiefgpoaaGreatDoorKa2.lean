/- The document's findings: empty, objects. The document's serials as a map. -/
import Derived.Test.YtaggadjiefgpoaaGreatDoorKa1
namespace Go.Proofs.Eff
open Go.RowKit

section
variable {w : World} {L : HLoc} {rv : Value} {h : HeapS} {os : List Nat}

/-- The heap of nothing. -/
def nilH : HeapS := ⟨[0], [false], [], 0, 0⟩
theorem nilH_wfr : WFR nilH [] := ⟨by decide, by decide, fun i => by cases i <;> simp [nilH, wd], rfl, rfl⟩

set_option maxRecDepth 100000 in
set_option maxHeartbeats 1000000 in
theorem empty59 : Calls Tryz.prog 59 #[] w fun e w' => (∃ L, e = .returned (.pointer (some ⟨L.b, 0, none⟩)) ∧ RefAt w' L (.slice none 0 0) nilH) ∧ Ext w w' := by
  go_enter Tryz.func59, Tryz.ntmps59
  go_wp2
  go_ret
  refine ⟨⟨⟨w.heap.size + 1 + 1, w.heap.size, 1, w.heap.size + 1, 1, 0, 0⟩, rfl, ?_, ?_, ?_⟩, (((Ext.refl w).alloc _).alloc _).alloc _⟩
  · exact newB _ _ _ (by simp)
  · exact row_keep (World.ownsRow_lit (base := 0) (e := 24) (size := 1) w #[.int .u32 0] 1 (Nat.zero_le _) (by unfold maxLen; omega) rfl) (((Ext.refl _).alloc _).alloc _)
  · have := World.ownsRow_lit (base := 0) (e := 5) (size := 1) (w.alloc (.cells #[.int .u32 0] 24)) #[.int .u8 0] 1 (Nat.zero_le _) (by unfold maxLen; omega) rfl
    simp only [World.size_alloc] at this
    exact row_keep this ((Ext.refl _).alloc _)


set_option maxRecDepth 100000 in
set_option maxHeartbeats 2000000 in
theorem objects62 (ha : RefAt w L rv h) (wf : WFR h os) : Calls Tryz.prog 62 #[.pointer (some ⟨L.b, 0, none⟩)] w (OopsR w (oopsOf os)) := by
  obtain ⟨i0, hi, hz0, hz1, hz3⟩ := info_parts Tryz.cinfo41
  have hbig := wf.big
  have hol : os.length ≤ h.words.length := by
    have h1 : os.Nodup := wf.laid.sorted.imp (fun h => by omega)
    have h2 := nodup_le os (List.range h.words.length) h1 (fun x hx => by have := wf.laid.mem x hx; simp; omega)
    simpa using h2
  have HF := Lib.hid (fun W (hE : Ext w W) => first104' (ha.keep hE) wf)
  have HNX := Lib.hid (fun pre x rest he hx => wf.laid.next (pre := pre) (x := x) (rest := rest) he hx)
  have HA := Lib.hid ha
  have HW := Lib.hid wf
  have HOL := Lib.hid hol
  clear ha wf hol
  go_enter Tryz.func62, Tryz.ntmps62
  go_wp2_with (go_at_call 104; refine (HF.out _ (Ext.refl _)).mono ?_; rintro e W ⟨rfl, rfl⟩)
  go_loopw [3, 4] (fun v o wr => ∃ (pre rest : List Nat) (z : Int), os = pre ++ rest ∧ o = .int .u32 z ∧ z = firstO rest ∧ wr.ownsRow w.heap.size 41 1 v pre.length (u32s (oopsOf pre)) ∧ Ext w wr) (fun v o wr => allLeft h.words.length o)
  case atStart => exact ⟨[], os, _, rfl, rfl, rfl, World.ownsRow_nil _ _ _ _, Ext.refl _⟩
  case round =>
    obtain ⟨pre, rest, z, hx, rfl, hz, hrow, hE⟩ := hrel
    have OSX := Lib.hid hx
    have ROW := Lib.hid hrow
    have EX := Lib.hid hE
    clear hx hrow hE
    cases rest with
    | nil =>
      obtain rfl : z = 0 := hz
      have os2 : os = pre := by have := OSX.out; simpa using this
      have OS2 := Lib.hid os2
      clear os2
      go_wp2
      go_ret
      refine ⟨_, rfl, ?_, EX.out⟩
      rw [OS2.out]
      simpa [oopsOf] using ROW.out
    | cons x rest =>
      obtain rfl : z = 2 * (x : Int) := hz
      have hmem : x ∈ os := by rw [OSX.out]; simp
      have hm := HW.out.laid.mem x hmem
      have hx1 : 0 < x := by omega
      have hne : (2 * (x : Int) != 0) = true := by rw [bne_iff_ne]; omega
      have OS2 : Hid (os = (pre ++ [x]) ++ rest) := by show os = _; rw [OSX.out]; simp
      have hpl : pre.length ≤ 1048576 := by have h1 := HOL.out; have := congrArg List.length OSX.out; simp at this; omega
      have SN : Hid (u32s (oopsOf (pre ++ [x])) = u32s (oopsOf pre) ++ u32s [2 * (x : Int)]) := by show u32s (oopsOf (pre ++ [x])) = _; simp [oopsOf, u32s]
      have NX := Lib.hid (fun W (hE : Ext w W) => next105 (HA.out.keep hE) HW.out (2 * (x : Int)) (by omega) (by omega) (by
        have : isObj (2 * (x : Int)) = true := by simp [isObj]; omega
        simp [isO, this, hmem]))
      have hnx := HNX.out pre x rest OSX.out hx1
      obtain ⟨ad, cp, rfl, hrb⟩ := own_any ROW.out
      have NW : Hid (RRow (wr.alloc (.cells #[.int .u32 (2 * (x : Int))] 41)) ⟨wr.heap.size, 0, none⟩ (u32s [2 * (x : Int)])) := row_read (World.ownsRow_lit (base := 0) (e := 41) wr #[.int .u32 (2 * (x : Int))] 1 (Nat.zero_le _) (by unfold maxLen; omega) rfl)
      have hs0 := EX.out.size
      have HMM := Lib.hid hm
      have HME := Lib.hid hmem
      clear hrb hm hmem
      rw [hnx.1] at NX
      clear hnx
      go_wp2_with (first | (at_builtin; refine wpList_append_own _ rfl _ _ 23 rfl w.heap.size 41 i0 (.int .u32 0) 1 4 Tryz.underlying23 hi hz0 hz1 hz3 rfl (by decide) _ pre.length _ rfl (row_keep ROW.out ((Ext.refl _).alloc _)) ⟨wr.heap.size, 0, none⟩ 1 1 (u32s [2 * (x : Int)]) rfl rfl NW.out (u32s_one _) (by unfold maxLen; omega) (by omega) (by simp; omega) ?_; intro v' w3 hown hgrow0 hnil2; have hgrow : World.grownBy _ w3 (Value.slice ad pre.length cp).ownBlock := hgrow0; have E3 := Lib.hid ((EX.out.alloc _).grown hgrow (fun q hq => own_ge ROW.out hq)); have O3 := Lib.hid hown; clear hown hgrow hgrow0 hnil2) | (go_at_call 105; refine (NX.out _ E3.out).mono ?_; rintro e w4 ⟨rfl, hE4⟩))
      have O4 := row_keep O3.out hE4
      rw [← SN.out] at O4
      have OW := Lib.hid O4
      have E4 := Lib.hid (E3.out.trans hE4)
      have HMX := HMM.out
      have HML : Hid (allLeft h.words.length (.int .u32 (firstO rest)) < allLeft h.words.length (.int .u32 (2 * (x : Int)))) := by
        refine allLeft_lt h.words.length x _ (by omega) (by omega) ?_
        cases rest with
        | nil => exact .inl rfl
        | cons y l =>
          right
          have h1 := HW.out.laid.sorted
          rw [OSX.out] at h1
          have h2 := (List.pairwise_cons.1 (List.pairwise_append.1 h1).2.1).1 y (by simp)
          have h3 := HW.out.laid.mem y (by rw [OSX.out]; simp)
          exact ⟨y, rfl, h2, by omega⟩
      clear O4 hE4
      go_roundw
      case rel => exact ⟨pre ++ [x], rest, _, OS2.out, rfl, rfl, by simpa using OW.out, E4.out⟩
      case measure => simpa using HML.out
end
end Go.Proofs.Eff

namespace Go.Proofs.Eff
open Go.RowKit

/-- Serials as keys of a set. -/
def serT (ws : List Int) (l : List Int) : AList := l.map fun o => (serO ws o, Value.bool true)
theorem serT_snoc {ws : List Int} {l : List Int} (hn : (l.map (serO ws)).Nodup) {k : Nat} (hk : k < l.length) :
    aput (serT ws (l.take k)) (serO ws l[k]) (.bool true) = serT ws (l.take (k + 1)) := by
  have h1 : aidx (serT ws (l.take k)) (serO ws l[k]) 0 = none := by
    refine aidx_none_of ?_
    have e : (serT ws (l.take k)).map (·.1) = (l.map (serO ws)).take k := by simp [serT, List.map_take, Function.comp_def]
    rw [e]
    intro hm
    obtain ⟨i, hi, he⟩ := List.getElem_of_mem hm
    have hi' : i < k := by simp at hi; omega
    have hl : i < (l.map (serO ws)).length := by simp; omega
    have h1 : (l.map (serO ws))[i] = (l.map (serO ws))[k]'(by simpa using hk) := by
      rw [List.getElem_take] at he; rw [he]; simp
    have := (List.getElem_inj hn).1 h1
    omega
  rw [aput_none _ h1, List.take_succ_eq_append_getElem hk]
  simp only [serT, List.map_append, List.map_cons, List.map_nil]
theorem aget_serT (ws : List Int) (l : List Int) (s : Int) : (aget (serT ws l) s).getD (.bool false) = .bool ((l.map (serO ws)).contains s) := by
  induction l with
  | nil => rfl
  | cons a l ih =>
    simp only [serT, List.map_cons, aget] at *
    by_cases h : serO ws a = s
    · simp [h]
    · have h' : ¬ s = serO ws a := fun e => h e.symm
      simp [h, h', ih]
theorem field65_4 (x : Int) (a b c d : Value) (w : World) : (Instr.field 65 (.agg #[a, b, c, d, .int .u32 x]) 4).run Tryz.prog w = .ok (.int .u32 x) w := by kernel_rfl
/-- A new set of serials. -/
def SertR (w : World) (ws l : List Int) (e : Ending) (w' : World) : Prop := ∃ mb, e = .returned (.map (some mb)) ∧ w.heap.size ≤ mb ∧ MapAt w' mb .u32 (serT ws l) ∧ Ext w w'
theorem ser_val (ws : List Int) (o : Int) : ∃ a b c d, (hdrAt ws (o / 2).toNat).val = .agg #[.int .i64 a, .int .i64 b, .int .i64 c, .int .u32 d, .int .u32 (serO ws o)] := ⟨_, _, _, _, rfl⟩

set_option maxRecDepth 100000 in
set_option maxHeartbeats 1000000 in
theorem serials63 {w : World} {L : HLoc} {rv : Value} {h : HeapS} {os : List Nat} (ha : RefAt w L rv h) (wf : WFR h os) (v : Value) (l : List Int) (base : Nat) (hr : w.ownsRow base 41 1 v l.length (u32s l)) (hv : ∀ x, x ∈ l → isO os x = true ∧ 0 ≤ x ∧ x < 4294967296) (hn : (l.map (serO h.words)).Nodup) (hl : l.length ≤ 1048576) :
    Calls Tryz.prog 63 #[.pointer (some ⟨L.b, 0, none⟩), v] w (SertR w h.words l) := by
  have hmm := @run_makeMap Tryz.prog
  have hF := field65_4
  obtain ⟨ad, c, rfl, had⟩ := own_any hr
  have HSE : Hid (∀ W, Ext w W → ∀ k : Nat, k < l.length → Calls Tryz.prog 64 #[.pointer (some ⟨L.b, 0, none⟩), .int .u32 (wd l k)] W fun e w' => (∃ a b c d, e = .returned (.agg #[.int .i64 a, .int .i64 b, .int .i64 c, .int .u32 d, .int .u32 (serO h.words (wd l k))])) ∧ Ext W w') := by
    intro W hE k hk
    have hm : wd l k ∈ l := by simp [wd, hk]
    have hx := hv _ hm
    obtain ⟨a, b, c, d, he⟩ := ser_val h.words (wd l k)
    have := header64 (ha.keep hE) wf _ hx.2.1 hx.2.2 hx.1
    rw [he] at this
    exact this.mono fun e w' h => ⟨⟨a, b, c, d, h.1⟩, h.2⟩
  have AD := Lib.hid had
  have R := Lib.hid hr
  have HN := Lib.hid hn
  clear ha wf hr hv had hn
  go_enter Tryz.func63, Tryz.ntmps63
  go_wp2
  go_loopw [6] (fun i wr => ∃ (k : Nat), k ≤ l.length ∧ i = .int .i64 k ∧ MapAt wr w.heap.size .u32 (serT h.words (l.take k)) ∧ Ext w wr) (fun i _ => l.length - (intOf i).toNat)
  case atStart => exact ⟨0, by omega, rfl, MapAt.new _ _ rfl _, (Ext.refl _).alloc _⟩
  case round =>
    obtain ⟨k, hk, rfl, hm, hE⟩ := hrel
    have M := Lib.hid hm
    have E := Lib.hid hE
    clear hm hE
    by_cases hlt : k < l.length
    · obtain ⟨g, rfl, hg1, hg2⟩ := AD.out (by omega)
      have cx : wr.cell? ⟨g, k, none⟩ = some (.int .u32 (wd l k)) := by
        rw [row_cell (row_keep R.out E.out) k hlt]; simp [u32s, wd, hlt]
      have SN := Lib.hid (serT_snoc HN.out hlt)
      have HSk := Lib.hid (HSE.out wr E.out k hlt)
      have hwk : wd l k = l[k] := by simp [wd, hlt]
      rw [← hwk] at SN
      clear hwk
      generalize wd l k = x at *
      generalize serO h.words x = s at *
      have hki : (k : Int) < (l.length : Int) := by omega
      go_wp2_with (go_at_call 64; refine HSk.out.mono ?_; rintro e w2 ⟨⟨a1, a2, a3, a4, rfl⟩, hb2⟩; have B2 := Lib.hid hb2; have M2 := M.out.keep hb2; obtain ⟨w3, hup, hm3, hmod3⟩ := run_mapUpdate_int (P := Tryz.prog) w2 Tryz.underlying136 Tryz.underlying24 M2 s (.bool true); clear hb2 M2)
      rw [SN.out] at hm3
      have M3 := Lib.hid hm3
      have E3 := Lib.hid (Mod.ext_of_new (E.out.trans B2.out) hmod3 (Nat.le_refl _))
      clear hm3 hmod3 hup
      go_roundw
      case rel => exact ⟨k + 1, by omega, by go_num, M3.out, E3.out⟩
      case measure => simp [intOf]; omega
    · obtain rfl : k = l.length := by omega
      go_wp2
      go_ret
      have := M.out
      rw [List.take_length] at this
      exact ⟨_, rfl, Nat.le_refl _, this, E.out⟩
end Go.Proofs.Eff
