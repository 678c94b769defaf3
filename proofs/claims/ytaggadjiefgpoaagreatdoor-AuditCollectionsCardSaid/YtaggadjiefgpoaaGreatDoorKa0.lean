/- The document's store: Size, Format, moved, Objects, Names. The document's store: Names. The document's walk: put. The document's walk: plain laws. -/
import Derived.Test.YtaggadjiefgpoaaGreatDoorRf4
import Derived.Test.YtaggadjiefgpoaaGreatDoorHa25
import Derived.Deep.DeepCutAuto
namespace Go.Proofs.Eff
open Go.RowKit

/-- A store's words and roots. -/
structure StAt (w : World) (L : HLoc) (h : HeapS) : Prop where
  words : w.ownsRow 0 24 1 (.slice (some ⟨L.gw, 0, none⟩) h.words.length L.cw) h.words.length (u32s h.words)
  roots : w.ownsRow 0 41 1 (.slice (some ⟨L.gr, 0, none⟩) h.roots.length L.cr) h.roots.length (u32s h.roots)
def stV (L : HLoc) (h : HeapS) : Value := .agg #[.slice (some ⟨L.gw, 0, none⟩) h.words.length L.cw, .slice (some ⟨L.gr, 0, none⟩) h.roots.length L.cr]
theorem StAt.keep {a w : World} {L : HLoc} {h : HeapS} (s : StAt a L h) (hE : Ext a w) : StAt w L h := ⟨row_keep s.words hE, row_keep s.roots hE⟩
theorem RefFull.st {w : World} {L : HLoc} {h : HeapS} (r : RefFull w L h) : StAt w L h := ⟨r.ref.words, r.rts⟩
theorem StAt.word {w : World} {L : HLoc} {h : HeapS} (s : StAt w L h) (i : Nat) (hi : i < h.words.length) : w.cell? ⟨L.gw, i, none⟩ = some (.int .u32 (wd h.words i)) := by
  rw [row_cell s.words i hi]; simp [u32s, wd, hi]
theorem StAt.root {w : World} {L : HLoc} {h : HeapS} (s : StAt w L h) (i : Nat) (hi : i < h.roots.length) : w.cell? ⟨L.gr, i, none⟩ = some (.int .u32 (wd h.roots i)) := by
  rw [row_cell s.roots i hi]; simp [u32s, wd, hi]

def n64s (l : List Nat) : List Value := l.map fun (n : Nat) => Value.int .i64 (n : Int)
@[simp] theorem n64s_length (l : List Nat) : (n64s l).length = l.length := by simp [n64s]
theorem n64s_one (l : List Nat) : ∀ u, u ∈ n64s l → u.oneCell' = true := by
  intro u hu; simp [n64s] at hu; obtain ⟨a, _, rfl⟩ := hu; rfl
/-- A new slice of numbers, nil where there is none. -/
def NumsR (w : World) (l : List Nat) (e : Ending) (w' : World) : Prop := ∃ v, e = .returned v ∧ w'.ownsRow w.heap.size 3 1 v l.length (n64s l) ∧ Ext w w'

section
variable {w : World} {L : HLoc} {h : HeapS} {os : List Nat}

set_option maxRecDepth 100000 in
set_option maxHeartbeats 1000000 in
theorem size42 (s : StAt w L h) (wf : WF h os) (a : Nat) (ha : a < h.words.length) :
    Calls Tryz.prog 42 #[stV L h, .int .i64 a] w fun e w' => e = .returned (.int .i64 (sizeAt h.words a)) ∧ Ext w w' := by
  have hc := s.word a ha
  have hl := row_lt s.words
  have hw := wf.word a
  have hbig := wf.big
  have hz : (sizeAt h.words a : Int) = wd h.words a % 16777216 := by simp [sizeAt]; omega
  rw [hz]
  unfold stV
  generalize wd h.words a = x at *
  obtain ⟨x0, x1⟩ := hw
  have tm : Int.tmod x 16777216 = x % 16777216 := Int.tmod_eq_emod_of_nonneg x0
  have ha2 : (a : Int) < (h.words.length : Int) := by omega
  clear s wf hz
  go_enter Tryz.func42, Tryz.ntmps42
  go_wp2
  go_ret
  exact ⟨rfl, (Ext.refl _).alloc _⟩

set_option maxRecDepth 100000 in
set_option maxHeartbeats 1000000 in
theorem format102 (s : StAt w L h) (wf : WF h os) (a : Nat) (ha : a < h.words.length) :
    Calls Tryz.prog 102 #[stV L h, .int .i64 a] w fun e w' => e = .returned (.int .i64 (fmtAt h.words a)) ∧ Ext w w' := by
  have hc := s.word a ha
  have hl := row_lt s.words
  have hw := wf.word a
  have hbig := wf.big
  unfold stV fmtAt
  generalize wd h.words a = x at *
  obtain ⟨x0, x1⟩ := hw
  have t1 : Int.tdiv x 16777216 = x / 16777216 := Int.tdiv_eq_ediv_of_nonneg x0
  have t2 : Int.tmod (x / 16777216) 8 = x / 16777216 % 8 := Int.tmod_eq_emod_of_nonneg (by omega)
  have ha2 : (a : Int) < (h.words.length : Int) := by omega
  clear s wf
  go_enter Tryz.func102, Tryz.ntmps102
  go_wp2
  go_ret
  exact ⟨rfl, (Ext.refl _).alloc _⟩

/-- What an oop becomes by a table. -/
def movedV (T : List Int) (o : Int) : Int := if isObj o then wd T (o / 2).toNat else o
set_option maxHeartbeats 1000000 in
theorem moved41 {g c : Nat} {T : List Int} (hr : w.ownsRow 0 41 1 (.slice (some ⟨g, 0, none⟩) T.length c) T.length (u32s T)) (hl : T.length ≤ 1048577) (o : Int) (h0 : 0 ≤ o) (h1 : o < 4294967296) (hin : isObj o = true → (o / 2).toNat < T.length) :
    Calls Tryz.prog 41 #[.slice (some ⟨g, 0, none⟩) T.length c, .int .u32 o] w fun e w' => e = .returned (.int .u32 (movedV T o)) ∧ w = w' := by
  have HK := Lib.hid (kind44 o w h0 h1)
  unfold movedV
  cases hk : isObj o with
  | false =>
    have hk2 : (kindI o != 2) = true := by simpa using kind_ne hk
    clear hr hin
    simp only [Bool.false_eq_true, if_false]
    go_enter Tryz.func41, Tryz.ntmps41
    go_wp2_with (go_at_call 44; refine HK.out.mono ?_; rintro e w' ⟨rfl, rfl⟩)
    go_ret
    exact ⟨rfl, rfl⟩
  | true =>
    have hk2 : (kindI o != 2) = false := by simpa using kind_obj hk
    have hi := hin hk
    have hc : w.cell? ⟨g, (o / 2).toNat, none⟩ = some (.int .u32 (wd T (o / 2).toNat)) := by
      rw [row_cell hr _ hi]; simp [u32s, wd, hi]
    have d0 : 0 ≤ o / 2 := by omega
    have d1 : o / 2 < (T.length : Int) := by omega
    clear hr hin
    simp only [if_true]
    go_enter Tryz.func41, Tryz.ntmps41
    go_wp2_with (go_at_call 44; refine HK.out.mono ?_; rintro e w' ⟨rfl, rfl⟩)
    go_ret
    exact ⟨rfl, rfl⟩

theorem Tryz.cinfo3 : (Tryz.prog.info? 3).map (fun i => (i.zero, i.size, i.bytes)) = some (some (.int .i64 0), 1, 8) := by kernel_rfl

theorem own_ne {w : World} {base n size b : Nat} {e T : TypeId} {v : Value} {xs : List Value} {cs : Array Value} (h : w.ownsRow base e size v n xs) (hb : w.heap[b]? = some (.cells cs T (0, 0))) (hne : T ≠ e) : v.ownBlock ≠ some b := by
  rcases h.2 with ⟨h2, _⟩ | ⟨g', c', cur, h2, _, h3, _⟩
  · rw [h2]; simp [Value.ownBlock]
  · rw [h2]
    simp only [Value.ownBlock, ne_eq, Option.some.injEq]
    exact block_ne h3 hb (by simp; intro _ h; exact absurd h.symm hne)
theorem own_ge {w : World} {base n size : Nat} {e : TypeId} {v : Value} {xs : List Value} (h : w.ownsRow base e size v n xs) {q : Nat} (hq : v.ownBlock = some q) : base ≤ q := (h.lt q hq).1

theorem Laid.split_at {ws : List Int} : ∀ {os : List Nat} {a : Nat} (pre rest : List Nat), os = pre ++ rest → Laid ws a os → ∃ b, Laid ws b rest ∧ (pre = [] → b = a) := by
  intro os a pre
  induction pre generalizing os a with
  | nil => intro rest h hl; exact ⟨a, by rw [h] at hl; exact hl, fun _ => rfl⟩
  | cons x l ih =>
    intro rest h hl
    rw [h] at hl
    obtain ⟨rfl, h2, h3, h4⟩ := hl
    obtain ⟨b, hb, _⟩ := ih rest rfl h4
    exact ⟨b, hb, fun h => by cases h⟩

set_option maxRecDepth 100000 in
set_option maxHeartbeats 2000000 in
theorem objects40 (s : StAt w L h) (wf : WF h os) : Calls Tryz.prog 40 #[stV L h] w (NumsR w os) := by
  obtain ⟨i0, hi, hz0, hz1, hz3⟩ := info_parts Tryz.cinfo3
  have hbig := wf.big
  have ST := Lib.hid s
  have WFX := Lib.hid wf
  have HOS := Lib.hid (reach_le wf)
  have B0 := Lib.hid (newB w (.cells #[.slice (some ⟨L.gw, 0, none⟩) h.words.length L.cw, .slice (some ⟨L.gr, 0, none⟩) h.roots.length L.cr] 33) _ rfl)
  have E0 := Lib.hid ((Ext.refl w).alloc (.cells #[.slice (some ⟨L.gw, 0, none⟩) h.words.length L.cw, .slice (some ⟨L.gr, 0, none⟩) h.roots.length L.cr] 33))
  unfold stV
  clear s wf
  go_enter Tryz.func40, Tryz.ntmps40
  go_wp2
  generalize w.alloc (.cells #[.slice (some ⟨L.gw, 0, none⟩) h.words.length L.cw, .slice (some ⟨L.gr, 0, none⟩) h.roots.length L.cr] 33) = W0 at *
  obtain ⟨bb, hbb⟩ : ∃ n, n = w.heap.size := ⟨_, rfl⟩
  rw [← hbb] at B0 ⊢
  have HBB := Lib.hid hbb
  clear hbb
  go_loopw [3, 4] (fun v i wr => ∃ (k : Nat) (pre rest : List Nat), i = .int .i64 k ∧ os = pre ++ rest ∧ Laid h.words k rest ∧ wr.ownsRow w.heap.size 3 1 v pre.length (n64s pre) ∧ Ext w wr ∧ wr.heap[bb]? = some (.cells #[.slice (some ⟨L.gw, 0, none⟩) h.words.length L.cw, .slice (some ⟨L.gr, 0, none⟩) h.roots.length L.cr] 33) ∧ k ≤ h.words.length) (fun v i _ => h.words.length - (intOf i).toNat)
  case atStart => exact ⟨1, [], os, rfl, rfl, WFX.out.laid, World.ownsRow_nil _ _ _ _, E0.out, B0.out, WFX.out.pos⟩
  case round =>
    obtain ⟨k, pre, rest, rfl, hos, hld, hrow, hE, hB, hk⟩ := hrel
    have BX := Lib.hid hB
    have OSX := Lib.hid hos
    have LDX := Lib.hid hld
    have ROW := Lib.hid hrow
    have EX := Lib.hid hE
    obtain ⟨b1, b2⟩ := blk hB
    clear hos hld hrow hE hB
    cases rest with
    | nil =>
      have hke : k = h.words.length := LDX.out
      have os2 : os = pre := by have := OSX.out; simpa using this
      have OS2 := Lib.hid os2
      clear os2
      have hle : decide ((k : Int) + 3 ≤ (h.words.length : Int)) = false := by simp; omega
      clear hke
      go_wp2
      go_ret
      refine ⟨_, rfl, ?_, EX.out⟩
      rw [OS2.out]; exact ROW.out
    | cons x rest =>
      have hx : x = k := LDX.out.1
      subst hx
      have hxl := LDX.out.2.1
      have LD2 := Lib.hid LDX.out.2.2.2
      have hw := WFX.out.word x
      have hzz : (sizeAt h.words x : Int) = wd h.words x % 16777216 := by simp [sizeAt]; omega
      have OS2 : Hid (os = (pre ++ [x]) ++ rest) := by show os = _; rw [OSX.out]; simp
      have hpl : pre.length ≤ 1048576 := by have h1 := HOS.out; have := congrArg List.length OSX.out; simp at this; omega
      have SN : Hid (n64s (pre ++ [x]) = n64s pre ++ n64s [x]) := by show n64s (pre ++ [x]) = _; simp [n64s]
      have hle : decide ((x : Int) + 3 ≤ (h.words.length : Int)) = true := by simp; omega
      have CX : Hid (∀ W, Ext w W → W.cell? ⟨L.gw, x, none⟩ = some (.int .u32 (wd h.words x))) := fun W hE => (ST.out.keep hE).word x (by omega)
      have hx2 : (x : Int) < (h.words.length : Int) := by omega
      have hsum : x + 3 + sizeAt h.words x ≤ h.words.length := hxl
      generalize wd h.words x = y at *
      obtain ⟨y0, y1⟩ := hw
      have tm : Int.tmod y 16777216 = (sizeAt h.words x : Int) := by rw [hzz]; exact Int.tmod_eq_emod_of_nonneg y0
      clear hzz hxl
      generalize sizeAt h.words x = S at *
      have hS0 : (0 : Int) ≤ (S : Int) := by omega
      have hS1 : (S : Int) ≤ 1048576 := by omega
      obtain ⟨ad, cp, rfl, hrb⟩ := own_any ROW.out
      have NW : Hid (RRow (wr.alloc (.cells #[.int .i64 (x : Int)] 3)) ⟨wr.heap.size, 0, none⟩ (n64s [x])) := row_read (World.ownsRow_lit (base := 0) wr #[.int .i64 (x : Int)] 1 (Nat.zero_le _) (by unfold maxLen; omega) rfl)
      have VB := Lib.hid (own_ne ROW.out BX.out (by decide))
      have VG : Hid (∀ q, (Value.slice ad pre.length cp).ownBlock = some q → w.heap.size ≤ q) := fun q hq => own_ge ROW.out hq
      have hs0 := EX.out.size
      clear hrb
      go_wp2_with (at_builtin; refine wpList_append_own _ rfl _ _ 108 rfl w.heap.size 3 i0 (.int .i64 0) 1 8 Tryz.underlying108 hi hz0 hz1 hz3 rfl (by decide) _ pre.length _ rfl (row_keep ROW.out ((Ext.refl _).alloc _)) ⟨wr.heap.size, 0, none⟩ 1 1 (n64s [x]) rfl rfl NW.out (n64s_one _) (by unfold maxLen; omega) (by omega) (by simp; omega) ?_; intro v' w3 hown hgrow0 hnil2; have hgrow : World.grownBy _ w3 (Value.slice ad pre.length cp).ownBlock := hgrow0; have hE3 : Ext w w3 := (EX.out.alloc _).grown hgrow (fun q hq => VG.out q hq); have hb3 := grow_keep hgrow (keepB BX.out _) (fun h => VB.out h.symm); have cx := CX.out _ hE3; obtain ⟨b3, b4⟩ := blk hb3; have E3 := Lib.hid hE3; have B3 := Lib.hid hb3; clear hE3 hb3 b1 b2)
      rw [← SN.out] at hown
      have OW := Lib.hid hown
      clear hown hgrow hgrow0 hnil2
      go_roundw
      case rel => exact ⟨x + 3 + S, pre ++ [x], rest, by go_num, OS2.out, LD2.out, by simpa using OW.out, E3.out, B3.out, by omega⟩
      case measure => simp [intOf]; omega
end
end Go.Proofs.Eff

namespace Go.Proofs.Eff
open Go.RowKit

/-- The numbers of the words of an object that are oops. -/
def nmL (ws : List Int) (a : Nat) : List Nat := (a + 1) :: (if ptrF (fmtAt ws a) then (List.range (sizeAt ws a)).map (a + 3 + ·) else [])
/-- How many of them hold. -/
def nmH (ws : List Int) (a : Nat) : Nat := if fmtAt ws a = 4 then 1 else (nmL ws a).length
def NamesR (w : World) (l : List Nat) (n : Nat) (e : Ending) (w' : World) : Prop := ∃ v, e = .returned (.tuple #[v, .int .i64 (n : Int)]) ∧ w'.ownsRow w.heap.size 3 1 v l.length (n64s l) ∧ Ext w w'

section
variable {w : World} {L : HLoc} {h : HeapS} {os : List Nat}

set_option maxRecDepth 100000 in
set_option maxHeartbeats 2000000 in
theorem names43 (s : StAt w L h) (wf : WF h os) (a : Nat) (ha : a ∈ os) : Calls Tryz.prog 43 #[stV L h, .int .i64 a] w (NamesR w (nmL h.words a) (nmH h.words a)) := by
  obtain ⟨i0, hi, hz0, hz1, hz3⟩ := info_parts Tryz.cinfo3
  have hbig := wf.big
  have hm := wf.mem ha
  have FM := Lib.hid (fun W (hE : Ext w W) => format102 (s.keep hE) wf a (by omega))
  have SZ := Lib.hid (fun W (hE : Ext w W) => size42 (s.keep hE) wf a (by omega))
  have hsum : a + 3 + sizeAt h.words a ≤ h.words.length := hm.2.1
  have B0 := Lib.hid (keepB (newB w (.cells #[.slice (some ⟨L.gw, 0, none⟩) h.words.length L.cw, .slice (some ⟨L.gr, 0, none⟩) h.roots.length L.cr] 33) _ rfl) (.cells #[.int .i64 ((a : Int) + 1)] 3))
  have E0 := Lib.hid (((Ext.refl w).alloc (.cells #[.slice (some ⟨L.gw, 0, none⟩) h.words.length L.cw, .slice (some ⟨L.gr, 0, none⟩) h.roots.length L.cr] 33)).alloc (.cells #[.int .i64 ((a : Int) + 1)] 3))
  have R0 : Hid (((w.alloc (.cells #[.slice (some ⟨L.gw, 0, none⟩) h.words.length L.cw, .slice (some ⟨L.gr, 0, none⟩) h.roots.length L.cr] 33)).alloc (.cells #[.int .i64 ((a : Int) + 1)] 3)).ownsRow w.heap.size 3 1 (.slice (some ⟨w.heap.size + 1, 0, none⟩) 1 1) 1 (n64s [a + 1])) := by
    have := World.ownsRow_lit (base := w.heap.size) (e := 3) (size := 1) (w.alloc (.cells #[.slice (some ⟨L.gw, 0, none⟩) h.words.length L.cw, .slice (some ⟨L.gr, 0, none⟩) h.roots.length L.cr] 33)) #[.int .i64 ((a : Int) + 1)] 1 (by simp) (by unfold maxLen; omega) rfl
    simp only [World.size_alloc] at this
    exact this
  unfold nmL nmH nmL
  unfold stV at *
  clear s wf hm ha
  have key : Hid (((fmtAt h.words a == 1) = true ∧ ptrF (fmtAt h.words a) = true ∧ fmtAt h.words a ≠ 4 ∧ (fmtAt h.words a == 4) = false) ∨ ((fmtAt h.words a == 1) = false ∧ (fmtAt h.words a == 4) = true ∧ ptrF (fmtAt h.words a) = true ∧ fmtAt h.words a = 4) ∨ ((fmtAt h.words a == 1) = false ∧ (fmtAt h.words a == 4) = false ∧ ptrF (fmtAt h.words a) = false ∧ fmtAt h.words a ≠ 4)) := by
    show _ ∨ _
    unfold ptrF
    by_cases h1 : fmtAt h.words a = 1
    · exact .inl (by rw [h1]; decide)
    · have e1 : (fmtAt h.words a == 1) = false := by simpa using h1
      by_cases h4 : fmtAt h.words a = 4
      · exact .inr (.inl (by rw [h4]; decide))
      · have e4 : (fmtAt h.words a == 4) = false := by simpa using h4
        exact .inr (.inr ⟨e1, e4, by rw [e1, e4]; rfl, h4⟩)
  generalize sizeAt h.words a = S at *
  generalize fmtAt h.words a = F at *
  have hS : S ≤ 1048576 := by omega
  have ha1 : (a : Int) ≤ 1048576 := by omega
  rcases key.out with ⟨k1, k2, k3, k4⟩ | ⟨k1, k2, k3, k4⟩ | ⟨k1, k2, k3, k4⟩
  · rw [k2]
    simp only [if_true, if_neg k3]
    clear key k2 k3
    go_enter Tryz.func43, Tryz.ntmps43
    go_wp2_with (first | (go_at_call 102; refine (FM.out _ E0.out).mono ?_; rintro e w1 ⟨rfl, hE1⟩; obtain ⟨b1, b2⟩ := blk (hE1.keep B0.out); have E1 := Lib.hid (E0.out.trans hE1); have B1 := Lib.hid (hE1.keep B0.out); have R1 := Lib.hid (row_keep R0.out hE1); clear hE1))
    obtain ⟨bb, hbb⟩ : ∃ n, n = w.heap.size := ⟨_, rfl⟩
    rw [← hbb] at B1 ⊢
    obtain ⟨b1', hb1'⟩ : ∃ n, n = w.heap.size + 1 := ⟨_, rfl⟩
    have R2 : Hid (w1.ownsRow w.heap.size 3 1 (.slice (some ⟨b1', 0, none⟩) 1 1) 1 (n64s [a + 1])) := by rw [hb1']; exact R1.out
    have hb2' : bb + 1 = b1' := by omega
    rw [hb2']
    clear hbb hb1' hb2' R1 b1 b2 R0 E0 B0
    go_loopw [6, 8] (fun v i wr => ∃ k : Nat, k ≤ S ∧ i = .int .i64 k ∧ wr.ownsRow w.heap.size 3 1 v (k + 1) (n64s ((a + 1) :: (List.range k).map (a + 3 + ·))) ∧ Ext w wr ∧ wr.heap[bb]? = some (.cells #[.slice (some ⟨L.gw, 0, none⟩) h.words.length L.cw, .slice (some ⟨L.gr, 0, none⟩) h.roots.length L.cr] 33)) (fun _ i _ => S - (intOf i).toNat)
    case atStart => exact ⟨0, by omega, rfl, by simpa using R2.out, E1.out, B1.out⟩
    case round =>
      obtain ⟨k, hk, rfl, hrow, hE, hB⟩ := hrel
      have ROW := Lib.hid hrow
      have EX := Lib.hid hE
      have BX := Lib.hid hB
      obtain ⟨ad, cp, rfl, hrb⟩ := own_any ROW.out
      obtain ⟨b1, b2⟩ := blk hB
      clear hrow hE hB hrb
      by_cases hlt : k < S
      · have VB := Lib.hid (own_ne ROW.out BX.out (by decide))
        have VG : Hid (∀ q, (Value.slice ad (k + 1) cp).ownBlock = some q → w.heap.size ≤ q) := fun q hq => own_ge ROW.out hq
        have SN : Hid (n64s ((a + 1) :: (List.range (k + 1)).map (a + 3 + ·)) = n64s ((a + 1) :: (List.range k).map (a + 3 + ·)) ++ n64s [a + 3 + k]) := by show n64s _ = _; simp [n64s, List.range_succ]
        go_wp2_with (first | (go_at_call 42; refine (SZ.out _ EX.out).mono ?_; rintro e w2 ⟨rfl, hE2⟩; have E2 := Lib.hid (EX.out.trans hE2); have B2 := Lib.hid (hE2.keep BX.out); have R2 := Lib.hid (row_keep ROW.out hE2); have NW : Hid (RRow (w2.alloc (.cells #[.int .i64 ((a : Int) + 3 + (k : Int))] 3)) ⟨w2.heap.size, 0, none⟩ (n64s [a + 3 + k])) := row_read (World.ownsRow_lit (base := 0) w2 #[.int .i64 ((a : Int) + 3 + (k : Int))] 1 (Nat.zero_le _) (by unfold maxLen; omega) rfl); have hs2 := E2.out.size; clear hE2 b1 b2) | (at_builtin; refine wpList_append_own _ rfl _ _ 108 rfl w.heap.size 3 i0 (.int .i64 0) 1 8 Tryz.underlying108 hi hz0 hz1 hz3 rfl (by decide) _ (k + 1) _ rfl (row_keep R2.out ((Ext.refl _).alloc _)) ⟨w2.heap.size, 0, none⟩ 1 1 (n64s [a + 3 + k]) rfl rfl NW.out (n64s_one _) (by unfold maxLen; omega) (by omega) (by simp; omega) ?_; intro v' w3 hown hgrow0 hnil2; have hgrow : World.grownBy _ w3 (Value.slice ad (k + 1) cp).ownBlock := hgrow0; have hE3 : Ext w w3 := (E2.out.alloc _).grown hgrow (fun q hq => VG.out q hq); have hb3 := grow_keep hgrow (keepB B2.out _) (fun h => VB.out h.symm); have E3 := Lib.hid hE3; have B3 := Lib.hid hb3; clear hE3 hb3))
        rw [← SN.out] at hown
        have OW := Lib.hid hown
        clear hown hgrow hgrow0 hnil2
        go_roundw
        case rel => exact ⟨k + 1, by omega, by go_num, OW.out, E3.out, B3.out⟩
        case measure => simp [intOf]; omega
      · obtain rfl : k = S := by omega
        have hl : (List.map (a + 3 + ·) (List.range k)).length = k := by simp
        go_wp2_with (first | (go_at_call 42; refine (SZ.out _ EX.out).mono ?_; rintro e w2 ⟨rfl, hE2⟩; have E2 := Lib.hid (EX.out.trans hE2); have R2 := Lib.hid (row_keep ROW.out hE2); clear hE2))
        go_ret2
        refine ⟨.slice ad (k + 1) cp, ?_, ?_, E2.out⟩
        · simp
        · simpa using R2.out
  · rw [k3]
    have p4 : ptrF 4 = true := rfl
    simp only [if_true]
    clear key k2 k3 p4
    go_enter Tryz.func43, Tryz.ntmps43
    go_wp2_with (first | (go_at_call 102; refine (FM.out _ E0.out).mono ?_; rintro e w1 ⟨rfl, hE1⟩; obtain ⟨b1, b2⟩ := blk (hE1.keep B0.out); have E1 := Lib.hid (E0.out.trans hE1); have B1 := Lib.hid (hE1.keep B0.out); have R1 := Lib.hid (row_keep R0.out hE1); clear hE1))
    obtain ⟨bb, hbb⟩ : ∃ n, n = w.heap.size := ⟨_, rfl⟩
    rw [← hbb] at B1 ⊢
    obtain ⟨b1', hb1'⟩ : ∃ n, n = w.heap.size + 1 := ⟨_, rfl⟩
    have R2 : Hid (w1.ownsRow w.heap.size 3 1 (.slice (some ⟨b1', 0, none⟩) 1 1) 1 (n64s [a + 1])) := by rw [hb1']; exact R1.out
    have hb2' : bb + 1 = b1' := by omega
    rw [hb2']
    clear hbb hb1' hb2' R1 b1 b2 R0 E0 B0
    go_loopw [6, 8] (fun v i wr => ∃ k : Nat, k ≤ S ∧ i = .int .i64 k ∧ wr.ownsRow w.heap.size 3 1 v (k + 1) (n64s ((a + 1) :: (List.range k).map (a + 3 + ·))) ∧ Ext w wr ∧ wr.heap[bb]? = some (.cells #[.slice (some ⟨L.gw, 0, none⟩) h.words.length L.cw, .slice (some ⟨L.gr, 0, none⟩) h.roots.length L.cr] 33)) (fun _ i _ => S - (intOf i).toNat)
    case atStart => exact ⟨0, by omega, rfl, by simpa using R2.out, E1.out, B1.out⟩
    case round =>
      obtain ⟨k, hk, rfl, hrow, hE, hB⟩ := hrel
      have ROW := Lib.hid hrow
      have EX := Lib.hid hE
      have BX := Lib.hid hB
      obtain ⟨ad, cp, rfl, hrb⟩ := own_any ROW.out
      obtain ⟨b1, b2⟩ := blk hB
      clear hrow hE hB hrb
      by_cases hlt : k < S
      · have VB := Lib.hid (own_ne ROW.out BX.out (by decide))
        have VG : Hid (∀ q, (Value.slice ad (k + 1) cp).ownBlock = some q → w.heap.size ≤ q) := fun q hq => own_ge ROW.out hq
        have SN : Hid (n64s ((a + 1) :: (List.range (k + 1)).map (a + 3 + ·)) = n64s ((a + 1) :: (List.range k).map (a + 3 + ·)) ++ n64s [a + 3 + k]) := by show n64s _ = _; simp [n64s, List.range_succ]
        go_wp2_with (first | (go_at_call 42; refine (SZ.out _ EX.out).mono ?_; rintro e w2 ⟨rfl, hE2⟩; have E2 := Lib.hid (EX.out.trans hE2); have B2 := Lib.hid (hE2.keep BX.out); have R2 := Lib.hid (row_keep ROW.out hE2); have NW : Hid (RRow (w2.alloc (.cells #[.int .i64 ((a : Int) + 3 + (k : Int))] 3)) ⟨w2.heap.size, 0, none⟩ (n64s [a + 3 + k])) := row_read (World.ownsRow_lit (base := 0) w2 #[.int .i64 ((a : Int) + 3 + (k : Int))] 1 (Nat.zero_le _) (by unfold maxLen; omega) rfl); have hs2 := E2.out.size; clear hE2 b1 b2) | (at_builtin; refine wpList_append_own _ rfl _ _ 108 rfl w.heap.size 3 i0 (.int .i64 0) 1 8 Tryz.underlying108 hi hz0 hz1 hz3 rfl (by decide) _ (k + 1) _ rfl (row_keep R2.out ((Ext.refl _).alloc _)) ⟨w2.heap.size, 0, none⟩ 1 1 (n64s [a + 3 + k]) rfl rfl NW.out (n64s_one _) (by unfold maxLen; omega) (by omega) (by simp; omega) ?_; intro v' w3 hown hgrow0 hnil2; have hgrow : World.grownBy _ w3 (Value.slice ad (k + 1) cp).ownBlock := hgrow0; have hE3 : Ext w w3 := (E2.out.alloc _).grown hgrow (fun q hq => VG.out q hq); have hb3 := grow_keep hgrow (keepB B2.out _) (fun h => VB.out h.symm); have E3 := Lib.hid hE3; have B3 := Lib.hid hb3; clear hE3 hb3))
        rw [← SN.out] at hown
        have OW := Lib.hid hown
        clear hown hgrow hgrow0 hnil2
        go_roundw
        case rel => exact ⟨k + 1, by omega, by go_num, OW.out, E3.out, B3.out⟩
        case measure => simp [intOf]; omega
      · obtain rfl : k = S := by omega
        have hl : (List.map (a + 3 + ·) (List.range k)).length = k := by simp
        go_wp2_with (first | (go_at_call 42; refine (SZ.out _ EX.out).mono ?_; rintro e w2 ⟨rfl, hE2⟩; have E2 := Lib.hid (EX.out.trans hE2); have R2 := Lib.hid (row_keep ROW.out hE2); clear hE2))
        go_ret2
        refine ⟨.slice ad (k + 1) cp, ?_, ?_, E2.out⟩
        · rfl
        · simpa using R2.out
  · rw [k3]
    simp only [Bool.false_eq_true, if_false, if_neg k4]
    clear key k3 k4
    go_enter Tryz.func43, Tryz.ntmps43
    go_wp2_with (first | (go_at_call 102; refine (FM.out _ E0.out).mono ?_; rintro e w1 ⟨rfl, hE1⟩; obtain ⟨b1, b2⟩ := blk (hE1.keep B0.out); have E1 := Lib.hid (E0.out.trans hE1); have R1 := Lib.hid (row_keep R0.out hE1); clear hE1))
    go_ret2
    exact ⟨_, rfl, R1.out, E1.out⟩
end
end Go.Proofs.Eff

namespace Go.Proofs.Eff
open Go.RowKit

/-- An oop that was come to. -/
def putO (met : List Int) (o : Int) : List Int := if isObj o then putOne met o else met
theorem putO_foldl (l : List Int) : ∀ met : List Int, l.foldl putO met = putAll met (l.filter isObj) := by
  induction l with
  | nil => intro met; rfl
  | cons x l ih =>
    intro met
    simp only [List.foldl_cons, ih, putO]
    by_cases hx : isObj x = true
    · rw [if_pos hx, List.filter_cons_of_pos hx]; rfl
    · rw [if_neg hx, List.filter_cons_of_neg hx]
/-- Marks at what was come to. -/
def seenOf (n : Nat) (met : List Int) : List Bool := (List.range n).map fun (i : Nat) => met.contains (2 * (i : Int))
theorem seenOf_length (n : Nat) (met : List Int) : (seenOf n met).length = n := by simp [seenOf]
theorem seenOf_bd {n : Nat} {met : List Int} {i : Nat} (hi : i < n) : bd (seenOf n met) i = met.contains (2 * (i : Int)) := by simp [bd, seenOf, hi]
theorem seenOf_set {n : Nat} {met : List Int} {i : Nat} : (seenOf n met).set i true = seenOf n (met ++ [2 * (i : Int)]) := by
  apply List.ext_getElem
  · simp [seenOf]
  · intro j h1 h2
    simp only [seenOf, List.getElem_set, List.getElem_map, List.getElem_range]
    by_cases h : i = j
    · subst h; simp
    · rw [if_neg h]; simp; omega
theorem seenOf_nil (n : Nat) : seenOf n [] = List.replicate n false := by
  apply List.ext_getElem
  · simp [seenOf]
  · intro i h1 h2; simp [seenOf]

structure DWalk (w : World) (base b : Nat) (lv cv : Value) (gs n : Nat) (met cm : List Int) : Prop where
  blk : w.heap[b]? = some (.cells #[lv, cv, .slice (some ⟨gs, 0, none⟩) n n] 269)
  list : w.ownsRow base 41 1 lv met.length (u32s met)
  came : w.ownsRow base 3 1 cv cm.length (i64s cm)
  seen : w.ownsRow base 4 1 (.slice (some ⟨gs, 0, none⟩) n n) n (bools (seenOf n met))
  hb : base ≤ b
  cml : cm.length = met.length
theorem DWalk.keep {a w : World} {base b : Nat} {lv cv : Value} {gs n : Nat} {met cm : List Int} (d : DWalk a base b lv cv gs n met cm) (hE : Ext a w) : DWalk w base b lv cv gs n met cm :=
  ⟨hE.keep d.blk, row_keep d.list hE, row_keep d.came hE, row_keep d.seen hE, d.hb, d.cml⟩
def PutD (w : World) (base b : Nat) (lv cv : Value) (gs n : Nat) (met : List Int) (e : Ending) (w' : World) : Prop :=
  e = .returned (.tuple #[]) ∧ ∃ lv' cv' cm, DWalk w' base b lv' cv' gs n met cm ∧ Below base w w' ∧
    (∀ k, k < w.heap.size → k ≠ b → k ≠ gs → lv.ownBlock ≠ some k → cv.ownBlock ≠ some k → w'.heap[k]? = w.heap[k]?) ∧ (∀ g, cv'.ownBlock = some g → cv.ownBlock = some g ∨ w.heap.size ≤ g)
@[simp] theorem i64s_length (l : List Int) : (i64s l).length = l.length := by simp [i64s]
theorem i64s_one (l : List Int) : ∀ u, u ∈ i64s l → u.oneCell' = true := by
  intro u hu; simp [i64s] at hu; obtain ⟨a, _, rfl⟩ := hu; rfl
theorem Below.modB {base : Nat} {w w' : World} {S : List Nat} (hm : Mod S w w') (hb : base ≤ w.heap.size) (hS : ∀ x, x ∈ S → base ≤ x) : Below base w w' :=
  ⟨hm.os, hm.tape, hm.output, hm.size, fun k hk => hm.block k (Nat.lt_of_lt_of_le hk hb) (fun hx => by have := hS k hx; omega)⟩

theorem rows_apart {w : World} {base n size base' n' size' : Nat} {e e' : TypeId} {v v' : Value} {xs xs' : List Value} (h : w.ownsRow base e size v n xs) (h' : w.ownsRow base' e' size' v' n' xs') (hne : e ≠ e') : v.ownBlock = none ∨ v.ownBlock ≠ v'.ownBlock := by
  rcases h.2 with ⟨h2, _⟩ | ⟨g, c, cur, h2, _, h3, _⟩
  · exact .inl (by rw [h2]; rfl)
  · refine .inr ?_
    rcases h'.2 with ⟨k2, _⟩ | ⟨g', c', cur', k2, _, k3, _⟩
    · rw [h2, k2]; simp [Value.ownBlock]
    · rw [h2, k2]
      simp only [Value.ownBlock, ne_eq, Option.some.injEq]
      exact block_ne h3 k3 (by simp; intro _ h; exact absurd h hne)

set_option maxRecDepth 100000 in
set_option maxHeartbeats 2000000 in
theorem put153 {w : World} {base b : Nat} {lv cv : Value} {gs n : Nat} {met cm : List Int} (d : DWalk w base b lv cv gs n met cm) (hbase : base ≤ w.heap.size) (o by_ : Int) (h0 : 0 ≤ o) (h1 : o < 4294967296) (hin : isObj o = true → (o / 2).toNat < n) (hn : n ≤ 1048577) (hml : met.length ≤ 1048577) :
    Calls Tryz.prog 153 #[.pointer (some ⟨b, 0, none⟩), .int .u32 o, .int .i64 by_] w (PutD w base b lv cv gs n (putO met o)) := by
  have HK := Lib.hid (fun W => kind44 o W h0 h1)
  unfold putO putOne
  obtain ⟨la, lc, rfl, _⟩ := own_any d.list
  obtain ⟨ca, cc, rfl, _⟩ := own_any d.came
  have D := Lib.hid d
  obtain ⟨b1, b2⟩ := blk d.blk
  clear d
  cases hk : isObj o with
  | false =>
    have hk2 : (kindI o != 2) = true := by simpa using kind_ne hk
    simp only [Bool.false_eq_true, if_false]
    go_enter Tryz.func153, Tryz.ntmps153
    go_wp2_with (go_at_call 44; refine (HK.out _).mono ?_; rintro e w' ⟨rfl, rfl⟩)
    exact bodyPost_ret (v := .tuple #[]) (results_none rfl _ _ _) rfl ⟨rfl, _, _, _, D.out, Below.refl _ _, fun _ _ _ _ _ _ => rfl, fun _ hg => .inl hg⟩
  | true =>
    have hk2 : (kindI o != 2) = false := by simpa using kind_obj hk
    have hi := hin hk
    have ho : o = 2 * ((o / 2).toNat : Int) := by simp [isObj] at hk; omega
    simp only [if_true]
    have cs : w.cell? ⟨gs, (o / 2).toNat, none⟩ = some (.bool (met.contains o)) := by
      rw [row_cell D.out.seen _ hi]
      have := seenOf_bd (met := met) hi
      rw [← ho] at this
      simp only [bools, List.getElem?_map]
      rw [← this]
      simp [bd, seenOf_length, hi]
    have fs := row_free D.out.seen (o / 2).toNat
    have d0 : 0 ≤ o / 2 := by omega
    have d1 : o / 2 < (n : Int) := by omega
    cases hc : met.contains o with
    | true =>
      simp only [if_true]
      rw [hc] at cs
      clear hc ho
      go_enter Tryz.func153, Tryz.ntmps153
      go_wp2_with (go_at_call 44; refine (HK.out _).mono ?_; rintro e w' ⟨rfl, rfl⟩)
      exact bodyPost_ret (v := .tuple #[]) (results_none rfl _ _ _) rfl ⟨rfl, _, _, _, D.out, Below.refl _ _, fun _ _ _ _ _ _ => rfl, fun _ hg => .inl hg⟩
    | false =>
      simp only [Bool.false_eq_true, if_false]
      rw [hc] at cs
      obtain ⟨i0, hi0, hz0, hz1, hz3⟩ := info_parts Tryz.cinfo41
      obtain ⟨j0, hj, hy0, hy1, hy3⟩ := info_parts Tryz.cinfo3
      have HO := Lib.hid ho
      obtain ⟨i, hii⟩ : ∃ i, i = (o / 2).toNat := ⟨_, rfl⟩
      rw [← hii] at HO hi
      have hgb : gs ≠ b := by
        obtain ⟨cur, hcur, _⟩ := row_block D.out.seen
        exact (block_ne hcur D.out.blk (by simp))
      have hgs : base ≤ gs := (D.out.seen.lt gs rfl).1
      have hgl := row_lt D.out.seen
      have m1 := mod_setCell w ⟨gs, i, none⟩ (.bool true)
      have hlg : ∀ g, (Value.slice la met.length lc).ownBlock = some g → g ≠ gs := fun g hg => by
        obtain ⟨cur, hcur, _⟩ := row_block D.out.seen
        exact fun he => own_ne D.out.list hcur (by decide) (by rw [hg, he])
      have hcg : ∀ g, (Value.slice ca cm.length cc).ownBlock = some g → g ≠ gs := fun g hg => by
        obtain ⟨cur, hcur, _⟩ := row_block D.out.seen
        exact fun he => own_ne D.out.came hcur (by decide) (by rw [hg, he])
      have D1 : Hid (DWalk (w.setCell ⟨gs, i, none⟩ (.bool true)) base b (.slice la met.length lc) (.slice ca cm.length cc) gs n met cm ∨ True) := .inr trivial
      have B1 := Lib.hid (m1.keep D.out.blk (by simpa using hgb.symm))
      have L1 := Lib.hid (m1.row D.out.list (by intro g hg; simpa using hlg g hg))
      have C1 := Lib.hid (m1.row D.out.came (by intro g hg; simpa using hcg g hg))
      have S1q := row_set D.out.seen i (.bool true)
      rw [bools_set, seenOf_set, ← HO.out] at S1q
      have S1 := Lib.hid S1q
      have M1 := Lib.hid m1
      clear m1 hlg hcg D1 S1q hc ho
      go_enter Tryz.func153, Tryz.ntmps153
      go_upto_region 2 with (go_at_call 44; refine (HK.out _).mono ?_; rintro e w' ⟨rfl, rfl⟩)
      rw [← hii]
      have hs1 := M1.out.size
      generalize w.setCell ⟨gs, i, none⟩ (.bool true) = W1 at *
      clear b1 b2 cs fs
      obtain ⟨b1, b2⟩ := blk B1.out
      have VB := Lib.hid (own_ne L1.out B1.out (by decide))
      have VG : Hid (∀ q, (Value.slice la met.length lc).ownBlock = some q → base ≤ q) := fun q hq => own_ge L1.out hq
      have NW : Hid (RRow (W1.alloc (.cells #[.int .u32 o] 41)) ⟨W1.heap.size, 0, none⟩ (u32s [o])) := row_read (World.ownsRow_lit (base := 0) W1 #[.int .u32 o] 1 (Nat.zero_le _) (by unfold maxLen; omega) rfl)
      have hb1' := lt_of_block B1.out
      go_upto_region 3 with (at_builtin; refine wpList_append_own _ rfl _ _ 23 rfl base 41 i0 (.int .u32 0) 1 4 Tryz.underlying23 hi0 hz0 hz1 hz3 rfl (by decide) _ met.length _ rfl (row_keep L1.out ((Ext.refl _).alloc _)) ⟨W1.heap.size, 0, none⟩ 1 1 (u32s [o]) rfl rfl NW.out (u32s_one _) (by unfold maxLen; omega) (by omega) (by simp; omega) ?_; intro v' w3 hown hgrow0 hnil2; have hgrow : World.grownBy _ w3 (Value.slice la met.length lc).ownBlock := hgrow0; obtain ⟨g3, c3, rfl⟩ := own_form hown (fun hq => by have := (hnil2.1 hq).2; omega); have hb3 := grow_keep hgrow (keepB B1.out _) (fun h => VB.out h.symm); obtain ⟨b3, b4⟩ := blk hb3; have hb3' := lt_of_block hb3)
      have hsn : u32s met ++ u32s [o] = u32s (met ++ [o]) := by simp [u32s]
      rw [hsn] at hown
      have hln : (met ++ [o]).length = met.length + 1 := by simp
      have m2 := mod_setCell w3 ⟨b, 0, none⟩ (.slice (some ⟨g3, 0, none⟩) (met.length + 1) c3)
      have hgb3 : g3 ≠ b := by
        obtain ⟨cur, hcur, _⟩ := row_block hown
        exact block_ne hcur hb3 (by simp)
      have qB2 := setB (i := 0) hb3 (.slice (some ⟨g3, 0, none⟩) (met.length + 1) c3)
      have B2 : Hid ((w3.setCell ⟨b, 0, none⟩ (.slice (some ⟨g3, 0, none⟩) (met.length + 1) c3)).heap[b]? = some (.cells #[.slice (some ⟨g3, 0, none⟩) (met.length + 1) c3, .slice ca cm.length cc, .slice (some ⟨gs, 0, none⟩) n n] 269)) := qB2
      have L2 := Lib.hid (m2.row hown (by intro g hg; cases hg; simpa using hgb3))
      have c1a := row_keep C1.out ((Ext.refl W1).alloc (.cells #[.int .u32 o] 41))
      have s1a := row_keep S1.out ((Ext.refl W1).alloc (.cells #[.int .u32 o] 41))
      have l1a := row_keep L1.out ((Ext.refl W1).alloc (.cells #[.int .u32 o] 41))
      have c1b := c1a.kept hgrow (rows_apart c1a l1a (by decide))
      have s1b := s1a.kept hgrow (rows_apart s1a l1a (by decide))
      have C2 := Lib.hid (m2.row c1b (by intro g hg hq; simp only [List.mem_singleton] at hq; exact own_ne c1b hb3 (by decide) (by rw [hg, hq])))
      have S2 := Lib.hid (m2.row s1b (by intro g hg; cases hg; simpa using hgb))
      have F2 : Hid (Below base w (w3.setCell ⟨b, 0, none⟩ (.slice (some ⟨g3, 0, none⟩) (met.length + 1) c3))) := by
        have q0 : Below base w W1 := Below.modB M1.out hbase (by intro x hx; simp only [List.mem_singleton] at hx; omega)
        exact Below.setCell (Below.grown (Below.alloc q0 (by omega) _) hgrow (by simp; omega) (fun k hk => VG.out k hk)) (p := ⟨b, 0, none⟩) D.out.hb _
      have FR2 : Hid (∀ k, k < w.heap.size → k ≠ b → k ≠ gs → (Value.slice la met.length lc).ownBlock ≠ some k → (w3.setCell ⟨b, 0, none⟩ (.slice (some ⟨g3, 0, none⟩) (met.length + 1) c3)).heap[k]? = w.heap[k]?) := by
        intro k hk h1 h2 h3
        rw [Below.heap_setCell _ _ _ _ (by simpa using h1), hgrow.block k (by simp; omega) (fun he => h3 he.symm), Below.heap_alloc _ _ _ (by omega), M1.out.block k hk (by simpa using h2)]
      have hz2 : w.heap.size ≤ (w3.setCell ⟨b, 0, none⟩ (.slice (some ⟨g3, 0, none⟩) (met.length + 1) c3)).heap.size := by
        have h1 := hgrow.size
        simp at h1
        simp [World.setCell]; omega
      have hs3 := hgrow.size
      have hs2 : base ≤ w3.heap.size := by simp at hs3; omega
      have hgg3 : base ≤ g3 := (hown.lt g3 rfl).1
      have hcm := D.out.cml
      have hcm2 : cm.length ≤ 1048577 := by omega
      have CMX := Lib.hid hcm
      clear hown hgrow hgrow0 hnil2 m2 qB2 c1a s1a l1a c1b s1b b1 b2 b3 b4 hb3' hcm hs3 hb3 VB VG B1 L1 C1 S1 M1 NW
      have hs4 : base ≤ (w3.setCell ⟨b, 0, none⟩ (.slice (some ⟨g3, 0, none⟩) (met.length + 1) c3)).heap.size := by simpa [World.setCell] using hs2
      generalize w3.setCell ⟨b, 0, none⟩ (.slice (some ⟨g3, 0, none⟩) (met.length + 1) c3) = W2 at *
      obtain ⟨b1, b2⟩ := blk B2.out
      have VB := Lib.hid (own_ne C2.out B2.out (by decide))
      have VG : Hid (∀ q, (Value.slice ca cm.length cc).ownBlock = some q → base ≤ q) := fun q hq => own_ge C2.out hq
      have NW : Hid (RRow (W2.alloc (.cells #[.int .i64 by_] 3)) ⟨W2.heap.size, 0, none⟩ (i64s [by_])) := row_read (World.ownsRow_lit (base := 0) W2 #[.int .i64 by_] 1 (Nat.zero_le _) (by unfold maxLen; omega) rfl)
      have hb1'' := lt_of_block B2.out
      go_wp2_with (at_builtin; refine wpList_append_lies _ rfl _ _ 108 rfl base 3 j0 (.int .i64 0) 1 8 Tryz.underlying108 hj hy0 hy1 hy3 rfl (by decide) _ cm.length _ rfl (row_keep C2.out ((Ext.refl _).alloc _)) ⟨W2.heap.size, 0, none⟩ 1 1 (i64s [by_]) rfl rfl NW.out (i64s_one _) (by decide) (by unfold maxLen; omega) (by omega) (by simp; omega) (W2.heap.size + 1) (by simp) ?_; intro g4 c4 w4 hown hgrow0 hat0 hlt4; have hgrow : World.grownBy _ w4 (Value.slice ca cm.length cc).ownBlock := hgrow0; have hat : (Value.slice ca cm.length cc).ownBlock = some g4 ∨ g4 = W2.heap.size + 1 := hat0; have hb4 := grow_keep hgrow (keepB B2.out _) (fun h => VB.out h.symm); obtain ⟨b3, b4⟩ := blk hb4; have hb4' := lt_of_block hb4)
      have hsn2 : i64s cm ++ i64s [by_] = i64s (cm ++ [by_]) := by simp [i64s]
      rw [hsn2] at hown
      have m4 := mod_setCell w4 ⟨b, 1, none⟩ (.slice (some ⟨g4, 0, none⟩) (cm.length + 1) c4)
      have hgb4 : g4 ≠ b := by
        obtain ⟨cur, hcur, _⟩ := row_block hown
        exact block_ne hcur hb4 (by simp)
      have qB4 := setB (i := 1) hb4 (.slice (some ⟨g4, 0, none⟩) (cm.length + 1) c4)
      have l2a := row_keep L2.out ((Ext.refl W2).alloc (.cells #[.int .i64 by_] 3))
      have s2a := row_keep S2.out ((Ext.refl W2).alloc (.cells #[.int .i64 by_] 3))
      have c2a := row_keep C2.out ((Ext.refl W2).alloc (.cells #[.int .i64 by_] 3))
      have l2b := l2a.kept hgrow (rows_apart l2a c2a (by decide))
      have s2b := s2a.kept hgrow (rows_apart s2a c2a (by decide))
      go_end0
      refine ⟨rfl, .slice (some ⟨g3, 0, none⟩) (met.length + 1) c3, .slice (some ⟨g4, 0, none⟩) (cm.length + 1) c4, cm ++ [by_], ⟨qB4, ?_, ?_, ?_, D.out.hb, ?_⟩, ?_, ?_, ?_⟩
      · rw [hln]; exact m4.row l2b (by intro g hg; cases hg; simpa using hgb3)
      · have := m4.row hown (by intro g hg; cases hg; simpa using hgb4)
        simpa using this
      · exact m4.row s2b (by intro g hg; cases hg; simpa using hgb)
      · simp [CMX.out]
      · exact Below.setCell (Below.grown (Below.alloc F2.out (by omega) _) hgrow (by simp; omega) (fun k hk => VG.out k hk)) (p := ⟨b, 1, none⟩) D.out.hb _
      · intro k hk q1 q2 q3 q4
        rw [Below.heap_setCell _ _ _ _ (by simpa using q1), hgrow.block k (by simp; omega) (fun he => q4 he.symm), Below.heap_alloc _ _ _ (by omega), FR2.out k hk q1 q2 q3]
      · intro g hg
        have hg4 : g4 = g := by simpa [Value.ownBlock] using hg
        subst hg4
        rcases hat with h1 | h1
        · exact .inl h1
        · exact .inr (by omega)

end Go.Proofs.Eff

namespace Go.Proofs.Eff
open Go.RowKit

/-- The oops of an object that hold. -/
def heldO (ws : List Int) (a : Nat) : List Int := ((nmL ws a).take (nmH ws a)).map (wd ws)
theorem nmL_pos (ws : List Int) (a : Nat) : 0 < (nmL ws a).length := by simp [nmL]
theorem nmH_le (ws : List Int) (a : Nat) : nmH ws a ≤ (nmL ws a).length := by
  unfold nmH; have := nmL_pos ws a; split <;> omega
theorem nmL_bound {ws : List Int} {a : Nat} (hf : a + 3 + sizeAt ws a ≤ ws.length) : ∀ x, x ∈ nmL ws a → x < ws.length ∧ a < x := by
  intro x hx
  simp only [nmL, List.mem_cons] at hx
  rcases hx with rfl | hx
  · omega
  · split at hx
    · obtain ⟨j, hj, rfl⟩ := List.mem_map.1 hx
      have := List.mem_range.1 hj
      omega
    · cases hx
theorem nmL_len {ws : List Int} {a : Nat} : (nmL ws a).length ≤ sizeAt ws a + 1 := by
  unfold nmL; split <;> simp
theorem heldO_length (ws : List Int) (a : Nat) : (heldO ws a).length = nmH ws a := by
  have := nmH_le ws a
  simp [heldO]; omega
theorem heldO_names {ws : List Int} {a : Nat} (hf : a + 3 + sizeAt ws a ≤ ws.length) : (heldO ws a).filter isObj = namesAt ws a true := by
  have hfm : (hdrAt ws a).fmt = fmtAt ws a := rfl
  have hcl : (hdrAt ws a).cls = wd ws (a + 1) := rfl
  have hfl : fieldsAt ws a = (List.range (sizeAt ws a)).map fun j => wd ws (a + 3 + j) := by
    apply List.ext_getElem
    · rw [fieldsAt_length hf]; simp
    · intro j h1 h2
      have hj : j < sizeAt ws a := by rw [fieldsAt_length hf] at h1; exact h1
      have := fieldsAt_wd (ws := ws) (a := a) hj
      simp only [wd, h1, List.getElem?_eq_getElem, Option.getD_some] at this
      simp [this, wd]
  unfold heldO namesAt oopsAt nmH
  rw [hfm, hcl]
  congr 1
  by_cases h1 : fmtAt ws a = 1
  · have hp : ptrF (fmtAt ws a) = true := by rw [h1]; rfl
    rw [if_neg (by omega), List.take_length, if_pos (.inl h1)]
    simp only [nmL, hp, if_true, List.map_cons, List.map_map, hfl]
    rfl
  · by_cases h4 : fmtAt ws a = 4
    · rw [if_pos h4, if_neg (by simp [h4])]
      simp [nmL]
    · have hp : ptrF (fmtAt ws a) = false := by unfold ptrF; simp [h1, h4]
      rw [if_neg h4, List.take_length, if_neg (by simp [h1, h4])]
      simp [nmL, hp]

/-- Between two steps of the walk. -/
structure DInv (h : HeapS) (os : List Nat) (xs : List Int) (at_ : Nat) (met : List Int) : Prop where
  le : at_ ≤ met.length
  valid : ∀ x, x ∈ met → isO os x = true
  nodup : met.Nodup
  rng : ∀ x, x ∈ met → 0 ≤ x ∧ x < 4294967296
  bfs : bfs h.words (os.length + 1 - at_) met at_ = reach h.words os.length xs

section
variable {h : HeapS} {os : List Nat} {xs met : List Int} {at_ : Nat}
theorem DInv.first (hx : ∀ x, x ∈ xs → isO os x = true ∧ 0 ≤ x ∧ x < 4294967296) : DInv h os xs 0 (putAll [] xs) := by
  refine ⟨Nat.zero_le _, ?_, putAll_nodup (by simp), ?_, rfl⟩
  · intro x hx1
    rcases putAll_mem.1 hx1 with h1 | h1
    · cases h1
    · exact (hx x h1).1
  · intro x hx1
    rcases putAll_mem.1 hx1 with h1 | h1
    · cases h1
    · exact (hx x h1).2
theorem DInv.len (wf : WF h os) (I : DInv h os xs at_ met) : met.length ≤ os.length ∧ met.length ≤ 1048576 := by
  have h1 := met_le I.nodup I.valid (fun x hx => (I.rng x hx).1)
  have h2 := reach_le wf
  exact ⟨h1, by omega⟩
theorem DInv.step (wf : WF h os) (hso : Sound h os) (I : DInv h os xs at_ met) (hlt : at_ < met.length) : DInv h os xs (at_ + 1) (putAll met (namesAt h.words (wd met at_ / 2).toNat true)) := by
  have hmem : wd met at_ ∈ met := wd_in hlt
  have hv0 := I.valid _ hmem
  have hml := (I.len wf).1
  refine ⟨?_, ?_, putAll_nodup I.nodup, ?_, ?_⟩
  · have : met.length ≤ (putAll met (namesAt h.words (wd met at_ / 2).toNat true)).length := nodup_le _ _ I.nodup (fun x hx => putAll_mem.2 (.inl hx))
    omega
  · intro x hx
    rcases putAll_mem.1 hx with h1 | h1
    · exact I.valid x h1
    · exact hso.names (wf.isO_lt hv0).2 true x h1
  · intro x hx
    rcases putAll_mem.1 hx with h1 | h1
    · exact I.rng x h1
    · exact names_rng wf x h1
  · have hb := I.bfs
    obtain ⟨m, hm⟩ : ∃ m, os.length + 1 - at_ = m + 1 := ⟨os.length - at_, by omega⟩
    rw [hm, Eff.bfs, if_pos hlt] at hb
    have : os.length + 1 - (at_ + 1) = m := by omega
    rw [this]; exact hb
theorem DInv.last (wf : WF h os) (I : DInv h os xs met.length met) : reach h.words os.length xs = met := by
  have hml := (I.len wf).1
  have hb := I.bfs
  obtain ⟨m, hm⟩ : ∃ m, os.length + 1 - met.length = m + 1 := ⟨os.length - met.length, by omega⟩
  rw [hm, Eff.bfs, if_neg (by omega)] at hb
  exact hb.symm
/-- What holds of an object is come to or is none. -/
theorem held_valid (wf : WF h os) (hso : Sound h os) {a : Nat} (ha : a ∈ os) : ∀ x, x ∈ heldO h.words a → (isObj x = true → (x / 2).toNat < h.words.length) ∧ 0 ≤ x ∧ x < 4294967296 := by
  intro x hx
  have hm := wf.mem ha
  have hr : 0 ≤ x ∧ x < 4294967296 := by
    obtain ⟨j, _, rfl⟩ := List.mem_map.1 hx
    exact wf.word j
  refine ⟨fun ho => ?_, hr⟩
  have h1 : x ∈ namesAt h.words a true := by rw [← heldO_names hm.2.1]; exact List.mem_filter.2 ⟨hx, ho⟩
  have h2 := hso.names ha true x h1
  have h3 := wf.mem (wf.isO_lt h2).2
  omega
theorem foldl_take_succ {met l : List Int} {k : Nat} (hk : k < l.length) : (l.take (k + 1)).foldl putO met = putO ((l.take k).foldl putO met) (wd l k) := by
  rw [List.take_succ_eq_append_getElem hk, List.foldl_append]
  simp [wd, hk]
theorem putO_len (met : List Int) (o : Int) : (putO met o).length ≤ met.length + 1 := by
  unfold putO
  split
  · exact putOne_length met o
  · omega
theorem foldl_len : ∀ (l met : List Int), (l.foldl putO met).length ≤ met.length + l.length := by
  intro l
  induction l with
  | nil => intro met; simp
  | cons x l ih =>
    intro met
    have h1 := ih (putO met x)
    have h2 := putO_len met x
    simp only [List.foldl_cons, List.length_cons] at *
    omega
end

end Go.Proofs.Eff
