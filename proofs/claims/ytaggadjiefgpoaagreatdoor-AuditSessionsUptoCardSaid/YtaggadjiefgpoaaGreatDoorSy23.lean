/- collect.mover.lay. -/
import Derived.Test.YtaggadjiefgpoaaGreatDoorSy22
import Derived.Deep.DeepCutAuto
namespace Go.Proofs.Eff
open Go.RowKit

/-- A mover lies there. -/
structure MovAt (w : World) (b mb hb : Nat) (t0 t1 t2 t3 : Value) (g q : Nat) (ws : List Int) (cl : Int) : Prop where
  blk : w.heap[b]? = some (.cells #[.pointer (some ⟨hb, 0, none⟩), .map (some mb), .slice (some ⟨g, 0, none⟩) ws.length q, t0, t1, t2, t3, .int .i64 cl] 154)
  row : w.ownsRow 0 24 1 (.slice (some ⟨g, 0, none⟩) ws.length q) ws.length (u32s ws)

theorem MovAt.keep {a w : World} {b mb hb g q : Nat} {t0 t1 t2 t3 : Value} {ws : List Int} {cl : Int} (h : MovAt a b mb hb t0 t1 t2 t3 g q ws cl) (hx : Ext a w) : MovAt w b mb hb t0 t1 t2 t3 g q ws cl := ⟨hx.keep h.blk, row_keep h.row hx⟩
theorem MovAt.ne {a : World} {b mb hb g q : Nat} {t0 t1 t2 t3 : Value} {ws : List Int} {cl : Int} (h : MovAt a b mb hb t0 t1 t2 t3 g q ws cl) : b ≠ g := by
  obtain ⟨cur, hcur, _⟩ := row_block h.row
  exact block_ne h.blk hcur (by simp)
/-- The words have grown, and the mover has been told. -/
theorem MovAt.grew {W W3 : World} {b mb hb g q : Nat} {t0 t1 t2 t3 : Value} {ws ws' : List Int} {cl : Int} (ha : MovAt W b mb hb t0 t1 t2 t3 g q ws cl) {g1 n1 q1 : Nat} (hn : n1 = ws'.length)
    (hown : W3.ownsRow 0 24 1 (.slice (some ⟨g1, 0, none⟩) n1 q1) n1 (u32s ws')) (hg : W.grownBy W3 (some g)) :
    MovAt (W3.setCell ⟨b, 2, none⟩ (.slice (some ⟨g1, 0, none⟩) n1 q1)) b mb hb t0 t1 t2 t3 g1 q1 ws' cl ∧ Mod [b, g] W (W3.setCell ⟨b, 2, none⟩ (.slice (some ⟨g1, 0, none⟩) n1 q1)) := by
  subst hn
  have hd := ha.ne
  have bB := grow_keep hg ha.blk (by simp; omega)
  have hm := mod_setCell W3 ⟨b, 2, none⟩ (.slice (some ⟨g1, 0, none⟩) ws'.length q1)
  obtain ⟨cur, hcur, _⟩ := row_block hown
  have hne : b ≠ g1 := block_ne bB hcur (by simp)
  refine ⟨⟨by simpa using setB (i := 2) bB (.slice (some ⟨g1, 0, none⟩) ws'.length q1), hm.row hown ?_⟩, ?_⟩
  · intro g hg; cases hg; simp; omega
  · exact ((grow_mod hg).mono (by simp)).trans (hm.mono (by simp))
theorem MovAt.cleared {W : World} {b mb hb g q : Nat} {t0 t1 t2 t3 : Value} {ws : List Int} {cl : Int} (ha : MovAt W b mb hb t0 t1 t2 t3 g q ws cl) (c : Int) :
    MovAt (W.setCell ⟨b, 7, none⟩ (.int .i64 c)) b mb hb t0 t1 t2 t3 g q ws c ∧ Mod [b, g] W (W.setCell ⟨b, 7, none⟩ (.int .i64 c)) := by
  have hd := ha.ne
  have hm := mod_setCell W ⟨b, 7, none⟩ (.int .i64 c)
  refine ⟨⟨by simpa using setB (i := 7) ha.blk (.int .i64 c), hm.row ha.row ?_⟩, hm.mono (by simp)⟩
  intro g hg; cases hg; simp; omega

/-- What a field becomes. -/
def layOne (pl : List (Int × Int)) (V : Int) (p : Bool) (x : Int) : Int := if p then (if whereB pl x then whereV pl x else V) else x
def clrOne (pl : List (Int × Int)) (p : Bool) (x : Int) : Bool := p && !whereB pl x
def ptrF (B : Int) : Bool := B == 1 || B == 4
def fieldsW (ws : List Int) (a k : Nat) : List Int := (List.range k).map fun i => wd ws (a + 3 + i)
def layPart (ws : List Int) (pl : List (Int × Int)) (V : Int) (a k : Nat) : List Int :=
  [wd ws a, whereV pl (wd ws (a + 1)), wd ws (a + 2)] ++ (fieldsW ws a k).map (layOne pl V (ptrF (hdrAt ws a).fmt))
def layAll (ws : List Int) (pl : List (Int × Int)) (V : Int) (a : Nat) : List Int := layPart ws pl V a (sizeAt ws a)
def clrPart (ws : List Int) (pl : List (Int × Int)) (a k : Nat) : Nat := ((fieldsW ws a k).filter (clrOne pl (ptrF (hdrAt ws a).fmt))).length
def clrAll (ws : List Int) (pl : List (Int × Int)) (a : Nat) : Nat := clrPart ws pl a (sizeAt ws a)
theorem fieldsW_succ (ws : List Int) (a k : Nat) : fieldsW ws a (k + 1) = fieldsW ws a k ++ [wd ws (a + 3 + k)] := by simp [fieldsW, List.range_succ]
theorem layPart_length (ws : List Int) (pl : List (Int × Int)) (V : Int) (a k : Nat) : (layPart ws pl V a k).length = 3 + k := by simp [layPart, fieldsW]; omega
theorem layPart_succ (ws : List Int) (pl : List (Int × Int)) (V : Int) (a k : Nat) : layPart ws pl V a (k + 1) = layPart ws pl V a k ++ [layOne pl V (ptrF (hdrAt ws a).fmt) (wd ws (a + 3 + k))] := by simp [layPart, fieldsW_succ]
theorem clrPart_succ (ws : List Int) (pl : List (Int × Int)) (a k : Nat) : clrPart ws pl a (k + 1) = clrPart ws pl a k + (if clrOne pl (ptrF (hdrAt ws a).fmt) (wd ws (a + 3 + k)) then 1 else 0) := by
  simp only [clrPart, fieldsW_succ, List.filter_append, List.length_append]
  split <;> simp_all
theorem clrPart_le (ws : List Int) (pl : List (Int × Int)) (a k : Nat) : clrPart ws pl a k ≤ k := by
  have := List.length_filter_le (clrOne pl (ptrF (hdrAt ws a).fmt)) (fieldsW ws a k)
  simp [clrPart, fieldsW] at *; omega

def LayR (w : World) (b mb hb : Nat) (t0 t1 t2 t3 : Value) (g0 : Nat) (ws : List Int) (cl : Int) (w' : World) : Prop :=
  ∃ g q, MovAt w' b mb hb t0 t1 t2 t3 g q ws cl ∧ Mod [b, g0] w w' ∧ (g = g0 ∨ w.heap.size ≤ g)

set_option maxRecDepth 100000 in
set_option maxHeartbeats 2000000 in
theorem lay74 {w : World} {L : HLoc} {h : HeapS} {os : List Nat} (ha : HeapAt w L h) (wf : WF h os) (hs : Spares w) {b mb g0 q0 gd cd : Nat} {t0 t1 t2 t3 : Value} {ws : List Int} {cl : Int} {pl : List (Int × Int)} (hm : MovAt w b mb L.b t0 t1 t2 t3 g0 q0 ws cl) (hmp : MapAt w mb .u32 (goesA pl)) (hd : w.ownsRow 0 24 1 (.slice (some ⟨gd, 0, none⟩) h.words.length cd) h.words.length (u32s h.words))
    (hL : ∀ x, x ∈ L.blocks → ¬ x ∈ [b, g0]) (hgd : gd ≠ g0) (o V : Int) (h0 : 0 ≤ o) (h1 : o < 4294967296) (ho : isO os o = true) (_v0 : 0 ≤ V) (_v1 : V < 4294967296) (hcl : 0 ≤ cl) (hcl2 : cl < 4294967296) (hws : ws.length ≤ 1048576) :
    Calls Tryz.prog 74 #[.pointer (some ⟨b, 0, none⟩), .int .u32 o, .slice (some ⟨gd, 0, none⟩) h.words.length cd, .int .u32 V] w fun e w' => e = .returned (.tuple #[]) ∧ LayR w b mb L.b t0 t1 t2 t3 g0 (ws ++ layAll h.words pl V (o / 2).toNat) (cl + clrAll h.words pl (o / 2).toNat) w' := by
  have hmem := wf.mem (wf.isO_lt ho).2
  have hbd := mayB_bounds (wf.hdr (wf.isO_lt ho).2)
  have HH := Lib.hid (Header_ok ha wf hs o h0 h1 ho)
  have HI := Lib.hid (fun W => index_obj o W h0 h1 (wf.isO_lt ho).1)
  obtain ⟨n, hn⟩ : ∃ n : Nat, o / 2 = n := ⟨(o / 2).toNat, by omega⟩
  rw [hn] at hmem hbd HH HI ⊢
  simp only [Int.toNat_natCast] at *
  have HWR := Lib.hid wf.word
  have hsz : (hdrAt h.words n).size = sizeAt h.words n := by have := wf.word n; simp [hdrAt, hdrOf, sizeAt]; omega
  have hcls : (hdrAt h.words n).cls = wd h.words (n + 1) := rfl
  have hser : (hdrAt h.words n).ser = wd h.words (n + 2) := rfl
  have HW : Hid (∀ W (x : Int) (u0 u1 u2 u3 u4 u5 : Value), W.heap[b]? = some (.cells #[.pointer (some ⟨L.b, 0, none⟩), .map (some mb), u5, u0, u1, u2, u3, u4] 154) → MapAt W mb .u32 (goesA pl) → 0 ≤ x → x < 4294967296 → Calls Tryz.prog 72 #[.pointer (some ⟨b, 0, none⟩), .int .u32 x] W fun e w' => e = .returned (.tuple #[.int .u32 (whereV pl x), .bool (whereB pl x)]) ∧ W = w') := fun W x u0 u1 u2 u3 u4 u5 hb hm a0 a1 => where72 b mb _ u5 u0 u1 u2 u3 u4 pl x W hb hm a0 a1
  have hbl := lt_of_block hm.blk
  have hg0 := row_lt hm.row
  have hgd1 := row_lt hd
  have hmb := hmp.lt
  have hbm := hmp.ne_cells hm.blk
  have hgm : g0 ≠ mb := by obtain ⟨cur, hcur, _⟩ := row_block hm.row; exact hmp.ne_cells hcur
  have hgdb : gd ≠ b := by obtain ⟨cur, hcur, _⟩ := row_block hd; exact block_ne hcur hm.blk (by simp)
  have hcap := row_max hd
  obtain ⟨k1, k2⟩ := blk hm.blk
  unfold layAll clrAll
  have HP0 : Hid (layPart h.words pl V n 0 = [wd h.words n, whereV pl (wd h.words (n + 1)), wd h.words (n + 2)]) := by show layPart _ _ _ _ _ = _; simp [layPart, fieldsW]
  have HPL := Lib.hid (layPart_length h.words pl V n)
  have HPS := Lib.hid (layPart_succ h.words pl V n)
  have HCS := Lib.hid (clrPart_succ h.words pl n)
  have HCL := Lib.hid (clrPart_le h.words pl n)
  have HC0 : Hid (clrPart h.words pl n 0 = 0) := by show clrPart _ _ _ _ = 0; simp [clrPart, fieldsW]
  generalize sizeAt h.words n = S at *
  generalize hdrAt h.words n = H at *
  obtain ⟨A, B, C, c, s⟩ := H
  simp only [Hdr.val, Hdr.cells] at *
  subst hsz hcls hser
  obtain ⟨hn1, hn2, _⟩ := hmem
  have hbig := wf.big
  have hS : (S : Int) ≤ 65535 := hbd.2.1
  have HA := Lib.hid ha
  have HM := Lib.hid hm
  have HMP := Lib.hid hmp
  have HD := Lib.hid hd
  have HL := Lib.hid hL
  have HN := Lib.hid hn
  have hc0 := HWR.out (n + 1)
  have hcap1 := hcap.1
  clear ha hm hmp hd hL hn hs ho wf hbd hcap
  obtain ⟨i0, hi, hz0, hz1, hz2⟩ := info_parts Tryz.cinfo24
  go_enter Tryz.func74, Tryz.ntmps74
  go_upto_region 3 with (first | (go_at_call 22; refine HH.out.mono ?_; rintro e w1 ⟨rfl, hb⟩; have X := Lib.hid hb; have d3 := hb.keep HM.out.blk; have d4 := HMP.out.keep hb; clear hb) | (go_at_call 125; refine (HI.out _).mono ?_; rintro e w2 ⟨rfl, rfl⟩) | (go_at_call 72; refine (HW.out _ _ _ _ _ _ _ _ (keepB d3 _) (d4.keep ((Ext.refl _).alloc _)) hc0.1 hc0.2).mono ?_; rintro e w3 ⟨rfl, rfl⟩))
  obtain ⟨W, hW⟩ : ∃ W, W = w1.alloc (Obj.cells #[Value.int IntKind.i64 ↑S, Value.int IntKind.i64 B, Value.int IntKind.i64 C, Value.int IntKind.u32 (wd h.words (n + 1)), Value.int IntKind.u32 (wd h.words (n + 2))] 65) := ⟨_, rfl⟩
  rw [← hW]
  have hE : Ext w W := by rw [hW]; exact X.out.alloc _
  have bk : W.heap[w1.heap.size]? = some (Obj.cells #[Value.int IntKind.i64 ↑S, Value.int IntKind.i64 B, Value.int IntKind.i64 C, Value.int IntKind.u32 (wd h.words (n + 1)), Value.int IntKind.u32 (wd h.words (n + 2))] 65) := by rw [hW]; exact newB _ _ _ rfl
  generalize w1.heap.size = hb1 at *
  have XE := Lib.hid hE
  have BK := Lib.hid bk
  have MW := Lib.hid (HM.out.keep hE)
  have DW := Lib.hid (row_keep HD.out hE)
  have hb1l := lt_of_block bk
  have hb1b : hb1 ≠ b := block_ne bk MW.out.blk (by simp)
  have hb1g : hb1 ≠ g0 := by obtain ⟨cur, hcur, _⟩ := row_block MW.out.row; exact block_ne bk hcur (by simp)
  have hWs := hE.size
  clear hW d3 d4 X hE k1 k2 HM HD
  obtain ⟨k1, k2⟩ := blk MW.out.blk
  obtain ⟨j1, j2⟩ := blk bk
  have cx : W.cell? ⟨gd, n, none⟩ = some (.int .u32 (wd h.words n)) := by
    rw [row_cell DW.out n (by omega)]; simp [u32s, wd, show n < h.words.length by omega]
  clear bk
  have hnl : (n : Int) < (h.words.length : Int) := by omega
  have hn0 : (0 : Int) ≤ (n : Int) := by omega
  go_cut [] from 18 (fun wx => LayR W b mb L.b t0 t1 t2 t3 g0 (ws ++ [wd h.words n, whereV pl (wd h.words (n + 1)), wd h.words (n + 2)]) cl wx)
  case first =>
    generalize wd h.words n = x0 at *
    generalize whereV pl (wd h.words (n + 1)) = x1 at *
    generalize wd h.words (n + 2) = x2 at *
    have RW : Hid ((W.drew.alloc (Obj.cells #[Value.int IntKind.u32 x0, Value.int IntKind.u32 x1, Value.int IntKind.u32 x2] 24)).ownsRow 0 24 1 (.slice (some ⟨g0, 0, none⟩) ws.length q0) ws.length (u32s ws)) := row_keep MW.out.row ((Ext.refl _).drew.alloc _)
    have RN : Hid (RRow (W.drew.alloc (Obj.cells #[Value.int IntKind.u32 x0, Value.int IntKind.u32 x1, Value.int IntKind.u32 x2] 24)) ⟨W.heap.size, 0, none⟩ (u32s [x0, x1, x2])) := row_read (World.ownsRow_lit (base := 0) (e := 24) W.drew #[Value.int IntKind.u32 x0, Value.int IntKind.u32 x1, Value.int IntKind.u32 x2] 3 (Nat.zero_le _) (by unfold maxLen; omega) rfl)
    have LB : Hid ((W.drew.alloc (Obj.cells #[Value.int IntKind.u32 x0, Value.int IntKind.u32 x1, Value.int IntKind.u32 x2] 24)).heap[b]? = _) := (keepB (w := W.drew) MW.out.blk _ : _)
    have hbg := MW.out.ne
    have hbW : b < W.heap.size := by omega
    obtain ⟨l1, l2⟩ := blk LB.out
    go_region_law (refine step_append_lies _ rfl _ _ _ rfl 0 24 i0 _ 1 4 Tryz.underlying22 hi hz0 hz1 hz2 rfl (by omega) (.slice (some ⟨g0, 0, none⟩) ws.length q0) ws.length (u32s ws) (by simp [Act.eval]) RW.out ⟨W.heap.size, 0, none⟩ 3 3 (u32s [x0, x1, x2]) (by simp [Act.eval]) rfl RN.out (u32s_one _) (by omega) (by unfold maxLen; omega) (by omega) (Nat.zero_le _) (W.heap.size + 1) (by simp) ?_; intro g1 q1 w3 hown hgrow hat hlt3; obtain ⟨m1, m2⟩ := blk (grow_keep hgrow LB.out (by simp [Value.ownBlock]; omega)))
    all_goals
      have hown2 : w3.ownsRow 0 24 1 (.slice (some ⟨g1, 0, none⟩) (ws.length + 3) q1) (ws.length + 3) (u32s (ws ++ [x0, x1, x2])) := by
        have : u32s (ws ++ [x0, x1, x2]) = u32s ws ++ u32s [x0, x1, x2] := by simp [u32s]
        rw [this]; exact hown
      have G4 := Lib.hid ((MW.out.keep (((Ext.refl _).drew.alloc _))).grew (by simp) hown2 hgrow)
      have HX : Hid (g1 = g0 ∨ W.heap.size ≤ g1) := by
        rcases hat with h1 | h1
        · exact .inl (by simpa [Value.ownBlock, eq_comm] using h1)
        · exact .inr (by omega)
      have MX := Lib.hid ((((Ext.refl W).drew.alloc (Obj.cells #[Value.int IntKind.u32 x0, Value.int IntKind.u32 x1, Value.int IntKind.u32 x2] 24)).mod [b, g0]).trans G4.out.2)
      clear hown hown2 hgrow hat
      go_wp2_with fail
      go_meet
      case rel => exact ⟨g1, q1, G4.out.1, MX.out, HX.out⟩
  case rest =>
    have K0 := Lib.hid hcut
    obtain ⟨gc, qc, f1, f2, f3⟩ := hcut
    clear k1 k2 j1 j2 cx f1 f3
    obtain ⟨j1, j2⟩ := blk (f2.keep BK.out (by simp; omega))
    clear f2
    have q1 : IntKind.i64.wrap ((n : Int) + 3) = (n : Int) + 3 := IntWalk.i64_in _ (by omega)
    have q2 : IntKind.i64.wrap ((n : Int) + 3 + (S : Int)) = (n : Int) + 3 + (S : Int) := IntWalk.i64_in _ (by omega)
    have hsl := fun w => slice_fields w gd h.words.length cd n S (by omega)
    have HO : Hid (0 < S → sOff 0 cd (n + 3) = n + 3) := by
      intro hS0; unfold sOff; rw [if_neg (by omega)]; omega
    generalize sOff 0 cd (n + 3) = O at *
    have HBK : Hid (∀ wr, Mod [b, g0] W wr → wr.heap[hb1]? = some (Obj.cells #[Value.int IntKind.i64 ↑S, Value.int IntKind.i64 B, Value.int IntKind.i64 C, Value.int IntKind.u32 (wd h.words (n + 1)), Value.int IntKind.u32 (wd h.words (n + 2))] 65)) := fun wr hm => hm.keep BK.out (by simp; omega)
    have HCX : Hid (∀ wr, Mod [b, g0] W wr → ∀ k, k < S → wr.cell? ⟨gd, O + k, none⟩ = some (.int .u32 (wd h.words (n + 3 + k)))) := by
      intro wr hm k hk
      have hr := hm.row DW.out (by intro g hg; cases hg; simp; omega)
      rw [HO.out (by omega), row_cell hr (n + 3 + k) (by omega)]
      simp [u32s, wd, show n + 3 + k < h.words.length by omega]
    have HMW : Hid (∀ wr, Mod [b, g0] W wr → MapAt wr mb .u32 (goesA pl)) := fun wr hm => (HMP.out.keep XE.out).mod hm (by simp; omega)
    go_wp2_with fail
    clear j1 j2
    go_loopw [65] (fun i wr => ∃ (k : Nat), k ≤ S ∧ i = .int .i64 k ∧ LayR W b mb L.b t0 t1 t2 t3 g0 (ws ++ layPart h.words pl V n k) (cl + clrPart h.words pl n k) wr) (fun i _ => S - (intOf i).toNat)
    case atStart => exact ⟨0, by omega, rfl, by rw [HP0.out, HC0.out]; simpa using K0.out⟩
    case round =>
      obtain ⟨k, hk, rfl, g, q, f1, f2, f4⟩ := hrel
      have F4 := Lib.hid f4
      have F1 := Lib.hid f1
      have F2 := Lib.hid f2
      clear f1 f2 f4 K0
      by_cases hlt : k < S
      · have cx := HCX.out wr F2.out k hlt
        obtain ⟨j1, j2⟩ := blk (HBK.out wr F2.out)
        have hkl := HPL.out k
        have hkc := HCL.out k
        have PS := Lib.hid (HPS.out k)
        have CS := Lib.hid (HCS.out k)
        have hx0 := HWR.out (n + 3 + k)
        have HWx := Lib.hid (HW.out wr (wd h.words (n + 3 + k)) _ _ _ _ _ _ F1.out.blk (HMW.out wr F2.out) hx0.1 hx0.2)
        obtain ⟨k1, k2⟩ := blk F1.out.blk
        generalize layPart h.words pl V n k = lp at *
        generalize clrPart h.words pl n k = cn at *
        generalize wd h.words (n + 3 + k) = x at *
        have hll : (ws ++ lp).length ≤ 2097152 := by simp [hkl]; omega
        generalize hwl : ws ++ lp = wl at *
        have HWL := Lib.hid hwl
        clear hwl hkl
        have hkS : (k : Int) < (S : Int) := by omega
        have hk0 : (0 : Int) ≤ (k : Int) := by omega
        cases hp : ptrF B with
        | false =>
          have PS2 : Hid (layPart h.words pl V n (k + 1) = lp ++ [x]) := by show layPart h.words pl V n (k + 1) = _; have := PS.out; simpa [layOne, hp] using this
          have CS2 : Hid (clrPart h.words pl n (k + 1) = cn) := by show clrPart h.words pl n (k + 1) = _; have := CS.out; simpa [clrOne, hp] using this
          have b1 : (B == 1) = false := by simp [ptrF] at hp; simp [hp]
          have b4 : (B == 4) = false := by simp [ptrF] at hp; simp [hp]
          have XM : MovAt wr b mb L.b t0 t1 t2 t3 g q wl (cl + cn) ∧ Mod [b, g0] W wr := ⟨F1.out, F2.out⟩
          generalize hy : x = y at *
          obtain ⟨X, hX⟩ : ∃ X, X = wr := ⟨_, rfl⟩
          subst hX
          clear hy
          have MVX := Lib.hid XM.1
          have MDX := Lib.hid XM.2
          clear XM
          have hXs := MDX.out.size
          obtain ⟨k1, k2⟩ := blk MVX.out.blk
          have hXb := lt_of_block MVX.out.blk
          have ROW : Hid (X.ownsRow 0 24 1 (.slice (some ⟨g, 0, none⟩) wl.length q) wl.length (u32s wl)) := MVX.out.row
          have NW : Hid (RRow (X.alloc (.cells #[.int .u32 y] 24)) ⟨X.heap.size, 0, none⟩ (u32s [y])) := row_read (World.ownsRow_lit (base := 0) X #[.int .u32 y] 1 (Nat.zero_le _) (by unfold maxLen; omega) rfl)
          have LB : Hid ((X.alloc (.cells #[.int .u32 y] 24)).heap[b]? = _) := keepB MVX.out.blk _
          have hbg := MVX.out.ne
          go_wp2_with (at_builtin; refine wpList_append_lies _ rfl _ _ _ rfl 0 24 i0 _ 1 4 Tryz.underlying22 hi hz0 hz1 hz2 rfl (by omega) _ wl.length _ rfl (ROW.out.alloc _) ⟨X.heap.size, 0, none⟩ 1 1 (u32s [y]) rfl rfl NW.out (u32s_one _) (by omega) (by unfold maxLen; omega) (by omega) (Nat.zero_le _) (X.heap.size + 1) (by simp) ?_; intro g' q' w6 hown hgrow hat hlt6; obtain ⟨m1, m2⟩ := blk (grow_keep hgrow LB.out (by simp [Value.ownBlock, go_sem]; omega)))
          have hown2 : w6.ownsRow 0 24 1 (.slice (some ⟨g', 0, none⟩) (wl.length + 1) q') (wl.length + 1) (u32s (wl ++ [y])) := by
            have : u32s (wl ++ [y]) = u32s wl ++ u32s [y] := by simp [u32s]
            rw [this]; exact hown
          have G := (MVX.out.keep ((Ext.refl _).alloc _)).grew (ws' := wl ++ [y]) (by simp) hown2 hgrow
          have HX : Hid (g' = g0 ∨ W.heap.size ≤ g') := by
            have hw0 := F4.out
            rcases hat with h1 | h1
            · have : g = g' := by simpa [Value.ownBlock, go_sem] using h1
              subst this; exact hw0
            · exact .inr (by omega)
          have MX := Lib.hid (MDX.out.via ((((Ext.refl _).alloc _).mod _).trans G.2) (by
            intro x hx
            have hw0 := F4.out
            simp only [List.mem_cons, List.not_mem_nil, or_false] at hx ⊢
            omega))
          have GX := Lib.hid G.1
          clear hown hown2 hgrow hat G
          refine ⟨⟨k + 1, ?_⟩, ?_⟩
          · refine ⟨by omega, by go_num, g', q', ?_, MX.out, HX.out⟩
            rw [PS2.out, CS2.out, ← List.append_assoc, HWL.out]; exact GX.out
          · simp [intOf]; omega
        | true =>
          have PT : Hid ((B == 1) = true ∨ ((B == 1) = false ∧ (B == 4) = true)) := by
            show _ ∨ _
            simp only [ptrF] at hp
            cases h1 : (B == 1) <;> simp_all
          cases hwb : whereB pl x with
          | true =>
            have PS2 : Hid (layPart h.words pl V n (k + 1) = lp ++ [whereV pl x]) := by show layPart h.words pl V n (k + 1) = _; have := PS.out; simpa [layOne, hp, hwb] using this
            have CS2 : Hid (clrPart h.words pl n (k + 1) = cn) := by show clrPart h.words pl n (k + 1) = _; have := CS.out; simpa [clrOne, hp, hwb] using this
            rw [hwb] at HWx
            generalize whereV pl x = y at *
            rcases PT.out with b1 | ⟨b1, b4⟩
            · go_upto_region 13 with (go_at_call 72; refine HWx.out.mono ?_; rintro e w5 ⟨rfl, rfl⟩)
              obtain ⟨X, hX⟩ : ∃ X, X = wr := ⟨_, rfl⟩
              subst hX
              have XM : MovAt X b mb L.b t0 t1 t2 t3 g q wl (cl + cn) ∧ Mod [b, g0] W X := ⟨F1.out, F2.out⟩
              have MVX := Lib.hid XM.1
              have MDX := Lib.hid XM.2
              clear XM
              have hXs := MDX.out.size
              obtain ⟨k1, k2⟩ := blk MVX.out.blk
              have hXb := lt_of_block MVX.out.blk
              have ROW : Hid (X.ownsRow 0 24 1 (.slice (some ⟨g, 0, none⟩) wl.length q) wl.length (u32s wl)) := MVX.out.row
              have NW : Hid (RRow (X.alloc (.cells #[.int .u32 y] 24)) ⟨X.heap.size, 0, none⟩ (u32s [y])) := row_read (World.ownsRow_lit (base := 0) X #[.int .u32 y] 1 (Nat.zero_le _) (by unfold maxLen; omega) rfl)
              have LB : Hid ((X.alloc (.cells #[.int .u32 y] 24)).heap[b]? = _) := keepB MVX.out.blk _
              have hbg := MVX.out.ne
              go_wp2_with (at_builtin; refine wpList_append_lies _ rfl _ _ _ rfl 0 24 i0 _ 1 4 Tryz.underlying22 hi hz0 hz1 hz2 rfl (by omega) _ wl.length _ rfl (ROW.out.alloc _) ⟨X.heap.size, 0, none⟩ 1 1 (u32s [y]) rfl rfl NW.out (u32s_one _) (by omega) (by unfold maxLen; omega) (by omega) (Nat.zero_le _) (X.heap.size + 1) (by simp) ?_; intro g' q' w6 hown hgrow hat hlt6; obtain ⟨m1, m2⟩ := blk (grow_keep hgrow LB.out (by simp [Value.ownBlock, go_sem]; omega)))
              have hown2 : w6.ownsRow 0 24 1 (.slice (some ⟨g', 0, none⟩) (wl.length + 1) q') (wl.length + 1) (u32s (wl ++ [y])) := by
                have : u32s (wl ++ [y]) = u32s wl ++ u32s [y] := by simp [u32s]
                rw [this]; exact hown
              have G := (MVX.out.keep ((Ext.refl _).alloc _)).grew (ws' := wl ++ [y]) (by simp) hown2 hgrow
              have HX : Hid (g' = g0 ∨ W.heap.size ≤ g') := by
                have hw0 := F4.out
                rcases hat with h1 | h1
                · have : g = g' := by simpa [Value.ownBlock, go_sem] using h1
                  subst this; exact hw0
                · exact .inr (by omega)
              have MX := Lib.hid (MDX.out.via ((((Ext.refl _).alloc _).mod _).trans G.2) (by
                intro x hx
                have hw0 := F4.out
                simp only [List.mem_cons, List.not_mem_nil, or_false] at hx ⊢
                omega))
              have GX := Lib.hid G.1
              clear hown hown2 hgrow hat G
              refine ⟨⟨k + 1, ?_⟩, ?_⟩
              · refine ⟨by omega, by go_num, g', q', ?_, MX.out, HX.out⟩
                rw [PS2.out, CS2.out, ← List.append_assoc, HWL.out]; exact GX.out
              · simp [intOf]; omega
            · go_upto_region 13 with (go_at_call 72; refine HWx.out.mono ?_; rintro e w5 ⟨rfl, rfl⟩)
              obtain ⟨X, hX⟩ : ∃ X, X = wr := ⟨_, rfl⟩
              subst hX
              have XM : MovAt X b mb L.b t0 t1 t2 t3 g q wl (cl + cn) ∧ Mod [b, g0] W X := ⟨F1.out, F2.out⟩
              have MVX := Lib.hid XM.1
              have MDX := Lib.hid XM.2
              clear XM
              have hXs := MDX.out.size
              obtain ⟨k1, k2⟩ := blk MVX.out.blk
              have hXb := lt_of_block MVX.out.blk
              have ROW : Hid (X.ownsRow 0 24 1 (.slice (some ⟨g, 0, none⟩) wl.length q) wl.length (u32s wl)) := MVX.out.row
              have NW : Hid (RRow (X.alloc (.cells #[.int .u32 y] 24)) ⟨X.heap.size, 0, none⟩ (u32s [y])) := row_read (World.ownsRow_lit (base := 0) X #[.int .u32 y] 1 (Nat.zero_le _) (by unfold maxLen; omega) rfl)
              have LB : Hid ((X.alloc (.cells #[.int .u32 y] 24)).heap[b]? = _) := keepB MVX.out.blk _
              have hbg := MVX.out.ne
              go_wp2_with (at_builtin; refine wpList_append_lies _ rfl _ _ _ rfl 0 24 i0 _ 1 4 Tryz.underlying22 hi hz0 hz1 hz2 rfl (by omega) _ wl.length _ rfl (ROW.out.alloc _) ⟨X.heap.size, 0, none⟩ 1 1 (u32s [y]) rfl rfl NW.out (u32s_one _) (by omega) (by unfold maxLen; omega) (by omega) (Nat.zero_le _) (X.heap.size + 1) (by simp) ?_; intro g' q' w6 hown hgrow hat hlt6; obtain ⟨m1, m2⟩ := blk (grow_keep hgrow LB.out (by simp [Value.ownBlock, go_sem]; omega)))
              have hown2 : w6.ownsRow 0 24 1 (.slice (some ⟨g', 0, none⟩) (wl.length + 1) q') (wl.length + 1) (u32s (wl ++ [y])) := by
                have : u32s (wl ++ [y]) = u32s wl ++ u32s [y] := by simp [u32s]
                rw [this]; exact hown
              have G := (MVX.out.keep ((Ext.refl _).alloc _)).grew (ws' := wl ++ [y]) (by simp) hown2 hgrow
              have HX : Hid (g' = g0 ∨ W.heap.size ≤ g') := by
                have hw0 := F4.out
                rcases hat with h1 | h1
                · have : g = g' := by simpa [Value.ownBlock, go_sem] using h1
                  subst this; exact hw0
                · exact .inr (by omega)
              have MX := Lib.hid (MDX.out.via ((((Ext.refl _).alloc _).mod _).trans G.2) (by
                intro x hx
                have hw0 := F4.out
                simp only [List.mem_cons, List.not_mem_nil, or_false] at hx ⊢
                omega))
              have GX := Lib.hid G.1
              clear hown hown2 hgrow hat G
              refine ⟨⟨k + 1, ?_⟩, ?_⟩
              · refine ⟨by omega, by go_num, g', q', ?_, MX.out, HX.out⟩
                rw [PS2.out, CS2.out, ← List.append_assoc, HWL.out]; exact GX.out
              · simp [intOf]; omega
          | false =>
            have PS2 : Hid (layPart h.words pl V n (k + 1) = lp ++ [V]) := by show layPart h.words pl V n (k + 1) = _; have := PS.out; simpa [layOne, hp, hwb] using this
            have CS2 : Hid (clrPart h.words pl n (k + 1) = cn + 1) := by show clrPart h.words pl n (k + 1) = _; have := CS.out; simpa [clrOne, hp, hwb] using this
            rw [hwb] at HWx
            have q3 : IntKind.i64.wrap (cl + (cn : Int) + 1) = cl + (cn : Int) + 1 := IntWalk.i64_in _ (by omega)
            rcases PT.out with b1 | ⟨b1, b4⟩
            · go_upto_region 13 with (go_at_call 72; refine HWx.out.mono ?_; rintro e w5 ⟨rfl, rfl⟩)
              have XM : MovAt (wr.setCell ⟨b, 7, none⟩ (.int .i64 (cl + cn + 1))) b mb L.b t0 t1 t2 t3 g q wl (cl + cn + 1) ∧ Mod [b, g0] W (wr.setCell ⟨b, 7, none⟩ (.int .i64 (cl + cn + 1))) := ⟨(F1.out.cleared _).1, F2.out.via ((mod_setCell wr ⟨b, 7, none⟩ (.int .i64 (cl + cn + 1)))) (by simp)⟩
              obtain ⟨X, hX⟩ : ∃ X, X = wr.setCell ⟨b, 7, none⟩ (.int .i64 (cl + cn + 1)) := ⟨_, rfl⟩
              rw [← hX] at XM ⊢
              clear k1 k2 j1 j2 cx hX
              have MVX := Lib.hid XM.1
              have MDX := Lib.hid XM.2
              clear XM
              have hXs := MDX.out.size
              obtain ⟨k1, k2⟩ := blk MVX.out.blk
              have hXb := lt_of_block MVX.out.blk
              have ROW : Hid (X.ownsRow 0 24 1 (.slice (some ⟨g, 0, none⟩) wl.length q) wl.length (u32s wl)) := MVX.out.row
              have NW : Hid (RRow (X.alloc (.cells #[.int .u32 V] 24)) ⟨X.heap.size, 0, none⟩ (u32s [V])) := row_read (World.ownsRow_lit (base := 0) X #[.int .u32 V] 1 (Nat.zero_le _) (by unfold maxLen; omega) rfl)
              have LB : Hid ((X.alloc (.cells #[.int .u32 V] 24)).heap[b]? = _) := keepB MVX.out.blk _
              have hbg := MVX.out.ne
              go_wp2_with (at_builtin; refine wpList_append_lies _ rfl _ _ _ rfl 0 24 i0 _ 1 4 Tryz.underlying22 hi hz0 hz1 hz2 rfl (by omega) _ wl.length _ rfl (ROW.out.alloc _) ⟨X.heap.size, 0, none⟩ 1 1 (u32s [V]) rfl rfl NW.out (u32s_one _) (by omega) (by unfold maxLen; omega) (by omega) (Nat.zero_le _) (X.heap.size + 1) (by simp) ?_; intro g' q' w6 hown hgrow hat hlt6; obtain ⟨m1, m2⟩ := blk (grow_keep hgrow LB.out (by simp [Value.ownBlock, go_sem]; omega)))
              have hown2 : w6.ownsRow 0 24 1 (.slice (some ⟨g', 0, none⟩) (wl.length + 1) q') (wl.length + 1) (u32s (wl ++ [V])) := by
                have : u32s (wl ++ [V]) = u32s wl ++ u32s [V] := by simp [u32s]
                rw [this]; exact hown
              have G := (MVX.out.keep ((Ext.refl _).alloc _)).grew (ws' := wl ++ [V]) (by simp) hown2 hgrow
              have HX : Hid (g' = g0 ∨ W.heap.size ≤ g') := by
                have hw0 := F4.out
                rcases hat with h1 | h1
                · have : g = g' := by simpa [Value.ownBlock, go_sem] using h1
                  subst this; exact hw0
                · exact .inr (by omega)
              have MX := Lib.hid (MDX.out.via ((((Ext.refl _).alloc _).mod _).trans G.2) (by
                intro x hx
                have hw0 := F4.out
                simp only [List.mem_cons, List.not_mem_nil, or_false] at hx ⊢
                omega))
              have GX := Lib.hid G.1
              clear hown hown2 hgrow hat G
              refine ⟨⟨k + 1, ?_⟩, ?_⟩
              · refine ⟨by omega, by go_num, g', q', ?_, MX.out, HX.out⟩
                rw [PS2.out, CS2.out, show cl + ((cn + 1 : Nat) : Int) = cl + (cn : Int) + 1 by omega, ← List.append_assoc, HWL.out]; exact GX.out
              · simp [intOf]; omega
            · go_upto_region 13 with (go_at_call 72; refine HWx.out.mono ?_; rintro e w5 ⟨rfl, rfl⟩)
              have XM : MovAt (wr.setCell ⟨b, 7, none⟩ (.int .i64 (cl + cn + 1))) b mb L.b t0 t1 t2 t3 g q wl (cl + cn + 1) ∧ Mod [b, g0] W (wr.setCell ⟨b, 7, none⟩ (.int .i64 (cl + cn + 1))) := ⟨(F1.out.cleared _).1, F2.out.via ((mod_setCell wr ⟨b, 7, none⟩ (.int .i64 (cl + cn + 1)))) (by simp)⟩
              obtain ⟨X, hX⟩ : ∃ X, X = wr.setCell ⟨b, 7, none⟩ (.int .i64 (cl + cn + 1)) := ⟨_, rfl⟩
              rw [← hX] at XM ⊢
              clear k1 k2 j1 j2 cx hX
              have MVX := Lib.hid XM.1
              have MDX := Lib.hid XM.2
              clear XM
              have hXs := MDX.out.size
              obtain ⟨k1, k2⟩ := blk MVX.out.blk
              have hXb := lt_of_block MVX.out.blk
              have ROW : Hid (X.ownsRow 0 24 1 (.slice (some ⟨g, 0, none⟩) wl.length q) wl.length (u32s wl)) := MVX.out.row
              have NW : Hid (RRow (X.alloc (.cells #[.int .u32 V] 24)) ⟨X.heap.size, 0, none⟩ (u32s [V])) := row_read (World.ownsRow_lit (base := 0) X #[.int .u32 V] 1 (Nat.zero_le _) (by unfold maxLen; omega) rfl)
              have LB : Hid ((X.alloc (.cells #[.int .u32 V] 24)).heap[b]? = _) := keepB MVX.out.blk _
              have hbg := MVX.out.ne
              go_wp2_with (at_builtin; refine wpList_append_lies _ rfl _ _ _ rfl 0 24 i0 _ 1 4 Tryz.underlying22 hi hz0 hz1 hz2 rfl (by omega) _ wl.length _ rfl (ROW.out.alloc _) ⟨X.heap.size, 0, none⟩ 1 1 (u32s [V]) rfl rfl NW.out (u32s_one _) (by omega) (by unfold maxLen; omega) (by omega) (Nat.zero_le _) (X.heap.size + 1) (by simp) ?_; intro g' q' w6 hown hgrow hat hlt6; obtain ⟨m1, m2⟩ := blk (grow_keep hgrow LB.out (by simp [Value.ownBlock, go_sem]; omega)))
              have hown2 : w6.ownsRow 0 24 1 (.slice (some ⟨g', 0, none⟩) (wl.length + 1) q') (wl.length + 1) (u32s (wl ++ [V])) := by
                have : u32s (wl ++ [V]) = u32s wl ++ u32s [V] := by simp [u32s]
                rw [this]; exact hown
              have G := (MVX.out.keep ((Ext.refl _).alloc _)).grew (ws' := wl ++ [V]) (by simp) hown2 hgrow
              have HX : Hid (g' = g0 ∨ W.heap.size ≤ g') := by
                have hw0 := F4.out
                rcases hat with h1 | h1
                · have : g = g' := by simpa [Value.ownBlock, go_sem] using h1
                  subst this; exact hw0
                · exact .inr (by omega)
              have MX := Lib.hid (MDX.out.via ((((Ext.refl _).alloc _).mod _).trans G.2) (by
                intro x hx
                have hw0 := F4.out
                simp only [List.mem_cons, List.not_mem_nil, or_false] at hx ⊢
                omega))
              have GX := Lib.hid G.1
              clear hown hown2 hgrow hat G
              refine ⟨⟨k + 1, ?_⟩, ?_⟩
              · refine ⟨by omega, by go_num, g', q', ?_, MX.out, HX.out⟩
                rw [PS2.out, CS2.out, show cl + ((cn + 1 : Nat) : Int) = cl + (cn : Int) + 1 by omega, ← List.append_assoc, HWL.out]; exact GX.out
              · simp [intOf]; omega
      · obtain rfl : k = S := by omega
        go_wp2
        go_end0
        refine ⟨rfl, g, q, F1.out, ?_, ?_⟩
        · exact (XE.out.mod _).trans F2.out
        · rcases F4.out with h1 | h1
          · exact .inl h1
          · exact .inr (by omega)

end Go.Proofs.Eff
