/- The program's Session. -/
import Derived.Test.YtaggadjiefgpoaaGreatDoorSy42
import Derived.Test.YtaggadjiefgpoaaGreatDoorSy43
import Derived.Test.YtaggadjiefgpoaaGreatDoorSy35
import Derived.Deep.CutBlock
namespace Go.Proofs.Eff
open Go.RowKit

theorem ModHi.extLow {a w w' : World} {base : Nat} (h : ModHi base w w') (hx : Ext a w) (hb : a.heap.size ≤ base) : Ext a w' := by
  obtain ⟨S, hs, hm⟩ := h
  exact hx.off hm (fun x hx => Nat.le_trans hb (hs x hx))
theorem ModHi.keep {w w' : World} {base g : Nat} {o : Obj} (h : ModHi base w w') (hg : w.heap[g]? = some o) (hb : g < base) : w'.heap[g]? = some o := by
  obtain ⟨S, hs, hm⟩ := h
  exact hm.keep hg (fun hx => by have := hs g hx; omega)
theorem setTwoS {w : World} {b : Nat} {u v : Value} {T : TypeId} (h : w.heap[b]? = some (.cells #[u, v] T)) (x y : Value) : ((w.setCell ⟨b, 0, none⟩ x).setCell ⟨b, 1, none⟩ y).heap[b]? = some (.cells #[x, y] T) := setB (setB h _) _
/-- The program's session between two frames. -/
def SesI (w : World) (base sb rb : Nat) (s : Mon) (wr : World) : Prop :=
  (∃ mb ka ra rc kc d rs, SesAt wr base sb rb mb ka ra rc kc d rs s) ∧ Ext w wr ∧ base ≤ wr.heap.size ∧ wr.heap[w.heap.size]? = some (.cells #[.int .i64 0, .int .i64 0] 51)
theorem SesI.extd {w wr w' : World} {base sb rb : Nat} {s : Mon} (h : SesI w base sb rb s wr) (hx : Ext wr w') : SesI w base sb rb s w' := by
  obtain ⟨⟨mb, ka, ra, rc, kc, d, rs, h1⟩, h2, h3, h4⟩ := h
  exact ⟨⟨mb, ka, ra, rc, kc, d, rs, h1.ext hx⟩, h2.trans hx, Nat.le_trans h3 hx.size, hx.keep h4⟩
theorem SesI.hi {w wr w' : World} {base sb rb : Nat} {s s' : Mon} (h : SesI w base sb rb s wr) (hm : ModHi base wr w') (hb : w.heap.size < base) (hs : ∃ mb ka ra rc kc d rs, SesAt w' base sb rb mb ka ra rc kc d rs s') : SesI w base sb rb s' w' := by
  obtain ⟨_, h2, h3, h4⟩ := h
  exact ⟨hs, hm.extLow h2 (Nat.le_of_lt hb), Nat.le_trans h3 hm.size, hm.keep h4 hb⟩
set_option maxRecDepth 100000 in
set_option maxHeartbeats 8000000 in
theorem Session36 {w : World} {ad : Option Addr} {c : Nat} {l : List Psx} (h : PsdsAt w w.heap.size ad l) (hn : l.length ≤ 1048576) :
    Calls Tryz.prog 36 #[.slice ad l.length c] w (FindR w ((sessG {} 0 (l.map (·.1))).1, ((sessG {} 0 (l.map (·.1))).2 : Int))) := by
  have H := Lib.hid h
  obtain ⟨r, hr⟩ : ∃ r, sessG {} 0 (l.map (·.1)) = r := ⟨_, rfl⟩
  rw [hr]
  have HR := Lib.hid hr
  have hmm := @run_makeMap Tryz.prog
  clear h hr
  go_enter Tryz.func36, Tryz.ntmps36
  go_wp2_with (go_at_call 94; (refine (NewReader94 _).mono ?_; rintro e w1 ⟨rfl, rfl⟩))
  have I0 : Hid (SesI w (w.heap.size + 1) (w.heap.size + 1 + 1 + 1) (w.heap.size + 1) {} ((((w.alloc (.cells #[.int .i64 0, .int .i64 0] 51)).alloc (.cells #[.bool true, .slice none 0 0, .int .i64 0] 249)).alloc (.map #[] 0)).alloc (.cells #[.pointer (some ⟨w.heap.size + 1, 0, none⟩), .int .u64 0, .int .u64 0, .slice none 0 0, .map (some (w.heap.size + 1 + 1)), .int .u64 0] 198))) := by
    have hx : Ext w ((((w.alloc (.cells #[.int .i64 0, .int .i64 0] 51)).alloc (.cells #[.bool true, .slice none 0 0, .int .i64 0] 249)).alloc (.map #[] 0)).alloc (.cells #[.pointer (some ⟨w.heap.size + 1, 0, none⟩), .int .u64 0, .int .u64 0, .slice none 0 0, .map (some (w.heap.size + 1 + 1)), .int .u64 0] 198)) := ((((Ext.refl w).alloc _).alloc _).alloc _).alloc _
    refine ⟨⟨w.heap.size + 1 + 1, none, none, 0, 0, 0, [], ⟨newB _ _ _ (by first | rfl | simp), keepB (keepB (newB _ _ _ (by first | rfl | simp)) _) _, rfl, ⟨rfl, .inl ⟨rfl, rfl⟩⟩, (fun y hy => by cases hy), ⟨rfl, .inl ⟨rfl, rfl⟩⟩, (fun y hy => by cases hy), (fun y hy => by cases hy), ⟨[], (MapAt.new ((w.alloc (.cells #[.int .i64 0, .int .i64 0] 51)).alloc (.cells #[.bool true, .slice none 0 0, .int .i64 0] 249)) _ (by simp) .u64).keep ((Ext.refl _).alloc _), AskN.nil⟩, ⟨by omega, by omega, by omega⟩⟩⟩, hx, by simp <;> omega, keepB (keepB (keepB (newB _ _ _ rfl) _) _) _⟩
  generalize ((((w.alloc (.cells #[.int .i64 0, .int .i64 0] 51)).alloc (.cells #[.bool true, .slice none 0 0, .int .i64 0] 249)).alloc (.map #[] 0)).alloc (.cells #[.pointer (some ⟨w.heap.size + 1, 0, none⟩), .int .u64 0, .int .u64 0, .slice none 0 0, .map (some (w.heap.size + 1 + 1)), .int .u64 0] 198)) = w4 at *
  obtain ⟨rsb, hrs⟩ : ∃ n, n = w.heap.size := ⟨_, rfl⟩
  rw [← hrs] at I0
  rw [← hrs]
  obtain ⟨base, hbs⟩ : ∃ n, n = rsb + 1 := ⟨_, rfl⟩
  obtain ⟨mb0, hmb0⟩ : ∃ n, n = rsb + 1 + 1 := ⟨_, rfl⟩
  obtain ⟨sb, hsb⟩ : ∃ n, n = rsb + 1 + 1 + 1 := ⟨_, rfl⟩
  rw [← hsb, ← hbs] at I0
  rw [← hsb, ← hmb0, ← hbs]
  have HRS := Lib.hid hrs
  have HBS : Hid (w.heap.size < base) := by show _ < _; omega
  clear hsb hmb0 hrs hbs hmm
  go_loopw [13] (fun i wr => ∃ (k : Nat) (s : Mon), k ≤ l.length ∧ i = .int .i64 k ∧ SesI w base sb base s wr ∧ MonB s k ∧ sessG s k ((l.drop k).map (·.1)) = r) (fun i _ => l.length - (intOf i).toNat)
  case atStart => exact ⟨0, {}, Nat.zero_le _, rfl, I0.out, MonB.start, HR.out⟩
  case round =>
    obtain ⟨k, s, hk, rfl, hI, hB, hG⟩ := hrel
    have I := Lib.hid hI
    have MB := Lib.hid hB
    have SG := Lib.hid hG
    have RES : Hid (wr.heap[rsb]? = some (.cells #[.int .i64 0, .int .i64 0] 51)) := by show _ = _; rw [HRS.out]; exact hI.2.2.2
    clear hI hB hG
    by_cases hlt : k < l.length
    · obtain ⟨x, hx⟩ : ∃ x, l[k]? = some x := ⟨l[k], by simp [hlt]⟩
      have PA := Lib.hid (H.out.ext I.out.2.1 (Nat.le_refl _))
      obtain ⟨g, off, rfl, hg1, hcells⟩ := PA.out.row (by omega)
      obtain ⟨c0, c1, c2⟩ := hcells k x hx
      obtain ⟨hbu, hbl⟩ := PA.out.each x (List.mem_of_getElem? hx)
      have ST := Lib.hid (sess_step (s := s) hx)
      have BUX := Lib.hid hbu
      have hwsz := I.out.2.1.size
      have hki : (k : Int) < (l.length : Int) := by omega
      have hgw : g < wr.heap.size := by omega
      clear hcells hbu hx
      obtain ⟨⟨po, pc, pb⟩, pa, pcap⟩ := x
      simp only at c0 c1 c2 hbl
      go_upto_region 8 with fail
      have XA := (Ext.refl wr).alloc (.cells #[.bool po, .bool pc, .slice pa pb.length pcap] 101)
      have NB := Lib.hid (newB wr (.cells #[.bool po, .bool pc, .slice pa pb.length pcap] 101) _ rfl)
      have IB := Lib.hid (I.out.extd XA)
      have BB := Lib.hid (BUX.out.ext XA hwsz)
      have RB := Lib.hid (XA.keep RES.out)
      have hwz2 := Nat.le_trans hwsz XA.size
      clear XA c0 c1 c2 hgw
      generalize wr.heap.size = xb at *
      generalize wr.alloc (.cells #[.bool po, .bool pc, .slice pa pb.length pcap] 101) = w5 at *
      obtain ⟨b3, b4⟩ := blk NB.out
      obtain ⟨⟨mb, ka, ra, rc, kc, d, rs, hS⟩, hE5, hb5, _⟩ := IB.out
      have SA := Lib.hid hS
      obtain ⟨b1, b2⟩ := blk hS.ses
      have hmr := MB.out.rep
      have hev0 := MB.out.ev0
      have hev1 := MB.out.ev1
      have hask := MB.out.ask
      have hkp := MB.out.kept
      have hT : w.heap.size ≤ base := Nat.le_of_lt HBS.out
      clear hS
      cases pc with
      | true =>
        have RS := Lib.hid (Reset95 SA.out.rd)
        have G2 : Hid (sessG { s with kept := [] } (k + 1) ((l.drop (k + 1)).map (·.1)) = r) := by
          show _ = _
          have := ST.out
          rw [SG.out] at this
          exact this.symm
        go_wp2_with (go_at_call 95; (refine RS.out.mono ?_; rintro e w6 ⟨rfl, hm6, d6, hb6⟩; have hm7 := hm6.mono (S' := base :: (ka.map (·.block)).toList) (by simp); have I6 := Lib.hid (IB.out.hi (SA.out.fed_hi hm7) HBS.out ⟨mb, none, ra, rc, 0, d6, rs, SA.out.fed (l := []) hm7 hb6 ⟨rfl, .inl ⟨rfl, rfl⟩⟩ (fun y hy => by cases hy) hb5⟩); clear hm6 hb6 hm7))
        go_roundw
        case rel => exact ⟨k + 1, _, by omega, by go_num, I6.out, MB.out.cut, G2.out⟩
        case measure => simp [intOf]; omega
      | false =>
        cases po with
        | false =>
          have IN := Lib.hid (In96 (chunk := pb) SA.out BB.out hT hb5 (by omega) (by omega))
          have G2 : Hid (sessG (monIn { s with kept := (scanP (s.kept ++ pb)).2 } (scanP (s.kept ++ pb)).1) (k + 1) ((l.drop (k + 1)).map (·.1)) = r) := by
            show _ = _
            have h9 := ST.out
            rw [SG.out] at h9
            rw [h9]
            simp
          have M2 := Lib.hid (MB.out.in hbl)
          go_wp2_with (go_at_call 96; (refine IN.out.mono ?_; rintro e w6 ⟨rfl, hm6, ka6, kc6, d6, hs6⟩; have I6 := Lib.hid (IB.out.hi hm6 HBS.out ⟨mb, ka6, ra, rc, kc6, d6, rs, hs6⟩); clear hm6 hs6))
          go_roundw
          case rel => exact ⟨k + 1, _, by omega, by go_num, I6.out, M2.out, G2.out⟩
          case measure => simp [intOf]; omega
        | true =>
          have OU := Lib.hid (Out97 (b := pb) SA.out hb5 (by omega) hev0 (by omega) (by omega) BB.out hwz2)
          by_cases hK : monKind s pb = 0
          · have hKb : (monKind s pb != 0) = false := by simp [hK]
            have HK := Lib.hid hK
            have G2 : Hid (sessG (monNext s pb) (k + 1) ((l.drop (k + 1)).map (·.1)) = r) := by
              show _ = _
              have h9 := ST.out
              rw [SG.out] at h9
              rw [h9]
              simp [hK]
            have M2 := Lib.hid (MB.out.next pb)
            clear hK
            go_wp2_with (go_at_call 97; (refine OU.out.mono ?_; rintro e w6 ⟨rfl, hm6, hs6⟩; obtain ⟨mb6, ra6, rc6, rs6, hs7⟩ := hs6 HK.out; have I6 := Lib.hid (IB.out.hi hm6 HBS.out ⟨mb6, ka, ra6, rc6, kc, d, rs6, hs7⟩); clear hm6 hs6 hs7))
            go_roundw
            case rel => exact ⟨k + 1, _, by omega, by go_num, I6.out, M2.out, G2.out⟩
            case measure => simp [intOf]; omega
          · have hKb : (monKind s pb != 0) = true := by simp [hK]
            have KK : Hid (r = (monKind s pb, k)) := by
              show _ = _
              have h9 := ST.out
              rw [SG.out] at h9
              rw [h9]
              simp [hK]
            clear hK
            generalize monNext s pb = s2 at *
            generalize monKind s pb = K at *
            go_wp2_with (go_at_call 97; (refine OU.out.mono ?_; rintro e w6 ⟨rfl, hm6, _⟩; have E6 := Lib.hid (hm6.extLow hE5 hT); have R6 : Hid (w6.heap[rsb]? = some (.cells #[.int .i64 0, .int .i64 0] 51)) := (by have h8 := hm6.keep RB.out (by have := HRS.out; have := HBS.out; omega); exact h8); obtain ⟨y1, y2⟩ := blk R6.out; clear hm6))
            have hZ := setTwoS R6.out (.int .i64 K) (.int .i64 (k : Int))
            have XF : Ext w ((w6.setCell ⟨rsb, 0, none⟩ (.int .i64 K)).setCell ⟨rsb, 1, none⟩ (.int .i64 (k : Int))) := (Ext.setCell (E6.out) (p := ⟨rsb, 0, none⟩) (Nat.le_of_eq HRS.out.symm) _).setCell (p := ⟨rsb, 1, none⟩) (Nat.le_of_eq HRS.out.symm) _
            generalize (w6.setCell ⟨rsb, 0, none⟩ (.int .i64 K)).setCell ⟨rsb, 1, none⟩ (.int .i64 (k : Int)) = Z at *
            obtain ⟨z1, z2⟩ := blk hZ
            refine bodyPost_ret (v := .agg #[.int .i64 K, .int .i64 (k : Int)]) (by simp [results, Tryz.results36, go_sem, z1]) rfl ⟨by first | (rw [KK.out]; rfl) | rw [KK.out], XF⟩
    · obtain rfl : k = l.length := by omega
      have RK : Hid (r = (0, 0)) := by
        have := SG.out; rw [sess_end _ _ _ (Nat.le_refl _)] at this; exact this.symm
      obtain ⟨y1, y2⟩ := blk RES.out
      go_wp2
      have hZ := setTwoS RES.out (.int .i64 0) (.int .i64 0)
      have XF : Ext w ((wr.setCell ⟨rsb, 0, none⟩ (.int .i64 0)).setCell ⟨rsb, 1, none⟩ (.int .i64 0)) := (Ext.setCell (I.out.2.1) (p := ⟨rsb, 0, none⟩) (Nat.le_of_eq HRS.out.symm) _).setCell (p := ⟨rsb, 1, none⟩) (Nat.le_of_eq HRS.out.symm) _
      generalize (wr.setCell ⟨rsb, 0, none⟩ (.int .i64 0)).setCell ⟨rsb, 1, none⟩ (.int .i64 0) = Z at *
      obtain ⟨z1, z2⟩ := blk hZ
      refine bodyPost_ret (v := .agg #[.int .i64 0, .int .i64 0]) (by simp [results, Tryz.results36, go_sem, z1]) rfl ⟨by first | (rw [RK.out]; rfl) | rw [RK.out], XF⟩
end Go.Proofs.Eff
