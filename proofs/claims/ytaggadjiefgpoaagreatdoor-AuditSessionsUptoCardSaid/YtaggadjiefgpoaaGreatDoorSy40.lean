/- The document's watch takes packets. -/
import Derived.Test.YtaggadjiefgpoaaGreatDoorSy38
import Derived.Test.YtaggadjiefgpoaaGreatDoorSy29
import Derived.BigRegion
namespace Go.Proofs.Eff
open Go.RowKit

/-- A packet's cells. -/
theorem pk_cells {w : World} {base n g c : Nat} {ps : List Pk} (h : w.ownsRow base 211 5 (.slice (some ⟨g, 0, none⟩) n c) n (pksC ps)) {k : Nat} {x : Pk} (hx : ps[k]? = some x) :
    w.cell? ⟨g, k * 5, none⟩ = some (.int .i64 x.1.kind) ∧ w.cell? ⟨g, k * 5 + 1, none⟩ = some (.int .u64 x.1.tok) ∧ w.cell? ⟨g, k * 5 + 2, none⟩ = some (.int .u64 x.1.seq) ∧ w.cell? ⟨g, k * 5 + 3, none⟩ = some (.int .u64 x.1.ack) ∧ w.cell? ⟨g, k * 5 + 4, none⟩ = some (.slice x.2.1 x.1.body.length x.2.2) := by
  have key : ∀ j, j < 5 → w.cell? ⟨g, k * 5 + j, none⟩ = (pkC x)[j]? := fun j hj => by
    have h1 := pksC_get hx j hj
    obtain ⟨u, hu⟩ : ∃ u, (pkC x)[j]? = some u := ⟨(pkC x)[j], List.getElem?_eq_getElem (by simp [pkC]; omega)⟩
    rw [hu] at h1 ⊢
    have h2 := h.cells rfl _ _ h1
    rw [Addr.add_lit, Nat.zero_add] at h2
    exact h2
  exact ⟨key 0 (by omega), key 1 (by omega), key 2 (by omega), key 3 (by omega), key 4 (by omega)⟩
set_option maxRecDepth 100000 in
set_option maxHeartbeats 4000000 in
theorem In100 {w : World} {wb base : Nat} {rv av : Option Nat} {s : Mon} {v : Value} {ps : List Pk} (h : WatchAt w wb rv av s) (hp : PksAt w base v ps) (hb : wb < base) (hm : ∀ a, av = some a → a < base) (hn : ps.length ≤ 1099511627776) :
    Calls Tryz.prog 100 #[.pointer (some ⟨wb, 0, none⟩), v] w fun e w' => e = .returned (.tuple #[]) ∧ Mod (wb :: av.toList) w w' ∧ WatchAt w' wb rv av (monIn s (ps.map (·.1))) := by
  obtain ⟨pa, pc, rfl, hpa⟩ := own_any hp.row
  have H0 := Lib.hid h
  have HP := Lib.hid hp.row
  have HA := Lib.hid hpa
  have HM := Lib.hid hm
  clear h hp hpa hm
  go_enter Tryz.func100, Tryz.ntmps100
  go_wp2_with fail
  go_loopw [4] (fun i wr => ∃ k : Nat, k ≤ ps.length ∧ i = .int .i64 k ∧ Mod (wb :: av.toList) w wr ∧ WatchAt wr wb rv av (monIn s ((ps.take k).map (·.1)))) (fun i _ => ps.length - (intOf i).toNat)
  case atStart => exact ⟨0, Nat.zero_le _, rfl, Mod.refl _ _, H0.out⟩
  case round =>
    obtain ⟨k, hk, rfl, hM, hW⟩ := hrel
    have M := Lib.hid hM
    have W := Lib.hid hW
    by_cases hlt : k < ps.length
    · obtain ⟨x, hx⟩ : ∃ x, ps[k]? = some x := ⟨ps[k], by simp [hlt]⟩
      obtain ⟨g, rfl, hg1, hg2⟩ := HA.out (by omega)
      have ROW := Lib.hid (hM.row HP.out (fun q hq hmem => by
        cases hq
        rcases List.mem_cons.1 hmem with h7 | h7
        · have h8 : g = wb := h7; omega
        · have := HM.out g (by simpa using h7); omega))
      obtain ⟨p0, p1, p2, _, _⟩ := pk_cells ROW.out hx
      have SN : Hid (monIn s ((ps.take (k + 1)).map (·.1)) = monIn1 (monIn s ((ps.take k).map (·.1))) x.1) := by
        show _ = _
        rw [List.take_add_one, hx]
        simp [monIn_snoc]
      obtain ⟨ap, ev, hbk, hmaps⟩ := hW
      have HBK := Lib.hid hbk
      have HMP := Lib.hid hmaps
      obtain ⟨b1, b2⟩ := blk hbk
      generalize monIn s ((ps.take k).map (·.1)) = s1 at *
      have hki : (k : Int) < (ps.length : Int) := by omega
      have HX := Lib.hid hx
      clear hM hbk hmaps hx
      go_upto_region 3 with fail
      by_cases ht : s1.tok = 0
      · have htb : (s1.tok == 0) = true := by simp [ht]
        have S1 : Hid (monIn1 s1 x.1 = s1) := by show _ = _; unfold monIn1; rw [if_pos (.inl ht)]
        clear ht
        go_quiet (fail)
        go_wp2
        go_roundw
        case rel => exact ⟨k + 1, by omega, by go_num, M.out.ext ((Ext.refl _).drewN _), by rw [SN.out, S1.out]; exact W.out.ext ((Ext.refl _).drewN _)⟩
        case measure => simp [intOf]; omega
      · by_cases hq : x.1.tok = s1.tok
        · have htb : (s1.tok == 0) = false := by simp [ht]
          have hqb : (x.1.tok != s1.tok) = false := by simp [hq]
          have S1 : Hid (monIn1 s1 x.1 = if x.1.kind = 3 then { s1 with asked := x.1.seq :: s1.asked } else if x.1.kind = 7 then { s1 with tok := 0 } else s1) := by
            show _ = _
            unfold monIn1
            rw [if_neg (fun h => h.elim ht (fun h => h hq))]
          obtain ⟨rfl, rfl, rm, am, lr, la, rfl, rfl, hmr, hma, hR, hA, hne⟩ := HMP.out ht
          have MR := Lib.hid hmr
          have MA := Lib.hid hma
          have RR := Lib.hid hR
          have AA := Lib.hid hA
          clear ht hq hmr hma hR hA HMP
          go_quiet (fail)
          have X := (Ext.refl wr).drewN nq
          have Mq := Lib.hid (M.out.ext X)
          have Wq := Lib.hid (W.out.ext X)
          have Bq := Lib.hid (X.keep HBK.out)
          have MRq := Lib.hid (MR.out.keep X)
          have MAq := Lib.hid (MA.out.keep X)
          obtain ⟨p0, p1, p2, _, _⟩ := pk_cells (row_keep ROW.out X) (show ps[k]? = some x from HX.out)
          clear M W HBK MR MA ROW X b1 b2
          generalize wr.drewN nq = wq at *
          obtain ⟨b1, b2⟩ := blk Bq.out
          by_cases h3 : x.1.kind = 3
          · have h3b : (x.1.kind == 3) = true := by simp [h3]
            have S2 : Hid (monIn1 s1 x.1 = { s1 with asked := x.1.seq :: s1.asked }) := by show _ = _; rw [S1.out, if_pos h3]
            obtain ⟨w3, hup, hm3, hmod3⟩ := run_mapUpdate_int (P := Tryz.prog) wq.drew Tryz.underlying203 Tryz.underlying55 (MAq.out.keep (Ext.refl _).drew) x.1.seq (.bool true)
            have hmod4 : Mod [am] wq w3 := ((Ext.refl wq).drew.mod [am]).trans hmod3
            have W3 : Hid (WatchAt w3 wb (some rm) (some am) { s1 with asked := x.1.seq :: s1.asked }) :=
              ⟨_, _, hmod4.keep Bq.out (by have := MAq.out.ne_cells Bq.out; simpa using this), fun _ => ⟨rfl, rfl, rm, am, lr, _, rfl, rfl, MRq.out.mod hmod4 (by simpa using hne), hm3, RR.out, AA.out.put _, hne⟩⟩
            have M3 := Lib.hid (Mq.out.trans (hmod4.mono (by simp)))
            clear hm3 hmod3 hmod4 h3
            go_wp2
            go_region
            go_wp2
            go_roundw
            case rel => exact ⟨k + 1, by omega, by go_num, M3.out, by rw [SN.out, S2.out]; exact W3.out⟩
            case measure => simp [intOf]; omega
          · have h3b : (x.1.kind == 3) = false := by simp [h3]
            by_cases h7 : x.1.kind = 7
            · have h7b : (x.1.kind == 7) = true := by simp [h7]
              have S2 : Hid (monIn1 s1 x.1 = { s1 with tok := 0 }) := by show _ = _; rw [S1.out, if_neg h3, if_pos h7]
              have M3 := Lib.hid (Mq.out.trans ((mod_setCell wq ⟨wb, 0, none⟩ (.int .u64 0)).mono (S' := wb :: (some am).toList) (by simp)))
              have W3 : Hid (WatchAt (wq.setCell ⟨wb, 0, none⟩ (.int .u64 0)) wb (some rm) (some am) { s1 with tok := 0 }) := ⟨_, _, setB Bq.out _, fun h => absurd rfl h⟩
              clear h3 h7
              go_wp2
              go_roundw
              case rel => exact ⟨k + 1, by omega, by go_num, M3.out, by rw [SN.out, S2.out]; exact W3.out⟩
              case measure => simp [intOf]; omega
            · have h7b : (x.1.kind == 7) = false := by simp [h7]
              have S2 : Hid (monIn1 s1 x.1 = s1) := by show _ = _; rw [S1.out, if_neg h3, if_neg h7]
              clear h3 h7
              go_wp2
              go_roundw
              case rel => exact ⟨k + 1, by omega, by go_num, Mq.out, by rw [SN.out, S2.out]; exact Wq.out⟩
              case measure => simp [intOf]; omega
        · have htb : (s1.tok == 0) = false := by simp [ht]
          have hqb : (x.1.tok != s1.tok) = true := by simp [hq]
          have S1 : Hid (monIn1 s1 x.1 = s1) := by show _ = _; unfold monIn1; rw [if_pos (.inr hq)]
          clear ht hq
          go_quiet (fail)
          go_wp2
          go_roundw
          case rel => exact ⟨k + 1, by omega, by go_num, M.out.ext ((Ext.refl _).drewN _), by rw [SN.out, S1.out]; exact W.out.ext ((Ext.refl _).drewN _)⟩
          case measure => simp [intOf]; omega
    · obtain rfl : k = ps.length := by omega
      have W2 := W.out
      rw [List.take_length] at W2
      clear hM
      go_wp2
      go_end0
      exact ⟨rfl, M.out, W2⟩
end Go.Proofs.Eff
