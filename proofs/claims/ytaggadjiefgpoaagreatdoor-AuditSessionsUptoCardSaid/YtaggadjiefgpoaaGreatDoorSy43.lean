/- The program's session takes a chunk. -/
import Derived.Test.YtaggadjiefgpoaaGreatDoorSy39
import Derived.Test.YtaggadjiefgpoaaGreatDoorSy40
import Derived.Test.YtaggadjiefgpoaaGreatDoorSy41
import Derived.Test.YtaggadjiefgpoaaGreatDoorSy26
namespace Go.Proofs.Eff
open Go.RowKit

set_option maxRecDepth 100000 in
set_option maxHeartbeats 4000000 in
theorem In96 {w : World} {base sb rb mb top cc rc kc : Nat} {ka ra ca : Option Addr} {d : Int} {rs : List Rp} {s : Mon} {chunk : List Int} (h : SesAt w base sb rb mb ka ra rc kc d rs s) (hc : BU w top ca cc chunk) (ht : top ≤ base) (hbs : base ≤ w.heap.size) (hn : s.kept.length + chunk.length ≤ 1099511627776) (hask : s.asked.length ≤ 1152921504606846976) :
    Calls Tryz.prog 96 #[.pointer (some ⟨sb, 0, none⟩), .slice ca chunk.length cc] w fun e w' => e = .returned (.tuple #[]) ∧ ModHi base w w' ∧ ∃ ka' kc' d', SesAt w' base sb rb mb ka' ra rc kc' d' rs (monIn { s with kept := (scanP (s.kept ++ chunk)).2 } (scanP (s.kept ++ chunk)).1) := by
  have H0 := Lib.hid h
  have FD := Lib.hid (Feed138 h.rd h.krow h.ku8 hc ht hbs hn)
  obtain ⟨b1, b2⟩ := blk h.ses
  have hsl := lt_of_block h.ses
  have hml : mb < w.heap.size := by obtain ⟨la, h7, _⟩ := h.map; exact h7.lt
  have hlow := h.low
  have hmany := scanP_many (s.kept ++ chunk)
  rw [List.length_append] at hmany
  obtain ⟨s0, hs0⟩ : ∃ s0, s0 = ({ s with kept := (scanP (s.kept ++ chunk)).2 } : Mon) := ⟨_, rfl⟩
  have HS0 := Lib.hid hs0
  clear h hc hs0
  go_enter Tryz.func96, Tryz.ntmps96
  go_wp2_with (go_at_call 138; (refine FD.out.mono ?_; rintro e w1 ⟨v, ps, ka1, kc1, d1, rfl, hm, hb, hr, hu, hP, hps⟩; have hlen : ps.length ≤ 1099511627776 := (by rw [← hps, List.length_map] at hmany; omega); obtain ⟨pa, pc, rfl, hpa⟩ := own_any hP.row; have HI1 := Lib.hid (H0.out.fed_hi hm); have hs1 := H0.out.fed hm hb hr hu hbs; rw [← HS0.out] at hs1; have S1 := Lib.hid hs1; have HP := Lib.hid hP.row; have HA := Lib.hid hpa; have HPS := Lib.hid hps; have W1 := Lib.hid hm.size; clear hm hb hr hu hP hps hpa b1 b2 hs1))
  clear FD hmany
  have AS : Hid (s0.asked.length ≤ 1152921504606846976) := by show _ ≤ _; rw [HS0.out]; exact hask
  go_loopw [13] (fun i wr => ∃ k : Nat, k ≤ ps.length ∧ i = .int .i64 k ∧ ModHi base w wr ∧ SesAt wr base sb rb mb ka1 ra rc kc1 d1 rs (monIn s0 ((ps.take k).map (·.1))) ∧ wr.ownsRow w.heap.size 211 5 (.slice pa ps.length pc) ps.length (pksC ps)) (fun i _ => ps.length - (intOf i).toNat)
  case atStart => exact ⟨0, Nat.zero_le _, rfl, HI1.out, S1.out, HP.out⟩
  case round =>
    obtain ⟨k, hk, rfl, hM, hS, hR⟩ := hrel
    have M := Lib.hid hM
    have SA := Lib.hid hS
    have ROW := Lib.hid hR
    by_cases hlt : k < ps.length
    · obtain ⟨x, hx⟩ : ∃ x, ps[k]? = some x := ⟨ps[k], by simp [hlt]⟩
      obtain ⟨g, rfl, hg1, hg2⟩ := HA.out (by omega)
      obtain ⟨p0, p1, p2, p3, p4⟩ := pk_cells hR hx
      have SN : Hid (monIn s0 ((ps.take (k + 1)).map (·.1)) = monIn1 (monIn s0 ((ps.take k).map (·.1))) x.1) := by
        show _ = _
        rw [List.take_add_one, hx]
        simp [monIn_snoc]
      have hka : (monIn s0 ((ps.take k).map (·.1))).asked.length ≤ 2305843009213693952 := by
        have h7 := (monIn_same s0 ((ps.take k).map (·.1))).2.2.2.2
        rw [List.length_map, List.length_take] at h7
        have := AS.out
        omega
      have HBK := Lib.hid hS.ses
      generalize monIn s0 ((ps.take k).map (·.1)) = s1 at *
      have hki : (k : Int) < (ps.length : Int) := by omega
      clear hM hS hR hx
      go_upto_region 3 with fail
      have X0 := (Ext.refl wr).alloc (.cells #[.int .i64 x.1.kind, .int .u64 x.1.tok, .int .u64 x.1.seq, .int .u64 x.1.ack, .slice x.2.1 x.1.body.length x.2.2] 211)
      have NB := Lib.hid (newB wr (.cells #[.int .i64 x.1.kind, .int .u64 x.1.tok, .int .u64 x.1.seq, .int .u64 x.1.ack, .slice x.2.1 x.1.body.length x.2.2] 211) _ rfl)
      have SB := Lib.hid (SA.out.ext X0)
      have MB := Lib.hid (M.out.trans (.of_ext X0))
      have RB := Lib.hid (row_keep ROW.out X0)
      have HB2 := Lib.hid (X0.keep HBK.out)
      clear SA M ROW HBK p0 p1 p2 p3 p4 X0
      generalize wr.heap.size = xb at *
      generalize wr.alloc (.cells #[.int .i64 x.1.kind, .int .u64 x.1.tok, .int .u64 x.1.seq, .int .u64 x.1.ack, .slice x.2.1 x.1.body.length x.2.2] 211) = w2 at *
      obtain ⟨b1, b2⟩ := blk HB2.out
      obtain ⟨b3, b4⟩ := blk NB.out
      by_cases ht : s1.tok = 0
      · have htb : (s1.tok == 0) = true := by simp [ht]
        have S3 : Hid (monIn1 s1 x.1 = s1) := by show _ = _; unfold monIn1; rw [if_pos (.inl ht)]
        clear ht
        go_quiet (fail)
        go_wp2
        go_roundw
        case rel => exact ⟨k + 1, by omega, by go_num, MB.out.trans (.of_ext ((Ext.refl _).drewN _)), by rw [SN.out, S3.out]; exact SB.out.ext ((Ext.refl _).drewN _), row_keep RB.out ((Ext.refl _).drewN _)⟩
        case measure => simp [intOf]; omega
      · by_cases hq : x.1.tok = s1.tok
        · have htb : (s1.tok == 0) = false := by simp [ht]
          have hqb : (x.1.tok != s1.tok) = false := by simp [hq]
          have S3 : Hid (monIn1 s1 x.1 = if x.1.kind = 3 then { s1 with asked := x.1.seq :: s1.asked } else if x.1.kind = 7 then { s1 with tok := 0 } else s1) := by
            show _ = _
            unfold monIn1
            rw [if_neg (fun h => h.elim ht (fun h => h hq))]
          clear ht hq
          go_quiet (fail)
          have X := (Ext.refl w2).drewN nq
          have Mq := Lib.hid (MB.out.trans (.of_ext X))
          have Sq := Lib.hid (SB.out.ext X)
          have Bq := Lib.hid (X.keep HB2.out)
          have Nq := Lib.hid (X.keep NB.out)
          have Rq := Lib.hid (row_keep RB.out X)
          clear MB SB HB2 NB RB X b1 b2 b3 b4
          generalize w2.drewN nq = wq at *
          obtain ⟨b1, b2⟩ := blk Bq.out
          obtain ⟨b3, b4⟩ := blk Nq.out
          by_cases h3 : x.1.kind = 3
          · have h3b : (x.1.kind == 3) = true := by simp [h3]
            have S4 : Hid (monIn1 s1 x.1 = { s1 with asked := x.1.seq :: s1.asked }) := by show _ = _; rw [S3.out, if_pos h3]
            obtain ⟨la, hma, hA⟩ := Sq.out.map
            have hcnt : s1.asked.count x.1.seq ≤ s1.asked.length := List.count_le_length
            have hlk := run_lookup_at (P := Tryz.prog) wq.drew Tryz.underlying195 Tryz.underlying55 (hma.keep (Ext.refl _).drew) (.int .i64 0) zero3 x.1.seq
            rw [hA.get] at hlk
            have hadd : IntKind.i64.wrap ((s1.asked.count x.1.seq : Int) + 1) = (s1.asked.count x.1.seq : Int) + 1 := IntWalk.i64_in _ (by omega)
            obtain ⟨w3, hup, hm3, hmod3⟩ := run_mapUpdate_int (P := Tryz.prog) wq.drew Tryz.underlying195 Tryz.underlying55 (hma.keep (Ext.refl _).drew) x.1.seq (.int .i64 ((s1.asked.count x.1.seq : Int) + 1))
            have hmod4 : Mod [mb] wq w3 := ((Ext.refl wq).drew.mod [mb]).trans hmod3
            have W3 := Lib.hid (Sq.out.asked hmod4 hm3 (hA.put x.1.seq))
            have M3 := Lib.hid (Mq.out.trans (.of_mod hmod4 (by simp only [List.mem_cons, List.not_mem_nil, or_false]; rintro y rfl; exact hlow.2.2)))
            have R3 := Lib.hid (hmod4.row Rq.out (fun q hq hmem => by
              cases hq
              have h8 : g = mb := by simpa using hmem
              omega))
            clear hm3 hmod3 hmod4 h3 hma hA hcnt
            generalize (s1.asked.count x.1.seq : Int) = cn at *
            go_wp2
            go_region
            go_wp2
            go_roundw
            case rel => exact ⟨k + 1, by omega, by go_num, M3.out, by rw [SN.out, S4.out]; exact W3.out, R3.out⟩
            case measure => simp [intOf]; omega
          · have h3b : (x.1.kind == 3) = false := by simp [h3]
            by_cases h7 : x.1.kind = 7
            · have h7b : (x.1.kind == 7) = true := by simp [h7]
              have S4 : Hid (monIn1 s1 x.1 = { s1 with tok := 0 }) := by show _ = _; rw [S3.out, if_neg h3, if_pos h7]
              have m5 := mod_setCell wq ⟨sb, 1, none⟩ (.int .u64 0)
              have M3 := Lib.hid (Mq.out.trans (.of_mod m5 (by simp only [List.mem_cons, List.not_mem_nil, or_false]; rintro y rfl; exact hlow.1)))
              have W3 := Lib.hid (Sq.out.box (s' := { s1 with tok := 0 }) m5 (setB Bq.out _) rfl rfl rfl)
              have R3 := Lib.hid (m5.row Rq.out (fun q hq hmem => by
                cases hq
                have h8 : g = sb := by simpa using hmem
                omega))
              clear h3 h7 m5
              go_wp2
              go_roundw
              case rel => exact ⟨k + 1, by omega, by go_num, M3.out, by rw [SN.out, S4.out]; exact W3.out, R3.out⟩
              case measure => simp [intOf]; omega
            · have h7b : (x.1.kind == 7) = false := by simp [h7]
              have S4 : Hid (monIn1 s1 x.1 = s1) := by show _ = _; rw [S3.out, if_neg h3, if_neg h7]
              clear h3 h7
              go_wp2
              go_roundw
              case rel => exact ⟨k + 1, by omega, by go_num, Mq.out, by rw [SN.out, S4.out]; exact Sq.out, Rq.out⟩
              case measure => simp [intOf]; omega
        · have htb : (s1.tok == 0) = false := by simp [ht]
          have hqb : (x.1.tok != s1.tok) = true := by simp [hq]
          have S3 : Hid (monIn1 s1 x.1 = s1) := by show _ = _; unfold monIn1; rw [if_pos (.inr hq)]
          clear ht hq
          go_quiet (fail)
          go_wp2
          go_roundw
          case rel => exact ⟨k + 1, by omega, by go_num, MB.out.trans (.of_ext ((Ext.refl _).drewN _)), by rw [SN.out, S3.out]; exact SB.out.ext ((Ext.refl _).drewN _), row_keep RB.out ((Ext.refl _).drewN _)⟩
          case measure => simp [intOf]; omega
    · obtain rfl : k = ps.length := by omega
      have S2 := SA.out
      rw [List.take_length] at S2
      clear hM hS hR
      go_wp2
      go_end0
      exact ⟨rfl, M.out, ka1, kc1, d1, by rw [← HPS.out, ← HS0.out]; exact S2⟩
end Go.Proofs.Eff
