/- The program's session: a welcome, an event, a body. -/
import Derived.Test.YtaggadjiefgpoaaGreatDoorSy41
import Derived.Test.YtaggadjiefgpoaaGreatDoorSy32
import Derived.Test.YtaggadjiefgpoaaGreatDoorSy29
import Derived.Test.YtaggadjiefgpoaaGreatDoorSy26
import Derived.Test.YtaggadjiefgpoaaGreatDoorSy38
import Derived.Test.YtaggadjiefgpoaaGreatDoorSy37
import Derived.Test.YtaggadjiefgpoaaGreatDoorSy40
import Derived.BigRegion
import Derived.Deep.CutBlock
import Derived.Deep.AppendLies
import Derived.Deep.RegionLaw
namespace Go.Proofs.Eff
open Go.RowKit

/-- A packet as a value. -/
abbrev pkV (p : Pkt) (a : Option Addr) (c : Nat) : Value := .agg #[.int .i64 p.kind, .int .u64 p.tok, .int .u64 p.seq, .int .u64 p.ack, .slice a p.body.length c]
abbrev pkB (p : Pkt) (a : Option Addr) (c : Nat) : Obj := .cells #[.int .i64 p.kind, .int .u64 p.tok, .int .u64 p.seq, .int .u64 p.ack, .slice a p.body.length c] 211
set_option maxRecDepth 100000 in
set_option maxHeartbeats 1000000 in
theorem body186 {w : World} {top c : Nat} {a : Option Addr} {l : List Int} (k t s q : Int) (h : BU w top a c l) (ht : top ≤ w.heap.size) :
    Calls Tryz.prog 186 #[.agg #[.int .i64 k, .int .u64 t, .int .u64 s, .int .u64 q, .slice a l.length c]] w fun e w' => e = .returned (.bool (replyP l)) ∧ Ext w w' := by
  have X0 := (Ext.refl w).alloc (.cells #[.int .i64 k, .int .u64 t, .int .u64 s, .int .u64 q, .slice a l.length c] 211)
  obtain ⟨b1, b2⟩ := blk (newB w (.cells #[.int .i64 k, .int .u64 t, .int .u64 s, .int .u64 q, .slice a l.length c] 211) _ rfl)
  have GR := Lib.hid (GetReply202 (h.ext X0 ht) (Nat.le_trans ht X0.size))
  have EX := Lib.hid X0
  clear h X0
  go_enter Tryz.func186, Tryz.ntmps186
  go_wp2_with (go_at_call 202; (refine GR.out.mono ?_; rintro e w2 ⟨k2, a2, n2, c2, t2, er, rfl, hE, her⟩; replace EX := Lib.hid (EX.out.trans hE); have HER := Lib.hid her; clear hE her))
  go_ret
  refine ⟨?_, ?_⟩
  · have h7 := HER.out
    cases hr : replyP l with
    | true => rw [hr] at h7; simp [h7.2 rfl]
    | false =>
      rw [hr] at h7
      have : er ≠ 0 := fun e => by have := h7.1 e; cases this
      simp [this]
  · repeat' (first | exact EX.out | exact Ext.refl _ | refine Ext.setCell ?_ (Nat.le_refl _) _ | refine Ext.alloc ?_ _)

/-- What is found of a welcome; what is known behind one. -/
def welK (s : Mon) (p : Pkt) : Int := if p.tok = 0 ∨ (s.tok ≠ 0 ∧ p.tok ≠ s.tok) ∨ (s.tok = 0 ∧ p.tok ≤ s.most) then 21 else if p.seq ≠ 0 then 22 else if p.ack ≠ (if s.tok = 0 then 0 else (s.replies.length : Int)) then 25 else 0
def welN (s : Mon) (p : Pkt) : Mon := if s.tok = 0 then { tok := p.tok, most := p.tok, replies := [], asked := [], events := 0, kept := s.kept } else s
/-- Behind a frame: a kind; where nothing is found, the session as it lies. -/
def FrR (w : World) (base sb rb kc : Nat) (ka : Option Addr) (d : Int) (K : Int) (N : Mon) (e : Ending) (w' : World) : Prop :=
  e = .returned (.int .i64 K) ∧ ModHi base w w' ∧ (K = 0 → ∃ mb ra rc rs, SesAt w' base sb rb mb ka ra rc kc d rs N)
theorem FrR.bad {w w' : World} {base sb rb kc : Nat} {ka : Option Addr} {d : Int} {K k : Int} {N : Mon} (h : K = k) (hk : k ≠ 0) (hm : ModHi base w w') : FrR w base sb rb kc ka d K N (.returned (.int .i64 k)) w' := ⟨by rw [h], hm, fun h0 => absurd (h.symm.trans h0) hk⟩
theorem FrR.good {w w' : World} {base sb rb mb rc kc : Nat} {ka ra : Option Addr} {d : Int} {rs : List Rp} {K : Int} {N : Mon} (h : K = 0) (hm : ModHi base w w') (hs : SesAt w' base sb rb mb ka ra rc kc d rs N) : FrR w base sb rb kc ka d K N (.returned (.int .i64 0)) w' := ⟨by rw [h], hm, fun _ => ⟨mb, ra, rc, rs, hs⟩⟩
theorem SesAt.small {w : World} {base sb rb mb : Nat} {ka ra : Option Addr} {rc kc : Nat} {d : Int} {rs : List Rp} {s : Mon} (h : SesAt w base sb rb mb ka ra rc kc d rs s) : rs.length = s.replies.length := by rw [← h.reps, List.length_map]
set_option maxRecDepth 100000 in
set_option maxHeartbeats 4000000 in
theorem Welcome140 {w : World} {base sb rb mb rc kc : Nat} {ka ra : Option Addr} {d : Int} {rs : List Rp} {s : Mon} (p : Pkt) (a : Option Addr) (c : Nat) (h : SesAt w base sb rb mb ka ra rc kc d rs s) (hbs : base ≤ w.heap.size) (hr : s.replies.length ≤ 1099511627776) :
    Calls Tryz.prog 140 #[.pointer (some ⟨sb, 0, none⟩), pkV p a c] w (FrR w base sb rb kc ka d (welK s p) (welN s p)) := by
  have X0 := (Ext.refl w).alloc (pkB p a c)
  have NB := Lib.hid (newB w (pkB p a c) _ rfl)
  have SA := Lib.hid (h.ext X0)
  have MA : Hid (ModHi base w (w.alloc (pkB p a c))) := .of_ext X0
  have WB : Hid (base ≤ (w.alloc (pkB p a c)).heap.size) := Nat.le_trans hbs X0.size
  have hrl := h.small
  clear h X0 hbs
  go_enter Tryz.func140, Tryz.ntmps140
  go_upto_region 1 with fail
  generalize w.heap.size = xb at *
  generalize w.alloc (pkB p a c) = w1 at *
  have SES := Lib.hid SA.out.ses
  obtain ⟨b1, b2⟩ := blk SES.out
  obtain ⟨b3, b4⟩ := blk NB.out
  have hlow := SA.out.low
  have hne : sb ≠ xb := fun e => by subst e; have h7 := SES.out; rw [NB.out] at h7; simp at h7
  have hne' : xb ≠ sb := hne.symm
  by_cases t0 : p.tok = 0
  · have t0b : (p.tok == 0) = true := by simp [t0]
    have K : Hid (welK s p = 21) := by show _ = _; unfold welK; rw [if_pos (.inl t0)]
    clear t0
    go_quiet (fail)
    go_wp2
    go_ret
    exact FrR.bad K.out (by decide) (MA.out.trans (.of_ext ((Ext.refl _).drewN _)))
  · have t0b : (p.tok == 0) = false := by simp [t0]
    by_cases T0 : s.tok = 0
    · have T0b : (s.tok == 0) = true := by simp [T0]
      have T0c : (s.tok != 0) = false := by simp [T0]
      by_cases tM : p.tok ≤ s.most
      · have tMb : decide (p.tok ≤ s.most) = true := by simp [tM]
        have K : Hid (welK s p = 21) := by show _ = _; unfold welK; rw [if_pos (.inr (.inr ⟨T0, tM⟩))]
        clear t0 T0 tM
        go_quiet (fail)
        go_wp2
        go_ret
        exact FrR.bad K.out (by decide) (MA.out.trans (.of_ext ((Ext.refl _).drewN _)))
      · have tMb : decide (p.tok ≤ s.most) = false := by simp [tM]
        have K : Hid (welK s p = if p.seq ≠ 0 then 22 else if p.ack ≠ 0 then 25 else 0) := by
          show _ = _
          unfold welK
          rw [if_neg (fun h => h.elim t0 (fun h => h.elim (fun h => h.1 T0) (fun h => tM h.2))), if_pos T0]
        have N : Hid (welN s p = { tok := p.tok, most := p.tok, replies := [], asked := [], events := 0, kept := s.kept }) := by show _ = _; unfold welN; rw [if_pos T0]
        clear t0 T0 tM
        go_quiet (fail)
        have X := (Ext.refl w1).drewN nq
        replace SA := Lib.hid (SA.out.ext X)
        replace NB := Lib.hid (X.keep NB.out)
        replace MA := Lib.hid (MA.out.trans (.of_ext X))
        replace WB := Lib.hid (Nat.le_trans WB.out X.size)
        replace SES := Lib.hid (X.keep SES.out)
        clear b1 b2 b3 b4 X
        generalize w1.drewN nq = w2 at *
        obtain ⟨b1, b2⟩ := blk SES.out
        obtain ⟨b3, b4⟩ := blk NB.out
        go_upto_region 4 with fail
        go_region
        have B3 := Lib.hid (((Ext.refl ((w2.setCell ⟨sb, 1, none⟩ (.int .u64 p.tok)).setCell ⟨sb, 2, none⟩ (.int .u64 p.tok))).drew).keep (setB (setB SES.out (i := 1) (.int .u64 p.tok)) (i := 2) (.int .u64 p.tok)))
        have M3 := Lib.hid (((mod_setCell w2 ⟨sb, 1, none⟩ (.int .u64 p.tok)).trans (mod_setCell _ ⟨sb, 2, none⟩ (.int .u64 p.tok))).ext ((Ext.refl _).drew))
        have NB3 := Lib.hid (M3.out.keep NB.out (by simpa using hne'))
        clear b1 b2 b3 b4
        generalize ((w2.setCell ⟨sb, 1, none⟩ (.int .u64 p.tok)).setCell ⟨sb, 2, none⟩ (.int .u64 p.tok)).drew = w3 at *
        obtain ⟨b1, b2⟩ := blk B3.out
        obtain ⟨b3, b4⟩ := blk NB3.out
        have hsl := lt_of_block B3.out
        have hmm := @run_makeMap Tryz.prog
        go_upto_region 6 with fail
        clear hmm
        have hne2 : w3.heap.size ≠ sb := by omega
        have B4 := Lib.hid (keepB (setB (setB (setB B3.out (i := 3) (.slice none 0 0)) (i := 4) (.map (some w3.heap.size))) (i := 5) (.int .u64 0)) (.map #[] 0))
        have M4 : Hid (Mod [sb] w3 ((((w3.setCell ⟨sb, 3, none⟩ (.slice none 0 0)).setCell ⟨sb, 4, none⟩ (.map (some w3.heap.size))).setCell ⟨sb, 5, none⟩ (.int .u64 0)).alloc (.map #[] 0))) :=
          ((mod_setCell _ ⟨sb, 3, none⟩ _).trans ((mod_setCell _ ⟨sb, 4, none⟩ _).trans (mod_setCell _ ⟨sb, 5, none⟩ _))).ext ((Ext.refl _).alloc _)
        have MN : Hid (MapAt ((((w3.setCell ⟨sb, 3, none⟩ (.slice none 0 0)).setCell ⟨sb, 4, none⟩ (.map (some w3.heap.size))).setCell ⟨sb, 5, none⟩ (.int .u64 0)).alloc (.map #[] 0)) w3.heap.size .u64 []) := MapAt.new _ _ (by simp) .u64
        have NB4 := Lib.hid (M4.out.keep NB3.out (by simpa using hne'))
        have SA4 := Lib.hid (SA.out.anew (s' := { tok := p.tok, most := p.tok, replies := [], asked := [], events := 0, kept := s.kept }) (M3.out.trans M4.out) (Nat.le_trans WB.out M3.out.size) B4.out MN.out rfl rfl rfl rfl)
        have MA4 := Lib.hid (MA.out.trans (.of_mod (M3.out.trans M4.out) (by simp only [List.mem_cons, List.not_mem_nil, or_false]; rintro y rfl; exact hlow.1)))
        clear b1 b2 b3 b4 hne2 M4 MN
        generalize hmb4 : w3.heap.size = mb4 at *
        generalize (((w3.setCell ⟨sb, 3, none⟩ (.slice none 0 0)).setCell ⟨sb, 4, none⟩ (.map (some mb4))).setCell ⟨sb, 5, none⟩ (.int .u64 0)).alloc (.map #[] 0) = w4 at *
        have SES4 := Lib.hid SA4.out.ses
        obtain ⟨b1, b2⟩ := blk SES4.out
        obtain ⟨b3, b4⟩ := blk NB4.out
        by_cases q0 : p.seq = 0
        · have q0b : (p.seq != 0) = false := by simp [q0]
          have AP := Lib.hid (fun k => applied184 (w := w4.drewN k) (SES4.out) (by simp))
          have K2 : Hid (welK s p = if p.ack ≠ 0 then 25 else 0) := by show _ = _; rw [K.out, if_neg (fun h => h q0)]
          clear q0
          by_cases qa : p.ack = 0
          · have qab : (p.ack != 0) = false := by simp [qa]
            have K3 : Hid (welK s p = 0) := by show _ = _; rw [K2.out, if_neg (fun h => h qa)]
            clear qa
            go_upto_region 8 with fail
            go_quiet ((go_at_call 184; refine Calls.quiet_of_same (AP.out _)))
            go_wp2
            go_ret
            exact FrR.good K3.out (MA4.out.trans (.of_ext ((Ext.refl _).drewN _))) (by rw [N.out]; exact SA4.out.ext ((Ext.refl _).drewN _))
          · have qab : (p.ack != 0) = true := by simp [qa]
            have K3 : Hid (welK s p = 25) := by show _ = _; rw [K2.out, if_pos qa]
            clear qa
            go_upto_region 8 with fail
            go_quiet ((go_at_call 184; refine Calls.quiet_of_same (AP.out _)))
            go_wp2
            go_ret
            exact FrR.bad K3.out (by decide) (MA4.out.trans (.of_ext ((Ext.refl _).drewN _)))
        · have q0b : (p.seq != 0) = true := by simp [q0]
          have K2 : Hid (welK s p = 22) := by show _ = _; rw [K.out, if_pos q0]
          clear q0
          go_wp2
          go_ret
          exact FrR.bad K2.out (by decide) MA4.out
    · have T0b : (s.tok == 0) = false := by simp [T0]
      have T0c : (s.tok != 0) = true := by simp [T0]
      by_cases tT : p.tok = s.tok
      · have tTb : (p.tok != s.tok) = false := by simp [tT]
        have K : Hid (welK s p = if p.seq ≠ 0 then 22 else if p.ack ≠ (s.replies.length : Int) then 25 else 0) := by
          show _ = _
          unfold welK
          rw [if_neg (fun h => h.elim t0 (fun h => h.elim (fun h => h.2 tT) (fun h => T0 h.1))), if_neg T0]
        have N : Hid (welN s p = s) := by show _ = _; unfold welN; rw [if_neg T0]
        clear t0 T0 tT
        go_quiet (fail)
        have X := (Ext.refl w1).drewN nq
        replace SA := Lib.hid (SA.out.ext X)
        replace NB := Lib.hid (X.keep NB.out)
        replace MA := Lib.hid (MA.out.trans (.of_ext X))
        replace SES := Lib.hid (X.keep SES.out)
        clear b1 b2 b3 b4 X
        generalize w1.drewN nq = w2 at *
        obtain ⟨b1, b2⟩ := blk SES.out
        obtain ⟨b3, b4⟩ := blk NB.out
        by_cases q0 : p.seq = 0
        · have q0b : (p.seq != 0) = false := by simp [q0]
          have AP := Lib.hid (fun k => applied184 (w := w2.drewN k) (SES.out) (show rs.length ≤ 1099511627776 by omega))
          have K2 : Hid (welK s p = if p.ack ≠ (s.replies.length : Int) then 25 else 0) := by show _ = _; rw [K.out, if_neg (fun h => h q0)]
          clear q0
          by_cases qa : p.ack = (s.replies.length : Int)
          · have qab : (p.ack != (s.replies.length : Int)) = false := by simp [qa]
            have K3 : Hid (welK s p = 0) := by show _ = _; rw [K2.out, if_neg (fun h => h qa)]
            clear qa
            go_upto_region 8 with fail
            go_quiet ((go_at_call 184; refine Calls.quiet_of_same (AP.out _)))
            go_wp2
            go_ret
            exact FrR.good K3.out (MA.out.trans (.of_ext ((Ext.refl _).drewN _))) (by rw [N.out]; exact SA.out.ext ((Ext.refl _).drewN _))
          · have qab : (p.ack != (s.replies.length : Int)) = true := by simp [qa]
            have K3 : Hid (welK s p = 25) := by show _ = _; rw [K2.out, if_pos qa]
            clear qa
            go_upto_region 8 with fail
            go_quiet ((go_at_call 184; refine Calls.quiet_of_same (AP.out _)))
            go_wp2
            go_ret
            exact FrR.bad K3.out (by decide) (MA.out.trans (.of_ext ((Ext.refl _).drewN _)))
        · have q0b : (p.seq != 0) = true := by simp [q0]
          have K2 : Hid (welK s p = 22) := by show _ = _; rw [K.out, if_pos q0]
          clear q0
          go_wp2
          go_ret
          exact FrR.bad K2.out (by decide) MA.out
      · have tTb : (p.tok != s.tok) = true := by simp [tT]
        have K : Hid (welK s p = 21) := by show _ = _; unfold welK; rw [if_pos (.inr (.inl ⟨T0, tT⟩))]
        clear t0 T0 tT
        go_quiet (fail)
        go_wp2
        go_ret
        exact FrR.bad K.out (by decide) (MA.out.trans (.of_ext ((Ext.refl _).drewN _)))
end Go.Proofs.Eff

/- The program's session: an event. -/
namespace Go.Proofs.Eff
open Go.RowKit

/-- What is found of an event; what is known behind one. -/
def evK (s : Mon) (p : Pkt) : Int := if s.tok = 0 ∨ p.tok ≠ s.tok then 21 else if p.seq ≠ s.events + 1 then 22 else if p.ack ≠ s.replies.length then 25 else if replyP p.body = false then 20 else 0
set_option maxRecDepth 100000 in
set_option maxHeartbeats 4000000 in
theorem Event142 {w : World} {base sb rb mb rc kc top : Nat} {ka ra : Option Addr} {d : Int} {rs : List Rp} {s : Mon} (p : Pkt) (a : Option Addr) (c : Nat) (h : SesAt w base sb rb mb ka ra rc kc d rs s) (_hbs : base ≤ w.heap.size) (hr : s.replies.length ≤ 1099511627776) (he0 : 0 ≤ s.events) (he1 : s.events ≤ 1099511627776) (hb : BU w top a c p.body) (ht : top ≤ w.heap.size) :
    Calls Tryz.prog 142 #[.pointer (some ⟨sb, 0, none⟩), pkV p a c] w (FrR w base sb rb kc ka d (evK s p) { s with events := s.events + 1 }) := by
  have X0 := (Ext.refl w).alloc (pkB p a c)
  have NB := Lib.hid (newB w (pkB p a c) _ rfl)
  have SA := Lib.hid (h.ext X0)
  have MA : Hid (ModHi base w (w.alloc (pkB p a c))) := .of_ext X0
  have BB := Lib.hid (hb.ext X0 ht)
  have TB : Hid (top ≤ (w.alloc (pkB p a c)).heap.size) := Nat.le_trans ht X0.size
  have hrl := h.small
  have hwr : IntKind.u64.wrap (s.events + 1) = s.events + 1 := wrap_u64_in (by omega) (by omega)
  clear h X0 hb ht
  go_enter Tryz.func142, Tryz.ntmps142
  go_upto_region 1 with fail
  generalize w.heap.size = xb at *
  generalize w.alloc (pkB p a c) = w1 at *
  have SES := Lib.hid SA.out.ses
  have OU := Lib.hid (ours185 SES.out p.kind p.tok p.seq p.ack a p.body.length c)
  obtain ⟨b1, b2⟩ := blk SES.out
  obtain ⟨b3, b4⟩ := blk NB.out
  have hlow := SA.out.low
  by_cases ho : s.tok ≠ 0 ∧ p.tok = s.tok
  · have DEC : Hid (decide (s.tok ≠ 0 ∧ p.tok = s.tok) = true) := decide_eq_true ho
    have K : Hid (evK s p = if p.seq ≠ s.events + 1 then 22 else if p.ack ≠ s.replies.length then 25 else if replyP p.body = false then 20 else 0) := by
      show _ = _; unfold evK; rw [if_neg (fun h => h.elim ho.1 (fun h => h ho.2))]
    clear ho
    go_upto_region 3 with (go_at_call 185; (refine OU.out.mono ?_; rintro e w2 ⟨rfl, hE⟩; rw [DEC.out]; replace SA := Lib.hid (SA.out.ext hE); replace NB := Lib.hid (hE.keep NB.out); replace MA := Lib.hid (MA.out.trans (.of_ext hE)); replace BB := Lib.hid (BB.out.ext hE TB.out); replace TB := Lib.hid (Nat.le_trans TB.out hE.size); replace SES := Lib.hid (hE.keep SES.out); clear hE b1 b2 b3 b4; obtain ⟨b1, b2⟩ := blk SES.out; obtain ⟨b3, b4⟩ := blk NB.out))
    by_cases q0 : p.seq = s.events + 1
    · have q0b : (p.seq != s.events + 1) = false := by simp [q0]
      have K2 : Hid (evK s p = if p.ack ≠ s.replies.length then 25 else if replyP p.body = false then 20 else 0) := by show _ = _; rw [K.out, if_neg (fun h => h q0)]
      clear q0
      go_quiet (fail)
      have X := (Ext.refl w2).drewN nq
      replace SA := Lib.hid (SA.out.ext X)
      replace NB := Lib.hid (X.keep NB.out)
      replace MA := Lib.hid (MA.out.trans (.of_ext X))
      replace BB := Lib.hid (BB.out.ext X TB.out)
      replace TB := Lib.hid (Nat.le_trans TB.out X.size)
      replace SES := Lib.hid (X.keep SES.out)
      clear b1 b2 b3 b4 X
      generalize w2.drewN nq = w3 at *
      obtain ⟨b1, b2⟩ := blk SES.out
      obtain ⟨b3, b4⟩ := blk NB.out
      have AP := Lib.hid (fun k => applied184 (w := w3.drewN k) (SES.out) (show rs.length ≤ 1099511627776 by omega))
      by_cases qa : p.ack = (s.replies.length : Int)
      · have qab : (p.ack != (s.replies.length : Int)) = false := by simp [qa]
        have K3 : Hid (evK s p = if replyP p.body = false then 20 else 0) := by show _ = _; rw [K2.out, if_neg (fun h => h qa)]
        clear qa
        go_upto_region 5 with fail
        go_quiet ((go_at_call 184; refine Calls.quiet_of_same (AP.out _)))
        have X := (Ext.refl w3).drewN nq
        replace SA := Lib.hid (SA.out.ext X)
        replace NB := Lib.hid (X.keep NB.out)
        replace MA := Lib.hid (MA.out.trans (.of_ext X))
        replace BB := Lib.hid (BB.out.ext X TB.out)
        replace TB := Lib.hid (Nat.le_trans TB.out X.size)
        replace SES := Lib.hid (X.keep SES.out)
        clear b1 b2 b3 b4 X
        generalize w3.drewN nq = w4 at *
        obtain ⟨b1, b2⟩ := blk SES.out
        obtain ⟨b3, b4⟩ := blk NB.out
        have BD := Lib.hid (body186 p.kind p.tok p.seq p.ack BB.out TB.out)
        cases hrp : replyP p.body with
        | false =>
          have K4 : Hid (evK s p = 20) := by show _ = _; rw [K3.out, if_pos hrp]
          have HRP := Lib.hid hrp
          clear hrp
          go_wp2_with (go_at_call 186; (refine BD.out.mono ?_; rintro e w5 ⟨rfl, hE⟩; rw [HRP.out]; replace MA := Lib.hid (MA.out.trans (.of_ext hE)); clear hE))
          go_ret
          exact FrR.bad K4.out (by decide) MA.out
        | true =>
          have K4 : Hid (evK s p = 0) := by show _ = _; rw [K3.out, if_neg (by rw [hrp]; decide)]
          have HRP := Lib.hid hrp
          clear hrp
          go_wp2_with (go_at_call 186; (refine BD.out.mono ?_; rintro e w5 ⟨rfl, hE⟩; rw [HRP.out]; replace SA := Lib.hid (SA.out.ext hE); replace MA := Lib.hid (MA.out.trans (.of_ext hE)); replace SES := Lib.hid (hE.keep SES.out); clear hE b1 b2 b3 b4; obtain ⟨b1, b2⟩ := blk SES.out))
          go_ret
          have m5 := mod_setCell w5 ⟨sb, 5, none⟩ (.int .u64 (s.events + 1))
          exact FrR.good K4.out (MA.out.trans (.of_mod m5 (by simp only [List.mem_cons, List.not_mem_nil, or_false]; rintro y rfl; exact hlow.1))) (SA.out.box (s' := { s with events := s.events + 1 }) m5 (setB SES.out _) rfl rfl rfl)
      · have qab : (p.ack != (s.replies.length : Int)) = true := by simp [qa]
        have K3 : Hid (evK s p = 25) := by show _ = _; rw [K2.out, if_pos qa]
        clear qa
        go_upto_region 5 with fail
        go_quiet ((go_at_call 184; refine Calls.quiet_of_same (AP.out _)))
        go_wp2
        go_ret
        exact FrR.bad K3.out (by decide) (MA.out.trans (.of_ext ((Ext.refl _).drewN _)))
    · have q0b : (p.seq != s.events + 1) = true := by simp [q0]
      have K2 : Hid (evK s p = 22) := by show _ = _; rw [K.out, if_pos q0]
      clear q0
      go_quiet (fail)
      go_wp2
      go_ret
      exact FrR.bad K2.out (by decide) (MA.out.trans (.of_ext ((Ext.refl _).drewN _)))
  · have DEC : Hid (decide (s.tok ≠ 0 ∧ p.tok = s.tok) = false) := decide_eq_false ho
    have K : Hid (evK s p = 21) := by
      show _ = _; unfold evK
      rw [if_pos]
      by_cases h0 : s.tok = 0
      · exact .inl h0
      · exact .inr (fun h => ho ⟨h0, h⟩)
    clear ho
    go_wp2_with (go_at_call 185; (refine OU.out.mono ?_; rintro e w2 ⟨rfl, hE⟩; rw [DEC.out]; replace MA := Lib.hid (MA.out.trans (.of_ext hE)); clear hE))
    go_ret
    exact FrR.bad K.out (by decide) MA.out
end Go.Proofs.Eff

/- Plain: a reply is kept. -/
namespace Go.Proofs.Eff
open Go.RowKit

/-- What is found of a reply; what is known behind one. -/
def repK (s : Mon) (p : Pkt) (b : List Int) : Int :=
  if s.tok = 0 ∨ p.tok ≠ s.tok then 21 else if p.seq = 0 ∨ (s.replies.length : Int) + 1 < p.seq then 22 else if replyP p.body = false then 20
       else if p.seq ≤ s.replies.length then (if b ≠ (s.replies[(p.seq - 1).toNat]?).getD [] then 24 else 0)
       else if p.seq ∉ s.asked then 23 else if p.ack ≠ p.seq then 25 else 0
def repN (s : Mon) (p : Pkt) (b : List Int) : Mon := if p.seq ≤ s.replies.length then s else { s with replies := s.replies ++ [b] }
theorem reply_keeps {W w7 : World} {base n rc g : Nat} {ra : Option Addr} {xs : List Value} {cs : Array Value} {ty : TypeId} (hrr : W.ownsRow base 37 1 (.slice ra n rc) n xs) (hgrow : W.grownBy w7 (Value.slice ra n rc).ownBlock) (hg : W.heap[g]? = some (.cells cs ty)) (ht : ty ≠ 37) : w7.heap[g]? = some (.cells cs ty) := by
  refine (mod_grown hgrow).keep hg fun hm => ?_
  cases ra with
  | none => simp [Value.ownBlock] at hm
  | some ad =>
    simp only [Value.ownBlock, Option.toList_some, List.mem_cons, List.not_mem_nil, or_false] at hm
    subst hm
    obtain ⟨_, _, cs2, h9⟩ := own_type hrr
    rw [hg] at h9
    simp only [Option.some.injEq, Obj.cells.injEq] at h9
    exact ht h9.2.1
theorem SesAt.reply {w w6 W w7 : World} {base sb rb mb rc kc : Nat} {ka ra : Option Addr} {d : Int} {rs : List Rp} {s : Mon} (h : SesAt w base sb rb mb ka ra rc kc d rs s) (hbs : base ≤ w.heap.size) {b : List Int} {a6 : Option Addr} {c6 : Nat} (hE6 : Ext w w6)
    (hr6 : w6.ownsRow w.heap.size 5 1 (.slice a6 b.length c6) b.length (u8s b)) (hub : U8s b) (hsm : b.length ≤ 1099511627776) (hX : Ext w6 W) {g1 q1 : Nat} (hown : w7.ownsRow base 37 1 (.slice (some ⟨g1, 0, none⟩) (rs.length + 1) q1) (rs.length + 1) (rs.map rpC ++ [.slice a6 b.length c6])) (hgrow : W.grownBy w7 (Value.slice ra rs.length rc).ownBlock) :
    SesAt (w7.setCell ⟨sb, 3, none⟩ (.slice (some ⟨g1, 0, none⟩) (rs.length + 1) q1)) base sb rb mb ka (some ⟨g1, 0, none⟩) q1 kc d (rs ++ [(b, a6, c6)]) { s with replies := s.replies ++ [b] } ∧ ModHi base w (w7.setCell ⟨sb, 3, none⟩ (.slice (some ⟨g1, 0, none⟩) (rs.length + 1) q1)) := by
  have h2 := (h.ext hE6).ext hX
  have hnew : RpAt W base (b, a6, c6) := ⟨row_low (row_keep hr6 hX) hbs, hub, hsm⟩
  have hksz : ∀ kd, ka = some kd → kd.block < w.heap.size := fun kd e => by have h9 := h.krow; subst e; exact (own_type h9).2.1
  have hasz : ∀ ad, a6 = some ad → w.heap.size ≤ ad.block := fun ad e => by subst e; exact (own_type hr6).1
  have m2 := mod_grown hgrow
  have hrr := h2.rrow
  have hown0 : ∀ y, y ∈ (Value.slice ra rs.length rc).ownBlock.toList → base ≤ y ∧ ∃ cs, W.heap[y]? = some (.cells cs 37) := fun y hy => by
    cases ra with
    | none => simp [Value.ownBlock] at hy
    | some ad =>
      simp only [Value.ownBlock, Option.toList_some, List.mem_cons, List.not_mem_nil, or_false] at hy
      subst hy
      obtain ⟨t1, _, cs, t3⟩ := own_type hrr
      exact ⟨t1, cs, t3⟩
  have typ : ∀ g cs ty, W.heap[g]? = some (.cells cs ty) → ty ≠ 37 → g ∉ (Value.slice ra rs.length rc).ownBlock.toList := fun g cs ty hg ht hm => by
    obtain ⟨_, cs2, h9⟩ := hown0 g hm
    rw [hg] at h9
    simp only [Option.some.injEq, Obj.cells.injEq] at h9
    exact ht h9.2.1
  obtain ⟨h3, h4, h5, h6, h7, h8, h9, h10, ⟨l0, h11, h13⟩, h12⟩ := h2
  have hmb : mb ∉ (Value.slice ra rs.length rc).ownBlock.toList := fun hm => by
    obtain ⟨_, cs2, h14⟩ := hown0 mb hm
    exact h11.ne_cells h14 rfl
  have hsb7 := m2.keep h3 (typ _ _ _ h3 (by decide))
  have hrb7 := m2.keep h4 (typ _ _ _ h4 (by decide))
  have m3 := mod_setCell w7 ⟨sb, 3, none⟩ (.slice (some ⟨g1, 0, none⟩) (rs.length + 1) q1)
  have q2 : rb ∉ [sb] := by
    intro hx
    simp only [List.mem_cons, List.not_mem_nil, or_false] at hx
    subst hx
    rw [h3] at h4
    simp at h4
  have q3 : mb ∉ [sb] := by have := h11.ne_cells h3; simpa using this.symm
  have keep : ∀ x, RpAt W base x → RpAt (w7.setCell ⟨sb, 3, none⟩ (.slice (some ⟨g1, 0, none⟩) (rs.length + 1) q1)) base x := fun x hx => ⟨row_mod (own_other hx.row h8 hgrow (by decide)) m3 hsb7 (by decide), hx.u8, hx.small⟩
  refine ⟨⟨?_, m3.keep hrb7 q2, ?_, row_mod (own_other h6 h8 hgrow (by decide)) m3 hsb7 (by decide), h7, ?_, fun x hx => ?_, fun x hx ad kd e1 e2 => ?_, ⟨l0, (h11.mod m2 hmb).mod m3 q3, h13⟩, h12⟩, ?_⟩
  · rw [List.length_append]; exact setB hsb7 _
  · rw [List.map_append, h5]; rfl
  · rw [List.length_append, List.map_append]
    exact row_mod hown m3 hsb7 (by decide)
  · rcases List.mem_append.1 hx with hx | hx
    · exact keep x (h9 x hx)
    · simp only [List.mem_cons, List.not_mem_nil, or_false] at hx
      subst hx
      exact keep _ hnew
  · rcases List.mem_append.1 hx with hx | hx
    · exact h10 x hx ad kd e1 e2
    · simp only [List.mem_cons, List.not_mem_nil, or_false] at hx
      subst hx
      have := hasz ad e1
      have := hksz kd e2
      omega
  · refine (ModHi.of_ext (hE6.trans hX)).trans ((ModHi.of_mod m2 fun y hy => (hown0 y hy).1).trans (.of_mod m3 ?_))
    simp only [List.mem_cons, List.not_mem_nil, or_false]
    rintro y rfl
    exact h12.1
end Go.Proofs.Eff

/- The program's session: a reply. -/
namespace Go.Proofs.Eff
open Go.RowKit

theorem Tryz.cinfo37 : (Tryz.prog.info? 37).map (fun i => (i.zero, i.size, i.bytes)) = some (some (.slice none 0 0), 1, 24) := by kernel_rfl
set_option maxRecDepth 100000 in
set_option maxHeartbeats 8000000 in
theorem Reply141 {w : World} {base sb rb mb rc kc top top2 cb : Nat} {ka ra ab : Option Addr} {d : Int} {rs : List Rp} {s : Mon} (p : Pkt) (a : Option Addr) (c : Nat) {b : List Int} (h : SesAt w base sb rb mb ka ra rc kc d rs s) (hbs : base ≤ w.heap.size) (hr : s.replies.length ≤ 1099511627776) (_hask : s.asked.length ≤ 2305843009213693952) (hq0 : 0 ≤ p.seq) (hq1 : p.seq < 18446744073709551616)
    (hb : BU w top a c p.body) (ht : top ≤ w.heap.size) (hbb : BU w top2 ab cb b) (ht2 : top2 ≤ w.heap.size) :
    Calls Tryz.prog 141 #[.pointer (some ⟨sb, 0, none⟩), pkV p a c, .slice ab b.length cb] w (FrR w base sb rb kc ka d (repK s p b) (repN s p b)) := by
  have X0 := (Ext.refl w).alloc (pkB p a c)
  have NB := Lib.hid (newB w (pkB p a c) _ rfl)
  have SA := Lib.hid (h.ext X0)
  have MA : Hid (ModHi base w (w.alloc (pkB p a c))) := .of_ext X0
  have BB := Lib.hid (hb.ext X0 ht)
  have TB : Hid (top ≤ (w.alloc (pkB p a c)).heap.size) := Nat.le_trans ht X0.size
  have B2 := Lib.hid (hbb.ext X0 ht2)
  have TB2 : Hid (top2 ≤ (w.alloc (pkB p a c)).heap.size) := Nat.le_trans ht2 X0.size
  have WB : Hid (base ≤ (w.alloc (pkB p a c)).heap.size) := Nat.le_trans hbs X0.size
  have hrl := h.small
  have hwn : IntKind.u64.wrap ((s.replies.length : Int) + 1) = (s.replies.length : Int) + 1 := wrap_u64_in (by omega) (by omega)
  clear h X0 hbs hb ht hbb ht2
  go_enter Tryz.func141, Tryz.ntmps141
  go_upto_region 1 with fail
  generalize w.heap.size = xb at *
  generalize w.alloc (pkB p a c) = w1 at *
  have SES := Lib.hid SA.out.ses
  have OU := Lib.hid (ours185 SES.out p.kind p.tok p.seq p.ack a p.body.length c)
  have AP := Lib.hid (applied184 (w := w1) (SES.out) (show rs.length ≤ 1099511627776 by omega))
  obtain ⟨b1, b2⟩ := blk SES.out
  obtain ⟨b3, b4⟩ := blk NB.out
  have hlow := SA.out.low
  have hne' : xb ≠ sb := fun e => by subst e; have h7 := SES.out; rw [NB.out] at h7; simp at h7
  by_cases ho : s.tok ≠ 0 ∧ p.tok = s.tok
  · have DEC : Hid (decide (s.tok ≠ 0 ∧ p.tok = s.tok) = true) := decide_eq_true ho
    have K : Hid (repK s p b = if p.seq = 0 ∨ (s.replies.length : Int) + 1 < p.seq then 22 else if replyP p.body = false then 20
       else if p.seq ≤ s.replies.length then (if b ≠ (s.replies[(p.seq - 1).toNat]?).getD [] then 24 else 0)
       else if p.seq ∉ s.asked then 23 else if p.ack ≠ p.seq then 25 else 0) := by
      show _ = _; unfold repK; rw [if_neg (fun h => h.elim ho.1 (fun h => h ho.2))]
    clear ho
    go_upto_region 4 with (first
      | (go_at_call 184; (refine AP.out.mono ?_; rintro e w2 ⟨rfl, rfl⟩))
      | (go_at_call 185; (refine OU.out.mono ?_; rintro e w2 ⟨rfl, hE⟩; rw [DEC.out]; replace SA := Lib.hid (SA.out.ext hE); replace NB := Lib.hid (hE.keep NB.out); replace MA := Lib.hid (MA.out.trans (.of_ext hE)); replace BB := Lib.hid (BB.out.ext hE TB.out); replace TB := Lib.hid (Nat.le_trans TB.out hE.size); replace B2 := Lib.hid (B2.out.ext hE TB2.out); replace TB2 := Lib.hid (Nat.le_trans TB2.out hE.size); replace WB := Lib.hid (Nat.le_trans WB.out hE.size); replace SES := Lib.hid (hE.keep SES.out); clear hE b1 b2 b3 b4; obtain ⟨b1, b2⟩ := blk SES.out; obtain ⟨b3, b4⟩ := blk NB.out)))
    have BD := Lib.hid (body186 p.kind p.tok p.seq p.ack BB.out TB.out)
    by_cases s0 : p.seq = 0
    · have s0b : (p.seq == 0) = true := by simp [s0]
      have K2 : Hid (repK s p b = 22) := by show _ = _; rw [K.out, if_pos (.inl s0)]
      clear s0
      go_wp2_with fail
      go_ret
      exact FrR.bad K2.out (by decide) MA.out
    · have s0b : (p.seq == 0) = false := by simp [s0]
      by_cases s1 : (s.replies.length : Int) + 1 < p.seq
      · have K2 : Hid (repK s p b = 22) := by show _ = _; rw [K.out, if_pos (.inr s1)]
        clear s0
        go_wp2_with fail
        go_ret
        exact FrR.bad K2.out (by decide) MA.out
      · have K2 : Hid (repK s p b = if replyP p.body = false then 20
            else if p.seq ≤ s.replies.length then (if b ≠ (s.replies[(p.seq - 1).toNat]?).getD [] then 24 else 0)
            else if p.seq ∉ s.asked then 23 else if p.ack ≠ p.seq then 25 else 0) := by show _ = _; rw [K.out, if_neg (fun h => h.elim s0 s1)]
        cases hrp : replyP p.body with
        | false =>
          have K4 : Hid (repK s p b = 20) := by show _ = _; rw [K2.out, if_pos hrp]
          have HRP := Lib.hid hrp
          clear hrp s0
          go_wp2_with (go_at_call 186; (refine BD.out.mono ?_; rintro e w5 ⟨rfl, hE⟩; rw [HRP.out]; replace MA := Lib.hid (MA.out.trans (.of_ext hE)); clear hE))
          go_ret
          exact FrR.bad K4.out (by decide) MA.out
        | true =>
          have K3 : Hid (repK s p b = if p.seq ≤ s.replies.length then (if b ≠ (s.replies[(p.seq - 1).toNat]?).getD [] then 24 else 0)
            else if p.seq ∉ s.asked then 23 else if p.ack ≠ p.seq then 25 else 0) := by show _ = _; rw [K2.out, if_neg (by rw [hrp]; decide)]
          have HRP := Lib.hid hrp
          clear hrp K K2
          go_upto_region 8 with (go_at_call 186; (refine BD.out.mono ?_; rintro e w5 ⟨rfl, hE⟩; rw [HRP.out]; replace SA := Lib.hid (SA.out.ext hE); replace NB := Lib.hid (hE.keep NB.out); replace MA := Lib.hid (MA.out.trans (.of_ext hE)); replace B2 := Lib.hid (B2.out.ext hE TB2.out); replace TB2 := Lib.hid (Nat.le_trans TB2.out hE.size); replace WB := Lib.hid (Nat.le_trans WB.out hE.size); replace SES := Lib.hid (hE.keep SES.out); clear hE b1 b2 b3 b4; obtain ⟨b1, b2⟩ := blk SES.out; obtain ⟨b3, b4⟩ := blk NB.out))
          clear BD OU AP BB TB
          by_cases hold : p.seq ≤ (s.replies.length : Int)
          · obtain ⟨k, hk⟩ : ∃ k : Nat, p.seq = (k : Int) + 1 := ⟨(p.seq - 1).toNat, by omega⟩
            have N : Hid (repN s p b = s) := by show _ = _; unfold repN; rw [if_pos hold]
            have hkl : k < rs.length := by omega
            obtain ⟨x, hx⟩ : ∃ x, rs[k]? = some x := ⟨rs[k], by simp [hkl]⟩
            have hx2 : s.replies[(p.seq - 1).toNat]? = some x.1 := by
              rw [← SA.out.reps, List.getElem?_map, show (p.seq - 1).toNat = k by omega, hx]; rfl
            have K4 : Hid (repK s p b = if b ≠ x.1 then 24 else 0) := by show _ = _; rw [K3.out, if_pos hold, hx2]; rfl
            obtain ⟨ra', rc', hra, hraf⟩ := own_any SA.out.rrow
            simp only [Value.slice.injEq, true_and] at hra
            obtain ⟨rfl, rfl⟩ := hra
            obtain ⟨g, rfl, hg1, hg2⟩ := hraf (by omega)
            have RC : Hid (w5.cell? ⟨g, k, none⟩ = some (.slice x.2.1 x.1.length x.2.2)) := by
              have h7 := SA.out.rrow.cells rfl k (rpC x) (by simp [hx])
              rw [Addr.add_lit, Nat.zero_add] at h7
              exact h7
            have RA := SA.out.rrs x (List.mem_of_getElem? hx)
            have XB := Lib.hid (BU.of_row RA.row RA.u8 RA.small)
            have hix : IntKind.u64.wrap (p.seq - 1) = (k : Int) := by rw [hk]; exact (wrap_u64_in (by omega) (by omega)).trans (by omega)
            have hki : (k : Int) < (rs.length : Int) := by omega
            have hki2 : (k : Int) < (s.replies.length : Int) := by omega
            have EQ := Lib.hid (fun W (hE : Ext w5 W) => Equal187 (B2.out.ext hE TB2.out) (XB.out.ext hE (Nat.le_refl _)) (Nat.le_trans TB2.out hE.size) hE.size)
            have hsl := lt_of_block SES.out
            have hxl := lt_of_block NB.out
            have XS : Hid (∀ W, Ext w5 W → W.cell? ⟨sb, 3, none⟩ = some (.slice (some ⟨g, 0, none⟩) rs.length rc) ∧ W.cell? ⟨xb, 2, none⟩ = some (.int .u64 p.seq) ∧ W.cell? ⟨g, k, none⟩ = some (.slice x.2.1 x.1.length x.2.2)) := fun W hE =>
              ⟨(hE.cell (p := ⟨sb, 3, none⟩) hsl).trans (by rw [b1]; rfl), (hE.cell (p := ⟨xb, 2, none⟩) hxl).trans (by rw [b3]; rfl), (hE.cell (p := ⟨g, k, none⟩) hg2).trans RC.out⟩
            have hk0 : (0 : Int) ≤ (k : Int) := by omega
            clear RA hraf hx hx2 hk
            go_upto_region 9 with fail
            by_cases he : b = x.1
            · have hd : decide (b = x.1) = true := by simp [he]
              have K5 : Hid (repK s p b = 0) := by show _ = _; rw [K4.out, if_neg (fun h => h he)]
              clear he
              go_region_held3 (fun W => W.cell? ⟨sb, 3, none⟩ = some (.slice (some ⟨g, 0, none⟩) rs.length rc) ∧ W.cell? ⟨xb, 2, none⟩ = some (.int .u64 p.seq) ∧ W.cell? ⟨g, k, none⟩ = some (.slice x.2.1 x.1.length x.2.2)) (first | exact XS.out _ (Ext.refl _).drew | exact XS.out _ (((Ext.refl _).drew).trans hE6)) ((go_at_call 187; refine (EQ.out _ ((Ext.refl _).drew)).mono ?_; rintro e w6 ⟨rfl, hE6⟩; rw [hd]))
              go_wp2
              go_ret
              have X6 := ((Ext.refl w5).drew).trans hE6
              exact FrR.good K5.out (MA.out.trans (.of_ext X6)) (by rw [N.out]; exact SA.out.ext X6)
            · have hd : decide (b = x.1) = false := by simp [he]
              have K5 : Hid (repK s p b = 24) := by show _ = _; rw [K4.out, if_pos he]
              clear he
              go_region_held3 (fun W => W.cell? ⟨sb, 3, none⟩ = some (.slice (some ⟨g, 0, none⟩) rs.length rc) ∧ W.cell? ⟨xb, 2, none⟩ = some (.int .u64 p.seq) ∧ W.cell? ⟨g, k, none⟩ = some (.slice x.2.1 x.1.length x.2.2)) (first | exact XS.out _ (Ext.refl _).drew | exact XS.out _ (((Ext.refl _).drew).trans hE6)) ((go_at_call 187; refine (EQ.out _ ((Ext.refl _).drew)).mono ?_; rintro e w6 ⟨rfl, hE6⟩; rw [hd]))
              go_wp2
              go_ret
              have X6 := ((Ext.refl w5).drew).trans hE6
              exact FrR.bad K5.out (by decide) (MA.out.trans (.of_ext X6))
          · have N : Hid (repN s p b = { s with replies := s.replies ++ [b] }) := by show _ = _; unfold repN; rw [if_neg hold]
            have K4 : Hid (repK s p b = if p.seq ∉ s.asked then 23 else if p.ack ≠ p.seq then 25 else 0) := by show _ = _; rw [K3.out, if_neg hold]
            obtain ⟨la, hma, hA⟩ := SA.out.map
            have hcnt : s.asked.count p.seq ≤ s.asked.length := List.count_le_length
            have hmc := mem_count (asked := s.asked) p.seq
            have hlk := run_lookup_at (P := Tryz.prog) w5.drew Tryz.underlying195 Tryz.underlying55 (hma.keep (Ext.refl _).drew) (.int .i64 0) zero3 p.seq
            rw [hA.get] at hlk
            generalize (s.asked.count p.seq : Int) = cn at *
            clear hA hma hcnt K3
            go_upto_region 12 with fail
            by_cases hc : cn = 0
            · have hcb : (cn == 0) = true := by simp [hc]
              have K5 : Hid (repK s p b = 23) := by show _ = _; rw [K4.out, if_pos (hmc.1 hc)]
              clear hc hmc
              go_region
              go_wp2
              go_ret
              exact FrR.bad K5.out (by decide) (MA.out.trans (.of_ext (Ext.refl _).drew))
            · have hcb : (cn == 0) = false := by simp [hc]
              have K5 : Hid (repK s p b = if p.ack ≠ p.seq then 25 else 0) := by show _ = _; rw [K4.out, if_neg (fun h => hc (hmc.2 h))]
              clear hc hmc
              go_region
              have X := (Ext.refl w5).drew
              replace SA := Lib.hid (SA.out.ext X)
              replace NB := Lib.hid (X.keep NB.out)
              replace MA := Lib.hid (MA.out.trans (.of_ext X))
              replace B2 := Lib.hid (B2.out.ext X TB2.out)
              replace TB2 := Lib.hid (Nat.le_trans TB2.out X.size)
              replace WB := Lib.hid (Nat.le_trans WB.out X.size)
              replace SES := Lib.hid (X.keep SES.out)
              clear b1 b2 b3 b4 X hlk
              generalize w5.drew = w8 at *
              obtain ⟨b1, b2⟩ := blk SES.out
              have CLN := Lib.hid (fun W (hE : Ext w8 W) => Clone188 (B2.out.ext hE TB2.out) (Nat.le_trans TB2.out hE.size))
              have hsl := lt_of_block SES.out
              obtain ⟨i0, hi, hz0, hz1, hz3⟩ := info_parts Tryz.cinfo37
              have HB8 := Lib.hid B2.out.u8
              have HB9 := Lib.hid B2.out.small
              have LM : Hid (rs.length + 1 ≤ maxLen) := by show _ ≤ _; unfold maxLen; omega
              have LB : Hid ((rs.length + 1) * 24 ≤ 140737488355328) := by show _ ≤ _; omega
              go_upto_region 14 with fail
              go_region_law (first
                | (go_simp; go_at_call 188; refine (CLN.out _ ((Ext.refl _).drew)).mono ?_; rintro e w9 ⟨a9, c9, rfl, hr9, hE9⟩; obtain ⟨m1, m2⟩ := blk (hE9.keep ((Ext.refl w8).drew.keep SES.out)); have hs9 : sb < w9.heap.size := lt_of_block (hE9.keep ((Ext.refl w8).drew.keep SES.out)); have E9 : Hid (Ext w8 w9) := ((Ext.refl w8).drew).trans hE9; have R9 := Lib.hid hr9; clear hr9 hE9)
                | ((refine step_append_lies _ rfl _ _ _ rfl base 37 i0 (.slice none 0 0) 1 24 Tryz.underlying196 hi hz0 hz1 hz3 rfl Nat.zero_lt_one (.slice ra rs.length rc) rs.length (rs.map rpC) ?hs ?hrow ⟨w9.heap.size, 0, none⟩ 1 1 [.slice a9 b.length c9] ?hx rfl ?hnews ?h1 Nat.zero_lt_one LM.out LB.out ?hb _ rfl ?_; (case hs => simp [Act.eval, hrl]); (case hx => simp [Act.eval]); (case hrow => exact row_keep SA.out.rrow (E9.out.alloc _)); (case hnews => exact (World.ownsRow_lit (base := 0) (e := 37) (size := 1) w9 #[.slice a9 b.length c9] 1 (Nat.zero_le _) (by unfold maxLen; omega) rfl).cells rfl); (case h1 => intro u hu; simp only [List.mem_cons, List.not_mem_nil, or_false] at hu; subst hu; rfl); (case hb => exact Nat.le_trans WB.out (E9.out.alloc _).size); intro g1 q1 w10 hown hgrow hat hlt3; have DONE := Lib.hid (SA.out.reply WB.out E9.out R9.out HB8.out HB9.out ((Ext.refl w9).alloc _) hown hgrow); have KSB := Lib.hid (reply_keeps (row_keep SA.out.rrow (E9.out.alloc _)) hgrow ((E9.out.alloc _).keep SES.out) (by decide)); have KNB := Lib.hid (reply_keeps (row_keep SA.out.rrow (E9.out.alloc _)) hgrow ((E9.out.alloc _).keep NB.out) (by decide)); obtain ⟨m3, m4⟩ := blk KSB.out; clear hown hgrow hat))
                | fail)
              all_goals
                have D := DONE.out
                rw [hrl] at D
                have ND := Lib.hid ((mod_setCell w10 ⟨sb, 3, none⟩ (.slice (some ⟨g1, 0, none⟩) (s.replies.length + 1) q1)).keep KNB.out (by simpa using hne'))
                have DN := Lib.hid D
                clear D DONE KSB KNB m1 m2 m3 m4 b1 b2
                generalize w10.setCell ⟨sb, 3, none⟩ (.slice (some ⟨g1, 0, none⟩) (s.replies.length + 1) q1) = wz at *
                obtain ⟨b3, b4⟩ := blk ND.out
                by_cases hac : p.ack = p.seq
                · have hacb : (p.ack != p.seq) = false := by simp [hac]
                  have K6 : Hid (repK s p b = 0) := by show _ = _; rw [K5.out, if_neg (fun h => h hac)]
                  clear hac
                  go_wp2
                  go_ret
                  exact FrR.good K6.out (MA.out.trans DN.out.2) (by rw [N.out]; exact DN.out.1)
                · have hacb : (p.ack != p.seq) = true := by simp [hac]
                  have K6 : Hid (repK s p b = 25) := by show _ = _; rw [K5.out, if_pos hac]
                  clear hac
                  go_wp2
                  go_ret
                  exact FrR.bad K6.out (by decide) (MA.out.trans DN.out.2)
  · have DEC : Hid (decide (s.tok ≠ 0 ∧ p.tok = s.tok) = false) := decide_eq_false ho
    have K : Hid (repK s p b = 21) := by
      show _ = _; unfold repK
      rw [if_pos]
      by_cases h0 : s.tok = 0
      · exact .inl h0
      · exact .inr (fun h => ho ⟨h0, h⟩)
    clear ho
    go_wp2_with (first
      | (go_at_call 184; (refine AP.out.mono ?_; rintro e w2 ⟨rfl, rfl⟩))
      | (go_at_call 185; (refine OU.out.mono ?_; rintro e w2 ⟨rfl, hE⟩; rw [DEC.out]; replace MA := Lib.hid (MA.out.trans (.of_ext hE)); clear hE)))
    go_ret
    exact FrR.bad K.out (by decide) MA.out
end Go.Proofs.Eff

/- The program's session: a frame that goes out. -/
namespace Go.Proofs.Eff
open Go.RowKit

theorem monKind_none {s : Mon} {b : List Int} (h : unpack b = none) : monKind s b = 20 := by unfold monKind; rw [h]
theorem monKind_wel {s : Mon} {b : List Int} {p : Pkt} (h : unpack b = some p) (hk : p.kind = 2) : monKind s b = welK s p ∧ monNext s b = welN s p := by
  unfold monKind monNext welK welN
  rw [h]
  simp only [hk, if_true, and_self]
theorem monKind_rep {s : Mon} {b : List Int} {p : Pkt} (h : unpack b = some p) (hk : p.kind = 4) : monKind s b = repK s p b ∧ monNext s b = repN s p b := by
  unfold monKind monNext repK repN
  rw [h]
  have h2 : ¬ ((4 : Int) = 2) := by decide
  simp only [hk, if_true, h2, if_false, and_self]
theorem monKind_ev {s : Mon} {b : List Int} {p : Pkt} (h : unpack b = some p) (hk : p.kind = 5) : monKind s b = evK s p ∧ monNext s b = { s with events := s.events + 1 } := by
  unfold monKind monNext evK
  rw [h]
  have h2 : ¬ ((5 : Int) = 2) := by decide
  have h4 : ¬ ((5 : Int) = 4) := by decide
  simp only [hk, if_true, h2, h4, if_false, and_self]
theorem monKind_ref {s : Mon} {b : List Int} {p : Pkt} (h : unpack b = some p) (h2 : p.kind ≠ 2) (h4 : p.kind ≠ 4) (h5 : p.kind ≠ 5) : monKind s b = (if p.kind = 6 then (if p.body.length = 1 then 0 else 20) else 20) ∧ monNext s b = s := by
  unfold monKind monNext
  rw [h]
  simp only [h2, h4, h5, if_false, and_self]
theorem unpack_seq {l : List Int} {p : Pkt} (hu : U8s l) (h : unpack l = some p) : 0 ≤ p.seq ∧ p.seq < 18446744073709551616 := by
  have h1 : innerP (inside l) = some p := by
    unfold unpack at h
    split at h
    · exact (Option.filter_eq_some_iff.1 h).1
    · cases h
  have h2 : U8s (inside l) := fun x hx => hu x (List.mem_of_mem_take (List.mem_of_mem_drop hx))
  obtain ⟨_, _, r3, _, _⟩ := innerP_some h2 h1
  exact r3
theorem FrR.low {w w1 w' : World} {base sb rb kc : Nat} {ka : Option Addr} {d : Int} {K K' : Int} {N N' : Mon} {e : Ending} (h : FrR w1 base sb rb kc ka d K N e w') (hm : ModHi base w w1) (hk : K' = K) (hn : N' = N) : FrR w base sb rb kc ka d K' N' e w' := by
  subst hk hn
  exact ⟨h.1, hm.trans h.2.1, h.2.2⟩
set_option maxRecDepth 100000 in
set_option maxHeartbeats 4000000 in
theorem Out97 {w : World} {base sb rb mb rc kc top cb : Nat} {ka ra ab : Option Addr} {d : Int} {rs : List Rp} {s : Mon} {b : List Int} (h : SesAt w base sb rb mb ka ra rc kc d rs s) (hbs : base ≤ w.heap.size) (hr : s.replies.length ≤ 1099511627776) (he0 : 0 ≤ s.events) (he1 : s.events ≤ 1099511627776) (hask : s.asked.length ≤ 2305843009213693952)
    (hbb : BU w top ab cb b) (ht : top ≤ w.heap.size) :
    Calls Tryz.prog 97 #[.pointer (some ⟨sb, 0, none⟩), .slice ab b.length cb] w (FrR w base sb rb kc ka d (monKind s b) (monNext s b)) := by
  have SA := Lib.hid h
  have UN := Lib.hid (Unpack139 hbb ht)
  have B2 := Lib.hid hbb
  have hub := hbb.u8
  have WB : Hid (base ≤ w.heap.size) := hbs
  have HR : Hid (s.replies.length ≤ 1099511627776) := hr
  have TB : Hid (top ≤ w.heap.size) := ht
  clear h hbb hbs hr ht
  cases hun : unpack b with
  | none =>
    have K := Lib.hid (monKind_none (s := s) hun)
    have HNO := Lib.hid hun
    clear hun hub
    go_enter Tryz.func97, Tryz.ntmps97
    go_wp2_with (go_at_call 139; (refine UN.out.mono ?_; rintro e w5 ⟨hx5, h1, _⟩; obtain ⟨er, e0, e1, rfl⟩ := h1 HNO.out; have X5 := Lib.hid hx5; have heb : (er != 0) = true := (by simp; omega); clear hx5 h1))
    go_ret
    exact FrR.bad K.out (by decide) (.of_ext (X5.out.alloc _))
  | some p =>
    have HPK := Lib.hid hun
    obtain ⟨q0, q1⟩ := unpack_seq hub hun
    have HUB := Lib.hid hub
    clear hun hub
    go_enter Tryz.func97, Tryz.ntmps97
    go_upto_region 4 with (go_at_call 139; (refine UN.out.mono ?_; rintro e w5 ⟨hx5, _, h2⟩; obtain ⟨a5, c5, rfl, hr5, hu5, hs5⟩ := h2 p HPK.out; have X5 := Lib.hid hx5; have R5 := Lib.hid hr5; have U5 := Lib.hid hu5; have S5 := Lib.hid hs5; clear hx5 h2 hr5 hu5 hs5))
    have XA := (Ext.refl w5).alloc (pkB p a5 c5)
    have X6 := Lib.hid (X5.out.trans XA)
    have NB6 := Lib.hid (newB w5 (pkB p a5 c5) _ rfl)
    have BB6 := Lib.hid ((BU.of_row R5.out U5.out S5.out).ext XA (Nat.le_refl _))
    have TB6 : Hid (w5.heap.size ≤ (w5.alloc (pkB p a5 c5)).heap.size) := XA.size
    clear XA R5 U5 S5 UN
    generalize w5.heap.size = g5 at *
    generalize w5.alloc (pkB p a5 c5) = w6 at *
    obtain ⟨b3, b4⟩ := blk NB6.out
    have S6 := Lib.hid (SA.out.ext X6.out)
    have W6 : Hid (base ≤ w6.heap.size) := Nat.le_trans WB.out X6.out.size
    by_cases k2 : p.kind = 2
    · have k2b : (p.kind == 2) = true := by simp [k2]
      have KN := Lib.hid (monKind_wel (s := s) HPK.out k2)
      have WL := Lib.hid (Welcome140 p a5 c5 S6.out W6.out HR.out)
      clear k2
      go_wp2_with (go_at_call 140; (refine WL.out.mono ?_; rintro e w7 h7; have h7e := h7.1; subst h7e; have H7 := Lib.hid h7; clear h7))
      go_ret
      exact H7.out.low (.of_ext X6.out) KN.out.1 KN.out.2
    · have k2b : (p.kind == 2) = false := by simp [k2]
      by_cases k4 : p.kind = 4
      · have k4b : (p.kind == 4) = true := by simp [k4]
        have KN := Lib.hid (monKind_rep (s := s) HPK.out k4)
        have WL := Lib.hid (Reply141 p a5 c5 S6.out W6.out HR.out hask q0 q1 BB6.out TB6.out (B2.out.ext X6.out TB.out) (Nat.le_trans TB.out X6.out.size))
        clear k2 k4
        go_wp2_with (go_at_call 141; (refine WL.out.mono ?_; rintro e w7 h7; have h7e := h7.1; subst h7e; have H7 := Lib.hid h7; clear h7))
        go_ret
        exact H7.out.low (.of_ext X6.out) KN.out.1 KN.out.2
      · have k4b : (p.kind == 4) = false := by simp [k4]
        by_cases k5 : p.kind = 5
        · have k5b : (p.kind == 5) = true := by simp [k5]
          have KN := Lib.hid (monKind_ev (s := s) HPK.out k5)
          have WL := Lib.hid (Event142 p a5 c5 S6.out W6.out HR.out he0 he1 BB6.out TB6.out)
          clear k2 k4 k5
          go_wp2_with (go_at_call 142; (refine WL.out.mono ?_; rintro e w7 h7; have h7e := h7.1; subst h7e; have H7 := Lib.hid h7; clear h7))
          go_ret
          exact H7.out.low (.of_ext X6.out) KN.out.1 KN.out.2
        · have k5b : (p.kind == 5) = false := by simp [k5]
          have KN := Lib.hid (monKind_ref (s := s) HPK.out k2 k4 k5)
          by_cases k6 : p.kind = 6
          · have k6b : (p.kind == 6) = true := by simp [k6]
            by_cases hl : p.body.length = 1
            · have hlb : ((p.body.length : Int) == 1) = true := by simp [hl]
              have K2 : Hid (monKind s b = 0) := by show _ = _; rw [KN.out.1, if_pos k6, if_pos hl]
              clear k2 k4 k5 k6 hl
              go_wp2_with fail
              go_ret
              exact FrR.good K2.out (.of_ext X6.out) (by rw [KN.out.2]; exact S6.out)
            · have hlb : ((p.body.length : Int) == 1) = false := by simp; omega
              have K2 : Hid (monKind s b = 20) := by show _ = _; rw [KN.out.1, if_pos k6, if_neg hl]
              clear k2 k4 k5 k6 hl
              go_wp2_with fail
              go_ret
              exact FrR.bad K2.out (by decide) (.of_ext X6.out)
          · have k6b : (p.kind == 6) = false := by simp [k6]
            have K2 : Hid (monKind s b = 20) := by show _ = _; rw [KN.out.1, if_neg k6]
            clear k2 k4 k5 k6
            go_wp2_with fail
            go_ret
            exact FrR.bad K2.out (by decide) (.of_ext X6.out)
end Go.Proofs.Eff

/- The document's watch: a packet that goes out. -/
namespace Go.Proofs.Eff
open Go.RowKit

/-- What is found of a packet, and the watch behind it. -/
def OutR (w : World) (wb : Nat) (rv av : Option Nat) (K : Int) (N : Mon) (e : Ending) (w' : World) : Prop :=
  e = .returned (.int .i64 K) ∧ Mod (wb :: (rv.toList ++ av.toList)) w w' ∧ (K = 0 → ∃ rv' av', WatchAt w' wb rv' av' N ∧ ((rv' = rv ∧ av' = av) ∨ ∃ r m, rv' = some r ∧ av' = some m ∧ w.heap.size ≤ r ∧ w.heap.size ≤ m ∧ r < w'.heap.size ∧ m < w'.heap.size))
theorem OutR.bad {w w' : World} {wb : Nat} {rv av : Option Nat} {K k : Int} {N : Mon} (h : K = k) (hk : k ≠ 0) (hm : Mod (wb :: (rv.toList ++ av.toList)) w w') : OutR w wb rv av K N (.returned (.int .i64 k)) w' := ⟨by rw [h], hm, fun h0 => absurd (h.symm.trans h0) hk⟩
theorem OutR.good {w w' : World} {wb : Nat} {rv av rv' av' : Option Nat} {K : Int} {N : Mon} (h : K = 0) (hm : Mod (wb :: (rv.toList ++ av.toList)) w w') (hw : WatchAt w' wb rv' av' N) (hs : (rv' = rv ∧ av' = av) ∨ ∃ r m, rv' = some r ∧ av' = some m ∧ w.heap.size ≤ r ∧ w.heap.size ≤ m ∧ r < w'.heap.size ∧ m < w'.heap.size) : OutR w wb rv av K N (.returned (.int .i64 0)) w' := ⟨by rw [h], hm, fun _ => ⟨rv', av', hw, hs⟩⟩
set_option maxRecDepth 100000 in
set_option maxHeartbeats 8000000 in
theorem Out99_2 {w : World} {wb top top2 cb : Nat} {rv av : Option Nat} {ab : Option Addr} {s : Mon} (p : Pkt) (a : Option Addr) (c : Nat) {b : List Int} (h : WatchAt w wb rv av s) (hr : s.replies.length ≤ 1099511627776) (he0 : 0 ≤ s.events) (he1 : s.events ≤ 1099511627776) (_hq0 : 0 ≤ p.seq) (_hq1 : p.seq < 18446744073709551616)
    (hb : BU w top a c p.body) (ht : top ≤ w.heap.size) (hbb : BU w top2 ab cb b) (ht2 : top2 ≤ w.heap.size) (hk : p.kind = 2) :
    Calls Tryz.prog 99 #[.pointer (some ⟨wb, 0, none⟩), pkV p a c, .slice ab b.length cb] w (OutR w wb rv av (welK s p) (welN s p)) := by
  have HKD := Lib.hid hk
  clear hk
  have hwn : IntKind.u64.wrap ((s.replies.length : Int) + 1) = (s.replies.length : Int) + 1 := wrap_u64_in (by omega) (by omega)
  have hwe : IntKind.u64.wrap (s.events + 1) = s.events + 1 := wrap_u64_in (by omega) (by omega)
  have X0 := (Ext.refl w).alloc (pkB p a c)
  have NB := Lib.hid (newB w (pkB p a c) _ rfl)
  have WA := Lib.hid (h.ext X0)
  have EE : Hid (Mod (wb :: (rv.toList ++ av.toList)) w (w.alloc (pkB p a c))) := X0.mod _
  have GR := Lib.hid (GetReply147 (hb.ext X0 ht) (Nat.le_trans ht X0.size))
  have B2 := Lib.hid (hbb.ext X0 ht2)
  have TB2 : Hid (top2 ≤ (w.alloc (pkB p a c)).heap.size) := Nat.le_trans ht2 X0.size
  obtain ⟨ap, ev, hb0, _⟩ := h
  have HB := Lib.hid (X0.keep hb0)
  have hwl := lt_of_block hb0
  have WSZ : Hid (w.heap.size ≤ (w.alloc (pkB p a c)).heap.size) := X0.size
  have hxw : w.heap.size ≠ wb := by omega
  have hwx : wb ≠ w.heap.size := by omega
  clear X0 hb ht hbb ht2 hb0
  go_enter Tryz.func99, Tryz.ntmps99
  obtain ⟨b3, b4⟩ := blk NB.out
  go_upto_region 2 with (go_at_call 147; (refine GR.out.mono ?_; rintro e w2 ⟨⟨k2, a2, n2, c2, t2, rfl⟩, hE⟩; have X3 := hE.alloc (.cells #[.int .i64 k2, .slice a2 n2 c2, .string t2] 262); replace NB := Lib.hid (X3.keep NB.out); replace WA := Lib.hid (WA.out.ext X3); replace EE := Lib.hid (EE.out.ext X3); replace B2 := Lib.hid (B2.out.ext X3 TB2.out); replace TB2 := Lib.hid (Nat.le_trans TB2.out X3.size); replace HB := Lib.hid (X3.keep HB.out); replace WSZ := Lib.hid (Nat.le_trans WSZ.out X3.size); clear X3 hE b3 b4))
  generalize w.heap.size = xb at *
  generalize w2.alloc (.cells #[.int .i64 k2, .slice a2 n2 c2, .string t2] 262) = w3 at *
  obtain ⟨b1, b2⟩ := blk HB.out
  obtain ⟨b3, b4⟩ := blk NB.out
  have k2b : (p.kind == 2) = true := by simp [HKD.out]
  by_cases T0 : s.tok = 0
  · have T0b : (s.tok == 0) = true := by simp [T0]
    have T0c : (s.tok != 0) = false := by simp [T0]
    go_quiet (fail)
    have X := (Ext.refl w3).drewN nq
    replace WA := Lib.hid (WA.out.ext X)
    replace NB := Lib.hid (X.keep NB.out)
    replace HB := Lib.hid (X.keep HB.out)
    replace EE := Lib.hid (EE.out.ext X)
    replace B2 := Lib.hid (B2.out.ext X TB2.out)
    replace TB2 := Lib.hid (Nat.le_trans TB2.out X.size)
    clear b1 b2 b3 b4 X
    generalize w3.drewN nq = w4 at *
    obtain ⟨b1, b2⟩ := blk HB.out
    obtain ⟨b3, b4⟩ := blk NB.out
    by_cases t0 : p.tok = 0
    · have t0b : (p.tok == 0) = true := by simp [t0]
      have K : Hid (welK s p = 21) := by show _ = _; unfold welK; rw [if_pos (.inl t0)]
      clear t0 T0
      go_upto_region 6 with fail
      go_quiet (fail)
      go_wp2
      go_ret
      exact OutR.bad K.out (by decide) (EE.out.ext ((Ext.refl _).drewN _))
    · have t0b : (p.tok == 0) = false := by simp [t0]
      by_cases tM : p.tok ≤ s.most
      · have tMb : decide (p.tok ≤ s.most) = true := by simp [tM]
        have K : Hid (welK s p = 21) := by show _ = _; unfold welK; rw [if_pos (.inr (.inr ⟨T0, tM⟩))]
        clear t0 T0 tM
        go_upto_region 6 with fail
        go_quiet (fail)
        go_wp2
        go_ret
        exact OutR.bad K.out (by decide) (EE.out.ext ((Ext.refl _).drewN _))
      · have tMb : decide (p.tok ≤ s.most) = false := by simp [tM]
        have K : Hid (welK s p = if p.seq ≠ 0 then 22 else if p.ack ≠ 0 then 25 else 0) := by
          show _ = _
          unfold welK
          rw [if_neg (fun h => h.elim t0 (fun h => h.elim (fun h => h.1 T0) (fun h => tM h.2))), if_pos T0]
        have N : Hid (welN s p = { tok := p.tok, most := p.tok, replies := [], asked := [], events := 0, kept := s.kept }) := by show _ = _; unfold welN; rw [if_pos T0]
        clear t0 T0 tM
        go_upto_region 6 with fail
        go_quiet (fail)
        have X := (Ext.refl w4).drewN nq
        replace WA := Lib.hid (WA.out.ext X)
        replace NB := Lib.hid (X.keep NB.out)
        replace HB := Lib.hid (X.keep HB.out)
        replace EE := Lib.hid (EE.out.ext X)
        replace B2 := Lib.hid (B2.out.ext X TB2.out)
        replace TB2 := Lib.hid (Nat.le_trans TB2.out X.size)
        clear b1 b2 b3 b4 X
        generalize w4.drewN nq = w5 at *
        obtain ⟨b1, b2⟩ := blk HB.out
        obtain ⟨b3, b4⟩ := blk NB.out
        have hmm := @run_makeMap Tryz.prog
        have hl5 : wb < w5.heap.size := lt_of_block HB.out
        go_upto_region 10 with fail
        have HB6 := Lib.hid (keepB (keepB (setB (setB (setB (setB (setB (setB HB.out (i := 0) (.int .u64 p.tok)) (i := 1) (.int .u64 p.tok)) (i := 2) (.int .u64 0)) (i := 3) (.map (some w5.heap.size))) (i := 4) (.map (some (w5.heap.size + 1)))) (i := 5) (.int .u64 0)) (.map #[] 0)) (.map #[] 0))
        have MV : Mod [wb] w5 ((((((w5.setCell ⟨wb, 0, none⟩ (.int .u64 p.tok)).setCell ⟨wb, 1, none⟩ (.int .u64 p.tok)).setCell ⟨wb, 2, none⟩ (.int .u64 0)).setCell ⟨wb, 3, none⟩ (.map (some w5.heap.size))).setCell ⟨wb, 4, none⟩ (.map (some (w5.heap.size + 1)))).setCell ⟨wb, 5, none⟩ (.int .u64 0)) := (mod_setCell _ ⟨wb, 0, none⟩ _).trans ((mod_setCell _ ⟨wb, 1, none⟩ _).trans ((mod_setCell _ ⟨wb, 2, none⟩ _).trans ((mod_setCell _ ⟨wb, 3, none⟩ _).trans ((mod_setCell _ ⟨wb, 4, none⟩ _).trans (mod_setCell _ ⟨wb, 5, none⟩ _)))))
        have M6 : Hid (Mod [wb] w5 ((((((((w5.setCell ⟨wb, 0, none⟩ (.int .u64 p.tok)).setCell ⟨wb, 1, none⟩ (.int .u64 p.tok)).setCell ⟨wb, 2, none⟩ (.int .u64 0)).setCell ⟨wb, 3, none⟩ (.map (some w5.heap.size))).setCell ⟨wb, 4, none⟩ (.map (some (w5.heap.size + 1)))).setCell ⟨wb, 5, none⟩ (.int .u64 0)).alloc (.map #[] 0)).alloc (.map #[] 0))) := MV.ext (((Ext.refl _).alloc _).alloc _)
        have MR : MapAt ((((((((w5.setCell ⟨wb, 0, none⟩ (.int .u64 p.tok)).setCell ⟨wb, 1, none⟩ (.int .u64 p.tok)).setCell ⟨wb, 2, none⟩ (.int .u64 0)).setCell ⟨wb, 3, none⟩ (.map (some w5.heap.size))).setCell ⟨wb, 4, none⟩ (.map (some (w5.heap.size + 1)))).setCell ⟨wb, 5, none⟩ (.int .u64 0)).alloc (.map #[] 0)).alloc (.map #[] 0)) w5.heap.size .u64 [] := (MapAt.new ((((((w5.setCell ⟨wb, 0, none⟩ (.int .u64 p.tok)).setCell ⟨wb, 1, none⟩ (.int .u64 p.tok)).setCell ⟨wb, 2, none⟩ (.int .u64 0)).setCell ⟨wb, 3, none⟩ (.map (some w5.heap.size))).setCell ⟨wb, 4, none⟩ (.map (some (w5.heap.size + 1)))).setCell ⟨wb, 5, none⟩ (.int .u64 0)) w5.heap.size (by simp) .u64).keep ((Ext.refl _).alloc _)
        have MA : MapAt ((((((((w5.setCell ⟨wb, 0, none⟩ (.int .u64 p.tok)).setCell ⟨wb, 1, none⟩ (.int .u64 p.tok)).setCell ⟨wb, 2, none⟩ (.int .u64 0)).setCell ⟨wb, 3, none⟩ (.map (some w5.heap.size))).setCell ⟨wb, 4, none⟩ (.map (some (w5.heap.size + 1)))).setCell ⟨wb, 5, none⟩ (.int .u64 0)).alloc (.map #[] 0)).alloc (.map #[] 0)) (w5.heap.size + 1) .u64 [] := MapAt.new _ (w5.heap.size + 1) (by simp) .u64
        have WA6 : Hid (WatchAt ((((((((w5.setCell ⟨wb, 0, none⟩ (.int .u64 p.tok)).setCell ⟨wb, 1, none⟩ (.int .u64 p.tok)).setCell ⟨wb, 2, none⟩ (.int .u64 0)).setCell ⟨wb, 3, none⟩ (.map (some w5.heap.size))).setCell ⟨wb, 4, none⟩ (.map (some (w5.heap.size + 1)))).setCell ⟨wb, 5, none⟩ (.int .u64 0)).alloc (.map #[] 0)).alloc (.map #[] 0)) wb (some w5.heap.size) (some (w5.heap.size + 1)) { tok := p.tok, most := p.tok, replies := [], asked := [], events := 0, kept := s.kept }) :=
          ⟨0, 0, HB6.out, fun _ => ⟨rfl, rfl, _, _, [], [], rfl, rfl, MR, MA, RepM.nil, AskB.nil, by omega⟩⟩
        have NB6 := Lib.hid (M6.out.keep NB.out (by simpa using hxw))
        have EE6 := Lib.hid (EE.out.trans (M6.out.mono (S' := wb :: (rv.toList ++ av.toList)) (by simp)))
        have WS6 : Hid (w.heap.size ≤ w5.heap.size) := EE.out.size
        have LT6 := Lib.hid MA.lt
        clear b1 b2 b3 b4 MV MR MA hmm hl5 M6
        generalize ((((((((w5.setCell ⟨wb, 0, none⟩ (.int .u64 p.tok)).setCell ⟨wb, 1, none⟩ (.int .u64 p.tok)).setCell ⟨wb, 2, none⟩ (.int .u64 0)).setCell ⟨wb, 3, none⟩ (.map (some w5.heap.size))).setCell ⟨wb, 4, none⟩ (.map (some (w5.heap.size + 1)))).setCell ⟨wb, 5, none⟩ (.int .u64 0)).alloc (.map #[] 0)).alloc (.map #[] 0)) = w6 at *
        generalize w5.heap.size = n6 at *
        obtain ⟨b1, b2⟩ := blk HB6.out
        obtain ⟨b3, b4⟩ := blk NB6.out
        by_cases q0 : p.seq = 0
        · have q0b : (p.seq != 0) = false := by simp [q0]
          have K2 : Hid (welK s p = if p.ack ≠ 0 then 25 else 0) := by show _ = _; rw [K.out, if_neg (fun h => h q0)]
          clear q0
          by_cases qa : p.ack = 0
          · have qab : (p.ack != 0) = false := by simp [qa]
            have K3 : Hid (welK s p = 0) := by show _ = _; rw [K2.out, if_neg (fun h => h qa)]
            clear qa
            go_upto_region 12 with fail
            go_quiet (fail)
            go_wp2
            go_ret
            exact OutR.good K3.out (EE6.out.ext ((Ext.refl _).drewN _)) (by rw [N.out]; exact WA6.out.ext ((Ext.refl _).drewN _)) (.inr ⟨_, _, rfl, rfl, by have := WS6.out; omega, by have := WS6.out; omega, by have := LT6.out; show _ < w6.heap.size; omega, LT6.out⟩)
          · have qab : (p.ack != 0) = true := by simp [qa]
            have K3 : Hid (welK s p = 25) := by show _ = _; rw [K2.out, if_pos qa]
            clear qa
            go_upto_region 12 with fail
            go_quiet (fail)
            go_wp2
            go_ret
            exact OutR.bad K3.out (by decide) (EE6.out.ext ((Ext.refl _).drewN _))
        · have q0b : (p.seq != 0) = true := by simp [q0]
          have K2 : Hid (welK s p = 22) := by show _ = _; rw [K.out, if_pos q0]
          clear q0
          go_wp2
          go_ret
          exact OutR.bad K2.out (by decide) EE6.out
  · have T0b : (s.tok == 0) = false := by simp [T0]
    have T0c : (s.tok != 0) = true := by simp [T0]
    have hmp := WA.out
    obtain ⟨ap2, ev2, hb2, hmp⟩ := hmp
    have hcell := HB.out.symm.trans hb2
    simp only [Option.some.injEq, Obj.cells.injEq, Array.mk.injEq, List.cons.injEq, Value.int.injEq, true_and, and_true] at hcell
    obtain ⟨rfl, rfl⟩ := hcell
    obtain ⟨rfl, rfl, _⟩ := hmp T0
    clear hb2
    by_cases tT : p.tok = s.tok
    · have tTb : (p.tok == s.tok) = true := by simp [tT]
      go_quiet (fail)
      have X := (Ext.refl w3).drewN nq
      replace WA := Lib.hid (WA.out.ext X)
      replace NB := Lib.hid (X.keep NB.out)
      replace HB := Lib.hid (X.keep HB.out)
      replace EE := Lib.hid (EE.out.ext X)
      replace B2 := Lib.hid (B2.out.ext X TB2.out)
      replace TB2 := Lib.hid (Nat.le_trans TB2.out X.size)
      clear b1 b2 b3 b4 X
      generalize w3.drewN nq = w4 at *
      obtain ⟨b1, b2⟩ := blk HB.out
      obtain ⟨b3, b4⟩ := blk NB.out
      have N : Hid (welN s p = s) := by show _ = _; unfold welN; rw [if_neg T0]
      by_cases t0 : p.tok = 0
      · exact absurd (tT.symm.trans t0) T0
      · have t0b : (p.tok == 0) = false := by simp [t0]
        have K : Hid (welK s p = if p.seq ≠ 0 then 22 else if p.ack ≠ (s.replies.length : Int) then 25 else 0) := by
          show _ = _
          unfold welK
          rw [if_neg (fun h => h.elim t0 (fun h => h.elim (fun h => h.2 tT) (fun h => T0 h.1))), if_neg T0]
        clear t0 T0 tT tTb
        go_upto_region 6 with fail
        go_quiet (fail)
        have X := (Ext.refl w4).drewN nq
        replace WA := Lib.hid (WA.out.ext X)
        replace NB := Lib.hid (X.keep NB.out)
        replace HB := Lib.hid (X.keep HB.out)
        replace EE := Lib.hid (EE.out.ext X)
        replace B2 := Lib.hid (B2.out.ext X TB2.out)
        replace TB2 := Lib.hid (Nat.le_trans TB2.out X.size)
        clear b1 b2 b3 b4 X
        generalize w4.drewN nq = w5 at *
        obtain ⟨b1, b2⟩ := blk HB.out
        obtain ⟨b3, b4⟩ := blk NB.out
        by_cases q0 : p.seq = 0
        · have q0b : (p.seq != 0) = false := by simp [q0]
          have K2 : Hid (welK s p = if p.ack ≠ (s.replies.length : Int) then 25 else 0) := by show _ = _; rw [K.out, if_neg (fun h => h q0)]
          clear q0
          by_cases qa : p.ack = (s.replies.length : Int)
          · have qab : (p.ack != (s.replies.length : Int)) = false := by simp [qa]
            have K3 : Hid (welK s p = 0) := by show _ = _; rw [K2.out, if_neg (fun h => h qa)]
            clear qa
            go_upto_region 12 with fail
            go_quiet (fail)
            go_wp2
            go_ret
            exact OutR.good K3.out (EE.out.ext ((Ext.refl _).drewN _)) (by rw [N.out]; exact WA.out.ext ((Ext.refl _).drewN _)) (.inl ⟨rfl, rfl⟩)
          · have qab : (p.ack != (s.replies.length : Int)) = true := by simp [qa]
            have K3 : Hid (welK s p = 25) := by show _ = _; rw [K2.out, if_pos qa]
            clear qa
            go_upto_region 12 with fail
            go_quiet (fail)
            go_wp2
            go_ret
            exact OutR.bad K3.out (by decide) (EE.out.ext ((Ext.refl _).drewN _))
        · have q0b : (p.seq != 0) = true := by simp [q0]
          have K2 : Hid (welK s p = 22) := by show _ = _; rw [K.out, if_pos q0]
          clear q0
          go_wp2
          go_ret
          exact OutR.bad K2.out (by decide) EE.out
    · have tTb : (p.tok == s.tok) = false := by simp [tT]
      have K : Hid (welK s p = 21) := by show _ = _; unfold welK; rw [if_pos (.inr (.inl ⟨T0, tT⟩))]
      clear T0 tT
      go_quiet (fail)
      have X := (Ext.refl w3).drewN nq
      replace WA := Lib.hid (WA.out.ext X)
      replace NB := Lib.hid (X.keep NB.out)
      replace HB := Lib.hid (X.keep HB.out)
      replace EE := Lib.hid (EE.out.ext X)
      replace B2 := Lib.hid (B2.out.ext X TB2.out)
      replace TB2 := Lib.hid (Nat.le_trans TB2.out X.size)
      clear b1 b2 b3 b4 X
      generalize w3.drewN nq = w4 at *
      obtain ⟨b1, b2⟩ := blk HB.out
      obtain ⟨b3, b4⟩ := blk NB.out
      by_cases t0 : p.tok = 0
      · have t0b : (p.tok == 0) = true := by simp [t0]
        clear t0 tTb
        go_upto_region 6 with fail
        go_quiet (fail)
        go_wp2
        go_ret
        exact OutR.bad K.out (by decide) (EE.out.ext ((Ext.refl _).drewN _))
      · have t0b : (p.tok == 0) = false := by simp [t0]
        clear t0 tTb
        go_upto_region 6 with fail
        go_quiet (fail)
        go_wp2
        go_ret
        exact OutR.bad K.out (by decide) (EE.out.ext ((Ext.refl _).drewN _))
end Go.Proofs.Eff

/- The document's watch: an event, a refusal, others. -/
namespace Go.Proofs.Eff
open Go.RowKit

/-- What is found of a packet of another kind. -/
def refK (p : Pkt) : Int := if p.kind = 6 then (if p.body.length = 1 then 0 else 20) else 20
set_option maxRecDepth 100000 in
set_option maxHeartbeats 8000000 in
theorem Out99_5 {w : World} {wb top top2 cb : Nat} {rv av : Option Nat} {ab : Option Addr} {s : Mon} (p : Pkt) (a : Option Addr) (c : Nat) {b : List Int} (h : WatchAt w wb rv av s) (hr : s.replies.length ≤ 1099511627776) (he0 : 0 ≤ s.events) (he1 : s.events ≤ 1099511627776) (_hq0 : 0 ≤ p.seq) (_hq1 : p.seq < 18446744073709551616)
    (hb : BU w top a c p.body) (ht : top ≤ w.heap.size) (hbb : BU w top2 ab cb b) (ht2 : top2 ≤ w.heap.size) (hk : p.kind = 5) :
    Calls Tryz.prog 99 #[.pointer (some ⟨wb, 0, none⟩), pkV p a c, .slice ab b.length cb] w (OutR w wb rv av (evK s p) { s with events := s.events + 1 }) := by
  have HKD := Lib.hid hk
  clear hk
  have hwn : IntKind.u64.wrap ((s.replies.length : Int) + 1) = (s.replies.length : Int) + 1 := wrap_u64_in (by omega) (by omega)
  have hwe : IntKind.u64.wrap (s.events + 1) = s.events + 1 := wrap_u64_in (by omega) (by omega)
  have X0 := (Ext.refl w).alloc (pkB p a c)
  have NB := Lib.hid (newB w (pkB p a c) _ rfl)
  have WA := Lib.hid (h.ext X0)
  have EE : Hid (Mod (wb :: (rv.toList ++ av.toList)) w (w.alloc (pkB p a c))) := X0.mod _
  have GR := Lib.hid (GetReply147 (hb.ext X0 ht) (Nat.le_trans ht X0.size))
  have B2 := Lib.hid (hbb.ext X0 ht2)
  have TB2 : Hid (top2 ≤ (w.alloc (pkB p a c)).heap.size) := Nat.le_trans ht2 X0.size
  obtain ⟨ap, ev, hb0, _⟩ := h
  have HB := Lib.hid (X0.keep hb0)
  have hwl := lt_of_block hb0
  have WSZ : Hid (w.heap.size ≤ (w.alloc (pkB p a c)).heap.size) := X0.size
  have hxw : w.heap.size ≠ wb := by omega
  have hwx : wb ≠ w.heap.size := by omega
  clear X0 hb ht hbb ht2 hb0
  go_enter Tryz.func99, Tryz.ntmps99
  obtain ⟨b3, b4⟩ := blk NB.out
  go_upto_region 2 with (go_at_call 147; (refine GR.out.mono ?_; rintro e w2 ⟨⟨k2, a2, n2, c2, t2, rfl⟩, hE⟩; have X3 := hE.alloc (.cells #[.int .i64 k2, .slice a2 n2 c2, .string t2] 262); replace NB := Lib.hid (X3.keep NB.out); replace WA := Lib.hid (WA.out.ext X3); replace EE := Lib.hid (EE.out.ext X3); replace B2 := Lib.hid (B2.out.ext X3 TB2.out); replace TB2 := Lib.hid (Nat.le_trans TB2.out X3.size); replace HB := Lib.hid (X3.keep HB.out); replace WSZ := Lib.hid (Nat.le_trans WSZ.out X3.size); clear X3 hE b3 b4))
  generalize w.heap.size = xb at *
  generalize w2.alloc (.cells #[.int .i64 k2, .slice a2 n2 c2, .string t2] 262) = w3 at *
  obtain ⟨b1, b2⟩ := blk HB.out
  obtain ⟨b3, b4⟩ := blk NB.out
  have k2b : (p.kind == 2) = false := by simp [HKD.out]
  have k4b : (p.kind == 4) = false := by simp [HKD.out]
  have k5b : (p.kind == 5) = true := by simp [HKD.out]
  by_cases ho : s.tok ≠ 0 ∧ p.tok = s.tok
  · have T0c : (s.tok != 0) = true := by simp [ho.1]
    have tTb : (p.tok == s.tok) = true := by simp [ho.2]
    have K : Hid (evK s p = if p.seq ≠ s.events + 1 then 22 else if p.ack ≠ s.replies.length then 25 else if replyP p.body = false then 20 else 0) := by
      show _ = _; unfold evK; rw [if_neg (fun h => h.elim ho.1 (fun h => h ho.2))]
    have hmp := WA.out
    obtain ⟨ap2, ev2, hb2, hmp⟩ := hmp
    have hcell := HB.out.symm.trans hb2
    simp only [Option.some.injEq, Obj.cells.injEq, Array.mk.injEq, List.cons.injEq, Value.int.injEq, true_and, and_true] at hcell
    obtain ⟨rfl, rfl⟩ := hcell
    obtain ⟨rfl, rfl, rm, am, lr, la, rfl, rfl, hmr, hma, hRM, hAB, hne⟩ := hmp ho.1
    have MPS := Lib.hid (show s.tok ≠ 0 from ho.1)
    clear ho hb2 hmr hma hRM hAB
    go_quiet (fail)
    have X := (Ext.refl w3).drewN nq
    replace WA := Lib.hid (WA.out.ext X)
    replace NB := Lib.hid (X.keep NB.out)
    replace HB := Lib.hid (X.keep HB.out)
    replace EE := Lib.hid (EE.out.ext X)
    replace B2 := Lib.hid (B2.out.ext X TB2.out)
    replace TB2 := Lib.hid (Nat.le_trans TB2.out X.size)
    clear b1 b2 b3 b4 X
    generalize w3.drewN nq = w4 at *
    obtain ⟨b1, b2⟩ := blk HB.out
    obtain ⟨b3, b4⟩ := blk NB.out
    go_upto_region 34 with fail
    by_cases q0 : p.seq = s.events + 1
    · have q0b : (p.seq != s.events + 1) = false := by simp [q0]
      have K2 : Hid (evK s p = if p.ack ≠ s.replies.length then 25 else if replyP p.body = false then 20 else 0) := by show _ = _; rw [K.out, if_neg (fun h => h q0)]
      clear q0
      go_quiet (fail)
      have X := (Ext.refl w4).drewN nq
      replace WA := Lib.hid (WA.out.ext X)
      replace NB := Lib.hid (X.keep NB.out)
      replace HB := Lib.hid (X.keep HB.out)
      replace EE := Lib.hid (EE.out.ext X)
      replace B2 := Lib.hid (B2.out.ext X TB2.out)
      replace TB2 := Lib.hid (Nat.le_trans TB2.out X.size)
      clear b1 b2 b3 b4 X
      generalize w4.drewN nq = w5 at *
      obtain ⟨b1, b2⟩ := blk HB.out
      obtain ⟨b3, b4⟩ := blk NB.out
      go_upto_region 36 with fail
      by_cases qa : p.ack = (s.replies.length : Int)
      · have qab : (p.ack != (s.replies.length : Int)) = false := by simp [qa]
        have K3 : Hid (evK s p = if replyP p.body = false then 20 else 0) := by show _ = _; rw [K2.out, if_neg (fun h => h qa)]
        clear qa
        go_quiet (fail)
        have X := (Ext.refl w5).drewN nq
        replace WA := Lib.hid (WA.out.ext X)
        replace NB := Lib.hid (X.keep NB.out)
        replace HB := Lib.hid (X.keep HB.out)
        replace EE := Lib.hid (EE.out.ext X)
        replace B2 := Lib.hid (B2.out.ext X TB2.out)
        replace TB2 := Lib.hid (Nat.le_trans TB2.out X.size)
        clear b1 b2 b3 b4 X
        generalize w5.drewN nq = w6 at *
        obtain ⟨b1, b2⟩ := blk HB.out
        obtain ⟨b3, b4⟩ := blk NB.out
        cases hrp : replyP p.body with
        | false =>
          have K4 : Hid (evK s p = 20) := by show _ = _; rw [K3.out, if_pos hrp]
          go_wp2
          go_ret
          exact OutR.bad K4.out (by decide) EE.out
        | true =>
          have K4 : Hid (evK s p = 0) := by show _ = _; rw [K3.out, if_neg (by rw [hrp]; decide)]
          go_wp2
          go_ret
          have m5 := mod_setCell w6 ⟨wb, 5, none⟩ (.int .u64 (s.events + 1))
          refine OutR.good K4.out (EE.out.trans (m5.mono (by simp))) (rv' := some rm) (av' := some am) ?_ (.inl ⟨rfl, rfl⟩)
          obtain ⟨ap3, ev3, hb3, hmp3⟩ := WA.out
          obtain ⟨e1, e2, rm2, am2, lr2, la2, e3, e4, hmr, hma, hRM, hAB, hne2⟩ := hmp3 MPS.out
          cases e3
          cases e4
          exact ⟨_, _, setB HB.out _, fun _ => ⟨rfl, rfl, rm, am, lr2, la2, rfl, rfl, hmr.mod m5 (by have := hmr.ne_cells hb3; simpa using this.symm), hma.mod m5 (by have := hma.ne_cells hb3; simpa using this.symm), hRM, hAB, hne⟩⟩
      · have qab : (p.ack != (s.replies.length : Int)) = true := by simp [qa]
        have K3 : Hid (evK s p = 25) := by show _ = _; rw [K2.out, if_pos qa]
        clear qa
        go_quiet (fail)
        go_wp2
        go_ret
        exact OutR.bad K3.out (by decide) (EE.out.ext ((Ext.refl _).drewN _))
    · have q0b : (p.seq != s.events + 1) = true := by simp [q0]
      have K2 : Hid (evK s p = 22) := by show _ = _; rw [K.out, if_pos q0]
      clear q0
      go_quiet (fail)
      go_wp2
      go_ret
      exact OutR.bad K2.out (by decide) (EE.out.ext ((Ext.refl _).drewN _))
  · have K : Hid (evK s p = 21) := by
      show _ = _; unfold evK
      rw [if_pos]
      by_cases h0 : s.tok = 0
      · exact .inl h0
      · exact .inr (fun h => ho ⟨h0, h⟩)
    have HO : Hid (s.tok ≠ 0 → p.tok ≠ s.tok) := fun h0 h => ho ⟨h0, h⟩
    clear ho
    by_cases T0 : s.tok = 0
    · have T0b : (s.tok == 0) = true := by simp [T0]
      have T0c : (s.tok != 0) = false := by simp [T0]
      clear T0
      go_quiet (fail)
      go_wp2
      go_ret
      exact OutR.bad K.out (by decide) (EE.out.ext ((Ext.refl _).drewN _))
    · have T0b : (s.tok == 0) = false := by simp [T0]
      have T0c : (s.tok != 0) = true := by simp [T0]
      have tTb : (p.tok == s.tok) = false := by have := HO.out T0; simpa using this
      clear T0
      go_quiet (fail)
      go_wp2
      go_ret
      exact OutR.bad K.out (by decide) (EE.out.ext ((Ext.refl _).drewN _))
set_option maxRecDepth 100000 in
set_option maxHeartbeats 8000000 in
theorem Out99_x {w : World} {wb top top2 cb : Nat} {rv av : Option Nat} {ab : Option Addr} {s : Mon} (p : Pkt) (a : Option Addr) (c : Nat) {b : List Int} (h : WatchAt w wb rv av s) (hr : s.replies.length ≤ 1099511627776) (he0 : 0 ≤ s.events) (he1 : s.events ≤ 1099511627776) (_hq0 : 0 ≤ p.seq) (_hq1 : p.seq < 18446744073709551616)
    (hb : BU w top a c p.body) (ht : top ≤ w.heap.size) (hbb : BU w top2 ab cb b) (ht2 : top2 ≤ w.heap.size) (hk : p.kind ≠ 2 ∧ p.kind ≠ 4 ∧ p.kind ≠ 5) :
    Calls Tryz.prog 99 #[.pointer (some ⟨wb, 0, none⟩), pkV p a c, .slice ab b.length cb] w (OutR w wb rv av (refK p) s) := by
  have HKD := Lib.hid hk
  clear hk
  have hwn : IntKind.u64.wrap ((s.replies.length : Int) + 1) = (s.replies.length : Int) + 1 := wrap_u64_in (by omega) (by omega)
  have hwe : IntKind.u64.wrap (s.events + 1) = s.events + 1 := wrap_u64_in (by omega) (by omega)
  have X0 := (Ext.refl w).alloc (pkB p a c)
  have NB := Lib.hid (newB w (pkB p a c) _ rfl)
  have WA := Lib.hid (h.ext X0)
  have EE : Hid (Mod (wb :: (rv.toList ++ av.toList)) w (w.alloc (pkB p a c))) := X0.mod _
  have GR := Lib.hid (GetReply147 (hb.ext X0 ht) (Nat.le_trans ht X0.size))
  have B2 := Lib.hid (hbb.ext X0 ht2)
  have TB2 : Hid (top2 ≤ (w.alloc (pkB p a c)).heap.size) := Nat.le_trans ht2 X0.size
  obtain ⟨ap, ev, hb0, _⟩ := h
  have HB := Lib.hid (X0.keep hb0)
  have hwl := lt_of_block hb0
  have WSZ : Hid (w.heap.size ≤ (w.alloc (pkB p a c)).heap.size) := X0.size
  have hxw : w.heap.size ≠ wb := by omega
  have hwx : wb ≠ w.heap.size := by omega
  clear X0 hb ht hbb ht2 hb0
  go_enter Tryz.func99, Tryz.ntmps99
  obtain ⟨b3, b4⟩ := blk NB.out
  go_upto_region 2 with (go_at_call 147; (refine GR.out.mono ?_; rintro e w2 ⟨⟨k2, a2, n2, c2, t2, rfl⟩, hE⟩; have X3 := hE.alloc (.cells #[.int .i64 k2, .slice a2 n2 c2, .string t2] 262); replace NB := Lib.hid (X3.keep NB.out); replace WA := Lib.hid (WA.out.ext X3); replace EE := Lib.hid (EE.out.ext X3); replace B2 := Lib.hid (B2.out.ext X3 TB2.out); replace TB2 := Lib.hid (Nat.le_trans TB2.out X3.size); replace HB := Lib.hid (X3.keep HB.out); replace WSZ := Lib.hid (Nat.le_trans WSZ.out X3.size); clear X3 hE b3 b4))
  generalize w.heap.size = xb at *
  generalize w2.alloc (.cells #[.int .i64 k2, .slice a2 n2 c2, .string t2] 262) = w3 at *
  obtain ⟨b1, b2⟩ := blk HB.out
  obtain ⟨b3, b4⟩ := blk NB.out
  have k2b : (p.kind == 2) = false := by simp [HKD.out.1]
  have k4b : (p.kind == 4) = false := by simp [HKD.out.2.1]
  have k5b : (p.kind == 5) = false := by simp [HKD.out.2.2]
  by_cases T0 : s.tok = 0
  · have T0b : (s.tok == 0) = true := by simp [T0]
    have T0c : (s.tok != 0) = false := by simp [T0]
    clear T0
    go_quiet (fail)
    by_cases k6 : p.kind = 6
    · have k6b : (p.kind == 6) = true := by simp [k6]
      by_cases hl : p.body.length = 1
      · have hlb : ((p.body.length : Int) != 1) = false := by simp [hl]
        have K2 : Hid (refK p = 0) := by show _ = _; unfold refK; rw [if_pos k6, if_pos hl]
        clear k6 hl
        go_wp2
        go_ret
        exact OutR.good K2.out (EE.out.ext ((Ext.refl _).drewN _)) (WA.out.ext ((Ext.refl _).drewN _)) (.inl ⟨rfl, rfl⟩)
      · have hlb : ((p.body.length : Int) != 1) = true := by simp; omega
        have K2 : Hid (refK p = 20) := by show _ = _; unfold refK; rw [if_pos k6, if_neg hl]
        clear k6 hl
        go_wp2
        go_ret
        exact OutR.bad K2.out (by decide) (EE.out.ext ((Ext.refl _).drewN _))
    · have k6b : (p.kind == 6) = false := by simp [k6]
      have K2 : Hid (refK p = 20) := by show _ = _; unfold refK; rw [if_neg k6]
      clear k6
      go_wp2
      go_ret
      exact OutR.bad K2.out (by decide) (EE.out.ext ((Ext.refl _).drewN _))
  · have T0b : (s.tok == 0) = false := by simp [T0]
    have T0c : (s.tok != 0) = true := by simp [T0]
    clear T0
    by_cases tT : p.tok = s.tok
    · have tTb : (p.tok == s.tok) = true := by simp [tT]
      clear tT
      go_quiet (fail)
      by_cases k6 : p.kind = 6
      · have k6b : (p.kind == 6) = true := by simp [k6]
        by_cases hl : p.body.length = 1
        · have hlb : ((p.body.length : Int) != 1) = false := by simp [hl]
          have K2 : Hid (refK p = 0) := by show _ = _; unfold refK; rw [if_pos k6, if_pos hl]
          clear k6 hl
          go_wp2
          go_ret
          exact OutR.good K2.out (EE.out.ext ((Ext.refl _).drewN _)) (WA.out.ext ((Ext.refl _).drewN _)) (.inl ⟨rfl, rfl⟩)
        · have hlb : ((p.body.length : Int) != 1) = true := by simp; omega
          have K2 : Hid (refK p = 20) := by show _ = _; unfold refK; rw [if_pos k6, if_neg hl]
          clear k6 hl
          go_wp2
          go_ret
          exact OutR.bad K2.out (by decide) (EE.out.ext ((Ext.refl _).drewN _))
      · have k6b : (p.kind == 6) = false := by simp [k6]
        have K2 : Hid (refK p = 20) := by show _ = _; unfold refK; rw [if_neg k6]
        clear k6
        go_wp2
        go_ret
        exact OutR.bad K2.out (by decide) (EE.out.ext ((Ext.refl _).drewN _))
    · have tTb : (p.tok == s.tok) = false := by simp [tT]
      clear tT
      go_quiet (fail)
      by_cases k6 : p.kind = 6
      · have k6b : (p.kind == 6) = true := by simp [k6]
        by_cases hl : p.body.length = 1
        · have hlb : ((p.body.length : Int) != 1) = false := by simp [hl]
          have K2 : Hid (refK p = 0) := by show _ = _; unfold refK; rw [if_pos k6, if_pos hl]
          clear k6 hl
          go_wp2
          go_ret
          exact OutR.good K2.out (EE.out.ext ((Ext.refl _).drewN _)) (WA.out.ext ((Ext.refl _).drewN _)) (.inl ⟨rfl, rfl⟩)
        · have hlb : ((p.body.length : Int) != 1) = true := by simp; omega
          have K2 : Hid (refK p = 20) := by show _ = _; unfold refK; rw [if_pos k6, if_neg hl]
          clear k6 hl
          go_wp2
          go_ret
          exact OutR.bad K2.out (by decide) (EE.out.ext ((Ext.refl _).drewN _))
      · have k6b : (p.kind == 6) = false := by simp [k6]
        have K2 : Hid (refK p = 20) := by show _ = _; unfold refK; rw [if_neg k6]
        clear k6
        go_wp2
        go_ret
        exact OutR.bad K2.out (by decide) (EE.out.ext ((Ext.refl _).drewN _))
end Go.Proofs.Eff

/- The document's watch: a reply. -/
namespace Go.Proofs.Eff
open Go.RowKit

theorem zero9 (w : World) : (zeroValue 9).run Tryz.prog w = .ok (.string (strOfNums [])) w := by kernel_rfl
theorem zero4 (w : World) : (zeroValue 4).run Tryz.prog w = .ok (.bool false) w := by kernel_rfl
set_option maxRecDepth 100000 in
set_option maxHeartbeats 8000000 in
theorem Out99_4 {w : World} {wb top top2 cb : Nat} {rv av : Option Nat} {ab : Option Addr} {s : Mon} (p : Pkt) (a : Option Addr) (c : Nat) {b : List Int} (h : WatchAt w wb rv av s) (hr : s.replies.length ≤ 1099511627776) (he0 : 0 ≤ s.events) (he1 : s.events ≤ 1099511627776) (hq0 : 0 ≤ p.seq) (hq1 : p.seq < 18446744073709551616)
    (hb : BU w top a c p.body) (ht : top ≤ w.heap.size) (hbb : BU w top2 ab cb b) (ht2 : top2 ≤ w.heap.size) (htw : top2 ≤ wb) (hru : ∀ r, r ∈ s.replies → U8s r) (hk : p.kind = 4) :
    Calls Tryz.prog 99 #[.pointer (some ⟨wb, 0, none⟩), pkV p a c, .slice ab b.length cb] w (OutR w wb rv av (repK s p b) (repN s p b)) := by
  have HKD := Lib.hid hk
  clear hk
  have hwn : IntKind.u64.wrap ((s.replies.length : Int) + 1) = (s.replies.length : Int) + 1 := wrap_u64_in (by omega) (by omega)
  have hwe : IntKind.u64.wrap (s.events + 1) = s.events + 1 := wrap_u64_in (by omega) (by omega)
  have X0 := (Ext.refl w).alloc (pkB p a c)
  have NB := Lib.hid (newB w (pkB p a c) _ rfl)
  have WA := Lib.hid (h.ext X0)
  have EE : Hid (Mod (wb :: (rv.toList ++ av.toList)) w (w.alloc (pkB p a c))) := X0.mod _
  have GR := Lib.hid (GetReply147 (hb.ext X0 ht) (Nat.le_trans ht X0.size))
  have B2 := Lib.hid (hbb.ext X0 ht2)
  have TB2 : Hid (top2 ≤ (w.alloc (pkB p a c)).heap.size) := Nat.le_trans ht2 X0.size
  obtain ⟨ap, ev, hb0, _⟩ := h
  have HB := Lib.hid (X0.keep hb0)
  have hwl := lt_of_block hb0
  have WSZ : Hid (w.heap.size ≤ (w.alloc (pkB p a c)).heap.size) := X0.size
  have hxw : w.heap.size ≠ wb := by omega
  have hwx : wb ≠ w.heap.size := by omega
  clear X0 hb ht hbb ht2 hb0
  go_enter Tryz.func99, Tryz.ntmps99
  obtain ⟨b3, b4⟩ := blk NB.out
  go_upto_region 2 with (go_at_call 147; (refine GR.out.mono ?_; rintro e w2 ⟨⟨k2, a2, n2, c2, t2, rfl⟩, hE⟩; have X3 := hE.alloc (.cells #[.int .i64 k2, .slice a2 n2 c2, .string t2] 262); replace NB := Lib.hid (X3.keep NB.out); replace WA := Lib.hid (WA.out.ext X3); replace EE := Lib.hid (EE.out.ext X3); replace B2 := Lib.hid (B2.out.ext X3 TB2.out); replace TB2 := Lib.hid (Nat.le_trans TB2.out X3.size); replace HB := Lib.hid (X3.keep HB.out); replace WSZ := Lib.hid (Nat.le_trans WSZ.out X3.size); clear X3 hE b3 b4))
  generalize w.heap.size = xb at *
  generalize w2.alloc (.cells #[.int .i64 k2, .slice a2 n2 c2, .string t2] 262) = w3 at *
  obtain ⟨b1, b2⟩ := blk HB.out
  obtain ⟨b3, b4⟩ := blk NB.out
  have k2b : (p.kind == 2) = false := by simp [HKD.out]
  have k4b : (p.kind == 4) = true := by simp [HKD.out]
  have HRU := Lib.hid hru
  clear hru
  by_cases ho : s.tok ≠ 0 ∧ p.tok = s.tok
  · have T0c : (s.tok != 0) = true := by simp [ho.1]
    have tTb : (p.tok == s.tok) = true := by simp [ho.2]
    have K : Hid (repK s p b = if p.seq = 0 ∨ (s.replies.length : Int) + 1 < p.seq then 22 else if replyP p.body = false then 20
       else if p.seq ≤ s.replies.length then (if b ≠ (s.replies[(p.seq - 1).toNat]?).getD [] then 24 else 0)
       else if p.seq ∉ s.asked then 23 else if p.ack ≠ p.seq then 25 else 0) := by
      show _ = _; unfold repK; rw [if_neg (fun h => h.elim ho.1 (fun h => h ho.2))]
    have hmp := WA.out
    obtain ⟨ap2, ev2, hb2, hmp⟩ := hmp
    have hcell := HB.out.symm.trans hb2
    simp only [Option.some.injEq, Obj.cells.injEq, Array.mk.injEq, List.cons.injEq, Value.int.injEq, true_and, and_true] at hcell
    obtain ⟨rfl, rfl⟩ := hcell
    obtain ⟨rfl, rfl, rm, am, lr, la, rfl, rfl, hmr, hma, hRM, hAB, hne⟩ := hmp ho.1
    have MPS := Lib.hid (show s.tok ≠ 0 from ho.1)
    clear ho hb2 hmr hma hRM hAB
    go_quiet (fail)
    have X := (Ext.refl w3).drewN nq
    replace WA := Lib.hid (WA.out.ext X)
    replace NB := Lib.hid (X.keep NB.out)
    replace HB := Lib.hid (X.keep HB.out)
    replace EE := Lib.hid (EE.out.ext X)
    replace B2 := Lib.hid (B2.out.ext X TB2.out)
    replace TB2 := Lib.hid (Nat.le_trans TB2.out X.size)
    clear b1 b2 b3 b4 X
    generalize w3.drewN nq = w4 at *
    obtain ⟨b1, b2⟩ := blk HB.out
    obtain ⟨b3, b4⟩ := blk NB.out
    go_upto_region 17 with fail
    by_cases s0 : p.seq = 0
    · have s0b : (p.seq == 0) = true := by simp [s0]
      have K2 : Hid (repK s p b = 22) := by show _ = _; rw [K.out, if_pos (.inl s0)]
      clear s0
      go_quiet (fail)
      go_wp2
      go_ret
      exact OutR.bad K2.out (by decide) (EE.out.ext ((Ext.refl _).drewN _))
    · have s0b : (p.seq == 0) = false := by simp [s0]
      by_cases s1 : (s.replies.length : Int) + 1 < p.seq
      · have s1b : decide ((s.replies.length : Int) + 1 < p.seq) = true := by simp [s1]
        have K2 : Hid (repK s p b = 22) := by show _ = _; rw [K.out, if_pos (.inr s1)]
        clear s0 s1
        go_quiet (fail)
        go_wp2
        go_ret
        exact OutR.bad K2.out (by decide) (EE.out.ext ((Ext.refl _).drewN _))
      · have s1b : decide ((s.replies.length : Int) + 1 < p.seq) = false := by simp [s1]
        have K2 : Hid (repK s p b = if replyP p.body = false then 20
            else if p.seq ≤ s.replies.length then (if b ≠ (s.replies[(p.seq - 1).toNat]?).getD [] then 24 else 0)
            else if p.seq ∉ s.asked then 23 else if p.ack ≠ p.seq then 25 else 0) := by show _ = _; rw [K.out, if_neg (fun h => h.elim s0 s1)]
        have S0 := Lib.hid s0
        have S1 := Lib.hid s1
        clear s0 s1
        go_quiet (fail)
        have X := (Ext.refl w4).drewN nq
        replace WA := Lib.hid (WA.out.ext X)
        replace NB := Lib.hid (X.keep NB.out)
        replace HB := Lib.hid (X.keep HB.out)
        replace EE := Lib.hid (EE.out.ext X)
        replace B2 := Lib.hid (B2.out.ext X TB2.out)
        replace TB2 := Lib.hid (Nat.le_trans TB2.out X.size)
        clear b1 b2 b3 b4 X
        generalize w4.drewN nq = w5 at *
        obtain ⟨b1, b2⟩ := blk HB.out
        obtain ⟨b3, b4⟩ := blk NB.out
        cases hrp : replyP p.body with
        | false =>
          have K4 : Hid (repK s p b = 20) := by show _ = _; rw [K2.out, if_pos hrp]
          go_wp2
          go_ret
          exact OutR.bad K4.out (by decide) EE.out
        | true =>
          have K3 : Hid (repK s p b = if p.seq ≤ s.replies.length then (if b ≠ (s.replies[(p.seq - 1).toNat]?).getD [] then 24 else 0)
            else if p.seq ∉ s.asked then 23 else if p.ack ≠ p.seq then 25 else 0) := by show _ = _; rw [K2.out, if_neg (by rw [hrp]; decide)]
          clear K K2
          go_upto_region 21 with fail
          by_cases hold : p.seq ≤ (s.replies.length : Int)
          · have hob : decide (p.seq ≤ (s.replies.length : Int)) = true := by simp [hold]
            have K4 : Hid (repK s p b = if b ≠ (s.replies[(p.seq - 1).toNat]?).getD [] then 24 else 0) := by show _ = _; rw [K3.out, if_pos hold]
            have N : Hid (repN s p b = s) := by show _ = _; unfold repN; rw [if_pos hold]
            have HO := Lib.hid hold
            clear hold
            go_quiet (fail)
            have X := (Ext.refl w5).drewN nq
            replace WA := Lib.hid (WA.out.ext X)
            replace NB := Lib.hid (X.keep NB.out)
            replace HB := Lib.hid (X.keep HB.out)
            replace EE := Lib.hid (EE.out.ext X)
            replace B2 := Lib.hid (B2.out.ext X TB2.out)
            replace TB2 := Lib.hid (Nat.le_trans TB2.out X.size)
            clear b1 b2 b3 b4 X
            generalize w5.drewN nq = w6 at *
            obtain ⟨b1, b2⟩ := blk HB.out
            obtain ⟨b3, b4⟩ := blk NB.out
            obtain ⟨ap3, ev3, hb3, hmp3⟩ := WA.out
            obtain ⟨e1, e2, rm2, am2, lr2, la2, e3, e4, hmr, hma, hRM, hAB, hne2⟩ := hmp3 MPS.out
            cases e3
            cases e4
            have hlk := run_lookup_at (P := Tryz.prog) w6.drew Tryz.underlying202 Tryz.underlying55 (hmr.keep (Ext.refl _).drew) (.string (strOfNums [])) zero9 p.seq
            rw [hRM.get (by have := S0.out; omega) HO.out] at hlk
            have cv := (B2.out.ext (Ext.refl w6).drew TB2.out).conv (Nat.le_trans TB2.out (Ext.refl w6).drew.size)
            have hin := str_beq (l1 := (s.replies[(p.seq - 1).toNat]?).getD []) (l2 := b) (by
              cases hg : s.replies[(p.seq - 1).toNat]? with
              | none => intro y hy; simp at hy
              | some r => exact HRU.out r (List.mem_of_getElem? hg)) B2.out.u8
            clear hb3 hmp3 hmr hma hRM hAB
            generalize (s.replies[(p.seq - 1).toNat]?).getD [] = r0 at *
            by_cases hq : r0 = b
            · have hqb : ((strOfNums r0).toList == (strOfNums b).toList) = true := by rw [hin]; simp [hq]
              have K5 : Hid (repK s p b = 0) := by show _ = _; rw [K4.out, if_neg (fun h => h hq.symm)]
              clear hq hin
              generalize strOfNums r0 = B0 at *
              generalize strOfNums b = B1 at *
              go_upto_region 22 with fail
              go_region
              go_wp2
              go_ret
              exact OutR.good K5.out (EE.out.ext (Ext.refl _).drew) (by rw [N.out]; exact WA.out.ext (Ext.refl _).drew) (.inl ⟨rfl, rfl⟩)
            · have hqb : ((strOfNums r0).toList == (strOfNums b).toList) = false := by rw [hin]; simp [hq]
              have K5 : Hid (repK s p b = 24) := by show _ = _; rw [K4.out, if_pos (fun h => hq h.symm)]
              clear hq hin
              generalize strOfNums r0 = B0 at *
              generalize strOfNums b = B1 at *
              go_upto_region 22 with fail
              go_region
              go_wp2
              go_ret
              exact OutR.bad K5.out (by decide) (EE.out.ext (Ext.refl _).drew)
          · have hob : decide (p.seq ≤ (s.replies.length : Int)) = false := by simp [hold]
            have K4 : Hid (repK s p b = if p.seq ∉ s.asked then 23 else if p.ack ≠ p.seq then 25 else 0) := by show _ = _; rw [K3.out, if_neg hold]
            have N : Hid (repN s p b = { s with replies := s.replies ++ [b] }) := by show _ = _; unfold repN; rw [if_neg hold]
            have hsn : Hid (p.seq = s.replies.length + 1) := by have := S1.out; show _ = _; omega
            clear hold K3
            go_quiet (fail)
            have X := (Ext.refl w5).drewN nq
            replace WA := Lib.hid (WA.out.ext X)
            replace NB := Lib.hid (X.keep NB.out)
            replace HB := Lib.hid (X.keep HB.out)
            replace EE := Lib.hid (EE.out.ext X)
            replace B2 := Lib.hid (B2.out.ext X TB2.out)
            replace TB2 := Lib.hid (Nat.le_trans TB2.out X.size)
            clear b1 b2 b3 b4 X
            generalize w5.drewN nq = w6 at *
            obtain ⟨b1, b2⟩ := blk HB.out
            obtain ⟨b3, b4⟩ := blk NB.out
            obtain ⟨ap3, ev3, hb3, hmp3⟩ := WA.out
            obtain ⟨e1, e2, rm2, am2, lr2, la2, e3, e4, hmr, hma, hRM, hAB, hne2⟩ := hmp3 MPS.out
            cases e3
            cases e4
            have hlk := run_lookup_at (P := Tryz.prog) w6.drew Tryz.underlying203 Tryz.underlying55 (hma.keep (Ext.refl _).drew) (.bool false) zero4 p.seq
            rw [hAB.get] at hlk
            have MR := Lib.hid hmr
            have MA := Lib.hid hma
            have RM := Lib.hid hRM
            have AB := Lib.hid hAB
            clear hb3 hmp3 hmr hma hRM hAB
            go_upto_region 25 with fail
            by_cases hc : p.seq ∈ s.asked
            · have hcb : decide (p.seq ∈ s.asked) = true := by simp [hc]
              have K5 : Hid (repK s p b = if p.ack ≠ p.seq then 25 else 0) := by show _ = _; rw [K4.out, if_neg (fun h => h hc)]
              rw [hcb] at hlk
              clear hc hcb
              go_region
              have X := (Ext.refl w6).drew
              have M8 := mod_setCell w6.drew ⟨wb, 2, none⟩ (.int .u64 ((s.replies.length : Int) + 1))
              have q1 : rm ∉ [wb] := by have := MR.out.ne_cells HB.out; simpa using this.symm
              have q2 : am ∉ [wb] := by have := MA.out.ne_cells HB.out; simpa using this.symm
              have HB7 := Lib.hid (X.keep HB.out)
              have HB8 := Lib.hid (setB (X.keep HB.out) (i := 2) (.int .u64 ((s.replies.length : Int) + 1)))
              have NB8 := Lib.hid (M8.keep (X.keep NB.out) (by simpa using hxw))
              have MR8 := Lib.hid ((MR.out.keep X).mod M8 q1)
              have MA8 := Lib.hid ((MA.out.keep X).mod M8 q2)
              have EE8 := Lib.hid ((EE.out.ext X).trans (M8.mono (S' := wb :: ((some rm).toList ++ (some am).toList)) (by simp)))
              have V8 := Lib.hid ((B2.out.ext X TB2.out).mod M8 (Nat.le_trans TB2.out X.size) (by simp; omega))
              have TB8 : Hid (top2 ≤ (w6.drew.setCell ⟨wb, 2, none⟩ (.int .u64 ((s.replies.length : Int) + 1))).heap.size) := Nat.le_trans TB2.out (Nat.le_trans X.size M8.size)
              have NB7 := Lib.hid (X.keep NB.out)
              clear b1 b2 b3 b4 X M8 hlk q1 q2
              obtain ⟨b1, b2⟩ := blk HB7.out
              obtain ⟨b3, b4⟩ := blk NB7.out
              generalize w6.drew = w7 at *
              go_upto_region 28 with fail
              generalize w7.setCell ⟨wb, 2, none⟩ (.int .u64 ((s.replies.length : Int) + 1)) = w8 at *
              obtain ⟨w9, hup, hm9, hmod9⟩ := run_mapUpdate_int (P := Tryz.prog) w8.drew Tryz.underlying202 Tryz.underlying55 (MR8.out.keep (Ext.refl _).drew) p.seq (.string (strOfNums b))
              have hmod : Mod [rm] w8 w9 := ((Ext.refl w8).drew.mod [rm]).trans hmod9
              have cv := (V8.out.ext (Ext.refl w8).drew TB8.out).conv (Nat.le_trans TB8.out (Ext.refl w8).drew.size)
              have q3 : wb ∉ [rm] := by have := MR8.out.ne_cells HB8.out; simpa using this
              have q4 : xb ∉ [rm] := by have := MR8.out.ne_cells NB8.out; simpa using this
              have q5 : am ∉ [rm] := by simpa using hne.symm
              have NB9 := Lib.hid (hmod.keep NB8.out q4)
              have EE9 := Lib.hid (EE8.out.trans (hmod.mono (S' := wb :: ((some rm).toList ++ (some am).toList)) (by simp)))
              have WA9 : Hid (WatchAt w9 wb (some rm) (some am) { s with replies := s.replies ++ [b] }) :=
                ⟨_, _, hmod.keep HB8.out q3, fun _ => ⟨by simp, rfl, rm, am, _, la2, rfl, rfl, hm9, MA8.out.mod hmod q5, RM.out.put b hsn.out, AB.out, hne⟩⟩
              clear b1 b2 b3 b4 hm9 hmod9 hmod q3 q4 q5
              obtain ⟨b1, b2⟩ := blk HB8.out
              obtain ⟨b3, b4⟩ := blk NB8.out
              obtain ⟨b5, b6⟩ := blk NB9.out
              go_region
              by_cases hac : p.ack = p.seq
              · have hacb : (p.ack != p.seq) = false := by simp [hac]
                have K6 : Hid (repK s p b = 0) := by show _ = _; rw [K5.out, if_neg (fun h => h hac)]
                clear hac
                go_wp2
                go_ret
                exact OutR.good K6.out EE9.out (by rw [N.out]; exact WA9.out) (.inl ⟨rfl, rfl⟩)
              · have hacb : (p.ack != p.seq) = true := by simp [hac]
                have K6 : Hid (repK s p b = 25) := by show _ = _; rw [K5.out, if_pos hac]
                clear hac
                go_wp2
                go_ret
                exact OutR.bad K6.out (by decide) EE9.out
            · have hcb : decide (p.seq ∈ s.asked) = false := by simp [hc]
              have K5 : Hid (repK s p b = 23) := by show _ = _; rw [K4.out, if_pos hc]
              rw [hcb] at hlk
              clear hc hcb
              go_region
              go_wp2
              go_ret
              exact OutR.bad K5.out (by decide) (EE.out.ext (Ext.refl _).drew)
  · have K : Hid (repK s p b = 21) := by
      show _ = _; unfold repK
      rw [if_pos]
      by_cases h0 : s.tok = 0
      · exact .inl h0
      · exact .inr (fun h => ho ⟨h0, h⟩)
    have HO : Hid (s.tok ≠ 0 → p.tok ≠ s.tok) := fun h0 h => ho ⟨h0, h⟩
    clear ho
    by_cases T0 : s.tok = 0
    · have T0b : (s.tok == 0) = true := by simp [T0]
      have T0c : (s.tok != 0) = false := by simp [T0]
      clear T0
      go_quiet (fail)
      go_wp2
      go_ret
      exact OutR.bad K.out (by decide) (EE.out.ext ((Ext.refl _).drewN _))
    · have T0b : (s.tok == 0) = false := by simp [T0]
      have T0c : (s.tok != 0) = true := by simp [T0]
      have tTb : (p.tok == s.tok) = false := by have := HO.out T0; simpa using this
      clear T0
      go_quiet (fail)
      go_wp2
      go_ret
      exact OutR.bad K.out (by decide) (EE.out.ext ((Ext.refl _).drewN _))
end Go.Proofs.Eff

/- Plain laws of what passed, and of the document's session as it lies. -/
namespace Go.Proofs.Eff
open Go.RowKit

theorem Out99 {w : World} {wb top top2 cb : Nat} {rv av : Option Nat} {ab : Option Addr} {s : Mon} {p : Pkt} {a : Option Addr} {c : Nat} {b : List Int} (hun : unpack b = some p) (h : WatchAt w wb rv av s) (hr : s.replies.length ≤ 1099511627776) (he0 : 0 ≤ s.events) (he1 : s.events ≤ 1099511627776)
    (hb : BU w top a c p.body) (ht : top ≤ w.heap.size) (hbb : BU w top2 ab cb b) (ht2 : top2 ≤ w.heap.size) (htw : top2 ≤ wb) (hru : ∀ r, r ∈ s.replies → U8s r) :
    Calls Tryz.prog 99 #[.pointer (some ⟨wb, 0, none⟩), pkV p a c, .slice ab b.length cb] w (OutR w wb rv av (monKind s b) (monNext s b)) := by
  obtain ⟨q0, q1⟩ := unpack_seq hbb.u8 hun
  by_cases k2 : p.kind = 2
  · rw [(monKind_wel hun k2).1, (monKind_wel hun k2).2]
    exact Out99_2 p a c h hr he0 he1 q0 q1 hb ht hbb ht2 k2
  · by_cases k4 : p.kind = 4
    · rw [(monKind_rep hun k4).1, (monKind_rep hun k4).2]
      exact Out99_4 p a c h hr he0 he1 q0 q1 hb ht hbb ht2 htw hru k4
    · by_cases k5 : p.kind = 5
      · rw [(monKind_ev hun k5).1, (monKind_ev hun k5).2]
        exact Out99_5 p a c h hr he0 he1 q0 q1 hb ht hbb ht2 k5
      · rw [(monKind_ref hun k2 k4 k5).1, (monKind_ref hun k2 k4 k5).2]
        exact Out99_x p a c h hr he0 he1 q0 q1 hb ht hbb ht2 ⟨k2, k4, k5⟩
theorem monU_next {s : Mon} {b : List Int} (h : ∀ r, r ∈ s.replies → U8s r) (hb : U8s b) : ∀ r, r ∈ (monNext s b).replies → U8s r := by
  unfold monNext
  split
  · exact h
  · split
    · split
      · intro r hr; cases hr
      · exact h
    · split
      · split
        · exact h
        · intro r hr
          rcases List.mem_append.1 hr with hr | hr
          · exact h r hr
          · simp only [List.mem_cons, List.not_mem_nil, or_false] at hr
            subst hr; exact hb
      · split
        · exact h
        · exact h
/-- What passed, and the slice of its bytes. -/
abbrev Psx := Psd × Option Addr × Nat
theorem sess_step {s : Mon} {k : Nat} {l : List Psx} {x : Psx} (hk : l[k]? = some x) : sessG s k ((l.drop k).map (·.1)) =
    if x.1.cut then sessG { s with kept := [] } (k + 1) ((l.drop (k + 1)).map (·.1))
    else if x.1.out then (if monKind s x.1.bytes = 0 then sessG (monNext s x.1.bytes) (k + 1) ((l.drop (k + 1)).map (·.1)) else (monKind s x.1.bytes, k))
    else sessG (monIn { s with kept := (scanP (s.kept ++ x.1.bytes)).2 } (scanP (s.kept ++ x.1.bytes)).1) (k + 1) ((l.drop (k + 1)).map (·.1)) := by
  obtain ⟨hl, rfl⟩ := List.getElem?_eq_some_iff.1 hk
  rw [List.drop_eq_getElem_cons hl, List.map_cons]
  rfl
theorem sess_end (s : Mon) (k : Nat) (l : List Psx) (h : l.length ≤ k) : sessG s k ((l.drop k).map (·.1)) = (0, 0) := by
  rw [List.drop_eq_nil_of_le h]; rfl
/-- What passed lies there. -/
structure PsdsAt (W : World) (top : Nat) (ad : Option Addr) (l : List Psx) : Prop where
  row : 0 < l.length → ∃ g off, ad = some ⟨g, off, none⟩ ∧ g < top ∧ ∀ k x, l[k]? = some x → W.cell? ⟨g, off + k * 3, none⟩ = some (.bool x.1.out) ∧ W.cell? ⟨g, off + k * 3 + 1, none⟩ = some (.bool x.1.cut) ∧ W.cell? ⟨g, off + k * 3 + 2, none⟩ = some (.slice x.2.1 x.1.bytes.length x.2.2)
  each : ∀ x, x ∈ l → BU W top x.2.1 x.2.2 x.1.bytes ∧ x.1.bytes.length ≤ 1048576
theorem PsdsAt.keep {W W' : World} {top : Nat} {ad : Option Addr} {l : List Psx} (h : PsdsAt W top ad l) (hk : ∀ k, k < top → W'.heap[k]? = W.heap[k]?) : PsdsAt W' top ad l := by
  refine ⟨fun h0 => ?_, fun x hx => ⟨(h.each x hx).1.keep hk, (h.each x hx).2⟩⟩
  obtain ⟨g, off, e1, e2, e3⟩ := h.row h0
  refine ⟨g, off, e1, e2, fun k x hx => ?_⟩
  obtain ⟨c0, c1, c2⟩ := e3 k x hx
  exact ⟨(World.cell?_of_block (a := ⟨g, off + k * 3, none⟩) (hk g e2)).trans c0, (World.cell?_of_block (a := ⟨g, off + k * 3 + 1, none⟩) (hk g e2)).trans c1, (World.cell?_of_block (a := ⟨g, off + k * 3 + 2, none⟩) (hk g e2)).trans c2⟩
theorem PsdsAt.ext {W W' : World} {top : Nat} {ad : Option Addr} {l : List Psx} (h : PsdsAt W top ad l) (hx : Ext W W') (ht : top ≤ W.heap.size) : PsdsAt W' top ad l := h.keep fun k hk => hx.block (by omega)

/-- The document's session between two frames. -/
structure RefI (w0 wr : World) (wb rb : Nat) (rv av : Option Nat) (s : Mon) : Prop where
  ext : Ext w0 wr
  watch : WatchAt wr wb rv av s
  rd : ∃ ka kc d, wr.heap[rb]? = some (.cells #[.slice ka s.kept.length kc, .int .i64 d] 208) ∧ BU wr wr.heap.size ka kc s.kept ∧ ∀ kd : Addr, ka = some kd → kd.block ≠ wb ∧ kd.block ≠ rb ∧ kd.block < wr.heap.size ∧ (∀ g, rv = some g ∨ av = some g → kd.block ≠ g)
  low : w0.heap.size < wb ∧ w0.heap.size < rb ∧ (∀ g, rv = some g ∨ av = some g → w0.heap.size < g ∧ g < wr.heap.size ∧ g ≠ rb)
  res : wr.heap[w0.heap.size]? = some (.cells #[.int .i64 0, .int .i64 0] 51)
theorem Ext.off {a w w' : World} {S : List Nat} (h : Ext a w) (hm : Mod S w w') (hs : ∀ x, x ∈ S → a.heap.size ≤ x) : Ext a w' :=
  ⟨hm.os.trans h.os, hm.tape.trans h.tape, hm.output.trans h.output, Nat.le_trans h.size hm.size, fun k hk => by
    rw [hm.block k (Nat.lt_of_lt_of_le hk h.size) (fun hx => by have := hs k hx; omega)]
    exact h.block hk⟩
section
variable {w0 wr w' : World} {wb rb : Nat} {rv av : Option Nat} {s : Mon}
theorem RefI.wbrb (h : RefI w0 wr wb rb rv av s) : wb ≠ rb := by
  obtain ⟨_, _, h1, _⟩ := h.watch
  obtain ⟨_, _, _, h2, _⟩ := h.rd
  intro e
  subst e
  rw [h1] at h2
  simp at h2
theorem RefI.extd (h : RefI w0 wr wb rb rv av s) (hx : Ext wr w') : RefI w0 w' wb rb rv av s := by
  obtain ⟨h1, h2, ⟨ka, kc, d, h3, h4, h5⟩, ⟨h6, h7, h8⟩, h9⟩ := h
  exact ⟨h1.trans hx, h2.ext hx, ⟨ka, kc, d, hx.keep h3, (h4.ext hx (Nat.le_refl _)).up hx.size, fun kd e => ⟨(h5 kd e).1, (h5 kd e).2.1, Nat.lt_of_lt_of_le (h5 kd e).2.2.1 hx.size, (h5 kd e).2.2.2⟩⟩, ⟨h6, h7, fun g hg => ⟨(h8 g hg).1, Nat.lt_of_lt_of_le (h8 g hg).2.1 hx.size, (h8 g hg).2.2⟩⟩, hx.keep h9⟩
theorem RefI.cut (h : RefI w0 wr wb rb rv av s) : RefI w0 (wr.alloc (.cells #[.slice none 0 0, .int .i64 0] 208)) wb wr.heap.size rv av { s with kept := [] } := by
  have hx := (Ext.refl wr).alloc (.cells #[.slice none 0 0, .int .i64 0] 208)
  obtain ⟨h1, h2, _, ⟨h6, h7, h8⟩, h9⟩ := h
  have hsz : w0.heap.size < wr.heap.size := lt_of_block h9
  exact ⟨h1.trans hx, h2.ext hx, ⟨none, 0, 0, newB _ _ _ rfl, BU.nil _ _, fun _ e => by cases e⟩, ⟨h6, hsz, fun g hg => ⟨(h8 g hg).1, Nat.lt_of_lt_of_le (h8 g hg).2.1 hx.size, by have := (h8 g hg).2.1; omega⟩⟩, hx.keep h9⟩
/-- A chunk was fed and taken. -/
theorem RefI.in {w1 w2 : World} {c : List Int} {ka : Option Addr} {kc : Nat} {d : Int} {l : List Pkt} (h : RefI w0 wr wb rb rv av s) (hm : Mod [rb] wr w1) (hb : w1.heap[rb]? = some (.cells #[.slice ka c.length kc, .int .i64 d] 208)) (hu : BU w1 w1.heap.size ka kc c) (hf : ∀ ad, ka = some ad → wr.heap.size ≤ ad.block ∧ ad.block < w1.heap.size)
    (hm2 : Mod (wb :: av.toList) w1 w2) (hw : WatchAt w2 wb rv av (monIn { s with kept := c } l)) : RefI w0 w2 wb rb rv av (monIn { s with kept := c } l) := by
  have hne := h.wbrb
  obtain ⟨h1, h2, _, ⟨h6, h7, h8⟩, h9⟩ := h
  have hwl := h2.lt
  have hk := (monIn_same { s with kept := c } l).1
  have hS : ∀ x, x ∈ (wb :: av.toList) → w0.heap.size < x ∧ x < wr.heap.size ∧ x ≠ rb := fun x hx => by
    rcases List.mem_cons.1 hx with rfl | hx
    · exact ⟨h6, hwl, hne⟩
    · exact h8 x (.inr (by simpa using hx))
  refine ⟨?_, hw, ⟨ka, kc, d, ?_, ?_, fun kd e => ?_⟩, ⟨h6, h7, fun g hg => ⟨(h8 g hg).1, Nat.lt_of_lt_of_le (h8 g hg).2.1 (Nat.le_trans hm.size hm2.size), (h8 g hg).2.2⟩⟩, ?_⟩
  · exact (h1.off hm (by simp; omega)).off hm2 (fun x hx => by have := (hS x hx).1; omega)
  · rw [hk]; exact hm2.keep hb (fun hx => (hS rb hx).2.2 rfl)
  · rw [hk]
    exact (hu.stay hm2 (Nat.le_refl _) (fun ad e hx => by have := hf ad e; have := (hS _ hx).2.1; omega)).up hm2.size
  · have h10 := hf kd e
    refine ⟨by omega, ?_, Nat.lt_of_lt_of_le h10.2 hm2.size, fun g hg => by have := (h8 g hg).2.1; omega⟩
    have := lt_of_block hb
    obtain ⟨_, _, _, h11, _⟩ := (show ∃ ka kc d, wr.heap[rb]? = some (.cells #[.slice ka s.kept.length kc, .int .i64 d] 208) ∧ True from by rename_i h12; obtain ⟨a, b, c, e1, _⟩ := h12; exact ⟨a, b, c, e1, trivial⟩)
    have := lt_of_block h11
    omega
  · exact hm2.keep (hm.keep h9 (by simp; omega)) (fun hx => by have := (hS _ hx).1; omega)
theorem RefI.mem (h : RefI w0 wr wb rb rv av s) : ∀ x, x ∈ (wb :: (rv.toList ++ av.toList)) → w0.heap.size < x ∧ x < wr.heap.size := fun x hx => by
  rcases List.mem_cons.1 hx with rfl | hx
  · exact ⟨h.low.1, h.watch.lt⟩
  · have hx2 : rv = some x ∨ av = some x := (List.mem_append.1 hx).elim (fun h => .inl (by simpa using h)) (fun h => .inr (by simpa using h))
    exact ⟨(h.low.2.2 x hx2).1, (h.low.2.2 x hx2).2.1⟩
theorem RefI.after (h : RefI w0 wr wb rb rv av s) (hm : Mod (wb :: (rv.toList ++ av.toList)) wr w') : Ext w0 w' ∧ w'.heap[w0.heap.size]? = some (.cells #[.int .i64 0, .int .i64 0] 51) :=
  ⟨h.ext.off hm (fun x hx => Nat.le_of_lt (h.mem x hx).1), hm.keep h.res (fun hx => Nat.lt_irrefl _ (h.mem _ hx).1)⟩
/-- A frame went out. -/
theorem RefI.out {s' : Mon} {rv' av' : Option Nat} (h : RefI w0 wr wb rb rv av s) (hm : Mod (wb :: (rv.toList ++ av.toList)) wr w') (hw : WatchAt w' wb rv' av' s') (hk : s'.kept = s.kept) (hs : (rv' = rv ∧ av' = av) ∨ ∃ r m, rv' = some r ∧ av' = some m ∧ wr.heap.size ≤ r ∧ wr.heap.size ≤ m ∧ r < w'.heap.size ∧ m < w'.heap.size) : RefI w0 w' wb rb rv' av' s' := by
  have hne := h.wbrb
  obtain ⟨h1, h2, ⟨ka, kc, d, h3, h4, h5⟩, ⟨h6, h7, h8⟩, h9⟩ := h
  have hrl := lt_of_block h3
  have hS : ∀ x, x ∈ (wb :: (rv.toList ++ av.toList)) → w0.heap.size < x ∧ x ≠ rb ∧ ∀ kd : Addr, ka = some kd → kd.block ≠ x := fun x hx => by
    rcases List.mem_cons.1 hx with rfl | hx
    · exact ⟨h6, hne, fun kd e => (h5 kd e).1⟩
    · have hx2 : rv = some x ∨ av = some x := (List.mem_append.1 hx).elim (fun h => .inl (by simpa using h)) (fun h => .inr (by simpa using h))
      exact ⟨(h8 x hx2).1, (h8 x hx2).2.2, fun kd e => (h5 kd e).2.2.2 x hx2⟩
  have hsz := lt_of_block h9
  refine ⟨h1.off hm (fun x hx => by have := (hS x hx).1; omega), hw, ⟨ka, kc, d, ?_, ?_, fun kd e => ⟨(h5 kd e).1, (h5 kd e).2.1, Nat.lt_of_lt_of_le (h5 kd e).2.2.1 hm.size, fun g hg => ?_⟩⟩, ⟨h6, h7, fun g hg => ?_⟩, hm.keep h9 (fun hx => by have := (hS _ hx).1; omega)⟩
  · rw [hk]; exact hm.keep h3 (fun hx => (hS rb hx).2.1 rfl)
  · rw [hk]; exact (h4.stay hm (Nat.le_refl _) (fun ad e hx => (hS _ hx).2.2 ad e rfl)).up hm.size
  · rcases hs with ⟨rfl, rfl⟩ | ⟨r, m, rfl, rfl, hr, hm2, _, _⟩
    · exact (h5 kd e).2.2.2 g hg
    · have e3 := (h5 kd e).2.2.1
      rcases hg with hg | hg <;> cases hg <;> simp only [ne_eq] <;> omega
  · rcases hs with ⟨rfl, rfl⟩ | ⟨r, m, rfl, rfl, hr, hm2, hr3, hm3⟩
    · exact ⟨(h8 g hg).1, Nat.lt_of_lt_of_le (h8 g hg).2.1 hm.size, (h8 g hg).2.2⟩
    · rcases hg with hg | hg <;> cases hg <;> exact ⟨by omega, by omega, by omega⟩
end
end Go.Proofs.Eff

/- The document's session. -/
namespace Go.Proofs.Eff
open Go.RowKit

theorem monNext_kept (s : Mon) (b : List Int) : (monNext s b).kept = s.kept := by
  unfold monNext
  split
  · rfl
  · split
    · split <;> rfl
    · split
      · split <;> rfl
      · split <;> rfl
theorem setTwo {w : World} {b : Nat} {u v : Value} {T : TypeId} (h : w.heap[b]? = some (.cells #[u, v] T)) (x y : Value) : ((w.setCell ⟨b, 0, none⟩ x).setCell ⟨b, 1, none⟩ y).heap[b]? = some (.cells #[x, y] T) := setB (setB h _) _
/-- What a session is behind so many frames. -/
def SessR (w : World) (l : List Psx) (r : Int × Nat) (wb k : Nat) (rb : Nat) (rv av : Option Nat) (s : Mon) (wr : World) : Prop :=
  RefI w wr wb rb rv av s ∧ MonB s k ∧ (∀ y, y ∈ s.replies → U8s y) ∧ sessG s k ((l.drop k).map (·.1)) = r
set_option maxRecDepth 100000 in
set_option maxHeartbeats 8000000 in
theorem Session37 {w : World} {ad : Option Addr} {c : Nat} {l : List Psx} (h : PsdsAt w w.heap.size ad l) (hn : l.length ≤ 1048576) :
    Calls Tryz.prog 37 #[.slice ad l.length c] w (FindR w ((sessG {} 0 (l.map (·.1))).1, ((sessG {} 0 (l.map (·.1))).2 : Int))) := by
  have H := Lib.hid h
  obtain ⟨r, hr⟩ : ∃ r, sessG {} 0 (l.map (·.1)) = r := ⟨_, rfl⟩
  rw [hr]
  have HR := Lib.hid hr
  clear h hr
  go_enter Tryz.func37, Tryz.ntmps37
  go_wp2_with fail
  have I0 : Hid (RefI w (((w.alloc (.cells #[.int .i64 0, .int .i64 0] 51)).alloc (.cells #[.int .u64 0, .int .u64 0, .int .u64 0, .map none, .map none, .int .u64 0] 205)).alloc (.cells #[.slice none 0 0, .int .i64 0] 208)) (w.heap.size + 1) (w.heap.size + 1 + 1) none none {}) :=
    ⟨(((Ext.refl w).alloc _).alloc _).alloc _, ⟨0, 0, keepB (newB _ _ _ (by first | rfl | simp)) _, fun h => absurd rfl h⟩, ⟨none, 0, 0, newB _ _ _ (by simp), BU.nil _ _, fun _ e => (by cases e)⟩, ⟨by omega, by omega, fun g hg => (by rcases hg with hg | hg <;> exact absurd hg (by simp))⟩, keepB (keepB (newB _ _ _ rfl) _) _⟩
  generalize ((w.alloc (.cells #[.int .i64 0, .int .i64 0] 51)).alloc (.cells #[.int .u64 0, .int .u64 0, .int .u64 0, .map none, .map none, .int .u64 0] 205)).alloc (.cells #[.slice none 0 0, .int .i64 0] 208) = w3 at *
  obtain ⟨rsb, hrs⟩ : ∃ n, n = w.heap.size := ⟨_, rfl⟩
  rw [← hrs] at I0
  rw [← hrs]
  obtain ⟨wb, hwb⟩ : ∃ n, n = rsb + 1 := ⟨_, rfl⟩
  obtain ⟨rb0, hrb0⟩ : ∃ n, n = rsb + 1 + 1 := ⟨_, rfl⟩
  rw [← hrb0, ← hwb] at I0
  rw [← hrb0, ← hwb]
  have HRS := Lib.hid hrs
  clear hwb hrb0 hrs
  go_loopw [5, 4] (fun i rp wr => ∃ (k : Nat) (s : Mon) (rb : Nat) (rv av : Option Nat), k ≤ l.length ∧ i = .int .i64 k ∧ rp = .pointer (some ⟨rb, 0, none⟩) ∧ SessR w l r wb k rb rv av s wr) (fun i _ _ => l.length - (intOf i).toNat)
  case atStart => exact ⟨0, {}, rb0, none, none, Nat.zero_le _, rfl, rfl, I0.out, MonB.start, fun y hy => (by cases hy), HR.out⟩
  case round =>
    obtain ⟨k, s, rb, rv, av, hk, rfl, rfl, hI, hB, hU, hG⟩ := hrel
    have I := Lib.hid hI
    have MB := Lib.hid hB
    have MU := Lib.hid hU
    have SG := Lib.hid hG
    have RES : Hid (wr.heap[rsb]? = some (.cells #[.int .i64 0, .int .i64 0] 51)) := by show _ = _; rw [HRS.out]; exact hI.res
    clear hI hB hU hG
    by_cases hlt : k < l.length
    · obtain ⟨x, hx⟩ : ∃ x, l[k]? = some x := ⟨l[k], by simp [hlt]⟩
      have PA := Lib.hid (H.out.ext I.out.ext (Nat.le_refl _))
      obtain ⟨g, off, rfl, hg1, hcells⟩ := PA.out.row (by omega)
      obtain ⟨c0, c1, c2⟩ := hcells k x hx
      obtain ⟨hbu, hbl⟩ := PA.out.each x (List.mem_of_getElem? hx)
      have ST := Lib.hid (sess_step (s := s) hx)
      have BUX := Lib.hid hbu
      have hwsz := I.out.ext.size
      have hki : (k : Int) < (l.length : Int) := by omega
      have hgw : g < wr.heap.size := by omega
      clear hcells hbu hx
      obtain ⟨⟨po, pc, pb⟩, pa, pcap⟩ := x
      simp only at c0 c1 c2 hbl
      cases pc with
      | true =>
        have S2 := Lib.hid I.out.cut
        have G2 : Hid (sessG { s with kept := [] } (k + 1) ((l.drop (k + 1)).map (·.1)) = r) := by
          show _ = _
          have := ST.out
          rw [SG.out] at this
          exact this.symm
        go_wp2
        go_roundw
        case rel => exact ⟨k + 1, _, _, rv, av, by omega, by go_num, rfl, S2.out, MB.out.cut, MU.out, G2.out⟩
        case measure => simp [intOf]; omega
      | false =>
        cases po with
        | true =>
          have UN := Lib.hid (Unpack98 BUX.out hwsz)
          cases hun : unpack pb with
          | none =>
            have KK : Hid (r = (20, k)) := by
              show _ = _
              have h7 := ST.out
              rw [SG.out] at h7
              rw [h7]
              have h8 := monKind_none (s := s) hun
              simp [h8]
            have HNO := Lib.hid hun
            clear hun
            go_wp2_with (first
              | (go_at_call 98; (refine UN.out.mono ?_; rintro e w5 ⟨hx5, h1, _⟩; obtain ⟨er, e0, e1, rfl⟩ := h1 HNO.out; have X5 := Lib.hid hx5; have heb : (er != 0) = true := (by simp; omega); have R5 := Lib.hid (hx5.keep RES.out); clear hx5 h1))
              | (go_at_call 60; (refine (find60s _ 20 k).mono ?_; rintro e w6 ⟨rfl, hE6⟩; have X6 := Lib.hid ((X5.out.alloc (.cells #[.int .i64 0, .int .u64 0, .int .u64 0, .int .u64 0, .slice none 0 0] 211)).trans hE6); have R6 := Lib.hid (X6.out.keep RES.out); obtain ⟨y1, y2⟩ := blk R6.out; clear hE6)))
            have hZ := setTwo R6.out (.int .i64 20) (.int .i64 (k : Int))
            have XF : Ext w ((w6.setCell ⟨rsb, 0, none⟩ (.int .i64 20)).setCell ⟨rsb, 1, none⟩ (.int .i64 (k : Int))) := (Ext.setCell (I.out.ext.trans X6.out) (p := ⟨rsb, 0, none⟩) (Nat.le_of_eq HRS.out.symm) _).setCell (p := ⟨rsb, 1, none⟩) (Nat.le_of_eq HRS.out.symm) _
            generalize (w6.setCell ⟨rsb, 0, none⟩ (.int .i64 20)).setCell ⟨rsb, 1, none⟩ (.int .i64 (k : Int)) = Z at *
            obtain ⟨z1, z2⟩ := blk hZ
            refine bodyPost_ret (v := .agg #[.int .i64 20, .int .i64 (k : Int)]) (by simp [results, Tryz.results37, go_sem, z1]) rfl ⟨by first | (rw [KK.out]; rfl) | rw [KK.out], XF⟩
          | some p =>
            have HPK := Lib.hid hun
            clear hun
            go_upto_region 13 with (go_at_call 98; (refine UN.out.mono ?_; rintro e w5 ⟨hx5, _, h2⟩; obtain ⟨a5, c5, rfl, hr5, hu5, hs5⟩ := h2 p HPK.out; have X5 := Lib.hid hx5; have R5 := Lib.hid hr5; have U5 := Lib.hid hu5; have S5 := Lib.hid hs5; clear hx5 h2 hr5 hu5 hs5))
            have XA := (Ext.refl w5).alloc (pkB p a5 c5)
            have X6 := Lib.hid (X5.out.trans XA)
            have NB6 := Lib.hid (newB w5 (pkB p a5 c5) _ rfl)
            have BB6 := Lib.hid ((BU.of_row R5.out U5.out S5.out).ext XA (Nat.le_refl _))
            have TB6 : Hid (w5.heap.size ≤ (w5.alloc (pkB p a5 c5)).heap.size) := XA.size
            have HG5 : Hid (wr.heap.size ≤ w5.heap.size) := X5.out.size
            clear XA R5 U5 S5 UN
            generalize w5.heap.size = g5 at *
            generalize w5.alloc (pkB p a5 c5) = w6 at *
            have I6 := Lib.hid (I.out.extd X6.out)
            have B6 := Lib.hid (BUX.out.ext X6.out hwsz)
            have d0 := (X6.out.cell (p := ⟨g, off + k * 3 + 2, none⟩) hgw).trans c2
            obtain ⟨b3, b4⟩ := blk NB6.out
            have X7 := (Ext.refl w6).drew
            have hmr := MB.out.rep
            have he0 := MB.out.ev0
            have he1 := MB.out.ev1
            have hgt := I.out.low.1
            have OUT := Lib.hid (Out99 HPK.out (I6.out.watch.ext X7) (by omega) he0 (by omega) (BB6.out.ext X7 TB6.out) (Nat.le_trans TB6.out X7.size) (B6.out.ext X7 (Nat.le_trans hwsz X6.out.size)) (Nat.le_trans hwsz (Nat.le_trans X6.out.size X7.size)) (Nat.le_of_lt hgt) MU.out)
            have hxb6 := lt_of_block NB6.out
            have hg6 : g < w6.heap.size := Nat.lt_of_lt_of_le hgw X6.out.size
            have notS : ∀ y, (y < w.heap.size ∨ y = g5) → y ∉ (wb :: (rv.toList ++ av.toList)) := fun y hy hm => by
              have h7 := I.out.mem y hm
              have := HG5.out
              omega
            have XS : Hid (∀ W, Mod (wb :: (rv.toList ++ av.toList)) w6.drew W → W.cell? ⟨g5, 0, none⟩ = some (.int .i64 p.kind) ∧ W.cell? ⟨g5, 1, none⟩ = some (.int .u64 p.tok) ∧ W.cell? ⟨g5, 2, none⟩ = some (.int .u64 p.seq) ∧ W.cell? ⟨g5, 3, none⟩ = some (.int .u64 p.ack) ∧ W.cell? ⟨g5, 4, none⟩ = some (.slice a5 p.body.length c5) ∧ W.cell? ⟨g, off + k * 3 + 2, none⟩ = some (.slice pa pb.length pcap)) := fun W hM => by
              have hz := blk (hM.keep (X7.keep NB6.out) (notS g5 (.inr rfl)))
              refine ⟨by rw [hz.1]; rfl, by rw [hz.1]; rfl, by rw [hz.1]; rfl, by rw [hz.1]; rfl, by rw [hz.1]; rfl, ?_⟩
              rw [World.cell?_of_block (a := ⟨g, off + k * 3 + 2, none⟩) ((hM.block g hg6 (notS g (.inl hg1))).trans (X7.block hg6))]
              exact d0
            clear notS X7
            go_region_held3 (fun W => W.cell? ⟨g5, 0, none⟩ = some (.int .i64 p.kind) ∧ W.cell? ⟨g5, 1, none⟩ = some (.int .u64 p.tok) ∧ W.cell? ⟨g5, 2, none⟩ = some (.int .u64 p.seq) ∧ W.cell? ⟨g5, 3, none⟩ = some (.int .u64 p.ack) ∧ W.cell? ⟨g5, 4, none⟩ = some (.slice a5 p.body.length c5) ∧ W.cell? ⟨g, off + k * 3 + 2, none⟩ = some (.slice pa pb.length pcap)) (first | exact XS.out _ (Mod.refl _ _) | exact XS.out _ H7.out.2.1) ((go_at_call 99; refine OUT.out.mono ?_; rintro e w7 h7; have h7e := h7.1; subst h7e; have H7 := Lib.hid h7; clear h7))
            have I7 := Lib.hid (I6.out.extd (Ext.refl w6).drew)
            have AF := Lib.hid (I7.out.after H7.out.2.1)
            by_cases hK : monKind s pb = 0
            · have hKb : (monKind s pb != 0) = false := by simp [hK]
              obtain ⟨rv', av', hw7, hs7⟩ := H7.out.2.2 hK
              have I8 := Lib.hid (I7.out.out H7.out.2.1 hw7 (monNext_kept s pb) hs7)
              have G2 : Hid (sessG (monNext s pb) (k + 1) ((l.drop (k + 1)).map (·.1)) = r) := by
                show _ = _
                have h9 := ST.out
                rw [SG.out] at h9
                rw [h9]
                simp [hK]
              have M2 := Lib.hid (MB.out.next pb)
              have U2 := Lib.hid (monU_next MU.out BUX.out.u8)
              clear hK hw7 hs7
              generalize monKind s pb = K at *
              generalize monNext s pb = s2 at *
              go_wp2
              go_roundw
              case rel => exact ⟨k + 1, _, _, rv', av', by omega, by go_num, rfl, I8.out, M2.out, U2.out, G2.out⟩
              case measure => simp [intOf]; omega
            · have hKb : (monKind s pb != 0) = true := by simp [hK]
              have KK : Hid (r = (monKind s pb, k)) := by
                show _ = _
                have h9 := ST.out
                rw [SG.out] at h9
                rw [h9]
                simp [hK]
              clear hK
              generalize monKind s pb = K at *
              go_wp2_with (go_at_call 60; (refine (find60s _ K k).mono ?_; rintro e w8 ⟨rfl, hE8⟩; have X8 := Lib.hid (AF.out.1.trans hE8); have R8 : Hid (w8.heap[rsb]? = some (.cells #[.int .i64 0, .int .i64 0] 51)) := (by show _ = _; rw [HRS.out]; exact hE8.keep AF.out.2); obtain ⟨y1, y2⟩ := blk R8.out; clear hE8))
              have hZ := setTwo R8.out (.int .i64 K) (.int .i64 (k : Int))
              have XF : Ext w ((w8.setCell ⟨rsb, 0, none⟩ (.int .i64 K)).setCell ⟨rsb, 1, none⟩ (.int .i64 (k : Int))) := (Ext.setCell (X8.out) (p := ⟨rsb, 0, none⟩) (Nat.le_of_eq HRS.out.symm) _).setCell (p := ⟨rsb, 1, none⟩) (Nat.le_of_eq HRS.out.symm) _
              generalize (w8.setCell ⟨rsb, 0, none⟩ (.int .i64 K)).setCell ⟨rsb, 1, none⟩ (.int .i64 (k : Int)) = Z at *
              obtain ⟨z1, z2⟩ := blk hZ
              refine bodyPost_ret (v := .agg #[.int .i64 K, .int .i64 (k : Int)]) (by simp [results, Tryz.results37, go_sem, z1]) rfl ⟨by first | (rw [KK.out]; rfl) | rw [KK.out], XF⟩
        | false =>
          obtain ⟨ka, kc, d, hrd, hku, hkn⟩ := I.out.rd
          have hkp := MB.out.kept
          have FD := Lib.hid (Feed101 (chunk := pb) hrd hku (BUX.out.up hwsz) (Nat.le_refl _) (by omega))
          have hne := I.out.wbrb
          have hlow := I.out.low
          have hwl := I.out.watch.lt
          have hmany := scanP_many (s.kept ++ pb)
          rw [List.length_append] at hmany
          have G2 : Hid (sessG (monIn { s with kept := (scanP (s.kept ++ pb)).2 } (scanP (s.kept ++ pb)).1) (k + 1) ((l.drop (k + 1)).map (·.1)) = r) := by
            show _ = _
            have h9 := ST.out
            rw [SG.out] at h9
            rw [h9]
            simp
          have M2 := Lib.hid (MB.out.in hbl)
          have HL := Lib.hid hlow
          have HMY := Lib.hid hmany
          clear hrd hku hkn hmany hlow
          go_wp2_with (first
            | (go_at_call 101; (refine FD.out.mono ?_; rintro e w5 ⟨v, ps, ka5, kc5, d5, rfl, hm5, hb5, hu5, hf5, hP5, hps⟩; have WT5 : WatchAt w5 wb rv av { s with kept := (scanP (s.kept ++ pb)).2 } := I.out.watch.mod hm5 (by simpa using hne) (fun gg hgg => by have := (HL.out.2.2 gg (.inl hgg)).2.2; simpa using this) (fun gg hgg => by have := (HL.out.2.2 gg (.inr hgg)).2.2; simpa using this); have hpl : ps.length ≤ 1099511627776 := (by have h10 := congrArg List.length hps; rw [List.length_map] at h10; have := HMY.out; omega); have IN := Lib.hid (In100 WT5 hP5 hwl (fun gg hgg => (HL.out.2.2 gg (.inr hgg)).2.1) hpl); have M5 := Lib.hid hm5; have B5 := Lib.hid hb5; have U5 := Lib.hid hu5; have F5 := Lib.hid hf5; have PS5 := Lib.hid hps; clear hm5 hb5 hu5 hf5 hP5 hps WT5))
            | (go_at_call 100; (refine IN.out.mono ?_; rintro e w6 ⟨rfl, hm6, hw6⟩; have I9 := Lib.hid (I.out.in M5.out B5.out U5.out F5.out hm6 hw6); clear hm6 hw6)))
          go_roundw
          case rel => exact ⟨k + 1, _, _, rv, av, by omega, by go_num, rfl, by rw [← PS5.out]; exact I9.out, M2.out, by intro y hy; rw [(monIn_same _ _).2.1] at hy; exact MU.out y hy, G2.out⟩
          case measure => simp [intOf]; omega
    · obtain rfl : k = l.length := by omega
      have RK : Hid (r = (0, 0)) := by
        have := SG.out; rw [sess_end _ _ _ (Nat.le_refl _)] at this; exact this.symm
      obtain ⟨y1, y2⟩ := blk RES.out
      go_wp2
      have hZ := setTwo RES.out (.int .i64 0) (.int .i64 0)
      have XF : Ext w ((wr.setCell ⟨rsb, 0, none⟩ (.int .i64 0)).setCell ⟨rsb, 1, none⟩ (.int .i64 0)) := (Ext.setCell I.out.ext (p := ⟨rsb, 0, none⟩) (Nat.le_of_eq HRS.out.symm) _).setCell (p := ⟨rsb, 1, none⟩) (Nat.le_of_eq HRS.out.symm) _
      generalize (wr.setCell ⟨rsb, 0, none⟩ (.int .i64 0)).setCell ⟨rsb, 1, none⟩ (.int .i64 0) = Z at *
      obtain ⟨z1, z2⟩ := blk hZ
      refine bodyPost_ret (v := .agg #[.int .i64 0, .int .i64 0]) (by simp [results, Tryz.results37, go_sem, z1]) rfl ⟨by first | (rw [RK.out]; rfl) | rw [RK.out], XF⟩
end Go.Proofs.Eff
