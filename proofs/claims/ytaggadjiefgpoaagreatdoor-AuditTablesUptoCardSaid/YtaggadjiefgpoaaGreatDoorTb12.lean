/- handles: Tick, the walk. -/
import Derived.Test.YtaggadjiefgpoaaGreatDoorTb11
namespace Go.Proofs.Eff
open Go.RowKit

theorem grown_modL {w w' : World} {row : Option Nat} (hg : w.grownBy w' row) : Mod row.toList w w' := ⟨hg.os, hg.tape, hg.output, hg.size, fun k hk hn => hg.block k hk (fun he => hn (by rw [← he]; simp))⟩

section
variable {w : World} {L : HLoc} {h : HeapS} {os : List Nat} {a cap tb : Nat} {T : HTab} {M : TabS}
/-- What Tick answers. -/
def TickR (w : World) (L : HLoc) (h : HeapS) (os : List Nat) (a cap tb : Nat) (M : TabS) (id n ser : Int) (e : Ending) (w' : World) : Prop :=
  ∃ v ids err, e = .returned (.tuple #[v, .int .i64 err]) ∧ w'.ownsRow w.heap.size 55 1 v ids.length (u64s ids) ∧ ids.length ≤ 256 ∧ ActR w L h os a cap tb M ⟨5, id, n, ser, ids, err⟩ w'
theorem TkI.step {w0 : World} {base k : Nat} {c : Int} {v : Value} {wr w2 : World} (I : TkI w0 base L os a cap tb T M c k v wr) (hk : k < T.slots.length) (hn : ¬ (T.slots[k] ≠ (0, 0) ∧ T.slots[k].2 ≤ c)) (hE : Ext wr w2) : TkI w0 base L os a cap tb T M c (k + 1) v w2 := by
  obtain ⟨h', T', t, R, hnow, hs⟩ := I.tab
  have e : expI T c (k + 1) = expI T c k := by rw [expI_succ hk, if_neg hn]
  exact ⟨⟨h', T', t.keep hE, by rw [e]; exact R, hnow, fun j hj hjk => hs j hj (by omega)⟩, by rw [e]; exact row_keep I.row hE, I.mod.ext hE⟩

set_option maxRecDepth 100000 in
set_option maxHeartbeats 2000000 in
theorem Tick35 (t : TBx w L h os a cap tb T) (hs : Spares w) (htb : tb ≠ 0) (hgw : L.gw ≠ 0) (R : Rel h os a cap T M) (id n ser : Int) (n0 : -9223372036854775808 ≤ n) (n1 : n ≤ 9223372036854775807) :
    Calls Tryz.prog 35 #[.pointer (some ⟨tb, 0, none⟩), .int .i64 n] w (TickR w L h os a cap tb M id n ser) := by
  have hp := hs.pos
  have BR := Lib.hid (broken86 t hs R.usedOK)
  have hnow0 := R.ok.clock0
  have hnow1 := R.ok.clock1
  rw [R.clock] at hnow0 hnow1
  have NW : Hid (∀ W, Ext w W → W.cell? ⟨tb, 515, none⟩ = some (.int .i64 T.now) ∧ (∀ i, W.frozen? ⟨tb, i, none⟩ = false)) := fun W hE => ⟨(t.tab.keep hE).now, (t.tab.keep hE).fr⟩
  have NO : Hid (tickB M ⟨5, id, n, ser, [], 1⟩ = true → ∀ W, Ext w W → TickR w L h os a cap tb M id n ser (.returned (.tuple #[.slice none 0 0, .int .i64 1])) W) := fun hb W hE => by
    have e1 : ansF M ⟨5, id, n, ser, [], 1⟩ = (M, true) := by simp [ansF, tickF, hb]
    exact ⟨_, [], 1, rfl, World.ownsRow_nil _ _ _ _, by simp, ⟨by rw [e1], ⟨h, T, t.keep hE, by rw [e1]; exact R⟩, hE.mod _⟩⟩
  by_cases hn : n < 0
  · have FIN := Lib.hid (NO.out (by simp [tickB, hn]))
    clear t hs R NO
    go_enter Tryz.func35, Tryz.ntmps35
    go_wp2_with (go_at_call 86; refine BR.out.mono ?_; rintro e w1 ⟨rfl, hE1⟩; have E1 := Lib.hid hE1; obtain ⟨c1, c2⟩ := NW.out _ hE1; clear hE1)
    go_ret2
    exact FIN.out _ E1.out
  · by_cases hn2 : 1099511627776 - T.now < n
    · have FIN := Lib.hid (NO.out (by simp [tickB, R.clock, hn2]))
      clear t hs R NO
      generalize T.now = now at *
      go_enter Tryz.func35, Tryz.ntmps35
      go_wp2_with (go_at_call 86; refine BR.out.mono ?_; rintro e w1 ⟨rfl, hE1⟩; have E1 := Lib.hid hE1; obtain ⟨c1, c2⟩ := NW.out _ hE1; clear hE1)
      go_ret2
      exact FIN.out _ E1.out
    · have hb : ∀ ids err, tickB M ⟨5, id, n, ser, ids, err⟩ = false := fun _ _ => by simp [tickB, R.clock, hn]; omega
      obtain ⟨i0, hi, hz0, hz1, hz3⟩ := info_parts Tryz.cinfo55
      have okc : TabOK { M with clock := T.now + n } := by
        have := R.ok
        exact ⟨this.cap0, this.cap1, this.next0, this.next1, by simp only; omega, by simp only; omega, this.len, this.keys⟩
      obtain ⟨c, hc⟩ : ∃ c, c = T.now + n := ⟨_, rfl⟩
      have hlb : ∀ x, x ∈ L.blocks → x < w.heap.size := t.heap.bl
      have htl := t.tab.lt
      have I0 : Hid (∀ W, Ext w W → TkI w w.heap.size L os a cap tb T M c 0 (.slice none 0 0) (W.setCell ⟨tb, 515, none⟩ (.int .i64 c))) := fun W hE => by
        refine ⟨⟨h, { T with now := c }, (t.keep hE).setNow c, ?_, rfl, fun j hj _ => by simp [hj]⟩, World.ownsRow_nil _ _ _ _, (hE.mod _).trans ((mod_setCell W ⟨tb, 515, none⟩ _).mono (by simp))⟩
        have := R.at_clock c (by rw [hc]; exact okc)
        simpa [expI, delAll] using this
      have SL : Hid (∀ W, Ext w W → (W.setCell ⟨tb, 515, none⟩ (.int .i64 c)).rangeAt tb 1 (slotC T.slots)) := fun W hE => ((t.keep hE).setNow c).tab.slots
      have H181 : Hid ((Tryz.prog.info? 181).map (·.size) = some (slotC T.slots).length) := by show _ = _; rw [slotC_length, t.tab.len, info181]
      have HLEN := Lib.hid R.len
      have HZ := Lib.hid R.zero
      have HSP : Hid (∀ W, Mod [tb, L.gw] w W → Spares W) := fun W hM => hs.mod hM (by
        simp only [List.mem_cons, List.not_mem_nil, or_false, not_or]
        exact ⟨fun e => htb e.symm, fun e => hgw e.symm⟩)
      have FIN : Hid (∀ W v ids, TkI w w.heap.size L os a cap tb T M c 256 v W → ids = goneF M.live c → ∀ W2 v2, W2.ownsRow w.heap.size 55 1 v2 ids.length (u64s ids) → (∀ S, S = [tb, L.gw] → Mod S w W2) → (∀ h' T', TBx W L h' os a cap tb T' → TBx W2 L h' os a cap tb T') → TickR w L h os a cap tb M id n ser (.returned (.tuple #[v2, .int .i64 0])) W2) := fun W v ids I hids W2 v2 hrow hM hT => by
        have e1 : ansF M ⟨5, id, n, ser, ids, 0⟩ = ({ M with clock := c, live := stayF M.live c }, true) := by simp [ansF, tickF, hb, R.clock, ← hc, hids]
        obtain ⟨h', T', t', R', _, _⟩ := I.tab
        rw [delAll_gone R.ok.keys (R.over c)] at R'
        refine ⟨v2, ids, 0, rfl, hrow, ?_, ⟨by rw [e1], ⟨h', T', hT _ _ t', by rw [e1]; exact R'⟩, hM _ rfl⟩⟩
        rw [hids]
        unfold goneF
        rw [(List.mergeSort_perm _ _).length_eq, ← (R.over c).length_eq]
        exact expI_length T c 256
      have PM : Hid ((expI T c 256).mergeSort (fun x y => decide (x ≤ y)) = goneF M.live c) := sort_perm (R.over c)
      have CLK : Hid (∀ (W : World) (h' : HeapS) (T' : HTab) (k : Nat), TBx W L h' os a cap tb T' → Mod [tb, L.gw] w W → k < cap → Calls Tryz.prog 92 #[.pointer (some ⟨tb, 0, none⟩), .int .i64 k] W (ClearR W L h' os a cap tb T' k)) := fun W h' T' k tw hM hkc => clear92 tw (HSP.out W hM) htb k hkc
      clear t hs R NO okc
      have HC := Lib.hid hc
      have hb1 : n ≤ 1099511627776 := by omega
      clear hc hb
      go_enter Tryz.func35, Tryz.ntmps35
      go_upto_region 7 with (go_at_call 86; refine BR.out.mono ?_; rintro e w1 ⟨rfl, hE1⟩; have E1 := Lib.hid hE1; obtain ⟨c1, c2⟩ := NW.out _ hE1; clear hE1)
      rw [← HC.out]
      have I1 := Lib.hid (I0.out _ E1.out)
      have HRG := Lib.hid (SL.out _ E1.out)
      clear c1 c2
      generalize w1.setCell ⟨tb, 515, none⟩ (.int .i64 c) = W1 at *
      go_wp2_with (refine wpList_load_mid rfl 181 (Operand.tmp 32) rfl tb 1 rfl (slotC T.slots) _ HRG.out under181 rfl H181.out ?_)
      clear HRG H181 SL I0
      go_loopw [6, 34] (fun v i wr => ∃ k : Nat, k ≤ 256 ∧ i = .int .i64 k ∧ TkI w w.heap.size L os a cap tb T M c k v wr) (fun _ i _ => 256 - (intOf i).toNat)
      case atStart => exact ⟨0, by omega, rfl, I1.out⟩
      case round =>
        obtain ⟨k, hk, rfl, hI⟩ := hrel
        have I := Lib.hid hI
        clear hI
        by_cases hlt : k < 256
        · have hkl : k < T.slots.length := by rw [HLEN.out]; exact hlt
          have hix := fun W => index181 W T.slots k hkl HLEN.out
          have EXS := expI_succ (c := c) hkl
          obtain ⟨y, z, hyz⟩ : ∃ y z, T.slots[k] = (y, z) := ⟨_, _, rfl⟩
          have NST : Hid (¬ ((y, z) ≠ ((0 : Int), (0 : Int)) ∧ z ≤ c) → ∀ W2, Ext wr W2 → TkI w w.heap.size L os a cap tb T M c (k + 1) _ W2) := fun hn W2 hE => I.out.step hkl (by rw [hyz]; exact hn) hE
          have ZER : Hid (y = 0 → (y, z) = ((0 : Int), (0 : Int))) := fun h0 => by have := HZ.out k hkl (by rw [hyz]; exact h0); rw [hyz] at this; exact this
          rw [hyz] at hix EXS
          simp only at hix EXS
          have B0 := newB wr (.cells #[.int .u64 y, .int .i64 z] 180) _ rfl
          have hnowc : (wr.alloc (.cells #[.int .u64 y, .int .i64 z] 180)).cell? ⟨tb, 515, none⟩ = some (.int .i64 c) := by
            obtain ⟨h', T', t', _, hn', _⟩ := I.out.tab
            have := (t'.keep ((Ext.refl wr).alloc (.cells #[.int .u64 y, .int .i64 z] 180))).tab.now
            rw [hn'] at this; exact this
          have E5 := Lib.hid ((Ext.refl wr).alloc (.cells #[.int .u64 y, .int .i64 z] 180))
          have HYZ := Lib.hid hyz
          have EXX := Lib.hid EXS
          clear hyz EXS
          by_cases hu : (y, z) = ((0 : Int), (0 : Int))
          · have hne : ∀ W, (binOp .neq 180 (.agg #[.int .u64 y, .int .i64 z]) (.agg #[.int .u64 0, .int .i64 0])).run Tryz.prog W = .ok (.bool false) W := fun W => by rw [run_neq180, decide_eq_true hu]; rfl
            have NX := Lib.hid (NST.out (fun h => h.1 hu))
            clear hu
            go_upto_region 10 with fail
            obtain ⟨q1, q2⟩ := blk B0
            clear B0
            generalize wr.alloc (.cells #[.int .u64 y, .int .i64 z] 180) = W5 at *
            go_quiet (fail)
            have XN : Ext W5 (W5.drewN nq) := (Ext.refl W5).drewN nq
            have E6 := Lib.hid (E5.out.trans XN)
            clear XN q1 q2 hnowc
            generalize W5.drewN nq = W6 at *
            go_wp2
            go_roundw
            case rel => exact ⟨k + 1, by omega, by go_num, NX.out _ E6.out⟩
            case measure => simp [intOf]; omega
          · have hne : ∀ W, (binOp .neq 180 (.agg #[.int .u64 y, .int .i64 z]) (.agg #[.int .u64 0, .int .i64 0])).run Tryz.prog W = .ok (.bool true) W := fun W => by rw [run_neq180, decide_eq_false hu]; rfl
            by_cases hz : z ≤ c
            · have HU := Lib.hid hu
              have hzz := hz
              rw [if_pos ⟨hu, hz⟩] at EXX
              clear hu NST
              go_upto_region 10 with fail
              obtain ⟨q1, q2⟩ := blk B0
              have HB0 := Lib.hid B0
              obtain ⟨bx, hbx⟩ : ∃ m, m = wr.heap.size := ⟨_, rfl⟩
              rw [← hbx] at HB0 q1 q2 ⊢
              clear B0 hbx
              generalize wr.alloc (.cells #[.int .u64 y, .int .i64 z] 180) = W5 at *
              go_quiet (fail)
              have XN : Ext W5 (W5.drewN nq) := (Ext.refl W5).drewN nq
              have E6 := Lib.hid (E5.out.trans XN)
              obtain ⟨p1, p2⟩ := blk (XN.keep HB0.out)
              have hbx := lt_of_block (XN.keep HB0.out)
              clear XN q1 q2 hnowc HB0
              generalize W5.drewN nq = W6 at *
              obtain ⟨h', T', t', R', hn', hs'⟩ := I.out.tab
              have T6 := Lib.hid (t'.keep E6.out)
              have RR := Lib.hid R'
              have HN := Lib.hid hn'
              have HSS := Lib.hid hs'
              have ROW6 := Lib.hid (row_keep I.out.row E6.out)
              have M6 := Lib.hid (I.out.mod.ext E6.out)
              obtain ⟨ad, cp, rfl, had⟩ := own_any ROW6.out
              have hlen := expI_length T c k
              have NWR : Hid (RRow (W6.alloc (.cells #[.int .u64 y] 55)) ⟨W6.heap.size, 0, none⟩ (u64s [y])) := row_read (World.ownsRow_lit (base := 0) (e := 55) W6 #[.int .u64 y] 1 (Nat.zero_le _) (by unfold maxLen; omega) rfl)
              have hws := M6.out.size
              have hkl2 : k < T'.slots.length := by rw [t'.tab.len]; exact hlt
              have hsk : T'.slots[k] = (y, z) := by
                have := hs' k hkl (Nat.le_refl _)
                rw [HYZ.out, List.getElem?_eq_getElem hkl2] at this
                exact Option.some.inj this
              have hkc : k < cap := (R'.used k hkl2 (by rw [hsk]; exact HU.out)).1
              have hy0 : y ≠ 0 := fun h0 => HU.out (ZER.out h0)
              have GRW : Hid (∀ w3, (W6.alloc (.cells #[.int .u64 y] 55)).grownBy w3 (Value.slice ad (expI T c k).length cp).ownBlock → TBx w3 L h' os a cap tb T' ∧ Mod [tb, L.gw] w w3) := fun w3 hg => by
                have hge : ∀ q, (Value.slice ad (expI T c k).length cp).ownBlock = some q → w.heap.size ≤ q := fun q hq => (ROW6.out.lt q hq).1
                refine ⟨(T6.out.keep ((Ext.refl _).alloc _)).modFar (grown_modL hg) (fun x hx hq => ?_) (fun hq => ?_), (M6.out.ext ((Ext.refl _).alloc _)).grown hg hge⟩
                · have h1 := hge x (by simpa using hq)
                  have h2 := hlb x hx
                  omega
                · have h1 := hge tb (by simpa using hq)
                  omega
              have SN : Hid (u64s (expI T c k) ++ u64s [y] = u64s (expI T c k ++ [y])) := by show _ = _; simp [u64s]
              clear t' R' hn' hs' had
              go_wp2_with (first | (at_builtin; refine wpList_append_own _ rfl _ _ 88 rfl w.heap.size 55 i0 (.int .u64 0) 1 8 Tryz.underlying88 hi hz0 hz1 hz3 rfl (by decide) _ (expI T c k).length _ rfl (row_keep ROW6.out ((Ext.refl _).alloc _)) ⟨W6.heap.size, 0, none⟩ 1 1 (u64s [y]) rfl rfl NWR.out (u64s_one _) (by unfold maxLen; omega) (by omega) (by simp; omega) ?_; intro v' w3 hown hgrow0 hnil2; have hgrow : World.grownBy _ w3 (Value.slice ad (expI T c k).length cp).ownBlock := hgrow0; have T3 := Lib.hid (GRW.out _ hgrow); have O3 := Lib.hid hown; clear hown hgrow hgrow0 hnil2) | (go_at_call 92; refine (CLK.out _ _ _ k T3.out.1 T3.out.2 hkc).mono ?_; rintro e w4 ⟨rfl, hT4, hM4⟩; have T4 := Lib.hid hT4; have M4 := Lib.hid hM4; clear hT4 hM4))
              have IN : Hid (TkI w w.heap.size L os a cap tb T M c (k + 1) v' w4) := by
                have hO := O3.out
                rw [SN.out] at hO
                refine ⟨⟨_, _, T4.out, ?_, HN.out, fun j hj hjk => ?_⟩, ?_, T3.out.2.trans M4.out⟩
                · have ok := RR.out.ok.del T'.slots[k].1
                  have := RR.out.clear T3.out.1.wf T3.out.1.arr hkl2 (by rw [hsk]; exact hy0) (wd h'.roots 0) ok
                  rw [hsk] at this
                  rw [EXX.out, delAll_snoc]
                  exact this
                · show (T'.slots.set k (0, 0))[j]? = _
                  rw [List.getElem?_set_ne (by omega)]
                  exact HSS.out j hj (by omega)
                · rw [EXX.out]
                  have h1 := M4.out.row hO (by
                    intro q hq
                    have h2 := (hO.lt q hq).1
                    simp only [List.mem_cons, List.not_mem_nil, or_false, not_or]
                    have h3 := hlb L.gw (by simp [HLoc.blocks])
                    omega)
                  simpa using h1
              clear O3 T3 T4 M4 GRW
              go_roundw
              case rel => exact ⟨k + 1, by omega, by go_num, IN.out⟩
              case measure => simp [intOf]; omega
            · have NX := Lib.hid (NST.out (fun h => hz h.2))
              clear hu
              go_upto_region 10 with fail
              obtain ⟨q1, q2⟩ := blk B0
              clear B0
              generalize wr.alloc (.cells #[.int .u64 y, .int .i64 z] 180) = W5 at *
              go_quiet (fail)
              have XN : Ext W5 (W5.drewN nq) := (Ext.refl W5).drewN nq
              have E6 := Lib.hid (E5.out.trans XN)
              clear XN q1 q2 hnowc
              generalize W5.drewN nq = W6 at *
              go_wp2
              go_roundw
              case rel => exact ⟨k + 1, by omega, by go_num, NX.out _ E6.out⟩
              case measure => simp [intOf]; omega
        · obtain rfl : k = 256 := by omega
          have ROW := Lib.hid I.out.row
          obtain ⟨ad, cp, rfl, had⟩ := own_any ROW.out
          have hlen := expI_length T c 256
          have hpl : (goneF M.live c).length = (expI T c 256).length := by rw [← PM.out, (List.mergeSort_perm _ _).length_eq]
          have SORT : Hid (Calls Tryz.prog 93 #[.slice ad (expI T c 256).length cp] wr fun e w' => e = .returned (.tuple #[]) ∧ TickR w L h os a cap tb M id n ser (.returned (.tuple #[.slice ad (expI T c 256).length cp, .int .i64 0])) w') := by
            by_cases hg0 : (expI T c 256).length = 0
            · have hge : expI T c 256 = [] := List.length_eq_zero_iff.1 hg0
              have hgn : goneF M.live c = [] := List.length_eq_zero_iff.1 (by omega)
              have R0 := ROW.out
              rw [hge] at R0
              have IX := I.out
              rw [hge] at IX ⊢
              refine (Sb.sort_nil ad cp wr).mono ?_
              rintro e w' ⟨rfl, rfl⟩
              exact ⟨rfl, FIN.out wr _ _ IX rfl wr _ (by rw [hgn]; exact R0) (fun S hS => by rw [hS]; exact IX.mod) (fun _ _ ht => ht)⟩
            · obtain ⟨g, rfl, hg1, hg2⟩ := had (by omega)
              refine (Sb.sort_row g cp (expI T c 256) wr (row_zero ROW.out) (by omega)).mono ?_
              rintro e w' ⟨rfl, hrw, hmd⟩
              rw [PM.out] at hrw
              refine ⟨rfl, FIN.out wr _ _ I.out rfl w' _ ?_ (fun S hS => by rw [hS]; exact I.out.mod.via hmd (by intro x hx; simp at hx; right; omega)) (fun h' T' ht => ht.modFar hmd (fun x hx hq => ?_) (fun hq => ?_))⟩
              · have := row_base hrw hg1
                rw [hpl]; exact this
              · have := hlb x hx; simp at hq; omega
              · simp at hq; omega
          clear had hpl I1
          go_wp2_with (go_at_call 93; refine SORT.out.mono ?_; rintro e w4 ⟨rfl, hF⟩; have F := Lib.hid hF; clear hF)
          go_ret2
          exact F.out
end
end Go.Proofs.Eff
