/- handles: Issue. -/
import Derived.Test.YtaggadjiefgpoaaGreatDoorTb9
namespace Go.Proofs.Eff
open Go.RowKit

section
variable {w : World} {L : HLoc} {h : HeapS} {os : List Nat} {a cap tb : Nat} {T : HTab} {M : TabS}
theorem TBx.setNext (t : TBx w L h os a cap tb T) (x : Int) : TBx (w.setCell ⟨tb, 514, none⟩ (.int .u64 x)) L h os a cap tb { T with next := x } := by
  have other : ∀ i, i ≠ 514 → (w.setCell ⟨tb, 514, none⟩ (.int .u64 x)).cell? ⟨tb, i, none⟩ = w.cell? ⟨tb, i, none⟩ := fun i h1 => World.cell?_setCell_other _ _ _ _ (by intro e; cases e; exact h1 rfl)
  have ht := t.tab
  refine ⟨t.heap.setFar ⟨tb, 514, none⟩ t.ap _, t.wf, t.so, t.arr, ⟨by have := ht.lt; simpa using this, by rw [other 0 (by omega)]; exact ht.ptr, ?_, ht.len, by rw [other 513 (by omega)]; exact ht.cap, World.cell?_setCell_same _ _ _ ht.next, by rw [other 515 (by omega)]; exact ht.now, fun i => by simp only [World.frozen?_setCell]; exact ht.fr i⟩, t.ap, t.capE, t.cap1, t.cap2⟩
  intro j v hv
  have hj : j < 512 := by have h1 := (List.getElem?_eq_some_iff.1 hv).1; rw [slotC_length, ht.len] at h1; exact h1
  rw [other (1 + j) (by omega)]
  exact ht.slots j v hv
/-- What Issue answers. -/
def IssueR (w : World) (L : HLoc) (h : HeapS) (os : List Nat) (a cap tb : Nat) (M : TabS) (n ser : Int) (ids : List Int) (e : Ending) (w' : World) : Prop :=
  ∃ id err, 0 ≤ id ∧ id < 18446744073709551616 ∧ e = .returned (.tuple #[.int .u64 id, .int .i64 err]) ∧ ActR w L h os a cap tb M ⟨1, id, n, ser, ids, err⟩ w'
set_option maxRecDepth 100000 in
set_option maxHeartbeats 2000000 in
theorem Issue31 (t : TBx w L h os a cap tb T) (hs : Spares w) (htb : tb ≠ 0) (R : Rel h os a cap T M) (o n ser : Int) (ids : List Int) (o0 : 0 ≤ o) (o1 : o < 4294967296) (hser : isO os o = true → ser = serO h.words o) :
    Calls Tryz.prog 31 #[.pointer (some ⟨tb, 0, none⟩), .int .u32 o, .int .i64 n] w (IssueR w L h os a cap tb M n ser ids) := by
  have hp := hs.pos
  have BR := Lib.hid (broken86 t hs R.usedOK)
  have IS := fun W (hE : Ext w W) => is_any (t.heap.keep hE) t.wf o o0 o1
  have TK := Lib.hid (fun W (hE : Ext w W) => t.tab.keep hE)
  have NO : Hid (∀ err, ansF M ⟨1, 0, n, ser, ids, err⟩ = (M, true) → ∀ W, Ext w W → ActR w L h os a cap tb M ⟨1, 0, n, ser, ids, err⟩ W) := fun err e1 W hE => ⟨by rw [e1], ⟨h, T, t.keep hE, by rw [e1]; exact R⟩, hE.mod _⟩
  cases ho : isO os o with
  | false =>
    rw [ho] at IS
    have ISH := Lib.hid IS
    have E3 := Lib.hid (NO.out 3 (by simp [ansF, issueF]))
    clear t hs R IS hser NO
    go_enter Tryz.func31, Tryz.ntmps31
    go_upto_region 3 with (go_at_call 86; refine BR.out.mono ?_; rintro e w1 ⟨rfl, hE1⟩; have E1 := Lib.hid hE1; have hpt := (TK.out _ hE1).ptr; clear hE1)
    go_wp2_with (go_at_call 78; refine (ISH.out _ E1.out).mono ?_; rintro e w2 ⟨rfl, rfl⟩)
    go_ret2
    exact ⟨_, _, by omega, by omega, rfl, E3.out _ E1.out⟩
  | true =>
    rw [ho] at IS
    have ISH := Lib.hid IS
    have hser := hser ho
    cases hf : fitsB n with
    | false =>
      have LS := fun W => lease87 n W
      rw [hf] at LS
      have LSH := Lib.hid LS
      have E3 := Lib.hid (NO.out 162 (by simp [ansF, issueF, hf]))
      clear t hs R IS hser NO LS
      go_enter Tryz.func31, Tryz.ntmps31
      go_upto_region 3 with (go_at_call 86; refine BR.out.mono ?_; rintro e w1 ⟨rfl, hE1⟩; have E1 := Lib.hid hE1; have hpt := (TK.out _ hE1).ptr; clear hE1)
      go_wp2_with (first | (go_at_call 78; refine (ISH.out _ E1.out).mono ?_; rintro e w2 ⟨rfl, rfl⟩) | (go_at_call 87; refine (LSH.out _).mono ?_; rintro e w2 ⟨rfl, rfl⟩))
      go_ret2
      exact ⟨_, _, by omega, by omega, rfl, E3.out _ E1.out⟩
    | true =>
      have LS := fun W => lease87 n W
      rw [hf] at LS
      have LSH := Lib.hid LS
      have hn1 : 1 ≤ n ∧ n ≤ 1000000 := by simpa [fitsB] using hf
      have hcp2 := t.cap2
      have IX := Lib.hid (fun W (hE : Ext w W) => index88 W tb cap T.slots (t.tab.keep hE).slots t.tab.len (t.tab.keep hE).lt t.cap2)
      have CK : Hid (∀ W, Ext w W → W.cell? ⟨tb, 513, none⟩ = some (.int .i64 (cap : Int)) ∧ Ext w W) := fun W hE => ⟨by rw [(t.tab.keep hE).cap, t.capE], hE⟩
      have hci : (cap : Int) ≤ 256 := by omega
      have hci0 : (0 : Int) ≤ (cap : Int) := by omega
      rcases R.full t.cap2 with ⟨hfu, hfr⟩ | ⟨hfu, k, hk, hfr, hkc, hke⟩
      · rw [hfr] at IX
        have E3 := Lib.hid (NO.out 161 (by simp [ansF, issueF, hf, hfu]))
        clear t hs R IS hser NO LS hfu hfr hf hn1
        go_enter Tryz.func31, Tryz.ntmps31
        go_upto_region 3 with (go_at_call 86; refine BR.out.mono ?_; rintro e w1 ⟨rfl, hE1⟩; have E1 := Lib.hid hE1; have hpt := (TK.out _ hE1).ptr; clear hE1)
        go_upto_region 7 with (first | (go_at_call 78; refine (ISH.out _ E1.out).mono ?_; rintro e w2 ⟨rfl, rfl⟩) | (go_at_call 87; refine (LSH.out _).mono ?_; rintro e w2 ⟨rfl, rfl⟩))
        clear hpt
        go_region_held3 (fun w' => w'.cell? ⟨tb, 513, none⟩ = some (.int .i64 (cap : Int)) ∧ Ext w w')
          (first | with_reducible exact CK.out _ (E1.out.drew) | with_reducible exact CK.out _ (Ext.trans (‹_ ∧ Ext w _›).2 hb2))
          (first | (go_at_call 88; with_reducible refine (IX.out _ (‹_ ∧ Ext w _›).2).mono ?_; rintro e w2 ⟨rfl, hb2⟩))
        have E2 := Lib.hid (‹_ ∧ Ext w w2›).2
        go_wp2
        go_ret2
        exact ⟨_, _, by omega, by omega, rfl, E3.out _ E2.out⟩
      · rw [hfr] at IX
        by_cases hz : M.next = 0
        · have E3 := Lib.hid (NO.out 163 (by simp [ansF, issueF, hf, hfu, hz]))
          have hzn : (T.next == 0) = true := by rw [← R.next]; simpa using hz
          have NX : Hid (∀ W, Ext w W → W.cell? ⟨tb, 514, none⟩ = some (.int .u64 T.next)) := fun W hE => (t.tab.keep hE).next
          clear t hs R IS hser NO LS hfu hfr hf hn1 hke hk hz
          generalize T.next = nx at *
          go_enter Tryz.func31, Tryz.ntmps31
          go_upto_region 3 with (go_at_call 86; refine BR.out.mono ?_; rintro e w1 ⟨rfl, hE1⟩; have E1 := Lib.hid hE1; have hpt := (TK.out _ hE1).ptr; clear hE1)
          go_upto_region 7 with (first | (go_at_call 78; refine (ISH.out _ E1.out).mono ?_; rintro e w2 ⟨rfl, rfl⟩) | (go_at_call 87; refine (LSH.out _).mono ?_; rintro e w2 ⟨rfl, rfl⟩))
          clear hpt
          go_region_held3 (fun w' => w'.cell? ⟨tb, 513, none⟩ = some (.int .i64 (cap : Int)) ∧ Ext w w')
            (first | with_reducible exact CK.out _ (E1.out.drew) | with_reducible exact CK.out _ (Ext.trans (‹_ ∧ Ext w _›).2 hb2))
            (first | (go_at_call 88; with_reducible refine (IX.out _ (‹_ ∧ Ext w _›).2).mono ?_; rintro e w2 ⟨rfl, hb2⟩))
          have E2 := Lib.hid (‹_ ∧ Ext w w2›).2
          have hnx := NX.out _ E2.out
          go_wp2
          go_ret2
          exact ⟨_, _, by omega, by omega, rfl, E3.out _ E2.out⟩
        · have hzn : (T.next == 0) = false := by rw [← R.next]; simpa using hz
          have hnr0 := R.ok.next0
          have hnr1 := R.ok.next1
          rw [R.next] at hnr0 hnr1
          have hnow0 := R.ok.clock0
          have hnow1 := R.ok.clock1
          rw [R.clock] at hnow0 hnow1
          have hk2 : k < 256 := by omega
          have hw64 : IntKind.u64.wrap (T.next + 1) = (T.next + 1) % 18446744073709551616 := by rw [IntKind.wrap_u64]
          have hz' : ¬ T.next = 0 := by rw [← R.next]; exact hz
          have NX : Hid (∀ W, Ext w W → W.cell? ⟨tb, 514, none⟩ = some (.int .u64 T.next) ∧ (∀ i, W.frozen? ⟨tb, i, none⟩ = false)) := fun W hE => ⟨(t.tab.keep hE).next, (t.tab.keep hE).fr⟩
          have S1 : Hid (∀ W, Ext w W → ∀ x, TBx (W.setCell ⟨tb, 514, none⟩ (.int .u64 x)) L h os a cap tb { T with next := x }) := fun W hE x => (t.keep hE).setNext x
          have S2 : Hid (∀ W x, TBx W L h os a cap tb { T with next := x } → (W.cell? ⟨tb, 515, none⟩ = some (.int .i64 T.now) ∧ (∃ z, W.cell? ⟨tb, 1 + 2 * k, none⟩ = some (.int .u64 z)) ∧ (∃ z, W.cell? ⟨tb, 1 + 2 * k + 1, none⟩ = some (.int .i64 z)) ∧ (∀ i, W.frozen? ⟨tb, i, none⟩ = false)) ∧ TBx ((W.setCell ⟨tb, 1 + 2 * k, none⟩ (.int .u64 T.next)).setCell ⟨tb, 1 + 2 * k + 1, none⟩ (.int .i64 (T.now + n))) L h os a cap tb { T with next := x, slots := T.slots.set k (T.next, T.now + n) }) := fun W x tw => ⟨⟨tw.tab.now, ⟨_, (tw.tab.slot k hk2).1⟩, ⟨_, (tw.tab.slot k hk2).2⟩, tw.tab.fr⟩, tw.setSlot k hk2 (T.next, T.now + n)⟩
          have PU : Hid (∀ W, TBx W L h os a cap tb { T with next := (T.next + 1) % 18446744073709551616, slots := T.slots.set k (T.next, T.now + n) } → Spares W → Calls Tryz.prog 89 #[.pointer (some ⟨tb, 0, none⟩), .int .i64 k, .int .u32 o] W fun e w' => e = .returned (.tuple #[]) ∧ TBx w' L (setW h (a + 3 + k) o) os a cap tb { T with next := (T.next + 1) % 18446744073709551616, slots := T.slots.set k (T.next, T.now + n) } ∧ Mod [L.gw] W w') := fun W tw hsw => put89 tw hsw k hkc o o0 o1 (by
            have h2 := ho
            simp only [isO, Bool.and_eq_true] at h2
            simp only [valueOK, h2.2, Bool.or_true])
          have FIN : Hid (∀ W, TBx W L (setW h (a + 3 + k) o) os a cap tb { T with next := (T.next + 1) % 18446744073709551616, slots := T.slots.set k (T.next, T.now + n) } → Mod [tb, L.gw] w W → ActR w L h os a cap tb M ⟨1, T.next, n, ser, ids, 0⟩ W) := fun W tw hM => by
            have e1 : ansF M ⟨1, T.next, n, ser, ids, 0⟩ = ({ M with next := (M.next + 1) % 18446744073709551616, live := lput M.live M.next (serO h.words o, T.now + n) }, true) := by simp [ansF, issueF, hf, hfu, hz', hser, R.next, R.clock]
            have ok := ansF_ok R.ok ⟨1, T.next, n, ser, ids, 0⟩
            rw [e1] at ok
            have := R.issue t.wf t.arr hk hkc hke hz o (T.now + n) ho ok
            exact ⟨by rw [e1], ⟨_, _, tw, by rw [e1]; exact this⟩, hM⟩
          have HSP : Hid (∀ W, Mod [tb] w W → Spares W) := fun W hM => hs.mod hM (by simpa using htb.symm)
          clear t hs R IS hser NO LS hfu hfr hf hke hk hz hz'
          generalize T.next = nx at *
          generalize T.now = now at *
          have hk3 : (k : Int) < 256 := by omega
          have e1 : 1 + k * 2 = 1 + 2 * k := by omega
          go_enter Tryz.func31, Tryz.ntmps31
          go_upto_region 3 with (go_at_call 86; refine BR.out.mono ?_; rintro e w1 ⟨rfl, hE1⟩; have E1 := Lib.hid hE1; have hpt := (TK.out _ hE1).ptr; clear hE1)
          go_upto_region 7 with (first | (go_at_call 78; refine (ISH.out _ E1.out).mono ?_; rintro e w2 ⟨rfl, rfl⟩) | (go_at_call 87; refine (LSH.out _).mono ?_; rintro e w2 ⟨rfl, rfl⟩))
          clear hpt
          go_region_held3 (fun w' => w'.cell? ⟨tb, 513, none⟩ = some (.int .i64 (cap : Int)) ∧ Ext w w')
            (first | with_reducible exact CK.out _ (E1.out.drew) | with_reducible exact CK.out _ (Ext.trans (‹_ ∧ Ext w _›).2 hb2))
            (first | (go_at_call 88; with_reducible refine (IX.out _ (‹_ ∧ Ext w _›).2).mono ?_; rintro e w2 ⟨rfl, hb2⟩))
          have E2 := Lib.hid (‹_ ∧ Ext w w2›).2
          obtain ⟨hnx, hfr⟩ := NX.out _ E2.out
          go_upto_region 14 with fail
          have T1 := S1.out _ E2.out ((nx + 1) % 18446744073709551616)
          have M1 := Lib.hid ((E2.out.mod [tb]).trans ((mod_setCell w2 ⟨tb, 514, none⟩ (.int .u64 ((nx + 1) % 18446744073709551616))).mono (by simp)))
          obtain ⟨⟨c1, ⟨z1, c2⟩, ⟨z2, c3⟩, c4⟩, hT2⟩ := S2.out _ _ T1
          clear hnx hfr T1
          generalize w2.setCell ⟨tb, 514, none⟩ (.int .u64 ((nx + 1) % 18446744073709551616)) = W3 at *
          have T2 := Lib.hid (hT2.keep (Ext.refl _).drew)
          have M2 := Lib.hid ((M1.out.trans (mod_setSlot W3 tb k (.int .u64 nx) (.int .i64 (now + n)))).ext (Ext.refl _).drew)
          clear hT2 M1
          go_region
          clear c1 c2 c3 c4
          generalize ((W3.setCell ⟨tb, 1 + 2 * k, none⟩ (.int .u64 nx)).setCell ⟨tb, 1 + 2 * k + 1, none⟩ (.int .i64 (now + n))).drew = W4 at *
          go_wp2_with fail
          refine (PU.out _ T2.out (HSP.out _ M2.out)).mono ?_
          rintro e w5 ⟨rfl, hT5, hM5⟩
          have T5 := Lib.hid hT5
          have M5 := Lib.hid ((M2.out.mono (S' := [tb, L.gw]) (by simp)).trans (hM5.mono (S' := [tb, L.gw]) (by simp)))
          clear hT5 hM5
          go_wp2
          go_ret2
          exact ⟨_, _, hnr0, hnr1, rfl, FIN.out _ T5.out M5.out⟩
end
end Go.Proofs.Eff
