/- handles: Get, Renew, Release. -/
import Derived.Test.YtaggadjiefgpoaaGreatDoorTb8
namespace Go.Proofs.Eff
open Go.RowKit

/-- The cells of one slot are others, however it came. -/
theorem HTabAt.turned {w w' : World} {tb hb : Nat} {T : HTab} (h : HTabAt w tb hb T) (k : Nat) (hk : k < 256) (p : Int × Int) (hlt : tb < w'.heap.size)
    (other : ∀ i, i ≠ 1 + 2 * k → i ≠ 1 + 2 * k + 1 → w'.cell? ⟨tb, i, none⟩ = w.cell? ⟨tb, i, none⟩) (at1 : w'.cell? ⟨tb, 1 + 2 * k, none⟩ = some (.int .u64 p.1)) (at2 : w'.cell? ⟨tb, 1 + 2 * k + 1, none⟩ = some (.int .i64 p.2)) (hf : ∀ i, w'.frozen? ⟨tb, i, none⟩ = false) :
    HTabAt w' tb hb { T with slots := T.slots.set k p } := by
  refine ⟨hlt, by rw [other 0 (by omega) (by omega)]; exact h.ptr, ?_, by simpa using h.len, by rw [other 513 (by omega) (by omega)]; exact h.cap, by rw [other 514 (by omega) (by omega)]; exact h.next, by rw [other 515 (by omega) (by omega)]; exact h.now, hf⟩
  intro j v hv
  have hv' : (slotC (T.slots.set k p))[j]? = some v := hv
  rw [slotC_set] at hv'
  have hl := slotC_length T.slots
  have hlen := h.len
  by_cases e2 : j = 2 * k + 1
  · subst e2
    rw [List.getElem?_set_self (by simp; omega)] at hv'
    cases hv'
    rw [show 1 + (2 * k + 1) = 1 + 2 * k + 1 by omega]; exact at2
  · rw [List.getElem?_set_ne (by omega)] at hv'
    by_cases e1 : j = 2 * k
    · subst e1
      rw [List.getElem?_set_self (by omega)] at hv'
      cases hv'
      exact at1
    · rw [List.getElem?_set_ne (by omega)] at hv'
      rw [other (1 + j) (by omega) (by omega)]
      exact h.slots j v hv'

section
variable {w : World} {L : HLoc} {h : HeapS} {os : List Nat} {a cap tb : Nat} {T : HTab} {M : TabS}
/-- What Get answers. -/
def GetR (w : World) (h : HeapS) (os : List Nat) (M : TabS) (id : Int) (e : Ending) (w' : World) : Prop :=
  (∃ o err, e = .returned (.tuple #[.int .u32 o, .int .i64 err]) ∧ ((lget M.live id = none ∧ o = 0 ∧ err = 160) ∨ (∃ x, lget M.live id = some x ∧ err = 0 ∧ isO os o = true ∧ 0 ≤ o ∧ o < 4294967296 ∧ serO h.words o = x.1))) ∧ Ext w w'
set_option maxRecDepth 100000 in
set_option maxHeartbeats 1000000 in
theorem Get32 (t : TBx w L h os a cap tb T) (hs : Spares w) (R : Rel h os a cap T M) (id : Int) (i0 : 0 ≤ id) :
    Calls Tryz.prog 32 #[.pointer (some ⟨tb, 0, none⟩), .int .u64 id] w (GetR w h os M id) := by
  have hp := hs.pos
  have FD := find90 t hs R.usedOK id i0
  cases hx : lget M.live id with
  | none =>
    rw [R.place_none hx] at FD
    simp only [show ((-1 : Int) < 0) by decide, if_true] at FD
    have FD := Lib.hid FD
    clear t hs R
    go_enter Tryz.func32, Tryz.ntmps32
    go_wp2_with (go_at_call 90; refine FD.out.mono ?_; rintro e w1 ⟨rfl, hE1⟩; have E1 := Lib.hid hE1; clear hE1)
    go_ret2
    exact ⟨⟨_, _, rfl, .inl ⟨hx, rfl, rfl⟩⟩, E1.out⟩
  | some x =>
    obtain ⟨k, hk, hpl, hid, hkc, hio, hxe, h0⟩ := R.place_some hx
    rw [hpl] at FD
    simp only [show ¬ ((k : Int) < 0) by omega, if_false] at FD
    have FD := Lib.hid FD
    have OB := Lib.hid (fun W (hE : Ext w W) => object91 (t.heap.keep hE) t.wf (hs.kept hE hp) t.arr (t.tab.keep hE) k hkc)
    have hrng := t.wf.word (a + 3 + k)
    have FIN : Hid (∃ z, lget M.live id = some z ∧ (0 : Int) = 0 ∧ isO os (arrF h a k) = true ∧ 0 ≤ arrF h a k ∧ arrF h a k < 4294967296 ∧ serO h.words (arrF h a k) = z.1) := ⟨x, hx, rfl, hio, hrng.1, hrng.2, by rw [hxe]⟩
    clear t hs R hpl hk hid hio hxe hrng hx
    generalize arrF h a k = z at *
    go_enter Tryz.func32, Tryz.ntmps32
    go_wp2_with (first | (go_at_call 90; refine FD.out.mono ?_; rintro e w1 ⟨rfl, hE1⟩; have E1 := Lib.hid hE1; clear hE1) | (go_at_call 91; refine (OB.out _ E1.out).mono ?_; rintro e w2 ⟨rfl, hE2⟩; have E2 := Lib.hid (E1.out.trans hE2); clear hE2))
    go_ret2
    obtain ⟨z1, f1, _, f2⟩ := FIN.out
    exact ⟨⟨_, _, rfl, .inr ⟨z1, f1, rfl, f2⟩⟩, E2.out⟩

/-- What an act makes: the answer is the book's, and the table is the book's. -/
structure ActR (w : World) (L : HLoc) (h : HeapS) (os : List Nat) (a cap tb : Nat) (M : TabS) (act : HAct) (w' : World) : Prop where
  ans : (ansF M act).2 = true
  tab : ∃ h' T', TBx w' L h' os a cap tb T' ∧ Rel h' os a cap T' (ansF M act).1
  mod : Mod [tb, L.gw] w w'
theorem ActR.keep {act : HAct} {w1 w2 : World} (r : ActR w L h os a cap tb M act w1) (hE : Ext w1 w2) : ActR w L h os a cap tb M act w2 := by
  obtain ⟨h', T', t, R⟩ := r.tab
  exact ⟨r.ans, ⟨h', T', t.keep hE, R⟩, r.mod.ext hE⟩

set_option maxRecDepth 100000 in
set_option maxHeartbeats 1000000 in
theorem Release34 (t : TBx w L h os a cap tb T) (hs : Spares w) (htb : tb ≠ 0) (R : Rel h os a cap T M) (id n ser : Int) (ids : List Int) (i0 : 0 ≤ id) :
    Calls Tryz.prog 34 #[.pointer (some ⟨tb, 0, none⟩), .int .u64 id] w fun e w' => ∃ err, e = .returned (.int .i64 err) ∧ ActR w L h os a cap tb M ⟨4, id, n, ser, ids, err⟩ w' := by
  have hp := hs.pos
  have FD := find90 t hs R.usedOK id i0
  cases hx : lget M.live id with
  | none =>
    rw [R.place_none hx] at FD
    simp only [show ((-1 : Int) < 0) by decide, if_true] at FD
    have FD := Lib.hid FD
    have FIN : Hid (∀ W, Ext w W → ActR w L h os a cap tb M ⟨4, id, n, ser, ids, 160⟩ W) := fun W hE => by
      have e1 : ansF M ⟨4, id, n, ser, ids, 160⟩ = (M, true) := by simp [ansF, releaseF, hx]
      exact ⟨by rw [e1], ⟨h, T, t.keep hE, by rw [e1]; exact R⟩, hE.mod _⟩
    clear t hs R hx
    go_enter Tryz.func34, Tryz.ntmps34
    go_wp2_with (go_at_call 90; refine FD.out.mono ?_; rintro e w1 ⟨rfl, hE1⟩; have E1 := Lib.hid hE1; clear hE1)
    go_ret
    exact ⟨_, rfl, FIN.out _ E1.out⟩
  | some x =>
    obtain ⟨k, hk, hpl, hid, hkc, hio, hxe, h0⟩ := R.place_some hx
    rw [hpl] at FD
    simp only [show ¬ ((k : Int) < 0) by omega, if_false] at FD
    have FD := Lib.hid FD
    have CL := Lib.hid (fun W (hE : Ext w W) => clear92 (t.keep hE) (hs.kept hE hp) htb k hkc)
    have FIN : Hid (∀ W W', Ext w W → TBx W' L (setW h (a + 3 + k) (wd h.roots 0)) os a cap tb { T with slots := T.slots.set k (0, 0) } → Mod [tb, L.gw] W W' → ActR w L h os a cap tb M ⟨4, id, n, ser, ids, 0⟩ W') := fun W W' hE hT hM => by
      have e1 : ansF M ⟨4, id, n, ser, ids, 0⟩ = ({ M with live := ldel M.live id }, true) := by simp [ansF, releaseF, hx]
      have ok := ansF_ok R.ok ⟨4, id, n, ser, ids, 0⟩
      rw [e1] at ok
      have := R.clear t.wf t.arr hk (by rw [hid]; exact h0) (wd h.roots 0) (by rw [hid]; exact ok)
      rw [hid] at this
      exact ⟨by rw [e1], ⟨_, _, hT, by rw [e1]; exact this⟩, (hE.mod _).trans hM⟩
    clear t hs R hpl hk hid hio hxe hx
    go_enter Tryz.func34, Tryz.ntmps34
    go_wp2_with (first | (go_at_call 90; refine FD.out.mono ?_; rintro e w1 ⟨rfl, hE1⟩; have E1 := Lib.hid hE1; clear hE1) | (go_at_call 92; refine (CL.out _ E1.out).mono ?_; rintro e w2 ⟨rfl, hT2, hM2⟩; have T2 := Lib.hid hT2; have M2 := Lib.hid hM2; clear hT2 hM2))
    go_ret
    exact ⟨_, rfl, FIN.out _ _ E1.out T2.out M2.out⟩

set_option maxRecDepth 100000 in
set_option maxHeartbeats 1000000 in
theorem Renew33 (t : TBx w L h os a cap tb T) (hs : Spares w) (R : Rel h os a cap T M) (id n ser : Int) (ids : List Int) (i0 : 0 ≤ id) :
    Calls Tryz.prog 33 #[.pointer (some ⟨tb, 0, none⟩), .int .u64 id, .int .i64 n] w fun e w' => ∃ err, e = .returned (.int .i64 err) ∧ ActR w L h os a cap tb M ⟨3, id, n, ser, ids, err⟩ w' := by
  have hp := hs.pos
  have FD := find90 t hs R.usedOK id i0
  cases hx : lget M.live id with
  | none =>
    rw [R.place_none hx] at FD
    simp only [show ((-1 : Int) < 0) by decide, if_true] at FD
    have FD := Lib.hid FD
    have FIN : Hid (∀ W, Ext w W → ActR w L h os a cap tb M ⟨3, id, n, ser, ids, 160⟩ W) := fun W hE => by
      have e1 : ansF M ⟨3, id, n, ser, ids, 160⟩ = (M, true) := by simp [ansF, renewF, hx]
      exact ⟨by rw [e1], ⟨h, T, t.keep hE, by rw [e1]; exact R⟩, hE.mod _⟩
    clear t hs R hx
    go_enter Tryz.func33, Tryz.ntmps33
    go_wp2_with (go_at_call 90; refine FD.out.mono ?_; rintro e w1 ⟨rfl, hE1⟩; have E1 := Lib.hid hE1; clear hE1)
    go_ret
    exact ⟨_, rfl, FIN.out _ E1.out⟩
  | some x =>
    obtain ⟨k, hk, hpl, hid, hkc, hio, hxe, h0⟩ := R.place_some hx
    rw [hpl] at FD
    simp only [show ¬ ((k : Int) < 0) by omega, if_false] at FD
    have FD := Lib.hid FD
    cases hf : fitsB n with
    | false =>
      have FIN : Hid (∀ W, Ext w W → ActR w L h os a cap tb M ⟨3, id, n, ser, ids, 162⟩ W) := fun W hE => by
        have e1 : ansF M ⟨3, id, n, ser, ids, 162⟩ = (M, true) := by simp [ansF, renewF, hx, hf]
        exact ⟨by rw [e1], ⟨h, T, t.keep hE, by rw [e1]; exact R⟩, hE.mod _⟩
      have LS := fun W => lease87 n W
      rw [hf] at LS
      have LSH := Lib.hid LS
      clear t hs R hpl hk hid hio hxe hx LS
      go_enter Tryz.func33, Tryz.ntmps33
      go_wp2_with (first | (go_at_call 90; refine FD.out.mono ?_; rintro e w1 ⟨rfl, hE1⟩; have E1 := Lib.hid hE1; clear hE1) | (go_at_call 87; refine (LSH.out _).mono ?_; rintro e w2 ⟨rfl, rfl⟩))
      go_ret
      exact ⟨_, rfl, FIN.out _ E1.out⟩
    | true =>
      have hn1 : 1 ≤ n ∧ n ≤ 1000000 := by simpa [fitsB] using hf
      have hk2 : k < 256 := by have := t.cap2; omega
      have hnow0 := R.ok.clock0
      have hnow1 := R.ok.clock1
      rw [R.clock] at hnow0 hnow1
      have CE : Hid (∀ W, Ext w W → (W.cell? ⟨tb, 515, none⟩ = some (.int .i64 T.now)) ∧ (∃ z, W.cell? ⟨tb, 1 + 2 * k + 1, none⟩ = some (.int .i64 z)) ∧ (∀ i, W.frozen? ⟨tb, i, none⟩ = false)) := fun W hE => ⟨(t.tab.keep hE).now, ⟨_, ((t.tab.keep hE).slot k hk2).2⟩, (t.tab.keep hE).fr⟩
      have FIN : Hid (∀ W, Ext w W → ActR w L h os a cap tb M ⟨3, id, n, ser, ids, 0⟩ (W.setCell ⟨tb, 1 + 2 * k + 1, none⟩ (.int .i64 (T.now + n)))) := fun W hE => by
        have tw := t.keep hE
        have e1 : ansF M ⟨3, id, n, ser, ids, 0⟩ = ({ M with live := lput M.live id (serO h.words (arrF h a k), T.now + n) }, true) := by simp [ansF, renewF, hx, hf, hxe, R.clock]
        have ok := ansF_ok R.ok ⟨3, id, n, ser, ids, 0⟩
        rw [e1] at ok
        have er := R.renew hk (by rw [hid]; exact h0) (T.now + n) (by rw [hid]; exact ok)
        rw [hid] at er
        obtain ⟨q1, q2⟩ := tw.tab.slot k hk2
        have hT : HTabAt (W.setCell ⟨tb, 1 + 2 * k + 1, none⟩ (.int .i64 (T.now + n))) tb L.b { T with slots := T.slots.set k (id, T.now + n) } := by
          refine tw.tab.turned k hk2 (id, T.now + n) (by have := tw.tab.lt; simpa using this) (fun i h1 h2 => World.cell?_setCell_other _ _ _ _ (by intro e; cases e; exact h2 rfl)) ?_ (World.cell?_setCell_same _ _ _ q2) (fun i => by simp only [World.frozen?_setCell]; exact tw.tab.fr i)
          rw [World.cell?_setCell_other _ _ _ _ (by intro e; simp at e), q1, hid]
        refine ⟨by rw [e1], ⟨h, { T with slots := T.slots.set k (id, T.now + n) }, ⟨tw.heap.setFar ⟨tb, 1 + 2 * k + 1, none⟩ tw.ap _, tw.wf, tw.so, tw.arr, hT, tw.ap, tw.capE, tw.cap1, tw.cap2⟩, ?_⟩, (hE.mod _).trans ((mod_setCell W ⟨tb, 1 + 2 * k + 1, none⟩ _).mono (by simp))⟩
        rw [e1]; exact er
      have LS := fun W => lease87 n W
      rw [hf] at LS
      have LSH := Lib.hid LS
      have hk3 : (k : Int) < 256 := by omega
      have e1 : 1 + k * 2 = 1 + 2 * k := by omega
      clear t hs R hpl hk hid hio hxe hx LS hf
      generalize T.now = now at *
      go_enter Tryz.func33, Tryz.ntmps33
      go_wp2_with (first | (go_at_call 90; refine FD.out.mono ?_; rintro e w1 ⟨rfl, hE1⟩; have E1 := Lib.hid hE1; clear hE1) | (go_at_call 87; refine (LSH.out _).mono ?_; rintro e w2 ⟨rfl, rfl⟩))
      obtain ⟨c1, ⟨z, c2⟩, c3⟩ := CE.out _ E1.out
      go_region
      go_wp2
      go_ret
      exact ⟨_, rfl, (FIN.out _ E1.out).keep (Ext.refl _).drew⟩
end
end Go.Proofs.Eff
