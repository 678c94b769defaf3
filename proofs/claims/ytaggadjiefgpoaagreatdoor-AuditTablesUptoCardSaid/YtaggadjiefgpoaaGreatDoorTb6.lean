/- handles: find; slices.Index at slots. -/
import Derived.Test.YtaggadjiefgpoaaGreatDoorTb5
namespace Go.Proofs.Eff
open Go.RowKit

/-- The first slot not in use of the first n; -1: there is none. -/
def freeF (l : List (Int × Int)) (n : Nat) : Int := if (l.take n).all (fun p => p != (0, 0)) then -1 else (l.findIdx (fun p => p == (0, 0)) : Int)
theorem freeF_hit {l : List (Int × Int)} {n k : Nat} (hk : k < l.length) (hn : k < n) (hb : ∀ j (hj : j < l.length), j < k → l[j] ≠ (0, 0)) (he : l[k] = (0, 0)) : freeF l n = k := by
  have hc : ¬ (l.take n).all (fun p => p != (0, 0)) = true := by
    intro h; rw [List.all_eq_true] at h
    have hm : l[k] ∈ l.take n := by
      rw [List.mem_take_iff_getElem]
      exact ⟨k, by omega, rfl⟩
    have := h l[k] hm; simp [he] at this
  rw [freeF, if_neg hc]
  congr 1
  rw [List.findIdx_eq hk]
  exact ⟨by simp [he], fun j hj => by simpa using hb j (by omega) hj⟩
theorem freeF_miss {l : List (Int × Int)} {n : Nat} (hb : ∀ j (hj : j < l.length), j < n → l[j] ≠ (0, 0)) : freeF l n = -1 := by
  have hc : (l.take n).all (fun p => p != (0, 0)) = true := by
    rw [List.all_eq_true]
    intro x hx
    rw [List.mem_take_iff_getElem] at hx
    obtain ⟨j, hj, he⟩ := hx
    have := hb j (by omega) (by omega)
    rw [← he]; simpa using this
  rw [freeF, if_pos hc]

set_option maxRecDepth 100000 in
set_option maxHeartbeats 1000000 in
theorem index88 (w : World) (tb n : Nat) (l : List (Int × Int)) (hr : w.rangeAt tb 1 (slotC l)) (hl : l.length = 256) (ht : tb < w.heap.size) (hn : n ≤ 256) :
    Calls Tryz.prog 88 #[.slice (some ⟨tb, 1, none⟩) n 256, .agg #[.int .u64 0, .int .i64 0]] w fun e w' => e = .returned (.int .i64 (freeF l n)) ∧ Ext w w' := by
  have HC : Hid (∀ W, Ext w W → ∀ k (hk : k < l.length), W.cell? ⟨tb, 1 + 2 * k, none⟩ = some (.int .u64 l[k].1) ∧ W.cell? ⟨tb, 1 + 2 * k + 1, none⟩ = some (.int .i64 l[k].2)) := fun W hE k hk => by
    obtain ⟨g1, g2⟩ := slotC_get l k hk
    exact ⟨by rw [hE.cell (p := ⟨tb, 1 + 2 * k, none⟩) ht]; exact hr _ _ g1, by rw [hE.cell (p := ⟨tb, 1 + 2 * k + 1, none⟩) ht]; exact hr _ _ g2⟩
  have HL := Lib.hid hl
  have B0 := Lib.hid (newB w (.cells #[.int .u64 0, .int .i64 0] 180) _ rfl)
  have E0 := Lib.hid ((Ext.refl w).alloc (.cells #[.int .u64 0, .int .i64 0] 180))
  clear hr hl
  go_enter Tryz.func88, Tryz.ntmps88
  go_wp2
  generalize w.alloc (.cells #[.int .u64 0, .int .i64 0] 180) = W0 at *
  obtain ⟨bx, hbx⟩ : ∃ m, m = w.heap.size := ⟨_, rfl⟩
  rw [← hbx] at B0 ⊢
  clear hbx
  go_loopw [8] (fun i wr => ∃ k : Nat, k ≤ n ∧ i = .int .i64 k ∧ Ext W0 wr ∧ ∀ j (hj : j < l.length), j < k → l[j] ≠ (0, 0)) (fun i _ => n - (intOf i).toNat)
  case atStart => exact ⟨0, by omega, rfl, Ext.refl _, fun j _ hj => by omega⟩
  case round =>
    obtain ⟨k, hk, rfl, hE, hN⟩ := hrel
    have E := Lib.hid hE
    have N := Lib.hid hN
    obtain ⟨p1, p2⟩ := blk (hE.keep B0.out)
    clear hE hN
    by_cases hlt : k < n
    · have hkl : k < l.length := by rw [HL.out]; omega
      obtain ⟨c1, c2⟩ := HC.out _ (E0.out.trans E.out) k hkl
      have RK : Hid (l[k] = (0, 0) → freeF l n = k) := fun h => freeF_hit hkl hlt (fun j hj hlt => N.out j hj hlt) h
      have NK : Hid (l[k] ≠ (0, 0) → ∀ j (hj : j < l.length), j < k + 1 → l[j] ≠ (0, 0)) := fun h j hj hlt => by
        by_cases e : j = k
        · subst e; exact h
        · exact N.out j hj (by omega)
      obtain ⟨y, z, hyz⟩ : ∃ y z, l[k] = (y, z) := ⟨_, _, rfl⟩
      rw [hyz] at c1 c2 RK NK
      simp only at c1 c2
      have e1 : 1 + k * 2 = 1 + 2 * k := by omega
      have hki : (k : Int) < (n : Int) := by omega
      clear hyz hkl
      by_cases hyi : ((0 : Int), (0 : Int)) = (y, z)
      · have hne : ∀ W, (binOp .eql 180 (.agg #[.int .u64 0, .int .i64 0]) (.agg #[.int .u64 y, .int .i64 z])).run Tryz.prog W = .ok (.bool true) W := fun W => by rw [run_eql180, decide_eq_true hyi]
        have RK2 := Lib.hid (RK.out hyi.symm)
        clear hyi
        go_wp2
        go_quiet (fail)
        have XN : Ext wr (wr.drewN nq) := (Ext.refl wr).drewN nq
        have E6 := Lib.hid (E0.out.trans (E.out.trans XN))
        clear XN c1 c2 p1 p2
        generalize wr.drewN nq = W6 at *
        go_wp2
        go_ret
        exact ⟨by rw [RK2.out]; rfl, E6.out⟩
      · have hne : ∀ W, (binOp .eql 180 (.agg #[.int .u64 0, .int .i64 0]) (.agg #[.int .u64 y, .int .i64 z])).run Tryz.prog W = .ok (.bool false) W := fun W => by rw [run_eql180, decide_eq_false hyi]
        have NK2 := Lib.hid (NK.out (fun h => hyi h.symm))
        clear hyi
        go_wp2
        go_quiet (fail)
        have XN : Ext wr (wr.drewN nq) := (Ext.refl wr).drewN nq
        have E6 := Lib.hid (E.out.trans XN)
        clear XN c1 c2 p1 p2
        generalize wr.drewN nq = W6 at *
        go_wp2
        go_roundw
        case rel => exact ⟨k + 1, by omega, by go_num, E6.out, NK2.out⟩
        case measure => simp [intOf]; omega
    · obtain rfl : k = n := by omega
      have RK : Hid (freeF l k = -1) := freeF_miss (fun j hj hlt => N.out j hj hlt)
      go_wp2
      go_ret
      exact ⟨by rw [RK.out]; rfl, E0.out.trans E.out⟩

section
variable {w : World} {L : HLoc} {h : HeapS} {os : List Nat} {a cap tb : Nat} {T : HTab}
def placeV (T : HTab) (id : Int) : Int := if id = 0 then -1 else placeF T.slots id
set_option maxRecDepth 100000 in
set_option maxHeartbeats 1000000 in
theorem find90 (t : TBx w L h os a cap tb T) (hs : Spares w) (hu : UsedOK h os a cap T) (id : Int) (i0 : 0 ≤ id) :
    Calls Tryz.prog 90 #[.pointer (some ⟨tb, 0, none⟩), .int .u64 id] w fun e w' => (if placeV T id < 0 then e = .returned (.tuple #[.int .i64 0, .int .i64 160]) else e = .returned (.tuple #[.int .i64 (placeV T id), .int .i64 0])) ∧ Ext w w' := by
  have BR := Lib.hid (broken86 t hs hu)
  have PL : Hid (∀ W, Ext w W → Calls Tryz.prog 136 #[.pointer (some ⟨tb, 0, none⟩), .int .u64 id] W fun e w' => e = .returned (.int .i64 (placeV T id)) ∧ Ext W w') := fun W hE => place136 (t.tab.keep hE) id i0
  clear t hs hu
  generalize placeV T id = v at *
  by_cases hv : v < 0
  · simp only [hv, if_true]
    go_enter Tryz.func90, Tryz.ntmps90
    go_wp2_with (first | (go_at_call 86; refine BR.out.mono ?_; rintro e w1 ⟨rfl, hE1⟩; have E1 := Lib.hid hE1; clear hE1) | (go_at_call 136; refine (PL.out _ E1.out).mono ?_; rintro e w2 ⟨rfl, hE2⟩; have E2 := Lib.hid (E1.out.trans hE2); clear hE2))
    go_ret2
    exact ⟨rfl, E2.out⟩
  · simp only [hv, if_false]
    go_enter Tryz.func90, Tryz.ntmps90
    go_wp2_with (first | (go_at_call 86; refine BR.out.mono ?_; rintro e w1 ⟨rfl, hE1⟩; have E1 := Lib.hid hE1; clear hE1) | (go_at_call 136; refine (PL.out _ E1.out).mono ?_; rintro e w2 ⟨rfl, hE2⟩; have E2 := Lib.hid (E1.out.trans hE2); clear hE2))
    go_ret2
    exact ⟨rfl, E2.out⟩
end
end Go.Proofs.Eff
