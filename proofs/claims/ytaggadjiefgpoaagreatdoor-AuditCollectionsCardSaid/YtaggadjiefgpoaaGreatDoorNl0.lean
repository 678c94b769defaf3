/- No heap: what the program's functions answer for nil. -/
import Derived.Test.YtaggadjiefgpoaaGreatDoorHa25
namespace Go.Proofs.Eff
open Go.RowKit Go.Shelf
attribute [local go_sem] Oper.semAt_some

theorem size_nil (w : World) : Calls Tryz.prog 52 #[.pointer none] w fun e w' => e = .returned (.int .i64 0) ∧ w = w' := by
  go_enter Tryz.func52, Tryz.ntmps52
  go_wp2_with (go_at_call 47; refine (made_nil _).mono ?_; rintro e w' ⟨rfl, rfl⟩)
  go_ret
  exact ⟨rfl, rfl⟩
theorem last_nil (w : World) : Calls Tryz.prog 53 #[.pointer none] w fun e w' => e = .returned (.int .u32 0) ∧ w = w' := by
  go_enter Tryz.func53, Tryz.ntmps53
  go_wp2_with (go_at_call 47; refine (made_nil _).mono ?_; rintro e w' ⟨rfl, rfl⟩)
  go_ret
  exact ⟨rfl, rfl⟩
theorem roots_nil (w : World) : Calls Tryz.prog 71 #[.pointer none] w fun e w' => e = .returned (.slice none 0 0) ∧ w = w' := by
  go_enter Tryz.func71, Tryz.ntmps71
  go_wp2_with (go_at_call 47; refine (made_nil _).mono ?_; rintro e w' ⟨rfl, rfl⟩)
  go_ret
  exact ⟨rfl, rfl⟩
theorem root_nil (w : World) (i : Int) : Calls Tryz.prog 84 #[.pointer none, .int .i64 i] w fun e w' => e = .returned (.tuple #[.int .u32 0, .int .i64 1]) ∧ w = w' := by
  go_enter Tryz.func84, Tryz.ntmps84
  go_wp2_with (go_at_call 47; refine (made_nil _).mono ?_; rintro e w' ⟨rfl, rfl⟩)
  go_ret2
  exact ⟨rfl, rfl⟩
theorem root58_nil (w : World) (i : Int) : Calls Tryz.prog 58 #[.pointer none, .int .i64 i] w fun e w' => e = .returned (.int .u32 0) ∧ w = w' := by
  go_enter Tryz.func58, Tryz.ntmps58
  go_wp2_with (go_at_call 84; refine (root_nil _ _).mono ?_; rintro e w' ⟨rfl, rfl⟩)
  go_ret
  exact ⟨rfl, rfl⟩

set_option maxRecDepth 100000 in
theorem put126_nil (p : Value) (w : World) (x : Int) : Calls Tryz.prog 126 #[p, .int .i64 x, .slice none 0 0] w fun e w' => e = .returned (.tuple #[]) ∧ w = w' := by
  go_enter Tryz.func126, Tryz.ntmps126
  go_wp2
  go_loopw [12] (fun i wr => i = .int .i64 0 ∧ wr = w) (fun i _ => 0)
  case atStart => exact ⟨rfl, rfl⟩
  case round =>
    obtain ⟨rfl, rfl⟩ := hrel
    go_wp2
    go_end0
    exact ⟨rfl, rfl⟩
/-- A new walk that has met nothing. -/
def NilWalk (w : World) (e : Ending) (w' : World) : Prop := ∃ tb mv, e = .returned (.pointer (some ⟨tb, 0, none⟩)) ∧ w'.heap[tb]? = some (.cells #[.slice none 0 0, mv] 165) ∧ Ext w w'

set_option maxRecDepth 100000 in
set_option maxHeartbeats 1000000 in
theorem walk75_nil (w : World) : Calls Tryz.prog 75 #[.pointer none, .slice none 0 0] w (NilWalk w) := by
  have hmm := @run_makeMap Tryz.prog
  go_enter Tryz.func75, Tryz.ntmps75
  go_wp2_with fail
  have B0 := Lib.hid (newB (w.alloc (.map #[] 0)) (.cells #[.slice none 0 0, .map (some w.heap.size)] 165) (w.heap.size + 1) (by simp))
  have E0 := Lib.hid (((Ext.refl w).alloc (.map #[] 0)).alloc (.cells #[.slice none 0 0, .map (some w.heap.size)] 165))
  refine wp_scope_jumps 0 (fun a' w' => False) (fun a' _ => 0) rfl ?_ ?_
  · go_wp2_with (first | (go_at_call 126; refine (put126_nil _ _ _).mono ?_; rintro e W ⟨rfl, rfl⟩))
    go_step3
    obtain ⟨c1, c2⟩ := blk B0.out
    go_wp2
    simp only [Exit.jump]
    go_ret
    exact ⟨_, _, rfl, B0.out, E0.out⟩
  · intro a' w' h; exact h.elim

set_option maxRecDepth 100000 in
set_option maxHeartbeats 1000000 in
theorem live_nil (w : World) : Calls Tryz.prog 21 #[.pointer none] w fun e w' => e = .returned (.slice none 0 0) ∧ Ext w w' := by
  go_enter Tryz.func21, Tryz.ntmps21
  go_wp2_with (first | (go_at_call 71; refine (roots_nil _).mono ?_; rintro e w1 ⟨rfl, rfl⟩) | (go_at_call 76; refine (only76_nil _).mono ?_; rintro e w2 ⟨rfl, rfl⟩) | (go_at_call 75; refine (walk75_nil _).mono ?_; rintro e w3 ⟨tb, mv, rfl, hT, hb3⟩; have B3 := Lib.hid hb3; obtain ⟨c1, c2⟩ := blk hT; clear hT hb3))
  refine (Sa.sort_nil none 0 _).mono ?_
  rintro e w' ⟨rfl, rfl⟩
  go_wp2
  go_ret
  exact ⟨rfl, B3.out⟩

set_option maxRecDepth 100000 in
set_option maxHeartbeats 1000000 in
theorem AllN_in (n l Bn : Nat) (J Jx : List Nat → World → Prop) (W : World) (hBn : W.cell? ⟨Bn, 0, none⟩ = some (.pointer none)) (h0 : J [] W) :
    CallsIn Fence.wide n Tryz.prog 123 #[.func (.yield l) #[] #[], .pointer (some ⟨Bn, 0, none⟩)] W fun e W' => (∃ v, e = .returned v) ∧ ((∃ xs, xs = ([] : List Nat) ∧ J xs W') ∨ (∃ pre, pre <+: ([] : List Nat) ∧ Jx pre W')) := by
  have HJ := Lib.hid h0
  clear h0
  refine callsIn_of_wp Tryz.func123 rfl trivial ?_ rfl
  simp only [Tryz.ntmps123, List.size_toArray, List.length_cons, List.length_nil, Nat.reduceAdd, Nat.reduceSub, Array.replicate_succ, Array.replicate_zero, List.push_toArray, List.append_toArray, List.nil_append, List.cons_append]
  gi_wp2_with (first | (refine ⟨trivial, (fun h => by cases h), ?_⟩; gi_at_call 19; refine (callsIn_wide.2 (Clone_nil _)).mono ?_; rintro e w1 ⟨rfl, rfl⟩))
  refine bodyPost_ret (results_none rfl _ _ _) rfl ⟨⟨_, rfl⟩, .inl ⟨[], rfl, HJ.out⟩⟩

theorem allN_stops (n B Bn : Nat) {w : World} (hBn : w.cell? ⟨Bn, 0, none⟩ = some (.pointer none)) (hBl : Bn < w.heap.size) :
    SeqStopsK Fence.wide n Tryz.prog 123 #[.pointer (some ⟨Bn, 0, none⟩)] (allEnc []) (KpB B) (fun xs => xs = ([] : List Nat)) (fun pre => pre <+: ([] : List Nat)) 0 w := by
  intro l J Jx W hW hJ hJx hY h0
  have hE : Ext w W := hW
  exact AllN_in n l Bn J Jx W ((hE.cell (p := ⟨Bn, 0, none⟩) hBl).trans hBn) h0

set_option maxRecDepth 100000 in
set_option maxHeartbeats 2000000 in
theorem objects_nil (w : World) : Calls Tryz.prog 54 #[.pointer none] w (OopsR w []) := by
  refine (callsIn_wide (n := 4)).1 ?_
  refine callsIn_of_wp_marks Tryz.func54 rfl trivial ?_ rfl
  simp only [Tryz.ntmps54, List.size_toArray, List.length_cons, List.length_nil, Nat.reduceAdd, Nat.reduceSub, Array.replicate_succ, Array.replicate_zero, List.push_toArray, List.append_toArray, List.nil_append, List.cons_append]
  gi_wp2_with (refine ⟨trivial, ?_⟩; gi_at_call 70; refine (callsIn_wide.2 (all70 _ _)).mono ?_; rintro e w' ⟨rfl, rfl⟩)
  have bO := Boxed.new w 23 (.slice none 0 0)
  have bN := Boxed.new (w.alloc (.cells #[.slice none 0 0] 23)) 27 (.pointer none)
  rw [World.size_alloc] at bN
  have hB0 : Ext w ((w.alloc (.cells #[.slice none 0 0] 23)).alloc (.cells #[.pointer none] 27)) := ((Ext.refl w).alloc _).alloc _
  have h1n : 1 ≤ 4 := by decide
  refine wpIn_rangeFunc_ownG rfl h1n (gf := 123) (lb := #[.pointer (some ⟨w.heap.size + 1, 0, none⟩)]) rfl trivial (enters_of Tryz.func123 (by kernel_rfl) rfl)
    (allN_stops _ w.heap.size (w.heap.size + 1) bN.cell (by simp)) KpB.trans (KpB.turn (by simp; omega)) (Below.refl _ _) (fun _ => by rfl)
    (fun pre W => (∃ v, Boxed W w.heap.size 23 v ∧ W.ownsRow w.heap.size 41 1 v (oopsOf pre).length (u32s (oopsOf pre)) ∧ True) ∧ Below w.heap.size w W)
    (fun _ _ _ => False)
    (OwnFrom.and (Own.from (holdsRow_own w.heap.size w.heap.size 23 41 1 (fun pre => (oopsOf pre).length) (fun pre => u32s (oopsOf pre)) (fun _ _ => True)) _) (ownFrom_below (Nat.le_refl _) (by simp; omega)))
    (fun _ _ _ _ _ hs _ _ => hs)
    ⟨⟨_, bO.alloc _, World.ownsRow_nil _ _ _ _, trivial⟩, hB0⟩
    (fun x => { tmps := #[.pointer none, undef, .slice none 0 0, .pointer (some ⟨w.heap.size, 0, none⟩), .int .u32 (2 * (x : Int)), .pointer none, .func (.func 123) #[] #[.pointer (some ⟨w.heap.size + 1, 0, none⟩)], .int .u32 (2 * (x : Int)), (hdrAt [] x).val, undef, undef, undef, undef, undef], defers := [] }) ?assign ?body ?done ?stop
  case assign =>
    intro l x W K hK
    dsimp only [allEnc]
    gi_wp2
    exact hK
  case body =>
    rintro l pre x W _ hlt
    omega
  case done =>
    rintro D ys W hD rfl ⟨⟨v, hv, hrow, _⟩, hB⟩ hK
    have hc := hv.cell
    gi_wp2
    refine ⟨by simp, .inl ⟨_, _, rfl, run_takeDeferred hK, ?_⟩⟩
    exact ⟨_, results_tmp rfl _ _ _, v, rfl, ownsRow_putObj hrow _ hK rfl, hB.trans (belowK_b (w := w) (Nat.le_refl _) W D _ _ (by simp at hD; omega) hK rfl rfl)⟩
  case stop =>
    rintro D c pre W _ _ h _
    exact h.elim

set_option maxRecDepth 100000 in
set_option maxHeartbeats 1000000 in
theorem serials_nil (w : World) (p : Value) (ad : Option Addr) (c : Nat) : Calls Tryz.prog 55 #[p, .slice ad 0 c] w fun e w' => (∃ mb, e = .returned (.map (some mb))) ∧ Ext w w' := by
  have hmm := @run_makeMap Tryz.prog
  go_enter Tryz.func55, Tryz.ntmps55
  go_wp2
  go_loopw [11] (fun i wr => i = .int .i64 0 ∧ wr = w.alloc (.map #[] 0)) (fun i _ => 0)
  case atStart => exact ⟨rfl, rfl⟩
  case round =>
    obtain ⟨rfl, rfl⟩ := hrel
    go_wp2
    go_ret
    exact ⟨⟨_, rfl⟩, (Ext.refl _).alloc _⟩

set_option maxRecDepth 100000 in
set_option maxHeartbeats 1000000 in
theorem collect_nil (w : World) : Calls Tryz.prog 20 #[.pointer none] w fun e w' => (∃ v, e = .returned v) ∧ Ext w w' := by
  refine (callsIn_wide (n := 4)).1 ?_
  refine callsIn_of_wp_marks Tryz.func20 rfl trivial ?_ rfl
  simp only [Tryz.ntmps20, List.size_toArray, List.length_cons, List.length_nil, Nat.reduceAdd, Nat.reduceSub, Array.replicate_succ, Array.replicate_zero, List.push_toArray, List.append_toArray, List.nil_append, List.cons_append]
  refine wpIn_wide.2 ?_
  go_wp2_with (go_at_call 52; refine (size_nil _).mono ?_; rintro e w' ⟨rfl, rfl⟩)
  exact ⟨.agg #[.int .i64 0, .int .i64 0, .int .i64 0, .int .i64 0, .int .i64 0], by simp [results, Tryz.results20, go_sem], ⟨_, rfl⟩, (Ext.refl _).alloc _⟩
section
variable {w : World} {L : HLoc} {h : HeapS} {os : List Nat}
set_option maxRecDepth 100000 in
set_option maxHeartbeats 1000000 in
theorem Coll_nil2 (ha : HeapAt w L h) (wf : WF h os) : Calls Tryz.prog 15 #[.pointer (some ⟨L.b, 0, none⟩), .pointer none] w (FindR w (10, 0)) := by
  have SZ1 := Lib.hid (fun W (hE : Ext w W) => size_ok (ha.keep hE) wf)
  have hq : (h.size != 0) = true := by have := wf.size0; rw [bne_iff_ne]; omega
  clear ha wf
  go_enter Tryz.func15, Tryz.ntmps15
  go_wp2_with fail
  refine (SZ1.out _ ((Ext.refl _).alloc _)).mono ?_
  rintro e w' ⟨rfl, rfl⟩
  go_wp2_with fail
  refine (size_nil _).mono ?_
  rintro e w' ⟨rfl, rfl⟩
  go_wp2
  refine bodyPost_ret (v := .agg #[.int .i64 10, .int .i64 0]) (by simp [results, Tryz.results15, go_sem]) rfl ⟨rfl, ?_⟩
  exact (Ext.refl _).alloc _
set_option maxRecDepth 100000 in
set_option maxHeartbeats 1000000 in
theorem Coll_nil1 (ha : HeapAt w L h) (wf : WF h os) : Calls Tryz.prog 15 #[.pointer none, .pointer (some ⟨L.b, 0, none⟩)] w (FindR w (10, 0)) := by
  have SZ1 := Lib.hid (fun W (hE : Ext w W) => size_ok (ha.keep hE) wf)
  have hq : ((0 : Int) != h.size) = true := by have := wf.size0; rw [bne_iff_ne]; omega
  clear ha wf
  go_enter Tryz.func15, Tryz.ntmps15
  go_wp2_with fail
  refine (size_nil _).mono ?_
  rintro e w' ⟨rfl, rfl⟩
  go_wp2_with fail
  refine (SZ1.out _ ((Ext.refl _).alloc _)).mono ?_
  rintro e w' ⟨rfl, rfl⟩
  go_wp2
  refine bodyPost_ret (v := .agg #[.int .i64 10, .int .i64 0]) (by simp [results, Tryz.results15, go_sem]) rfl ⟨rfl, ?_⟩
  exact (Ext.refl _).alloc _
end

set_option maxRecDepth 100000 in
set_option maxHeartbeats 2000000 in
theorem Coll_nilnil (w : World) : Calls Tryz.prog 15 #[.pointer none, .pointer none] w (FindR w (0, 0)) := by
  have A0 : Hid (Ext w (w.alloc (.cells #[.int .i64 0, .int .i64 0] 51))) := (Ext.refl w).alloc _
  have RB0 : Hid ((w.alloc (.cells #[.int .i64 0, .int .i64 0] 51)).heap[w.heap.size]? = some (.cells #[.int .i64 0, .int .i64 0] 51)) := newB _ _ _ rfl
  go_enter Tryz.func15, Tryz.ntmps15
  go_wp2_with fail
  generalize w.alloc (.cells #[.int .i64 0, .int .i64 0] 51) = W0 at *
  obtain ⟨rb, hrb⟩ : ∃ n, n = w.heap.size := ⟨_, rfl⟩
  rw [← hrb] at RB0 ⊢
  have hrb1 : w.heap.size ≤ rb := by omega
  clear hrb
  refine (size_nil _).mono ?_
  rintro e w' ⟨rfl, rfl⟩
  go_wp2_with fail
  refine (size_nil _).mono ?_
  rintro e w' ⟨rfl, rfl⟩
  go_wp2_with fail
  refine (last_nil _).mono ?_
  rintro e w' ⟨rfl, rfl⟩
  go_wp2_with fail
  refine (last_nil _).mono ?_
  rintro e w' ⟨rfl, rfl⟩
  go_wp2_with fail
  refine (live_nil _).mono ?_
  rintro e wa ⟨rfl, hEa⟩
  have EA := Lib.hid hEa
  clear hEa
  go_wp2_with fail
  refine (objects_nil _).mono ?_
  rintro e wb ⟨v, rfl, hrow, hEb⟩
  have EB := Lib.hid (EA.out.trans hEb)
  obtain ⟨ad, c, rfl, _⟩ := own_any hrow
  clear hEb hrow EA
  simp only [List.length_nil]
  go_wp2_with fail
  refine (serials_nil _ _ _ _).mono ?_
  rintro e w3 ⟨⟨m1, rfl⟩, hE3⟩
  have E3 := Lib.hid (EB.out.trans hE3)
  clear hE3 EB
  go_wp2_with fail
  refine (serials_nil _ _ _ _).mono ?_
  rintro e w4 ⟨⟨m2, rfl⟩, hE4⟩
  have E4 := Lib.hid (E3.out.trans hE4)
  clear hE4 E3
  go_wp2
  go_loopw [47] (fun i wr => i = .int .i64 0 ∧ wr = w4) (fun i _ => 0)
  case atStart => exact ⟨rfl, rfl⟩
  case round =>
    obtain ⟨rfl, rfl⟩ := hrel
    go_wp2
    generalize wr = wq at *
    go_loopw [63] (fun i wr => i = .int .i64 0 ∧ wr = wq) (fun i _ => 0)
    case atStart => exact ⟨rfl, rfl⟩
    case round =>
      obtain ⟨rfl, rfl⟩ := hrel
      go_wp2
      generalize wr = wq2 at *
      go_loopw [79] (fun i wr => i = .int .i64 0 ∧ wr = wq2) (fun i _ => 0)
      case atStart => exact ⟨rfl, rfl⟩
      case round =>
        obtain ⟨rfl, rfl⟩ := hrel
        generalize wr = wq3 at *
        go_wp2_with fail
        refine (Clone_nil _).mono ?_
        rintro e w' ⟨rfl, rfl⟩
        go_wp2_with fail
        refine (collect_nil _).mono ?_
        rintro e w5 ⟨⟨v, rfl⟩, hE5⟩
        have E5 := Lib.hid (E4.out.trans hE5)
        clear hE5 E4
        go_wp2_with fail
        refine (objects_nil _).mono ?_
        rintro e w6 ⟨v, rfl, hrow, hE6⟩
        have E6 := Lib.hid (E5.out.trans hE6)
        obtain ⟨ad, c, rfl, _⟩ := own_any hrow
        clear hE6 hrow E5
        simp only [List.length_nil]
        go_wp2
        go_loopw [105] (fun i wr => i = .int .i64 0 ∧ wr = w6) (fun i _ => 0)
        case atStart => exact ⟨rfl, rfl⟩
        case round =>
          obtain ⟨rfl, rfl⟩ := hrel
          generalize wr = wq4 at *
          go_wp2
          go_loopw [127] (fun i wr => ∃ (k : Nat), k ≤ 64 ∧ i = .int .i64 k ∧ wr = wq4) (fun i _ => 64 - (intOf i).toNat)
          case atStart => exact ⟨0, by omega, rfl, rfl⟩
          case round =>
            obtain ⟨k, hk, rfl, rfl⟩ := hrel
            by_cases hlt : k < 64
            · go_wp2_with fail
              refine (root58_nil _ _).mono ?_
              rintro e w' ⟨rfl, rfl⟩
              go_wp2_with fail
              refine (root58_nil _ _).mono ?_
              rintro e w' ⟨rfl, rfl⟩
              go_wp2
              go_roundw
              case rel => exact ⟨k + 1, by omega, by go_num, trivial⟩
              case measure => simp [intOf]; omega
            · obtain rfl : k = 64 := by omega
              obtain ⟨y1, y2⟩ := blk (E6.out.keep RB0.out)
              go_wp2
              have hZ := set2 (E6.out.keep RB0.out) (.int .i64 0) (.int .i64 0)
              have XF : Ext w ((wr.setCell ⟨rb, 0, none⟩ (.int .i64 0)).setCell ⟨rb, 1, none⟩ (.int .i64 0)) := (Ext.setCell (A0.out.trans E6.out) (p := ⟨rb, 0, none⟩) hrb1 _).setCell (p := ⟨rb, 1, none⟩) hrb1 _
              generalize (wr.setCell ⟨rb, 0, none⟩ (.int .i64 0)).setCell ⟨rb, 1, none⟩ (.int .i64 0) = Z at *
              obtain ⟨z1, z2⟩ := blk hZ
              refine bodyPost_ret (v := .agg #[.int .i64 0, .int .i64 0]) (by simp [results, Tryz.results15, go_sem, z1]) rfl ⟨rfl, XF⟩
end Go.Proofs.Eff
