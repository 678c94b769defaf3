/- handles: broken. -/
import Derived.Test.YtaggadjiefgpoaaGreatDoorTb4
import Derived.Deep.DrawnRows
namespace Go.Proofs.Eff
open Go.RowKit

theorem stood180 : Tryz.prog.stoodInHeld 180 = false := by kernel_rfl
theorem names180 : (Tryz.prog.fieldsOf 180).toList.map (fun f => (f.name, f.type, f.offset)) = [("id", 55, 0), ("expiry", 3, 1)] := by kernel_rfl
theorem run_equalIn180 (w : World) (a0 a1 b0 b1 : Int) : (Op.equalIn 10000 180 (.agg #[.int .u64 a0, .int .i64 a1]) (.agg #[.int .u64 b0, .int .i64 b1])).run Tryz.prog w = .ok (decide ((a0, a1) = (b0, b1))) w := by
  rw [run_equalIn_struct w 9999 180 _ _ under180 stood180]
  have hn := names180
  generalize (Tryz.prog.fieldsOf 180).toList = fs at hn
  obtain ⟨f0, f1, rfl⟩ := two_fields hn
  simp only [List.map_cons, List.map_nil, List.cons.injEq, Prod.mk.injEq, and_true] at hn
  obtain ⟨⟨n0, t0, o0⟩, n1, t1, o1⟩ := hn
  rw [eqFields_int _ w 9998 _ _ f0 _ .u64 .u64 a0 b0 (by rw [n0]; decide) (by rw [t0]; exact Tryz.underlying55) (by rw [o0]; rfl) (by rw [o0]; rfl),
    eqFields_int _ w 9998 _ _ f1 _ .i64 .i64 a1 b1 (by rw [n1]; decide) (by rw [t1]; exact Tryz.underlying3) (by rw [o1]; rfl) (by rw [o1]; rfl)]
  simp only [Op.eqFields, Sem.run_pure]
  by_cases h0 : a0 = b0 <;> by_cases h1 : a1 = b1 <;> simp [h0, h1]
theorem run_eql180 (w : World) (a0 a1 b0 b1 : Int) : (binOp .eql 180 (.agg #[.int .u64 a0, .int .i64 a1]) (.agg #[.int .u64 b0, .int .i64 b1])).run Tryz.prog w = .ok (.bool (decide ((a0, a1) = (b0, b1)))) w := by
  rw [run_eql_struct, run_equalIn180]; rfl
theorem run_neq180 (w : World) (a0 a1 b0 b1 : Int) : (binOp .neq 180 (.agg #[.int .u64 a0, .int .i64 a1]) (.agg #[.int .u64 b0, .int .i64 b1])).run Tryz.prog w = .ok (.bool (!decide ((a0, a1) = (b0, b1)))) w := by
  rw [run_neq_struct, run_equalIn180]; rfl
theorem info181 : (Tryz.prog.info? 181).map (·.size) = some 512 := by kernel_rfl
theorem load181 {w : World} {tb hb : Nat} {T : HTab} (ht : HTabAt w tb hb T) : (Instr.loadAt 181 (.pointer (some ⟨tb, 1, none⟩))).run Tryz.prog w = .ok (.agg (slotC T.slots).toArray) w :=
  run_loadAt_mid w tb 1 181 (slotC T.slots) _ ht.slots under181 rfl (by rw [slotC_length, ht.len, info181])

/-- Each slot in use has an object in its field. -/
def UsedOK (h : HeapS) (os : List Nat) (a cap : Nat) (T : HTab) : Prop := ∀ k (hk : k < T.slots.length), T.slots[k] ≠ (0, 0) → k < cap ∧ isO os (arrF h a k) = true

section
variable {w : World} {L : HLoc} {h : HeapS} {os : List Nat} {a cap tb : Nat} {T : HTab}
set_option maxRecDepth 100000 in
set_option maxHeartbeats 2000000 in
theorem broken86 (t : TBx w L h os a cap tb T) (hs : Spares w) (hu : UsedOK h os a cap T) :
    Calls Tryz.prog 86 #[.pointer (some ⟨tb, 0, none⟩)] w fun e w' => e = .returned (.bool false) ∧ Ext w w' := by
  have hp := hs.pos
  have ho := (t.arr.obj t.wf).1
  have hm := t.wf.mem t.arr.mem
  have hbig := t.wf.big
  have ea : (2 * (a : Int) / 2).toNat = a := by omega
  have RT := Lib.hid (fun W (hE : Ext w W) => root135 (t.heap.keep hE) t.wf 40 (by omega) (by omega))
  rw [show (40 : Int).toNat = 40 from rfl, t.arr.root] at RT
  have HD := Lib.hid (fun W (hE : Ext w W) => Header_ok (t.heap.keep hE) t.wf (hs.kept hE hp) (2 * (a : Int)) (by omega) (by omega) ho)
  rw [ea] at HD
  obtain ⟨sp, cl, sr, hh⟩ : ∃ sp cl sr, hdrAt h.words a = ⟨(cap : Int), 1, sp, cl, sr⟩ := by
    have h1 := t.arr.fmt
    have h2 : (hdrAt h.words a).size = sizeAt h.words a := by have := t.wf.word a; simp [hdrAt, hdrOf, sizeAt]; omega
    rw [t.arr.size] at h2
    generalize hdrAt h.words a = H at *
    obtain ⟨A, B, C, c, s⟩ := H
    exact ⟨C, c, s, by simp only at h1 h2; rw [h1, h2]⟩
  rw [hh] at HD
  simp only [Hdr.val, Hdr.cells] at HD
  have TK := Lib.hid (fun W (hE : Ext w W) => t.tab.keep hE)
  have hc := t.tab.cap
  have hcn : (T.cap == 0) = false := by rw [beq_eq_false_iff_ne, t.capE]; have := t.cap1; omega
  have TT := Lib.hid t
  have HS := Lib.hid hs
  have HU := Lib.hid hu
  have hcc := t.capE
  have KE : Hid (∀ W, Ext w W → W.cell? ⟨tb, 0, none⟩ = some (.pointer (some ⟨L.b, 0, none⟩)) ∧ Ext w W) := fun W hE => ⟨(TK.out _ hE).ptr, hE⟩
  rw [hcc] at hc hcn
  have HCC := Lib.hid hcc
  clear t hs hu ho hm ea hh hcc
  go_enter Tryz.func86, Tryz.ntmps86
  go_upto_region 3 with fail
  clear hcn
  go_cut [3, 4] from 16 (fun s3 s4 wc => ∃ n, s3 = .pointer (some ⟨n, 0, none⟩) ∧ s4 = .int .i64 0 ∧ Ext w wc ∧ n < wc.heap.size ∧ wc.cell? ⟨n, 0, none⟩ = some (.int .i64 (cap : Int)) ∧ wc.cell? ⟨n, 1, none⟩ = some (.int .i64 1))
  case first =>
    go_region_held3 (fun w' => w'.cell? ⟨tb, 0, none⟩ = some (.pointer (some ⟨L.b, 0, none⟩)) ∧ Ext w w')
      (with_reducible (refine KE.out _ ?_; (repeat' (first | refine Ext.setCell ?_ ?_ _ | refine Ext.alloc ?_ _ | refine Ext.drew ?_ | exact Ext.refl _ | refine Ext.trans ?_ hE9)); (all_goals (first | exact Nat.le_refl _ | ((try have h9 := hE9.size); (try simp at h9); simp; (try omega))))))
      (first | (go_at_call 135; with_reducible refine (RT.out _ (‹_ ∧ Ext w _›).2).mono ?_; rintro e w2 ⟨rfl, rfl⟩) | (go_at_call 22; with_reducible refine (HD.out _ (‹_ ∧ Ext w _›).2).mono ?_; rintro e w9 ⟨rfl, hE9⟩; (first | (obtain ⟨p1, p2⟩ := blk (hE9.keep (newB w _ w.heap.size rfl)); have z1 : w.heap.size < w9.heap.size := (by have := hE9.size; simp at this; omega)) | skip)))
    all_goals
      go_wp2_with fail
      go_meet
      case rel =>
        have hX9 := hE9.size
        simp only [World.size_alloc, World.size_drew] at hX9
        have hXX := (‹_ ∧ Ext w _›).2
        refine ⟨_, rfl, rfl, hXX, ?_, ?_, ?_⟩
        · simp; try omega
        · go_simp
        · go_simp
  case rest =>
    obtain ⟨n, hs3, hs4, hEc, hn, n0, n1⟩ := hcut
    subst hs3 hs4
    have EC := Lib.hid hEc
    have hcp := (TK.out _ hEc).cap
    rw [HCC.out] at hcp
    clear hEc KE
    go_wp2
    go_quiet (fail)
    have XN : Ext wc (wc.drewN nq) := (Ext.refl wc).drewN nq
    have E4 := Lib.hid (EC.out.trans XN)
    clear XN n0 n1 hn hcp EC hc
    generalize wc.drewN nq = w4 at *
    have hrg := (TK.out _ E4.out).slots
    have h181 : (Tryz.prog.info? 181).map (·.size) = some (slotC T.slots).length := by rw [slotC_length, TT.out.tab.len, info181]
    have HRG := Lib.hid hrg
    have H181 := Lib.hid h181
    clear hrg h181
    go_wp2_with (refine wpList_load_mid rfl 181 (Operand.tmp 47) rfl tb 1 rfl (slotC T.slots) _ HRG.out under181 rfl H181.out ?_)
    clear HRG H181
    go_loopw [49] (fun i wr => ∃ k : Nat, k ≤ 256 ∧ i = .int .i64 k ∧ Ext w wr) (fun i _ => 256 - (intOf i).toNat)
    case atStart => exact ⟨0, by omega, rfl, E4.out⟩
    case round =>
      obtain ⟨k, hk, rfl, hE⟩ := hrel
      have E := Lib.hid hE
      clear hE
      by_cases hlt : k < 256
      · have hkl : k < T.slots.length := by rw [TT.out.tab.len]; exact hlt
        have hix := fun W => index181 W T.slots k hkl TT.out.tab.len
        have US := Lib.hid (HU.out k hkl)
        obtain ⟨y, z, hyz⟩ : ∃ y z, T.slots[k] = (y, z) := ⟨_, _, rfl⟩
        rw [hyz] at hix US
        simp only at hix
        clear hyz hkl
        have B0 := Lib.hid (newB wr (.cells #[.int .u64 y, .int .i64 z] 180) _ rfl)
        have E5 := Lib.hid (E.out.alloc (.cells #[.int .u64 y, .int .i64 z] 180))
        by_cases hu : (y, z) = ((0 : Int), (0 : Int))
        · have hne : ∀ W, (binOp .neq 180 (.agg #[.int .u64 y, .int .i64 z]) (.agg #[.int .u64 0, .int .i64 0])).run Tryz.prog W = .ok (.bool false) W := fun W => by rw [run_neq180, decide_eq_true hu]; rfl
          clear hu US
          go_upto_region 9 with fail
          obtain ⟨q1, q2⟩ := blk B0.out
          generalize wr.alloc (.cells #[.int .u64 y, .int .i64 z] 180) = W5 at *
          go_quiet (fail)
          have XN : Ext W5 (W5.drewN nq) := (Ext.refl W5).drewN nq
          have E6 := Lib.hid (E5.out.trans XN)
          clear XN q1 q2
          generalize W5.drewN nq = W6 at *
          go_wp2
          go_roundw
          case rel => exact ⟨k + 1, by omega, by go_num, E6.out⟩
          case measure => simp [intOf]; omega
        · have hne : ∀ W, (binOp .neq 180 (.agg #[.int .u64 y, .int .i64 z]) (.agg #[.int .u64 0, .int .i64 0])).run Tryz.prog W = .ok (.bool true) W := fun W => by rw [run_neq180, decide_eq_false hu]; rfl
          obtain ⟨hkc, hio⟩ := US.out hu
          clear hu US
          have OB := Lib.hid (fun W (hE : Ext w W) => object91 (TT.out.heap.keep hE) TT.out.wf (HS.out.kept hE hp) TT.out.arr (TT.out.tab.keep hE) k hkc)
          have hrng := TT.out.wf.word (a + 3 + k)
          have IS := Lib.hid (fun W (hE : Ext w W) => is_any (TT.out.heap.keep hE) TT.out.wf (arrF h a k) hrng.1 hrng.2)
          rw [hio] at IS
          generalize arrF h a k = x at *
          go_upto_region 9 with fail
          obtain ⟨bx, hbx⟩ : ∃ n, n = wr.heap.size := ⟨_, rfl⟩
          rw [← hbx] at B0 ⊢
          have SK : Hid (∀ W, Ext (wr.alloc (.cells #[.int .u64 y, .int .i64 z] 180)) W → (W.cell? ⟨bx, 0, none⟩ = some (.int .u64 y) ∧ W.cell? ⟨bx, 1, none⟩ = some (.int .i64 z) ∧ W.cell? ⟨tb, 0, none⟩ = some (.pointer (some ⟨L.b, 0, none⟩))) ∧ Ext (wr.alloc (.cells #[.int .u64 y, .int .i64 z] 180)) W) := fun W hE => ⟨⟨(blk (hE.keep B0.out)).1 0, (blk (hE.keep B0.out)).1 1, (TK.out _ (E5.out.trans hE)).ptr⟩, hE⟩
          clear hbx hio hrng
          generalize wr.alloc (.cells #[.int .u64 y, .int .i64 z] 180) = W5 at *
          go_region_held3 (fun w' => (w'.cell? ⟨bx, 0, none⟩ = some (.int .u64 y) ∧ w'.cell? ⟨bx, 1, none⟩ = some (.int .i64 z) ∧ w'.cell? ⟨tb, 0, none⟩ = some (.pointer (some ⟨L.b, 0, none⟩))) ∧ Ext W5 w')
            (first | with_reducible exact SK.out _ (Ext.refl _).drew | with_reducible exact SK.out _ (Ext.trans (‹_ ∧ Ext W5 _›).2 hb2) | with_reducible assumption)
            (first | (go_at_call 91; with_reducible refine (OB.out _ (E5.out.trans (‹_ ∧ Ext W5 _›).2)).mono ?_; rintro e w2 ⟨rfl, hb2⟩) | (go_at_call 78; with_reducible refine (IS.out _ (E5.out.trans (‹_ ∧ Ext W5 _›).2)).mono ?_; rintro e w3 ⟨rfl, rfl⟩))
          have E6 := Lib.hid (E5.out.trans (‹_ ∧ Ext W5 w2›).2)
          go_wp2
          go_roundw
          case rel => exact ⟨k + 1, by omega, by go_num, E6.out⟩
          case measure => simp [intOf]; omega
      · obtain rfl : k = 256 := by omega
        go_wp2
        go_ret
        exact ⟨rfl, E.out⟩
end
end Go.Proofs.Eff
