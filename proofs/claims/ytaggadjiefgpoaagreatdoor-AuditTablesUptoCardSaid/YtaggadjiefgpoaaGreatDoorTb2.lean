/- handles: put, place. -/
import Derived.Test.YtaggadjiefgpoaaGreatDoorTb1
namespace Go.Proofs.Eff
open Go.RowKit

/-- A table of handles over a heap. -/
structure TBx (w : World) (L : HLoc) (h : HeapS) (os : List Nat) (a cap tb : Nat) (T : HTab) : Prop where
  heap : HeapAt w L h
  wf : WF h os
  so : Sound h os
  arr : ArrOK h os a cap
  tab : HTabAt w tb L.b T
  ap : ¬ tb ∈ L.blocks
  capE : T.cap = (cap : Int)
  cap1 : 1 ≤ cap
  cap2 : cap ≤ 256
theorem TBx.keep {a0 w : World} {L : HLoc} {h : HeapS} {os : List Nat} {a cap tb : Nat} {T : HTab} (t : TBx a0 L h os a cap tb T) (hE : Ext a0 w) : TBx w L h os a cap tb T :=
  ⟨t.heap.keep hE, t.wf, t.so, t.arr, t.tab.keep hE, t.ap, t.capE, t.cap1, t.cap2⟩

section
variable {w : World} {L : HLoc} {h : HeapS} {os : List Nat} {a cap tb : Nat} {T : HTab}
set_option maxRecDepth 100000 in
set_option maxHeartbeats 1000000 in
theorem put89 (t : TBx w L h os a cap tb T) (hs : Spares w) (k : Nat) (hk : k < cap) (y : Int) (y0 : 0 ≤ y) (y1 : y < 4294967296) (hy : valueOK os y = true) :
    Calls Tryz.prog 89 #[.pointer (some ⟨tb, 0, none⟩), .int .i64 k, .int .u32 y] w fun e w' => e = .returned (.tuple #[]) ∧ TBx w' L (setW h (a + 3 + k) y) os a cap tb T ∧ Mod [L.gw] w w' := by
  have hp := hs.pos
  have ho := (t.arr.obj t.wf).1
  have hm := t.wf.mem t.arr.mem
  have hbig := t.wf.big
  have RT := Lib.hid (fun W (hE : Ext w W) => root135 (t.heap.keep hE) t.wf 40 (by omega) (by omega))
  rw [show (40 : Int).toNat = 40 from rfl, t.arr.root] at RT
  have ea : (2 * (a : Int) / 2).toNat = a := by omega
  have PU := Lib.hid (fun W (hE : Ext w W) => PutJ (t.heap.keep hE) t.wf (hs.kept hE hp) (2 * (a : Int)) y (by omega) (by omega) y0 y1 hy ho (by rw [ea]; exact t.arr.fmt) k (by rw [ea, t.arr.size]; exact hk))
  rw [ea] at PU
  have KE : Hid (∀ W, Ext w W → W.cell? ⟨tb, 0, none⟩ = some (.pointer (some ⟨L.b, 0, none⟩))) := fun W hE => (t.tab.keep hE).ptr
  have KM : Hid (∀ W, Mod [L.gw] w.drew W → W.cell? ⟨tb, 0, none⟩ = some (.pointer (some ⟨L.b, 0, none⟩))) := fun W hM => ((t.tab.keep (Ext.refl w).drew).mod hM (by intro hq; exact t.ap (by simp only [List.mem_singleton] at hq; rw [hq]; simp [HLoc.blocks]))).ptr
  have FIN : Hid (∀ W, HeapAt W L (setW h (a + 3 + k) y) → Mod [L.gw] w.drew W → TBx W L (setW h (a + 3 + k) y) os a cap tb T ∧ Mod [L.gw] w W) := fun W hA hM => by
    have hk' : k < sizeAt h.words a := by rw [t.arr.size]; exact hk
    refine ⟨⟨hA, setJ_wf t.wf t.arr.mem hk' y0 y1, setJ_sound t.wf t.so t.arr.mem hk' t.arr.fmt hy, (t.arr.setJ t.wf hk y).1, (t.tab.keep (Ext.refl w).drew).mod hM ?_, t.ap, t.capE, t.cap1, t.cap2⟩, ((Ext.refl w).drew.mod _).trans hM⟩
    intro hq; exact t.ap (by simp only [List.mem_singleton] at hq; rw [hq]; simp [HLoc.blocks])
  clear t hs ho hm hbig ea
  go_enter Tryz.func89, Tryz.ntmps89
  go_wp2
  go_region_held3 (fun w' => w'.cell? ⟨tb, 0, none⟩ = some (.pointer (some ⟨L.b, 0, none⟩)))
    (first | with_reducible exact KE.out _ (Ext.refl _).drew | with_reducible exact KM.out _ hM2 | with_reducible assumption)
    (first | (go_at_call 135; with_reducible refine (RT.out _ (Ext.refl _).drew).mono ?_; rintro e w2 ⟨rfl, rfl⟩) | (go_at_call 28; with_reducible refine (PU.out _ (Ext.refl _).drew).mono ?_; rintro e w2 ⟨rfl, hA2, hM2⟩))
  go_wp2
  go_end0
  exact ⟨rfl, FIN.out _ hA2 hM2⟩

/-- The first slot of that number; -1: there is none. -/
def placeF (l : List (Int × Int)) (id : Int) : Int := if l.all (fun p => p.1 != id) then -1 else (l.findIdx (fun p => p.1 == id) : Int)
theorem placeF_hit {l : List (Int × Int)} {id : Int} {k : Nat} (hk : k < l.length) (hb : ∀ j (hj : j < l.length), j < k → l[j].1 ≠ id) (he : l[k].1 = id) : placeF l id = k := by
  have hc : ¬ l.all (fun p => p.1 != id) = true := by
    intro h; rw [List.all_eq_true] at h; have := h l[k] (List.getElem_mem hk); simp [he] at this
  rw [placeF, if_neg hc]
  congr 1
  rw [List.findIdx_eq hk]
  exact ⟨by simp [he], fun j hj => by simpa using hb j (by omega) hj⟩
theorem placeF_miss {l : List (Int × Int)} {id : Int} (hb : ∀ j (hj : j < l.length), l[j].1 ≠ id) : placeF l id = -1 := by
  have hc : l.all (fun p => p.1 != id) = true := by
    rw [List.all_eq_true]
    intro x hx
    obtain ⟨j, hj, he⟩ := List.getElem_of_mem hx
    have := hb j hj
    rw [← he]; simpa using this
  rw [placeF, if_pos hc]

set_option maxHeartbeats 400000 in
theorem place1 (i x id : Int) (b : Nat) (w : World) (hb : w.cell? ⟨b, 0, none⟩ = some (.int .u64 id)) :
    Calls Tryz.prog 168 #[.agg #[.int .u64 i, .int .i64 x], .pointer (some ⟨b, 0, none⟩)] w fun e w' => e = .returned (.bool (i == id)) ∧ Ext w w' := by
  have hl : b < w.heap.size := World.block_lt_of_cell? w _ hb
  have E0 := Lib.hid ((Ext.refl w).alloc (.cells #[.int .u64 i, .int .i64 x] 180))
  have hb2 : (w.alloc (.cells #[.int .u64 i, .int .i64 x] 180)).cell? ⟨b, 0, none⟩ = some (.int .u64 id) := by
    rw [E0.out.cell (p := ⟨b, 0, none⟩) hl]; exact hb
  clear hb
  go_enter Tryz.func168, Tryz.ntmps168
  go_wp2
  go_ret
  exact ⟨rfl, E0.out⟩

set_option maxRecDepth 100000 in
set_option maxHeartbeats 1000000 in
theorem indexf167 (w : World) (tb b : Nat) (l : List (Int × Int)) (id : Int) (hr : w.rangeAt tb 1 (slotC l)) (hl : l.length = 256) (ht : tb < w.heap.size) (hb : w.cell? ⟨b, 0, none⟩ = some (.int .u64 id)) :
    Calls Tryz.prog 167 #[.slice (some ⟨tb, 1, none⟩) 256 256, .func (.func 168) #[] #[.pointer (some ⟨b, 0, none⟩)]] w fun e w' => e = .returned (.int .i64 (placeF l id)) ∧ Ext w w' := by
  have hbl : b < w.heap.size := World.block_lt_of_cell? w _ hb
  have HC : Hid (∀ W, Ext w W → ∀ k (hk : k < l.length), W.cell? ⟨tb, 1 + 2 * k, none⟩ = some (.int .u64 l[k].1) ∧ W.cell? ⟨tb, 1 + 2 * k + 1, none⟩ = some (.int .i64 l[k].2)) := fun W hE k hk => by
    obtain ⟨g1, g2⟩ := slotC_get l k hk
    exact ⟨by rw [hE.cell (p := ⟨tb, 1 + 2 * k, none⟩) ht]; exact hr _ _ g1, by rw [hE.cell (p := ⟨tb, 1 + 2 * k + 1, none⟩) ht]; exact hr _ _ g2⟩
  have HB : Hid (∀ W, Ext w W → W.cell? ⟨b, 0, none⟩ = some (.int .u64 id)) := fun W hE => by rw [hE.cell (p := ⟨b, 0, none⟩) hbl]; exact hb
  have HL := Lib.hid hl
  clear hr hb hl
  go_enter Tryz.func167, Tryz.ntmps167
  go_wp2
  go_loopw [8] (fun i wr => ∃ k : Nat, k ≤ 256 ∧ i = .int .i64 k ∧ Ext w wr ∧ ∀ j (hj : j < l.length), j < k → l[j].1 ≠ id) (fun i _ => 256 - (intOf i).toNat)
  case atStart => exact ⟨0, by omega, rfl, Ext.refl _, fun j _ hj => by omega⟩
  case round =>
    obtain ⟨k, hk, rfl, hE, hN⟩ := hrel
    have E := Lib.hid hE
    have N := Lib.hid hN
    clear hE hN
    by_cases hlt : k < 256
    · have hkl : k < l.length := by rw [HL.out]; exact hlt
      obtain ⟨c1, c2⟩ := HC.out _ E.out k hkl
      have P1 := Lib.hid (place1 l[k].1 l[k].2 id b wr (HB.out _ E.out))
      have RK : Hid (l[k].1 = id → placeF l id = k) := fun h => placeF_hit hkl (fun j hj hlt => N.out j hj hlt) h
      have NK : Hid (l[k].1 ≠ id → ∀ j (hj : j < l.length), j < k + 1 → l[j].1 ≠ id) := fun h j hj hlt => by
        by_cases e : j = k
        · subst e; exact h
        · exact N.out j hj (by omega)
      generalize l[k].1 = y at *
      generalize l[k].2 = z at *
      have e1 : 1 + k * 2 = 1 + 2 * k := by omega
      by_cases hyi : y = id
      · have hq : (y == id) = true := by simpa using hyi
        have RK2 := Lib.hid (RK.out hyi)
        rw [hq] at P1
        clear hyi hq
        go_wp2_with (go_at_call 168; refine P1.out.mono ?_; rintro e w2 ⟨rfl, hb2⟩; have B2 := Lib.hid hb2; clear hb2)
        go_ret
        exact ⟨by rw [RK2.out]; rfl, E.out.trans B2.out⟩
      · have hq : (y == id) = false := by simpa using hyi
        have NK2 := Lib.hid (NK.out hyi)
        rw [hq] at P1
        clear hyi hq
        go_wp2_with (go_at_call 168; refine P1.out.mono ?_; rintro e w2 ⟨rfl, hb2⟩; have B2 := Lib.hid hb2; clear hb2)
        go_roundw
        case rel => exact ⟨k + 1, by omega, by go_num, E.out.trans B2.out, NK2.out⟩
        case measure => simp [intOf]; omega
    · obtain rfl : k = 256 := by omega
      have RK : Hid (placeF l id = -1) := placeF_miss (fun j hj => N.out j hj (by have := HL.out; omega))
      go_wp2
      go_ret
      exact ⟨by rw [RK.out]; rfl, E.out⟩

set_option maxRecDepth 100000 in
set_option maxHeartbeats 1000000 in
theorem place136 (ht : HTabAt w tb L.b T) (id : Int) (i0 : 0 ≤ id) :
    Calls Tryz.prog 136 #[.pointer (some ⟨tb, 0, none⟩), .int .u64 id] w fun e w' => e = .returned (.int .i64 (if id = 0 then -1 else placeF T.slots id)) ∧ Ext w w' := by
  have E0 := Lib.hid ((Ext.refl w).alloc (.cells #[.int .u64 id] 55))
  have IX := Lib.hid (indexf167 (w.alloc (.cells #[.int .u64 id] 55)) tb w.heap.size T.slots id (ht.keep E0.out).slots ht.len (by have := ht.lt; simp; omega) (by simp [World.cell?_alloc_new]))
  have hlt := ht.lt
  clear ht
  by_cases hi : id = 0
  · subst hi
    go_enter Tryz.func136, Tryz.ntmps136
    go_wp2
    go_ret
    exact ⟨rfl, E0.out⟩
  · have hq : (id == 0) = false := by simpa using hi
    rw [if_neg hi]
    clear hi
    go_enter Tryz.func136, Tryz.ntmps136
    go_wp2_with (go_at_call 167; refine IX.out.mono ?_; rintro e w2 ⟨rfl, hb2⟩; have B2 := Lib.hid hb2; clear hb2)
    go_ret
    exact ⟨rfl, E0.out.trans B2.out⟩
end
end Go.Proofs.Eff
