/- heap.Bytes. -/
import Derived.Test.YtaggadjiefgpoaaGreatDoorSy01
import Derived.IntWalk
namespace Go.Proofs.Eff
open Go.RowKit

/-- A slice of bytes, nil or not. -/
def BytesV (w : World) (v : Value) (l : List Int) : Prop :=
  (v = .slice none 0 0 ∧ l = []) ∨ ∃ ad cap, v = .slice (some ad) l.length cap ∧ RRow w ad (u8s l) ∧ ad.block < w.heap.size

def fieldsAt (ws : List Int) (a : Nat) : List Int := (ws.drop (a + 3)).take (sizeAt ws a)
theorem fieldsAt_length {ws : List Int} {a : Nat} (h : a + 3 + sizeAt ws a ≤ ws.length) : (fieldsAt ws a).length = sizeAt ws a := by simp [fieldsAt]; omega
theorem fieldsAt_wd {ws : List Int} {a i : Nat} (hi : i < sizeAt ws a) : wd (fieldsAt ws a) i = wd ws (a + 3 + i) := by
  simp [fieldsAt, wd, hi]
/-- The bytes of an object of bytes. -/
def bytesAt (ws : List Int) (a : Nat) : List Int := (bytesOf (fieldsAt ws a)).take (4 * sizeAt ws a - (hdrAt ws a).spare.toNat)
/-- Its unused bytes are zero. -/
def spareOK (ws : List Int) (a : Nat) : Bool := tailZero (fieldsAt ws a) (hdrAt ws a).spare.toNat

/-- Where a part of a slice begins: at its capacity's end the address stays. -/
def sOff (off cap lo : Nat) : Nat := if cap = lo then off else off + lo
theorem run_slice_sub {P : Program} (w : World) (t e : TypeId) (ht : P.underlying t = some (.slice e)) (hsz : ∀ w, (sizeOf e).run P w = .ok 1 w) (g off len cap : Nat) (lo hi : Int) (h0 : 0 ≤ lo) (h1 : lo ≤ hi) (h2 : hi ≤ cap) :
    (Instr.slice t (.slice (some ⟨g, off, none⟩) len cap) (some (.int .i64 lo)) (some (.int .i64 hi)) none).run P w = .ok (.slice (some ⟨g, sOff off cap lo.toNat, none⟩) (hi.toNat - lo.toNat) (cap - lo.toNat)) w := by
  have e1 : (Instr.sliceBound (.int .i64 hi) cap .sliceAcap).run P w = .ok hi.toNat w := run_sliceBound _ _ _ _ _ (by omega) h2
  have e2 : (Instr.sliceBound (.int .i64 lo) hi.toNat .sliceB).run P w = .ok lo.toNat w := run_sliceBound _ _ _ _ _ h0 (by omega)
  simp only [Instr.slice, Sem.run_bind, run_underlying ht, Result.andThen_ok, Instr.sliceBounds, e1, e2, hsz, Sem.run_pure, Option.isSome_none, Bool.false_eq_true, if_false, if_true]
  unfold sOff
  by_cases hc : cap = lo.toNat
  · simp [hc]
  · by_cases hl : lo.toNat = 0
    · simp [hl, Addr.add]
    · simp [hc, Addr.add, hl]

section
variable {w : World} {L : HLoc} {h : HeapS} {os : List Nat}

theorem fields_read (ha : HeapAt w L h) {a : Nat} (hfit : a + 3 + sizeAt h.words a ≤ h.words.length) : RRow w ⟨L.gw, a + 3, none⟩ (u32s (fieldsAt h.words a)) := by
  intro j u hj
  have hjl : j < sizeAt h.words a := by
    have := (List.getElem?_eq_some_iff.1 hj).1
    simpa [fieldsAt_length hfit] using this
  have e : (⟨L.gw, a + 3, none⟩ : Addr).add j = ⟨L.gw, a + 3 + j, none⟩ := by unfold Addr.add; split <;> simp_all
  rw [e, ha.word (a + 3 + j) (by omega)]
  simp only [u32s, List.getElem?_map, fieldsAt, List.getElem?_take, hjl, if_true, List.getElem?_drop] at hj
  rw [← hj]
  simp [wd, show a + 3 + j < h.words.length by omega]

theorem fields_read2 (ha : HeapAt w L h) {a : Nat} (hfit : a + 3 + sizeAt h.words a ≤ h.words.length) : RRow w ⟨L.gw, sOff 0 L.cw (a + 3), none⟩ (u32s (fieldsAt h.words a)) := by
  unfold sOff
  split
  · rename_i hc
    have := (row_max ha.words).1
    have h0 : (fieldsAt h.words a).length = 0 := by rw [fieldsAt_length hfit]; omega
    have h1 : fieldsAt h.words a = [] := List.length_eq_zero_iff.1 h0
    rw [h1]; intro j u hj; simp [u32s] at hj
  · simpa using fields_read ha hfit
theorem size22 (w : World) : (sizeOf 24).run Tryz.prog w = .ok 1 w := by kernel_rfl
/-- An object's fields as a part of the words. -/
theorem slice_fields (w : World) (g len cap n S : Nat) (h : n + 3 + S ≤ cap) :
    (Instr.slice 22 (.slice (some ⟨g, 0, none⟩) len cap) (some (.int .i64 ((n : Int) + 3))) (some (.int .i64 ((n : Int) + 3 + (S : Int)))) none).run Tryz.prog w = .ok (.slice (some ⟨g, sOff 0 cap (n + 3), none⟩) S (cap - (n + 3))) w := by
  rw [run_slice_sub w 22 24 Tryz.underlying22 size22 g 0 len cap _ _ (by omega) (by omega) (by omega)]
  rw [show ((n : Int) + 3).toNat = n + 3 by omega, show ((n : Int) + 3 + (S : Int)).toNat - (n + 3) = S by omega]

set_option maxRecDepth 100000 in
set_option maxHeartbeats 1000000 in
theorem Bytes_no (ha : HeapAt w L h) (wf : WF h os) (hs : Spares w) (o : Int) (h0 : 0 ≤ o) (h1 : o < 4294967296) (ho : isO os o = true) (hf : (hdrAt h.words (o / 2).toNat).fmt ≠ 2) :
    Calls Tryz.prog 116 #[.pointer (some ⟨L.b, 0, none⟩), .int .u32 o] w fun e w' => e = .returned (.tuple #[.slice none 0 0, .int .i64 21]) ∧ Ext w w' := by
  have HH := Lib.hid (Header_ok ha wf hs o h0 h1 ho)
  generalize hdrAt h.words (o / 2).toNat = H at *
  obtain ⟨A, B, C, c, s⟩ := H
  simp only [Hdr.val, Hdr.cells] at *
  have hf2 : (B != 2) = true := by simpa using hf
  clear ha wf hs ho hf
  go_enter Tryz.func116, Tryz.ntmps116
  go_wp2_with (go_at_call 22; refine HH.out.mono ?_; rintro e w1 ⟨rfl, hb⟩; have X := Lib.hid hb; clear hb)
  go_ret2
  exact ⟨rfl, X.out.alloc _⟩

def BytesR (w : World) (l : List Int) (e : Ending) (w' : World) : Prop := ∃ v, e = .returned (.tuple #[v, .int .i64 0]) ∧ BytesV w' v l ∧ Ext w w'

set_option maxRecDepth 100000 in
set_option maxHeartbeats 1000000 in
theorem Bytes_ok (ha : HeapAt w L h) (wf : WF h os) (hs : Spares w) (o : Int) (h0 : 0 ≤ o) (h1 : o < 4294967296) (ho : isO os o = true) (hf : (hdrAt h.words (o / 2).toNat).fmt = 2) (hsp : spareOK h.words (o / 2).toNat = true) :
    Calls Tryz.prog 116 #[.pointer (some ⟨L.b, 0, none⟩), .int .u32 o] w (BytesR w (bytesAt h.words (o / 2).toNat)) := by
  have hp := hs.pos
  have hm := wf.mem (wf.isO_lt ho).2
  have hmay := wf.hdr (wf.isO_lt ho).2
  have hbd := mayB_bounds hmay
  have hbig := wf.big
  have hw := wf.word (o / 2).toNat
  have hz2 : (hdrAt h.words (o / 2).toNat).size = sizeAt h.words (o / 2).toNat := by simp [hdrAt, hdrOf, sizeAt]; omega
  have hfl := fieldsAt_length hm.2.1
  have HH := Lib.hid (Header_ok ha wf hs o h0 h1 ho)
  have HT := Lib.hid (fun W => hat_ok (w := W) (.pointer (some ⟨L.b, 0, none⟩)) o h0 h1 (wf.isO_lt ho).1)
  have hspz : 0 < (hdrAt h.words (o / 2).toNat).spare.toNat → 0 < (fieldsAt h.words (o / 2).toNat).length := by
    intro hq
    simp [mayB] at hmay
    omega
  have HU := Lib.hid (fun W (hE : Ext w W) cap => UnpackBytes_any L.gw (sOff 0 L.cw ((o / 2).toNat + 3)) cap (fieldsAt h.words (o / 2).toNat) (hdrAt h.words (o / 2).toNat).spare.toNat W (fields_read2 (ha.keep hE) hm.2.1) (row_lt (ha.keep hE).words) (fun i => by
    by_cases hi : i < sizeAt h.words (o / 2).toNat
    · rw [fieldsAt_wd hi]; exact wf.word _
    · simp [wd, fieldsAt, List.getElem?_take, hi]) (by omega) (by omega) hspz)
  have HP : Hid (∀ W e W', Ext w W → UBR W (fieldsAt h.words (o / 2).toNat) (hdrAt h.words (o / 2).toNat).spare.toNat e W' → ∃ v, e = .returned (.tuple #[v, .int .i64 0]) ∧ BytesV W' v (bytesAt h.words (o / 2).toNat) ∧ Ext W W') := by
    intro W e W' hE hu
    obtain ⟨hx, ⟨_, g, he, hg1, hg2, hr⟩ | ⟨hbad, _⟩⟩ := hu
    · refine ⟨_, he, .inr ⟨⟨g, 0, none⟩, (4 * (fieldsAt h.words (o / 2).toNat).length - (hdrAt h.words (o / 2).toNat).spare.toNat), ?_, ?_, hg2⟩, hx⟩
      · congr 1
        simp only [bytesAt, List.length_take, bytesOf_length, hfl]; omega
      · rw [bytesAt, ← hfl]; exact hr
    · rw [spareOK] at hsp; rw [hsp] at hbad; cases hbad
  have hC : (((hdrAt h.words (o / 2).toNat).spare.toNat : Nat) : Int) = (hdrAt h.words (o / 2).toNat).spare := by omega
  rw [hfl, hC] at HU
  generalize bytesAt h.words (o / 2).toNat = BS at *
  generalize hdrAt h.words (o / 2).toNat = H at *
  obtain ⟨A, B, C, c, s⟩ := H
  simp only [Hdr.val, Hdr.cells] at *
  subst hf
  subst hz2
  have d1 : 0 ≤ o / 2 := by omega
  have HK : Hid (∀ W, Ext w W → _) := fun W hE => (ha.keep hE).rules.1
  have hcw := (row_max ha.words).1
  obtain ⟨n, hn⟩ : ∃ n : Nat, o / 2 = n := ⟨(o / 2).toNat, by omega⟩
  rw [hn] at HT HU hm hfl HP HH
  simp only [Int.toNat_natCast] at *
  have hS1 : sizeAt h.words n ≤ 65535 := by have := hbd.2.1; rw [hn] at this; simp only [Int.toNat_natCast] at this; omega
  clear ha wf hs ho hmay hbd hspz hC hw hsp
  generalize sizeAt h.words n = S at *
  obtain ⟨hm1, hm2, _⟩ := hm
  have m1 : n + 3 + S ≤ L.cw := by omega
  have HN := Lib.hid hn
  have HF := Lib.hid hfl
  clear hn hfl
  go_enter Tryz.func116, Tryz.ntmps116
  go_wp2_with (first | (go_at_call 22; refine HH.out.mono ?_; rintro e w1 ⟨rfl, hb⟩; have X := Lib.hid hb; clear hb) | (go_at_call 80; refine (HT.out _).mono ?_; rintro e w2 ⟨rfl, rfl⟩))
  obtain ⟨W, hW⟩ : ∃ W, W = w1.alloc (Obj.cells #[Value.int IntKind.i64 ↑S, Value.int IntKind.i64 2, Value.int IntKind.i64 C, Value.int IntKind.u32 c, Value.int IntKind.u32 s] 65) := ⟨_, rfl⟩
  rw [← hW]
  have hE : Ext w W := by rw [hW]; exact X.out.alloc _
  have bk : W.heap[w1.heap.size]? = some (Obj.cells #[Value.int IntKind.i64 ↑S, Value.int IntKind.i64 2, Value.int IntKind.i64 C, Value.int IntKind.u32 c, Value.int IntKind.u32 s] 65) := by rw [hW]; exact newB _ _ _ rfl
  have HK2 : Hid (∀ w', Ext W w' → _ ∧ _ ∧ Ext W w') := fun w' h => ⟨HK.out _ (hE.trans h), (blk (h.keep bk)).1, h⟩
  clear hW bk
  have q1 : IntKind.i64.wrap ((n : Int) + 3 + (S : Int)) = (n : Int) + 3 + (S : Int) := IntWalk.i64_in _ (by omega)
  have hsl := fun w => slice_fields w L.gw h.words.length L.cw n S m1
  generalize sOff 0 L.cw (n + 3) = O at *
  go_region_held3 (fun w' => (∀ i, w'.cell? ⟨L.b, i, none⟩ = (#[.slice (some ⟨L.gw, 0, none⟩) h.words.length L.cw, .slice (some ⟨L.gs, 0, none⟩) h.starts.length L.cs, .slice (some ⟨L.gr, 0, none⟩) h.roots.length L.cr, .int .i64 h.size, .int .u32 h.last] : Array Value)[i]?) ∧ (∀ i, w'.cell? ⟨w1.heap.size, i, none⟩ = (#[Value.int IntKind.i64 ↑S, Value.int IntKind.i64 2, Value.int IntKind.i64 C, Value.int IntKind.u32 c, Value.int IntKind.u32 s])[i]?) ∧ Ext W w')
      (first | exact HK2.out _ (Ext.refl _).drew | exact HK2.out _ (Ext.trans (‹_ ∧ _ ∧ Ext W _›).2.2 hb))
      (first | (go_at_call 112; refine (HU.out _ (hE.trans (‹_ ∧ _ ∧ Ext W _›).2.2) _).mono ?_; rintro e w' hub; obtain ⟨v, rfl, hv, hb⟩ := HP.out _ _ _ (hE.trans (‹_ ∧ _ ∧ Ext W _›).2.2) hub))
  have hx := (‹_ ∧ _ ∧ Ext W _›).2.2
  have X2 := Lib.hid hx
  clear hx
  go_wp2
  go_ret2
  exact ⟨v, rfl, hv, hE.trans X2.out⟩

end
end Go.Proofs.Eff
