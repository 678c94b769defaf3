/- audit: serial, root, serials. -/
import Derived.Test.YtaggadjiefgpoaaGreatDoorSy25
import Derived.Test.YtaggadjiefgpoaaGreatDoorSy20
import Derived.Laws.BytesArg
namespace Go.Proofs.Eff
open Go.RowKit

theorem stood65 : Tryz.prog.stoodInHeld 65 = false := by kernel_rfl
theorem under65 : Tryz.prog.underlying 65 = some (.struct (Tryz.prog.fieldsOf 65)) := by kernel_rfl
theorem names65 : (Tryz.prog.fieldsOf 65).toList.map (fun f => (f.name, f.type, f.offset)) = [("Size", 3, 0), ("Format", 63, 1), ("Spare", 3, 2), ("Class", 41, 3), ("Serial", 24, 4)] := by kernel_rfl
theorem eqFields_int (P : Program) (w : World) (d : Nat) (xs ys : Array Value) (f : Field) (fs : List Field) (k k' : IntKind) (a b : Int) (hn : f.name ≠ "_") (ht : P.underlying f.type = some (.int k')) (hx : xs[f.offset]? = some (.int k a)) (hy : ys[f.offset]? = some (.int k b)) :
    (Op.eqFields (d + 1) xs ys (f :: fs)).run P w = if a = b then (Op.eqFields (d + 1) xs ys fs).run P w else .ok false w := by
  have p1 : ∀ (zs : Array Value) (c : Int), zs[f.offset]? = some (.int k c) → (part f.type zs f.offset).run P w = .ok (.int k c) w := by
    intro zs c h1
    simp only [part, isAgg, Sem.run_bind, run_underlying ht]
    simp [h1]
  simp only [Op.eqFields, hn, ne_eq, not_false_eq_true, if_true, Sem.run_bind, p1 xs a hx, p1 ys b hy, Result.andThen_ok, run_equalIn_int w d f.type k k' a b ht, Sem.run_ite]
  by_cases h : a = b <;> simp [h]
theorem five_fields {fs : List Field} {a b c d e : String × TypeId × Nat} (h : fs.map (fun f => (f.name, f.type, f.offset)) = [a, b, c, d, e]) : ∃ f0 f1 f2 f3 f4, fs = [f0, f1, f2, f3, f4] := by
  have hl := congrArg List.length h
  simp at hl
  rcases fs with _ | ⟨f0, _ | ⟨f1, _ | ⟨f2, _ | ⟨f3, _ | ⟨f4, _ | ⟨f5, fs⟩⟩⟩⟩⟩⟩ <;> simp at hl
  exact ⟨_, _, _, _, _, rfl⟩
theorem run_neq65 (w : World) (a0 a1 a2 a3 a4 b0 b1 b2 b3 b4 : Int) :
    (binOp .neq 65 (.agg #[.int .i64 a0, .int .i64 a1, .int .i64 a2, .int .u32 a3, .int .u32 a4]) (.agg #[.int .i64 b0, .int .i64 b1, .int .i64 b2, .int .u32 b3, .int .u32 b4])).run Tryz.prog w = .ok (.bool (!decide ((⟨a0, a1, a2, a3, a4⟩ : Hdr) = ⟨b0, b1, b2, b3, b4⟩))) w := by
  rw [run_neq_struct, run_equalIn_struct w 9999 65 _ _ under65 stood65]
  have hn := names65
  generalize (Tryz.prog.fieldsOf 65).toList = fs at hn
  obtain ⟨f0, f1, f2, f3, f4, rfl⟩ := five_fields hn
  simp only [List.map_cons, List.map_nil, List.cons.injEq, Prod.mk.injEq, and_true] at hn
  obtain ⟨⟨n0, t0, o0⟩, ⟨n1, t1, o1⟩, ⟨n2, t2, o2⟩, ⟨n3, t3, o3⟩, n4, t4, o4⟩ := hn
  rw [eqFields_int _ w 9998 _ _ f0 _ .i64 .i64 a0 b0 (by rw [n0]; decide) (by rw [t0]; exact Tryz.underlying3) (by rw [o0]; rfl) (by rw [o0]; rfl),
    eqFields_int _ w 9998 _ _ f1 _ .i64 .i64 a1 b1 (by rw [n1]; decide) (by rw [t1]; exact Tryz.underlying63) (by rw [o1]; rfl) (by rw [o1]; rfl),
    eqFields_int _ w 9998 _ _ f2 _ .i64 .i64 a2 b2 (by rw [n2]; decide) (by rw [t2]; exact Tryz.underlying3) (by rw [o2]; rfl) (by rw [o2]; rfl),
    eqFields_int _ w 9998 _ _ f3 _ .u32 .u32 a3 b3 (by rw [n3]; decide) (by rw [t3]; exact Tryz.underlying41) (by rw [o3]; rfl) (by rw [o3]; rfl),
    eqFields_int _ w 9998 _ _ f4 _ .u32 .u32 a4 b4 (by rw [n4]; decide) (by rw [t4]; exact Tryz.underlying24) (by rw [o4]; rfl) (by rw [o4]; rfl)]
  simp only [Op.eqFields, Sem.run_pure, Hdr.mk.injEq]
  by_cases h0 : a0 = b0 <;> by_cases h1 : a1 = b1 <;> by_cases h2 : a2 = b2 <;> by_cases h3 : a3 = b3 <;> by_cases h4 : a4 = b4 <;> simp [h0, h1, h2, h3, h4]

section
variable {w : World} {L : HLoc} {h : HeapS} {os : List Nat}

def serO (ws : List Int) (o : Int) : Int := serAt ws (o / 2).toNat
set_option maxRecDepth 100000 in
set_option maxHeartbeats 400000 in
theorem serial56 (ha : HeapAt w L h) (wf : WF h os) (hs : Spares w) (o : Int) (h0 : 0 ≤ o) (h1 : o < 4294967296) (ho : isO os o = true) :
    Calls Tryz.prog 56 #[.pointer (some ⟨L.b, 0, none⟩), .int .u32 o] w fun e w' => e = .returned (.int .i64 (serO h.words o)) ∧ Ext w w' := by
  have HH := Lib.hid (Header_ok ha wf hs o h0 h1 ho)
  have hz2 : (hdrAt h.words (o / 2).toNat).ser = serO h.words o := rfl
  have hw := wf.word ((o / 2).toNat + 2)
  have hr : 0 ≤ serO h.words o ∧ serO h.words o < 4294967296 := hw
  generalize hdrAt h.words (o / 2).toNat = H at *
  obtain ⟨A, B, C, c, s⟩ := H
  simp only [Hdr.val, Hdr.cells] at *
  subst hz2
  generalize serO h.words o = S at *
  obtain ⟨hr1, hr2⟩ := hr
  clear ha wf hs ho hw
  go_enter Tryz.func56, Tryz.ntmps56
  go_wp2_with (go_at_call 22; refine HH.out.mono ?_; rintro e w1 ⟨rfl, hb⟩; have X := Lib.hid hb; clear hb)
  go_ret
  exact ⟨rfl, X.out.alloc _⟩

set_option maxRecDepth 100000 in
set_option maxHeartbeats 400000 in
theorem root58 (ha : HeapAt w L h) (wf : WF h os) (i : Int) (h0 : 0 ≤ i) (h1 : i < 64) :
    Calls Tryz.prog 58 #[.pointer (some ⟨L.b, 0, none⟩), .int .i64 i] w fun e w' => e = .returned (.int .u32 (wd h.roots i.toNat)) ∧ w = w' := by
  have HH := Lib.hid (root_ok ha wf i h0 h1)
  clear ha wf
  go_enter Tryz.func58, Tryz.ntmps58
  go_wp2_with (go_at_call 84; refine HH.out.mono ?_; rintro e w' ⟨rfl, rfl⟩)
  go_ret
  exact ⟨rfl, rfl⟩
end

end Go.Proofs.Eff

/- audit: serials. -/
namespace Go.Proofs.Eff
open Go.RowKit

def serL (ws : List Int) (l : List Int) : AList := l.map fun o => (serO ws o, .int .i64 1)
theorem serL_fst (ws : List Int) (l : List Int) : (serL ws l).map (·.1) = l.map (serO ws) := by simp [serL, Function.comp_def]
theorem serL_snoc {ws : List Int} {l : List Int} (hn : (l.map (serO ws)).Nodup) {k : Nat} (hk : k < l.length) : aidx (serL ws (l.take k)) (serO ws (wd l k)) 0 = none ∧ aput (serL ws (l.take k)) (serO ws (wd l k)) (.int .i64 1) = serL ws (l.take (k + 1)) := by
  have hw : wd l k = l[k] := by simp [wd, hk]
  rw [hw]
  have h1 : aidx (serL ws (l.take k)) (serO ws l[k]) 0 = none := by
    refine aidx_none_of ?_
    rw [serL_fst, List.map_take]
    intro hm
    obtain ⟨i, hi, he⟩ := List.getElem_of_mem hm
    have hi' : i < k := by simp at hi; omega
    have hl : i < (l.map (serO ws)).length := by simp; omega
    have h1 : (l.map (serO ws))[i] = (l.map (serO ws))[k]'(by simpa using hk) := by
      rw [List.getElem_take] at he; rw [he]; simp
    have := (List.getElem_inj hn).1 h1
    omega
  refine ⟨h1, ?_⟩
  rw [aput_none _ h1, List.take_succ_eq_append_getElem hk]
  simp only [serL, List.map_append, List.map_cons, List.map_nil]
theorem aget_serL (ws : List Int) (l : List Int) (s : Int) : (aget (serL ws l) s).getD (.int .i64 0) = .int .i64 (if (l.map (serO ws)).contains s then 1 else 0) := by
  induction l with
  | nil => rfl
  | cons a l ih =>
    simp only [serL, List.map_cons, aget] at *
    by_cases h : serO ws a = s
    · simp [h]
    · have h' : ¬ s = serO ws a := fun e => h e.symm
      simp [h, h', ih]

/-- A new map of serials. -/
def SersR (w : World) (ws l : List Int) (e : Ending) (w' : World) : Prop := ∃ mb, e = .returned (.map (some mb)) ∧ w.heap.size ≤ mb ∧ MapAt w' mb .i64 (serL ws l) ∧ Ext w w'

set_option maxRecDepth 100000 in
set_option maxHeartbeats 1000000 in
theorem serials55 {w : World} {L : HLoc} {h : HeapS} {os : List Nat} (ha : HeapAt w L h) (wf : WF h os) (hs : Spares w) (v : Value) (l : List Int) (base : Nat) (hr : w.ownsRow base 41 1 v l.length (u32s l)) (hv : ∀ x, x ∈ l → isO os x = true ∧ 0 ≤ x ∧ x < 4294967296) (hn : (l.map (serO h.words)).Nodup) (hl : l.length ≤ 1048576) :
    Calls Tryz.prog 55 #[.pointer (some ⟨L.b, 0, none⟩), v] w (SersR w h.words l) := by
  have hp := hs.pos
  have hmm := @run_makeMap Tryz.prog
  obtain ⟨ad, c, rfl, had⟩ := own_any hr
  have HSE : Hid (∀ W, Ext w W → ∀ k : Nat, k < l.length → Calls Tryz.prog 56 #[.pointer (some ⟨L.b, 0, none⟩), .int .u32 (wd l k)] W fun e w' => e = .returned (.int .i64 (serO h.words (wd l k))) ∧ Ext W w') := by
    intro W hE k hk
    have hm : wd l k ∈ l := by simp [wd, hk]
    have hx := hv _ hm
    exact serial56 (ha.keep hE) wf (hs.kept hE hp) _ hx.2.1 hx.2.2 hx.1
  have AD := Lib.hid had
  have R := Lib.hid hr
  have HN := Lib.hid hn
  clear ha wf hs hr hv had hn
  go_enter Tryz.func55, Tryz.ntmps55
  go_wp2
  go_loopw [11] (fun i wr => ∃ (k : Nat), k ≤ l.length ∧ i = .int .i64 k ∧ MapAt wr w.heap.size .i64 (serL h.words (l.take k)) ∧ Ext w wr) (fun i _ => l.length - (intOf i).toNat)
  case atStart => exact ⟨0, by omega, rfl, MapAt.new _ _ rfl _, (Ext.refl _).alloc _⟩
  case round =>
    obtain ⟨k, hk, rfl, hm, hE⟩ := hrel
    have M := Lib.hid hm
    have E := Lib.hid hE
    clear hm hE
    by_cases hlt : k < l.length
    · obtain ⟨g, rfl, hg1, hg2⟩ := AD.out (by omega)
      have cx : wr.cell? ⟨g, k, none⟩ = some (.int .u32 (wd l k)) := by
        rw [row_cell (row_keep R.out E.out) k hlt]; simp [u32s, wd, hlt]
      have SN := Lib.hid (serL_snoc HN.out hlt)
      have HSk := Lib.hid (HSE.out wr E.out k hlt)
      generalize wd l k = x at *
      generalize serO h.words x = s at *
      have hki : (k : Int) < (l.length : Int) := by omega
      go_wp2_with (go_at_call 56; refine HSk.out.mono ?_; rintro e w2 ⟨rfl, hb2⟩; have B2 := Lib.hid hb2; have M2 := M.out.keep hb2; have hlk := run_lookup_at (P := Tryz.prog) w2 Tryz.underlying127 Tryz.underlying3 M2 (.int .i64 0) zero3 s; rw [aget_aidx _ _ 0, SN.out.1] at hlk; simp only [Option.map_none, Option.getD_none] at hlk; obtain ⟨w3, hup, hm3, hmod3⟩ := run_mapUpdate_int (P := Tryz.prog) w2 Tryz.underlying127 Tryz.underlying3 M2 s (.int .i64 1); clear hb2 M2)
      rw [SN.out.2] at hm3
      have M3 := Lib.hid hm3
      have E3 := Lib.hid (Mod.ext_of_new (E.out.trans B2.out) hmod3 (Nat.le_refl _))
      clear hm3 hmod3 hup hlk
      go_roundw
      case rel => exact ⟨k + 1, by omega, by go_num, M3.out, E3.out⟩
      case measure => simp [intOf]; omega
    · obtain rfl : k = l.length := by omega
      go_wp2
      go_ret
      have := M.out
      rw [List.take_length] at this
      exact ⟨_, rfl, Nat.le_refl _, this, E.out⟩

end Go.Proofs.Eff

/- audit.alike. -/
namespace Go.Proofs.Eff
open Go.RowKit

theorem bytesOf_inj : ∀ {l m : List Int}, bytesOf l = bytesOf m → l = m := by
  intro l
  induction l with
  | nil =>
    intro m h
    cases m with
    | nil => rfl
    | cons y m => simp [bytesOf, bytes4] at h
  | cons x l ih =>
    intro m h
    cases m with
    | nil => simp [bytesOf, bytes4] at h
    | cons y m =>
      simp only [bytesOf, List.flatMap_cons, bytes4, List.cons_append, List.nil_append, List.cons.injEq] at h
      obtain ⟨h1, h2, h3, h4, h5⟩ := h
      rw [ih h5]
      congr 1; omega
theorem all_zero_eq {l m : List Int} (hl : l.length = m.length) (h1 : l.all (· == 0) = true) (h2 : m.all (· == 0) = true) : l = m := by
  have e : ∀ (l : List Int), l.all (· == 0) = true → l = List.replicate l.length 0 := by
    intro l h
    rw [List.eq_replicate_iff]
    exact ⟨rfl, fun b hb => by have := List.all_eq_true.1 h b hb; simpa using this⟩
  rw [e l h1, e m h2, hl]
theorem bytes_inj {l m : List Int} {sp : Nat} (hl : l.length = m.length) (h1 : tailZero l sp = true) (h2 : tailZero m sp = true) (he : (bytesOf l).take (4 * l.length - sp) = (bytesOf m).take (4 * m.length - sp)) : l = m := by
  apply bytesOf_inj
  rw [← List.take_append_drop (4 * l.length - sp) (bytesOf l), ← List.take_append_drop (4 * m.length - sp) (bytesOf m), he]
  congr 1
  refine all_zero_eq ?_ h1 h2
  simp [bytesOf_length, hl]
theorem bytesOf_rng {l : List Int} (h : ∀ x, x ∈ l → 0 ≤ x ∧ x < 4294967296) : ∀ x, x ∈ bytesOf l → 0 ≤ x ∧ x < 256 := by
  intro x hx
  simp only [bytesOf, List.mem_flatMap] at hx
  obtain ⟨y, hy, hx⟩ := hx
  have := h y hy
  simp only [bytes4, List.mem_cons, List.not_mem_nil, or_false] at hx
  rcases hx with rfl | rfl | rfl | rfl <;> omega
theorem strOfNums_inj {l m : List Int} (h1 : ∀ x, x ∈ l → 0 ≤ x ∧ x < 256) (h2 : ∀ x, x ∈ m → 0 ≤ x ∧ x < 256) : strOfNums l = strOfNums m ↔ l = m := by
  constructor
  · intro h
    have h3 : l.map (fun n => UInt8.ofNat n.toNat) = m.map (fun n => UInt8.ofNat n.toNat) := by rw [← strOfNums_data, ← strOfNums_data, h]
    have hl : l.length = m.length := by have := congrArg List.length h3; simpa using this
    apply List.ext_getElem hl
    intro i i1 i2
    have h4 := congrArg (fun z => z[i]?) h3
    simp only [List.getElem?_map, List.getElem?_eq_getElem i1, List.getElem?_eq_getElem i2, Option.map_some, Option.some.injEq] at h4
    have a1 := h1 _ (List.getElem_mem i1)
    have a2 := h2 _ (List.getElem_mem i2)
    have h5 := congrArg UInt8.toNat h4
    simp only [UInt8.toNat_ofNat'] at h5
    omega
  · intro h; rw [h]
/-- A slice of bytes, as a string. -/
theorem run_convert_bytesV {W : World} {v : Value} {l : List Int} (h : BytesV W v l) : (convert 37 9 v).run Tryz.prog W = .ok (.string (strOfNums l)) W := by
  rcases h with ⟨rfl, rfl⟩ | ⟨ad, cap, rfl, hr, _⟩
  · exact run_convert_bytes_nil W 37 5 Tryz.underlying37 Tryz.underlying5 0 0 9 Tryz.underlying9
  · have hl : (loadCells ad l.length).run Tryz.prog W = .ok (l.map (Value.int .u8)).toArray W := by
      have := run_loadCells_list (P := Tryz.prog) W ad (u8s l) hr
      simpa [u8s] using this
    rw [run_convert_bytes_string W 37 9 5 _ l.length cap Tryz.underlying37 Tryz.underlying5 Tryz.underlying9, run_bytesToString W ad l.length cap l hl, foldl_push_bytes]
    simp [strOfNums, ByteArray.empty, ByteArray.emptyWithCapacity]
    rfl
theorem BytesV.keep {a w : World} {v : Value} {l : List Int} (h : BytesV a v l) (hx : Ext a w) : BytesV w v l := by
  rcases h with h | ⟨ad, cap, h1, h2, h3⟩
  · exact .inl h
  · exact .inr ⟨ad, cap, h1, h2.keep hx h3, Nat.lt_of_lt_of_le h3 hx.size⟩

/-- An object is as another one. -/
def alikeB (ws1 : List Int) (a : Nat) (ws2 : List Int) (b : Nat) : Bool := decide (hdrAt ws1 a = hdrAt ws2 b) && decide (fieldsAt ws1 a = fieldsAt ws2 b)
theorem hdr_size (ws : List Int) (a : Nat) : (hdrAt ws a).size = wd ws a % 16777216 := rfl
theorem fields_eq_iff {ws1 ws2 : List Int} {a b : Nat} (h1 : a + 3 + sizeAt ws1 a ≤ ws1.length) (h2 : b + 3 + sizeAt ws2 b ≤ ws2.length) (hs : sizeAt ws1 a = sizeAt ws2 b) : fieldsAt ws1 a = fieldsAt ws2 b ↔ ∀ j, j < sizeAt ws1 a → wd ws1 (a + 3 + j) = wd ws2 (b + 3 + j) := by
  constructor
  · intro h j hj
    rw [← fieldsAt_wd hj, ← fieldsAt_wd (by omega), h]
  · intro h
    apply List.ext_getElem
    · rw [fieldsAt_length h1, fieldsAt_length h2, hs]
    · intro i i1 i2
      have hi : i < sizeAt ws1 a := by rw [fieldsAt_length h1] at i1; exact i1
      have e1 : (fieldsAt ws1 a)[i] = wd (fieldsAt ws1 a) i := by simp [wd, i1]
      have e2 : (fieldsAt ws2 b)[i] = wd (fieldsAt ws2 b) i := by simp [wd, i2]
      rw [e1, e2, fieldsAt_wd hi, fieldsAt_wd (by omega)]
      exact h i hi
theorem get_in {h : HeapS} {os : List Nat} {fs : List Int} {o : Int} {j : Nat} (wf : WF h os) (ho : isO os o = true) (h0 : 0 ≤ o) (hf : (hdrAt h.words (o / 2).toNat).fmt ∈ fs) (hf2 : (hdrAt h.words (o / 2).toNat).fmt ≠ 2) (hj : j < sizeAt h.words (o / 2).toNat) : lookE h.words os fs o j = 0 ∧ getA h.words os fs o j = wd h.words ((o / 2).toNat + 3 + j) := by
  have hw := wf.word (o / 2).toNat
  have hsz : (hdrAt h.words (o / 2).toNat).size = sizeAt h.words (o / 2).toNat := by simp [hdrAt, hdrOf, sizeAt]; omega
  have h1 : lookE h.words os fs o j = 0 := by
    unfold lookE
    rw [if_neg (by simp [ho]), if_neg (by simpa using hf), if_neg]
    simp only [lenH, if_neg hf2, hsz]; omega
  refine ⟨h1, ?_⟩
  unfold getA
  rw [if_pos h1]
  congr 1; omega

end Go.Proofs.Eff

/- audit.alike: the walk. -/
namespace Go.Proofs.Eff
open Go.RowKit

def agreeTo (f : Int) (ws1 : List Int) (a : Nat) (ws2 : List Int) (b k : Nat) : Prop := f = 2 ∨ ∀ j, j < k → wd ws1 (a + 3 + j) = wd ws2 (b + 3 + j)
theorem agreeTo.succ {f : Int} {ws1 ws2 : List Int} {a b k : Nat} (h : agreeTo f ws1 a ws2 b k) (he : wd ws1 (a + 3 + k) = wd ws2 (b + 3 + k)) : agreeTo f ws1 a ws2 b (k + 1) := by
  rcases h with h | h
  · exact .inl h
  · refine .inr fun j hj => ?_
    by_cases e : j = k
    · rw [e]; exact he
    · exact h j (by omega)

set_option maxRecDepth 100000 in
set_option maxHeartbeats 2000000 in
theorem alike57 {w : World} {L1 L2 : HLoc} {h1 h2 : HeapS} {os1 os2 : List Nat} (ha1 : HeapAt w L1 h1) (wf1 : WF h1 os1) (so1 : Sound h1 os1) (ha2 : HeapAt w L2 h2) (wf2 : WF h2 os2) (so2 : Sound h2 os2) (hs : Spares w) (a b : Int) (a0 : 0 ≤ a) (a1 : a < 4294967296) (hoa : isO os1 a = true) (b0 : 0 ≤ b) (b1 : b < 4294967296) (hob : isO os2 b = true) :
    Calls Tryz.prog 57 #[.pointer (some ⟨L1.b, 0, none⟩), .int .u32 a, .pointer (some ⟨L2.b, 0, none⟩), .int .u32 b] w fun e w' => e = .returned (.bool (alikeB h1.words (a / 2).toNat h2.words (b / 2).toNat)) ∧ Ext w w' := by
  have hp := hs.pos
  have hnq := fun w => run_neq65 w
  have HH1 := Lib.hid (fun W (hE : Ext w W) => Header_ok (ha1.keep hE) wf1 (hs.kept hE hp) a a0 a1 hoa)
  have HH2 := Lib.hid (fun W (hE : Ext w W) => Header_ok (ha2.keep hE) wf2 (hs.kept hE hp) b b0 b1 hob)
  have WD1 := Lib.hid (fun W (hE : Ext w W) (i : Int) => Word_any (ha1.keep hE) wf1 (hs.kept hE hp) a i a0 a1)
  have WD2 := Lib.hid (fun W (hE : Ext w W) (i : Int) => Word_any (ha2.keep hE) wf2 (hs.kept hE hp) b i b0 b1)
  have GT1 := Lib.hid (fun W (hE : Ext w W) (i : Int) => Get_any (ha1.keep hE) wf1 (hs.kept hE hp) a i a0 a1)
  have GT2 := Lib.hid (fun W (hE : Ext w W) (i : Int) => Get_any (ha2.keep hE) wf2 (hs.kept hE hp) b i b0 b1)
  have BN1 := Lib.hid (fun W (hE : Ext w W) => Bytes_no (ha1.keep hE) wf1 (hs.kept hE hp) a a0 a1 hoa)
  have BN2 := Lib.hid (fun W (hE : Ext w W) => Bytes_no (ha2.keep hE) wf2 (hs.kept hE hp) b b0 b1 hob)
  have BY1 := Lib.hid (fun W (hE : Ext w W) hf => Bytes_ok (ha1.keep hE) wf1 (hs.kept hE hp) a a0 a1 hoa hf (so1.spare _ (wf1.isO_lt hoa).2 hf))
  have BY2 := Lib.hid (fun W (hE : Ext w W) hf => Bytes_ok (ha2.keep hE) wf2 (hs.kept hE hp) b b0 b1 hob hf (so2.spare _ (wf2.isO_lt hob).2 hf))
  have hm1 := wf1.mem (wf1.isO_lt hoa).2
  have hm2 := wf2.mem (wf2.isO_lt hob).2
  have hbd := mayB_bounds (wf1.hdr (wf1.isO_lt hoa).2)
  have S1 := wf1.word (a / 2).toNat
  have hsz : (hdrAt h1.words (a / 2).toNat).size = sizeAt h1.words (a / 2).toNat := by simp [hdrAt, hdrOf, sizeAt]; omega
  have hsz2 : (hdrAt h2.words (b / 2).toNat).size = sizeAt h2.words (b / 2).toNat := by have := wf2.word (b / 2).toNat; simp [hdrAt, hdrOf, sizeAt]; omega
  have GE1 : Hid (∀ (fs : List Int) (j : Nat), (hdrAt h1.words (a / 2).toNat).fmt ∈ fs → (hdrAt h1.words (a / 2).toNat).fmt ≠ 2 → j < sizeAt h1.words (a / 2).toNat → lookE h1.words os1 fs a j = 0 ∧ getA h1.words os1 fs a j = wd h1.words ((a / 2).toNat + 3 + j)) := fun fs j e1 e2 e3 => get_in wf1 hoa a0 e1 e2 e3
  have GE2 : Hid (∀ (fs : List Int) (j : Nat), (hdrAt h2.words (b / 2).toNat).fmt ∈ fs → (hdrAt h2.words (b / 2).toNat).fmt ≠ 2 → j < sizeAt h2.words (b / 2).toNat → lookE h2.words os2 fs b j = 0 ∧ getA h2.words os2 fs b j = wd h2.words ((b / 2).toNat + 3 + j)) := fun fs j e1 e2 e3 => get_in wf2 hob b0 e1 e2 e3
  have FI := Lib.hid (fields_eq_iff (ws1 := h1.words) (ws2 := h2.words) hm1.2.1 hm2.2.1)
  have SP1 : Hid ((hdrAt h1.words (a / 2).toNat).fmt = 2 → spareOK h1.words (a / 2).toNat = true) := fun hf => so1.spare _ (wf1.isO_lt hoa).2 hf
  have SP2 : Hid ((hdrAt h2.words (b / 2).toNat).fmt = 2 → spareOK h2.words (b / 2).toNat = true) := fun hf => so2.spare _ (wf2.isO_lt hob).2 hf
  have FL1 := Lib.hid (fieldsAt_length hm1.2.1)
  have FL2 := Lib.hid (fieldsAt_length hm2.2.1)
  have RG1 : Hid (∀ x, x ∈ fieldsAt h1.words (a / 2).toNat → 0 ≤ x ∧ x < 4294967296) := fun x hx => wf1.rng x (List.mem_of_mem_drop (List.mem_of_mem_take hx))
  have RG2 : Hid (∀ x, x ∈ fieldsAt h2.words (b / 2).toNat → 0 ≤ x ∧ x < 4294967296) := fun x hx => wf2.rng x (List.mem_of_mem_drop (List.mem_of_mem_take hx))
  clear ha1 ha2 wf1 wf2 so1 so2 hs hm1 hm2 S1
  by_cases heq : hdrAt h1.words (a / 2).toNat = hdrAt h2.words (b / 2).toNat
  · have hdt : ∀ x y : Hdr, x = hdrAt h1.words (a / 2).toNat → y = hdrAt h2.words (b / 2).toNat → decide (x = y) = true := by
      intro x y e1 e2; rw [e1, e2, heq]; simp
    have AB : Hid (alikeB h1.words (a / 2).toNat h2.words (b / 2).toNat = decide (fieldsAt h1.words (a / 2).toNat = fieldsAt h2.words (b / 2).toNat)) := by
      show alikeB _ _ _ _ = _
      unfold alikeB; rw [heq]; simp
    have hss : sizeAt h1.words (a / 2).toNat = sizeAt h2.words (b / 2).toNat := by
      have : ((sizeAt h1.words (a / 2).toNat : Nat) : Int) = sizeAt h2.words (b / 2).toNat := by rw [← hsz, ← hsz2, heq]
      omega
    have FI2 := Lib.hid (FI.out hss)
    have FIN0 : Hid ((hdrAt h1.words (a / 2).toNat).fmt = 2 → (strOfNums (bytesAt h1.words (a / 2).toNat) = strOfNums (bytesAt h2.words (b / 2).toNat) ↔ fieldsAt h1.words (a / 2).toNat = fieldsAt h2.words (b / 2).toNat)) := by
      intro hf
      unfold bytesAt
      rw [strOfNums_inj (fun x hx => bytesOf_rng RG1.out x (List.mem_of_mem_take hx)) (fun x hx => bytesOf_rng RG2.out x (List.mem_of_mem_take hx))]
      have t1 := SP1.out hf
      have t2 := SP2.out (by rw [← heq]; exact hf)
      unfold spareOK at t1 t2
      rw [← heq] at t2
      rw [← heq, ← hss]
      constructor
      · intro he
        refine bytes_inj (by rw [FL1.out, FL2.out, hss]) t1 t2 ?_
        rw [FL1.out, FL2.out, ← hss]; exact he
      · intro he; rw [he]
    rw [← heq] at HH2 BN2 BY2 GE2 SP2
    rw [← hss] at GE2 FL2
    clear hdt hsz2 FI
    have HSS := Lib.hid hss
    have HEQ := Lib.hid heq
    clear hss heq
    have hS0 : (sizeAt h1.words (a / 2).toNat : Int) ≤ 65535 := by rw [← hsz]; exact hbd.2.1
    generalize hdrAt h1.words (a / 2).toNat = H at *
    obtain ⟨A, B, C, c, s⟩ := H
    simp only [Hdr.val, Hdr.cells] at *
    subst hsz
    obtain ⟨_, _, hb3, hb4, hb5, hb6⟩ := hbd
    have hself : (decide ((⟨(sizeAt h1.words (a / 2).toNat : Int), B, C, c, s⟩ : Hdr) = ⟨(sizeAt h1.words (a / 2).toNat : Int), B, C, c, s⟩)) = true := by simp
    generalize sizeAt h1.words (a / 2).toNat = S at *
    generalize (a / 2).toNat = na at *
    generalize (b / 2).toNat = nb at *
    go_enter Tryz.func57, Tryz.ntmps57
    go_wp2_with fail
    refine (HH1.out _ (Ext.refl _)).mono ?_
    rintro e w1 ⟨rfl, hb1⟩
    have B1 := Lib.hid hb1
    clear hb1
    go_wp2_with fail
    refine (HH2.out _ (B1.out.alloc _)).mono ?_
    rintro e w2 ⟨rfl, hb2⟩
    have B2 := Lib.hid hb2
    have n1 := hb2.keep (newB w1 (.cells #[.int .i64 S, .int .i64 B, .int .i64 C, .int .u32 c, .int .u32 s] 65) _ rfl)
    have hn1 := lt_of_block n1
    obtain ⟨c1, c2⟩ := blk n1
    clear hb2
    go_wp2
    have hE0 : Ext w (w2.alloc (.cells #[.int .i64 S, .int .i64 B, .int .i64 C, .int .u32 c, .int .u32 s] 65)) := ((B1.out.alloc _).trans B2.out).alloc _
    have n2 := keepB n1 (.cells #[.int .i64 S, .int .i64 B, .int .i64 C, .int .u32 c, .int .u32 s] 65)
    generalize w2.alloc (.cells #[.int .i64 S, .int .i64 B, .int .i64 C, .int .u32 c, .int .u32 s] 65) = X at *
    generalize w1.heap.size = p at *
    have E0 := Lib.hid hE0
    have N2 := Lib.hid n2
    clear hE0 n1 n2 c1 c2 B1 B2 hself
    have hcn : ∀ W, (convert 37 9 (.slice none 0 0)).run Tryz.prog W = .ok (.string (strOfNums [])) W := fun W => run_convert_bytesV (.inl ⟨rfl, rfl⟩)
    go_loopw [43] (fun i wr => ∃ (k : Nat), k ≤ S ∧ i = .int .i64 k ∧ Ext X wr ∧ agreeTo B h1.words na h2.words nb k) (fun i _ => S - (intOf i).toNat)
    case atStart => exact ⟨0, by omega, rfl, Ext.refl _, .inr (fun j hj => by omega)⟩
    case round =>
      obtain ⟨k, hk, rfl, hE, hag⟩ := hrel
      have E := Lib.hid hE
      have G := Lib.hid hag
      have EW := Lib.hid (E0.out.trans hE)
      obtain ⟨d1, d2⟩ := blk (hE.keep N2.out)
      clear hE hag
      by_cases hlt : k < S
      · by_cases hB2 : B = 2
        · have hB3 : (B == 3) = false := by rw [hB2]; rfl
          have hB4 : (B == 2) = true := by rw [hB2]; rfl
          have G2 : Hid (agreeTo B h1.words na h2.words nb (k + 1)) := .inl hB2
          clear hB2
          go_wp2
          go_roundw
          case rel => exact ⟨k + 1, by omega, by go_num, E.out, G2.out⟩
          case measure => simp [intOf]; omega
        · have hB4 : (B == 2) = false := by rw [beq_eq_false_iff_ne]; exact hB2
          by_cases hB : B = 3
          · have hB3 : (B == 3) = true := by rw [hB]; rfl
            have e1 := (GE1.out [3] k (by simp [hB]) hB2 hlt).2
            have e2 := (GE2.out [3] k (by simp [hB]) hB2 hlt).2
            have X1 := Lib.hid (WD1.out wr EW.out k)
            have X2 := Lib.hid (fun W (hE : Ext wr W) => WD2.out W (EW.out.trans hE) k)
            rw [e1] at X1
            rw [e2] at X2
            generalize lookE h1.words os1 [3] a k = z1 at *
            generalize lookE h2.words os2 [3] b k = z2 at *
            have GS := Lib.hid (fun he => G.out.succ he)
            have NG : Hid (wd h1.words (na + 3 + k) ≠ wd h2.words (nb + 3 + k) → decide (fieldsAt h1.words na = fieldsAt h2.words nb) = false) := by
              intro hne
              rw [decide_eq_false_iff_not, FI2.out]
              exact fun hall => hne (hall k hlt)
            generalize wd h1.words (na + 3 + k) = x at *
            generalize wd h2.words (nb + 3 + k) = y at *
            clear e1 e2 hB hB2
            by_cases hxy : x = y
            · have hq : (x != y) = false := by simpa using hxy
              have GX := Lib.hid (GS.out hxy)
              clear hxy
              go_wp2_with fail
              refine X1.out.mono ?_
              rintro e w3 ⟨rfl, hb3⟩
              have B3 := Lib.hid hb3
              clear hb3
              go_wp2_with fail
              refine (X2.out _ B3.out).mono ?_
              rintro e w4 ⟨rfl, hb4⟩
              have B4 := Lib.hid (B3.out.trans hb4)
              clear hb4
              go_wp2
              go_roundw
              case rel => exact ⟨k + 1, by omega, by go_num, E.out.trans B4.out, GX.out⟩
              case measure => simp [intOf]; omega
            · have hq : (x != y) = true := by simpa using hxy
              have GX := Lib.hid (NG.out hxy)
              clear hxy
              go_wp2_with fail
              refine X1.out.mono ?_
              rintro e w3 ⟨rfl, hb3⟩
              have B3 := Lib.hid hb3
              clear hb3
              go_wp2_with fail
              refine (X2.out _ B3.out).mono ?_
              rintro e w4 ⟨rfl, hb4⟩
              have B4 := Lib.hid (B3.out.trans hb4)
              clear hb4
              go_wp2
              go_ret
              rw [AB.out, GX.out]
              exact ⟨rfl, EW.out.trans B4.out⟩
          · have hB3 : (B == 3) = false := by rw [beq_eq_false_iff_ne]; exact hB
            have e1 := (GE1.out [1, 4] k (by simp; omega) hB2 hlt).2
            have e2 := (GE2.out [1, 4] k (by simp; omega) hB2 hlt).2
            have X1 := Lib.hid (GT1.out wr EW.out k)
            have X2 := Lib.hid (fun W (hE : Ext wr W) => GT2.out W (EW.out.trans hE) k)
            rw [e1] at X1
            rw [e2] at X2
            generalize lookE h1.words os1 [1, 4] a k = z1 at *
            generalize lookE h2.words os2 [1, 4] b k = z2 at *
            have GS := Lib.hid (fun he => G.out.succ he)
            have NG : Hid (wd h1.words (na + 3 + k) ≠ wd h2.words (nb + 3 + k) → decide (fieldsAt h1.words na = fieldsAt h2.words nb) = false) := by
              intro hne
              rw [decide_eq_false_iff_not, FI2.out]
              exact fun hall => hne (hall k hlt)
            generalize wd h1.words (na + 3 + k) = x at *
            generalize wd h2.words (nb + 3 + k) = y at *
            clear e1 e2 hB hB2
            by_cases hxy : x = y
            · have hq : (x != y) = false := by simpa using hxy
              have GX := Lib.hid (GS.out hxy)
              clear hxy
              go_wp2_with fail
              refine X1.out.mono ?_
              rintro e w3 ⟨rfl, hb3⟩
              have B3 := Lib.hid hb3
              clear hb3
              go_wp2_with fail
              refine (X2.out _ B3.out).mono ?_
              rintro e w4 ⟨rfl, hb4⟩
              have B4 := Lib.hid (B3.out.trans hb4)
              clear hb4
              go_wp2
              go_roundw
              case rel => exact ⟨k + 1, by omega, by go_num, E.out.trans B4.out, GX.out⟩
              case measure => simp [intOf]; omega
            · have hq : (x != y) = true := by simpa using hxy
              have GX := Lib.hid (NG.out hxy)
              clear hxy
              go_wp2_with fail
              refine X1.out.mono ?_
              rintro e w3 ⟨rfl, hb3⟩
              have B3 := Lib.hid hb3
              clear hb3
              go_wp2_with fail
              refine (X2.out _ B3.out).mono ?_
              rintro e w4 ⟨rfl, hb4⟩
              have B4 := Lib.hid (B3.out.trans hb4)
              clear hb4
              go_wp2
              go_ret
              rw [AB.out, GX.out]
              exact ⟨rfl, EW.out.trans B4.out⟩
      · obtain rfl : k = S := by omega
        by_cases hB2 : B = 2
        · have X1 := Lib.hid (BY1.out wr EW.out hB2)
          have X2 := Lib.hid (fun W (hE : Ext wr W) => BY2.out W (EW.out.trans hE) hB2)
          have FIN := Lib.hid (FIN0.out hB2)
          clear hB2 G
          go_wp2_with fail
          refine X1.out.mono ?_
          rintro e w3 ⟨v1, rfl, hv1, hb3⟩
          have B3 := Lib.hid hb3
          have V1 := Lib.hid hv1
          clear hb3 hv1
          go_wp2_with fail
          refine (X2.out _ B3.out).mono ?_
          rintro e w4 ⟨v2, rfl, hv2, hb4⟩
          have B4 := Lib.hid (B3.out.trans hb4)
          have k1 := run_convert_bytesV (V1.out.keep hb4)
          have k2 := run_convert_bytesV hv2
          clear hb4 hv2
          go_wp2
          go_ret
          rw [AB.out]
          refine ⟨congrArg (fun z => Ending.returned (.bool z)) ?_, EW.out.trans B4.out⟩
          show ((strOfNums (bytesAt h1.words na)).toList == (strOfNums (bytesAt h2.words nb)).toList) = _
          by_cases hf : fieldsAt h1.words na = fieldsAt h2.words nb
          · have := FIN.out.2 hf
            rw [this, decide_eq_true hf]; simp
          · have h3 : ¬ strOfNums (bytesAt h1.words na) = strOfNums (bytesAt h2.words nb) := fun h => hf (FIN.out.1 h)
            rw [decide_eq_false hf, beq_eq_false_iff_ne]
            intro h4
            apply h3
            rw [ByteArray.toList_eq, ByteArray.toList_eq] at h4
            exact ByteArray.ext (Array.toList_inj.1 h4)
        · have X1 := Lib.hid (BN1.out wr EW.out hB2)
          have X2 := Lib.hid (fun W (hE : Ext wr W) => BN2.out W (EW.out.trans hE) hB2)
          have FIN : Hid (decide (fieldsAt h1.words na = fieldsAt h2.words nb) = true) := by
            show decide _ = true
            rw [decide_eq_true_iff, FI2.out]
            rcases G.out with h1 | h1
            · exact absurd h1 hB2
            · exact h1
          clear hB2 G
          go_wp2_with fail
          refine X1.out.mono ?_
          rintro e w3 ⟨rfl, hb3⟩
          have B3 := Lib.hid hb3
          clear hb3
          go_wp2_with fail
          refine (X2.out _ B3.out).mono ?_
          rintro e w4 ⟨rfl, hb4⟩
          have B4 := Lib.hid (B3.out.trans hb4)
          clear hb4
          go_wp2
          go_ret
          rw [AB.out, FIN.out]
          exact ⟨rfl, EW.out.trans B4.out⟩
  · have AB : Hid (alikeB h1.words (a / 2).toNat h2.words (b / 2).toNat = false) := by
      show alikeB _ _ _ _ = _
      unfold alikeB; simp [heq]
    have hdt : (decide (hdrAt h1.words (a / 2).toNat = hdrAt h2.words (b / 2).toNat)) = false := by simpa using heq
    clear heq hsz hsz2 hbd WD1 WD2 GT1 GT2 BN1 BN2 BY1 BY2 GE1 GE2 FI SP1 SP2 FL1 FL2 RG1 RG2
    generalize hdrAt h1.words (a / 2).toNat = H at *
    generalize hdrAt h2.words (b / 2).toNat = H2 at *
    obtain ⟨A, B, C, c, s⟩ := H
    obtain ⟨A2, B2, C2, c2, s2⟩ := H2
    have hnq2 : ∀ w, (binOp .neq 65 (.agg #[.int .i64 A, .int .i64 B, .int .i64 C, .int .u32 c, .int .u32 s]) (.agg #[.int .i64 A2, .int .i64 B2, .int .i64 C2, .int .u32 c2, .int .u32 s2])).run Tryz.prog w = .ok (.bool true) w := fun w => by rw [run_neq65, hdt]; rfl
    clear hnq hdt
    simp only [Hdr.val, Hdr.cells] at *
    rw [AB.out]
    go_enter Tryz.func57, Tryz.ntmps57
    go_wp2_with fail
    refine (HH1.out _ (Ext.refl _)).mono ?_
    rintro e w1 ⟨rfl, hb1⟩
    have B1 := Lib.hid hb1
    clear hb1
    go_wp2_with fail
    refine (HH2.out _ (B1.out.alloc _)).mono ?_
    rintro e w2 ⟨rfl, hb2⟩
    have B2 := Lib.hid hb2
    have n1 := hb2.keep (newB w1 (.cells #[.int .i64 A, .int .i64 B, .int .i64 C, .int .u32 c, .int .u32 s] 65) _ rfl)
    have hn1 := lt_of_block n1
    obtain ⟨c1, c2⟩ := blk n1
    clear hb2
    go_wp2
    go_ret
    exact ⟨rfl, ((B1.out.alloc _).trans B2.out).alloc _⟩

end Go.Proofs.Eff

/- audit.Collection: what it answers. -/
namespace Go.Proofs.Eff
open Go.RowKit

/-- The first number below another that a test holds of. -/
def findR (p : Nat → Bool) (n : Nat) : Option Nat := (List.range n).find? p
theorem findR_some {p : Nat → Bool} {n k : Nat} (hk : k < n) (h : ∀ j, j < k → p j = false) (hp : p k = true) : findR p n = some k := by
  unfold findR
  rw [List.find?_eq_some_iff_append]
  refine ⟨hp, List.range k, (List.range' (k + 1) (n - (k + 1))), ?_, ?_⟩
  · rw [List.range_eq_range', List.range_eq_range']
    have h1 : List.range' 0 n = List.range' 0 k ++ List.range' k (n - k) := by
      have := List.range'_append (s := 0) (m := k) (n := n - k) (step := 1)
      simp only [Nat.one_mul, Nat.zero_add] at this
      rw [this]; congr 1; omega
    have h2 : List.range' k (n - k) = k :: List.range' (k + 1) (n - (k + 1)) := by
      obtain ⟨m, hm⟩ : ∃ m, n - k = m + 1 := ⟨n - k - 1, by omega⟩
      rw [hm, List.range'_succ]; congr 2; omega
    rw [h1, h2]
  · intro a ha
    rw [List.mem_range] at ha
    simp [h a ha]
theorem findR_none {p : Nat → Bool} {n : Nat} (h : ∀ j, j < n → p j = false) : findR p n = none := by
  unfold findR
  rw [List.find?_eq_none]
  intro x hx
  rw [List.mem_range] at hx
  simp [h x hx]

def pC (ws1 o1 ws2 o2 : List Int) (i : Nat) : Bool := !(o2.map (serO ws2)).contains (serO ws1 (wd o1 i))
def pO (ws1 o1 ws2 o2 : List Int) (i : Nat) : Bool := serO ws2 (wd o2 i) != serO ws1 (wd o1 i)
def pA (ws1 o1 ws2 o2 : List Int) (i : Nat) : Bool := !alikeB ws1 (wd o1 i / 2).toNat ws2 (wd o2 i / 2).toNat
def pR (r1 r2 : List Int) (i : Nat) : Bool := wd r1 i != wd r2 i
def cF5 (r1 r2 : List Int) : Int × Int :=
  match findR (pR r1 r2) 64 with
  | some i => (15, (i : Int))
  | none => (0, 0)
def cF4 (ws1 : List Int) (o1 : List Int) (ws2 : List Int) (o2 : List Int) (r : Int × Int) : Int × Int :=
  match findR (pA ws1 o1 ws2 o2) o1.length with
  | some i => (14, serO ws2 (wd o2 i))
  | none => r
def cF3 (ws1 : List Int) (o1 : List Int) (ws2 : List Int) (o2 : List Int) (r : Int × Int) : Int × Int :=
  match findR (pO ws1 o1 ws2 o2) o2.length with
  | some i => (13, serO ws2 (wd o2 i))
  | none => r
/-- Those of one that the other lacks. -/
def cF1 (n : Int) (ws1 : List Int) (o1 : List Int) (ws2 : List Int) (o2 : List Int) (r : Int × Int) : Int × Int :=
  match findR (pC ws1 o1 ws2 o2) o1.length with
  | some i => (n, serO ws1 (wd o1 i))
  | none => r
def collF (h1 : HeapS) (os1 : List Nat) (h2 : HeapS) (os2 : List Nat) : Int × Int :=
  if h1.size = h2.size ∧ h1.last = h2.last then
    cF1 11 h1.words (liveOf h1 os1) h2.words (oopsOf os2) (cF1 12 h2.words (oopsOf os2) h1.words (liveOf h1 os1)
      (cF3 h1.words (liveOf h1 os1) h2.words (oopsOf os2) (cF4 (wordsC h1 os1) (oopsOf (osC h1 os1)) h2.words (oopsOf os2) (cF5 (rootsC h1 os1) h2.roots))))
  else (10, 0)

/-! ### How long the lists are -/
theorem len_le_of_sub {α : Type} [DecidableEq α] : ∀ {l m : List α}, l.Nodup → (∀ x, x ∈ l → x ∈ m) → l.length ≤ m.length := by
  intro l
  induction l with
  | nil => intro m _ _; simp
  | cons x l ih =>
    intro m hn hs
    rw [List.nodup_cons] at hn
    have hx : x ∈ m := hs x (by simp)
    have h1 := ih (m := m.erase x) hn.2 (fun y hy => by
      rw [List.mem_erase_of_ne (by intro e; rw [e] at hy; exact hn.1 hy)]
      exact hs y (by simp [hy]))
    have h2 := List.length_erase_of_mem hx
    have h3 : 0 < m.length := List.length_pos_of_mem hx
    simp only [List.length_cons]; omega
theorem oops_valid {h : HeapS} {os : List Nat} (wf : WF h os) : ∀ x, x ∈ oopsOf os → isO os x = true ∧ 0 ≤ x ∧ x < 4294967296 := by
  intro x hx
  obtain ⟨a, ha, rfl⟩ := List.mem_map.1 hx
  have hm := wf.mem ha
  have hb := wf.big
  refine ⟨?_, by omega, by omega⟩
  have : (2 * (a : Int) / 2).toNat = a := by omega
  simp [isO, isObj, ha]; omega
theorem serO_oops (ws : List Int) (os : List Nat) : (oopsOf os).map (serO ws) = os.map (serAt ws) := by
  unfold oopsOf
  rw [List.map_map]
  apply List.map_congr_left
  intro a _
  simp only [Function.comp, serO]
  congr 1; omega
theorem oops_nodup {h : HeapS} {os : List Nat} (hso : Sound h os) : ((oopsOf os).map (serO h.words)).Nodup := by
  rw [serO_oops]; exact hso.uniq
theorem live_nodup {h : HeapS} {os : List Nat} (wf : WF h os) (hso : Sound h os) : ((liveOf h os).map (serO h.words)).Nodup := by
  refine nodup_map_inj (live_valid wf hso).1 ?_
  intro x hx y hy he
  have := inj_of_nodup_map hso.uniq (live_os wf hso hx) (live_os wf hso hy) he
  have h1 := (live_valid wf hso).2.1 x hx
  have h2 := (live_valid wf hso).2.1 y hy
  simp [isO, isObj] at h1 h2
  omega
theorem wd_mem {l : List Int} {i : Nat} (hi : i < l.length) : wd l i ∈ l := by simp [wd, hi]
/-- Where the one lacks nothing of the other, it is as long. -/
theorem len_of_all {ws1 ws2 : List Int} {o1 o2 : List Int} (hn : (o1.map (serO ws1)).Nodup) (h : ∀ j, j < o1.length → (!(o2.map (serO ws2)).contains (serO ws1 (wd o1 j))) = false) : o1.length ≤ o2.length := by
  have := len_le_of_sub (l := o1.map (serO ws1)) (m := o2.map (serO ws2)) hn ?_
  · simpa using this
  · intro x hx
    obtain ⟨i, hi, rfl⟩ := List.getElem_of_mem hx
    have hi' : i < o1.length := by simpa using hi
    have := h i hi'
    simp only [Bool.not_eq_false', List.contains_eq_mem, decide_eq_true_eq] at this
    simpa [wd, hi'] using this

theorem set2 {w : World} {rb : Nat} {a0 a1 : Value} {T : TypeId} (h : w.heap[rb]? = some (.cells #[a0, a1] T (0, 0))) (v0 v1 : Value) :
    ((w.setCell ⟨rb, 0, none⟩ v0).setCell ⟨rb, 1, none⟩ v1).heap[rb]? = some (.cells #[v0, v1] T (0, 0)) := by
  have h0 := setB (i := 0) h v0
  generalize w.setCell ⟨rb, 0, none⟩ v0 = u0 at *
  have h1 := setB (i := 1) h0 v1
  simpa using h1

end Go.Proofs.Eff

/- audit.Collection: the walk. -/
namespace Go.Proofs.Eff
open Go.RowKit

def FindR (w : World) (r : Int × Int) (e : Ending) (w' : World) : Prop := e = .returned (.agg #[.int .i64 r.1, .int .i64 r.2]) ∧ Ext w w'

def NoneTo (p : Nat → Bool) (k : Nat) : Prop := ∀ j, j < k → p j = false
theorem NoneTo.zero (p : Nat → Bool) : NoneTo p 0 := fun j hj => by omega
theorem NoneTo.succ {p : Nat → Bool} {k : Nat} (h : NoneTo p k) (hk : p k = false) : NoneTo p (k + 1) := fun j hj => by
  by_cases e : j = k
  · rw [e]; exact hk
  · exact h j (by omega)
theorem cF1_some {n : Int} {ws1 o1 ws2 o2 : List Int} {k : Nat} (r : Int × Int) (hk : k < o1.length) (h : NoneTo (pC ws1 o1 ws2 o2) k) (hp : pC ws1 o1 ws2 o2 k = true) : cF1 n ws1 o1 ws2 o2 r = (n, serO ws1 (wd o1 k)) := by
  unfold cF1; rw [findR_some (p := pC ws1 o1 ws2 o2) hk h hp]
theorem cF1_none {n : Int} {ws1 o1 ws2 o2 : List Int} (r : Int × Int) (h : NoneTo (pC ws1 o1 ws2 o2) o1.length) : cF1 n ws1 o1 ws2 o2 r = r := by
  unfold cF1; rw [findR_none (p := pC ws1 o1 ws2 o2) h]
theorem cF3_some {ws1 o1 ws2 o2 : List Int} {k : Nat} (r : Int × Int) (hk : k < o2.length) (h : NoneTo (pO ws1 o1 ws2 o2) k) (hp : pO ws1 o1 ws2 o2 k = true) : cF3 ws1 o1 ws2 o2 r = (13, serO ws2 (wd o2 k)) := by
  unfold cF3; rw [findR_some (p := pO ws1 o1 ws2 o2) hk h hp]
theorem cF3_none {ws1 o1 ws2 o2 : List Int} (r : Int × Int) (h : NoneTo (pO ws1 o1 ws2 o2) o2.length) : cF3 ws1 o1 ws2 o2 r = r := by
  unfold cF3; rw [findR_none (p := pO ws1 o1 ws2 o2) h]
theorem cF4_some {ws1 o1 ws2 o2 : List Int} {k : Nat} (r : Int × Int) (hk : k < o1.length) (h : NoneTo (pA ws1 o1 ws2 o2) k) (hp : pA ws1 o1 ws2 o2 k = true) : cF4 ws1 o1 ws2 o2 r = (14, serO ws2 (wd o2 k)) := by
  unfold cF4; rw [findR_some (p := pA ws1 o1 ws2 o2) hk h hp]
theorem cF4_none {ws1 o1 ws2 o2 : List Int} (r : Int × Int) (h : NoneTo (pA ws1 o1 ws2 o2) o1.length) : cF4 ws1 o1 ws2 o2 r = r := by
  unfold cF4; rw [findR_none (p := pA ws1 o1 ws2 o2) h]
theorem cF5_some {r1 r2 : List Int} {k : Nat} (hk : k < 64) (h : NoneTo (pR r1 r2) k) (hp : pR r1 r2 k = true) : cF5 r1 r2 = (15, (k : Int)) := by
  unfold cF5; rw [findR_some (p := pR r1 r2) hk h hp]
theorem cF5_none {r1 r2 : List Int} (h : NoneTo (pR r1 r2) 64) : cF5 r1 r2 = (0, 0) := by
  unfold cF5; rw [findR_none (p := pR r1 r2) h]
theorem look127 {W : World} {mb : Nat} {ws l : List Int} (hm : MapAt W mb .i64 (serL ws l)) (s : Int) : (Instr.lookup 127 (.map (some mb)) (.int .i64 s) false).run Tryz.prog W = .ok (.int .i64 (if (l.map (serO ws)).contains s then 1 else 0)) W := by
  have := run_lookup_at (P := Tryz.prog) W Tryz.underlying127 Tryz.underlying3 hm (.int .i64 0) zero3 s
  rw [aget_serL] at this; exact this

section
variable {w : World} {L1 L2 : HLoc} {h1 h2 : HeapS} {os1 os2 : List Nat}

set_option maxRecDepth 100000 in
set_option maxHeartbeats 4000000 in
theorem Collection_size (ha1 : HeapAt w L1 h1) (wf1 : WF h1 os1) (_so1 : Sound h1 os1) (ha2 : HeapAt w L2 h2) (wf2 : WF h2 os2) (_so2 : Sound h2 os2) (hs : Spares w) (hq1 : h1.size ≠ h2.size) :
    Calls Tryz.prog 15 #[.pointer (some ⟨L1.b, 0, none⟩), .pointer (some ⟨L2.b, 0, none⟩)] w (FindR w (collF h1 os1 h2 os2)) := by
  have hp := hs.pos
  have SZ1 := Lib.hid (fun W (hE : Ext w W) => size_ok (ha1.keep hE) wf1)
  have SZ2 := Lib.hid (fun W (hE : Ext w W) => size_ok (ha2.keep hE) wf2)
  have LS1 := Lib.hid (fun W (hE : Ext w W) => last_ok (ha1.keep hE) wf1)
  have LS2 := Lib.hid (fun W (hE : Ext w W) => last_ok (ha2.keep hE) wf2)
  have hq : (h1.size != h2.size) = true := by simpa using hq1
  have HF : Hid (collF h1 os1 h2 os2 = (10, 0)) := by
    show collF _ _ _ _ = _
    unfold collF; rw [if_neg (fun h => hq1 h.1)]
  rw [HF.out]
  clear ha1 ha2 wf1 wf2 _so1 _so2 hs hq1 HF
  go_enter Tryz.func15, Tryz.ntmps15
  go_wp2_with fail
  refine (SZ1.out _ ((Ext.refl _).alloc _)).mono ?_
  rintro e w' ⟨rfl, rfl⟩
  go_wp2_with fail
  refine (SZ2.out _ ((Ext.refl _).alloc _)).mono ?_
  rintro e w' ⟨rfl, rfl⟩
  go_wp2
  refine bodyPost_ret (v := .agg #[.int .i64 10, .int .i64 0]) (by simp [results, Tryz.results15, go_sem]) rfl ⟨rfl, ?_⟩
  exact (Ext.refl _).alloc _

set_option maxRecDepth 100000 in
set_option maxHeartbeats 4000000 in
theorem Collection_last (ha1 : HeapAt w L1 h1) (wf1 : WF h1 os1) (_so1 : Sound h1 os1) (ha2 : HeapAt w L2 h2) (wf2 : WF h2 os2) (_so2 : Sound h2 os2) (hs : Spares w) (hq1 : h1.size = h2.size) (hq2 : h1.last ≠ h2.last) :
    Calls Tryz.prog 15 #[.pointer (some ⟨L1.b, 0, none⟩), .pointer (some ⟨L2.b, 0, none⟩)] w (FindR w (collF h1 os1 h2 os2)) := by
  have hp := hs.pos
  have SZ1 := Lib.hid (fun W (hE : Ext w W) => size_ok (ha1.keep hE) wf1)
  have SZ2 := Lib.hid (fun W (hE : Ext w W) => size_ok (ha2.keep hE) wf2)
  have LS1 := Lib.hid (fun W (hE : Ext w W) => last_ok (ha1.keep hE) wf1)
  have LS2 := Lib.hid (fun W (hE : Ext w W) => last_ok (ha2.keep hE) wf2)
  have hqa : (h1.size != h2.size) = false := by simpa using hq1
  have hq : (h1.last != h2.last) = true := by simpa using hq2
  have HF : Hid (collF h1 os1 h2 os2 = (10, 0)) := by
    show collF _ _ _ _ = _
    unfold collF; rw [if_neg (fun h => hq2 h.2)]
  rw [HF.out]
  clear ha1 ha2 wf1 wf2 _so1 _so2 hs hq1 hq2 HF
  go_enter Tryz.func15, Tryz.ntmps15
  go_wp2_with fail
  refine (SZ1.out _ ((Ext.refl _).alloc _)).mono ?_
  rintro e w' ⟨rfl, rfl⟩
  go_wp2_with fail
  refine (SZ2.out _ ((Ext.refl _).alloc _)).mono ?_
  rintro e w' ⟨rfl, rfl⟩
  go_wp2_with fail
  refine (LS1.out _ ((Ext.refl _).alloc _)).mono ?_
  rintro e w' ⟨rfl, rfl⟩
  go_wp2_with fail
  refine (LS2.out _ ((Ext.refl _).alloc _)).mono ?_
  rintro e w' ⟨rfl, rfl⟩
  go_wp2
  refine bodyPost_ret (v := .agg #[.int .i64 10, .int .i64 0]) (by simp [results, Tryz.results15, go_sem]) rfl ⟨rfl, ?_⟩
  exact (Ext.refl _).alloc _

set_option maxRecDepth 100000 in
set_option maxHeartbeats 4000000 in
theorem Collection_main (ha1 : HeapAt w L1 h1) (wf1 : WF h1 os1) (so1 : Sound h1 os1) (ha2 : HeapAt w L2 h2) (wf2 : WF h2 os2) (so2 : Sound h2 os2) (hs : Spares w) (hq1 : h1.size = h2.size) (hq2 : h1.last = h2.last) :
    Calls Tryz.prog 15 #[.pointer (some ⟨L1.b, 0, none⟩), .pointer (some ⟨L2.b, 0, none⟩)] w (FindR w (collF h1 os1 h2 os2)) := by
  have hp := hs.pos
  have SZ1 := Lib.hid (fun W (hE : Ext w W) => size_ok (ha1.keep hE) wf1)
  have SZ2 := Lib.hid (fun W (hE : Ext w W) => size_ok (ha2.keep hE) wf2)
  have LS1 := Lib.hid (fun W (hE : Ext w W) => last_ok (ha1.keep hE) wf1)
  have LS2 := Lib.hid (fun W (hE : Ext w W) => last_ok (ha2.keep hE) wf2)
  have hqa : (h1.size != h2.size) = false := by simpa using hq1
  have hq : (h1.last != h2.last) = false := by simpa using hq2
  have HF : Hid (collF h1 os1 h2 os2 = cF1 11 h1.words (liveOf h1 os1) h2.words (oopsOf os2) (cF1 12 h2.words (oopsOf os2) h1.words (liveOf h1 os1)
      (cF3 h1.words (liveOf h1 os1) h2.words (oopsOf os2) (cF4 (wordsC h1 os1) (oopsOf (osC h1 os1)) h2.words (oopsOf os2) (cF5 (rootsC h1 os1) h2.roots))))) := by
    show collF _ _ _ _ = _
    unfold collF; rw [if_pos ⟨hq1, hq2⟩]
  have LIV := Lib.hid (fun W (hE : Ext w W) => Live_ok (ha1.keep hE) wf1 so1 (hs.kept hE hp))
  have OBJ := Lib.hid (fun W (hE : Ext w W) => objects54 (ha2.keep hE) wf2 (hs.kept hE hp))
  have lv := live_valid wf1 so1
  have ov := oops_valid wf2
  have ol1 := reach_le wf1
  have ol2 := reach_le wf2
  have LN1 := Lib.hid (live_nodup wf1 so1)
  have LN2 := Lib.hid (oops_nodup so2)
  have hl1 : (liveOf h1 os1).length ≤ 1048576 := by omega
  have hl2 : (oopsOf os2).length ≤ 1048576 := by rw [oopsOf_length]; omega
  have SE1 := Lib.hid (fun W (hE : Ext w W) v base hr => serials55 (ha1.keep hE) wf1 (hs.kept hE hp) v (liveOf h1 os1) base hr lv.2.1 LN1.out hl1)
  have SE2 := Lib.hid (fun W (hE : Ext w W) v base hr => serials55 (ha2.keep hE) wf2 (hs.kept hE hp) v (oopsOf os2) base hr ov LN2.out hl2)
  have SR1 : Hid (∀ W, Ext w W → ∀ k : Nat, k < (liveOf h1 os1).length → Calls Tryz.prog 56 #[.pointer (some ⟨L1.b, 0, none⟩), .int .u32 (wd (liveOf h1 os1) k)] W fun e w' => e = .returned (.int .i64 (serO h1.words (wd (liveOf h1 os1) k))) ∧ Ext W w') := by
    intro W hE k hk
    have hx := lv.2.1 _ (wd_mem hk)
    exact serial56 (ha1.keep hE) wf1 (hs.kept hE hp) _ hx.2.1 hx.2.2 hx.1
  have SR2 : Hid (∀ W, Ext w W → ∀ k : Nat, k < (oopsOf os2).length → Calls Tryz.prog 56 #[.pointer (some ⟨L2.b, 0, none⟩), .int .u32 (wd (oopsOf os2) k)] W fun e w' => e = .returned (.int .i64 (serO h2.words (wd (oopsOf os2) k))) ∧ Ext W w') := by
    intro W hE k hk
    have hx := ov _ (wd_mem hk)
    exact serial56 (ha2.keep hE) wf2 (hs.kept hE hp) _ hx.2.1 hx.2.2 hx.1
  have HA1 := Lib.hid ha1
  have HA2 := Lib.hid ha2
  have HW1 := Lib.hid wf1
  have HW2 := Lib.hid wf2
  have HSO1 := Lib.hid so1
  have HSO2 := Lib.hid so2
  have HS := Lib.hid hs
  have OV := Lib.hid ov
  have LLC : Hid ((osC h1 os1).length = (liveOf h1 os1).length) := by
    have := congrArg List.length (serC wf1 so1)
    show List.length _ = _
    simpa using this
  rw [HF.out]
  clear ha1 ha2 wf1 wf2 so1 so2 hs hq1 hq2 HF lv ov ol1 ol2
  obtain ⟨LV, hLV⟩ : ∃ l, l = liveOf h1 os1 := ⟨_, rfl⟩
  obtain ⟨LF, hLF⟩ : ∃ l, l = oopsOf os2 := ⟨_, rfl⟩
  rw [← hLV] at hl1 LIV SE1 SR1 LN1 LLC ⊢
  rw [← hLF] at hl2 OBJ SE2 SR2 LN2 OV ⊢
  clear hLV hLF
  obtain ⟨r, hr⟩ : ∃ r, r = cF1 11 h1.words LV h2.words LF (cF1 12 h2.words LF h1.words LV (cF3 h1.words LV h2.words LF (cF4 (wordsC h1 os1) (oopsOf (osC h1 os1)) h2.words LF (cF5 (rootsC h1 os1) h2.roots)))) := ⟨_, rfl⟩
  rw [← hr]
  have HR10 := Lib.hid hr
  clear hr
  go_enter Tryz.func15, Tryz.ntmps15
  go_wp2_with fail
  refine (SZ1.out _ ((Ext.refl _).alloc _)).mono ?_
  rintro e w' ⟨rfl, rfl⟩
  go_wp2_with fail
  refine (SZ2.out _ ((Ext.refl _).alloc _)).mono ?_
  rintro e w' ⟨rfl, rfl⟩
  go_wp2_with fail
  refine (LS1.out _ ((Ext.refl _).alloc _)).mono ?_
  rintro e w' ⟨rfl, rfl⟩
  go_wp2_with fail
  refine (LS2.out _ ((Ext.refl _).alloc _)).mono ?_
  rintro e w' ⟨rfl, rfl⟩
  go_wp2_with fail
  refine (LIV.out _ ((Ext.refl _).alloc _)).mono ?_
  rintro e wa ⟨v1, rfl, hr1, hba⟩
  obtain ⟨ad1, c1, rfl, hd1⟩ := own_any hr1
  have R1 := Lib.hid hr1
  have D1 := Lib.hid hd1
  have BA := Lib.hid hba
  clear hr1 hd1 hba
  go_wp2_with fail
  refine (OBJ.out _ (((Ext.refl _).alloc _).trans BA.out)).mono ?_
  rintro e wb ⟨v2, rfl, hr2, hbb⟩
  obtain ⟨ad2, c2, rfl, hd2⟩ := own_any hr2
  have R2 := Lib.hid hr2
  have D2 := Lib.hid hd2
  have BB := Lib.hid hbb
  clear hr2 hd2 hbb
  go_wp2_with fail
  refine (SE1.out _ ((((Ext.refl _).alloc _).trans BA.out).trans BB.out) _ _ (row_keep R1.out BB.out)).mono ?_
  rintro e wc ⟨m1, rfl, hmb1, hmp1, hbc⟩
  have P1 := Lib.hid hmp1
  have BC := Lib.hid hbc
  have MB1 := Lib.hid hmb1
  clear hmp1 hbc hmb1
  go_wp2_with fail
  refine (SE2.out _ (((((Ext.refl _).alloc _).trans BA.out).trans BB.out).trans BC.out) _ _ (row_keep R2.out BC.out)).mono ?_
  rintro e wx ⟨m2, rfl, hmb2, hmp2, hbd⟩
  have EX : Hid (Ext w wx) := (((((Ext.refl _).alloc _).trans BA.out).trans BB.out).trans BC.out).trans hbd
  have RB : Hid (wx.heap[w.heap.size]? = some (.cells #[.int .i64 0, .int .i64 0] 51)) := (((BA.out.trans BB.out).trans BC.out).trans hbd).keep (newB _ _ _ rfl)
  have RX1 : Hid (wx.ownsRow w.heap.size 41 1 (.slice ad1 LV.length c1) LV.length (u32s LV)) := row_mono (row_keep R1.out ((BB.out.trans BC.out).trans hbd)) (by simp)
  have RX2 : Hid (wx.ownsRow w.heap.size 41 1 (.slice ad2 LF.length c2) LF.length (u32s LF)) := row_mono (row_keep R2.out (BC.out.trans hbd)) (by have := BA.out.size; simp at this; omega)
  have PX1 := Lib.hid (P1.out.keep hbd)
  have PX2 := Lib.hid hmp2
  clear hmp2 hbd hmb2 R1 R2 BA BB BC P1 MB1
  obtain ⟨rb, hrb⟩ : ∃ n, n = w.heap.size := ⟨_, rfl⟩
  rw [← hrb] at RB ⊢
  have hrb1 : w.heap.size ≤ rb := by omega
  clear hrb
  have AX1 : Hid (0 < LV.length → ∃ g, ad1 = some ⟨g, 0, none⟩) := fun h => by obtain ⟨g, hg, _⟩ := D1.out h; exact ⟨g, hg⟩
  have AX2 : Hid (0 < LF.length → ∃ g, ad2 = some ⟨g, 0, none⟩) := fun h => by obtain ⟨g, hg, _⟩ := D2.out h; exact ⟨g, hg⟩
  clear D1 D2
  go_wp2
  go_loopw [47] (fun i wr => ∃ (k : Nat), k ≤ LV.length ∧ i = .int .i64 k ∧ Ext wx wr ∧ NoneTo (pC h1.words LV h2.words LF) k) (fun i _ => LV.length - (intOf i).toNat)
  case atStart => exact ⟨0, by omega, rfl, Ext.refl _, NoneTo.zero _⟩
  case round =>
    obtain ⟨k, hk, rfl, hE, hN⟩ := hrel
    have E := Lib.hid hE
    have N := Lib.hid hN
    have EW := Lib.hid (EX.out.trans hE)
    clear hE hN
    by_cases hlt : k < LV.length
    · obtain ⟨g, rfl⟩ := AX1.out (by omega)
      have cx : wr.cell? ⟨g, k, none⟩ = some (.int .u32 (wd LV k)) := by
        rw [row_cell (row_keep RX1.out E.out) k hlt]; simp [u32s, wd, hlt]
      have SRk := Lib.hid (SR1.out wr EW.out k hlt)
      have LK : Hid (∀ W, Ext wr W → (Instr.lookup 127 (.map (some m2)) (.int .i64 (serO h1.words (wd LV k))) false).run Tryz.prog W = .ok (.int .i64 (if (LF.map (serO h2.words)).contains (serO h1.words (wd LV k)) then 1 else 0)) W) := fun W hE => look127 (PX2.out.keep (E.out.trans hE)) _
      have hki : (k : Int) < (LV.length : Int) := by omega
      cases hc : (LF.map (serO h2.words)).contains (serO h1.words (wd LV k)) with
      | true =>
        have NK : Hid (NoneTo (pC h1.words LV h2.words LF) (k + 1)) := N.out.succ (by unfold pC; rw [hc]; rfl)
        rw [hc] at LK
        simp only [if_true] at LK
        clear hc
        generalize wd LV k = x at *
        generalize serO h1.words x = s at *
        go_wp2_with (go_at_call 56; refine SRk.out.mono ?_; rintro e w2 ⟨rfl, hb2⟩; have B2 := Lib.hid hb2; have hlk := LK.out _ hb2; clear hb2)
        go_roundw
        case rel => exact ⟨k + 1, by omega, by go_num, E.out.trans B2.out, NK.out⟩
        case measure => simp [intOf]; omega
      | false =>
        have RK : Hid (r = (11, serO h1.words (wd LV k))) := HR10.out.trans (cF1_some _ hlt N.out (by unfold pC; rw [hc]; rfl))
        rw [hc] at LK
        simp only [Bool.false_eq_true, if_false] at LK
        clear hc
        generalize wd LV k = x at *
        generalize serO h1.words x = s at *
        go_wp2_with (go_at_call 56; refine SRk.out.mono ?_; rintro e w2 ⟨rfl, hb2⟩; have B2 := Lib.hid hb2; have hlk := LK.out _ hb2; obtain ⟨y1, y2⟩ := blk (hb2.keep (E.out.keep RB.out)); clear hb2)
        have RBk := (B2.out.keep (E.out.keep RB.out))
        have hZ := set2 (RBk) (.int .i64 11) (.int .i64 s)
        have XF : Ext w ((w2.setCell ⟨rb, 0, none⟩ (.int .i64 11)).setCell ⟨rb, 1, none⟩ (.int .i64 s)) := (Ext.setCell (EW.out.trans B2.out) (p := ⟨rb, 0, none⟩) hrb1 _).setCell (p := ⟨rb, 1, none⟩) hrb1 _
        generalize (w2.setCell ⟨rb, 0, none⟩ (.int .i64 11)).setCell ⟨rb, 1, none⟩ (.int .i64 s) = Z at *
        obtain ⟨z1, z2⟩ := blk hZ
        refine bodyPost_ret (v := .agg #[.int .i64 11, .int .i64 s]) (by simp [results, Tryz.results15, go_sem, z1]) rfl ⟨by rw [RK.out], XF⟩

    · obtain rfl : k = LV.length := by omega
      have HR11 := Lib.hid (HR10.out.trans (cF1_none _ N.out))
      have N11 := Lib.hid N.out
      obtain ⟨wx11, hwxe⟩ : ∃ z, z = wr := ⟨_, rfl⟩
      subst hwxe
      have E11 := Lib.hid E.out
      go_wp2
      go_loopw [63] (fun i wr => ∃ (k : Nat), k ≤ LF.length ∧ i = .int .i64 k ∧ Ext wx wr ∧ NoneTo (pC h2.words LF h1.words LV) k) (fun i _ => LF.length - (intOf i).toNat)
      case atStart => exact ⟨0, by omega, rfl, E11.out, NoneTo.zero _⟩
      case round =>
        obtain ⟨k, hk, rfl, hE, hN⟩ := hrel
        have E := Lib.hid hE
        have N := Lib.hid hN
        have EW := Lib.hid (EX.out.trans hE)
        clear hE hN
        by_cases hlt : k < LF.length
        · obtain ⟨g, rfl⟩ := AX2.out (by omega)
          have cx : wr.cell? ⟨g, k, none⟩ = some (.int .u32 (wd LF k)) := by
            rw [row_cell (row_keep RX2.out E.out) k hlt]; simp [u32s, wd, hlt]
          have SRk := Lib.hid (SR2.out wr EW.out k hlt)
          have LK : Hid (∀ W, Ext wr W → (Instr.lookup 127 (.map (some m1)) (.int .i64 (serO h2.words (wd LF k))) false).run Tryz.prog W = .ok (.int .i64 (if (LV.map (serO h1.words)).contains (serO h2.words (wd LF k)) then 1 else 0)) W) := fun W hE => look127 (PX1.out.keep (E.out.trans hE)) _
          have hki : (k : Int) < (LF.length : Int) := by omega
          cases hc : (LV.map (serO h1.words)).contains (serO h2.words (wd LF k)) with
          | true =>
            have NK : Hid (NoneTo (pC h2.words LF h1.words LV) (k + 1)) := N.out.succ (by unfold pC; rw [hc]; rfl)
            rw [hc] at LK
            simp only [if_true] at LK
            clear hc
            generalize wd LF k = x at *
            generalize serO h2.words x = s at *
            go_wp2_with (go_at_call 56; refine SRk.out.mono ?_; rintro e w2 ⟨rfl, hb2⟩; have B2 := Lib.hid hb2; have hlk := LK.out _ hb2; clear hb2)
            go_roundw
            case rel => exact ⟨k + 1, by omega, by go_num, E.out.trans B2.out, NK.out⟩
            case measure => simp [intOf]; omega
          | false =>
            have RK : Hid (r = (12, serO h2.words (wd LF k))) := HR11.out.trans (cF1_some _ hlt N.out (by unfold pC; rw [hc]; rfl))
            rw [hc] at LK
            simp only [Bool.false_eq_true, if_false] at LK
            clear hc
            generalize wd LF k = x at *
            generalize serO h2.words x = s at *
            go_wp2_with (go_at_call 56; refine SRk.out.mono ?_; rintro e w2 ⟨rfl, hb2⟩; have B2 := Lib.hid hb2; have hlk := LK.out _ hb2; obtain ⟨y1, y2⟩ := blk (hb2.keep (E.out.keep RB.out)); clear hb2)
            have RBk := (B2.out.keep (E.out.keep RB.out))
            have hZ := set2 (RBk) (.int .i64 12) (.int .i64 s)
            have XF : Ext w ((w2.setCell ⟨rb, 0, none⟩ (.int .i64 12)).setCell ⟨rb, 1, none⟩ (.int .i64 s)) := (Ext.setCell (EW.out.trans B2.out) (p := ⟨rb, 0, none⟩) hrb1 _).setCell (p := ⟨rb, 1, none⟩) hrb1 _
            generalize (w2.setCell ⟨rb, 0, none⟩ (.int .i64 12)).setCell ⟨rb, 1, none⟩ (.int .i64 s) = Z at *
            obtain ⟨z1, z2⟩ := blk hZ
            refine bodyPost_ret (v := .agg #[.int .i64 12, .int .i64 s]) (by simp [results, Tryz.results15, go_sem, z1]) rfl ⟨by rw [RK.out], XF⟩

        · obtain rfl : k = LF.length := by omega
          have HR12 := Lib.hid (HR11.out.trans (cF1_none _ N.out))
          have N12 := Lib.hid N.out
          obtain ⟨wx12, hwxe⟩ : ∃ z, z = wr := ⟨_, rfl⟩
          subst hwxe
          have E12 := Lib.hid E.out
          have hll : LF.length ≤ LV.length := len_of_all LN2.out N12.out
          go_wp2
          go_loopw [79] (fun i wr => ∃ (k : Nat), k ≤ LF.length ∧ i = .int .i64 k ∧ Ext wx wr ∧ NoneTo (pO h1.words LV h2.words LF) k) (fun i _ => LF.length - (intOf i).toNat)
          case atStart => exact ⟨0, by omega, rfl, E12.out, NoneTo.zero _⟩
          case round =>
            obtain ⟨k, hk, rfl, hE, hN⟩ := hrel
            have E := Lib.hid hE
            have N := Lib.hid hN
            have EW := Lib.hid (EX.out.trans hE)
            clear hE hN
            by_cases hlt : k < LF.length
            · have hlt1 : k < LV.length := by omega
              obtain ⟨g, rfl⟩ := AX2.out (by omega)
              obtain ⟨g1, rfl⟩ := AX1.out (by omega)
              have cx : wr.cell? ⟨g, k, none⟩ = some (.int .u32 (wd LF k)) := by
                rw [row_cell (row_keep RX2.out E.out) k hlt]; simp [u32s, wd, hlt]
              have CX1 : Hid (∀ W, Ext wr W → W.cell? ⟨g1, k, none⟩ = some (.int .u32 (wd LV k))) := by
                intro W hE
                rw [row_cell (row_keep RX1.out (E.out.trans hE)) k hlt1]; simp [u32s, wd, hlt1]
              have SRk := Lib.hid (SR2.out wr EW.out k hlt)
              have SRj := Lib.hid (fun W (hE : Ext wr W) => SR1.out W (EW.out.trans hE) k hlt1)
              have hki : (k : Int) < (LF.length : Int) := by omega
              have hki1 : (k : Int) < (LV.length : Int) := by omega
              have ep : pO h1.words LV h2.words LF k = (serO h2.words (wd LF k) != serO h1.words (wd LV k)) := rfl
              cases hc : pO h1.words LV h2.words LF k with
              | false =>
                have NK := Lib.hid (N.out.succ hc)
                rw [hc] at ep
                clear hc
                generalize wd LF k = x at *
                generalize wd LV k = y at *
                generalize serO h2.words x = s at *
                generalize serO h1.words y = t at *
                have hst : (s != t) = false := ep.symm
                clear ep
                go_wp2_with fail
                refine SRk.out.mono ?_
                rintro e w2 ⟨rfl, hb2⟩
                have B2 := Lib.hid hb2
                have cx1 := CX1.out _ hb2
                clear hb2
                go_wp2_with fail
                refine (SRj.out _ B2.out).mono ?_
                rintro e w3 ⟨rfl, hb3⟩
                have B3 := Lib.hid (B2.out.trans hb3)
                clear hb3
                go_wp2
                go_roundw
                case rel => exact ⟨k + 1, by omega, by go_num, E.out.trans B3.out, NK.out⟩
                case measure => simp [intOf]; omega
              | true =>
                have RK : Hid (r = (13, serO h2.words (wd LF k))) := HR12.out.trans (cF3_some _ hlt N.out hc)
                rw [hc] at ep
                clear hc
                generalize wd LF k = x at *
                generalize wd LV k = y at *
                generalize serO h2.words x = s at *
                generalize serO h1.words y = t at *
                have hst : (s != t) = true := ep.symm
                clear ep
                go_wp2_with fail
                refine SRk.out.mono ?_
                rintro e w2 ⟨rfl, hb2⟩
                have B2 := Lib.hid hb2
                have cx1 := CX1.out _ hb2
                clear hb2
                go_wp2_with fail
                refine (SRj.out _ B2.out).mono ?_
                rintro e w3 ⟨rfl, hb3⟩
                have B3 := Lib.hid (B2.out.trans hb3)
                obtain ⟨y1, y2⟩ := blk (B3.out.keep (E.out.keep RB.out))
                clear hb3
                go_wp2
                have RBk := (B3.out.keep (E.out.keep RB.out))
                have hZ := set2 (RBk) (.int .i64 13) (.int .i64 s)
                have XF : Ext w ((w3.setCell ⟨rb, 0, none⟩ (.int .i64 13)).setCell ⟨rb, 1, none⟩ (.int .i64 s)) := (Ext.setCell (EW.out.trans B3.out) (p := ⟨rb, 0, none⟩) hrb1 _).setCell (p := ⟨rb, 1, none⟩) hrb1 _
                generalize (w3.setCell ⟨rb, 0, none⟩ (.int .i64 13)).setCell ⟨rb, 1, none⟩ (.int .i64 s) = Z at *
                obtain ⟨z1, z2⟩ := blk hZ
                refine bodyPost_ret (v := .agg #[.int .i64 13, .int .i64 s]) (by simp [results, Tryz.results15, go_sem, z1]) rfl ⟨by rw [RK.out], XF⟩

            · obtain rfl : k = LF.length := by omega
              have HR13 := Lib.hid (HR12.out.trans (cF3_none _ N.out))
              obtain ⟨wx13, hwxe⟩ : ∃ z, z = wr := ⟨_, rfl⟩
              subst hwxe
              have E13 := Lib.hid E.out
              clear hll
              have CL : Hid (Calls Tryz.prog 19 #[.pointer (some ⟨L1.b, 0, none⟩)] wx13 _) := Clone_ok (HA1.out.keep (EX.out.trans E13.out)) HW1.out
              go_wp2_with fail
              refine CL.out.mono ?_
              rintro e we ⟨LK, rfl, hAk, hbe, hfr⟩
              have AK := Lib.hid hAk
              have BE := Lib.hid hbe
              have hpe : 0 < we.heap.size := by have := (EX.out.trans (E13.out.trans hbe)).size; omega
              have COL := Lib.hid (Collect_ok hAk HW1.out HSO1.out (HS.out.kept (EX.out.trans (E13.out.trans hbe)) hp))
              clear hAk hbe CL
              go_wp2_with fail
              refine COL.out.mono ?_
              rintro e wf ⟨⟨vv, rfl⟩, LC, hLC, hAc, hmf, _⟩
              have BF := Lib.hid (Mod.ext_of_new BE.out hmf (by have := hfr.1; omega))
              have AC := Lib.hid hAc
              rw [← hLC]
              clear hAc hmf COL hLC
              have CWF := Lib.hid (collect_wf HW1.out HSO1.out)
              have CSO := Lib.hid (collect_sound HW1.out HSO1.out)
              have OVC := Lib.hid (oops_valid CWF.out)
              have OB2 := Lib.hid (objects54 AC.out CWF.out (HS.out.kept (EX.out.trans (E13.out.trans BF.out)) hp))
              go_wp2_with fail
              refine OB2.out.mono ?_
              rintro e wy ⟨v3, rfl, hr3, hby⟩
              obtain ⟨ad3, c3, rfl, hd3⟩ := own_any hr3
              have RX3 := Lib.hid hr3
              have AX3 : Hid (0 < (oopsOf (osC h1 os1)).length → ∃ g, ad3 = some ⟨g, 0, none⟩) := fun h => by obtain ⟨g, hg, _⟩ := hd3 h; exact ⟨g, hg⟩
              have EY := Lib.hid (EX.out.trans ((E13.out.trans BF.out).trans hby))
              have AWT := Lib.hid (AC.out.keep hby)
              have RBY := Lib.hid (((E13.out.trans BF.out).trans hby).keep RB.out)
              have RY2 := Lib.hid (row_keep RX2.out ((E13.out.trans BF.out).trans hby))
              have hlo : (oopsOf (osC h1 os1)).length = LV.length := by rw [oopsOf_length, LLC.out]
              have hlo2 : LV.length ≤ LF.length := len_of_all LN1.out N11.out
              have hlo3 : (oopsOf (osC h1 os1)).length ≤ LF.length := by omega
              have hlo4 : (oopsOf (osC h1 os1)).length ≤ 1048576 := by omega
              clear hr3 hd3 hby hlo hlo2 OB2 AC AK BE BF
              go_wp2
              go_loopw [105] (fun i wr => ∃ (k : Nat), k ≤ (oopsOf (osC h1 os1)).length ∧ i = .int .i64 k ∧ Ext wy wr ∧ NoneTo (pA (wordsC h1 os1) (oopsOf (osC h1 os1)) h2.words LF) k) (fun i _ => (oopsOf (osC h1 os1)).length - (intOf i).toNat)
              case atStart => exact ⟨0, by omega, rfl, Ext.refl _, NoneTo.zero _⟩
              case round =>
                obtain ⟨k, hk, rfl, hE, hN⟩ := hrel
                have E := Lib.hid hE
                have N := Lib.hid hN
                have EW := Lib.hid (EY.out.trans hE)
                clear hE hN
                by_cases hlt : k < (oopsOf (osC h1 os1)).length
                · obtain ⟨g, rfl⟩ := AX3.out (by omega)
                  obtain ⟨g2, rfl⟩ := AX2.out (by omega)
                  have hlt2 : k < LF.length := by omega
                  have cx : wr.cell? ⟨g, k, none⟩ = some (.int .u32 (wd (oopsOf (osC h1 os1)) k)) := by
                    rw [row_cell (row_keep RX3.out E.out) k hlt]; simp [u32s, wd, hlt]
                  have cx2 : wr.cell? ⟨g2, k, none⟩ = some (.int .u32 (wd LF k)) := by
                    rw [row_cell (row_keep RY2.out E.out) k hlt2]; simp [u32s, wd, hlt2]
                  have v1 := OVC.out _ (wd_mem hlt)
                  have v2 := OV.out _ (wd_mem hlt2)
                  have ALK : Hid (Calls Tryz.prog 57 #[.pointer (some ⟨LC.b, 0, none⟩), .int .u32 (wd (oopsOf (osC h1 os1)) k), .pointer (some ⟨L2.b, 0, none⟩), .int .u32 (wd LF k)] wr fun e w' => e = .returned (.bool (alikeB (wordsC h1 os1) (wd (oopsOf (osC h1 os1)) k / 2).toNat h2.words (wd LF k / 2).toNat)) ∧ Ext wr w') := alike57 (AWT.out.keep E.out) CWF.out CSO.out (HA2.out.keep EW.out) HW2.out HSO2.out (HS.out.kept EW.out hp) _ _ v1.2.1 v1.2.2 v1.1 v2.2.1 v2.2.2 v2.1
                  have SRk := Lib.hid (fun W (hE : Ext wr W) => SR2.out W (EW.out.trans hE) k hlt2)
                  have hki : (k : Int) < ((oopsOf (osC h1 os1)).length : Int) := by omega
                  have hki2 : (k : Int) < (LF.length : Int) := by omega
                  have ep : pA (wordsC h1 os1) (oopsOf (osC h1 os1)) h2.words LF k = !alikeB (wordsC h1 os1) (wd (oopsOf (osC h1 os1)) k / 2).toNat h2.words (wd LF k / 2).toNat := rfl
                  clear v1 v2
                  cases hc : pA (wordsC h1 os1) (oopsOf (osC h1 os1)) h2.words LF k with
                  | false =>
                    have NK := Lib.hid (N.out.succ hc)
                    have he : alikeB (wordsC h1 os1) (wd (oopsOf (osC h1 os1)) k / 2).toNat h2.words (wd LF k / 2).toNat = true := by rw [hc] at ep; simpa using ep.symm
                    rw [he] at ALK
                    clear hc ep he
                    generalize wd (oopsOf (osC h1 os1)) k = x at *
                    generalize wd LF k = y at *
                    go_wp2_with (go_at_call 57; refine ALK.out.mono ?_; rintro e w2 ⟨rfl, hb2⟩; have B2 := Lib.hid hb2; clear hb2)
                    go_roundw
                    case rel => exact ⟨k + 1, by omega, by go_num, E.out.trans B2.out, NK.out⟩
                    case measure => simp [intOf]; omega
                  | true =>
                    have RK : Hid (r = (14, serO h2.words (wd LF k))) := HR13.out.trans (cF4_some _ hlt N.out hc)
                    have he : alikeB (wordsC h1 os1) (wd (oopsOf (osC h1 os1)) k / 2).toNat h2.words (wd LF k / 2).toNat = false := by rw [hc] at ep; simpa using ep.symm
                    rw [he] at ALK
                    clear hc ep he
                    generalize wd (oopsOf (osC h1 os1)) k = x at *
                    generalize wd LF k = y at *
                    generalize serO h2.words y = s at *
                    go_wp2_with fail
                    refine ALK.out.mono ?_
                    rintro e w2 ⟨rfl, hb2⟩
                    have B2 := Lib.hid hb2
                    have cx3 : w2.cell? ⟨g2, k, none⟩ = some (.int .u32 y) := by
                      have hg2 := (RY2.out.lt g2 rfl).2
                      have := E.out.size
                      rw [hb2.cell (p := ⟨g2, k, none⟩) (by show g2 < _; omega)]; exact cx2
                    clear hb2
                    go_wp2_with fail
                    refine (SRk.out _ B2.out).mono ?_
                    rintro e w3 ⟨rfl, hb3⟩
                    have B3 := Lib.hid (B2.out.trans hb3)
                    obtain ⟨y1, y2⟩ := blk (B3.out.keep (E.out.keep RBY.out))
                    clear hb3
                    go_wp2
                    have RBk := (B3.out.keep (E.out.keep RBY.out))
                    have hZ := set2 (RBk) (.int .i64 14) (.int .i64 s)
                    have XF : Ext w ((w3.setCell ⟨rb, 0, none⟩ (.int .i64 14)).setCell ⟨rb, 1, none⟩ (.int .i64 s)) := (Ext.setCell (EW.out.trans B3.out) (p := ⟨rb, 0, none⟩) hrb1 _).setCell (p := ⟨rb, 1, none⟩) hrb1 _
                    generalize (w3.setCell ⟨rb, 0, none⟩ (.int .i64 14)).setCell ⟨rb, 1, none⟩ (.int .i64 s) = Z at *
                    obtain ⟨z1, z2⟩ := blk hZ
                    refine bodyPost_ret (v := .agg #[.int .i64 14, .int .i64 s]) (by simp [results, Tryz.results15, go_sem, z1]) rfl ⟨by rw [RK.out], XF⟩

                · obtain rfl : k = (oopsOf (osC h1 os1)).length := by omega
                  have HR14 := Lib.hid (HR13.out.trans (cF4_none _ N.out))
                  obtain ⟨wx14, hwxe⟩ : ∃ z, z = wr := ⟨_, rfl⟩
                  subst hwxe
                  have E14 := Lib.hid E.out
                  go_wp2
                  go_loopw [127] (fun i wr => ∃ (k : Nat), k ≤ 64 ∧ i = .int .i64 k ∧ Ext wy wr ∧ NoneTo (pR (rootsC h1 os1) h2.roots) k) (fun i _ => 64 - (intOf i).toNat)
                  case atStart => exact ⟨0, by omega, rfl, E14.out, NoneTo.zero _⟩
                  case round =>
                    obtain ⟨k, hk, rfl, hE, hN⟩ := hrel
                    have E := Lib.hid hE
                    have N := Lib.hid hN
                    have EW := Lib.hid (EY.out.trans hE)
                    clear hE hN
                    by_cases hlt : k < 64
                    · have T1 := Lib.hid (root58 (AWT.out.keep E.out) CWF.out (k : Int) (by omega) (by omega))
                      have T2 := Lib.hid (root58 (HA2.out.keep EW.out) HW2.out (k : Int) (by omega) (by omega))
                      simp only [Int.toNat_natCast] at T1 T2
                      have ep : pR (rootsC h1 os1) h2.roots k = (wd (rootsC h1 os1) k != wd h2.roots k) := rfl
                      have T1' : Hid (Calls Tryz.prog 58 #[.pointer (some ⟨LC.b, 0, none⟩), .int .i64 k] wr fun e w' => e = .returned (.int .u32 (wd (rootsC h1 os1) k)) ∧ wr = w') := T1.out
                      clear T1
                      cases hc : pR (rootsC h1 os1) h2.roots k with
                      | false =>
                        have NK := Lib.hid (N.out.succ hc)
                        rw [hc] at ep
                        clear hc
                        generalize wd (rootsC h1 os1) k = x at *
                        generalize wd h2.roots k = y at *
                        have hxy : (x != y) = false := ep.symm
                        clear ep
                        go_wp2_with fail
                        refine T1'.out.mono ?_
                        rintro e w' ⟨rfl, rfl⟩
                        go_wp2_with fail
                        refine T2.out.mono ?_
                        rintro e w' ⟨rfl, rfl⟩
                        go_wp2
                        go_roundw
                        case rel => exact ⟨k + 1, by omega, by go_num, E.out, NK.out⟩
                        case measure => simp [intOf]; omega
                      | true =>
                        have RK : Hid (r = (15, (k : Int))) := HR14.out.trans (cF5_some hlt N.out hc)
                        rw [hc] at ep
                        clear hc
                        generalize wd (rootsC h1 os1) k = x at *
                        generalize wd h2.roots k = y at *
                        have hxy : (x != y) = true := ep.symm
                        clear ep
                        obtain ⟨y1, y2⟩ := blk (E.out.keep RBY.out)
                        go_wp2_with fail
                        refine T1'.out.mono ?_
                        rintro e w' ⟨rfl, rfl⟩
                        go_wp2_with fail
                        refine T2.out.mono ?_
                        rintro e w' ⟨rfl, rfl⟩
                        go_wp2
                        have RBk := E.out.keep RBY.out
                        have hZ := set2 (RBk) (.int .i64 15) (.int .i64 (k : Int))
                        have XF : Ext w ((wr.setCell ⟨rb, 0, none⟩ (.int .i64 15)).setCell ⟨rb, 1, none⟩ (.int .i64 (k : Int))) := (Ext.setCell (EW.out) (p := ⟨rb, 0, none⟩) hrb1 _).setCell (p := ⟨rb, 1, none⟩) hrb1 _
                        generalize (wr.setCell ⟨rb, 0, none⟩ (.int .i64 15)).setCell ⟨rb, 1, none⟩ (.int .i64 (k : Int)) = Z at *
                        obtain ⟨z1, z2⟩ := blk hZ
                        refine bodyPost_ret (v := .agg #[.int .i64 15, .int .i64 (k : Int)]) (by simp [results, Tryz.results15, go_sem, z1]) rfl ⟨by rw [RK.out], XF⟩

                    · obtain rfl : k = 64 := by omega
                      have RK : Hid (r = (0, 0)) := HR14.out.trans (cF5_none N.out)
                      obtain ⟨y1, y2⟩ := blk (E.out.keep RBY.out)
                      go_wp2
                      have RBk := E.out.keep RBY.out
                      have hZ := set2 (RBk) (.int .i64 0) (.int .i64 0)
                      have XF : Ext w ((wr.setCell ⟨rb, 0, none⟩ (.int .i64 0)).setCell ⟨rb, 1, none⟩ (.int .i64 0)) := (Ext.setCell (EW.out) (p := ⟨rb, 0, none⟩) hrb1 _).setCell (p := ⟨rb, 1, none⟩) hrb1 _
                      generalize (wr.setCell ⟨rb, 0, none⟩ (.int .i64 0)).setCell ⟨rb, 1, none⟩ (.int .i64 0) = Z at *
                      obtain ⟨z1, z2⟩ := blk hZ
                      refine bodyPost_ret (v := .agg #[.int .i64 0, .int .i64 0]) (by simp [results, Tryz.results15, go_sem, z1]) rfl ⟨by rw [RK.out], XF⟩






theorem Collection_ok (ha1 : HeapAt w L1 h1) (wf1 : WF h1 os1) (so1 : Sound h1 os1) (ha2 : HeapAt w L2 h2) (wf2 : WF h2 os2) (so2 : Sound h2 os2) (hs : Spares w) :
    Calls Tryz.prog 15 #[.pointer (some ⟨L1.b, 0, none⟩), .pointer (some ⟨L2.b, 0, none⟩)] w (FindR w (collF h1 os1 h2 os2)) := by
  by_cases hq1 : h1.size = h2.size
  · by_cases hq2 : h1.last = h2.last
    · exact Collection_main ha1 wf1 so1 ha2 wf2 so2 hs hq1 hq2
    · exact Collection_last ha1 wf1 so1 ha2 wf2 so2 hs hq1 hq2
  · exact Collection_size ha1 wf1 so1 ha2 wf2 so2 hs hq1

end
end Go.Proofs.Eff

/- Nothing is found between a heap and what a collection makes of it; the heap of awake. -/
namespace Go.Proofs.Eff
open Go.RowKit

theorem serC' {h : HeapS} {os : List Nat} (wf : WF h os) (hso : Sound h os) : (oopsOf (osC h os)).map (serO (wordsC h os)) = (liveOf h os).map (serO h.words) := by
  rw [serO_oops]; exact serC wf hso
theorem wd_map {l : List Int} (f : Int → Int) {j : Nat} (hj : j < l.length) : wd (l.map f) j = f (wd l j) := by simp [wd, hj]
/-- Between a heap and its collection nothing is found. -/
theorem coll_self {h : HeapS} {os : List Nat} (wf : WF h os) (hso : Sound h os) : collF h os (collectH h os) (osC h os) = (0, 0) := by
  have hs := serC' wf hso
  have hlen : (oopsOf (osC h os)).length = (liveOf h os).length := by have := congrArg List.length hs; simpa using this
  unfold collF
  rw [if_pos ⟨rfl, rfl⟩]
  show cF1 11 h.words (liveOf h os) (wordsC h os) (oopsOf (osC h os)) (cF1 12 (wordsC h os) (oopsOf (osC h os)) h.words (liveOf h os) (cF3 h.words (liveOf h os) (wordsC h os) (oopsOf (osC h os)) (cF4 (wordsC h os) (oopsOf (osC h os)) (wordsC h os) (oopsOf (osC h os)) (cF5 (rootsC h os) (rootsC h os))))) = _
  rw [cF1_none, cF1_none, cF3_none, cF4_none, cF5_none]
  · intro j _; simp [pR]
  · intro j _; simp [pA, alikeB]
  · intro j hj
    have h1 := congrArg (fun z => wd z j) hs
    simp only [wd_map _ hj, wd_map _ (hlen ▸ hj)] at h1
    simp [pO, h1]
  · intro j hj
    unfold pC
    rw [← hs]
    simp only [Bool.not_eq_false', List.contains_eq_mem, decide_eq_true_eq]
    exact List.mem_map.2 ⟨_, wd_mem hj, rfl⟩
  · intro j hj
    unfold pC
    rw [hs]
    simp only [Bool.not_eq_false', List.contains_eq_mem, decide_eq_true_eq]
    exact List.mem_map.2 ⟨_, wd_mem hj, rfl⟩

/-! ### The heap of awake -/
def awkA : HeapS := allocH (emptyH 64) ⟨1, 1, 0, 0, 0⟩
def awkB : HeapS := allocH awkA ⟨2, 3, 0, 0, 0⟩
def awkH : HeapS := { awkB with roots := awkB.roots.set 3 2 }
theorem awkA_wf : WF awkA [1] := allocH_wf (os := []) (emptyH_wf 64 (by omega) (by omega)) (by decide) (by decide) (by decide) (by decide) (by decide)
theorem awkB_wf : WF awkB [1, 5] := allocH_wf (os := [1]) awkA_wf (by decide) (by decide) (by decide) (by decide) (by decide)
theorem awkH_wf : WF awkH [1, 5] := ⟨awkB_wf.pos, awkB_wf.zero, awkB_wf.rng, awkB_wf.laid, awkB_wf.starts, by decide, by decide, awkB_wf.size0, awkB_wf.size1, awkB_wf.fits, awkB_wf.last0, awkB_wf.last1⟩
theorem awkH_sound : Sound awkH [1, 5] := (soundB_iff awkH_wf).1 (by decide)
theorem awk_live : liveOf awkH [1, 5] = [2] := by
  have : reach awkH.words 2 (awkH.roots.filter isObj) = [2] := by decide
  show (reach awkH.words 2 (awkH.roots.filter isObj)).mergeSort _ = _
  rw [this]; simp
theorem awk_dead : collF awkH [1, 5] awkH [1, 5] = (12, 2) := by
  unfold collF
  rw [if_pos ⟨rfl, rfl⟩, awk_live]
  have h1 : ∀ r, cF1 11 awkH.words [2] awkH.words (oopsOf [1, 5]) r = r := fun r => cF1_none r (by
    intro j hj
    obtain rfl : j = 0 := by simp at hj; exact hj
    decide)
  rw [h1]
  exact cF1_some (k := 1) _ (by decide) (by
    intro j hj
    obtain rfl : j = 0 := by omega
    decide) (by decide)

end Go.Proofs.Eff

/- The law's own check that it is awake, and what it needs. -/
namespace Go.Proofs.Eff
open Go.RowKit

def badTab (cap first : Int) : Bool := decide (cap < 1) || decide (256 < cap) || first == 0


set_option maxRecDepth 100000 in
set_option maxHeartbeats 1000000 in
theorem Handles_bad (cap first : Int) (v : Value) (w : World) (h : badTab cap first = true) :
    Calls Tryz.prog 17 #[.int .i64 cap, .int .u64 first, v] w (FindR w (10, 0)) := by
  unfold badTab at h
  by_cases h1 : cap < 1
  · have d1 : decide (cap < 1) = true := by simpa using h1
    clear h h1
    go_enter Tryz.func17, Tryz.ntmps17
    go_wp2
    refine bodyPost_ret (v := .agg #[.int .i64 10, .int .i64 0]) (by simp [results, Tryz.results17, go_sem]) rfl ⟨rfl, (Ext.refl _).alloc _⟩
  by_cases h2 : 256 < cap
  · have d1 : decide (cap < 1) = false := by simpa using h1
    have d2 : decide (256 < cap) = true := by simpa using h2
    clear h h1 h2
    go_enter Tryz.func17, Tryz.ntmps17
    go_wp2
    refine bodyPost_ret (v := .agg #[.int .i64 10, .int .i64 0]) (by simp [results, Tryz.results17, go_sem]) rfl ⟨rfl, (Ext.refl _).alloc _⟩
  have d1 : decide (cap < 1) = false := by simpa using h1
  have d2 : decide (256 < cap) = false := by simpa using h2
  have d3 : (first == 0) = true := by rw [d1, d2] at h; simpa using h
  clear h h1 h2
  go_enter Tryz.func17, Tryz.ntmps17
  go_wp2
  refine bodyPost_ret (v := .agg #[.int .i64 10, .int .i64 0]) (by simp [results, Tryz.results17, go_sem]) rfl ⟨rfl, (Ext.refl _).alloc _⟩

theorem Ext.of_mod {S : List Nat} {a w w' : World} (h : Ext a w) (k : Mod S w w') (hS : ∀ x, x ∈ S → a.heap.size ≤ x) : Ext a w' :=
  ⟨k.os.trans h.os, k.tape.trans h.tape, k.output.trans h.output, Nat.le_trans h.size k.size, fun i hi => (k.block i (Nat.lt_of_lt_of_le hi h.size) (fun hx => by have := hS i hx; omega)).trans (h.block hi)⟩

theorem stood51 : Tryz.prog.stoodInHeld 51 = false := by kernel_rfl
theorem under51 : Tryz.prog.underlying 51 = some (.struct (Tryz.prog.fieldsOf 51)) := by kernel_rfl
theorem names51 : (Tryz.prog.fieldsOf 51).toList.map (fun f => (f.name, f.type, f.offset)) = [("Kind", 49, 0), ("At", 3, 1)] := by kernel_rfl
theorem two_fields {fs : List Field} {a b : String × TypeId × Nat} (h : fs.map (fun f => (f.name, f.type, f.offset)) = [a, b]) : ∃ f0 f1, fs = [f0, f1] := by
  have hl := congrArg List.length h
  simp at hl
  rcases fs with _ | ⟨f0, _ | ⟨f1, _ | ⟨f2, fs⟩⟩⟩ <;> simp at hl
  exact ⟨_, _, rfl⟩
theorem run_equalIn51 (w : World) (a0 a1 b0 b1 : Int) : (Op.equalIn 10000 51 (.agg #[.int .i64 a0, .int .i64 a1]) (.agg #[.int .i64 b0, .int .i64 b1])).run Tryz.prog w = .ok (decide ((a0, a1) = (b0, b1))) w := by
  rw [run_equalIn_struct w 9999 51 _ _ under51 stood51]
  have hn := names51
  generalize (Tryz.prog.fieldsOf 51).toList = fs at hn
  obtain ⟨f0, f1, rfl⟩ := two_fields hn
  simp only [List.map_cons, List.map_nil, List.cons.injEq, Prod.mk.injEq, and_true] at hn
  obtain ⟨⟨n0, t0, o0⟩, n1, t1, o1⟩ := hn
  rw [eqFields_int _ w 9998 _ _ f0 _ .i64 .i64 a0 b0 (by rw [n0]; decide) (by rw [t0]; exact Tryz.underlying49) (by rw [o0]; rfl) (by rw [o0]; rfl),
    eqFields_int _ w 9998 _ _ f1 _ .i64 .i64 a1 b1 (by rw [n1]; decide) (by rw [t1]; exact Tryz.underlying3) (by rw [o1]; rfl) (by rw [o1]; rfl)]
  simp only [Op.eqFields, Sem.run_pure]
  by_cases h0 : a0 = b0 <;> by_cases h1 : a1 = b1 <;> simp [h0, h1]
theorem run_eql51 (w : World) (a0 a1 b0 b1 : Int) : (binOp .eql 51 (.agg #[.int .i64 a0, .int .i64 a1]) (.agg #[.int .i64 b0, .int .i64 b1])).run Tryz.prog w = .ok (.bool (decide ((a0, a1) = (b0, b1)))) w := by
  rw [run_eql_struct, run_equalIn51]; rfl
theorem run_neq51 (w : World) (a0 a1 b0 b1 : Int) : (binOp .neq 51 (.agg #[.int .i64 a0, .int .i64 a1]) (.agg #[.int .i64 b0, .int .i64 b1])).run Tryz.prog w = .ok (.bool (!decide ((a0, a1) = (b0, b1)))) w := by
  rw [run_neq_struct, run_equalIn51]; rfl

theorem num13 (n : Int) (w : World) : Calls Tryz.prog 13 #[.int .i64 n] w fun e w' => e = .returned (.int .i64 n) ∧ w = w' := by
  go_enter Tryz.func13, Tryz.ntmps13
  go_wp2
  go_ret
  exact ⟨rfl, rfl⟩
def HLoc.above (L : HLoc) (n : Nat) : Prop := ∀ x, x ∈ L.blocks → n ≤ x
theorem fresh_above {L : HLoc} {n : Nat} (h : L.fresh n) : L.above n := by
  intro x hx
  obtain ⟨h1, h2, h3, h4⟩ := h
  simp only [HLoc.blocks, List.mem_cons, List.not_mem_nil, or_false] at hx
  rcases hx with rfl | rfl | rfl | rfl <;> assumption
theorem above_zero {L : HLoc} {n : Nat} (h : L.above n) (hn : 0 < n) : ¬ 0 ∈ L.blocks := fun hx => by have := h 0 hx; omega

set_option maxRecDepth 100000 in
set_option maxHeartbeats 2000000 in
theorem awake9 {w : World} (hs : Spares w) : Calls Tryz.prog 9 #[] w fun e w' => e = .returned (.bool true) ∧ Ext w w' := by
  have hp := hs.pos
  have HS := Lib.hid hs
  have NEW := Lib.hid (New_ok 64 (by omega) (by omega) w)
  have e51 : ∀ w, (binOp .eql 51 (.agg #[.int .i64 0, .int .i64 0]) (.agg #[.int .i64 0, .int .i64 0])).run Tryz.prog w = .ok (.bool true) w := fun w => by rw [run_eql51]; rfl
  clear hs
  go_enter Tryz.func9, Tryz.ntmps9
  go_wp2_with fail
  refine NEW.out.mono ?_
  rintro e w1 ⟨L1, rfl, hA1, hE1, hf1⟩
  have A1 := Lib.hid hA1
  have E1 := Lib.hid hE1
  have F1 := Lib.hid (fresh_above hf1)
  have S1 := Lib.hid (HS.out.kept hE1 hp)
  clear hA1 hE1 hf1
  go_wp2_with fail
  refine (num13 _ _).mono ?_
  rintro e w' ⟨rfl, rfl⟩
  go_wp2_with fail
  have AL1 := Lib.hid (Alloc_ok A1.out (emptyH_wf 64 (by omega) (by omega)) S1.out 0 1 1 (by omega) (by omega) (by omega) (by omega) (by omega) (by omega) (by decide) (by decide) (by decide) (above_zero F1.out hp))
  refine AL1.out.mono ?_
  rintro e w2 ⟨rfl, L2, hb2, hA2, hM2, hf2⟩
  have A2 : Hid (HeapAt w2 L2 awkA) := hA2
  have E2 := Lib.hid (E1.out.of_mod hM2 F1.out)
  have F2 : Hid (L2.above w.heap.size) := fun x hx => by
    rcases hf2 x hx with h | h
    · exact F1.out x h
    · have := E1.out.size; omega
  have S2 := Lib.hid (HS.out.kept E2.out hp)
  have HB2 := Lib.hid hb2
  clear hA2 hM2 hf2 hb2 AL1 A1 S1
  go_wp2_with fail
  have AL2 := Lib.hid (Alloc_ok A2.out awkA_wf S2.out 0 3 2 (by omega) (by omega) (by omega) (by omega) (by omega) (by omega) (by decide) (by decide) (by decide) (above_zero F2.out hp))
  rw [HB2.out] at AL2
  refine AL2.out.mono ?_
  rintro e w3 ⟨rfl, L3, hb3, hA3, hM3, hf3⟩
  have A3 : Hid (HeapAt w3 L3 awkB) := hA3
  have E3 := Lib.hid (E2.out.of_mod hM3 F2.out)
  have F3 : Hid (L3.above w.heap.size) := fun x hx => by
    rcases hf3 x hx with h | h
    · exact F2.out x h
    · have := E2.out.size; omega
  have HB3 : Hid (L3.b = L1.b) := hb3.trans HB2.out
  clear hA3 hM3 hf3 hb3 AL2 A2 S2
  go_wp2_with fail
  have SR := Lib.hid (SetRoot_ok A3.out awkB_wf 3 2 (by omega) (by omega) (by omega) (by omega) (by decide))
  rw [HB3.out] at SR
  refine SR.out.mono ?_
  rintro e w4 ⟨rfl, hA4, hM4⟩
  have A4 : Hid (HeapAt w4 L3 awkH) := hA4
  have E4 := Lib.hid (E3.out.of_mod hM4 (by intro x hx; exact F3.out x (by simp only [List.mem_singleton] at hx; rw [hx]; simp [HLoc.blocks])))
  clear hA4 hM4 SR A3
  go_wp2_with fail
  have CL := Lib.hid (Clone_ok A4.out awkH_wf)
  rw [HB3.out] at CL
  refine CL.out.mono ?_
  rintro e w5 ⟨L5, rfl, hA5, hE5, hf5⟩
  have A5 := Lib.hid hA5
  have E45 := Lib.hid hE5
  have E5 := Lib.hid (E4.out.trans hE5)
  have F5 := Lib.hid hf5
  clear hA5 hE5 hf5 CL
  go_wp2_with fail
  have CO := Lib.hid (Collect_ok A5.out awkH_wf awkH_sound (HS.out.kept E5.out hp))
  refine CO.out.mono ?_
  rintro e w6 ⟨⟨vv, rfl⟩, L6, hb6, hA6, hM6, _⟩
  have A6 := Lib.hid hA6
  have E46 := Lib.hid (Mod.ext_of_new E45.out hM6 F5.out.1)
  have E6 := Lib.hid (E4.out.trans E46.out)
  have HB6 := Lib.hid hb6
  clear hA6 hM6 hb6 CO A5
  go_wp2_with fail
  have C1 := Lib.hid (Collection_ok (A4.out.keep E46.out) awkH_wf awkH_sound A6.out (collect_wf awkH_wf awkH_sound) (collect_sound awkH_wf awkH_sound) (HS.out.kept E6.out hp))
  rw [coll_self awkH_wf awkH_sound, HB3.out, HB6.out] at C1
  refine C1.out.mono ?_
  rintro e w7 ⟨rfl, hE7⟩
  have E47 := Lib.hid (E46.out.trans hE7)
  clear hE7 C1
  go_wp2_with fail
  have E48 := Lib.hid (E47.out.alloc (.cells #[.int .i64 0, .int .i64 0] 51))
  have C2 := Lib.hid (Collection_ok (A4.out.keep E48.out) awkH_wf awkH_sound (A4.out.keep E48.out) awkH_wf awkH_sound (HS.out.kept (E4.out.trans E48.out) hp))
  rw [awk_dead, HB3.out] at C2
  refine C2.out.mono ?_
  rintro e w8 ⟨rfl, hE8⟩
  have E8 := Lib.hid hE8
  have n1 := hE8.keep (newB w7 (.cells #[.int .i64 0, .int .i64 0] 51) _ rfl)
  have N1 := Lib.hid n1
  clear hE8 C2 n1
  go_wp2_with fail
  have HN := Lib.hid (Handles_bad 0 1 (.slice none 0 0) (w8.alloc (.cells #[.int .i64 12, .int .i64 2] 51)) rfl)
  refine HN.out.mono ?_
  rintro e w9 ⟨rfl, hE9⟩
  have m1 := hE9.keep (keepB N1.out _)
  have m2 := hE9.keep (newB w8 (.cells #[.int .i64 12, .int .i64 2] 51) _ rfl)
  obtain ⟨p1, p2⟩ := blk m1
  obtain ⟨p3, p4⟩ := blk m2
  have l1 := lt_of_block m1
  have l2 := lt_of_block m2
  have E9 := Lib.hid hE9
  clear hE9 m1 m2 HN
  go_wp2
  go_ret
  exact ⟨rfl, ((((E4.out.trans E48.out).trans E8.out).alloc _).trans E9.out).alloc _⟩

end Go.Proofs.Eff
