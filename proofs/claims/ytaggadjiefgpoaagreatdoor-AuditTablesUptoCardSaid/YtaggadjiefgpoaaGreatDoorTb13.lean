/- handles.New. -/
import Derived.Test.YtaggadjiefgpoaaGreatDoorTb12
namespace Go.Proofs.Eff
open Go.RowKit

/-- A new table's cells. -/
def tabC (p c f : Value) : Array Value := ([p] ++ slotC (List.replicate 256 (0, 0)) ++ [c, f, .int .i64 0]).toArray
theorem built183 (p : Option Addr) (c f : Int) : Tryz.prog.built 183 [(0, .pointer p), (2, .int .i64 c), (3, .int .u64 f)] = some (tabC (.pointer p) (.int .i64 c) (.int .u64 f)) := by kernel_rfl
theorem zero183 (p : Option Addr) (c f : Int) : (((Tryz.zeroCells183.setIfInBounds 0 (.pointer p)).setIfInBounds 513 (.int .i64 c)).setIfInBounds 514 (.int .u64 f)) = tabC (.pointer p) (.int .i64 c) (.int .u64 f) := by kernel_rfl
theorem tabC_at (p : Addr) (c f : Int) : (tabC (.pointer (some p)) (.int .i64 c) (.int .u64 f))[0]? = some (.pointer (some p)) ∧ (tabC (.pointer (some p)) (.int .i64 c) (.int .u64 f))[513]? = some (.int .i64 c) ∧ (tabC (.pointer (some p)) (.int .i64 c) (.int .u64 f))[514]? = some (.int .u64 f) ∧ (tabC (.pointer (some p)) (.int .i64 c) (.int .u64 f))[515]? = some (.int .i64 0) ∧ ∀ (j : Nat) (v : Value), (slotC (List.replicate 256 ((0 : Int), (0 : Int))))[j]? = some v → (tabC (.pointer (some p)) (.int .i64 c) (.int .u64 f))[1 + j]? = some v := by
  have hl : (slotC (List.replicate 256 ((0 : Int), (0 : Int)))).length = 512 := by rw [slotC_length, List.length_replicate]
  unfold tabC
  generalize slotC (List.replicate 256 ((0 : Int), (0 : Int))) = S at *
  refine ⟨by simp, ?_, ?_, ?_, fun j v hv => ?_⟩
  · simp [hl]
  · simp [hl]
  · simp [hl]
  · have hj := (List.getElem?_eq_some_iff.1 hv).1
    rw [Nat.add_comm]
    simp only [List.getElem?_toArray, List.cons_append, List.getElem?_cons_succ, List.nil_append]
    rw [List.getElem?_append_left hj]; exact hv
theorem newTab_at {W : World} {b : Nat} {p : Nat} {c f : Int} (hb : W.heap[b]? = some (.cells (tabC (.pointer (some ⟨p, 0, none⟩)) (.int .i64 c) (.int .u64 f)) 183)) : HTabAt W b p ⟨c, f, 0, List.replicate 256 (0, 0)⟩ := by
  obtain ⟨h1, h2⟩ := blk hb
  obtain ⟨t0, t1, t2, t3, t4⟩ := tabC_at ⟨p, 0, none⟩ c f
  exact ⟨lt_of_block hb, by rw [h1]; exact t0, fun j v hv => by rw [h1]; exact t4 j v hv, List.length_replicate, by rw [h1]; exact t1, by rw [h1]; exact t2, by rw [h1]; exact t3, h2⟩

section
variable {w : World} {L : HLoc} {h : HeapS} {os : List Nat}
set_option maxRecDepth 100000 in
set_option maxHeartbeats 1000000 in
theorem New30_bad (p : Value) (cap first : Int) (hb : badTab cap first = true) : Calls Tryz.prog 30 #[p, .int .i64 cap, .int .u64 first] w fun e w' => e = .returned (.tuple #[.pointer none, .int .i64 1]) ∧ w = w' := by
  have key : (cap < 1) ∨ (¬ cap < 1 ∧ 256 < cap) ∨ (¬ cap < 1 ∧ ¬ 256 < cap ∧ (first == 0) = true) := by
    simp only [badTab, Bool.or_eq_true, decide_eq_true_eq] at hb
    by_cases h1 : cap < 1
    · exact .inl h1
    · by_cases h2 : 256 < cap
      · exact .inr (.inl ⟨h1, h2⟩)
      · exact .inr (.inr ⟨h1, h2, by rcases hb with (h | h) | h; exact absurd h h1; exact absurd h h2; exact h⟩)
  clear hb
  rcases key with h1 | ⟨h1, h2⟩ | ⟨h1, h2, h3⟩
  all_goals
    go_enter Tryz.func30, Tryz.ntmps30
    go_wp2
    go_ret2
    exact ⟨rfl, rfl⟩

/-- A new object of fields alone leaves a heap sound. -/
theorem allocH_sound (wf : WF h os) (hso : Sound h os) (n : Int) (n0 : 0 ≤ n) (n1 : n ≤ 65535) (hroom : (h.words.length : Int) + 3 + n ≤ h.size) (hlast : h.last ≠ 4294967295) : Sound (allocH h ⟨n, 1, 0, 0, 0⟩) (os ++ [h.words.length]) ∧
    (∀ x, x ∈ os → hdrAt (allocH h ⟨n, 1, 0, 0, 0⟩).words x = hdrAt h.words x) ∧ (hdrAt (allocH h ⟨n, 1, 0, 0, 0⟩).words h.words.length).fmt = 1 ∧ sizeAt (allocH h ⟨n, 1, 0, 0, 0⟩).words h.words.length = n.toNat := by
  have hm : mayB ⟨n, 1, 0, 0, 0⟩ = true := by simp [mayB]; omega
  have wf' := allocH_wf wf hm (by simp) (by simp) hroom hlast
  have l0 := wf.last0
  have l1 := wf.last1
  have hw : (allocH h ⟨n, 1, 0, 0, 0⟩).words = h.words ++ ([packW ⟨n, 1, 0, 0, 0⟩, 0, h.last + 1] ++ List.replicate n.toNat (wd h.roots 0)) := by simp [allocH, fillW]
  have hroots : (allocH h ⟨n, 1, 0, 0, 0⟩).roots = h.roots := rfl
  have hlst : (allocH h ⟨n, 1, 0, 0, 0⟩).last = h.last + 1 := rfl
  generalize hH : allocH h ⟨n, 1, 0, 0, 0⟩ = H at *
  have o0 : wd H.words h.words.length = packW ⟨n, 1, 0, 0, 0⟩ := by rw [hw, wd_append_right (Nat.le_refl _)]; simp [wd]
  have o1 : wd H.words (h.words.length + 1) = 0 := by rw [hw, wd_append_right (by omega)]; simp [wd]
  have o2 : wd H.words (h.words.length + 2) = h.last + 1 := by rw [hw, wd_append_right (by omega)]; simp [wd]
  have hh : hdrAt H.words h.words.length = ⟨n, 1, 0, 0, h.last + 1⟩ := by
    unfold hdrAt
    rw [o0, o1, o2]
    exact hdrOf_pack hm 0 (h.last + 1)
  have hsz : sizeAt H.words h.words.length = n.toNat := by
    have e := congrArg Hdr.size hh
    have : (hdrAt H.words h.words.length).size = wd H.words h.words.length % 16777216 := rfl
    rw [this] at e
    unfold sizeAt
    rw [e]
  have old : ∀ x, x ∈ os → hdrAt H.words x = hdrAt h.words x ∧ sizeAt H.words x = sizeAt h.words x ∧ fieldsAt H.words x = fieldsAt h.words x := by
    intro x hx
    obtain ⟨m1, m2, _⟩ := wf.mem hx
    have e0 : ∀ i, i < h.words.length → wd H.words i = wd h.words i := fun i hi => by rw [hw, wd_append_left hi]
    have es : sizeAt H.words x = sizeAt h.words x := by unfold sizeAt; rw [e0 x (by omega)]
    refine ⟨by unfold hdrAt; rw [e0 x (by omega), e0 (x + 1) (by omega), e0 (x + 2) (by omega)], es, ?_⟩
    have q2 := wf'.mem (List.mem_append_left [h.words.length] hx)
    apply List.ext_getElem
    · rw [fieldsAt_length q2.2.1, fieldsAt_length m2, es]
    · intro i h1 h2
      rw [fieldsAt_length m2] at h2
      have a1 : (fieldsAt H.words x)[i] = wd (fieldsAt H.words x) i := by simp [wd, h1]
      have a2 : (fieldsAt h.words x)[i]'(by rw [fieldsAt_length m2]; exact h2) = wd (fieldsAt h.words x) i := by simp [wd, fieldsAt_length m2, h2]
      rw [a1, a2, fieldsAt_wd (by rw [es]; exact h2), fieldsAt_wd h2, e0 _ (by omega)]
  have vok : ∀ x, valueOK os x = true → valueOK (os ++ [h.words.length]) x = true := by
    intro x hx
    simp only [valueOK, Bool.or_eq_true, List.contains_eq_mem, decide_eq_true_eq, List.mem_append] at *
    rcases hx with hx | hx
    · exact .inl hx
    · exact .inr (.inl hx)
  have cok : ∀ x, classOK os x = true → classOK (os ++ [h.words.length]) x = true := by
    intro x hx
    simp only [classOK, isO, Bool.or_eq_true, Bool.and_eq_true, List.contains_eq_mem, decide_eq_true_eq, List.mem_append] at *
    rcases hx with hx | ⟨h1, h2⟩
    · exact .inl hx
    · exact .inr ⟨h1, .inl h2⟩
  have spl : ∀ x, x ∈ os ++ [h.words.length] → x ∈ os ∨ x = h.words.length := fun x hx => by simpa using hx
  refine ⟨⟨?_, ?_, ?_, ?_, ?_, ?_, ?_⟩, fun x hx => (old x hx).1, by rw [hh], hsz⟩
  · intro x hx
    rcases spl x hx with hx | rfl
    · rw [(old x hx).1]; exact cok _ (hso.cls x hx)
    · rw [hh]; rfl
  · intro x hx
    rcases spl x hx with hx | rfl
    · rw [(old x hx).1]; exact hso.ser0 x hx
    · rw [hh]; show 0 < h.last + 1; omega
  · intro x hx
    rw [hlst]
    rcases spl x hx with hx | rfl
    · rw [(old x hx).1]; have := hso.ser1 x hx; omega
    · rw [hh]; exact Int.le_refl _
  · have e : (os ++ [h.words.length]).map (fun x => (hdrAt H.words x).ser) = (os.map fun x => (hdrAt h.words x).ser) ++ [h.last + 1] := by
      rw [List.map_append]
      congr 1
      · exact List.map_congr_left fun x hx => by rw [(old x hx).1]
      · simp [hh]
    rw [e, List.nodup_append]
    refine ⟨hso.uniq, by simp, ?_⟩
    intro s hs z hz
    obtain ⟨x, hx, rfl⟩ := List.mem_map.1 hs
    have := hso.ser1 x hx
    simp only [List.mem_singleton] at hz
    omega
  · intro x hx hf z hz
    rcases spl x hx with hx | rfl
    · rw [(old x hx).1] at hf
      rw [(old x hx).2.2] at hz
      exact vok _ (hso.fld x hx hf z hz)
    · have q2 := wf'.mem hx
      obtain ⟨i, hi, rfl⟩ := List.getElem_of_mem hz
      rw [fieldsAt_length q2.2.1] at hi
      have a1 : (fieldsAt H.words h.words.length)[i]'(by rw [fieldsAt_length q2.2.1]; exact hi) = wd (fieldsAt H.words h.words.length) i := by simp [wd, fieldsAt_length q2.2.1, hi]
      rw [a1, fieldsAt_wd hi]
      have hi' : i < n.toNat := by rw [← hsz]; exact hi
      have e3 : wd H.words (h.words.length + 3 + i) = wd h.roots 0 := by
        rw [hw, wd_append_right (by omega), wd_append_right (by simp; omega)]
        simp only [List.length_cons, List.length_nil]
        have : h.words.length + 3 + i - h.words.length - (0 + 1 + 1 + 1) = i := by omega
        rw [this]; simp [wd, hi']
      rw [e3]
      exact vok _ (hso.root _ (wd_mem (by have := wf.rlen; omega)))
  · intro x hx hf
    rcases spl x hx with hx | rfl
    · rw [(old x hx).1] at hf
      have := hso.spare x hx hf
      unfold spareOK at *
      rw [(old x hx).1, (old x hx).2.2]; exact this
    · rw [hh] at hf
      have hf' : (1 : Int) = 2 := hf
      omega
  · intro x hx
    rw [hroots] at hx
    exact vok _ (hso.root x hx)
theorem setRoot_wf (wf : WF h os) (i : Nat) (v : Int) (v0 : 0 ≤ v) (v1 : v < 4294967296) : WF { h with roots := h.roots.set i v } os :=
  ⟨wf.pos, wf.zero, wf.rng, wf.laid, wf.starts, by simpa using wf.rlen, fun x hx => by
    rcases List.mem_or_eq_of_mem_set hx with hx | rfl
    · exact wf.rrng x hx
    · exact ⟨v0, v1⟩, wf.size0, wf.size1, wf.fits, wf.last0, wf.last1⟩
theorem setRoot_sound (hso : Sound h os) (i : Nat) (v : Int) (hv : valueOK os v = true) : Sound { h with roots := h.roots.set i v } os :=
  ⟨hso.cls, hso.ser0, hso.ser1, hso.uniq, hso.fld, hso.spare, fun x hx => by
    rcases List.mem_or_eq_of_mem_set hx with hx | rfl
    · exact hso.root x hx
    · exact hv⟩
theorem Rel.start (a cap : Nat) (first : Int) (h0 : 0 ≤ first) (h1 : first < 18446744073709551616) (c1 : 1 ≤ cap) (c2 : cap ≤ 256) : Rel h os a cap ⟨cap, first, 0, List.replicate 256 (0, 0)⟩ ⟨cap, [], first, 0⟩ := by
  have hz : ∀ k (hk : k < (List.replicate 256 ((0 : Int), (0 : Int))).length), (List.replicate 256 ((0 : Int), (0 : Int)))[k] = (0, 0) := fun k hk => List.getElem_replicate hk
  refine ⟨⟨by show 1 ≤ (cap : Int); omega, by show (cap : Int) ≤ 256; omega, h0, h1, by simp, by simp, by simp, by simp⟩, rfl, rfl, rfl, List.length_replicate, fun k hk _ => hz k hk, fun k hk hn => absurd (hz k hk) hn, fun i hi => by simp at hi, fun j k hj hk _ hn => ?_, fun i hi => by simp at hi⟩
  exact absurd (congrArg Prod.fst (hz j hj)) hn

/-- A new table. -/
def NewTR (w : World) (L : HLoc) (_h : HeapS) (_os : List Nat) (cap : Nat) (first : Int) (e : Ending) (w' : World) : Prop :=
  ∃ tb L1 h1 os1 a T, e = .returned (.tuple #[.pointer (some ⟨tb, 0, none⟩), .int .i64 0]) ∧ L1.b = L.b ∧ w.heap.size ≤ tb ∧ TBx w' L1 h1 os1 a cap tb T ∧ Rel h1 os1 a cap T ⟨cap, [], first, 0⟩ ∧ (∃ S, (∀ x, x ∈ S → x ∈ L.blocks ∨ w.heap.size ≤ x) ∧ Mod S w w') ∧ (∀ x, x ∈ L1.blocks → x ∈ L.blocks ∨ w.heap.size ≤ x)
set_option maxRecDepth 100000 in
set_option maxHeartbeats 2000000 in
theorem New30 (ha : HeapAt w L h) (wf : WF h os) (hso : Sound h os) (hs : Spares w) (hz : ¬ 0 ∈ L.blocks) (cap : Nat) (first : Int) (hb : badTab cap first = false) (f0 : 0 ≤ first) (f1 : first < 18446744073709551616) (hr20 : wd h.roots 20 = 0) (hroom : (h.words.length : Int) + 3 + (cap : Int) ≤ h.size) (hlast : h.last ≠ 4294967295) :
    Calls Tryz.prog 30 #[.pointer (some ⟨L.b, 0, none⟩), .int .i64 cap, .int .u64 first] w (NewTR w L h os cap first) := by
  simp only [badTab, Bool.or_eq_false_iff, decide_eq_false_iff_not] at hb
  obtain ⟨⟨h1, h2⟩, h3⟩ := hb
  have RT := Lib.hid (root_ok ha wf 20 (by omega) (by omega))
  rw [show (20 : Int).toNat = 20 from rfl, hr20] at RT
  have AL := Lib.hid (Alloc_ok ha wf hs 0 1 cap (by omega) (by omega) (by omega) (by omega) (by omega) (by omega) rfl hroom hlast hz)
  have hm : mayB ⟨(cap : Int), 1, 0, 0, 0⟩ = true := by simp [mayB]; omega
  have WF1 := Lib.hid (allocH_wf wf hm (by simp) (by simp) hroom hlast)
  obtain ⟨SO1, _, q1, q2⟩ := allocH_sound wf hso cap (by omega) (by omega) hroom hlast
  have hbig := wf.big
  have hrl := wf.rlen
  have HSO := Lib.hid SO1
  have Q1 := Lib.hid q1
  have Q2 := Lib.hid q2
  have HRL := Lib.hid hrl
  have hpos := wf.pos
  have hR1 : (allocH h ⟨(cap : Int), 1, 0, 0, 0⟩).roots = h.roots := rfl
  have HR1 := Lib.hid hR1
  clear ha wf hs hso SO1 q1 q2 hm hrl hR1 hz
  have HK := Lib.hid (fun W => kind_any 0 W (by omega) (by omega))
  rw [show kindI 0 = 0 from rfl] at HK
  generalize allocH h ⟨(cap : Int), 1, 0, 0, 0⟩ = H at *
  generalize h.words.length = a at *
  go_enter Tryz.func30, Tryz.ntmps30
  go_wp2_with (first | (go_at_call 84; refine RT.out.mono ?_; rintro e w' ⟨rfl, rfl⟩) | (go_at_call 85; refine (HK.out _).mono ?_; rintro e w' ⟨rfl, rfl⟩))
  refine AL.out.mono ?_
  rintro e w1 ⟨rfl, L1, hb1, hA1, hM1, hf1⟩
  have A1 := Lib.hid hA1
  have M1 := Lib.hid hM1
  have F1 := Lib.hid hf1
  have hob : isObj (2 * (a : Int)) = true := by simp [isObj]; omega
  have hmem : a ∈ os ++ [a] := by simp
  have VO : Hid (valueOK (os ++ [a]) (2 * (a : Int)) = true) := by
    show valueOK _ _ = true
    simp only [valueOK, hob, show (2 * (a : Int) / 2).toNat = a by omega, List.contains_eq_mem]; simp
  have SR := Lib.hid (SetRoot_ok A1.out WF1.out 40 (2 * (a : Int)) (by omega) (by omega) (by omega) (by omega) VO.out)
  rw [hb1] at SR
  clear hA1 hM1 hf1
  go_wp2_with fail
  refine SR.out.mono ?_
  rintro e w2 ⟨rfl, hA2, hM2⟩
  have A2 := Lib.hid hA2
  have M2 := Lib.hid hM2
  have HB := Lib.hid hb1
  clear hA2 hM2
  have NT : Hid (∀ W b, W.heap[b]? = some (.cells (((Tryz.zeroCells183.setIfInBounds 0 (.pointer (some ⟨L.b, 0, none⟩))).setIfInBounds 513 (.int .i64 (cap : Int))).setIfInBounds 514 (.int .u64 first)) 183) → HTabAt W b L.b ⟨(cap : Int), first, 0, List.replicate 256 (0, 0)⟩) := fun W b h => newTab_at (by rw [zero183] at h; exact h)
  clear hb1
  go_wp2
  go_ret2
  have hsz1 := M1.out.size
  have hsz2 := M2.out.size
  have hroot : wd (({ H with roots := H.roots.set (40 : Int).toNat (2 * (a : Int)) } : HeapS)).roots 40 = 2 * (a : Int) := by
    show wd (H.roots.set 40 _) 40 = _
    exact wd_set_eq _ (by rw [HR1.out, HRL.out]; omega)
  have hL1b : ∀ x, x ∈ L1.blocks → x < w2.heap.size := A2.out.bl
  have ht := NT.out _ _ (newB w2 (.cells (((Tryz.zeroCells183.setIfInBounds 0 (.pointer (some ⟨L.b, 0, none⟩))).setIfInBounds 513 (.int .i64 (cap : Int))).setIfInBounds 514 (.int .u64 first)) 183) _ rfl)
  refine ⟨w2.heap.size, L1, _, os ++ [a], a, _, rfl, HB.out, by omega, ⟨A2.out.keep ((Ext.refl _).alloc _), setRoot_wf WF1.out _ _ (by omega) (by omega), setRoot_sound HSO.out _ _ VO.out, ⟨hmem, Q1.out, by have := Q2.out; simpa using this, hroot⟩, by rw [HB.out]; exact ht, fun hx => by have := hL1b _ hx; omega, rfl, by omega, by omega⟩, Rel.start a cap first f0 f1 (by omega) (by omega), ⟨L.blocks ++ [L1.gr], ?_, ((M1.out.mono (by simp_all)).trans (M2.out.mono (by simp))).ext ((Ext.refl _).alloc _)⟩, F1.out⟩
  intro x hx
  simp only [List.mem_append, List.mem_singleton] at hx
  rcases hx with hx | rfl
  · exact .inl hx
  · exact F1.out _ (by simp [HLoc.blocks])
end
end Go.Proofs.Eff
