/- collect.Live. -/
import Derived.Test.YtaggadjiefgpoaaGreatDoorSy21
import Derived.Test.YtaggadjiefgpoaaGreatDoorSy20
namespace Go.Proofs.Eff
open Go.RowKit

/-- The live objects, as they lie. -/
def liveOf (h : HeapS) (os : List Nat) : List Int := (reach h.words os.length (h.roots.filter isObj)).mergeSort fun x y => decide (x ≤ y)

theorem bfs_valid {h : HeapS} {os : List Nat} (wf : WF h os) (hso : Sound h os) : ∀ (n : Nat) (met : List Int) (at_ : Nat), met.Nodup → (∀ x, x ∈ met → isO os x = true ∧ 0 ≤ x ∧ x < 4294967296) →
    (bfs h.words n met at_).Nodup ∧ ∀ x, x ∈ bfs h.words n met at_ → isO os x = true ∧ 0 ≤ x ∧ x < 4294967296 := by
  intro n
  induction n with
  | zero => intro met at_ h1 h2; exact ⟨h1, h2⟩
  | succ n ih =>
    intro met at_ h1 h2
    rw [bfs]
    split
    · rename_i hlt
      refine ih _ _ (putAll_nodup h1) ?_
      intro x hx
      rcases putAll_mem.1 hx with h3 | h3
      · exact h2 x h3
      · have hm : wd met at_ ∈ met := by simp [wd, hlt]
        exact ⟨hso.names (wf.isO_lt (h2 _ hm).1).2 true x h3, names_rng wf x h3⟩
    · exact ⟨h1, h2⟩
theorem reach_valid {h : HeapS} {os : List Nat} (wf : WF h os) (hso : Sound h os) {xs : List Int} (hx : ∀ x, x ∈ xs → isO os x = true ∧ 0 ≤ x ∧ x < 4294967296) :
    (reach h.words os.length xs).Nodup ∧ (∀ x, x ∈ reach h.words os.length xs → isO os x = true ∧ 0 ≤ x ∧ x < 4294967296) ∧ (reach h.words os.length xs).length ≤ os.length := by
  have := bfs_valid wf hso (os.length + 1) (putAll [] xs) 0 (putAll_nodup (by simp)) (fun x h1 => by
    rcases putAll_mem.1 h1 with h2 | h2
    · cases h2
    · exact hx x h2)
  exact ⟨this.1, this.2, met_le this.1 (fun x h1 => (this.2 x h1).1) (fun x h1 => (this.2 x h1).2.1)⟩
theorem roots_valid {h : HeapS} {os : List Nat} (wf : WF h os) (hso : Sound h os) : ∀ x, x ∈ h.roots.filter isObj → isO os x = true ∧ 0 ≤ x ∧ x < 4294967296 := by
  intro x hx
  simp only [List.mem_filter] at hx
  have := hso.root x hx.1
  simp only [valueOK, hx.2, Bool.not_true, Bool.false_or] at this
  exact ⟨by simp only [isO, hx.2, this, Bool.and_self], wf.rrng x hx.1⟩

/-- A new slice of oops, nil where there is none. -/
def OopsR (w : World) (l : List Int) (e : Ending) (w' : World) : Prop := ∃ v, e = .returned v ∧ w'.ownsRow w.heap.size 41 1 v l.length (u32s l) ∧ Ext w w'

theorem row_base {w : World} {b b' n cap g : Nat} {e : TypeId} {xs : List Value} (h : w.ownsRow b e 1 (.slice (some ⟨g, 0, none⟩) n cap) n xs) (hg : b' ≤ g) : w.ownsRow b' e 1 (.slice (some ⟨g, 0, none⟩) n cap) n xs := by
  obtain ⟨a1, a2⟩ := h
  refine ⟨a1, ?_⟩
  rcases a2 with a2 | ⟨g', c', cur, b1, _, b3⟩
  · exact .inl a2
  · exact .inr ⟨g', c', cur, b1, by cases b1; exact hg, b3⟩

set_option maxRecDepth 100000 in
set_option maxHeartbeats 1000000 in
theorem Live_ok {w : World} {L : HLoc} {h : HeapS} {os : List Nat} (ha : HeapAt w L h) (wf : WF h os) (hso : Sound h os) (hs : Spares w) :
    Calls Tryz.prog 21 #[.pointer (some ⟨L.b, 0, none⟩)] w (OopsR w (liveOf h os)) := by
  have hp := hs.pos
  have hrl := wf.rlen
  have hrt : Calls Tryz.prog 71 #[.pointer (some ⟨L.b, 0, none⟩)] w fun e w' => ∃ g c, e = .returned (.slice (some ⟨g, 0, none⟩) h.roots.length c) ∧ w'.ownsRow w.heap.size 41 1 (.slice (some ⟨g, 0, none⟩) h.roots.length c) h.roots.length (u32s h.roots) ∧ Ext w w' := (Roots_ok ha wf).mono fun e w' ⟨g, c, h1, h2, h3⟩ => ⟨g, c, by simpa using h1, by simpa using h2, h3⟩
  have HRT := Lib.hid hrt
  clear hrt
  have HON : Hid (∀ W g cap, W.ownsRow 0 41 1 (.slice (some ⟨g, 0, none⟩) h.roots.length cap) h.roots.length (u32s h.roots) → Calls Tryz.prog 76 #[.slice (some ⟨g, 0, none⟩) h.roots.length cap] W (OnlyR W g cap (h.roots.filter isObj))) := fun W g cap hr => only76 g cap h.roots W hr (by omega) wf.root
  have HWK : Hid (∀ W g cap, Ext w W → W.ownsRow 0 41 1 (.slice (some ⟨g, 0, none⟩) (h.roots.filter isObj).length cap) (h.roots.filter isObj).length (u32s (h.roots.filter isObj)) → Calls Tryz.prog 75 #[.pointer (some ⟨L.b, 0, none⟩), .slice (some ⟨g, 0, none⟩) (h.roots.filter isObj).length cap] W (WalkR W (reach h.words os.length (h.roots.filter isObj)))) := by
    intro W g cap hE hr
    refine walk75 (ha.keep hE) wf hso (hs.kept hE hp) g cap _ hr ?_ ?_ ?_
    · intro x hx
      simp only [List.mem_filter] at hx
      have := hso.root x hx.1
      simp only [valueOK, hx.2, Bool.not_true, Bool.false_or] at this
      simp only [isO, hx.2, this, Bool.and_self]
    · intro x hx
      simp only [List.mem_filter] at hx
      exact wf.rrng x hx.1
    · have := List.length_filter_le isObj h.roots; omega
  have hRE : (reach h.words os.length (h.roots.filter isObj)).length ≤ 1048576 := by have := (reach_valid wf hso (roots_valid wf hso)).2.2; have := reach_le wf; omega
  unfold liveOf
  generalize reach h.words os.length (h.roots.filter isObj) = RE at *
  clear ha wf hso hs hrl
  go_enter Tryz.func21, Tryz.ntmps21
  go_wp2_with (first | (go_at_call 71; refine HRT.out.mono ?_; rintro e w1 ⟨g, c, rfl, hr1, hb1⟩; have R1 := Lib.hid hr1; have B1 := Lib.hid hb1; clear hr1 hb1) | (go_at_call 76; refine (HON.out _ _ _ (row_zero R1.out)).mono ?_; rintro e w2 ⟨rfl, hr2, hm2⟩; have R2 := Lib.hid hr2; have B2 := Lib.hid (Mod.ext_of_new B1.out hm2 (R1.out.lt g rfl).1); clear hr2 hm2) | (go_at_call 75; refine (HWK.out _ _ _ B2.out R2.out).mono ?_; rintro e w3 ⟨tb, v, mb, rfl, hT, hb3⟩; have T3 := Lib.hid hT; have B3 := Lib.hid (B2.out.trans hb3); have S3 := Lib.hid (B2.out.trans hb3).size; have S23 := Lib.hid B2.out.size; obtain ⟨c1, c2⟩ := blk hT.blk; clear hT hb3))
  have hs3 := S3.out
  rcases T3.out.row.2 with ⟨hv, hz⟩ | ⟨gm, cm, cur, hv, hgb, hcur, _, _, _, _⟩
  · subst hv
    have h0 : RE = [] := List.length_eq_zero_iff.1 hz
    subst h0
    refine (Sa.sort_nil none 0 _).mono ?_
    rintro e w' ⟨rfl, rfl⟩
    go_wp2
    go_ret
    exact ⟨_, rfl, by simpa [u32s] using World.ownsRow_nil w3 w.heap.size 41 1, B3.out⟩
  · subst hv
    have hrow : w3.ownsRow 0 41 1 (.slice (some ⟨gm, 0, none⟩) RE.length cm) RE.length (RE.map (Value.int .u32)) := row_zero T3.out.row
    refine (Sa.sort_row gm cm RE w3 hrow (by omega)).mono ?_
    rintro e w' ⟨rfl, hr4, hm4⟩
    have R4 := Lib.hid hr4
    have B4 := Lib.hid (Mod.ext_of_new B3.out hm4 (by have := S23.out; omega))
    clear hr4 hm4
    go_wp2
    go_ret
    have hgm : w.heap.size ≤ gm := by have := S23.out; omega
    refine ⟨_, rfl, ?_, B4.out⟩
    have := row_base R4.out hgm
    simpa [u32s] using this

end Go.Proofs.Eff

/- Where live objects go: plain laws; collect.size. -/
namespace Go.Proofs.Eff
open Go.RowKit

def objLen (ws : List Int) (a : Nat) : Nat := 3 + sizeAt ws a
def total (ws : List Int) (l : List Nat) : Nat := (l.map (objLen ws)).sum
theorem total_le {ws : List Int} : ∀ (l m : List Nat), l.Nodup → (∀ x, x ∈ l → x ∈ m) → total ws l ≤ total ws m := by
  intro l
  induction l with
  | nil => intro m _ _; simp [total]
  | cons x l ih =>
    intro m hn hs
    rw [List.nodup_cons] at hn
    have hx : x ∈ m := hs x (by simp)
    have h1 := ih (m.erase x) hn.2 (fun y hy => by
      rw [List.mem_erase_of_ne (by intro e; rw [e] at hy; exact hn.1 hy)]
      exact hs y (by simp [hy]))
    have h2 : total ws m = objLen ws x + total ws (m.erase x) := by
      have := List.perm_cons_erase hx
      have := (this.map (objLen ws)).sum_nat
      simpa [total] using this
    simp only [total, List.map_cons, List.sum_cons] at *
    omega
theorem laid_total {ws : List Int} : ∀ (os : List Nat) (a : Nat), Laid ws a os → a + total ws os = ws.length := by
  intro os
  induction os with
  | nil => intro a h; simpa [total, Laid] using h
  | cons x l ih =>
    rintro a ⟨rfl, _, _, h4⟩
    have := ih _ h4
    simp only [total, List.map_cons, List.sum_cons, objLen] at *
    omega

/-- Where live objects go. -/
def planFrom (ws : List Int) : Nat → List Int → List (Int × Int)
  | _, [] => []
  | a, o :: l => (o, 2 * (a : Int)) :: planFrom ws (a + objLen ws (o / 2).toNat) l
def endAt (ws : List Int) : Nat → List Int → Nat
  | a, [] => a
  | a, o :: l => endAt ws (a + objLen ws (o / 2).toNat) l
theorem planFrom_snoc (ws : List Int) (l : List Int) (o : Int) : ∀ a, planFrom ws a (l ++ [o]) = planFrom ws a l ++ [(o, 2 * (endAt ws a l : Int))] := by
  induction l with
  | nil => intro a; rfl
  | cons x l ih => intro a; simp [planFrom, endAt, ih]
theorem endAt_snoc (ws : List Int) (l : List Int) (o : Int) : ∀ a, endAt ws a (l ++ [o]) = endAt ws a l + objLen ws (o / 2).toNat := by
  induction l with
  | nil => intro a; rfl
  | cons x l ih => intro a; simp [endAt, ih]
theorem planFrom_length (ws : List Int) (l : List Int) : ∀ a, (planFrom ws a l).length = l.length := by
  induction l with
  | nil => intro a; rfl
  | cons x l ih => intro a; simp [planFrom, ih]
theorem endAt_total (ws : List Int) (l : List Int) : ∀ a, endAt ws a l = a + total ws (l.map fun o => (o / 2).toNat) := by
  induction l with
  | nil => intro a; simp [endAt, total]
  | cons x l ih => intro a; simp only [endAt, ih, total, List.map_cons, List.sum_cons]; omega
def movedCells (l : List (Int × Int)) : List Value := l.flatMap fun p => [.int .u32 p.1, .int .u32 p.2]
theorem movedCells_length (l : List (Int × Int)) : (movedCells l).length = l.length * 2 := by
  induction l with
  | nil => rfl
  | cons x l ih => simp only [movedCells, List.flatMap_cons, List.length_append, List.length_cons, List.length_nil] at *; omega
theorem movedCells_append (l m : List (Int × Int)) : movedCells (l ++ m) = movedCells l ++ movedCells m := by simp [movedCells]

theorem endAt_le {h : HeapS} {os : List Nat} (wf : WF h os) {l : List Int} (hn : l.Nodup) (hv : ∀ x, x ∈ l → isO os x = true ∧ 0 ≤ x ∧ x < 4294967296) : endAt h.words 1 l ≤ h.words.length := by
  rw [endAt_total]
  have h1 := laid_total os 1 wf.laid
  have h2 := total_le (ws := h.words) (l.map fun o => (o / 2).toNat) os ?_ ?_
  · omega
  · rw [List.nodup_iff_pairwise_ne] at hn ⊢
    rw [List.pairwise_map]
    refine List.Pairwise.imp_of_mem ?_ hn
    intro a b ha hb hab he
    have h1 := hv a ha
    have h2 := hv b hb
    simp [isO, isObj] at h1 h2
    omega
  · intro y hy
    obtain ⟨x, hx, rfl⟩ := List.mem_map.1 hy
    have h1 := (hv x hx).1
    simp [isO] at h1
    exact h1.2
theorem live_valid {h : HeapS} {os : List Nat} (wf : WF h os) (hso : Sound h os) : (liveOf h os).Nodup ∧ (∀ x, x ∈ liveOf h os → isO os x = true ∧ 0 ≤ x ∧ x < 4294967296) ∧ (liveOf h os).length ≤ os.length := by
  have h1 := reach_valid wf hso (roots_valid wf hso)
  have hp := List.mergeSort_perm (reach h.words os.length (h.roots.filter isObj)) (fun x y => decide (x ≤ y))
  refine ⟨hp.nodup_iff.2 h1.1, fun x hx => h1.2.1 x (hp.mem_iff.1 hx), ?_⟩
  have : (liveOf h os).length = (reach h.words os.length (h.roots.filter isObj)).length := hp.length_eq
  rw [this]; exact h1.2.2

section
variable {w : World} {L : HLoc} {h : HeapS} {os : List Nat}
set_option maxRecDepth 100000 in
set_option maxHeartbeats 400000 in
theorem size122 (ha : HeapAt w L h) (wf : WF h os) (hs : Spares w) (o : Int) (h0 : 0 ≤ o) (h1 : o < 4294967296) (ho : isO os o = true) :
    Calls Tryz.prog 122 #[.pointer (some ⟨L.b, 0, none⟩), .int .u32 o] w fun e w' => e = .returned (.int .i64 (objLen h.words (o / 2).toNat)) ∧ Ext w w' := by
  have hm := wf.mem (wf.isO_lt ho).2
  have hbd := mayB_bounds (wf.hdr (wf.isO_lt ho).2)
  have hw := wf.word (o / 2).toNat
  have hz2 : (hdrAt h.words (o / 2).toNat).size = sizeAt h.words (o / 2).toNat := by simp [hdrAt, hdrOf, sizeAt]; omega
  have HH := Lib.hid (Header_ok ha wf hs o h0 h1 ho)
  unfold objLen
  generalize sizeAt h.words (o / 2).toNat = S at *
  generalize hdrAt h.words (o / 2).toNat = H at *
  obtain ⟨A, B, C, c, s⟩ := H
  simp only [Hdr.val, Hdr.cells] at *
  subst hz2
  have hS : (S : Int) ≤ 65535 := hbd.2.1
  clear ha wf hs ho hm hbd hw
  go_enter Tryz.func122, Tryz.ntmps122
  go_wp2_with (go_at_call 22; refine HH.out.mono ?_; rintro e w1 ⟨rfl, hb⟩; have X := Lib.hid hb; clear hb)
  go_ret
  refine ⟨?_, X.out.alloc _⟩
  rw [show ((3 + S : Nat) : Int) = 3 + (S : Int) by omega]; rfl
end

end Go.Proofs.Eff

/- collect.Plan. -/
namespace Go.Proofs.Eff
open Go.RowKit

theorem Tryz.cinfo111 : (Tryz.prog.info? 111).map (fun i => (i.zero, i.size, i.bytes)) = some (some (.agg #[.int .u32 0, .int .u32 0]), 2, 8) := by kernel_rfl
theorem moved_one (l : List (Int × Int)) : ∀ u, u ∈ movedCells l → u.oneCell' = true := by
  intro u hu
  simp only [movedCells, List.mem_flatMap, List.mem_cons, List.not_mem_nil, or_false] at hu
  obtain ⟨p, _, rfl | rfl⟩ := hu <;> rfl

theorem row_mono {w : World} {b b' n size : Nat} {e : TypeId} {v : Value} {xs : List Value} (h : w.ownsRow b e size v n xs) (hb : b' ≤ b) : w.ownsRow b' e size v n xs := by
  obtain ⟨h1, h2⟩ := h
  refine ⟨h1, ?_⟩
  rcases h2 with h2 | ⟨g, c, cur, a1, a2, a3⟩
  · exact .inl h2
  · exact .inr ⟨g, c, cur, a1, Nat.le_trans hb a2, a3⟩
def planOf (h : HeapS) (os : List Nat) : List (Int × Int) := planFrom h.words 1 (liveOf h os)
def PlanR (w : World) (l : List (Int × Int)) (e : Ending) (w' : World) : Prop := ∃ v, e = .returned v ∧ w'.ownsRow w.heap.size 111 2 v l.length (movedCells l) ∧ Ext w w'

set_option maxRecDepth 100000 in
set_option maxHeartbeats 1000000 in
theorem Plan_ok {w : World} {L : HLoc} {h : HeapS} {os : List Nat} (ha : HeapAt w L h) (wf : WF h os) (hso : Sound h os) (hs : Spares w) :
    Calls Tryz.prog 69 #[.pointer (some ⟨L.b, 0, none⟩)] w (PlanR w (planOf h os)) := by
  have hp := hs.pos
  have hlv := live_valid wf hso
  have HLV := Lib.hid (Live_ok ha wf hso hs)
  have hol := reach_le wf
  have HSZ : Hid (∀ W, Ext w W → ∀ k : Nat, k < (liveOf h os).length → Calls Tryz.prog 122 #[.pointer (some ⟨L.b, 0, none⟩), .int .u32 (wd (liveOf h os) k)] W fun e w' => e = .returned (.int .i64 (objLen h.words (wd (liveOf h os) k / 2).toNat)) ∧ Ext W w') := by
    intro W hE k hk
    have hm : wd (liveOf h os) k ∈ liveOf h os := by simp [wd, hk]
    have hv := hlv.2.1 _ hm
    exact size122 (ha.keep hE) wf (hs.kept hE hp) _ hv.2.1 hv.2.2 hv.1
  have HEN : Hid (∀ k, k ≤ (liveOf h os).length → 1 ≤ endAt h.words 1 ((liveOf h os).take k) ∧ endAt h.words 1 ((liveOf h os).take k) ≤ 1048576) := by
    intro k _
    have h1 := endAt_le wf (l := (liveOf h os).take k) (hlv.1.sublist (List.take_sublist _ _)) (fun x hx => hlv.2.1 x (List.mem_of_mem_take hx))
    have h2 := wf.big
    have h3 : 1 ≤ endAt h.words 1 ((liveOf h os).take k) := by rw [endAt_total]; omega
    omega
  have HSN : Hid (∀ k, k < (liveOf h os).length → (liveOf h os).take (k + 1) = (liveOf h os).take k ++ [wd (liveOf h os) k]) := by
    intro k hk
    rw [List.take_succ_eq_append_getElem hk]; simp [wd, hk]
  have hll : (liveOf h os).length ≤ 1048576 := by omega
  obtain ⟨i0, hi, hz0, hz1, hz3⟩ := info_parts Tryz.cinfo111
  unfold planOf
  generalize liveOf h os = LV at *
  clear ha wf hso hs hlv hol
  go_enter Tryz.func69, Tryz.ntmps69
  go_wp2_with fail
  refine HLV.out.mono ?_
  rintro e w1 ⟨v, rfl, hr1, hb1⟩
  have B1 := Lib.hid hb1
  rcases hr1.2 with ⟨hv, hz⟩ | ⟨gl, cl, cur, hv, hgb, hcur, _, _, _, _⟩
  · subst hv
    have h0 : LV = [] := List.length_eq_zero_iff.1 hz
    subst h0
    clear hr1 hb1 hz
    go_wp2
    refine wp_loop_rounds 1 ?_
    rw [rounds_succ]
    go_wp2
    go_ret
    exact ⟨_, rfl, by simpa [planFrom, movedCells] using World.ownsRow_nil w1 w.heap.size 111 2, B1.out⟩
  · subst hv
    have R1 := Lib.hid hr1
    have hgl := (hr1.lt gl rfl).2
    clear hr1 hb1
    go_wp2
    go_loopw [3, 4, 12] (fun v a i wr => ∃ (k : Nat), k ≤ LV.length ∧ i = .int .i64 k ∧ a = .int .i64 (endAt h.words 1 (LV.take k) : Nat) ∧ wr.ownsRow w1.heap.size 111 2 v k (movedCells (planFrom h.words 1 (LV.take k))) ∧ Ext w1 wr) (fun _ _ i _ => LV.length - (intOf i).toNat)
    case atStart => exact ⟨0, by omega, rfl, rfl, by simpa [planFrom, movedCells] using World.ownsRow_nil w1 w1.heap.size 111 2, Ext.refl _⟩
    case round =>
      obtain ⟨k, hk, rfl, rfl, hrow, hE1⟩ := hrel
      have ROW := Lib.hid hrow
      have XE := Lib.hid (B1.out.trans hE1)
      have XE1 := Lib.hid hE1
      clear hrow hE1
      by_cases hlt : k < LV.length
      · have cx : wr.cell? ⟨gl, k, none⟩ = some (.int .u32 (wd LV k)) := by
          rw [row_cell (row_keep R1.out XE1.out) k hlt]; simp [u32s, wd, hlt]
        have hen := HEN.out k hk
        have hen2 := HEN.out (k + 1) hlt
        have hsn := HSN.out k hlt
        have HSZk := Lib.hid (fun W hE => HSZ.out W hE k hlt)
        have HAT := Lib.hid (fun W => at_ok (endAt h.words 1 (LV.take k) : Nat) W (by omega) (by omega))
        have SN : Hid (movedCells (planFrom h.words 1 (LV.take (k + 1))) = movedCells (planFrom h.words 1 (LV.take k)) ++ movedCells [(wd LV k, 2 * (endAt h.words 1 (LV.take k) : Int))]) := by
          show movedCells _ = _
          rw [hsn, planFrom_snoc, movedCells_append]
        have EN : Hid (endAt h.words 1 (LV.take (k + 1)) = endAt h.words 1 (LV.take k) + objLen h.words (wd LV k / 2).toNat) := by
          show endAt _ _ _ = _
          rw [hsn, endAt_snoc]
        rw [EN.out] at hen2
        generalize endAt h.words 1 (LV.take k) = en at *
        generalize objLen h.words (wd LV k / 2).toNat = ol at *
        generalize wd LV k = x at *
        have hal : (k : Int) < (LV.length : Int) := by omega
        obtain ⟨hen1, hen3⟩ := hen
        obtain ⟨_, hen4⟩ := hen2
        clear hsn
        have NW : Hid (∀ W : World, RRow (W.alloc (.cells #[.int .u32 x, .int .u32 (2 * (en : Int))] 111)) ⟨W.heap.size, 0, none⟩ (movedCells [(x, 2 * (en : Int))])) := fun W => (World.ownsRow_lit (base := 0) (e := 111) (size := 2) W #[.int .u32 x, .int .u32 (2 * (en : Int))] 1 (Nat.zero_le _) (by unfold maxLen; omega) rfl).cells rfl
        go_wp2_with (first | (go_at_call 121; refine (HAT.out _).mono ?_; rintro e w2 ⟨rfl, rfl⟩) | (at_builtin; refine wpList_append_own _ rfl _ _ 106 rfl w1.heap.size 111 i0 (.agg #[.int .u32 0, .int .u32 0]) 2 8 Tryz.underlying106 hi hz0 hz1 hz3 rfl (by decide) _ k _ rfl (ROW.out.alloc _) ⟨wr.heap.size, 0, none⟩ 1 1 (movedCells [(x, 2 * (en : Int))]) rfl rfl (NW.out wr) (moved_one _) (by unfold maxLen; omega) (by omega) (by have := XE1.out.size; simp; omega) ?_; intro v' w3 hown hgrow hnil2; have OW := Lib.hid hown; have E13 := Lib.hid ((XE1.out.alloc (.cells #[.int .u32 x, .int .u32 (2 * (en : Int))] 111)).grown hgrow (by intro q hq; simp only [go_sem] at hq; exact (ROW.out.lt q hq).1)); clear hown hgrow hnil2) | (go_at_call 122; refine (HSZk.out _ (B1.out.trans E13.out)).mono ?_; rintro e w4 ⟨rfl, hb4⟩; have B4 := Lib.hid hb4; clear hb4))
        have R4 : Hid (w4.ownsRow w1.heap.size 111 2 v' (k + 1) (movedCells (planFrom h.words 1 (LV.take (k + 1))))) := by
          have := row_keep OW.out B4.out
          rw [← SN.out] at this; exact this
        go_roundw
        case rel => exact ⟨k + 1, by omega, by go_num, by rw [EN.out]; go_num, R4.out, E13.out.trans B4.out⟩
        case measure => simp [intOf]; omega
      · obtain rfl : k = LV.length := by omega
        go_wp2
        go_ret
        have := ROW.out
        rw [List.take_length] at this
        exact ⟨_, rfl, by rw [planFrom_length]; exact row_mono this B1.out.size, XE.out⟩

end Go.Proofs.Eff

namespace Go.Proofs.Eff
open Go.RowKit

/-- Where an oop goes, by a plan. -/
def goesTo : List (Int × Int) → Int → Option Int
  | [], _ => none
  | p :: r, o => if p.1 = o then some p.2 else goesTo r o
def goesA (pl : List (Int × Int)) : AList := pl.map fun p => (p.1, .int .u32 p.2)
theorem aget_goes (pl : List (Int × Int)) (o : Int) : aget (goesA pl) o = (goesTo pl o).map (Value.int .u32) := by
  induction pl with
  | nil => rfl
  | cons p r ih => simp only [goesA, List.map_cons, aget, goesTo] at *; split <;> simp_all
/-- What a value becomes, and whether it is live. -/
def whereV (pl : List (Int × Int)) (o : Int) : Int := if isObj o then (goesTo pl o).getD 0 else o
def whereB (pl : List (Int × Int)) (o : Int) : Bool := if isObj o then (goesTo pl o).isSome else true
theorem zero41 (w : World) : (zeroValue 41).run Tryz.prog w = .ok (.int .u32 0) w := by kernel_rfl

set_option maxHeartbeats 400000 in
theorem where72 (b mb : Nat) (c0 c2 c3 c4 c5 c6 c7 : Value) (pl : List (Int × Int)) (o : Int) (w : World) (hb : w.heap[b]? = some (.cells #[c0, .map (some mb), c2, c3, c4, c5, c6, c7] 154)) (hm : MapAt w mb .u32 (goesA pl)) (h0 : 0 ≤ o) (h1 : o < 4294967296) :
    Calls Tryz.prog 72 #[.pointer (some ⟨b, 0, none⟩), .int .u32 o] w fun e w' => e = .returned (.tuple #[.int .u32 (whereV pl o), .bool (whereB pl o)]) ∧ w = w' := by
  have HO := Lib.hid (object124 o w h0 h1)
  obtain ⟨k1, k2⟩ := blk hb
  have hlk := run_lookup_ok (P := Tryz.prog) w Tryz.underlying152 Tryz.underlying41 hm (.int .u32 0) zero41 o
  rw [aget_goes] at hlk
  have e1 : ((goesTo pl o).map (Value.int .u32)).getD (.int .u32 0) = .int .u32 ((goesTo pl o).getD 0) := by cases goesTo pl o <;> rfl
  have e2 : ((goesTo pl o).map (Value.int .u32)).isSome = (goesTo pl o).isSome := by cases goesTo pl o <;> rfl
  rw [e1, e2] at hlk
  unfold whereV whereB
  clear hm hb e1 e2
  cases ho : isObj o with
  | true =>
    rw [ho] at HO
    simp only [if_true]
    generalize (goesTo pl o).getD 0 = x at *
    generalize (goesTo pl o).isSome = y at *
    go_enter Tryz.func72, Tryz.ntmps72
    go_wp2_with (go_at_call 124; refine HO.out.mono ?_; rintro e w' ⟨rfl, rfl⟩)
    go_ret2
    exact ⟨rfl, rfl⟩
  | false =>
    rw [ho] at HO
    simp only [Bool.false_eq_true, if_false]
    go_enter Tryz.func72, Tryz.ntmps72
    go_wp2_with (go_at_call 124; refine HO.out.mono ?_; rintro e w' ⟨rfl, rfl⟩)
    go_ret2
    exact ⟨rfl, rfl⟩

end Go.Proofs.Eff
