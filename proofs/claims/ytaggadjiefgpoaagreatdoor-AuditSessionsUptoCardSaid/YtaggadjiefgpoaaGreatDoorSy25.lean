/- heap.All and audit.objects. -/
import Derived.Test.YtaggadjiefgpoaaGreatDoorSy24
import Derived.Maps.AppendAt
import Derived.Maps.OwnIn
namespace Go.Proofs.Eff
open Go.RowKit Go.Shelf
attribute [local go_sem] Oper.semAt_some

theorem all70 (p : Option Addr) (w : World) : Calls Tryz.prog 70 #[.pointer p] w fun e w' => e = .returned (.func (.func 123) #[] #[.pointer (some ⟨w.heap.size, 0, none⟩)]) ∧ w' = w.alloc (.cells #[.pointer p] 27) := by
  go_enter Tryz.func70, Tryz.ntmps70
  go_wp2
  go_ret
  exact ⟨rfl, rfl⟩

theorem all_stops (n B Bn : Nat) {L : HLoc} {h : HeapS} {os : List Nat} {w : World} (hBn : w.cell? ⟨Bn, 0, none⟩ = some (.pointer (some ⟨L.b, 0, none⟩))) (hBl : Bn < w.heap.size) (ha : HeapAt w L h) (wf : WF h os) (hs : Spares w) (hB : B < w.heap.size) (hB0 : 0 < B) (hr : rowOf B w = none) :
    SeqStopsK Fence.wide n Tryz.prog 123 #[.pointer (some ⟨Bn, 0, none⟩)] (allEnc h.words) (KpB B) (fun xs => xs = os) (fun pre => pre <+: os) os.length w := by
  intro l J Jx W hW hJ hJx hY h0
  have hE : Ext w W := hW
  have hz := hE.size
  exact All1_in n l B Bn J Jx W hJ hY ((hE.cell (p := ⟨Bn, 0, none⟩) hBl).trans hBn) (ha.keep hE) wf (hs.kept hE hs.pos) (by omega) hB0 (by rw [rowOf_ext hE hB]; exact hr) h0

/-- The oops of objects. -/
def oopsOf (os : List Nat) : List Int := os.map fun (a : Nat) => 2 * (a : Int)
theorem oopsOf_snoc (l : List Nat) (x : Nat) : oopsOf (l ++ [x]) = oopsOf l ++ [2 * (x : Int)] := by simp [oopsOf]
theorem oopsOf_length (l : List Nat) : (oopsOf l).length = l.length := by simp [oopsOf]

theorem kpB_append {W w1 : World} {n₀ B : Nat} {t e : TypeId} {size : Nat} {v : Value} {g' k cap' m : Nat} {xs ys : List Value} {tmp : Obj}
    (hv : Boxed W B t v) (hte : t ≠ e) (hrow : W.ownsRow n₀ e size v k xs) (_hown' : w1.ownsRow n₀ e size (.slice (some ⟨g', 0, none⟩) m cap') m ys) (hgrow : (W.alloc tmp).grownBy w1 v.ownBlock) (hat : v.ownBlock = some g' ∨ W.heap.size ≤ g') :
    KpB B W (w1.setCell ⟨B, 0, none⟩ (.slice (some ⟨g', 0, none⟩) m cap')) := by
  have hrB : rowOf B W = v.ownBlock := by simp [rowOf, hv.cell]
  have hBl := hv.lt
  have h1 : Boxed w1 B t v := (hv.alloc tmp).kept hgrow (hv.not_row hte hrow)
  refine ⟨?_, ?_, ?_⟩
  · have := hgrow.size; simp at this; simp; omega
  · intro j cs T fz hj hB hr
    rw [hrB] at hr
    have hjl := lt_of_block hj
    rw [Below.heap_setCell _ _ _ _ (by simpa using hB), hgrow.block j (by simp; omega) (fun h => hr h.symm), Below.heap_alloc _ _ _ hjl]
  · have hrB' : rowOf B (w1.setCell ⟨B, 0, none⟩ (.slice (some ⟨g', 0, none⟩) m cap')) = some g' := by
      unfold rowOf
      rw [World.cell?_setCell_same' _ _ _ (by rw [h1.cell]; rfl)]; rfl
    rw [hrB', hrB]
    rcases hat with h2 | h2
    · exact .inl h2.symm
    · exact .inr (fun g hg => by cases hg; exact h2)

set_option maxRecDepth 100000 in
set_option maxHeartbeats 2000000 in
theorem objects54 {w : World} {L : HLoc} {h : HeapS} {os : List Nat} (ha : HeapAt w L h) (wf : WF h os) (hs : Spares w) :
    Calls Tryz.prog 54 #[.pointer (some ⟨L.b, 0, none⟩)] w (OopsR w (oopsOf os)) := by
  have hp := hs.pos
  have hol := reach_le wf
  obtain ⟨i0, hi, hz0, hz1, hz2⟩ := info_parts Tryz.cinfo41
  have HA := Lib.hid ha
  have HW := Lib.hid wf
  have HS := Lib.hid hs
  clear ha wf hs
  refine (callsIn_wide (n := 4)).1 ?_
  refine callsIn_of_wp_marks Tryz.func54 rfl trivial ?_ rfl
  simp only [Tryz.ntmps54, List.size_toArray, List.length_cons, List.length_nil, Nat.reduceAdd, Nat.reduceSub, Array.replicate_succ, Array.replicate_zero, List.push_toArray, List.append_toArray, List.nil_append, List.cons_append]
  gi_wp2_with (refine ⟨trivial, ?_⟩; gi_at_call 70; refine (callsIn_wide.2 (all70 _ _)).mono ?_; rintro e w' ⟨rfl, rfl⟩)
  have bO := Boxed.new w 23 (.slice none 0 0)
  have bN := Boxed.new (w.alloc (.cells #[.slice none 0 0] 23)) 27 (.pointer (some ⟨L.b, 0, none⟩))
  rw [World.size_alloc] at bN
  have hB0 : Ext w ((w.alloc (.cells #[.slice none 0 0] 23)).alloc (.cells #[.pointer (some ⟨L.b, 0, none⟩)] 27)) := ((Ext.refl w).alloc _).alloc _
  have h1n : 1 ≤ 4 := by decide
  refine wpIn_rangeFunc_ownG rfl h1n (gf := 123) (lb := #[.pointer (some ⟨w.heap.size + 1, 0, none⟩)]) rfl trivial (enters_of Tryz.func123 (by kernel_rfl) rfl)
    (all_stops _ w.heap.size (w.heap.size + 1) bN.cell (by simp) (HA.out.keep hB0) HW.out (HS.out.kept hB0 hp) (by simp; omega) (by omega) (by simp [rowOf, (bO.alloc (.cells #[.pointer (some ⟨L.b, 0, none⟩)] 27)).cell, Value.ownBlock])) KpB.trans (KpB.turn (by simp; omega)) (Below.refl _ _) (fun _ => by rfl)
    (fun pre W => (∃ v, Boxed W w.heap.size 23 v ∧ W.ownsRow w.heap.size 41 1 v (oopsOf pre).length (u32s (oopsOf pre)) ∧ True) ∧ Below w.heap.size w W)
    (fun _ _ _ => False)
    (OwnFrom.and (Own.from (holdsRow_own w.heap.size w.heap.size 23 41 1 (fun pre => (oopsOf pre).length) (fun pre => u32s (oopsOf pre)) (fun _ _ => True)) _) (ownFrom_below (Nat.le_refl _) (by simp; omega)))
    (fun _ _ _ _ _ hs _ _ => hs)
    ⟨⟨_, bO.alloc _, World.ownsRow_nil _ _ _ _, trivial⟩, hB0⟩
    (fun x => { tmps := #[.pointer (some ⟨L.b, 0, none⟩), undef, .slice none 0 0, .pointer (some ⟨w.heap.size, 0, none⟩), .int .u32 (2 * (x : Int)), .pointer (some ⟨L.b, 0, none⟩), .func (.func 123) #[] #[.pointer (some ⟨w.heap.size + 1, 0, none⟩)], .int .u32 (2 * (x : Int)), (hdrAt h.words x).val, undef, undef, undef, undef, undef], defers := [] }) ?assign ?body ?done ?stop
  case assign =>
    intro l x W K hK
    dsimp only [allEnc]
    gi_wp2
    exact hK
  case body =>
    rintro l pre x W ⟨⟨v, hv, hrow, _⟩, hB⟩ hlt
    have hc := hv.cell
    have hpl := oopsOf_length pre
    have HPL := Lib.hid hpl
    have hpl2 : (oopsOf pre).length ≤ 1048576 := by omega
    clear hpl
    gi_wp2_with (gi_at_builtin; refine wpListIn_append_own_at _ rfl _ _ 23 rfl w.heap.size 41 i0 (.int .u32 0) 1 4 Tryz.underlying23 hi hz0 hz1 hz2 rfl (by decide) _ _ _ rfl (hrow.alloc _) ⟨W.heap.size, 0, none⟩ 1 1 [.int .u32 (2 * (x : Int))] rfl rfl (cell_one_new _ _ _) (by simp [Value.oneCell']) (by unfold maxLen; omega) (by omega) (by have := hB.size; simp; omega) ?_; intro v' w1 hown' hgrow hnil hat; obtain ⟨g', cap', rfl⟩ := ownsRow_succ hown'; obtain ⟨hv1, hv2, hr2, hk2, hb2⟩ := hv.appended (by decide) hrow hB.size (Nat.le_refl _) hown' hgrow; have hc1 := hv1.cell; have hf1 := hv1.frozen)
    have hat2 : v.ownBlock = some g' ∨ W.heap.size ≤ g' := by
      rcases hat with h1 | h1
      · exact .inl h1.symm
      · have : g' = W.heap.size + 1 := by simpa [Value.ownBlock] using h1
        exact .inr (by omega)
    refine ⟨hk2.from _, kpB_append hv (by decide) hrow hown' hgrow hat2, ⟨_, hv2, ?_, trivial⟩, hB.trans hb2⟩
    rw [oopsOf_snoc]
    simpa [u32s] using hr2
  case done =>
    rintro D ys W hD rfl ⟨⟨v, hv, hrow, _⟩, hB⟩ hK
    have hc := hv.cell
    gi_wp2
    refine ⟨by simp, .inl ⟨_, _, rfl, run_takeDeferred hK, ?_⟩⟩
    exact ⟨_, results_tmp rfl _ _ _, v, rfl, ownsRow_putObj hrow _ hK rfl, hB.trans (belowK_b (w := w) (Nat.le_refl _) W D _ _ (by simp at hD; omega) hK rfl rfl)⟩
  case stop =>
    rintro D c pre W _ _ h _
    exact h.elim

end Go.Proofs.Eff

/- collect.Collect. -/
namespace Go.Proofs.Eff
open Go.RowKit Go.Shelf
attribute [local go_sem] Oper.semAt_some

def CollectR (w : World) (L : HLoc) (h' : HeapS) (e : Ending) (w' : World) : Prop :=
  (∃ v, e = .returned v) ∧ ∃ L', L'.b = L.b ∧ HeapAt w' L' h' ∧ Mod [L.b] w w' ∧ w.heap.size ≤ L'.gw ∧ w.heap.size ≤ L'.gs ∧ w.heap.size ≤ L'.gr

theorem aidx_none_of {l : AList} {k : Int} (h : ¬ k ∈ l.map (·.1)) : aidx l k 0 = none := by
  have : ∀ i, aidx l k i = none := by
    induction l with
    | nil => intro i; rfl
    | cons p r ih =>
      intro i
      simp only [List.map_cons, List.mem_cons, not_or] at h
      simp only [aidx]
      rw [if_neg (fun e => h.1 e.symm)]
      exact ih h.2 _
  exact this 0
theorem goesA_snoc {pl : List (Int × Int)} (hn : (pl.map (·.1)).Nodup) {k : Nat} (hk : k < pl.length) : aput (goesA (pl.take k)) pl[k].1 (.int .u32 pl[k].2) = goesA (pl.take (k + 1)) := by
  rw [aput_none (i := 0)]
  · rw [List.take_succ_eq_append_getElem hk]
    simp only [goesA, List.map_append, List.map_cons, List.map_nil]
  · refine aidx_none_of ?_
    intro hm
    have e : (goesA (pl.take k)).map (·.1) = (pl.map (·.1)).take k := by simp [goesA, List.map_take, Function.comp_def]
    rw [e] at hm
    obtain ⟨i, hi, he⟩ := List.getElem_of_mem hm
    have hi' : i < k := by simp at hi; omega
    have hl : i < (pl.map (·.1)).length := by simp; omega
    have h1 : (pl.map (·.1))[i] = (pl.map (·.1))[k]'(by simpa using hk) := by
      rw [List.getElem_take] at he; rw [he]; simp
    have := (List.getElem_inj hn).1 h1
    omega
/-- A slice, nil or not. -/
theorem own_any {w : World} {base n size : Nat} {e : TypeId} {v : Value} {xs : List Value} (h : w.ownsRow base e size v n xs) : ∃ ad c, v = .slice ad n c ∧ (0 < n → ∃ g, ad = some ⟨g, 0, none⟩ ∧ base ≤ g ∧ g < w.heap.size) := by
  rcases h.2 with ⟨h2, h3⟩ | ⟨g, c, cur, h2, h3, h4, _⟩
  · exact ⟨none, 0, by rw [h2, h3], fun h => by omega⟩
  · exact ⟨_, _, h2, fun _ => ⟨g, rfl, h3, lt_of_block h4⟩⟩
/-- In the first loop of a collection. -/
def C1 (W0 : World) (b mb g0 hb : Nat) (pl : List (Int × Int)) (k : Nat) (wr : World) : Prop :=
  ∃ mv : Int, 0 ≤ mv ∧ mv ≤ k ∧ MovAt wr b mb hb (.int .i64 0) (.int .i64 0) (.int .i64 0) (.int .i64 mv) g0 1 [0] 0 ∧ MapAt wr mb .u32 (goesA (pl.take k)) ∧ Mod [b, mb] W0 wr
def C2 (W0 : World) (b mb g0 hb : Nat) (mv : Int) (wr : World) : Prop :=
  ∃ n0 n1 : Int, MovAt wr b mb hb (.int .i64 n0) (.int .i64 n1) (.int .i64 0) (.int .i64 mv) g0 1 [0] 0 ∧ Mod [b] W0 wr
/-- Roots, of which some have been told where they go. -/
def mixR (pl : List (Int × Int)) (l : List Int) (k : Nat) : List Int := (l.take k).map (whereV pl) ++ l.drop k
theorem mixR_length (pl : List (Int × Int)) (l : List Int) (k : Nat) : (mixR pl l k).length = l.length := by simp [mixR]; omega
theorem mixR_wd (pl : List (Int × Int)) (l : List Int) (k : Nat) (hk : k < l.length) : wd (mixR pl l k) k = wd l k := by
  unfold mixR
  rw [wd_append_right (by simp; omega)]
  simp [wd, Nat.min_eq_left (Nat.le_of_lt hk)]
theorem mixR_set (pl : List (Int × Int)) (l : List Int) (k : Nat) (hk : k < l.length) : (mixR pl l k).set k (whereV pl (wd l k)) = mixR pl l (k + 1) := by
  unfold mixR
  have hl : ((l.take k).map (whereV pl)).length = k := by simp; omega
  rw [List.set_append_right _ _ (by omega), hl, Nat.sub_self, List.drop_eq_getElem_cons hk, List.set_cons_zero, List.take_succ_eq_append_getElem hk, List.map_append, List.append_assoc]
  simp [wd, hk]
theorem mixR_zero (pl : List (Int × Int)) (l : List Int) : mixR pl l 0 = l := by simp [mixR]
theorem mixR_all (pl : List (Int × Int)) (l : List Int) : mixR pl l l.length = l.map (whereV pl) := by simp [mixR]
theorem MovAt.told {W : World} {b mb hb g q : Nat} {t0 t1 t2 t3 : Value} {ws : List Int} {cl : Int} (ha : MovAt W b mb hb t0 t1 t2 t3 g q ws cl) (u0 u1 : Value) :
    (MovAt ((W.setCell ⟨b, 3, none⟩ u0).setCell ⟨b, 4, none⟩ u1) b mb hb u0 u1 t2 t3 g q ws cl ∧ Mod [b] W ((W.setCell ⟨b, 3, none⟩ u0).setCell ⟨b, 4, none⟩ u1)) ∧
    (MovAt ((W.setCell ⟨b, 4, none⟩ u1).setCell ⟨b, 3, none⟩ u0) b mb hb u0 u1 t2 t3 g q ws cl ∧ Mod [b] W ((W.setCell ⟨b, 4, none⟩ u1).setCell ⟨b, 3, none⟩ u0)) := by
  have hd := ha.ne
  have m1 := (mod_setCell W ⟨b, 3, none⟩ u0).trans (mod_setCell (W.setCell ⟨b, 3, none⟩ u0) ⟨b, 4, none⟩ u1)
  have m2 := (mod_setCell W ⟨b, 4, none⟩ u1).trans (mod_setCell (W.setCell ⟨b, 4, none⟩ u1) ⟨b, 3, none⟩ u0)
  refine ⟨⟨⟨by simpa using setB (i := 4) (setB (i := 3) ha.blk u0) u1, m1.row ha.row ?_⟩, m1⟩, ⟨⟨by simpa using setB (i := 3) (setB (i := 4) ha.blk u1) u0, m2.row ha.row ?_⟩, m2⟩⟩
  all_goals (intro g hg; cases hg; simp; omega)
theorem MovAt.freed {W : World} {b mb hb g q : Nat} {t0 t1 t2 t3 : Value} {ws : List Int} {cl : Int} (ha : MovAt W b mb hb t0 t1 t2 t3 g q ws cl) (u : Value) :
    MovAt (W.setCell ⟨b, 5, none⟩ u) b mb hb t0 t1 u t3 g q ws cl ∧ Mod [b] W (W.setCell ⟨b, 5, none⟩ u) := by
  have hd := ha.ne
  have m1 := mod_setCell W ⟨b, 5, none⟩ u
  exact ⟨⟨by simpa using setB (i := 5) ha.blk u, m1.row ha.row (by intro g hg; cases hg; simp; omega)⟩, m1⟩
theorem MovAt.drew {W : World} {b mb hb g q : Nat} {t0 t1 t2 t3 : Value} {ws : List Int} {cl : Int} (ha : MovAt W b mb hb t0 t1 t2 t3 g q ws cl) : MovAt W.drew b mb hb t0 t1 t2 t3 g q ws cl := ha.keep ((Ext.refl _).drew)
theorem Mod.drew {S : List Nat} {a w : World} (h : Mod S a w) : Mod S a w.drew := h.ext ((Ext.refl _).drew)
def C3 (wA : World) (b mb hb g0 : Nat) (t0 t1 t3 : Value) (h : HeapS) (pl : List (Int × Int)) (V : Int) (LV : List Int) (k : Nat) (wr : World) : Prop :=
  ∃ g q cl, MovAt wr b mb hb t0 t1 (.int .i64 0) t3 g q ([0] ++ layL h.words pl V (LV.take k)) cl ∧ 0 ≤ cl ∧ cl ≤ (([0] ++ layL h.words pl V (LV.take k)).length : Nat) ∧ Mod [b, g0] wA wr ∧ (g = g0 ∨ wA.heap.size ≤ g)
theorem layL_take {ws : List Int} {pl : List (Int × Int)} {V : Int} {l : List Int} {k : Nat} (hk : k < l.length) : layL ws pl V (l.take (k + 1)) = layL ws pl V (l.take k) ++ layAll ws pl V (l[k] / 2).toNat := by
  rw [List.take_succ_eq_append_getElem hk]; simp only [layL, List.flatMap_append, List.flatMap_cons, List.flatMap_nil, List.append_nil]
theorem layL_fits {h : HeapS} {os : List Nat} (wf : WF h os) (hso : Sound h os) (V : Int) (k : Nat) : ([0] ++ layL h.words (planOf h os) V ((liveOf h os).take k)).length ≤ h.words.length := by
  have hlv := live_valid wf hso
  have h1 := endAt_le wf (l := (liveOf h os).take k) (hlv.1.sublist (List.take_sublist _ _)) (fun x hx => hlv.2.1 x (List.mem_of_mem_take hx))
  have h2 := layL_length h.words (planOf h os) V ((liveOf h os).take k) 1
  rw [List.length_append, List.length_cons, List.length_nil]; omega
theorem clrAll_le (ws : List Int) (pl : List (Int × Int)) (V : Int) (a : Nat) : clrAll ws pl a ≤ (layAll ws pl V a).length := by
  rw [layAll_length]; unfold clrAll objLen; have := clrPart_le ws pl a (sizeAt ws a); omega
theorem mod_putObj (W : World) (D : Nat) (o : Obj) : Mod [D] W (W.putObj D o) := ⟨rfl, rfl, rfl, by simp [World.putObj], fun k _ hn => World.putObj_heap_other (by simpa using hn)⟩
theorem set5 {w : World} {rb : Nat} {a0 a1 a2 a3 a4 : Value} {T : TypeId} (h : w.heap[rb]? = some (.cells #[a0, a1, a2, a3, a4] T (0, 0))) (v0 v1 v2 v3 v4 : Value) :
    (((((w.setCell ⟨rb, 0, none⟩ v0).setCell ⟨rb, 1, none⟩ v1).setCell ⟨rb, 2, none⟩ v2).setCell ⟨rb, 3, none⟩ v3).setCell ⟨rb, 4, none⟩ v4).heap[rb]? = some (.cells #[v0, v1, v2, v3, v4] T (0, 0)) ∧
    Mod [rb] w (((((w.setCell ⟨rb, 0, none⟩ v0).setCell ⟨rb, 1, none⟩ v1).setCell ⟨rb, 2, none⟩ v2).setCell ⟨rb, 3, none⟩ v3).setCell ⟨rb, 4, none⟩ v4) := by
  have h0 := setB (i := 0) h v0
  have m0 := mod_setCell w ⟨rb, 0, none⟩ v0
  generalize w.setCell ⟨rb, 0, none⟩ v0 = u0 at *
  have h1 := setB (i := 1) h0 v1
  have m1 := m0.trans (mod_setCell u0 ⟨rb, 1, none⟩ v1)
  generalize u0.setCell ⟨rb, 1, none⟩ v1 = u1 at *
  have h2 := setB (i := 2) h1 v2
  have m2 := m1.trans (mod_setCell u1 ⟨rb, 2, none⟩ v2)
  generalize u1.setCell ⟨rb, 2, none⟩ v2 = u2 at *
  have h3 := setB (i := 3) h2 v3
  have m3 := m2.trans (mod_setCell u2 ⟨rb, 3, none⟩ v3)
  generalize u2.setCell ⟨rb, 3, none⟩ v3 = u3 at *
  have h4 := setB (i := 4) h3 v4
  have m4 := m3.trans (mod_setCell u3 ⟨rb, 4, none⟩ v4)
  exact ⟨by simpa using h4, m4⟩
/-- The result is stored, and what was deferred is taken. -/
theorem Collect_end {w X wB : World} {L : HLoc} {h' : HeapS} {DD rb : Nat} (v0 v1 v2 v3 v4 : Value) (hX : Mod [L.b] w X) (hLR : LoadR X.drew L h' (.returned (.int .i64 0)) wB) (hLb : L.b < w.heap.size) (hrb : w.heap.size ≤ rb) (hrx : rb < X.heap.size) (hDD : w.heap.size ≤ DD) (hDX : DD < X.heap.size) :
    ∃ L', L'.b = L.b ∧ HeapAt ((((((wB.setCell ⟨rb, 0, none⟩ v0).setCell ⟨rb, 1, none⟩ v1).setCell ⟨rb, 2, none⟩ v2).setCell ⟨rb, 3, none⟩ v3).setCell ⟨rb, 4, none⟩ v4).putObj DD (.deferred none)) L' h' ∧ Mod [L.b] w ((((((wB.setCell ⟨rb, 0, none⟩ v0).setCell ⟨rb, 1, none⟩ v1).setCell ⟨rb, 2, none⟩ v2).setCell ⟨rb, 3, none⟩ v3).setCell ⟨rb, 4, none⟩ v4).putObj DD (.deferred none)) ∧ w.heap.size ≤ L'.gw ∧ w.heap.size ≤ L'.gs ∧ w.heap.size ≤ L'.gr := by
  obtain ⟨_, L', e1, hA, hmd, n1, n2, n3⟩ := hLR
  have hx : X.drew.heap.size = X.heap.size := rfl
  have hs := hX.size
  have m0 := mod_setCell wB ⟨rb, 0, none⟩ v0
  have m1 := m0.trans (mod_setCell (wB.setCell ⟨rb, 0, none⟩ v0) ⟨rb, 1, none⟩ v1)
  have m2 := m1.trans (mod_setCell ((wB.setCell ⟨rb, 0, none⟩ v0).setCell ⟨rb, 1, none⟩ v1) ⟨rb, 2, none⟩ v2)
  have m3 := m2.trans (mod_setCell (((wB.setCell ⟨rb, 0, none⟩ v0).setCell ⟨rb, 1, none⟩ v1).setCell ⟨rb, 2, none⟩ v2) ⟨rb, 3, none⟩ v3)
  have m4 := m3.trans (mod_setCell ((((wB.setCell ⟨rb, 0, none⟩ v0).setCell ⟨rb, 1, none⟩ v1).setCell ⟨rb, 2, none⟩ v2).setCell ⟨rb, 3, none⟩ v3) ⟨rb, 4, none⟩ v4)
  generalize ((((wB.setCell ⟨rb, 0, none⟩ v0).setCell ⟨rb, 1, none⟩ v1).setCell ⟨rb, 2, none⟩ v2).setCell ⟨rb, 3, none⟩ v3).setCell ⟨rb, 4, none⟩ v4 = Y at *
  clear m0 m1 m2 m3
  have m4' : Mod [rb] wB Y := m4
  have mp := mod_putObj Y DD (.deferred none)
  have mt : Mod [rb, DD] wB (Y.putObj DD (.deferred none)) := (m4'.mono (by simp)).trans (mp.mono (by simp))
  refine ⟨L', e1, hA.mod mt ?_, ?_, by omega, by omega, by omega⟩
  · intro x hx
    simp only [HLoc.blocks, List.mem_cons, List.not_mem_nil, or_false] at hx ⊢
    omega
  · refine ((hX.ext ((Ext.refl _).drew)).trans hmd).via mt ?_
    intro x hx
    simp only [List.mem_cons, List.not_mem_nil, or_false] at hx
    right; omega
theorem cell_far {w : World} {p q : Addr} {u x : Value} (h : w.cell? q = some x) (hne : q.block ≠ p.block) : (w.setCell p u).cell? q = some x := by
  rw [World.cell?_of_block (w := w) (Below.heap_setCell _ _ _ _ hne)]; exact h
theorem kpB_store {W : World} {B : Nat} {t : TypeId} {v : Value} (hb : Boxed W B t v) (hv : v.ownBlock = none) (u : Value) (hu : u.ownBlock = none) : KpB B W (W.setCell ⟨B, 0, none⟩ u) := by
  have h1 : rowOf B W = none := by simp [rowOf, hb.cell, hv]
  have h2 : rowOf B (W.setCell ⟨B, 0, none⟩ u) = none := by simp [rowOf, (hb.set u).cell, hu]
  refine ⟨by simp, ?_, .inl (by rw [h1, h2])⟩
  intro j cs T fz _ hB _
  exact Below.heap_setCell _ _ _ _ (by simpa using hB)
theorem moved_cell {w : World} {base g c : Nat} {pl : List (Int × Int)} (h : w.ownsRow base 111 2 (.slice (some ⟨g, 0, none⟩) pl.length c) pl.length (movedCells pl)) (k : Nat) (hk : k < pl.length) : w.cell? ⟨g, k * 2, none⟩ = some (.int .u32 pl[k].1) ∧ w.cell? ⟨g, k * 2 + 1, none⟩ = some (.int .u32 pl[k].2) := by
  have e : ∀ (pl : List (Int × Int)) (k : Nat) (hk : k < pl.length), (movedCells pl)[k * 2]? = some (.int .u32 pl[k].1) ∧ (movedCells pl)[k * 2 + 1]? = some (.int .u32 pl[k].2) := by
    intro pl
    induction pl with
    | nil => intro k hk; simp at hk
    | cons p l ih =>
      intro k hk
      cases k with
      | zero => simp [movedCells]
      | succ k =>
        have := ih k (by simpa using hk)
        simp only [movedCells, List.flatMap_cons] at *
        rw [show (k + 1) * 2 = k * 2 + 2 by omega]
        simpa using this
  obtain ⟨cur, h1, h2, h3⟩ := row_block h
  have h4 := e pl k hk
  rw [← h3] at h4
  simp only [List.getElem?_take] at h4
  rw [if_pos (by omega), if_pos (by omega)] at h4
  obtain ⟨q1, _⟩ := blk h1
  rw [q1, q1]
  simpa using h4

set_option maxRecDepth 100000 in
set_option maxHeartbeats 4000000 in
theorem Collect_ok {w : World} {L : HLoc} {h : HeapS} {os : List Nat} (ha : HeapAt w L h) (wf : WF h os) (hso : Sound h os) (hs : Spares w) :
    Calls Tryz.prog 20 #[.pointer (some ⟨L.b, 0, none⟩)] w (CollectR w L (collectH h os)) := by
  have hp := hs.pos
  have hmm := @run_makeMap Tryz.prog
  have HSZ := Lib.hid (fun W (hE : Ext w W) => size_ok (ha.keep hE) wf)
  have HPL := Lib.hid (fun W (hE : Ext w W) => Plan_ok (ha.keep hE) wf hso (hs.kept hE hp))
  have hlv := live_valid wf hso
  have hol := reach_le wf
  have hpl : (planOf h os).length ≤ 1048576 := by unfold planOf; rw [planFrom_length]; omega
  have HND : Hid (((planOf h os).map (·.1)).Nodup) := by
    show List.Nodup _
    unfold planOf; rw [plan_fst]; exact hlv.1
  have HA := Lib.hid ha
  have HW := Lib.hid wf
  have HS := Lib.hid hs
  have HSO := Lib.hid hso
  have hz0 : (h.size == 0) = false := by have := wf.size0; rw [beq_eq_false_iff_ne]; omega
  have HLB := Lib.hid ha.bl
  clear ha wf hs hso hlv hol
  obtain ⟨pl, hplE⟩ : ∃ pl, pl = planOf h os := ⟨_, rfl⟩
  rw [← hplE] at hpl HND HPL
  have PE := Lib.hid hplE
  clear hplE
  refine (callsIn_wide (n := 4)).1 ?_
  refine callsIn_of_wp_marks Tryz.func20 rfl trivial ?_ rfl
  simp only [Tryz.ntmps20, List.size_toArray, List.length_cons, List.length_nil, Nat.reduceAdd, Nat.reduceSub, Array.replicate_succ, Array.replicate_zero, List.push_toArray, List.append_toArray, List.nil_append, List.cons_append]
  refine wpIn_wide.2 ?_
  go_wp2_with (first | (go_at_call 52; refine (HSZ.out _ ((Ext.refl _).alloc _)).mono ?_; rintro e w' ⟨rfl, rfl⟩) | (go_at_call 69; refine (HPL.out _ (((((Ext.refl _).alloc _).alloc _).alloc _).alloc _)).mono ?_; rintro e w1 ⟨v, rfl, hr1, hb1⟩; obtain ⟨ad, cc, rfl, hadd⟩ := own_any hr1; have R1 := Lib.hid hr1; have AD := Lib.hid hadd; have B1 := Lib.hid hb1; clear hr1 hb1 hadd))
  have I0 : Hid (C1 w1 (w.heap.size + 1 + 1 + 1) (w.heap.size + 1) (w.heap.size + 1 + 1) L.b pl 0 w1 ∧ Ext w w1 ∧ w1.heap[w.heap.size]? = some (.cells #[.int .i64 0, .int .i64 0, .int .i64 0, .int .i64 0, .int .i64 0] 35)) := by
    refine ⟨⟨0, by omega, by omega, ⟨?_, ?_⟩, ?_, Mod.refl _ _⟩, ?_, ?_⟩
    · exact B1.out.keep (newB _ _ _ (by simp))
    · refine row_keep ?_ (((Ext.refl _).alloc _).trans B1.out)
      have := World.ownsRow_lit (base := 0) (e := 24) (size := 1) ((w.alloc (.cells #[.int .i64 0, .int .i64 0, .int .i64 0, .int .i64 0, .int .i64 0] 35)).alloc (.map #[] 0)) #[.int .u32 0] 1 (Nat.zero_le _) (by unfold maxLen; omega) rfl
      simpa [u32s] using this
    · have := MapAt.new (w.alloc (.cells #[.int .i64 0, .int .i64 0, .int .i64 0, .int .i64 0, .int .i64 0] 35)) (w.heap.size + 1) (by simp) .u32
      have := this.keep ((((Ext.refl _).alloc (.cells #[.int .u32 0] 24)).alloc (.cells #[.pointer (some ⟨L.b, 0, none⟩), .map (some (w.heap.size + 1)), .slice (some ⟨w.heap.size + 1 + 1, 0, none⟩) 1 1, .int .i64 0, .int .i64 0, .int .i64 0, .int .i64 0, .int .i64 0] 154)).trans B1.out)
      simpa [goesA] using this
    · exact (((((Ext.refl _).alloc _).alloc _).alloc _).alloc _).trans B1.out
    · exact B1.out.keep (keepB (keepB (keepB (newB _ _ _ rfl) _) _) _)
  have R1' : Hid (w1.ownsRow (w.heap.size + 1 + 1 + 1 + 1) 111 2 (.slice ad pl.length cc) pl.length (movedCells pl)) := row_mono R1.out (by simp)
  have AD' : Hid (0 < pl.length → ∃ g, ad = some ⟨g, 0, none⟩ ∧ w.heap.size + 1 + 1 + 1 + 1 ≤ g ∧ g < w1.heap.size) := by
    show _ → _
    have := AD.out; simpa using this
  clear R1 AD B1
  obtain ⟨b, hb⟩ : ∃ n, n = w.heap.size + 1 + 1 + 1 := ⟨_, rfl⟩
  obtain ⟨mb, hmb⟩ : ∃ n, n = w.heap.size + 1 := ⟨_, rfl⟩
  obtain ⟨g0, hg0⟩ : ∃ n, n = w.heap.size + 1 + 1 := ⟨_, rfl⟩
  obtain ⟨rb, hrb⟩ : ∃ n, n = w.heap.size := ⟨_, rfl⟩
  rw [← hb, ← hg0, ← hmb, ← hrb] at I0
  rw [← hb] at AD' R1'
  rw [← hb, ← hg0, ← hmb, ← hrb]
  have hord : w.heap.size ≤ rb ∧ rb < mb ∧ mb < g0 ∧ g0 < b := by omega
  clear hb hmb hg0 hrb

  go_loopw [27] (fun i wr => ∃ (k : Nat), k ≤ pl.length ∧ i = .int .i64 k ∧ C1 w1 b mb g0 L.b pl k wr) (fun i _ => pl.length - (intOf i).toNat)
  case atStart => exact ⟨0, by omega, rfl, I0.out.1⟩
  case round =>
    obtain ⟨k, hk, rfl, mv, m0, m1, hM, hP, hD⟩ := hrel
    have M := Lib.hid hM
    have P := Lib.hid hP
    have D := Lib.hid hD
    clear hM hP hD
    by_cases hlt : k < pl.length
    · obtain ⟨g, rfl, hg1, hg2⟩ := AD'.out (by omega)
      have hcx := moved_cell (D.out.row R1'.out (by intro q hq; cases hq; simp; omega)) k hlt
      obtain ⟨cx1, cx2⟩ := hcx
      have SN := Lib.hid (goesA_snoc HND.out hlt)
      generalize pl[k].1 = x at *
      generalize pl[k].2 = y at *
      obtain ⟨k1, k2⟩ := blk M.out.blk
      have hbl := lt_of_block M.out.blk
      have hmm2 : b ≠ mb := P.out.ne_cells M.out.blk
      obtain ⟨w3, hup, hm3, hmod3⟩ := run_mapUpdate_int (P := Tryz.prog) ((wr.alloc (.cells #[.int .u32 x, .int .u32 y] 111)).drew) Tryz.underlying152 Tryz.underlying41 (P.out.keep (((Ext.refl _).alloc _).drew)) x (.int .u32 y)
      have q1 := hmod3.keep (keepB M.out.blk _) (by simp; omega)
      have hwm : wr.heap.size ≠ mb := by have := P.out.lt; omega
      have q2 := hmod3.keep (newB wr (.cells #[.int .u32 x, .int .u32 y] 111) _ rfl) (by simp; omega)
      have M3 : Hid (MovAt w3 b mb L.b (.int .i64 0) (.int .i64 0) (.int .i64 0) (.int .i64 mv) g0 1 [0] 0) := by
        refine ⟨q1, hmod3.row (row_keep M.out.row (((Ext.refl _).alloc _).drew)) ?_⟩
        intro q hq; cases hq; simp; omega
      have D3 : Hid (Mod [b, mb] w1 w3) := D.out.trans ((((((Ext.refl wr).alloc (.cells #[.int .u32 x, .int .u32 y] 111)).drew).mod [b, mb])).trans (hmod3.mono (by simp)))
      rw [SN.out] at hm3
      have P3 := Lib.hid hm3
      obtain ⟨j1, j2⟩ := blk q1
      obtain ⟨j3, j4⟩ := blk q2
      have hbl3 := lt_of_block q1
      clear hm3 hmod3 q1 q2
      by_cases hxy : x = y
      · have hxy2 : (x != y) = false := by simpa using hxy
        have HXY := Lib.hid hxy
        clear hxy
        go_wp2
        go_region
        go_wp2
        go_roundw
        case rel => exact ⟨k + 1, by omega, by go_num, mv, m0, by omega, M3.out, P3.out, D3.out⟩
        case measure => simp [intOf]; omega
      · have hxy2 : (x != y) = true := by simpa using hxy
        clear hxy
        go_wp2
        go_region
        go_wp2
        have M4 : Hid (MovAt (w3.setCell ⟨b, 6, none⟩ (.int .i64 (mv + 1))) b mb L.b (.int .i64 0) (.int .i64 0) (.int .i64 0) (.int .i64 (mv + 1)) g0 1 [0] 0) := by
          refine ⟨by simpa using setB (i := 6) M3.out.blk (.int .i64 (mv + 1)), (mod_setCell w3 ⟨b, 6, none⟩ (.int .i64 (mv + 1))).row M3.out.row ?_⟩
          intro q hq; cases hq; have := M3.out.ne; simp; omega
        have D4 := Lib.hid (D3.out.trans ((mod_setCell w3 ⟨b, 6, none⟩ (.int .i64 (mv + 1))).mono (by simp)))
        have P4 := Lib.hid (P3.out.mod (mod_setCell w3 ⟨b, 6, none⟩ (.int .i64 (mv + 1))) (by simp; omega))
        go_roundw
        case rel => exact ⟨k + 1, by omega, by go_num, mv + 1, by omega, by omega, M4.out, P4.out, D4.out⟩
        case measure => simp [intOf]; omega
    · obtain rfl : k = pl.length := by omega
      rw [List.take_length] at P
      have EW := Lib.hid (Mod.trans (I0.out.2.1.mod [b, mb]) D.out)
      go_wp2_with (go_at_call 70; refine (all70 _ _).mono ?_; rintro e w' ⟨rfl, rfl⟩)
      have bO := Boxed.new wr 3 (.int .i64 0)
      have bN := Boxed.new (wr.alloc (.cells #[.int .i64 0] 3)) 27 (.pointer (some ⟨L.b, 0, none⟩))
      rw [World.size_alloc] at bN
      have hB0 : Ext wr ((wr.alloc (.cells #[.int .i64 0] 3)).alloc (.cells #[.pointer (some ⟨L.b, 0, none⟩)] 27)) := ((Ext.refl wr).alloc _).alloc _
      have h1n : 1 ≤ 4 := by decide
      have hw1 := EW.out.size
      have AW : Hid (HeapAt wr L h) := HA.out.mod EW.out (by
        intro q hq
        have := HLB.out q hq
        simp only [List.mem_cons, List.not_mem_nil, or_false]; omega)
      have SW : Hid (Spares wr) := HS.out.mod EW.out (by simp; omega)
      refine (wpIn_wide (n := 4)).1 ?_
      refine wpIn_rangeFunc_ownG rfl h1n (gf := 123) (lb := #[.pointer (some ⟨wr.heap.size + 1, 0, none⟩)]) rfl trivial (enters_of Tryz.func123 (by kernel_rfl) rfl)
        (all_stops _ wr.heap.size (wr.heap.size + 1) bN.cell (by simp) (AW.out.keep hB0) HW.out (SW.out.kept hB0 (by omega)) (by simp; omega) (by omega) (by simp [rowOf, (bO.alloc (.cells #[.pointer (some ⟨L.b, 0, none⟩)] 27)).cell, Value.ownBlock])) KpB.trans (KpB.turn (by simp; omega)) (Below.refl _ _) (fun _ => by rfl)
        (fun pre W => Boxed W wr.heap.size 3 (.int .i64 ((pre.length : Nat) : Int)) ∧ Below wr.heap.size wr W)
        (fun _ _ _ => False)
        (OwnFrom.and (Own.from (boxed_own wr.heap.size 3 (fun pre : List Nat => Value.int .i64 ((pre.length : Nat) : Int))) _) (ownFrom_below (Nat.le_refl _) (by simp; omega)))
        (fun _ _ _ _ _ hs _ _ => hs)
        ⟨bO.alloc _, hB0⟩ ?_ ?assign ?body ?done ?stop
      case assign =>
        intro l x W K hK
        dsimp only [allEnc]
        gi_wp2
        exact hK
      case body =>
        rintro l pre x W ⟨hv, hB⟩ hlt2
        have hc := hv.cell
        have hf := hv.frozen
        have hol2 := reach_le HW.out
        have hb1 : ((pre.length : Nat) : Int) + 1 ≤ 2000000 := by omega
        gi_wp2
        refine ⟨?_, kpB_store hv rfl _ rfl, ?_, ?_⟩
        · exact KeepsFrom.of_grownBy (grownBy_setCell' W wr.heap.size _) (by intro j e; cases e; simp; omega)
        · have := hv.set (.int .i64 (((pre ++ [x]).length : Nat) : Int))
          simpa using this
        · exact hB.setCell (Nat.le_refl _) _
      case done =>
        rintro DD ys W hDD rfl ⟨hv, hB⟩ hK
        have hDD2 : wr.heap.size ≤ DD := by simp at hDD; omega
        have EB : Hid (Ext wr W) := hB
        have M5 := Lib.hid (M.out.keep hB)
        have P5 := Lib.hid (P.out.keep hB)
        have A5 := Lib.hid (AW.out.keep hB)
        have S5 := Lib.hid (SW.out.kept hB (by omega))
        have hDl := lt_of_block hK
        have hbo := lt_of_block M.out.blk
        have KK := Lib.hid hK
        have R5 : Hid (W.ownsRow (b + 1) 111 2 (.slice ad pl.length cc) pl.length (movedCells pl)) := row_keep (D.out.row R1'.out (by
          intro q hq
          have := (R1'.out.lt q hq).1
          simp; omega)) hB
        have RB5 : Hid (W.heap[rb]? = some (.cells #[.int .i64 0, .int .i64 0, .int .i64 0, .int .i64 0, .int .i64 0] 35)) := EB.out.keep (D.out.keep I0.out.2.2 (by simp; omega))
        have hw5 := hB.size
        have MW : Hid (Mod [b, mb] w W) := EW.out.ext hB
        obtain ⟨k1, k2⟩ := blk M5.out.blk
        have hc := hv.cell
        clear hv hB hK hDD bO bN hB0
        have hbl5 := lt_of_block M5.out.blk
        have hyl := reach_le HW.out
        go_wp2
        go_cut [] from 74 (fun wx => C2 W b mb g0 L.b mv wx)
        case first =>
          have hq1 : IntKind.i64.wrap ((ys.length : Int) - (pl.length : Int)) = (ys.length : Int) - (pl.length : Int) := IntWalk.i64_in _ (by omega)
          have hne1 : wr.heap.size ≠ b := by have := lt_of_block M.out.blk; omega
          go_region_held3 (fun w' => w'.cell? ⟨wr.heap.size, 0, none⟩ = some (.int .i64 (ys.length : Int))) (first | exact cell_far (w := W) hc hne1 | exact cell_far (w := _) ‹_› hne1 | go_keep) (fail)
          all_goals
            go_wp2
            go_meet
            case rel => first | exact ⟨_, _, (M5.out.told _ _).1.1.drew, (M5.out.told _ _).1.2.drew⟩ | exact ⟨_, _, (M5.out.told _ _).2.1.drew, (M5.out.told _ _).2.2.drew⟩
        case rest =>
          obtain ⟨n0, n1, f1, f2⟩ := hcut
          have M6 := Lib.hid f1
          have D6 := Lib.hid f2
          have A6 : Hid (HeapAt wc L h) := A5.out.mod f2 (by
            intro q hq
            have := HLB.out q hq
            simp only [List.mem_cons, List.not_mem_nil, or_false]; omega)
          have S6 : Hid (Spares wc) := S5.out.mod f2 (by simp; omega)
          have P6 : Hid (MapAt wc mb .u32 (goesA pl)) := P5.out.mod f2 (by simp; omega)
          have hw6 := f2.size
          have hrl := HW.out.rlen
          have HRL := Lib.hid hrl
          have hrl2 : h.roots.length ≤ 64 := by omega
          have hrl3 : 64 ≤ h.roots.length := by omega
          have HRT : Hid (Calls Tryz.prog 71 #[.pointer (some ⟨L.b, 0, none⟩)] wc fun e w' => ∃ g c, e = .returned (.slice (some ⟨g, 0, none⟩) h.roots.length c) ∧ w'.ownsRow wc.heap.size 41 1 (.slice (some ⟨g, 0, none⟩) h.roots.length c) h.roots.length (u32s h.roots) ∧ Ext wc w') := (Roots_ok A6.out HW.out).mono fun e w' ⟨g, c, h1, h2, h3⟩ => ⟨g, c, by simpa using h1, by simpa using h2, h3⟩
          clear f1 f2 hrl k1 k2 hc
          go_wp2_with (go_at_call 71; refine HRT.out.mono ?_; rintro e w7 ⟨gr, cr, rfl, hr7, hb7⟩; have R7 := Lib.hid hr7; have B7 := Lib.hid hb7; clear hr7 hb7)
          have M7 := Lib.hid (M6.out.keep B7.out)
          have P7 := Lib.hid (P6.out.keep B7.out)
          have hgr := R7.out.lt gr rfl
          have hw7 := B7.out.size
          have hbc := lt_of_block M6.out.blk
          have hmc := P6.out.lt
          go_loopw [78] (fun i wx => ∃ (k : Nat), k ≤ h.roots.length ∧ i = .int .i64 k ∧ wx.ownsRow wc.heap.size 41 1 (.slice (some ⟨gr, 0, none⟩) h.roots.length cr) h.roots.length (u32s (mixR pl h.roots k)) ∧ Mod [gr] w7 wx) (fun i _ => h.roots.length - (intOf i).toNat)
          case atStart => exact ⟨0, by omega, rfl, by rw [mixR_zero]; exact R7.out, Mod.refl _ _⟩
          case round =>
            obtain ⟨k, hk, rfl, hrow, hmd⟩ := hrel
            have ROW := Lib.hid hrow
            have MD := Lib.hid hmd
            clear hrow hmd
            by_cases hlt : k < h.roots.length
            · have cx : wr.cell? ⟨gr, k, none⟩ = some (.int .u32 (wd h.roots k)) := by
                rw [row_cell ROW.out k hlt]
                have := mixR_wd pl h.roots k hlt
                have hl := mixR_length pl h.roots k
                rw [← this]
                simp [u32s, wd, hl, hlt]
              have fx := row_free ROW.out k
              have hx0 := HW.out.root k
              have HWx := Lib.hid (where72 b mb _ _ _ _ _ _ _ pl (wd h.roots k) wr (MD.out.keep M7.out.blk (by simp; omega)) (P7.out.mod MD.out (by simp; omega)) hx0.1 hx0.2)
              have ST : Hid ((wr.setCell ⟨gr, k, none⟩ (.int .u32 (whereV pl (wd h.roots k)))).ownsRow wc.heap.size 41 1 (.slice (some ⟨gr, 0, none⟩) h.roots.length cr) h.roots.length (u32s (mixR pl h.roots (k + 1)))) := by
                have := row_set ROW.out k (.int .u32 (whereV pl (wd h.roots k)))
                rw [u32s_set, mixR_set pl h.roots k hlt] at this; exact this
              have MS := Lib.hid (MD.out.trans (mod_setCell wr ⟨gr, k, none⟩ (.int .u32 (whereV pl (wd h.roots k)))))
              have hki : (k : Int) < (h.roots.length : Int) := by omega
              generalize whereV pl (wd h.roots k) = y at *
              generalize whereB pl (wd h.roots k) = z at *
              generalize wd h.roots k = x at *
              go_wp2_with (go_at_call 72; refine HWx.out.mono ?_; rintro e w8 ⟨rfl, rfl⟩)
              go_roundw
              case rel => exact ⟨k + 1, by omega, by go_num, ST.out, MS.out⟩
              case measure => simp [intOf]; omega
            · obtain rfl : k = h.roots.length := by omega
              rw [mixR_all] at ROW
              have hRE : h.roots.map (whereV pl) = rootsC h ys := by rw [PE.out]; rfl
              rw [hRE] at ROW
              have A9 : Hid (HeapAt wr L h) := (A6.out.keep B7.out).mod MD.out (by
                intro q hq
                have := HLB.out q hq
                simp only [List.mem_cons, List.not_mem_nil, or_false]; omega)
              have S9 : Hid (Spares wr) := (S6.out.kept B7.out (by omega)).mod MD.out (by simp; omega)
              have M9 : Hid (MovAt wr b mb L.b (.int .i64 n0) (.int .i64 n1) (.int .i64 0) (.int .i64 mv) g0 1 [0] 0) := ⟨MD.out.keep M7.out.blk (by simp; omega), MD.out.row M7.out.row (by intro q hq; cases hq; simp; omega)⟩
              have P9 : Hid (MapAt wr mb .u32 (goesA pl)) := P7.out.mod MD.out (by simp; omega)
              have Q9 : Hid (wr.ownsRow (b + 1) 111 2 (.slice ad pl.length cc) pl.length (movedCells pl)) := MD.out.row (row_keep (D6.out.row R5.out (by
                intro q hq
                have := (R5.out.lt q hq).1
                simp; omega)) B7.out) (by
                intro q hq
                have := (R5.out.lt q hq).2
                simp; omega)
              have RB9 : Hid (wr.heap[rb]? = some (.cells #[.int .i64 0, .int .i64 0, .int .i64 0, .int .i64 0, .int .i64 0] 35)) := MD.out.keep (B7.out.keep (D6.out.keep RB5.out (by simp; omega))) (by simp; omega)
              have K9 : Hid (wr.heap[DD]? = some (.deferred (some []))) := MD.out.keep (B7.out.keep (D6.out.keep KK.out (by simp; omega))) (by simp; omega)
              have MW9 : Hid (Mod [L.b] w wr) := ((((Mod.refl [L.b] w).via MW.out (by intro x hx; simp at hx; right; omega)).via D6.out (by intro x hx; simp at hx; right; omega)).ext B7.out).via MD.out (by intro x hx; simp at hx; right; omega)
              have hw9 := MD.out.size
              have hWD : Calls Tryz.prog 73 #[.pointer (some ⟨L.b, 0, none⟩)] wr fun e w' => ∃ g c, e = .returned (.slice (some ⟨g, 0, none⟩) h.words.length c) ∧ w'.ownsRow wr.heap.size 24 1 (.slice (some ⟨g, 0, none⟩) h.words.length c) h.words.length (u32s h.words) ∧ Ext wr w' := (Words_ok A9.out HW.out).mono fun e w' ⟨g, c, h1, h2, h3⟩ => ⟨g, c, by simpa using h1, by simpa using h2, h3⟩
              have HWD := Lib.hid hWD
              clear hWD hRE
              have RO9 := Lib.hid ROW.out
              obtain ⟨w9, hw9e⟩ : ∃ w9, w9 = wr := ⟨_, rfl⟩
              subst hw9e
              have hpos := HW.out.pos
              have hbig := HW.out.big
              go_wp2_with (go_at_call 73; refine HWD.out.mono ?_; rintro e wA ⟨gd, cd, rfl, hrA, hbA⟩; have OA := Lib.hid hrA; have BA := Lib.hid hbA; clear hrA hbA)
              clear M5 P5 A5 S5 KK R5 RB5 MW M6 A6 S6 P6 R7 B7 M7 P7 HRT HWD EB M P EW AW SW
              have hgd := OA.out.lt gd rfl
              have hwA := BA.out.size
              have MA := Lib.hid (M9.out.keep BA.out)
              have PA := Lib.hid (P9.out.keep BA.out)
              have AA := Lib.hid (A9.out.keep BA.out)
              have SA := Lib.hid (S9.out.kept BA.out (by omega))
              have QA := Lib.hid (row_keep Q9.out BA.out)
              have RA := Lib.hid (row_keep RO9.out BA.out)
              have LVE : Hid (pl.map (·.1) = liveOf h ys) := by show _ = _; rw [PE.out]; unfold planOf; rw [plan_fst]
              have hLL : (liveOf h ys).length = pl.length := by rw [← LVE.out]; simp
              have HLL := Lib.hid hLL
              have hVE : voidC h ys = wd (rootsC h ys) 0 := rfl
              have hrC := rootsC_len (h := h) (os := ys) HW.out
              have HRC := Lib.hid hrC
              clear hLL hrC
              go_loopw [97] (fun i wx => ∃ (k : Nat), k ≤ pl.length ∧ i = .int .i64 k ∧ C3 wA b mb L.b g0 (.int .i64 n0) (.int .i64 n1) (.int .i64 mv) h pl (voidC h ys) (liveOf h ys) k wx) (fun i _ => pl.length - (intOf i).toNat)
              case atStart => exact ⟨0, by omega, rfl, g0, 1, 0, by simpa [layL] using MA.out, by omega, Int.natCast_nonneg _, Mod.refl _ _, .inl rfl⟩
              case round =>
                obtain ⟨k, hk, rfl, g, q, cl, f1, f2, f3, f4, f5⟩ := hrel
                have F1 := Lib.hid f1
                have F4 := Lib.hid f4
                have F5 := Lib.hid f5
                clear f1 f4 f5
                by_cases hlt : k < pl.length
                · obtain ⟨gp, hadE, hg1, hg2⟩ := AD'.out (by omega)
                  subst hadE
                  have hgpl := (QA.out.lt gp rfl)
                  have hgpg : gp ≠ g := by
                    rcases F5.out with h1 | h1
                    · omega
                    · have := (Q9.out.lt gp rfl).2; omega
                  have hcx := moved_cell (F4.out.row QA.out (by intro q hq; cases hq; simp; omega)) k hlt
                  obtain ⟨cx1, cx2⟩ := hcx
                  have hkl : k < (liveOf h ys).length := by rw [HLL.out]; exact hlt
                  have hPK : pl[k].1 = (liveOf h ys)[k] := by
                    have : (pl.map (·.1))[k]'(by simpa using hlt) = (liveOf h ys)[k] := by simp only [LVE.out]
                    simpa using this
                  have hov := (live_valid HW.out HSO.out).2.1 _ (List.getElem_mem hkl)
                  have LT := Lib.hid (layL_take (ws := h.words) (pl := pl) (V := voidC h ys) hkl)
                  rw [hPK] at cx1
                  have fit0 : ([0] ++ layL h.words pl (voidC h ys) ((liveOf h ys).take k)).length ≤ h.words.length := by rw [PE.out]; exact layL_fits HW.out HSO.out _ k
                  have hcl := clrAll_le h.words pl (voidC h ys) ((liveOf h ys)[k] / 2).toNat
                  have hv0 := rootsC_rng (h := h) (os := ys) HW.out HSO.out _ (voidC_mem HW.out)
                  have cr0 : wr.cell? ⟨gr, 0, none⟩ = some (.int .u32 (voidC h ys)) := by
                    have hr := F4.out.row RA.out (by intro q hq; cases hq; simp; omega)
                    rw [row_cell hr 0 (by omega)]
                    have : 0 < (rootsC h ys).length := by rw [HRC.out]; omega
                    simp [u32s, voidC, wd, this]
                  generalize (liveOf h ys)[k] = o at *
                  generalize pl[k].2 = y at *
                  clear hPK
                  have hbw := lt_of_block F1.out.blk
                  have hgw := row_lt F1.out.row
                  have LAY : Hid (∀ W, Ext wr W → Calls Tryz.prog 74 #[.pointer (some ⟨b, 0, none⟩), .int .u32 o, .slice (some ⟨gd, 0, none⟩) h.words.length cd, .int .u32 (voidC h ys)] W fun e w' => e = .returned (.tuple #[]) ∧ LayR W b mb L.b (.int .i64 n0) (.int .i64 n1) (.int .i64 0) (.int .i64 mv) g (([0] ++ layL h.words pl (voidC h ys) ((liveOf h ys).take k)) ++ layAll h.words pl (voidC h ys) (o / 2).toNat) (cl + clrAll h.words pl (o / 2).toNat) w') := by
                    intro W hE
                    have hgx : g = g0 ∨ wA.heap.size ≤ g := F5.out
                    refine lay74 ((AA.out.mod F4.out ?_).keep hE) HW.out ((SA.out.mod F4.out ?_).kept hE ?_) (F1.out.keep hE) ((PA.out.mod F4.out ?_).keep hE) (row_zero (row_keep (F4.out.row OA.out ?_) hE)) ?_ ?_ o (voidC h ys) hov.2.1 hov.2.2 hov.1 hv0.1 hv0.2 f2 (by omega) (by omega)
                    · intro x hx; have := HLB.out x hx; simp; omega
                    · simp; omega
                    · have := F4.out.size; omega
                    · simp; omega
                    · intro q hq; cases hq; simp; omega
                    · intro x hx; have := HLB.out x hx; simp; omega
                    · rcases hgx with h1 | h1 <;> omega
                  have hki : (k : Int) < (pl.length : Int) := by omega
                  go_wp2
                  have hne2 : gr ≠ wr.heap.size := by have := (F4.out.size); omega
                  have X0 : Hid (∀ W, Ext (wr.alloc (.cells #[.int .u32 o, .int .u32 y] 111)) W → W.cell? ⟨wr.heap.size, 0, none⟩ = some (.int .u32 o) ∧ W.cell? ⟨gr, 0, none⟩ = some (.int .u32 (voidC h ys))) := by
                    intro W hE
                    obtain ⟨z1, _⟩ := blk (hE.keep (newB wr (.cells #[.int .u32 o, .int .u32 y] 111) _ rfl))
                    refine ⟨by rw [z1]; rfl, ?_⟩
                    have := F4.out.size
                    have h1 := (((Ext.refl wr).alloc (.cells #[.int .u32 o, .int .u32 y] 111)).trans hE).cell (p := ⟨gr, 0, none⟩) (by simp; omega)
                    rw [h1]; exact cr0
                  have KEEP : Hid (∀ (w2 : World), LayR (wr.alloc (.cells #[.int .u32 o, .int .u32 y] 111)).drew b mb L.b (.int .i64 n0) (.int .i64 n1) (.int .i64 0) (.int .i64 mv) g (([0] ++ layL h.words pl (voidC h ys) ((liveOf h ys).take k)) ++ layAll h.words pl (voidC h ys) (o / 2).toNat) (cl + clrAll h.words pl (o / 2).toNat) w2 → w2.cell? ⟨wr.heap.size, 0, none⟩ = some (.int .u32 o) ∧ w2.cell? ⟨gr, 0, none⟩ = some (.int .u32 (voidC h ys))) := by
                    rintro w2 ⟨g', q', _, hmd, _⟩
                    have h3 := F4.out.size
                    have hgrg : gr ≠ g := by
                      rcases F5.out with h1 | h1 <;> omega
                    obtain ⟨z1, _⟩ := blk (hmd.keep (newB wr (.cells #[.int .u32 o, .int .u32 y] 111) _ rfl) (by simp; omega))
                    refine ⟨by rw [z1]; rfl, ?_⟩
                    have h1 := X0.out _ (Ext.refl _)
                    have h2 : w2.heap[gr]? = (wr.alloc (.cells #[.int .u32 o, .int .u32 y] 111)).heap[gr]? := hmd.block gr (by simp; omega) (by simp; omega)
                    rw [World.cell?_of_block (w := wr.alloc (.cells #[.int .u32 o, .int .u32 y] 111)) (a := ⟨gr, 0, none⟩) h2]; exact h1.2
                  have hr0i : (0 : Int) < (h.roots.length : Int) := by omega
                  have hr0n : 0 < h.roots.length := by omega
                  have hr0m : h.roots ≠ [] := by intro hq; rw [hq] at hr0n; simp at hr0n
                  have hr0k : ¬ h.roots = [] := hr0m
                  go_region_held3 (fun w' => w'.cell? ⟨wr.heap.size, 0, none⟩ = some (.int .u32 o) ∧ w'.cell? ⟨gr, 0, none⟩ = some (.int .u32 (voidC h ys))) (first | exact X0.out _ (Ext.refl _).drew | exact KEEP.out _ hLR) ((go_at_call 74; refine (LAY.out _ (((Ext.refl _).alloc _).drew)).mono ?_; rintro e wB ⟨rfl, hLR⟩))
                  go_wp2
                  obtain ⟨g', q', n1, n2, n3⟩ := hLR
                  have h3 := F4.out.size
                  rw [List.append_assoc, ← LT.out] at n1
                  have fit1 : (([0] ++ layL h.words pl (voidC h ys) ((liveOf h ys).take (k + 1))).length : Int) = ([0] ++ layL h.words pl (voidC h ys) ((liveOf h ys).take k)).length + (layAll h.words pl (voidC h ys) (o / 2).toNat).length := by
                    rw [LT.out]; simp; omega
                  have MX : Mod [b, g0] wA wB := F4.out.via ((((Ext.refl wr).alloc _).drew.mod [b, g]).trans n2) (by
                    intro x hx
                    have hw0 := F5.out
                    simp only [List.mem_cons, List.not_mem_nil, or_false] at hx ⊢
                    omega)
                  have HX : g' = g0 ∨ wA.heap.size ≤ g' := by
                    rcases n3 with h1 | h1
                    · rw [h1]; exact F5.out
                    · have : wr.heap.size ≤ (wr.alloc (.cells #[.int .u32 o, .int .u32 y] 111)).drew.heap.size := (((Ext.refl wr).alloc _).drew).size
                      right; omega
                  refine ⟨⟨k + 1, by omega, by go_num, g', q', _, n1, by omega, ?_, MX, HX⟩, ?_⟩
                  · rw [fit1]; omega
                  · simp [intOf]; omega
                · obtain rfl : k = pl.length := by omega
                  have hTK : [0] ++ layL h.words pl (voidC h ys) ((liveOf h ys).take pl.length) = wordsC h ys := by
                    rw [← HLL.out, List.take_length, PE.out]; rfl
                  rw [hTK] at F1 f3
                  clear hTK
                  obtain ⟨k1, k2⟩ := blk F1.out.blk
                  have hbw := lt_of_block F1.out.blk
                  have hwl := wordsC_le HW.out HSO.out
                  have h3 := F4.out.size
                  have hq9 : IntKind.i64.wrap ((h.words.length : Int) - ((wordsC h ys).length : Int)) = (h.words.length : Int) - ((wordsC h ys).length : Int) := IntWalk.i64_in _ (by omega)
                  go_wp2
                  have FX := F1.out.freed (.int .i64 ((h.words.length : Int) - ((wordsC h ys).length : Int)))
                  have MDX : Mod [b, g0] wA (wr.setCell ⟨b, 5, none⟩ (.int .i64 ((h.words.length : Int) - ((wordsC h ys).length : Int)))) := F4.out.trans (FX.2.mono (by simp))
                  clear k1 k2
                  generalize (h.words.length : Int) - ((wordsC h ys).length : Int) = u at *
                  generalize wr.setCell ⟨b, 5, none⟩ (.int .i64 u) = X at *
                  have MX := Lib.hid FX.1
                  have AX : Hid (HeapAt X L h) := AA.out.mod MDX (by intro x hx; have := HLB.out x hx; simp; omega)
                  have SX : Hid (Spares X) := SA.out.mod MDX (by simp; omega)
                  have RX : Hid (X.ownsRow wc.heap.size 41 1 (.slice (some ⟨gr, 0, none⟩) h.roots.length cr) h.roots.length (u32s (rootsC h ys))) := MDX.row RA.out (by intro q hq; cases hq; simp; omega)
                  have KX : Hid (X.heap[DD]? = some (.deferred (some []))) := MDX.keep (BA.out.keep K9.out) (by simp; omega)
                  have RBX : Hid (X.heap[rb]? = some (.cells #[.int .i64 0, .int .i64 0, .int .i64 0, .int .i64 0, .int .i64 0] 35)) := MDX.keep (BA.out.keep RB9.out) (by simp; omega)
                  have MWX : Hid (Mod [L.b] w X) := (MW9.out.ext BA.out).via MDX (by intro x hx; simp at hx; right; omega)
                  have hX := MDX.size
                  have hgX := row_lt FX.1.row
                  clear FX MDX
                  have LST : Hid (∀ W, Ext X W → Calls Tryz.prog 53 #[.pointer (some ⟨L.b, 0, none⟩)] W fun e w' => e = .returned (.int .u32 h.last) ∧ W = w') := fun W hE => last_ok (AX.out.keep hE) HW.out
                  have LOD : Hid (∀ W, Ext X W → Calls Tryz.prog 14 #[.pointer (some ⟨L.b, 0, none⟩), .slice (some ⟨g, 0, none⟩) (wordsC h ys).length q, .slice (some ⟨gr, 0, none⟩) h.roots.length cr, .int .u32 h.last] W (LoadR W L (collectH h ys))) := by
                    intro W hE
                    have cwf := collect_wf HW.out HSO.out
                    have hrC : h.roots.length = (rootsC h ys).length := by rw [HRC.out, HRL.out]
                    rw [hrC]
                    refine Load_ok (AX.out.keep hE) HW.out (SX.out.kept hE (by omega)) ⟨g, 0, none⟩ ⟨gr, 0, none⟩ q cr ?_ ?_ ?_ ?_ cwf.pos ?_ cwf.rng cwf.rlen cwf.rrng HW.out.last0 HW.out.last1 cwf.zero cwf.laid (collect_sound HW.out HSO.out)
                    · exact row_read (row_keep MX.out.row hE)
                    · have := hE.size; show g < _; omega
                    · exact row_read (by have := row_keep RX.out hE; rw [hrC] at this; exact this)
                    · have := hE.size; show gr < _; omega
                    · have := HW.out.fits; omega
                  obtain ⟨k1, k2⟩ := blk MX.out.blk
                  have c2 := k1 2
                  simp only [List.getElem?_toArray, List.getElem?_cons_succ, List.getElem?_cons_zero] at c2
                  have hbX := lt_of_block MX.out.blk
                  have KEEP : Hid (∀ W w2 : World, Ext X W → LoadR W L (collectH h ys) (.returned (.int .i64 0)) w2 → w2.cell? ⟨b, 2, none⟩ = some (.slice (some ⟨g, 0, none⟩) (wordsC h ys).length q)) := by
                    rintro W w2 hE ⟨_, L', _, _, hmd, _⟩
                    obtain ⟨z1, _⟩ := blk (hmd.keep (hE.keep MX.out.blk) (by have := HLB.out L.b (by simp [HLoc.blocks]); simp; omega))
                    rw [z1]; rfl
                  clear k1 k2
                  go_region_held3 (fun w' => w'.cell? ⟨b, 2, none⟩ = some (.slice (some ⟨g, 0, none⟩) (wordsC h ys).length q)) (first | exact c2 | exact KEEP.out _ _ ((Ext.refl _).drew) hLR) (first | (go_at_call 53; refine (LST.out _ ((Ext.refl _).drew)).mono ?_; rintro e wB ⟨rfl, rfl⟩) | (go_at_call 14; refine (LOD.out _ ((Ext.refl _).drew)).mono ?_; rintro e wB ⟨rfl, hLR'⟩; have hLR : LoadR X.drew L (collectH h ys) (.returned (.int .i64 0)) wB := ⟨rfl, hLR'⟩))
                  have hLb := HLB.out L.b (by simp [HLoc.blocks])
                  have HLR := Lib.hid hLR
                  obtain ⟨L', _, _, hmd, _⟩ := hLR.2
                  obtain ⟨y1, y2⟩ := blk (hmd.keep MX.out.blk (by simp; omega))
                  have hbY := lt_of_block (hmd.keep MX.out.blk (by simp; omega))
                  have hrY := hmd.keep RBX.out (by simp; omega)
                  obtain ⟨y3, y4⟩ := blk hrY
                  have hrl9 := lt_of_block hrY
                  have hbrb : b ≠ rb := by omega
                  have KY := Lib.hid (hmd.keep KX.out (by simp; omega))
                  have hrX := lt_of_block RBX.out
                  have hDX := lt_of_block KX.out
                  have RBY := Lib.hid hrY
                  clear hmd hrY hLR hLR'
                  go_wp2
                  refine ⟨by simp, .inl ⟨_, _, rfl, run_takeDeferred (ds := []) ?_, ?_⟩⟩
                  · exact (set5 RBY.out _ _ _ _ _).2.keep KY.out (by simp; omega)
                  · have hEN := Collect_end (.int .i64 n0) (.int .i64 n1) (.int .i64 u) (.int .i64 mv) (.int .i64 cl) MWX.out HLR.out hLb hord.1 hrX (by omega) hDX
                    have hZ := (mod_putObj (((((wB.setCell ⟨rb, 0, none⟩ (.int .i64 n0)).setCell ⟨rb, 1, none⟩ (.int .i64 n1)).setCell ⟨rb, 2, none⟩ (.int .i64 u)).setCell ⟨rb, 3, none⟩ (.int .i64 mv)).setCell ⟨rb, 4, none⟩ (.int .i64 cl)) DD (.deferred none)).keep (set5 RBY.out (.int .i64 n0) (.int .i64 n1) (.int .i64 u) (.int .i64 mv) (.int .i64 cl)).1 (by simp; omega)
                    generalize (((((wB.setCell ⟨rb, 0, none⟩ (.int .i64 n0)).setCell ⟨rb, 1, none⟩ (.int .i64 n1)).setCell ⟨rb, 2, none⟩ (.int .i64 u)).setCell ⟨rb, 3, none⟩ (.int .i64 mv)).setCell ⟨rb, 4, none⟩ (.int .i64 cl)).putObj DD (.deferred none) = Z at *
                    obtain ⟨z1, z2⟩ := blk hZ
                    exact ⟨.agg #[.int .i64 n0, .int .i64 n1, .int .i64 u, .int .i64 mv, .int .i64 cl], by simp [results, Tryz.results20, go_sem, z1], ⟨_, rfl⟩, hEN⟩
      case stop =>
        rintro D c pre W _ _ h _
        exact h.elim

end Go.Proofs.Eff
