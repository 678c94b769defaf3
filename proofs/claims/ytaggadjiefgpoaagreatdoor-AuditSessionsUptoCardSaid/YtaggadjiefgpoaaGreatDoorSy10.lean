/- From the reading of arguments to memory, and back. -/
import Derived.Test.YtaggadjiefgpoaaGreatDoorRows
import Derived.Test.YtaggadjiefgpoaaGreatDoorSy01
import Derived.Test.YtaggadjiefgpoaaGreatDoorSy00
import Derived.ProofKit
import Derived.LaidMore
import Derived.OpenShut
import Derived.Stop.Joined
import Derived.Deep.Slices
import Derived.WideKeyArgs
namespace Go.Proofs.Eff
open Go.ChangeShapes Go.WideShapes Go.ChangeAt Go.RowKit

abbrev Laid1 : List (String × DataW Unit) := [("effigy/oop.spares", YtaggadjiefgpoaaGreatDoor.Rows.laid_effigy_oop_spares)]
theorem own : ownKnob Tryz.prog.godebug = none := by kernel_rfl
theorem gSpares : Tryz.prog.globalNamed "effigy/oop.spares" = some 0 := by kernel_rfl
theorem tSpares : (Tryz.prog.globals[0]?).map (·.type) = some 300 := by kernel_rfl
theorem u300 : Tryz.prog.underlying 300 = some (.array 5 4) := by kernel_rfl
theorem laidOut' : laidOutB Tryz.prog = true := by kernel_rfl

/-- The door's own heap meets the condition. -/
theorem door_met (os : Os) (args : Array Value) : laidMetH Tryz.prog Laid1 ((World.doorLaid Tryz.prog 400 os).forCall (fun _ _ => 0) ⟨#[], args, []⟩).memory :=
  laidMetH_of_parts3 (fuel := 8) (laidMet_of_run' 8 (by kernel_rfl) (by kernel_rfl)) (by kernel_rfl) (by kernel_rfl)

/-- What the condition gives: the variable lies as laid. -/
theorem spares_of_laid {W : World} (h : laidMetH Tryz.prog Laid1 W) : Spares W := by
  rw [MakeChecks.laidMetH_plain _ _ _ (by kernel_rfl)] at h
  obtain ⟨ps, ⟨g0, t0, cs0, f0, p0, q0, hg0, ht0, hv0, hd0, _, _⟩, _, _⟩ := h
  obtain rfl := Option.some.inj (gSpares.symm.trans hg0)
  obtain rfl := Option.some.inj (tSpares.symm.trans ht0)
  obtain ⟨xs, m1, rfl, hx1, hlen, hn5, hel⟩ := DataW.trod_array u300 hd0
  have c4 : Tryz.prog.cellsOf 4 = 1 := by kernel_rfl
  have c300 : Tryz.prog.cellsOf 300 = 5 := by kernel_rfl
  rw [c300] at hlen
  have hb : ∃ T fz, W.heap[0]? = some (.cells cs0 T fz) := by
    simp only [World.var?, gSpares, Option.bind_some] at hv0
    split at hv0
    · rename_i cs T fz hh; cases hv0; exact ⟨T, fz, hh⟩
    · cases hv0
  obtain ⟨T, fz, hb⟩ := hb
  obtain ⟨l⟩ := cs0
  simp only at hlen hel
  rcases l with _ | ⟨a0, _ | ⟨a1, _ | ⟨a2, _ | ⟨a3, _ | ⟨a4, _ | ⟨a5, l⟩⟩⟩⟩⟩⟩ <;> simp only [List.length_nil, List.length_cons] at hlen <;> try omega
  rcases xs with _ | ⟨x0, _ | ⟨x1, _ | ⟨x2, _ | ⟨x3, _ | ⟨x4, _ | ⟨x5, xs⟩⟩⟩⟩⟩⟩ <;> simp only [List.length_nil, List.length_cons] at hn5 <;> try omega
  simp only [YtaggadjiefgpoaaGreatDoor.Rows.laid_effigy_oop_spares, List.map_cons, List.map_nil, Prod.mk.injEq, DataW.agg.injEq, List.cons.injEq, and_true] at hx1
  obtain ⟨⟨d0, d1, d2, d3, d4⟩, _⟩ := hx1
  have key : ∀ (a : Value) (x : DataW Unit × List MemPlace) (b : Bool), DataW.trod (fun _ => ()) Tryz.prog W 0 (fun _ => true) false m1 4 [a] = some x → DataW.lit (.bool b) = x.1 → a = .bool b := by
    intro a x b h1 h2
    obtain ⟨b', e1, e2⟩ := DataW.trod_bool Tryz.underlying4 h1
    rw [e2] at h2
    simp at h2 e1
    rw [e1, h2]
  have e0 := key a0 x0 _ (by have := hel 0 (by omega); simpa [c4] using this) d0
  have e1 := key a1 x1 _ (by have := hel 1 (by omega); simpa [c4] using this) d1
  have e2 := key a2 x2 _ (by have := hel 2 (by omega); simpa [c4] using this) d2
  have e3 := key a3 x3 _ (by have := hel 3 (by omega); simpa [c4] using this) d3
  have e4 := key a4 x4 _ (by have := hel 4 (by omega); simpa [c4] using this) d4
  subst e0 e1 e2 e3 e4
  exact ⟨T, fz, hb⟩

section
variable {H : Type} {enc : TypeId × Value → H}
/-- Arguments read behind the call as they read before, where nothing that was there has turned. -/
theorem trodAll_stays {W W' : World} {sp' : Nat → Bool} : ∀ {ts : List TypeId} {vs : List Value} {ds : List (DataW H)} {ps : List MemPlace}, (∀ t, t ∈ ts → Tryz.prog.readableRec t = true ∧ t < Tryz.prog.types.size) → DataW.TrodAll enc Tryz.prog W 0 (fun _ => true) true ts vs ds ps → (∀ p ∈ ps, W.sameAt W' p) → (∀ p ∈ ps, sp' p.block = true) → DataW.TrodAll enc Tryz.prog W' 0 sp' true ts vs ds ps
  | [], [], [], _, _, h, _, _ => h
  | t :: ts, v :: vs, d :: ds, _, hT, ⟨p, q, h1, h2, e⟩, hs, hsp => ⟨p, q, WideElems.Trod_stays laidOut' (hT t (by simp)).1 (hT t (by simp)).2 h1 (fun x hx => hs x (by rw [e]; exact List.mem_append_left _ hx)) (fun x hx => hsp x (by rw [e]; exact List.mem_append_left _ hx)),
      trodAll_stays (fun t ht => hT t (List.mem_cons.2 (Or.inr ht))) h2 (fun x hx => hs x (by rw [e]; exact List.mem_append_right _ hx)) (fun x hx => hsp x (by rw [e]; exact List.mem_append_right _ hx)), e⟩
end

/-- An address at which a cell lies is a plain one. -/
theorem addr_plain {w : World} {a : Addr} {v : Value} (h : w.cell? (a.add 0) = some v) : ∃ b off, a = ⟨b, off, none⟩ := by
  obtain ⟨b, off, spot⟩ := a
  cases spot with
  | none => exact ⟨b, off, rfl⟩
  | some s =>
    exfalso
    have e : (⟨b, off, some s⟩ : Addr).add 0 = ⟨b, off, some s⟩ := by unfold Addr.add; simp
    rw [e] at h
    unfold World.cell? at h
    split at h
    · simp at h
    · cases h
theorem addr_add (b off j : Nat) : (⟨b, off, none⟩ : Addr).add j = ⟨b, off + j, none⟩ := by unfold Addr.add; split <;> simp_all
theorem block_of_cell {w : World} {a : Addr} {v : Value} (h : w.cell? a = some v) : a.block < w.heap.size := by
  unfold World.cell? at h
  split at h
  · rename_i hh; exact (Array.getElem?_eq_some_iff.1 hh).1
  · cases h


section
variable {H : Type} {enc : TypeId × Value → H}
/-- A law that answers true and leaves what was there as it was meets its row's post. -/
theorem law_post {f : Func} {s : ChangeSpec} {apart fresh handsOn : Bool} {W W' : World} {args : Array Value} {ds gs : List (DataW H)} {before : List MemPlace}
    (hW : DataW.Whole enc Tryz.prog f.params.toList s.vars apart W args.toList ds gs before) (hv : s.vars = []) (hr : f.resultTypes = #[4]) (hts : ∀ t, t ∈ f.params.toList → Tryz.prog.readableRec t = true ∧ t < Tryz.prog.types.size)
    (hfn : s.fn H (ds ++ gs) = { results := [.lit (.bool true)], args := ds }) (hE : Ext W W') : s.post enc Tryz.prog f apart fresh handsOn false W args (.bool true) W' := by
  have hW' := hW
  have hlt : ∀ p ∈ before, p.block < W.heap.size := fun p hp => hW.lt p hp
  obtain ⟨p, q, hA, hV, rfl, _, _⟩ := hW
  rw [hv] at hV
  obtain ⟨rfl, rfl⟩ := trodVars_none hV
  refine ⟨ds, [], p ++ [], [], p, [], hW', ?_, ?_, ?_, Below.frame hE _, fun h => by cases h⟩
  · rw [hfn, hr]; exact trodAll_mk1 (shut_bool Tryz.underlying4 true)
  · rw [hfn]
    exact trodAll_stays hts hA (fun x hx => Below.same hE (hlt x (by simp [hx]))) (fun x hx => by simpa using hlt x (by simp [hx]))
  · rw [hfn, hv]; rfl
end
theorem exists_list {α : Type} {p : Nat → α → Prop} : ∀ (n : Nat), (∀ i, i < n → ∃ x, p i x) → ∃ l : List α, l.length = n ∧ ∀ k a, l[k]? = some a → p k a := by
  intro n
  induction n with
  | zero => intro _; exact ⟨[], rfl, fun k a h => by simp at h⟩
  | succ n ih =>
    intro h
    obtain ⟨l, hl, hp⟩ := ih (fun i hi => h i (by omega))
    obtain ⟨x, hx⟩ := h n (by omega)
    refine ⟨l ++ [x], by simp [hl], fun k a hk => ?_⟩
    by_cases e : k < n
    · rw [List.getElem?_append_left (by omega)] at hk; exact hp k a hk
    · rw [List.getElem?_append_right (by omega)] at hk
      have : k - l.length = 0 := by
        by_cases e2 : k - l.length = 0
        · exact e2
        · rw [List.getElem?_eq_none (by simp; omega)] at hk; cases hk
      rw [this] at hk
      simp at hk
      obtain rfl : k = n := by omega
      rw [← hk]; exact hx

end Go.Proofs.Eff
