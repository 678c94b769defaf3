/- Maps keyed by integers: delete, len, ranging with a round that deletes. -/
import Derived.Test.YtaggadjiefgpoaaGreatDoorHa01
import Derived.Maps.RangeRun
namespace Go.Proofs.Eff
open Go.RowKit
open Go.ChangeMaps (setBlock)

theorem mod_setBlock (w : World) (r : Nat) (o : Obj) : Mod [r] w (setBlock w r o) := ⟨rfl, rfl, rfl, by simp [setBlock], fun k _ hn => by
  show (w.heap.setIfInBounds r o)[k]? = _
  rw [Array.getElem?_setIfInBounds_ne (by simpa [eq_comm] using hn)]⟩
theorem setBlock_same {w : World} {r : Nat} {o : Obj} (h : r < w.heap.size) : (setBlock w r o).heap[r]? = some o := by
  show (w.heap.setIfInBounds r o)[r]? = _
  simp [h]

theorem adel_none {l : AList} {k : Int} {i : Nat} (h : aidx l k i = none) : adel l k = l := by
  induction l generalizing i with
  | nil => rfl
  | cons p r ih =>
    simp only [aidx] at h
    split at h
    · cases h
    · rename_i hp; simp [adel, hp, ih h]
theorem adel_some {l : AList} {k : Int} {i j : Nat} {u : Value} (h : aidx l k i = some (j, u)) : adel l k = l.eraseIdx (j - i) := by
  induction l generalizing i with
  | nil => simp [aidx] at h
  | cons p r ih =>
    simp only [aidx] at h
    split at h
    · rename_i hp
      simp only [Option.some.injEq, Prod.mk.injEq] at h
      obtain ⟨rfl, _⟩ := h
      simp [adel, hp]
    · rename_i hp
      have h1 := (aidx_some h).1
      obtain ⟨m, hm⟩ : ∃ m, j - i = m + 1 := ⟨j - (i + 1), by omega⟩
      have e : j - (i + 1) = m := by omega
      rw [hm, List.eraseIdx_cons_succ, adel, if_neg hp, ih h, e]

/-- What a delete leaves of the entries. -/
theorem delete_run {P : Program} (w : World) {T K E : TypeId} {q kd : IntKind} (hT : P.underlying T = some (.map K E)) (hK : P.underlying K = some (.int q)) {b : Nat} {l : AList} {es : Array MapEntry} {clock : Nat}
    (hb : w.heap[b]? = some (.map es clock)) (hp : pairsOf es.toList = encA kd l) (k : Int) (ty : TypeId) :
    ∃ es', (Builtin.delete_ #[T, K] ty #[.map (some b), .int kd k]).run P w = .ok (.tuple #[]) (setBlock w b (.map es' clock)) ∧ pairsOf es'.toList = encA kd (adel l k) ∧ es'.toList.Sublist es.toList := by
  have hc := fun em => run_checkKey_int (P := P) w hK kd em k
  have hf := run_findKey_int (P := P) w hK hp k
  have hel : es.toList.length = l.length := by have := congrArg List.length hp; simpa [pairsOf, encA] using this
  cases ha : aidx l k 0 with
  | none =>
    rw [ha] at hf
    refine ⟨es, ?_, by rw [adel_none ha]; exact hp, List.Sublist.refl _⟩
    simp [Builtin.delete_, run_underlying hT, get_map hb, hc, hf, set_map _ hb]
    rfl
  | some p =>
    obtain ⟨j, u⟩ := p
    rw [ha] at hf
    have hj := (aidx_some ha).2
    obtain ⟨hj, _⟩ := hj
    simp only [Nat.sub_zero] at hj
    have hje : j < es.size := by rw [← Array.length_toList, hel]; exact hj
    have hl : (es.eraseIdxIfInBounds j).toList = es.toList.eraseIdx j := by
      rw [Array.eraseIdxIfInBounds_eq, dif_pos hje]; simp
    refine ⟨es.eraseIdxIfInBounds j, ?_, ?_, ?_⟩
    · simp [Builtin.delete_, run_underlying hT, get_map hb, hc, hf, set_map _ hb]
      rfl
    · rw [adel_some ha, Nat.sub_zero, hl]
      have em : ∀ {α β : Type} (f : α → β) (l : List α) (i : Nat), (l.eraseIdx i).map f = (l.map f).eraseIdx i := by
        intro α β f l
        induction l with
        | nil => intro i; simp
        | cons x l ih => intro i; cases i <;> simp [ih]
      simp only [pairsOf, encA] at hp ⊢
      rw [em, em, hp]
    · rw [hl]; exact List.eraseIdx_sublist _ _

theorem run_delete_map {P : Program} (w : World) {T K E : TypeId} {q kd : IntKind} (hT : P.underlying T = some (.map K E)) (hK : P.underlying K = some (.int q)) {b : Nat} {l : AList} (hm : MapAt w b kd l) (k : Int) :
    ∃ w', (∀ ty, (Builtin.delete_ #[T, K] ty #[.map (some b), .int kd k]).run P w = .ok (.tuple #[]) w') ∧ MapAt w' b kd (adel l k) ∧ Mod [b] w w' := by
  obtain ⟨es, clock, hb, hp, hbo, hnd⟩ := hm
  obtain ⟨es', h1, h2, h3⟩ := delete_run w hT hK hb hp k 0
  refine ⟨setBlock w b (.map es' clock), ?_, ?_, mod_setBlock _ _ _⟩
  · intro ty; exact h1
  · exact ⟨es', clock, setBlock_same (lt_of_block hb), h2, fun e he => hbo e (h3.subset he), (h3.map _).nodup hnd⟩
theorem MapAt.len {P : Program} {w : World} {T : TypeId} {kd : IntKind} {b : Nat} {l : AList} (hT : P.underlying T = some (.map (P.mapKeyOf T) (P.mapElemOf T))) (hm : MapAt w b kd l) (ty : TypeId) : (Builtin.len_ #[T] ty #[.map (some b)]).run P w = .ok (goInt l.length) w := by
  obtain ⟨es, clock, hb, hp, _⟩ := hm
  have hel : es.size = l.length := by have := congrArg List.length hp; simpa [pairsOf, encA] using this
  rw [run_len_map w T ty b es clock hT hb, hel]

/-- A map is ranged over; 'left' tells which keys are still to come. -/
def RangeAt (w : World) (mb r : Nat) (kd : IntKind) (cur : AList) (left : Int → Bool) : Prop :=
  ∃ es clock since seen c0, w.heap[mb]? = some (.map es clock) ∧ pairsOf es.toList = encA kd cur ∧ (∀ e, e ∈ es.toList → e.born < clock) ∧ (es.toList.map (·.born)).Nodup ∧
    w.heap[r]? = some (.mapIter (some mb) since seen c0) ∧ (∀ e, e ∈ es.toList → e.born < since) ∧ since ≤ c0 ∧ since ≤ clock ∧ (∀ e, e ∈ es.toList → ∀ x, e.key = .int kd x → seen.contains e.born = !left x)
theorem RangeAt.map {w : World} {mb r : Nat} {kd : IntKind} {cur : AList} {left : Int → Bool} (h : RangeAt w mb r kd cur left) : MapAt w mb kd cur := by
  obtain ⟨es, clock, since, seen, c0, h1, h2, h3, h4, _⟩ := h
  exact ⟨es, clock, h1, h2, h3, h4⟩
theorem RangeAt.mod {S : List Nat} {a w : World} {mb r : Nat} {kd : IntKind} {cur : AList} {left : Int → Bool} (h : RangeAt a mb r kd cur left) (hm : Mod S a w) (h1 : ¬ mb ∈ S) (h2 : ¬ r ∈ S) : RangeAt w mb r kd cur left := by
  obtain ⟨es, clock, since, seen, c0, a1, a2, a3, a4, a5, a6⟩ := h
  exact ⟨es, clock, since, seen, c0, hm.keep a1 h1, a2, a3, a4, hm.keep a5 h2, a6⟩
theorem RangeAt.lt {w : World} {mb r : Nat} {kd : IntKind} {cur : AList} {left : Int → Bool} (h : RangeAt w mb r kd cur left) : r < w.heap.size := by
  obtain ⟨es, clock, since, seen, c0, _, _, _, _, a5, _⟩ := h; exact lt_of_block a5
theorem RangeAt.ne_cells {w : World} {mb r g : Nat} {kd : IntKind} {cur : AList} {left : Int → Bool} {cs : Array Value} {T : TypeId} {fz : Nat × Nat} (h : RangeAt w mb r kd cur left) (hg : w.heap[g]? = some (.cells cs T fz)) : g ≠ r := by
  obtain ⟨es, clock, since, seen, c0, _, _, _, _, a5, _⟩ := h; exact block_ne hg a5 (by simp)

theorem range_start {P : Program} {w : World} {T K E : TypeId} {kd : IntKind} {mb : Nat} {l : AList} (hT : P.underlying T = some (.map K E)) (hm : MapAt w mb kd l) :
    ∃ w', (Instr.range T (.map (some mb))).run P w = .ok (.pointer (some ⟨w.heap.size, 0, none⟩)) w' ∧ RangeAt w' mb w.heap.size kd l (fun _ => true) ∧ Ext w w' ∧ w'.heap.size = w.heap.size + 1 := by
  obtain ⟨es, clock, hb, hp, hbo, hnd⟩ := hm
  refine ⟨_, run_range_map w T K E mb es clock hT hb, ⟨es, clock, clock, #[], clock, keepB hb _, hp, hbo, hnd, newB _ _ _ rfl, hbo, Nat.le_refl _, Nat.le_refl _, ?_⟩, (Ext.refl _).alloc _, by simp⟩
  intro e _ x _; simp

theorem pair_of_mem {kd : IntKind} {es : List MapEntry} {l : AList} (hp : pairsOf es = encA kd l) {e : MapEntry} (he : e ∈ es) : ∃ p, p ∈ l ∧ e.key = .int kd p.1 ∧ e.val = p.2 := by
  have : (e.key, e.val) ∈ pairsOf es := List.mem_map.2 ⟨e, he, rfl⟩
  rw [hp] at this
  obtain ⟨p, hpl, hq⟩ := List.mem_map.1 this
  simp only [Prod.mk.injEq] at hq
  exact ⟨p, hpl, hq.1.symm, hq.2.symm⟩
theorem mem_of_pair {kd : IntKind} {es : List MapEntry} {l : AList} (hp : pairsOf es = encA kd l) {p : Int × Value} (he : p ∈ l) : ∃ e, e ∈ es ∧ e.key = .int kd p.1 ∧ e.val = p.2 := by
  have : ((.int kd p.1 : Value), p.2) ∈ encA kd l := List.mem_map.2 ⟨p, he, rfl⟩
  rw [← hp] at this
  obtain ⟨e, hpl, hq⟩ := List.mem_map.1 this
  simp only [Prod.mk.injEq] at hq
  exact ⟨e, hpl, hq.1, hq.2⟩
theorem born_key {kd : IntKind} {es : List MapEntry} {l : AList} (hp : pairsOf es = encA kd l) (hk : (l.map (·.1)).Nodup) (_hn : (es.map (·.born)).Nodup) {e e' : MapEntry} (he : e ∈ es) (he' : e' ∈ es) {x : Int} (h1 : e.key = .int kd x) (h2 : e'.key = .int kd x) : e = e' := by
  have hkeys : (es.map (·.key)) = l.map (fun p => Value.int kd p.1) := by
    have := congrArg (fun z => z.map (·.1)) hp
    simpa [pairsOf, encA, Function.comp_def] using this
  have hnd : (es.map (·.key)).Nodup := by
    rw [hkeys]
    have : l.map (fun p => Value.int kd p.1) = (l.map (·.1)).map (Value.int kd) := by simp [Function.comp_def]
    rw [this, List.nodup_iff_pairwise_ne, List.pairwise_map]
    rw [List.nodup_iff_pairwise_ne] at hk
    exact hk.imp (fun hne h => hne (by cases h; rfl))
  obtain ⟨i, hi, rfl⟩ := List.getElem_of_mem he
  obtain ⟨j, hj, rfl⟩ := List.getElem_of_mem he'
  have : i = j := by
    refine (List.getElem_inj (xs := es.map (·.key)) (h₀ := by simpa using hi) (h₁ := by simpa using hj) hnd).1 ?_
    simp [h1, h2]
  subst this; rfl

theorem inj_of_born {es : List MapEntry} (hn : (es.map (·.born)).Nodup) {e e' : MapEntry} (he : e ∈ es) (he' : e' ∈ es) (h : e.born = e'.born) : e = e' := by
  obtain ⟨i, hi, rfl⟩ := List.getElem_of_mem he
  obtain ⟨j, hj, rfl⟩ := List.getElem_of_mem he'
  have : i = j := by
    refine (List.getElem_inj (xs := es.map (·.born)) (h₀ := by simpa using hi) (h₁ := by simpa using hj) hn).1 ?_
    simp [h]
  subst this; rfl
theorem range_next {P : Program} {w : World} {kd : IntKind} {mb r : Nat} {cur : AList} {left : Int → Bool} (h : RangeAt w mb r kd cur left) (hk : (cur.map (·.1)).Nodup) (ty : TypeId) :
    ((∀ p, p ∈ cur → left p.1 = false) ∧ (Instr.next (.pointer (some ⟨r, 0, none⟩)) false ty).run P w = .ok (.tuple #[.bool false]) w) ∨
    ∃ p, p ∈ cur ∧ left p.1 = true ∧ ∃ w', (Instr.next (.pointer (some ⟨r, 0, none⟩)) false ty).run P w = .ok (.tuple #[.bool true, .int kd p.1, p.2]) w' ∧ RangeAt w' mb r kd cur (fun z => left z && z != p.1) ∧ Mod [r] w w' ∧
      (Instr.entry (.pointer (some ⟨r, 0, none⟩))).run P w' = .ok (.tuple #[.int kd p.1, p.2]) w' := by
  obtain ⟨es, clock, since, seen, c0, a1, a2, a3, a4, a5, a6, a7, a8, a9⟩ := h
  have hmr : mb ≠ r := block_ne a1 a5 (by simp)
  rcases run_next_at (P := P) w ty r mb since c0 seen es clock a5 a1 a6 a7 with ⟨h0, hrun⟩ | ⟨e, he, w1, hal, hrun⟩
  · left
    refine ⟨?_, hrun⟩
    intro p hp
    obtain ⟨e, he, h1, _⟩ := mem_of_pair a2 hp
    have h2 := a9 e he p.1 h1
    have h3 : e ∉ (leftOf es seen).toList := by
      have : leftOf es seen = #[] := Array.eq_empty_of_size_eq_zero h0
      rw [this]; simp
    unfold leftOf at h3
    simp only [Array.toList_filter, List.mem_filter, he, true_and, Bool.not_eq_true', Bool.not_eq_false] at h3
    rw [h3] at h2
    simpa using h2.symm
  · right
    unfold leftOf at he
    simp only [Array.toList_filter, List.mem_filter, Bool.not_eq_true'] at he
    obtain ⟨he, hse⟩ := he
    obtain ⟨p, hp, h1, h2⟩ := pair_of_mem a2 he
    have h3 := a9 e he p.1 h1
    rw [hse] at h3
    have hw1 : Mod [r] w w1 := by
      rcases hal with rfl | rfl
      · exact Mod.refl _ _
      · exact ((Ext.refl _).drew).mod _
    have hh1 : w1.heap = w.heap := by rcases hal with rfl | rfl <;> rfl
    have hr1 : r < w1.heap.size := by rw [hh1]; exact lt_of_block a5
    have hmb : (setBlock w1 r (.mapIter (some mb) since (seen.push e.born) clock)).heap[mb]? = some (.map es clock) := (mod_setBlock w1 r _).keep (by rw [hh1]; exact a1) (by simpa using hmr)
    have hrr : (setBlock w1 r (.mapIter (some mb) since (seen.push e.born) clock)).heap[r]? = some (.mapIter (some mb) since (seen.push e.born) clock) := setBlock_same hr1
    rw [h1, h2] at hrun
    refine ⟨p, hp, by simpa using h3.symm, _, hrun, ?_, hw1.trans (mod_setBlock w1 r _), ?_⟩
    · refine ⟨es, clock, since, seen.push e.born, clock, hmb, a2, a3, a4, hrr, a6, a8, a8, ?_⟩
      intro e' he' x hx
      have h4 := a9 e' he' x hx
      simp only [Array.contains_push, h4]
      by_cases hxp : x = p.1
      · subst hxp
        have : e' = e := born_key a2 hk a4 he' he hx h1
        subst this; simp
      · have hb : ¬ e'.born = e.born := by
          intro hb
          have : e' = e := inj_of_born a4 he' he hb
          subst this
          rw [h1] at hx; cases hx; exact hxp rfl
        have hb2 : (e'.born == e.born) = false := by simpa using hb
        have hx2 : (x != p.1) = true := by simpa using hxp
        rw [hb2, hx2]; simp
    · have := run_entry_at (P := P) (setBlock w1 r (.mapIter (some mb) since (seen.push e.born) clock)) r mb since seen es clock e hrr hmb he a4
      rw [h1, h2] at this; exact this

theorem range_delete {P : Program} {w : World} {T K E : TypeId} {q kd : IntKind} (hT : P.underlying T = some (.map K E)) (hK : P.underlying K = some (.int q)) {mb r : Nat} {cur : AList} {left : Int → Bool} (h : RangeAt w mb r kd cur left) (k : Int) :
    ∃ w', (∀ ty, (Builtin.delete_ #[T, K] ty #[.map (some mb), .int kd k]).run P w = .ok (.tuple #[]) w') ∧ RangeAt w' mb r kd (adel cur k) left ∧ Mod [mb] w w' := by
  obtain ⟨es, clock, since, seen, c0, a1, a2, a3, a4, a5, a6, a7, a8, a9⟩ := h
  have hmr : r ≠ mb := block_ne a5 a1 (by simp)
  obtain ⟨es', h1, h2, h3⟩ := delete_run w hT hK a1 a2 k 0
  refine ⟨setBlock w mb (.map es' clock), ?_, ?_, mod_setBlock _ _ _⟩
  · intro ty; exact h1
  · exact ⟨es', clock, since, seen, c0, setBlock_same (lt_of_block a1), h2, fun e he => a3 e (h3.subset he), (h3.map _).nodup a4, (mod_setBlock w mb _).keep a5 (by simpa using hmr), fun e he => a6 e (h3.subset he), a7, a8, fun e he => a9 e (h3.subset he)⟩

end Go.Proofs.Eff

/- Tables of handles: plain definitions and laws. -/
namespace Go.Proofs.Eff
open Go.RowKit

/-- What was done with a table, and what was answered. -/
structure HAct where
  kind : Int
  id : Int
  n : Int
  ser : Int
  ids : List Int
  err : Int
abbrev LT := List (Int × Int × Int)
def lget : LT → Int → Option (Int × Int)
  | [], _ => none
  | p :: r, k => if p.1 = k then some p.2 else lget r k
def lput : LT → Int → Int × Int → LT
  | [], k, v => [(k, v)]
  | p :: r, k, v => if p.1 = k then (k, v) :: r else p :: lput r k v
def ldel : LT → Int → LT
  | [], _ => []
  | p :: r, k => if p.1 = k then r else p :: ldel r k
def leaseV (v : Int × Int) : Value := .agg #[.int .u32 v.1, .int .i64 v.2]
def encL (l : LT) : AList := l.map fun p => (p.1, leaseV p.2)
theorem encL_get (l : LT) (k : Int) : aget (encL l) k = (lget l k).map leaseV := by
  induction l with
  | nil => rfl
  | cons p r ih => simp only [encL, List.map_cons, aget, lget] at *; split <;> simp_all
theorem encL_put (l : LT) (k : Int) (v : Int × Int) : aput (encL l) k (leaseV v) = encL (lput l k v) := by
  induction l with
  | nil => rfl
  | cons p r ih => simp only [encL, List.map_cons, aput, lput] at *; split <;> simp_all
theorem encL_del (l : LT) (k : Int) : adel (encL l) k = encL (ldel l k) := by
  induction l with
  | nil => rfl
  | cons p r ih => simp only [encL, List.map_cons, adel, ldel] at *; split <;> simp_all
theorem encL_length (l : LT) : (encL l).length = l.length := by simp [encL]
theorem encL_fst (l : LT) : (encL l).map (·.1) = l.map (·.1) := by simp [encL, Function.comp_def]

structure TabS where
  cap : Int
  live : LT
  next : Int
  clock : Int

def fitsB (n : Int) : Bool := decide (1 ≤ n) && decide (n ≤ 1000000)
def issueF (t : TabS) (a : HAct) : TabS × Bool :=
  if a.err = 3 then (t, a.id == 0)
  else if fitsB a.n = false then (t, a.err == 162 && a.id == 0)
  else if (t.live.length : Int) = t.cap then (t, a.err == 161 && a.id == 0)
  else if t.next = 0 then (t, a.err == 163 && a.id == 0)
  else ({ t with next := (t.next + 1) % 18446744073709551616, live := lput t.live t.next (a.ser, t.clock + a.n) }, a.err == 0 && a.id == t.next)
def goneF (l : LT) (c : Int) : List Int := ((l.filter fun p => decide (p.2.2 ≤ c)).map (·.1)).mergeSort fun x y => decide (x ≤ y)
def stayF (l : LT) (c : Int) : LT := l.filter fun p => decide (c < p.2.2)
def tickB (t : TabS) (a : HAct) : Bool := decide (a.n < 0) || decide (1099511627776 - t.clock < a.n)
def tickF (t : TabS) (a : HAct) : TabS × Bool :=
  if tickB t a then (t, a.err == 1 && a.ids.length == 0)
  else ({ t with clock := t.clock + a.n, live := stayF t.live (t.clock + a.n) }, a.err == 0 && a.ids == goneF t.live (t.clock + a.n))
def getF (t : TabS) (a : HAct) : TabS × Bool :=
  match lget t.live a.id with
  | none => (t, a.err == 160 && a.ser == 0)
  | some x => (t, a.err == 0 && a.ser == x.1)
def renewF (t : TabS) (a : HAct) : TabS × Bool :=
  match lget t.live a.id with
  | none => (t, a.err == 160)
  | some x => if fitsB a.n then ({ t with live := lput t.live a.id (x.1, t.clock + a.n) }, a.err == 0) else (t, a.err == 162)
def releaseF (t : TabS) (a : HAct) : TabS × Bool :=
  match lget t.live a.id with
  | none => (t, a.err == 160)
  | some _ => ({ t with live := ldel t.live a.id }, a.err == 0)
def ansF (t : TabS) (a : HAct) : TabS × Bool :=
  if a.kind = 1 then issueF t a else if a.kind = 2 then getF t a else if a.kind = 3 then renewF t a else if a.kind = 4 then releaseF t a else if a.kind = 5 then tickF t a else (t, false)
def hgo : TabS → Nat → List HAct → Int × Int
  | _, _, [] => (0, 0)
  | t, i, a :: l => if (ansF t a).2 then hgo (ansF t a).1 (i + 1) l else (30, (i : Int))
def badTab (cap first : Int) : Bool := decide (cap < 1) || decide (256 < cap) || first == 0
def handF (cap first : Int) (acts : List HAct) : Int × Int := if badTab cap first then (10, 0) else hgo ⟨cap, [], first, 0⟩ 0 acts

/-- What a table always is. -/
structure TabOK (t : TabS) : Prop where
  cap0 : 1 ≤ t.cap
  cap1 : t.cap ≤ 256
  next0 : 0 ≤ t.next
  next1 : t.next < 18446744073709551616
  clock0 : 0 ≤ t.clock
  clock1 : t.clock ≤ 1099511627776
  len : (t.live.length : Int) ≤ t.cap
  keys : (t.live.map (·.1)).Nodup
theorem lget_none {l : LT} {k : Int} : lget l k = none ↔ ¬ k ∈ l.map (·.1) := by
  induction l with
  | nil => simp [lget]
  | cons p r ih =>
    simp only [lget, List.map_cons, List.mem_cons, not_or]
    by_cases h : p.1 = k
    · simp [h]
    · rw [if_neg h, ih]
      exact ⟨fun h2 => ⟨fun e => h e.symm, h2⟩, fun h2 => h2.2⟩
theorem lput_keys_new {l : LT} {k : Int} (v : Int × Int) (h : ¬ k ∈ l.map (·.1)) : lput l k v = l ++ [(k, v)] := by
  induction l with
  | nil => rfl
  | cons p r ih =>
    simp only [List.map_cons, List.mem_cons, not_or] at h
    simp only [lput]
    rw [if_neg (fun e => h.1 e.symm), ih h.2]; rfl
theorem lput_keys_old {l : LT} {k : Int} (v : Int × Int) (h : k ∈ l.map (·.1)) : (lput l k v).map (·.1) = l.map (·.1) := by
  induction l with
  | nil => simp at h
  | cons p r ih =>
    simp only [lput]
    by_cases hp : p.1 = k
    · simp [hp]
    · simp only [if_neg hp, List.map_cons]
      rw [ih (by simp only [List.map_cons, List.mem_cons] at h; rcases h with h | h; exact absurd h.symm hp; exact h)]
theorem lput_nodup {l : LT} {k : Int} (v : Int × Int) (h : (l.map (·.1)).Nodup) : ((lput l k v).map (·.1)).Nodup := by
  by_cases hk : k ∈ l.map (·.1)
  · rw [lput_keys_old v hk]; exact h
  · rw [lput_keys_new v hk, List.map_append, List.nodup_append]
    refine ⟨h, by simp, ?_⟩
    intro a ha b hb
    simp only [List.map_cons, List.map_nil, List.mem_singleton] at hb
    rw [hb]; intro e; rw [e] at ha; exact hk ha
theorem lput_length (l : LT) (k : Int) (v : Int × Int) : (lput l k v).length ≤ l.length + 1 := by
  induction l with
  | nil => simp [lput]
  | cons p r ih => simp only [lput]; split <;> simp <;> omega
theorem lput_length_old {l : LT} {k : Int} (v : Int × Int) (h : k ∈ l.map (·.1)) : (lput l k v).length = l.length := by
  have := congrArg List.length (lput_keys_old v h); simpa using this
theorem ldel_sub (l : LT) (k : Int) : (ldel l k).Sublist l := by
  induction l with
  | nil => exact List.Sublist.refl _
  | cons p r ih =>
    simp only [ldel]; split
    · exact List.sublist_cons_self _ _
    · exact ih.cons_cons _
theorem lget_mem {l : LT} {k : Int} {x : Int × Int} (h : lget l k = some x) : k ∈ l.map (·.1) := by
  by_cases hk : k ∈ l.map (·.1)
  · exact hk
  · rw [lget_none.2 hk] at h; cases h

theorem ansF_ok {t : TabS} (ht : TabOK t) (a : HAct) : TabOK (ansF t a).1 := by
  unfold ansF
  split
  · unfold issueF
    repeat' split
    all_goals try exact ht
    rename_i h1 h2 h3 h4
    have := lput_length t.live t.next (a.ser, t.clock + a.n)
    have hl := ht.len
    exact ⟨ht.cap0, ht.cap1, by have := ht.next0; simp only; omega, by simp only; omega, ht.clock0, ht.clock1, by simp only; omega, lput_nodup _ ht.keys⟩
  split
  · unfold getF; split <;> exact ht
  split
  · unfold renewF
    split
    · exact ht
    · rename_i x hx
      split
      · refine ⟨ht.cap0, ht.cap1, ht.next0, ht.next1, ht.clock0, ht.clock1, ?_, lput_nodup _ ht.keys⟩
        have := lput_length_old (l := t.live) (x.1, t.clock + a.n) (lget_mem hx)
        have hl := ht.len
        simp only; omega
      · exact ht
  split
  · unfold releaseF
    split
    · exact ht
    · refine ⟨ht.cap0, ht.cap1, ht.next0, ht.next1, ht.clock0, ht.clock1, ?_, ((ldel_sub _ _).map _).nodup ht.keys⟩
      have := (ldel_sub t.live a.id).length_le
      have hl := ht.len
      simp only; omega
  split
  · unfold tickF
    cases hb : tickB t a with
    | true => simp only [if_true]; exact ht
    | false =>
      simp only [Bool.false_eq_true, if_false]
      simp only [tickB, Bool.or_eq_false_iff, decide_eq_false_iff_not] at hb
      refine ⟨ht.cap0, ht.cap1, ht.next0, ht.next1, by have := ht.clock0; simp only; omega, by simp only; omega, ?_, ((List.filter_sublist).map _).nodup ht.keys⟩
      have := List.length_filter_le (fun p : Int × Int × Int => decide (t.clock + a.n < p.2.2)) t.live
      have hl := ht.len
      simp only [stayF]; omega
  · exact ht

def u64s (l : List Int) : List Value := l.map (Value.int .u64)
@[simp] theorem u64s_length (l : List Int) : (u64s l).length = l.length := by simp [u64s]
theorem u64s_one (l : List Int) : ∀ u, u ∈ u64s l → u.oneCell' = true := by
  intro u hu; simp [u64s] at hu; obtain ⟨a, _, rfl⟩ := hu; rfl
/-- A table lies there. -/
structure TabAt (w : World) (tb mb : Nat) (t : TabS) : Prop where
  blk : w.heap[tb]? = some (.cells #[.int .i64 t.cap, .map (some mb), .int .u64 t.next, .int .i64 t.clock] 142)
  map : MapAt w mb .u64 (encL t.live)
theorem TabAt.keep {a w : World} {tb mb : Nat} {t : TabS} (h : TabAt a tb mb t) (hx : Ext a w) : TabAt w tb mb t := ⟨hx.keep h.blk, h.map.keep hx⟩
theorem TabAt.ne {w : World} {tb mb : Nat} {t : TabS} (h : TabAt w tb mb t) : tb ≠ mb := h.map.ne_cells h.blk
/-- A slice of numbers that can be read. -/
def IdsAt (w : World) (ad : Option Addr) (ids : List Int) : Prop := 0 < ids.length → ∃ g off, ad = some ⟨g, off, none⟩ ∧ g < w.heap.size ∧ RRow w ⟨g, off, none⟩ (u64s ids)
def actC (a : HAct) (ad : Option Addr) (c : Nat) : Array Value := #[.int .i64 a.kind, .int .u64 a.id, .int .i64 a.n, .int .u32 a.ser, .slice ad a.ids.length c, .int .i64 a.err]

end Go.Proofs.Eff
