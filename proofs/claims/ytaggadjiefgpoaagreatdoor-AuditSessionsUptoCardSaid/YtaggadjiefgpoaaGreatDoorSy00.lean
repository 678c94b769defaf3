/- Plain definitions and small laws: words, headers, heaps as lists; rows and frames of memory. No program in sight. -/
import Derived.WalkKit
import Derived.WalkSpells
import Derived.WalkLawsBesides
import Derived.BigQuiet
import Derived.Deep.QuietTactic
import Derived.Deep.LoopGhost
import Derived.Laws.BitsLemmas
import Derived.Lib.Hide
import Derived.Lib.SmallJoins
import Derived.Laws.StructEq
import Derived.Deep.RegionHeld3
namespace Go.Proofs.Eff
open Go.RowKit

theorem wraps_u32 (n : Int) (h₀ : 0 ≤ n) (h₁ : n < 2 ^ 32) : IntKind.u32.wrap n = n := by rw [IntKind.wrap_u32]; omega
theorem u32_and1 {x : Int} (h₀ : 0 ≤ x) (h₁ : x < 4294967296) : bits .and .u32 x 1 = x % 2 := bits_mask .u32 32 (by decide) wraps_u32 1 (by decide) x h₀ h₁
theorem u32_and3 {x : Int} (h₀ : 0 ≤ x) (h₁ : x < 4294967296) : bits .and .u32 x 3 = x % 4 := bits_mask .u32 32 (by decide) wraps_u32 2 (by decide) x h₀ h₁
theorem u32_and7 {x : Int} (h₀ : 0 ≤ x) (h₁ : x < 4294967296) : bits .and .u32 x 7 = x % 8 := bits_mask .u32 32 (by decide) wraps_u32 3 (by decide) x h₀ h₁
theorem u32_and24 {x : Int} (h₀ : 0 ≤ x) (h₁ : x < 4294967296) : bits .and .u32 x 16777215 = x % 16777216 := bits_mask .u32 32 (by decide) wraps_u32 24 (by decide) x h₀ h₁

theorem bits_or_comm_u32 (x y : Int) : bits .or .u32 x y = bits .or .u32 y x := by simp [bits, BitVec.or_comm]

theorem run_equalIn_arr3 {P : Program} (w : World) (d : Nat) (t e : TypeId) (ht : P.underlying t = some (.array 3 e)) (he : P.underlying e = some (.int .u32)) (hsz : ∀ w, (sizeOf e).run P w = .ok 1 w)
    (a0 a1 a2 b0 b1 b2 : Int) :
    (Op.equalIn (d + 1 + 1) t (.agg #[.int .u32 a0, .int .u32 a1, .int .u32 a2]) (.agg #[.int .u32 b0, .int .u32 b1, .int .u32 b2])).run P w = .ok (a0 == b0 && a1 == b1 && a2 == b2) w := by
  have pe : ∀ (x y : Int), (Op.equalIn (d + 1) e (.int .u32 x) (.int .u32 y)).run P w = .ok (x == y) w := fun x y => run_equalIn_int w d e .u32 .u32 _ _ he
  have px : ∀ (i : Nat) (x y z : Int) (hi : i < 3), (part e #[.int .u32 x, .int .u32 y, .int .u32 z] i).run P w = .ok (#[Value.int .u32 x, .int .u32 y, .int .u32 z].getD i undef) w := by
    intro i x y z hi
    obtain rfl | rfl | rfl : i = 0 ∨ i = 1 ∨ i = 2 := by omega
    all_goals simp [part, isAgg, run_underlying he]
  generalize hk : d + 1 = k at pe ⊢
  simp only [Op.equalIn, Sem.run_bind, run_underlying ht, Result.andThen_ok, hsz]
  rw [Std.Legacy.Range.forIn_eq_forIn_range']
  by_cases h0 : a0 = b0 <;> by_cases h1 : a1 = b1 <;> by_cases h2 : a2 = b2 <;> simp [Std.Legacy.Range.size, List.range', List.forIn_cons, px, pe, h0, h1, h2]

/-- '!=' between two arrays of three uint32. -/
theorem run_neq_arr3 {P : Program} (w : World) (t e : TypeId) (ht : P.underlying t = some (.array 3 e)) (he : P.underlying e = some (.int .u32)) (hsz : ∀ w, (sizeOf e).run P w = .ok 1 w)
    (a0 a1 a2 b0 b1 b2 : Int) :
    (binOp .neq t (.agg #[.int .u32 a0, .int .u32 a1, .int .u32 a2]) (.agg #[.int .u32 b0, .int .u32 b1, .int .u32 b2])).run P w = .ok (.bool (!(a0 == b0 && a1 == b1 && a2 == b2))) w := by
  rw [run_neq_struct, run_equalIn_arr3 w 9998 t e ht he hsz]
  rfl

/-! ### Frames: what was there is as it was -/

/-- Nothing that was there has turned: new blocks alone. -/
def Ext (w w' : World) : Prop := Below w.heap.size w w'
theorem Ext.refl (w : World) : Ext w w := Below.refl _ _
theorem Ext.size {a b : World} (h : Ext a b) : a.heap.size ≤ b.heap.size := Below.size h
theorem Ext.trans {a b c : World} (h : Ext a b) (k : Ext b c) : Ext a c := Below.trans h (Below.mono k (Below.size h))
theorem Ext.alloc {a w : World} (h : Ext a w) (o : Obj) : Ext a (w.alloc o) := Below.alloc h (Below.size h) o
theorem Ext.drew {a w : World} (h : Ext a w) : Ext a w.drew := Below.drew h
theorem Ext.drewN {a w : World} (h : Ext a w) (n : Nat) : Ext a (w.drewN n) := ⟨h.os, h.tape, h.output, h.size, h.block⟩
theorem Ext.setCell {a w : World} (h : Ext a w) {p : Addr} (hp : a.heap.size ≤ p.block) (u : Value) : Ext a (w.setCell p u) := Below.setCell h hp u
theorem Ext.block {a w : World} (h : Ext a w) {k : Nat} (hk : k < a.heap.size) : w.heap[k]? = a.heap[k]? := Below.block h k hk
theorem Ext.cell {a w : World} (h : Ext a w) {p : Addr} (hk : p.block < a.heap.size) : w.cell? p = a.cell? p := Below.cell h hk
theorem Ext.frozen {a w : World} (h : Ext a w) {p : Addr} (hk : p.block < a.heap.size) : w.frozen? p = a.frozen? p := Below.frozen h hk
theorem lt_of_block {w : World} {b : Nat} {o : Obj} (h : w.heap[b]? = some o) : b < w.heap.size := (Array.getElem?_eq_some_iff.1 h).1
theorem Ext.keep {a w : World} (h : Ext a w) {b : Nat} {o : Obj} (hb : a.heap[b]? = some o) : w.heap[b]? = some o := by rw [h.block (lt_of_block hb)]; exact hb

theorem Ext.rules {W w1 : World} (h : Ext W w1) : (∀ b o, b < W.heap.size → w1.cell? ⟨b, o, none⟩ = W.cell? ⟨b, o, none⟩) ∧ (∀ b o, b < W.heap.size → w1.frozen? ⟨b, o, none⟩ = W.frozen? ⟨b, o, none⟩) :=
  ⟨fun _ _ hb => h.cell (p := ⟨_, _, none⟩) hb, fun _ _ hb => h.frozen (p := ⟨_, _, none⟩) hb⟩

theorem heap_alloc_get (w : World) (o : Obj) (k : Nat) : (w.alloc o).heap[k]? = if k = w.heap.size then some o else w.heap[k]? := by
  show (w.heap.push o)[k]? = _
  rw [Array.getElem?_push]
theorem newB (w : World) (o : Obj) (k : Nat) (hk : k = w.heap.size) : (w.alloc o).heap[k]? = some o := by rw [heap_alloc_get, if_pos hk]
theorem keepB {w : World} {b : Nat} {o' : Obj} (h : w.heap[b]? = some o') (o : Obj) : (w.alloc o).heap[b]? = some o' := by
  have := lt_of_block h
  rw [heap_alloc_get, if_neg (by omega)]; exact h
/-- What a block's cells hold, as rules. -/
theorem blk {w : World} {b : Nat} {cs : Array Value} {T : TypeId} (h : w.heap[b]? = some (.cells cs T (0, 0))) :
    (∀ i, w.cell? ⟨b, i, none⟩ = cs[i]?) ∧ (∀ i, w.frozen? ⟨b, i, none⟩ = false) :=
  ⟨fun i => by simp [World.cell?, h], fun i => by simp [World.frozen?, h]⟩

/-! ### Oops and headers -/

/-- the kind of an oop -/
def kindI (o : Int) : Int := if o = 0 then 0 else if o % 2 = 1 then 1 else 2
/-- an oop that names an object's place -/
def isObj (o : Int) : Bool := o != 0 && o % 2 == 0
theorem kind_obj {o : Int} (h : isObj o = true) : kindI o = 2 := by simp [isObj] at h; simp [kindI, h]
theorem kind_no {o : Int} (h : isObj o = false) : kindI o = 0 ∨ kindI o = 1 := by
  unfold isObj at h; unfold kindI
  by_cases h1 : o = 0 <;> by_cases h2 : o % 2 = 1 <;> simp_all <;> omega
theorem kind_ne {o : Int} (h : isObj o = false) : kindI o ≠ 2 := by have := kind_no h; omega

/-- A header. -/
structure Hdr where
  size : Int
  fmt : Int
  spare : Int
  cls : Int
  ser : Int
  deriving DecidableEq

def Hdr.zero : Hdr := ⟨0, 0, 0, 0, 0⟩
/-- The cells of one. -/
def Hdr.cells (h : Hdr) : Array Value := #[.int .i64 h.size, .int .i64 h.fmt, .int .i64 h.spare, .int .u32 h.cls, .int .u32 h.ser]
def Hdr.val (h : Hdr) : Value := .agg h.cells

def mayB (h : Hdr) : Bool :=
  0 ≤ h.size && h.size ≤ 65535 && 1 ≤ h.fmt && h.fmt ≤ 4 && 0 ≤ h.spare && h.spare ≤ 3 && (h.spare == 0 || (h.fmt == 2 && 0 < h.size))
def packW (h : Hdr) : Int := h.size + h.fmt * 16777216 + h.spare * 134217728
def hdrOf (a c s : Int) : Hdr := ⟨a % 16777216, a / 16777216 % 8, a / 134217728 % 4, c, s⟩
def okW (a : Int) : Bool := mayB (hdrOf a 0 0) && a / 536870912 == 0
def IsU32 (x : Int) : Prop := 0 ≤ x ∧ x < 4294967296
def IsI64 (x : Int) : Prop := -9223372036854775808 ≤ x ∧ x < 9223372036854775808

end Go.Proofs.Eff

/- Heaps as lists of words, and where one lies in memory. No program in sight. -/
namespace Go.Proofs.Eff
open Go.RowKit

def u32s (l : List Int) : List Value := l.map (Value.int .u32)
def bools (l : List Bool) : List Value := l.map Value.bool
@[simp] theorem u32s_length (l : List Int) : (u32s l).length = l.length := by simp [u32s]
@[simp] theorem bools_length (l : List Bool) : (bools l).length = l.length := by simp [bools]

/-- A word of a list; 0 behind its end. -/
def wd (l : List Int) (i : Nat) : Int := l[i]?.getD 0
/-- A mark of a list; false behind its end. -/
def bd (l : List Bool) (i : Nat) : Bool := l[i]?.getD false
/-- The object that begins at a word of so many. -/
def objAt (n : Nat) (i : Int) : Int := if i < n then 2 * i else 0
/-- What a heap has. -/
structure HeapS where
  words : List Int
  starts : List Bool
  roots : List Int
  size : Int
  last : Int

/-- Where one lies. -/
structure HLoc where
  b : Nat
  gw : Nat
  cw : Nat
  gs : Nat
  cs : Nat
  gr : Nat
  cr : Nat

theorem Ext.grown {a w w' : World} {row : Option Nat} (h : Ext a w) (hg : w.grownBy w' row) (hr : ∀ k, row = some k → a.heap.size ≤ k) : Ext a w' := Below.grown h hg (Below.size h) hr
theorem own_form {w : World} {base n size : Nat} {e : TypeId} {v : Value} {xs : List Value} (h : w.ownsRow base e size v n xs) (hv : v ≠ .slice none 0 0) : ∃ g c, v = .slice (some ⟨g, 0, none⟩) n c := by
  rcases h.2 with ⟨h2, _⟩ | ⟨g', cap', cur, h2, _⟩
  · exact absurd h2 hv
  · exact ⟨_, _, h2⟩
theorem add_block (a : Addr) (j : Nat) : (a.add j).block = a.block := by unfold Addr.add; split <;> rfl
/-- A slice that is not nil, whose elements (a cell each) can be read. -/
def RRow (w : World) (ad : Addr) (xs : List Value) : Prop := ∀ j u, xs[j]? = some u → w.cell? (ad.add j) = some u
theorem RRow.keep {a w : World} {ad : Addr} {xs : List Value} (h : RRow a ad xs) (hx : Ext a w) (hl : ad.block < a.heap.size) : RRow w ad xs := fun j u hj => by
  have := h j u hj
  have e := hx.block hl
  have : w.cell? (ad.add j) = a.cell? (ad.add j) := World.cell?_of_block (a := ad.add j) (by rw [add_block]; exact e)
  rw [this]; assumption

/-- A heap lies there. -/
structure HeapAt (w : World) (L : HLoc) (h : HeapS) : Prop where
  blk : w.heap[L.b]? = some (.cells #[.slice (some ⟨L.gw, 0, none⟩) h.words.length L.cw, .slice (some ⟨L.gs, 0, none⟩) h.starts.length L.cs, .slice (some ⟨L.gr, 0, none⟩) h.roots.length L.cr, .int .i64 h.size, .int .u32 h.last] 122)
  words : w.ownsRow 0 24 1 (.slice (some ⟨L.gw, 0, none⟩) h.words.length L.cw) h.words.length (u32s h.words)
  starts : w.ownsRow 0 4 1 (.slice (some ⟨L.gs, 0, none⟩) h.starts.length L.cs) h.starts.length (bools h.starts)
  roots : w.ownsRow 0 41 1 (.slice (some ⟨L.gr, 0, none⟩) h.roots.length L.cr) h.roots.length (u32s h.roots)

theorem row_lt {w : World} {base size n cap g : Nat} {e : TypeId} {xs : List Value} (h : w.ownsRow base e size (.slice (some ⟨g, 0, none⟩) n cap) n xs) : g < w.heap.size := (h.lt g rfl).2
theorem row_keep {a w : World} {base size n : Nat} {v : Value} {e : TypeId} {xs : List Value} (h : a.ownsRow base e size v n xs) (hx : Ext a w) : w.ownsRow base e size v n xs :=
  h.kept (row := none) ⟨hx.os, hx.tape, hx.output, hx.size, fun k hk _ => hx.block hk⟩ (by cases hv : v.ownBlock <;> simp)
theorem row_cell {w : World} {base n cap g : Nat} {e : TypeId} {xs : List Value} (h : w.ownsRow base e 1 (.slice (some ⟨g, 0, none⟩) n cap) n xs) (j : Nat) (hj : j < n) : w.cell? ⟨g, j, none⟩ = xs[j]? := h.cellAt j (by omega)
theorem row_free {w : World} {base n cap g : Nat} {e : TypeId} {xs : List Value} (h : w.ownsRow base e 1 (.slice (some ⟨g, 0, none⟩) n cap) n xs) (j : Nat) : w.frozen? ⟨g, j, none⟩ = false := h.frozenAt j
theorem row_max {w : World} {base n cap g : Nat} {e : TypeId} {xs : List Value} (h : w.ownsRow base e 1 (.slice (some ⟨g, 0, none⟩) n cap) n xs) : n ≤ cap ∧ cap ≤ maxLen := by
  obtain ⟨_, h2⟩ := h
  rcases h2 with ⟨h2, _⟩ | ⟨g', cap', cur, hv, _, _, h3, h4, _⟩
  · cases h2
  · cases hv; exact ⟨h3, h4⟩

theorem HeapAt.keep {a w : World} {L : HLoc} {h : HeapS} (ha : HeapAt a L h) (hx : Ext a w) : HeapAt w L h :=
  ⟨hx.keep ha.blk, row_keep ha.words hx, row_keep ha.starts hx, row_keep ha.roots hx⟩
theorem HeapAt.word {w : World} {L : HLoc} {h : HeapS} (ha : HeapAt w L h) (i : Nat) (hi : i < h.words.length) : w.cell? ⟨L.gw, i, none⟩ = some (.int .u32 (wd h.words i)) := by
  rw [row_cell ha.words i hi]; simp [u32s, wd, hi]
theorem HeapAt.start {w : World} {L : HLoc} {h : HeapS} (ha : HeapAt w L h) (i : Nat) (hi : i < h.starts.length) : w.cell? ⟨L.gs, i, none⟩ = some (.bool (bd h.starts i)) := by
  rw [row_cell ha.starts i hi]; simp [bools, bd, hi]
theorem HeapAt.root {w : World} {L : HLoc} {h : HeapS} (ha : HeapAt w L h) (i : Nat) (hi : i < h.roots.length) : w.cell? ⟨L.gr, i, none⟩ = some (.int .u32 (wd h.roots i)) := by
  rw [row_cell ha.roots i hi]; simp [u32s, wd, hi]
theorem HeapAt.rules {w : World} {L : HLoc} {h : HeapS} (ha : HeapAt w L h) : (∀ i, w.cell? ⟨L.b, i, none⟩ = (#[.slice (some ⟨L.gw, 0, none⟩) h.words.length L.cw, .slice (some ⟨L.gs, 0, none⟩) h.starts.length L.cs, .slice (some ⟨L.gr, 0, none⟩) h.roots.length L.cr, .int .i64 h.size, .int .u32 h.last] : Array Value)[i]?) ∧ (∀ i, w.frozen? ⟨L.b, i, none⟩ = false) := Eff.blk ha.blk
theorem HeapAt.lt {w : World} {L : HLoc} {h : HeapS} (ha : HeapAt w L h) : L.b < w.heap.size := lt_of_block ha.blk

/-! ### How objects lie -/

def sizeAt (ws : List Int) (a : Nat) : Nat := (wd ws a % 16777216).toNat
def hdrAt (ws : List Int) (a : Nat) : Hdr := hdrOf (wd ws a) (wd ws (a + 1)) (wd ws (a + 2))

/-- From a word on the objects begin at those. -/
def Laid (ws : List Int) : Nat → List Nat → Prop
  | a, [] => a = ws.length
  | a, x :: l => x = a ∧ a + 3 + sizeAt ws a ≤ ws.length ∧ okW (wd ws a) = true ∧ Laid ws (a + 3 + sizeAt ws a) l

/-- An oop is an object that begins at one of those. -/
def isO (os : List Nat) (o : Int) : Bool := isObj o && os.contains (o / 2).toNat
def valueOK (os : List Nat) (v : Int) : Bool := !isObj v || os.contains (v / 2).toNat
def classOK (os : List Nat) (c : Int) : Bool := c == 0 || isO os c

/-- A heap in whose words objects lie one behind the other. -/
structure WF (h : HeapS) (os : List Nat) : Prop where
  pos : 0 < h.words.length
  zero : wd h.words 0 = 0
  rng : ∀ x, x ∈ h.words → 0 ≤ x ∧ x < 4294967296
  laid : Laid h.words 1 os
  starts : h.starts = (List.range h.words.length).map (fun i => os.contains i)
  rlen : h.roots.length = 64
  rrng : ∀ x, x ∈ h.roots → 0 ≤ x ∧ x < 4294967296
  size0 : 64 ≤ h.size
  size1 : h.size ≤ 1048576
  fits : (h.words.length : Int) ≤ h.size
  last0 : 0 ≤ h.last
  last1 : h.last < 4294967296

theorem Laid.mem {ws : List Int} {a : Nat} {os : List Nat} (h : Laid ws a os) : ∀ x, x ∈ os → a ≤ x ∧ x + 3 + sizeAt ws x ≤ ws.length ∧ okW (wd ws x) = true := by
  induction os generalizing a with
  | nil => intro x hx; cases hx
  | cons y l ih =>
    obtain ⟨rfl, h2, h3, h4⟩ := h
    intro x hx
    rcases List.mem_cons.1 hx with rfl | hx
    · exact ⟨Nat.le_refl _, h2, h3⟩
    · have := ih h4 x hx; exact ⟨by omega, this.2⟩

theorem WF.mem {h : HeapS} {os : List Nat} (wf : WF h os) {x : Nat} (hx : x ∈ os) : 1 ≤ x ∧ x + 3 + sizeAt h.words x ≤ h.words.length ∧ okW (wd h.words x) = true := wf.laid.mem x hx
theorem WF.word {h : HeapS} {os : List Nat} (wf : WF h os) (i : Nat) : 0 ≤ wd h.words i ∧ wd h.words i < 4294967296 := by
  unfold wd
  by_cases hi : i < h.words.length
  · simp only [List.getElem?_eq_getElem hi, Option.getD_some]; exact wf.rng _ (List.getElem_mem hi)
  · simp only [List.getElem?_eq_none (Nat.le_of_not_lt hi), Option.getD_none]; omega
theorem WF.root {h : HeapS} {os : List Nat} (wf : WF h os) (i : Nat) : 0 ≤ wd h.roots i ∧ wd h.roots i < 4294967296 := by
  unfold wd
  by_cases hi : i < h.roots.length
  · simp only [List.getElem?_eq_getElem hi, Option.getD_some]; exact wf.rrng _ (List.getElem_mem hi)
  · simp only [List.getElem?_eq_none (Nat.le_of_not_lt hi), Option.getD_none]; omega
theorem WF.slen {h : HeapS} {os : List Nat} (wf : WF h os) : h.starts.length = h.words.length := by rw [wf.starts]; simp
theorem WF.start {h : HeapS} {os : List Nat} (wf : WF h os) {i : Nat} (hi : i < h.words.length) : bd h.starts i = os.contains i := by rw [wf.starts]; simp [bd, hi]
theorem WF.big {h : HeapS} {os : List Nat} (wf : WF h os) : h.words.length ≤ 1048576 := by have := wf.fits; have := wf.size1; omega
theorem WF.isO_lt {h : HeapS} {os : List Nat} (_wf : WF h os) {o : Int} (ho : isO os o = true) : isObj o = true ∧ (o / 2).toNat ∈ os := by
  simpa [isO] using ho

end Go.Proofs.Eff
