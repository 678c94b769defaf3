/- States: the document's watch, the program's session, as they lie. -/
import Derived.Test.YtaggadjiefgpoaaGreatDoorSy36
import Derived.Test.YtaggadjiefgpoaaGreatDoorSy28
namespace Go.Proofs.Eff
open Go.RowKit

/-- The document's watch lies there; its maps, once there is a session. -/
def WatchAt (w : World) (wb : Nat) (rv av : Option Nat) (s : Mon) : Prop :=
  ∃ (ap ev : Int), w.heap[wb]? = some (.cells #[.int .u64 s.tok, .int .u64 s.most, .int .u64 ap, .map rv, .map av, .int .u64 ev] 205) ∧
    (s.tok ≠ 0 → ap = s.replies.length ∧ ev = s.events ∧ ∃ rm am lr la, rv = some rm ∧ av = some am ∧ MapAt w rm .u64 lr ∧ MapAt w am .u64 la ∧ RepM lr s.replies ∧ AskB la s.asked ∧ rm ≠ am)
theorem WatchAt.lt {w : World} {wb : Nat} {rv av : Option Nat} {s : Mon} (h : WatchAt w wb rv av s) : wb < w.heap.size := by obtain ⟨_, _, h, _⟩ := h; exact lt_of_block h
theorem WatchAt.ext {w w' : World} {wb : Nat} {rv av : Option Nat} {s : Mon} (h : WatchAt w wb rv av s) (hx : Ext w w') : WatchAt w' wb rv av s := by
  obtain ⟨ap, ev, hb, h2⟩ := h
  refine ⟨ap, ev, hx.keep hb, fun ht => ?_⟩
  obtain ⟨h3, h4, rm, am, lr, la, h5, h6, h7, h8, h9⟩ := h2 ht
  exact ⟨h3, h4, rm, am, lr, la, h5, h6, h7.keep hx, h8.keep hx, h9⟩
theorem WatchAt.mod {w w' : World} {wb : Nat} {rv av : Option Nat} {s : Mon} {S : List Nat} (h : WatchAt w wb rv av s) (hm : Mod S w w') (h1 : wb ∉ S) (h2 : ∀ g, rv = some g → g ∉ S) (h3 : ∀ g, av = some g → g ∉ S) : WatchAt w' wb rv av s := by
  obtain ⟨ap, ev, hb, h4⟩ := h
  refine ⟨ap, ev, hm.keep hb h1, fun ht => ?_⟩
  obtain ⟨h5, h6, rm, am, lr, la, rfl, rfl, h7, h8, h9⟩ := h4 ht
  exact ⟨h5, h6, rm, am, lr, la, rfl, rfl, h7.mod hm (h2 _ rfl), h8.mod hm (h3 _ rfl), h9⟩
/-- Bytes that are read stay where they are not written. -/
theorem BU.stay {w w' : World} {top c : Nat} {a : Option Addr} {l : List Int} {S : List Nat} (h : BU w top a c l) (hm : Mod S w w') (ht : top ≤ w.heap.size) (hs : ∀ ad, a = some ad → ad.block ∉ S) : BU w' top a c l :=
  ⟨h.cap, h.nil0, fun ad e hc => by
    obtain ⟨g, off, e1, e2, e3⟩ := h.row ad e hc
    have h7 := hs ad e
    subst e1
    refine ⟨g, off, rfl, e2, fun j x hj => ?_⟩
    rw [← e3 j x hj]
    exact World.cell?_of_block (a := ⟨g, off + j, none⟩) (hm.block g (by omega) h7), h.u8, h.big, h.small⟩

/-- A reply that is kept: its bytes, and the slice of them. -/
abbrev Rp := List Int × Option Addr × Nat
def rpC (x : Rp) : Value := .slice x.2.1 x.1.length x.2.2
/-- A reply's bytes lie in a row of their own. -/
structure RpAt (w : World) (base : Nat) (x : Rp) : Prop where
  row : w.ownsRow base 5 1 (rpC x) x.1.length (u8s x.1)
  u8 : U8s x.1
  small : x.1.length ≤ 1099511627776
theorem RpAt.ext {w w' : World} {base : Nat} {x : Rp} (h : RpAt w base x) (hx : Ext w w') : RpAt w' base x := ⟨row_keep h.row hx, h.u8, h.small⟩
/-- The program's session lies there. -/
structure SesAt (w : World) (base sb rb mb : Nat) (ka : Option Addr) (ra : Option Addr) (rc kc : Nat) (d : Int) (rs : List Rp) (s : Mon) : Prop where
  ses : w.heap[sb]? = some (.cells (sesC rb s.tok s.most ra rs.length rc mb s.events) 198)
  rd : w.heap[rb]? = some (.cells #[.bool true, .slice ka s.kept.length kc, .int .i64 d] 249)
  reps : rs.map (·.1) = s.replies
  krow : w.ownsRow base 5 1 (.slice ka s.kept.length kc) s.kept.length (u8s s.kept)
  ku8 : U8s s.kept
  rrow : w.ownsRow base 37 1 (.slice ra rs.length rc) rs.length (rs.map rpC)
  rrs : ∀ x, x ∈ rs → RpAt w base x
  apart : ∀ x, x ∈ rs → ∀ ad kd, x.2.1 = some ad → ka = some kd → ad.block ≠ kd.block
  map : ∃ la, MapAt w mb .u64 la ∧ AskN la s.asked
  low : base ≤ sb ∧ base ≤ rb ∧ base ≤ mb
theorem SesAt.ext {w w' : World} {base sb rb mb : Nat} {ka ra : Option Addr} {rc kc : Nat} {d : Int} {rs : List Rp} {s : Mon} (h : SesAt w base sb rb mb ka ra rc kc d rs s) (hx : Ext w w') : SesAt w' base sb rb mb ka ra rc kc d rs s := by
  obtain ⟨h1, h2, h3, h4, h5, h6, h7, h8, ⟨la, h9, h10⟩, h11⟩ := h
  exact ⟨hx.keep h1, hx.keep h2, h3, row_keep h4 hx, h5, row_keep h6 hx, fun x hm => (h7 x hm).ext hx, h8, ⟨la, h9.keep hx, h10⟩, h11⟩
end Go.Proofs.Eff
