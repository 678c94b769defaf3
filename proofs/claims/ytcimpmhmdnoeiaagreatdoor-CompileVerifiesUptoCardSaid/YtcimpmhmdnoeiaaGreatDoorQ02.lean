import Derived.Test.YtcimpmhmdnoeiaaGreatDoorQ00
import Derived.BigQuiet
import Derived.CellFam
import Derived.Deep.AppendLies
import Derived.Deep.CutBlock
import Derived.Deep.DeepCutAuto
import Derived.Deep.RegionHeld3
import Derived.Deep.RegionLaw
import Derived.Deep.WholeRow
import Derived.Laws.AppendOwnNone
import Derived.Lib.Hide
import Derived.Lib.SmallJoins
import Derived.Lib.Walk
import Derived.Test.YtcimpmhmdnoeiaaGreatDoorProg
import Derived.WalkLawsBesides
import Derived.WalkSpells
set_option maxRecDepth 100000
set_option linter.all false
namespace Go.Proofs.Eff
theorem hY {p:Prop}(h:p):Go.RowKit.Hid p:=Lib.hid h
end Go.Proofs.Eff
namespace Go
open Go.RowKit
theorem RowKit.Hid.o {p:Prop} (h:Hid p):p:=h.out
theorem Calls.m {e0:Ending} {P f args w}{A:World→Prop}{K:Ending→World→Prop}(h:Calls P f args w fun e w'=>e=e0∧A w')(k:∀w',Hid (A w')→K e0 w'):Calls P f args w K:=h.mono fun _ w' ⟨a,b⟩=>by subst a;exact k w' (Proofs.Eff.hY b)
theorem Calls.m2 {e0:Ending} {P f args w}{A B:World→Prop}{K:Ending→World→Prop}(h:Calls P f args w fun e w'=>e=e0∧A w'∧B w')(k:∀w',Hid (A w')→Hid (B w')→K e0 w'):Calls P f args w K:=h.mono fun _ w' ⟨a,b,c⟩=>by subst a;exact k w' (Proofs.Eff.hY b) (Proofs.Eff.hY c)
theorem Calls.m3 {e0:Ending} {P f args w}{A B C:World→Prop}{K:Ending→World→Prop}(h:Calls P f args w fun e w'=>e=e0∧A w'∧B w'∧C w')(k:∀w',Hid (A w')→Hid (B w')→Hid (C w')→K e0 w'):Calls P f args w K:=h.mono fun _ w' ⟨a,b,c,d⟩=>by subst a;exact k w' (Proofs.Eff.hY b) (Proofs.Eff.hY c) (Proofs.Eff.hY d)
theorem Shut.o {p:Prop} (h:Shut p):p:=h.out
abbrev Value.i (n:Int):Value:=.int .i64 n
end Go
namespace Go.Proofs.Eff
open Go.RowKit
variable {p:Prop} {e0:Ending} {a w w':World} {b base n g:Nat} {e:TypeId} {S:List Nat}
theorem QzE {P F}{Q:Ending→World→Prop}{a w}(h:Func.results F=#[])(k:Act.defers a=[])(l:Q (.returned (.tuple #[])) w):bodyPost P F Q .normal a w:=bodyPost_end (v:=.tuple #[]) (results_none h _ _ _) k l
theorem QzR {P F}{Q:Ending→World→Prop}{a w}(h:Func.results F=#[])(k:Act.defers a=[])(l:Q (.returned (.tuple #[])) w):bodyPost P F Q .ret a w:=bodyPost_ret (v:=.tuple #[]) (results_none h _ _ _) k l
def Ext (w w':World):Prop:=Below w.heap.size w w'
theorem Ext.refl (w:World):Ext w w:=Below.refl _ _
theorem Ext.size {b:World}(h:Ext a b):a.heap.size<=b.heap.size:=Below.size h
theorem Ext.trans {b c:World}(h:Ext a b)(k:Ext b c):Ext a c:=Below.trans h (Below.mono k (Below.size h))
theorem Ext.alloc (h:Ext a w)(o:Obj):Ext a (w.alloc o):=Below.alloc h (Below.size h) o
theorem Ext.drew (h:Ext a w):Ext a w.drew:=Below.drew h
theorem Ext.drewN (h:Ext a w)(n:Nat):Ext a (w.drewN n):=⟨h.os,h.tape,h.output,h.size,h.block⟩
theorem Ext.setCell (h:Ext a w){p:Addr}(b:a.heap.size<=p.block)(u:Value):Ext a (w.setCell p u):=Below.setCell h b u
theorem Ext.block (h:Ext a w){k:Nat}(b:k<a.heap.size):w.heap[k]?=a.heap[k]?:=Below.block h k b
theorem Ext.cell (h:Ext a w){p:Addr}(b:p.block<a.heap.size):w.cell? p=a.cell? p:=Below.cell h b
theorem ab {o:Obj}(h:w.heap[b]?=some o):b<w.heap.size:=(Array.getElem?_eq_some_iff.1 h).1
theorem Ext.keep (h:Ext a w){o:Obj}(c:a.heap[b]?=some o):w.heap[b]?=some o:=by rw[h.block (ab c)];exact c
theorem ke (w:World)(o:Obj)(k:Nat):(w.alloc o).heap[k]?=if k=w.heap.size then some o else w.heap[k]?:=by
 show(w.heap.push o)[k]?=_
 rw[Array.getElem?_push]
theorem aq (w:World)(o:Obj)(k:Nat)(a:k=w.heap.size):(w.alloc o).heap[k]?=some o:=by rw[ke,if_pos a]
theorem aM {a:Obj}(h:w.heap[b]?=some a)(o:Obj):(w.alloc o).heap[b]?=some a:=by
 have:=ab h;rw[ke,if_neg (by omega)];exact h
theorem blk {a:Array Value}{T:TypeId}(h:w.heap[b]?=some (.cells a T (0,0))):
 (∀i,w.cell? ⟨b,i,none⟩=a[i]?)/\(∀i,w.frozen? ⟨b,i,none⟩=false):=
 ⟨fun i=>by simp[World.cell?,h],fun i=>by simp[World.frozen?,h]⟩
theorem gM {size a:Nat}{xs:List Value}(h:w.ownsRow base e size (.slice (some ⟨g,0,none⟩) n a) n xs):g<w.heap.size:=(h.lt g rfl).2
theorem ak {size:Nat}{v:Value}{xs:List Value}(h:a.ownsRow base e size v n xs)(b:Ext a w):w.ownsRow base e size v n xs:=
 h.kept (row:=none) ⟨b.os,b.tape,b.output,b.size,fun k c _=>b.block c⟩ (by cases d:v.ownBlock<;>simp)
theorem aX {a:Nat}{xs:List Value}(h:w.ownsRow base e 1 (.slice (some ⟨g,0,none⟩) n a) n xs)(j:Nat)(b:j<n):w.cell? ⟨g,j,none⟩=xs[j]?:=h.cellAt j (by omega)
theorem dj {a:Nat}{xs:List Value}(h:w.ownsRow base e 1 (.slice (some ⟨g,0,none⟩) n a) n xs)(j:Nat):w.frozen? ⟨g,j,none⟩=false:=h.frozenAt j
theorem Ax {a:Nat}{xs:List Value}(h:w.ownsRow base e 1 (.slice (some ⟨g,0,none⟩) n a) n xs):n<=a/\a<=maxLen:=by
 obtain⟨_,b⟩:=h;rcases b with⟨b,_⟩|⟨k,c,j,d,_,_,i,f,_⟩
 ·cases b
 ·cases d;exact⟨i,f⟩
structure Mod (S:List Nat)(w w':World):Prop where
 os:w'.os=w.os
 tape:w'.tape=w.tape
 output:w'.output=w.output
 size:w.heap.size<=w'.heap.size
 block:∀k,k<w.heap.size->¬k∈S->w'.heap[k]?=w.heap[k]?
theorem Ext.mod (h:Ext w w')(S:List Nat):Mod S w w':=⟨h.os,h.tape,h.output,h.size,fun k a _=>h.block a⟩
theorem Mod.trans {b c:World}(h:Mod S a b)(k:Mod S b c):Mod S a c:=
 ⟨k.os.trans h.os,k.tape.trans h.tape,k.output.trans h.output,aN h.size k.size,fun i e d=>(k.block i (bA e h.size) d).trans (h.block i e d)⟩
theorem Mod.refl (S:List Nat)(w:World):Mod S w w:=(Ext.refl w).mod S
theorem Mod.mono {S':List Nat}(h:Mod S w w')(b:∀x,x∈S->x∈S'):Mod S' w w':=⟨h.os,h.tape,h.output,h.size,fun k d c=>h.block k d (fun a=>c (b k a))⟩
theorem Mod.ext {b c:World}(h:Mod S a b)(k:Ext b c):Mod S a c:=h.trans (k.mod S)
theorem Mod.keep (h:Mod S a w){o:Obj}(c:a.heap[b]?=some o)(d:¬b∈S):w.heap[b]?=some o:=by rw[h.block b (ab c) d];exact c
theorem ae (w:World)(a:Addr)(u:Value):Mod [a.block] w (w.setCell a u):=
 ⟨rfl,rfl,rfl,by simp[World.setCell],fun k _ b=>Below.heap_setCell _ _ _ _ (by simpa using b)⟩
theorem Mod.row (h:Mod S a w){size:Nat}{v:Value}{xs:List Value}(j:a.ownsRow base e size v n xs)(i:∀g,v.ownBlock=some g->¬g∈S):w.ownsRow base e size v n xs:=by
 obtain⟨k,b⟩:=j;refine⟨k,?_⟩;rcases b with b|⟨g,c,d,f,o,m,l⟩
 ·exact .inl b
 ·exact .inr ⟨g,c,d,f,o,h.keep m (i g (by rw[f];rfl)),l⟩
theorem mM {size:Nat}{xs:List Value}(h:w.ownsRow base e size (.slice (some ⟨g,0,none⟩) n b) n xs):∃a,w.heap[g]?=some (.cells a e)/\a.size=b*size/\a.toList.take (n*size)=xs:=by
 rcases h.2 with⟨c,_⟩|⟨j,k,a,c,_,i,_,_,f,d⟩
 ·cases c
 ·cases c;exact⟨a,i,f,d⟩
theorem ie {f:Nat}{o c:Obj}(h:w.heap[b]?=some o)(d:w.heap[f]?=some c)(a:o≠c):b≠f:=by
 intro e;subst e;rw[h] at d;exact a (ol d)
theorem n7 {a:Nat}{xs:List Value}(h:w.ownsRow base e 1 (.slice (some ⟨g,0,none⟩) n a) n xs)(j:Nat)(u:Value):(w.setCell ⟨g,j,none⟩ u).ownsRow base e 1 (.slice (some ⟨g,0,none⟩) n a) n (xs.set j u):=(h.stored j u).1
theorem be {i:Nat}{c:Array Value}{T:TypeId}{a:Nat×Nat}(h:w.heap[b]?=some (.cells c T a))(v:Value):(w.setCell ⟨b,i,none⟩ v).heap[b]?=some (.cells (c.setIfInBounds i v) T a):=by
 simp only[World.setCell,Array.getElem?_modify,h];simp
theorem jQ {a:Addr}{o:Obj}(h:w.heap[b]?=some o)(c:b≠a.block)(v:Value):(w.setCell a v).heap[b]?=some o:=by
 rw[Below.heap_setCell _ _ _ _ c];exact h
theorem n8 {e i size:Nat}{v:Value}{xs:List Value}{p:Array Value}(h:w.ownsRow base e size v n xs)(l:Mod [b] w w')(d:w.heap[b]?=some (.cells p i))(k:i≠e):w'.ownsRow base e size v n xs:=
 l.row h fun g c=>by
  rcases h.2 with⟨f,_⟩|⟨q,j,o,f,_,m,_⟩
  ·rw[f] at c;simp[Value.ownBlock] at c
  ·rw[f] at c
   simp only[Value.ownBlock,dO] at c;subst c;intro a;simp only[aS,aT,or_false] at a;subst a;rw[m] at d;simp only[dO,Obj.cells.injEq] at d;exact k d.2.1.symm
theorem ag {row:Option Nat}(h:w.grownBy w' row):Mod row.toList w w':=by
 obtain⟨i,g,f,d,c⟩:=h;refine⟨i,g,f,d,fun k b a=>c k b (fun e=>a ?_)⟩;rw[←e];simp
theorem aw {e size c:Nat}{ad:Addr}{xs:List Value}(h:w.ownsRow base e size (.slice (some ad) n c) n xs):base<=ad.block/\ad.block<w.heap.size/\∃i,w.heap[ad.block]?=some (.cells i e):=by
 rcases h.2 with⟨a,_⟩|⟨g,j,b,a,f,d,_⟩
 ·cases a
 ·simp only[Value.slice.injEq,dO] at a
  obtain⟨rfl,_⟩:=a;exact⟨f,ab d,b,d⟩
def uu (base:Nat)(w w':World):Prop:=∃S,(∀x,x∈S->base<=x)/\Mod S w w'
theorem uu.of_mod (h:Mod S w w')(a:∀x,x∈S->base<=x):uu base w w':=⟨S,a,h⟩
theorem uu.ext (h:uu a.heap.size w w')(b:Ext a w):Ext a w':=by
 obtain⟨S,e,c⟩:=h
 exact⟨c.os.trans b.os,c.tape.trans b.tape,c.output.trans b.output,aN b.size c.size,fun k d=>by
  rw[c.block k (bA d b.size) (fun h=>by have:=e k h;omega)]
  exact b.block d⟩
end Go.Proofs.Eff
