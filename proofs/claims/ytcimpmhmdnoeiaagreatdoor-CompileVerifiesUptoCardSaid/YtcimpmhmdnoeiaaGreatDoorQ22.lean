import Derived.Test.YtcimpmhmdnoeiaaGreatDoorQ20
import Derived.Test.YtcimpmhmdnoeiaaGreatDoorRows
set_option maxRecDepth 100000
set_option linter.all false
namespace Go.Proofs.Eff
open Go.ChangeAt Go.ChangeShapes Go.Proofs.YtcimpmhmdnoeiaaGreatDoor Go.RowKit Go.WideShapes
theorem v7:Tryz.prog.underlying 26=some (.struct (Tryz.prog.fieldsOf 26)):=by kernel_rfl
theorem A3:(Tryz.prog.fieldsOf 26).toList.map (fun f=>(f.type,f.offset))=[(22,0),(9,1),(23,2),(23,3),(24,4),(3,5),(3,6)]:=by kernel_rfl
theorem vZ:Tryz.prog.underlying 28=some (.struct (Tryz.prog.fieldsOf 28)):=by kernel_rfl
theorem AZ:(Tryz.prog.fieldsOf 28).toList.map (fun f=>(f.type,f.offset))=[(23,0),(23,1)]:=by kernel_rfl
theorem um:Tryz.prog.cellsOf 26=7:=by kernel_rfl
theorem zK:Tryz.prog.cellsOf 28=2:=by kernel_rfl
theorem iI:∀t,t∈[22,9,23,24,3]->Tryz.prog.cellsOf t=1:=by
 intro t a;simp only[aS,aT,or_false] at a;rcases a with rfl|rfl|rfl|rfl|rfl<;>kernel_rfl
theorem pT {w:World}{a:Addr}{v:Value}(h:w.cell? (a.add 0)=some v):∃b c,a=⟨b,c,none⟩:=by
 obtain⟨b,c,d⟩:=a;cases d with
 |none=>exact⟨b,c,rfl⟩
 |some s=>
  exfalso;have e:(⟨b,c,some s⟩:Addr).add 0=⟨b,c,some s⟩:=by unfold Addr.add;simp
  rw[e] at h;unfold World.cell? at h
  split at h
  ·simp at h
  ·cases h
theorem kT (b a j:Nat):(⟨b,a,none⟩:Addr).add j=⟨b,a+j,none⟩:=by unfold Addr.add;split<;>simp_all
theorem lq {w:World}{a:Addr}{v:Value}(h:w.cell? a=some v):a.block<w.heap.size:=by
 unfold World.cell? at h
 split at h
 ·rename_i hh;exact(Array.getElem?_eq_some_iff.1 hh).1
 ·cases h
theorem ud {α:Type}{p:Nat->α->Prop}:∀(n:Nat),(∀i,i<n->∃x,p i x)->∃l:List α,l.length=n/\∀k a,l[k]?=some a->p k a:=by
 intro n
 induction n with
 |zero=>intro _;exact⟨[],rfl,fun k a h=>by simp at h⟩
 |succ n ih=>
  intro h;obtain⟨l,g,f⟩:=ih (fun i j=>h i (by omega));obtain⟨x,d⟩:=h n (by omega);refine⟨l++[x],by simp[g],fun k a b=>?_⟩;by_cases e:k<n
  ·rw[md (by omega)] at b;exact f k a b
  ·rw[j1 (by omega)] at b
   have c:k-l.length=0:=by
    rcases Nat.eq_zero_or_pos (k-l.length) with c|c
    ·exact c
    ·rw[Eq (by simp;omega)] at b;cases b
   rw[c] at b;obtain rfl:x=a:=by simpa using b
   have:k=n:=by omega
   subst this;exact d
section
variable {H:Type} {enc:TypeId×Value->H}
theorem kP (d:DataW H):1<=Rows.uptoBulk d:=by
 cases d with
 |lit l=>cases l<;>simp[Rows.uptoBulk]
 |_=>simp[Rows.uptoBulk]
theorem nM (ds:List (DataW H)):ds.length<=Rows.uptoBulkAll ds:=by
 induction ds with
 |nil=>simp[Rows.uptoBulkAll]
 |cons d r ih=>have:=kP d;simp only[Rows.uptoBulkAll,gi];omega
theorem pP {d:DataW H}{ds:List (DataW H)}(h:d∈ds):Rows.uptoBulk d<=Rows.uptoBulkAll ds:=by
 induction ds with
 |nil=>cases h
 |cons x r ih=>
  simp only[Rows.uptoBulkAll];rcases aS.1 h with rfl|h
  ·omega
  ·have:=ih h;omega
theorem qS {W:World}{fuel:Nat}{c:List Value}{x:DataW H×List MemPlace}{t:TypeId}{a:List (TypeId×Nat)}(u:Tryz.prog.underlying t=some (.struct (Tryz.prog.fieldsOf t)))(p:(Tryz.prog.fieldsOf t).toList.map (fun f=>(f.type,f.offset))=a)
 (h:DataW.trod enc Tryz.prog W 0 (fun _=>true) true fuel t c=some x) (w:Tryz.prog.cellsOf t=a.length):∃(n:Nat) (k:List (DataW H×List MemPlace)),c.length=a.length/\k.length=a.length/\Rows.uptoBulk x.1=Rows.uptoBulkAll (k.map (·.1))+1/\
   ∀(j:Nat) (T:TypeId),a[j]?=some (T,j)->Tryz.prog.cellsOf T=1->∃v y,c[j]?=some v/\k[j]?=some y/\DataW.trod enc Tryz.prog W 0 (fun _=>true) true n T [v]=some y:=by
 obtain⟨l,n,rfl,rfl,m,s,A⟩:=DataW.trod_struct u h;have B:(Tryz.prog.fieldsOf t).size=a.length:=by rw[←p];simp
 refine⟨n,l,by rw[m,w],by omega,by simp only[Rows.uptoBulk],fun j T q D=>?_⟩;have z:j<a.length:=(aC.1 q).1;have g:j<(Tryz.prog.fieldsOf t).size:=by omega
 have C:(Tryz.prog.fieldsOf t)[j]?=some (Tryz.prog.fieldsOf t)[j]:=by simp[g]
 have b:((Tryz.prog.fieldsOf t)[j].type,(Tryz.prog.fieldsOf t)[j].offset)=(T,j):=by
  have r:a[j]?=some ((Tryz.prog.fieldsOf t)[j].type,(Tryz.prog.fieldsOf t)[j].offset):=by rw[←p];simp[g]
  rw[q] at r;exact(ol r).symm
 simp only[A4] at b;have o:=A j _ C;rw[b.1,b.2,D] at o;have i:j<c.length:=by omega
 have e:(c.drop j).take 1=[c[j]]:=by rw[hI i];rfl
 rw[e] at o;have d:j<l.length:=by omega
 exact⟨c[j],l[j],by simp[i],by simp[d],by rw[o];simp[d]⟩
theorem jt {W:World}{fuel:Nat}{v:Value}{x:DataW H×List MemPlace}(h:DataW.trod enc Tryz.prog W 0 (fun _=>true) true fuel 23 [v]=some x)(F:Rows.uptoBulk x.1<=1048576):
 ∃a c l,v=.slice a l.length c/\bT W W.heap.size a c l/\l.length+1<=Rows.uptoBulk x.1:=by
 rcases Go.Deep.open_strs Tryz.underlying23 Tryz.underlying9 (iI 9 (by simp)) h with⟨o,rfl⟩|⟨a,len,I,m,g,o,_,D,C,n,rfl,w⟩
 ·simp at o
  exact⟨none,0,[],o,⟨by simp,fun _=>rfl,fun h=>absurd rfl h,by unfold maxLen;omega,by simp,by simp⟩,by simp[Rows.uptoBulk]⟩
 ·simp at o
  simp only[if_true] at n;subst n;simp only[Rows.uptoBulk] at F ⊢;have B:=nM ((List.range len).map fun i=>(.lit (.string (g i).data.toList):DataW H));simp only[se,List.length_range] at B;have f:((List.range len).map fun i=>bl (g i)).length=len:=by simp
  refine⟨some a,m,(List.range len).map fun i=>bl (g i),by rw[f];exact o,⟨by rw[f];exact D,fun e=>(by cases e),fun G=>?_,C,by rw[f];unfold ao;omega,fun y z=>?_⟩,by rw[f];omega⟩
  ·have t:0<len:=by
    rcases Nat.eq_zero_or_pos len with k|k
    ·subst k;exact absurd rfl G
    ·exact k
   have k:=(w 0 (by omega)).1;obtain⟨b,q,rfl⟩:=pT k;refine⟨b,q,rfl,?_,fun j u s=>?_⟩
   ·have:=lq k;rwa [kT] at this
   ·have r:j<len:=by have:=(aC.1 s).1;rwa [f] at this
    have A:u=bl (g j):=by simp[r] at s;exact s.symm
    have p:=(w j (by omega)).1;rw[kT] at p;rw[p,A,jw]
  ·obtain⟨i,E,rfl⟩:=BP.1 z
   have p:=pP (d:=(.lit (.string (g i).data.toList):DataW H)) (ds:=(List.range len).map fun i=>(.lit (.string (g i).data.toList):DataW H)) (BP.2 ⟨i,E,rfl⟩);simp only[Rows.uptoBulk] at p;show(g i).data.toList.length<=ao
   unfold ao;omega
theorem zU {w:World}{top g:Nat}:∀(l:List T) (a:Nat),(∀(k:Nat) (t:T),l[k]?=some t->∃b:List Value,b.length=7/\(∀i,i<7->w.cell? ⟨g,a+k*7+i,none⟩=b[i]?)/\TAt w top t b)->LAt w top g a l
 |[],_,_=>by rw[LAt];trivial
 |t::r,a,h=>by
  rw[LAt];refine⟨by simpa using h 0 t rfl,zU r (a+7) fun k c d=>?_⟩;obtain⟨b,m,j,f⟩:=h (k+1) c (by simpa using d);refine⟨b,m,fun i e=>?_,f⟩;rw[←j i e]
  congr 2
  omega
theorem wu:∀(l:List T) (ds:List (DataW H)),l.length=ds.length->(∀(k:Nat) (t:T) (d:DataW H),l[k]?=some t->ds[k]?=some d->T.nms t<=Rows.uptoBulk d)->T.nms.nmsL l<=Rows.uptoBulkAll ds
 |[],_,_,_=>by rw[T.nms.nmsL];omega
 |t::r,[],h,_=>by simp at h
 |t::r,d::ds,h,hk=>by
  have g:=hk 0 t d rfl rfl;have f:=wu r ds (by simpa using h) (fun k a e c b=>hk (k+1) a e (by simpa using c) (by simpa using b));rw[T.nms.nmsL];simp only[Rows.uptoBulkAll];omega
theorem mW {k:Int}(h:(Lit.int .i64 k).wf=true):I64 k:=by
 simp only[Lit.wf,gT,decide_eq_true_eq] at h;have b:IntKind.i64.min= -9223372036854775808:=rfl;have a:IntKind.i64.max=9223372036854775807:=rfl;rw[b,a] at h;unfold I64;omega
theorem xm {W:World}:∀(N fuel:Nat) (K:List Value) (x:DataW H×List MemPlace),Rows.uptoBulk x.1<=N->N<=1048576->DataW.trod enc Tryz.prog W 0 (fun _=>true) true fuel 26 K=some x->∃t:T,TAt W W.heap.size t K/\T.nms t<=Rows.uptoBulk x.1:=by
 intro N
 induction N with
 |zero=>intro fuel K x hb _ _;have:=kP x.1;omega
 |succ N ih=>
  intro fuel K x hb hN h;obtain⟨n,ys,F,z,v,r⟩:=qS v7 A3 h um;obtain⟨v0,y0,e0,s0,t0⟩:=r 0 22 rfl (iI 22 (by simp));obtain⟨v1,y1,e1,s1,t1⟩:=r 1 9 rfl (iI 9 (by simp));obtain⟨v2,y2,e2,s2,t2⟩:=r 2 23 rfl (iI 23 (by simp));obtain⟨v3,y3,e3,s3,t3⟩:=r 3 23 rfl (iI 23 (by simp));obtain⟨v4,y4,e4,s4,t4⟩:=r 4 24 rfl (iI 24 (by simp));obtain⟨v5,y5,e5,s5,t5⟩:=r 5 3 rfl (iI 3 (by simp));obtain⟨v6,y6,e6,s6,t6⟩:=r 6 3 rfl (iI 3 (by simp));simp only[gi,hG] at F z
  match K,F with
  |[c0,c1,c2,c3,c4,c5,c6],_=>
  match ys,z with
  |[z0,z1,z2,z3,z4,z5,z6],_=>
  simp at e0 e1 e2 e3 e4 e5 e6 s0 s1 s2 s3 s4 s5 s6;subst e0 e1 e2 e3 e4 e5 e6 s0 s1 s2 s3 s4 s5 s6;simp only[AC,FJ,Rows.uptoBulkAll] at v;have o0:=kP z0.1;have o1:=kP z1.1;have o5:=kP z5.1;have o6:=kP z6.1;obtain⟨k,hk,_,wk⟩:=DataW.trod_int Tryz.underlying22 t0;obtain⟨s,hs,Q,_⟩:=DataW.trod_string Tryz.underlying9 t1;obtain⟨p,B,_,wp⟩:=DataW.trod_int Tryz.underlying3 t5;obtain⟨q,hq,_,wq⟩:=DataW.trod_int Tryz.underlying3 t6;obtain⟨a1,k1,l1,rfl,I,ac⟩:=jt t2 (by omega);obtain⟨a2,k2,l2,rfl,G,ab⟩:=jt t3 (by omega);simp at hk hs B hq;subst hk hs B hq
  have A:(bl s).length<=ao:=by
   have h9:Rows.uptoBulk z1.1=(bl s).length+1:=by rw[Q];simp only[Rows.uptoBulk]
   unfold ao;omega
  rcases Go.Deep.open_slice Tryz.underlying24 t4 with⟨J,L⟩|⟨a,len,Z,m,n2,D,Pl,J,_,hl,hm,R,hx,hi⟩
  ·simp at J
   subst J;refine⟨.mk k (bl s) l1 l2 [] p q,?_,?_⟩
   ·rw[TAt]
    exact⟨a1,k1,a2,k2,none,0,by rw[jw];rfl,I,G,⟨by simp,fun _=>rfl,by unfold maxLen;omega,by simp⟩,fun h=>absurd rfl h,A,mW wk,mW wp,mW wq⟩
   ·rw[T.nms,T.nms.nmsL]
    omega
  ·simp at J
   subst J;simp only[if_true] at R;rw[hx] at v;rw[um] at hi;simp only[Rows.uptoBulk] at v;have C:=nM ((List.range len).map D);simp only[se,List.length_range] at C
   have g:∀i,i<len->∃t:T,(∃c,c.length=7/\(∀j,j<7->W.cell? (a.add (i*7+j))=c[j]?)/\TAt W W.heap.size t c)/\T.nms t<=Rows.uptoBulk (D i):=by
    intro i U;obtain⟨c,hc,ht⟩:=hi i (by omega);obtain⟨_,E,Y⟩:=World.cells?_some hc;have ad:=pP (d:=D i) (ds:=(List.range len).map D) (BP.2 ⟨i,List.mem_range.2 U,rfl⟩);obtain⟨t,P,O⟩:=ih n2 c (D i,Pl i) (by show Rows.uptoBulk (D i)<=N;omega) (by omega) ht;exact⟨t,⟨c,E,fun j hj=>by rw[←Go.Deep.add_add];exact Y j hj,P⟩,O⟩
   obtain⟨l,f,B⟩:=ud len g;refine⟨.mk k (bl s) l1 l2 l p q,?_,?_⟩
   ·rw[TAt]
    refine⟨a1,k1,a2,k2,some a,Z,by rw[jw,f],I,G,⟨by rw[f];exact hl,fun e=>(by cases e),hm,by rw[f];unfold ao;omega⟩,fun h0=>?_,A,mW wk,mW wp,mW wq⟩
    have S:0<len:=by
     rcases Nat.eq_zero_or_pos len with L|L
     ·rw[L] at f;exact absurd (ls f) h0
     ·exact L
    obtain⟨_,⟨ae,aa,X,_⟩,_⟩:=g 0 S;have u:=X 0 (by omega);rw[np,nl,iD (by omega)] at u;obtain⟨b,w,rfl⟩:=pT u;refine⟨b,w,rfl,by have:=lq u;rwa [kT] at this,zU l w fun y M o=>?_⟩;obtain⟨⟨c,g1,g2,g3⟩,_⟩:=B y M o;refine⟨c,g1,fun i V=>?_,g3⟩;have g4:=g2 i V;rw[kT] at g4;rw[←g4]
    congr 2
    omega
   ·have h9:=wu l ((List.range len).map D) (by simp[f]) (fun y M d' h3 h4=>by
     have o:y<len:=by have:=(aC.1 h3).1;omega
     have h5:d'=D y:=by simp[o] at h4;exact h4.symm
     rw[h5]
     exact(B y M h3).2)
    rw[T.nms];omega
end
end Go.Proofs.Eff
