import Derived.Test.YtcimpmhmdnoeiaaGreatDoorQ39
import Derived.Test.YtcimpmhmdnoeiaaGreatDoorQ44
set_option maxRecDepth 100000
set_option maxHeartbeats 8000000
set_option linter.all false
namespace Go.Proofs.Eff
open Go.RowKit
theorem C8 (l:List It):∀(k:Nat),(stp k l).Pairwise (· <·)/\∀i∈stp k l,k<=i:=by
 induction l with
 |nil=>intro k;simp[stp]
 |cons x r ih=>
  intro k;cases x with
  |lab g=>exact ih k
  |ins op a b z=>
   obtain⟨e,d⟩:=ih (k+1);simp only[stp,By,aS];exact⟨⟨fun i c=>by have:=d i c;omega,e⟩,fun i c=>by rcases c with rfl|c;exact gE _;have:=d i c;omega⟩
  |jmp op g=>
   obtain⟨e,d⟩:=ih (k+1);simp only[stp,By,aS];exact⟨⟨fun i c=>by have:=d i c;omega,e⟩,fun i c=>by rcases c with rfl|c;exact gE _;have:=d i c;omega⟩
  |blk a b body=>
   obtain⟨e,d⟩:=ih (k+1+bj body);simp only[stp,By,aS];exact⟨⟨fun i c=>by have:=d i c;omega,e⟩,fun i c=>by rcases c with rfl|c;exact gE _;have:=d i c;omega⟩
theorem wU (l:List It)(k:Nat):(stp k l).Nodup:=(C8 l k).1.imp (fun h=>Nat.ne_of_lt h)
theorem io.pos {c:List It->Int}{FL:List (Int×aL)}{s:VS}{j:Nat}{l:List It}{base:Int}{k:Nat}(h:io c FL s j l base k):0<(stp k l).length:=by
 obtain⟨i,_,_,b,_⟩:=h.last;cases hs:stp k l with
 |nil=>rw[hs] at b;cases b
 |cons a r=>simp
theorem jN.stb {a:Int->Prop}{d:Nat}{FU:List Lit3}{k:Nat}{s s':VS}{c:List (Int×aL)}(h:jN a d FU k s c s')(b:StB s k):StB s' (k+c.length):=by
 induction h with
 |nil k s=>simpa using b
 |@cons k s s1 s2 p x r hst _ ih=>
  have:=ih (hst.stb b);have e:k+1+r.length=k+((p,x)::r).length:=by simp only[gi];omega
  rw[e] at this;exact this
def DX (FL:List (Int×aL))(s:VS):Prop:=∀j,1<=j->j<s.sk.length->∃(i:Nat) (p:Int) (x:aL),s.bd[i]?=some (j:Int)/\FL[i]?=some (p,x)/\x.op=24/\x.c<=127
theorem jN.blocks {A:Int->Prop}{C:Nat}{FU:List Lit3}{FL:List (Int×aL)}{k:Nat}{s s':VS}{v:List (Int×aL)}(h:jN A C FU k s v s')(d:pV s k)(B:∀i,i<v.length->v[i]?=FL[k+i]?)(m:DX FL s):DX FL s':=by
 induction h with
 |nil k s=>exact m
 |@cons k s s1 s2 p x r hst _ ih=>
  have D:FL[k]?=some (p,x):=by
   have:=B 0 (by simp);simpa using this.symm
  refine ih (hst.lens d) (fun i E=>?_) ?_
  ·have:=B (i+1) (by simpa using E)
   rw[og] at this;rw[this]
   congr 1;omega
  ·obtain⟨q,n,g,l,c,_,_,_,_,_,_,F⟩:=hst.ex
   rcases F with⟨_,rfl⟩|⟨o,_,_,_,_,_,f,_,_,_,_,G,rfl⟩
   ·intro j u t
    obtain⟨i,b,a,z,y,w⟩:=m j u t;exact⟨i,b,a,bH z _,y,w⟩
   ·intro j u t
    by_cases hj:j<s.sk.length
    ·obtain⟨i,b,a,z,y,w⟩:=m j u hj
     exact⟨i,b,a,bH z _,y,w⟩
    ·have e:j=s.sk.length:=by simp at t;omega
     refine⟨k,p,x,?_,D,o,f⟩;show(s.bd++[(s.sk.length:Int)])[k]?=_
     rw[j1 (by rw[d.bd];exact gE _),d.bd,Fs,e];rfl
theorem xK {op a b z:Int}(h:cE op a b z):cH op=true/\0<=a/\a<=255/\0<=b/\b<=255:=by
 obtain⟨e,d,_,_,_,_,c⟩:=h;refine⟨by simp[cH,e,d],?_⟩
 split at c
 ·omega
 ·split at c
  ·omega
  ·split at c<;>omega
def okY (x:aL):Prop:=cH x.op=true/\0<=x.a/\x.a<=255/\0<=x.b/\x.b<=255
mutual
theorem xJ (d:List It->Int)(pos:Nat->Int)(base p:Int):(i:It)->lJ i->∀y∈bB d pos base p i,okY y.2
 |.lab _,_=>by simp[bB]
 |.ins op a b z,h=>by
  intro y c;simp only[bB,aS,aT,or_false] at c;subst c;exact xK h
 |.jmp op g,h=>by
  intro y c;simp only[bB,aS,aT,or_false] at c;subst c;have f:op=18\/op=19\/op=20:=h;rcases f with rfl|rfl|rfl<;>exact⟨rfl,by simp⟩
 |.blk a b body,h=>by
  intro y c;obtain⟨k,j,e⟩:a<=15/\b<=63/\dg body:=h;simp only[bB,aS] at c;rcases c with rfl|c
  ·exact⟨rfl,by simp,by simp;omega,by simp,by simp;omega⟩
  ·exact mZ d (aj body) (base+p+6) 0 body e y c
theorem mZ (b:List It->Int)(pos:Nat->Int)(base p:Int):(l:List It)->dg l->∀y∈aE b pos base p l,okY y.2
 |[],_=>by simp[aE]
 |i::r,h=>by
  intro y a;simp only[aE,iF] at a;rcases a with a|a
  ·exact xJ b pos base p i h.1 y a
  ·exact mZ b pos base (p+szI i) r h.2 y a
end
structure Ey (its:List It)(FL:List (Int×aL))(nf:Nat)(FU:List Lit3)(t:Int)(s:VS):Prop where
 run:jN (atL FL (szL its:Int)) nf FU 0 ⟨[⟨-1,0,t,(szL its:Int)⟩],[[]],[(its,0,0)],0,[],[]⟩ FL s
 lens:pV s FL.length
 stb:StB s FL.length
 reg:∀(j:Nat),j<s.sk.length->∃l base' k0,io ai FL s j l base' k0/\ai l<=127/\0<(stp k0 l).length/\(stp k0 l).Nodup/\(stp k0 l).length<=FL.length
 blk:∀(i:Nat) (p:Int) (x:aL),FL[i]?=some (p,x)->x.op=24->∃(j:Nat) (l:List It) (base':Int) (k:Nat),s.bd[i]?=some (j:Int)/\s.gh[j]?=some (l,base',k)/\x.c=ai l
 gh0:∃b' k',s.gh[0]?=some (its,b',k')
 jmp:∀(i:Nat) (p:Int) (x:aL),FL[i]?=some (p,x)->18<=x.op->x.op<=20->∃(i':Nat) (x':aL) (j:Nat),FL[i']?=some (p+3+x.to,x')/\s.of[i']?=some j/\s.of[i]?=some j
 fin:∀(j:Nat),j<s.sk.length->∃(l:List Nat) (i:Nat) (p:Int) (x:aL),s.st[j]?=some l/\l.getLast?=some i/\FL[i]?=some (p,x)/\cG x.op=true
 ne:FL≠[]
theorem EO {B:Nat}{FU:List Lit3}{FQ:Nat}{l:List It}(C:cB l)(E:cM l)(F:dg l)(O:df B FU [FQ] l)(t:okL (aj l) 0 l)(P:ai l<=127):∃s,Ey l (aE ai (aj l) 0 0 l) B FU (FQ:Int) s:=by
 obtain⟨s,h⟩:=uI C E F O t;obtain⟨H,w,U⟩:=uJ C E F h;have n:(aE ai (aj l) 0 0 l).length=bj l:=gC ai (aj l) 0 0 l
 have R:pV s (aE ai (aj l) 0 0 l).length:=by
  have:=h.lens;rw[nl] at this;rw[n];exact this
 have G:StB s (aE ai (aj l) 0 0 l).length:=by
  have:=h.run.stb (k:=0) ⟨by simp[vs0],by simp[vs0],by simp[vs0]⟩
  rwa [nl] at this
 have S:DX (aE ai (aj l) 0 0 l) s:=h.run.blocks (FL:=aE ai (aj l) 0 0 l) ⟨rfl,rfl,rfl,rfl⟩ (fun i _=>by rw[nl]) (fun j K A=>by simp[vs0] at A;omega)
 have d:∀(i:Nat) (p:Int) (x:aL),(aE ai (aj l) 0 0 l)[i]?=some (p,x)->x.op=24->∃(j:Nat) (e:List It) (g:Int) (k:Nat),s.bd[i]?=some (j:Int)/\s.gh[j]?=some (e,g,k)/\x.c=ai e:=fun i p x m v=>
  h.came.blk i p x (oS _) (by have:=(aC.1 m).1;omega) m v
 refine⟨s,h.run,R,G,fun j r=>?_,d,⟨0,0,w.gh⟩,fun i p x m K A=>?_,fun j r=>?_,?_⟩
 ·obtain⟨e,z,q,a⟩:=H j r
  refine⟨e,z,q,a,?_,a.pos,wU e q,G.2.1 _ (eQ a.st)⟩;by_cases h0:j=0
  ·subst h0
   have f:=a.gh;rw[w.gh] at f;have b:=congrArg (fun o=>o.map (·.1)) f;simp at b;rw[←b];exact P
  ·obtain⟨i,p,x,Z,Y,X,W⟩:=S j (by omega) r
   obtain⟨M,l2,b5,k2,J,I,V⟩:=d i p x Y X;rw[Z] at J;have u:j=M:=by have:=ol J;omega
   subst u;rw[a.gh] at I;have b:=congrArg (fun o=>o.map (·.1)) I;simp at b;rw[b,←V];exact W
 ·obtain⟨j,e,z,q,a,D⟩:=U i (by have:=(aC.1 m).1;omega)
  obtain⟨N,L,f,b,y⟩:=a.jump D m K A;exact⟨N,L,j,f,b,a.of i D⟩
 ·obtain⟨e,z,q,a⟩:=H j r
  obtain⟨i,p,x,f,b,y⟩:=a.last;exact⟨_,i,p,x,a.st,f,b,y⟩
 ·intro Q
  obtain⟨i,p,x,f,b,y⟩:=w.last;rw[Q] at b;simp at b
theorem vq (w:World)(p:Value):(Instr.index 132 (.agg #[.func (.func 51) #[p] #[],.func (.func 52) #[p] #[],.func (.func 53) #[p] #[]]) (.i 0)).run Tryz.prog w=.ok (.func (.func 51) #[p] #[]) w:=by kernel_rfl
theorem vp (w:World)(p:Value):(Instr.index 132 (.agg #[.func (.func 51) #[p] #[],.func (.func 52) #[p] #[],.func (.func 53) #[p] #[]]) (.i 1)).run Tryz.prog w=.ok (.func (.func 52) #[p] #[]) w:=by kernel_rfl
theorem vo (w:World)(p:Value):(Instr.index 132 (.agg #[.func (.func 51) #[p] #[],.func (.func 52) #[p] #[],.func (.func 53) #[p] #[]]) (.i 2)).run Tryz.prog w=.ok (.func (.func 53) #[p] #[]) w:=by kernel_rfl
theorem rs (Z bd c z O:Nat)(w W:World)(a t e:Int)(q:Nat)(FU:List Lit3)(A:Option Addr)(E C cl B I D:Nat)(FL:List (Int×aL))(U:aZ)(s:VS)(its:List It)(p3:Value)
 (hE:Ext w W) (hv:W.heap[c]?=some (.cells (cT a t (q:Int) (.slice A FU.length E) (.slice (some ⟨C,0,none⟩) FL.length cl) (.slice (some ⟨B,0,none⟩) FL.length I) e (.map (some D)) (.slice none 0 0) (.slice none 0 0) (.slice none 0 0) (.slice (some ⟨z,0,none⟩) FL.length O) (-1)) 130))
 (hC:VC Z c W ⟨a,t,(q:Int),e,-1,.slice A FU.length E,.slice (some ⟨C,0,none⟩) FL.length cl,.slice (some ⟨B,0,none⟩) FL.length I,.map (some D),.slice (some ⟨z,0,none⟩) FL.length O⟩ FL q FU C cl B I D U A E)
 (L:kE (FL.map (·.1)) e FL.length FL.length U) (K:W.ownsRow bd 3 1 (.slice (some ⟨z,0,none⟩) FL.length O) FL.length ((List.replicate FL.length (-1:Int)).map bz)) (j:B≠z/\w.heap.size<=z/\w.heap.size<=c/\∀ad,A=some ad->ad.block<w.heap.size)
 (G:FL.length<=32767) (he:e=(szL its:Int)) (Y:e<=32767) (r:Ey its FL q FU t s) (F:∀y∈FL,cH y.2.op=true/\0<=y.1/\y.1<=32767/\0<=y.2.a/\y.2.a<=255/\0<=y.2.b/\y.2.b<=255)
 (S:Act) (x:zX p3 (.slice (some ⟨C,0,none⟩) FL.length cl) (.pointer (some ⟨c,0,none⟩)) S):
 Code.wp Tryz.prog (gx 6 (Tryz.f16.body.getD .skip)) (bodyPost Tryz.prog Tryz.f16 (fun en w'=>en=.returned (.tuple #[.i (ai its),.i 0,.i 0])/\Ext w w')) S W:=by
 obtain⟨u,rfl⟩:=x.open;simp only[frL,gK,Nat.reduceAdd]
 conv=>arg 2;whnf
 have p:∀y∈FL,cH y.2.op=true/\0<=y.1/\y.1<=32767:=fun y hy=>⟨(F y hy).1,(F y hy).2.1,(F y hy).2.2.1⟩;have P:=hY (Ar Z c W a t (q:Int) e (-1) _ _ _ _ _ FL q FU C cl B I D U A E (its,0,0) s hv hC L (by rw[he];exact r.run) p G Y);have KC:=hY (fun(V:World) (hm:Mod [c] W V) (hp:∃cs,V.heap[c]?=some (.cells cs 130))=>hC.keep hm hp);have aa:=hY (fun(V:World) m n k R f d=>Bk Z W.heap.size c V a t (q:Int) e (-1) (.slice A FU.length E) (.slice (some ⟨C,0,none⟩) FL.length cl) (.slice (some ⟨B,0,none⟩) FL.length I) (.map (some D)) (.slice (some ⟨z,0,none⟩) FL.length O) m n k R FL q FU C cl B I D U A E s f d L r.lens.of p G r.jmp);have ae:=hY (fun(V:World) m n k R f d=>Dz Z W.heap.size c V a t (q:Int) e (-1) (.slice A FU.length E) (.slice (some ⟨C,0,none⟩) FL.length cl) (.slice (some ⟨B,0,none⟩) FL.length I) (.map (some D)) (.slice (some ⟨z,0,none⟩) FL.length O) m n k R FL q FU C cl B I D U A E s f d p G (by have:=r.stb.1;omega) (fun l hl=>by have:=r.stb.2.1 l hl;omega) r.ne r.fin);have N:z<W.heap.size:=(aw K).2.1
 have M:z≠c:=fun e2=>by
  obtain⟨_,_,cs,h⟩:=aw K;rw[show(⟨z,0,none⟩:Addr).block=c from e2,hv] at h;cases h
 have X:c<W.heap.size:=ab hv
 have T7:=hY (fun(V:World) m n k R (v:dP W.heap.size c W V) (f:VM W.heap.size c ⟨a,t,(q:Int),e,-1,.slice A FU.length E,.slice (some ⟨C,0,none⟩) FL.length cl,.slice (some ⟨B,0,none⟩) FL.length I,.map (some D),.slice (some ⟨z,0,none⟩) FL.length O⟩ V s m n k R) S x=>
  rq Z bd W.heap.size c z O w V a t e q FU A E C cl B I D m n k R FL U s FL.length its p3 (gQ hE v.mod (by simpa using j.2.2.1)) f (hC.keep v.mod ⟨_,f.blk⟩) L (v.mod.row K (fun g hg hx=>by
   simp only[Value.ownBlock,dO] at hg;simp only[aS,aT,or_false] at hx
   exact M (hg.trans hx))) ⟨j.1,N,j.2.1,hE.size,j.2.2.2⟩ rfl G r.lens (by have:=r.stb.1;omega) r.reg r.blk r.gh0 F S x)
 clear hv hC L K j G he Y r F p N M X x hE;refine wp_seq ?_;go_hide hQ;go_upto_region 14 with fail;have ah:=fun W=>vq W (.pointer (some ⟨c,0,none⟩));have ag:=fun W=>vp W (.pointer (some ⟨c,0,none⟩));have af:=fun W=>vo W (.pointer (some ⟨c,0,none⟩))
 go_loopw [78] (fun i V=>(i=.i 0/\V=W)\/((i=.i 1\/i=.i 2\/i=.i 3)/\dP W.heap.size c W V/\∃m n k R,VM W.heap.size c ⟨a,t,(q:Int),e,-1,.slice A FU.length E,.slice (some ⟨C,0,none⟩) FL.length cl,.slice (some ⟨B,0,none⟩) FL.length I,.map (some D),.slice (some ⟨z,0,none⟩) FL.length O⟩ V s m n k R)) (fun i _=>3-(intOf i).toNat)
 case atStart=>exact .inl ⟨rfl,rfl⟩
 case round=>
  rcases hrel with⟨rfl,rfl⟩|⟨hi,v,m,n,k,R,f⟩
  ·go_wp2_with (go_at_call 51;refine P.o.mono ?_;rintro en w4 ⟨rfl,v,m,n,k,R,f⟩;have Q:=hY (And.intro v f);clear v f)
   go_roundw
   case rel=>exact .inr ⟨.inl rfl,Q.o.1,m,n,k,R,Q.o.2⟩
   case measure=>decide
  ·have Q:=hY (And.intro v f)
   have d:=KC.o wr v.mod ⟨_,f.blk⟩;rcases hi with rfl|rfl|rfl
   ·have J:=hY (aa.o wr m n k R f d)
    clear v f d;go_wp2_with (go_at_call 52;refine J.o.mono ?_;rintro en w4 ⟨rfl,H⟩;have E4:=hY H;clear H);go_roundw
    case rel=>exact .inr ⟨.inr (.inl rfl),Q.o.1.ext E4.o,m,n,k,R,Q.o.2.ext E4.o⟩
    case measure=>decide
   ·have J:=hY (ae.o wr m n k R f d)
    clear v f d;go_wp2_with (go_at_call 53;refine J.o.mono ?_;rintro en w4 ⟨rfl,H⟩;have E4:=hY H;clear H);go_roundw
    case rel=>exact .inr ⟨.inr (.inr rfl),Q.o.1.ext E4.o,m,n,k,R,Q.o.2.ext E4.o⟩
    case measure=>decide
   ·have T:=hY (fun S x=>T7.o wr m n k R v f S x)
    clear v f d;go_wp2_with fail;subst hQ;exact T.o _ ⟨rfl,rfl,rfl,rfl,rfl⟩
end Go.Proofs.Eff
