import Derived.Test.YtcimpmhmdnoeiaaGreatDoorQ21
import Derived.Test.YtcimpmhmdnoeiaaGreatDoorQ31
set_option maxRecDepth 100000
set_option maxHeartbeats 8000000
set_option linter.all false
namespace Go.Proofs.Eff
open Go.RowKit
section
variable {base bd b8 c:Nat} {w:World} {F:List Nat}
def zW (g f e d c b:Value)(a:Act):Prop:=a.defers=[]/\a.tmps.size=129/\a.tmps[1]?=some g/\a.tmps[3]?=some f/\a.tmps[6]?=some e/\a.tmps[8]?=some d/\a.tmps[9]?=some c/\a.tmps[10]?=some b
theorem zW.open {i g f e d b:Value}{a:Act}(h:zW i g f e d b a):∃u:Nat->Value,a={tmps:=(frL u [(1,i),(3,g),(6,f),(8,e),(9,d),(10,b)] 0 129).toArray,defers:=[]}:=by
 obtain⟨k,j,p,o,n,m,l,c⟩:=h;exact jE k j (by simp[p,o,n,m,l,c])
structure KL (base bd:Nat)(W w:World):Prop where
 os:w.os=W.os
 tape:w.tape=W.tape
 output:w.output=W.output
 size:W.heap.size<=w.heap.size
 blk:∀k,k<base->k≠bd->w.heap[k]?=W.heap[k]?
theorem KL.refl (base bd:Nat)(W:World):KL base bd W W:=⟨rfl,rfl,rfl,gE _,fun _ _ _=>rfl⟩
theorem KL.ext {W w':World}(h:KL base bd W w)(d:base<=W.heap.size)(a:Ext w w'):KL base bd W w':=
 ⟨a.os.trans h.os,a.tape.trans h.tape,a.output.trans h.output,aN h.size a.size,fun k c b=>by rw[a.block (by have:=h.size;omega)];exact h.blk k c b⟩
theorem KL.cm {W w':World}{f:List Nat}(h:KL base bd W w)(g:base<=W.heap.size)(i:base<=b8)(e:∀x∈F,x=bd\/base<=x)(a:CM b8 F f w w'):KL base bd W w':=
 ⟨a.mod.os.trans h.os,a.mod.tape.trans h.tape,a.mod.output.trans h.output,aN h.size a.mod.size,fun k d b=>by
  rw[a.mod.block k (by have:=h.size;omega) (by
   simp only[aS,not_or]
   exact⟨by omega,fun c=>(e k c).elim b (by omega)⟩)]
  exact h.blk k d b⟩
theorem HM.high {s:List Int×List Nat}(h:HM base c b8 bd w s F):∀x∈F,x=bd\/base<=x:=by
 obtain⟨d,rfl,e,b⟩:=h.ws;intro x a;rcases aS.1 a with rfl|a
 ·exact .inl rfl
 ·exact .inr (au b a).1
def Dq:Value->Int
 |.int _ k=>k
 |_=>0
def Fd:Value->Nat
 |.slice _ n _=>n
 |_=>0
def Dk (b8 bd:Nat)(w:World):Nat:=
 2*eC (match w.heap[bd]? with|some (.cells cs _ _)=>cs.toList.map Dq|_=>[])+(match w.heap[b8]? with|some (.cells cs _ _)=>(cs.toList.map Fd).headD 0|_=>0)
theorem HM.mu {s:List Int×List Nat}(h:HM base c b8 bd w s F):Dk b8 bd w=2*eC s.1+s.2.length:=by
 obtain⟨d,rfl,b,a⟩:=h.ws;obtain⟨g,f,rfl,-⟩:=aJ a;unfold Dk;rw[h.dd,b]
 have e:s.1.map (Dq ∘ bz)=s.1:=by
  have:Dq ∘ bz=id:=funext fun x=>rfl;rw[this,List.map_id]
 simp only[List.map_map,e];rfl
theorem yL {e n g:Nat}{xs:List Value}{x:Value}(h:w.ownsRow base e 1 (.slice (some ⟨g,0,none⟩) (n+1) c) (n+1) (xs++[x])):w.ownsRow base e 1 (.slice (some ⟨g,0,none⟩) n c) n xs:=by
 obtain⟨o,b⟩:=h;rcases b with⟨b,_⟩|⟨p,d,a,b,m,l,r,k,j,i⟩
 ·cases b
 ·obtain⟨rfl,rfl⟩:g=p/\c=d:=by simpa using b
  have f:xs.length=n*1:=by simp at o;omega
  refine⟨f,.inr ⟨g,c,a,rfl,m,l,by omega,k,j,?_⟩⟩;have q:(a.toList.take ((n+1)*1)).take (n*1)=a.toList.take (n*1):=by rw[List.take_take];congr 1;omega
  rw[←q,i,List.take_append_of_le_length (by omega),Fu (by omega)]
theorem HM.pop {f g:Nat}{D:List Int}{a:List Nat}{i:Nat}(h:HM base f b8 bd w (D,a++[i]) F)(e:F=[bd,g])(n:w.heap[b8]?=some (.cells #[.slice (some ⟨g,0,none⟩) (a.length+1) c] 83))(j:w.ownsRow base 3 1 (.slice (some ⟨g,0,none⟩) (a.length+1) c) (a.length+1) (a.map kU++[kU i])):
 HM base f b8 bd (w.setCell ⟨b8,0,none⟩ (.slice (some ⟨g,0,none⟩) a.length c)) (D,a) F/\CM b8 F F w (w.setCell ⟨b8,0,none⟩ (.slice (some ⟨g,0,none⟩) a.length c)):=by
 obtain⟨q,p,o⟩:=h.low;have d:=ae w ⟨b8,0,none⟩ (.slice (some ⟨g,0,none⟩) a.length c);have m:=h.b8F;refine⟨⟨h.low,d.keep h.d6 (by simp;omega),d.keep h.dd (by simp;omega),.slice (some ⟨g,0,none⟩) a.length c,e,by rw[be n];rfl,?_⟩,d.mono (by simp),fun k l=>.inl l⟩;refine d.row (yL j) (fun r b=>?_);simp only[Value.ownBlock,dO] at b;subst b;have:=(m g (by rw[e];simp)).1;simpa using this
def J21 (W:World)(its:List It)(base c b8 bd:Nat)(e d b:Value)(l:Nat)(a:Act)(wr:World):Prop:=l=0/\∃s M F,kX its s M/\2*eC s.1+s.2.length<=2*(its.length+1)+1/\HM base c b8 bd wr s F/\KL base bd W wr/\zW e d (.pointer (some ⟨c,0,none⟩)) (.pointer (some ⟨b8,0,none⟩)) (.i M) b a
end
section
variable {W w:World} {its:List It} {r base b8 bd:Nat}
structure sw (w0 W:World)(its:List It)(r base b6 b8 bd b1 mb:Nat)(lm:aZ):Prop where
 ext:Ext w0 W
 hb:base<=W.heap.size
 lo:w0.heap.size<=bd/\w0.heap.size<=base
 n1:b1<base/\b1≠bd
 nm:mb<base/\mb≠bd
 c1:W.heap[b1]?=some (.cells #[.pointer (some ⟨r,0,none⟩)] 61)
 m:cQ W mb .i64 lm
 labs:fK its its.length (fun j=>(j:Int)) lm
theorem sw.ext0 {a:World}{e f b:Nat}{c:aZ}(h:sw a W its r base e b8 bd f b c)(k:KL base bd W w):Ext a w:=
 ⟨k.os.trans h.ext.os,k.tape.trans h.ext.tape,k.output.trans h.ext.output,aN h.ext.size k.size,fun i d=>by
  rw[k.blk i (by have:=h.lo;omega) (by have:=h.lo;omega)];exact h.ext.block d⟩
theorem sw.c1' {b:World}{e a c:Nat}{d:aZ}(h:sw b W its r base e b8 bd a c d)(k:KL base bd W w):w.heap[a]?=some (.cells #[.pointer (some ⟨r,0,none⟩)] 61):=by
 rw[k.blk a h.n1.1 h.n1.2];exact h.c1
theorem sw.m' {d:World}{g i a:Nat}{b:aZ}(h:sw d W its r base g b8 bd i a b)(k:KL base bd W w):cQ w a .i64 b:=by
 obtain⟨f,c,e,rest⟩:=h.m;exact⟨f,c,by rw[k.blk a h.nm.1 h.nm.2];exact e,rest⟩
def EH (e:World)(its:List It)(r l:Nat)(a:Act)(wr:World):Prop:=∃W base b b8 bd c d f,sw e W its r base b b8 bd c d f/\J21 W its base b b8 bd (.pointer (some ⟨c,0,none⟩)) (.map (some d)) (.func (.func 63) #[] #[.pointer (some ⟨c,0,none⟩),.pointer (some ⟨b,0,none⟩),.pointer (some ⟨b8,0,none⟩)]) l a wr
def AF:Value->Nat
 |.pointer (some ad)=>ad.block
 |.slice (some ad) _ _=>ad.block
 |_=>0
def muA (a:Act)(w:World):Nat:=Dk (AF ((a.tmps[8]?).getD undef)) (match w.heap[AF ((a.tmps[6]?).getD undef)]? with|some (.cells cs _ _)=>(cs.toList.map AF).headD 0|_=>0) w
theorem fq.ptr {ok:Nat->Prop}{x:It}{c:Value}(h:fq w ok x c):∃pp,c=.pointer pp:=by
 cases x with
 |blk a b body=>obtain⟨r,h,_⟩:=h;exact⟨_,h⟩
 |lab l=>exact⟨_,h⟩
 |ins op a b z=>exact⟨_,h⟩
 |jmp op g=>exact⟨_,h⟩
theorem qN {x:It}(h:lJ x)(d:ay x=false):1<=opI x/\opI x<=25/\(0<=itA x/\itA x<=2000000)/\(0<=itB x/\itB x<=2000000):=by
 cases x with
 |lab l=>simp[ay] at d
 |ins op a b z=>
  obtain⟨f,e,n,m,k,j,c⟩:cE op a b z:=h;refine⟨f,e,?_⟩;show(0<=a/\a<=2000000)/\(0<=b/\b<=2000000)
  split at c
  ·omega
  ·split at c
   ·omega
   ·split at c<;>omega
 |jmp op g=>
  have i:op=18\/op=19\/op=20:=h;simp only[opI,itA,itB];omega
 |blk a b body=>
  have i:a<=15/\b<=63/\dg body:=h;simp only[opI,itA,itB];omega
theorem mo {j:World}{f q w:Nat}{x:aZ}(h:sw j W its r base f b8 bd q w x)(s:∀W,Ext j W->iB W (fun k=>k<j.heap.size) r its)(a:World)(b:List Int×List Nat)(t:List Nat)(d:Nat)(p v:Int)(n:HM base f b8 bd a b t)(m:KL base bd W a)(C:d<its.length)(D:b.1[d]?=some v)(z:b.2.length<=10000000000):
 Calls Tryz.prog 63 #[.i (d:Int),.i p,.pointer (some ⟨q,0,none⟩),.pointer (some ⟨f,0,none⟩),.pointer (some ⟨b8,0,none⟩)] a fun H w'=>H=.returned (.tuple #[])/\∃g,HM base f b8 bd w' (hnd b d p) g/\CM b8 t g a w'/\KL base bd W w':=by
 obtain⟨o,I,nv,J,y,c,l,-,B,A,E⟩:=(s a (h.ext0 m)).at;refine(Du base q f b8 bd r d its.length c p v o I nv J y a b t n (h.c1' m) l C D z (by omega)).mono ?_;rintro e w' ⟨G,g,F,u⟩;exact⟨G,g,F,u,m.cm h.hb n.low.2.2 n.high u⟩
theorem uT {c:Nat}{s:List Int×List Nat}{F:List Nat}{f e d b:Value}{a:Act}(h:HM base c b8 bd w s F)(g:zW f e (.pointer (some ⟨c,0,none⟩)) (.pointer (some ⟨b8,0,none⟩)) d b a):muA a w=2*eC s.1+s.2.length:=by
 obtain⟨_,_,_,_,j,i,_⟩:=g;unfold muA;rw[show(a.tmps[6]?:Option Value)=_ from j,show(a.tmps[8]?:Option Value)=_ from i];simp only[At,AF,h.d6];exact h.mu
theorem uX (its:List It)(hl:cB its)(hf:dg its)(w:World)(r:Nat)(hR:iB w (fun k=>k<w.heap.size) r its):Calls Tryz.prog 21 #[.pointer (some ⟨r,0,none⟩)] w fun e w'=>e=.returned (.i (ai its))/\Ext w w':=by
 have G:Hid (∀W,Ext w W->iB W (fun k=>k<w.heap.size) r its):=hY (fun W hE=>hR.keep (fun k E=>hE.block E) (fun k E=>E));have RL:=hY hl;have FT:=hY hf;have RS:Hid (r<w.heap.size):=hY (by obtain⟨_,_,_,_,_,_,h,_⟩:=hR.at;exact ab h);clear hl hf hR;go_enter Tryz.func21,Tryz.ntmps21;go_wp2_with fail;refine gG (EH w its r) (fun _ a' w'=>muA a' w') ?_ ?_ ?_
 ·rintro l a' w' ⟨_,_,_,_,_,_,_,_,_,rfl,_⟩
  rfl
 ·rintro l a' w' ⟨W,base,b6,b8,bd,b1,mb,lm,hS,rfl,s,M,F,hs,al,C,N,a3⟩ LK
  clear LK;have MU:=uT C a3;rw[MU];obtain⟨u,rfl⟩:=a3.open;simp only[frL,gK,Nat.reduceAdd]
  conv=>arg 2;whnf
  obtain⟨D,ws⟩:=s;dsimp only at al;rcases List.eq_nil_or_concat ws with rfl|⟨ws,i,rfl⟩
  ·obtain⟨wv,a4,h8,p⟩:=C.ws
   obtain⟨ad,cc,rfl,-⟩:=aJ p;have c9:Hid (ai its=M):=hY (hs.end RL.o);have E0:=hY (hS.ext0 N);obtain⟨q,B⟩:=blk h8;clear p a4 h8 hs al C N hS a3 MU;go_wp2_with fail;rw[rn];go_ret;exact⟨by rw[c9.o];rfl,E0.o⟩
  ·rw[List.concat_eq_append] at*
   obtain⟨wv,a4,h8,p⟩:=C.ws;dsimp only at p;rw[bY,ta,An,List.map_singleton] at p;obtain⟨ad,cc,rfl,hg⟩:=aJ p;obtain⟨g,rfl,-⟩:=hg (by omega);clear hg;obtain⟨d,x,Y,hd,br,dq,hr,bn,ht,ak,av⟩:=hs.top RL.o;obtain⟨bw,bv⟩:=C.pop a4 h8 p;have K2:=hY (N.cm hS.hb C.low.2.2 C.high bv);have HP:=hY bw;have S:=hY hS;have SR:=hY hs;have XI:=hY Y;have DI:=hY hd;have RI:=hY hr;have TI:=hY (And.intro bn ht);have NX:=hY ak;have GO:=hY av;have ML:=hY al;have af:w'.cell? ⟨g,ws.length,none⟩=some (.i (i:Int)):=by rw[aX p _ (by omega)];simp[kU]
   have cu:=dj p ws.length
   have cq:its.length<=2000000000:=by
    obtain⟨_,_,_,_,_,_,_,_,_,h,_⟩:=(G.o w' (S.o.ext0 N)).at;exact h
   have dn:ws.length<=4000000010:=by
    rw[bY] at al;omega
   have dm:wrap64 (ws.length:Int)=(ws.length:Int):=IntWalk.wrap64_in _ (by omega);obtain⟨q,B⟩:=blk h8;have bt:=(Ax p).1;clear a4 h8 p hs al C N hS a3 MU Y hd hr bn ht ak av bw bv;go_upto_region 21 with fail;generalize cy:w'.setCell _ _=W2 at*;clear cy q B af cu bt;have E2:=hY (S.o.ext0 K2.o);obtain⟨o,dd,nv,ar,it,c,aj,-,cp,a9,aw⟩:=(G.o W2 E2.o).at;obtain⟨g2,cl,pv,rfl,-,⟨e0,e1,e2,e3,e4,e5,e6,e7⟩,v⟩:=aw i x XI.o;obtain⟨pp,rfl⟩:=v.ptr;clear v;have dp:i<its.length:=(aC.1 XI.o).1;clear aw;obtain⟨q,B⟩:=blk (S.o.c1' K2.o);obtain⟨I,X⟩:=blk aj;go_upto_region 22 with fail;have E3:Hid (Ext W2 (W2.alloc (.cells (mh (opI x) (itA x) (itB x) (itZ x) (itG x) (itL x) (.pointer pp)).toArray 144))):=hY ((Ext.refl W2).alloc _);have B3:=hY (aq W2 (.cells (mh (opI x) (itA x) (itB x) (itZ x) (itG x) (itL x) (.pointer pp)).toArray 144) _ rfl)
   have BB:Hid (W2.heap.size≠b8/\¬W2.heap.size∈F):=hY ⟨fun e=>by
    obtain⟨_,_,h8,_⟩:=HP.o.ws;have:=ab h8
    omega,fun hm=>by have:=(HP.o.b8F _ hm).2.2;omega⟩
   generalize W2.heap.size=bx at*;generalize bf:W2.alloc _=W3 at*;clear bf e0 e1 e2 e3 e4 e5 e6 e7 q B I X;have H3:=hY (HP.o.ext E3.o);have K3:=hY (K2.o.ext S.o.hb E3.o);have az:D.length=its.length+1:=SR.o.dfs.len;obtain⟨q,B⟩:=blk B3.o;obtain⟨I,X⟩:=blk H3.o.d6;obtain⟨q5,q6⟩:=blk H3.o.dd
   have af:W3.cell? ⟨bd,i,none⟩=some (.i d):=by
    rw[q5];simp[bz,DI.o]
   clear q5;dsimp only at I;rw[az] at I;cases hlab:ay x with
   |true=>
    obtain⟨l,rfl⟩:∃l,x=.lab l:=by cases x<;>simp[ay] at hlab;exact⟨_,rfl⟩
    have aa:=NX.o rfl;obtain⟨J,L⟩:∃J,D[i+1]?=some J:=⟨D[i+1]'(by omega),by simp⟩;have cf:=hY (mo S.o G.o W3 (D,ws) F (i+1) d J H3.o K3.o aa L (by show ws.length<=_;omega));have ST:=hY (SR.o.lab RL.o XI.o DI.o br RI.o aa);clear L J;go_wp2_with (go_at_call 63;refine cf.o.mono ?_;rintro e w4 ⟨rfl,F4,b3,c0,b2⟩;have A:=hY b3;have K4:=hY b2;clear b3 c0 b2)
    go_step3
    refine⟨⟨W,base,b6,b8,bd,b1,mb,lm,S.o,rfl,_,M,F4,ST.o.1,?_,A.o,K4.o,⟨rfl,rfl,rfl,rfl,rfl,rfl,rfl,rfl⟩⟩,?_⟩
    ·have:=ST.o.2;have:=ML.o;omega
    ·rw[uT A.o ⟨rfl,rfl,rfl,rfl,rfl,rfl,rfl,rfl⟩]
     exact ST.o.2
   |false=>
    have bp:=kf FT.o XI.o
    have hT:Hid (aU (opI x) (itA x) (itB x)=bJ x/\bI (opI x)=bZ x):=hY (by
     cases x with
     |lab l=>simp[ay] at hlab
     |ins op a b z=>exact⟨rfl,rfl⟩
     |jmp op g=>exact⟨rfl,rfl⟩
     |blk a b body=>exact⟨by simp[aU,opI,bJ],by simp[bI,opI,bZ]⟩)
    have hb:=qN bp hlab;have ax:itL x= -1:=by cases x<;>simp[ay] at hlab<;>rfl
    have a2:=hY (zC W3 (opI x) (itA x) (itB x) 0 (itZ x) hb.1 hb.2.1 hb.2.2.1 hb.2.2.2);rw[hT.o.1,hT.o.2] at a2;have cn:=TI.o.1;have co:=TI.o.2 hlab;have cr:=mS x;have a1:=hY (SR.o.ins RL.o XI.o hlab DI.o br RI.o cn co);have ck:Hid (bL x d=d-bJ x+bZ x):=hY rfl;have dc:Hid (2*eC D+ws.length<=2*(its.length+1)):=hY (by have:=ML.o;rw[bY,ta] at this;omega);rw[ck.o] at a1;have ca:=hY NX.o;obtain⟨df,de⟩:=cr;have cv:0<=d-bJ x+bZ x:=by omega
    clear bp hb NX hT hlab;rw[ax] at q;clear ax;have Z:=hY (fun W=>Dy W (opI x))
    have cd:Hid ((∀(op:Int) (g:Nat),x≠It.jmp op g)/\itG x= -1\/∃(op:Int) (g:Nat),x=It.jmp op g/\itG x=(g:Int)):=hY (by
     cases x with
     |jmp op g=>exact .inr ⟨op,g,rfl,rfl⟩
     |lab l=>exact .inl ⟨fun _ _ h=>(by cases h),rfl⟩
     |ins op a b z=>exact .inl ⟨fun _ _ h=>(by cases h),rfl⟩
     |blk a b body=>exact .inl ⟨fun _ _ h=>(by cases h),rfl⟩)
    have JG:Hid (∀(op:Int) (g:Nat),x=It.jmp op g->∃j:Nat,j<its.length/\its[j]?=some (.lab g)/\im lm (g:Int)=some (.i (j:Int))):=hY (fun op g e=>by
     obtain⟨j,Q⟩:=GO.o op g e;have ac:=(aC.1 Q).1
     exact⟨j,ac,Q,S.o.labs j g ac Q⟩)
    clear GO ck;generalize cG (opI x)=en at*;generalize opI x=op at*;generalize itA x=ia at*;generalize itB x=ib at*;generalize itZ x=iz at*;generalize itG x=ig at*;generalize bJ x=tk at*;generalize bZ x=lv at*;have a5:Hid (∀(s2:List Int×List Nat) (F':List Nat) (wf:World) (a:Act) (m:Int),m=max (max M d) (d-tk+lv)->(kX its s2 (max (max M d) (d-tk+lv))/\2*eC s2.1+s2.2.length<2*eC D+(ws++[i]).length)->HM base b6 b8 bd wf s2 F'->KL base bd W wf->zW (.pointer (some ⟨b1,0,none⟩)) (.map (some mb)) (.pointer (some ⟨b6,0,none⟩)) (.pointer (some ⟨b8,0,none⟩)) (.i m) (.func (.func 63) #[] #[.pointer (some ⟨b1,0,none⟩),.pointer (some ⟨b6,0,none⟩),.pointer (some ⟨b8,0,none⟩)]) a->EH w its r 0 a wf/\muA a wf<2*eC D+(ws++[i]).length):=hY (fun s2 F' wf a m hm h1 h2 h3 h4=>by subst hm;exact⟨⟨W,base,b6,b8,bd,b1,mb,lm,S.o,rfl,s2,_,F',h1.1,by have:=h1.2;have:=ML.o;omega,h2,h3,h4⟩,by rw[uT h2 h4];exact h1.2⟩);cases en with
    |true=>
     rcases cd.o with Q|Q
     ·obtain⟨ap,rfl⟩:=Q
      have bg:=hY ap;clear ap;have ST:=hY (a1.o (D,ws) (.inl ⟨rfl,rfl⟩));go_wp2_with (first|(go_at_call 64;refine a2.o.m fun w4 f=>?_;have A:=hY (H3.o.ext f.o);have K4:=hY (K3.o.ext S.o.hb f.o);have B4:=hY (f.o.keep B3.o);obtain⟨r1,r2⟩:=blk B4.o;obtain⟨r3,r4⟩:=blk A.o.d6;have r5:=(blk A.o.dd).1;have r6:=(blk A.o.dd).2;have r7:w4.cell? ⟨bd,i,none⟩=some (.i d):=(by rw[r5];simp[bz,DI.o]);clear r5;dsimp only at r3;rw[az] at r3;clear q B I X q6 af)|(go_at_call 65;refine(Z.o _).mono ?_;rintro e w5 ⟨rfl,rfl⟩));all_goals(go_step3;exact a5.o _ _ _ _ _ (by omega) (ST.o _ (.inl ⟨bg.o,rfl⟩)) A.o K4.o ⟨rfl,rfl,rfl,rfl,rfl,rfl,rfl,rfl⟩)
     ·obtain⟨jo,jg,O,rfl⟩:=Q
      obtain⟨j,ac,am,ao⟩:=JG.o jo jg O;have R:=hY (And.intro O (And.intro am ao));have ct:¬((jg:Int)<0):=by omega
      clear O am ao;have ST:=hY (a1.o (D,ws) (.inl ⟨rfl,rfl⟩));have HZ:Hid (∀w:World,(zeroValue 3).run Tryz.prog w=.ok (.i 0) w):=hY (fun _=>rfl);obtain⟨a0,K⟩:∃J,D[j]?=some J:=⟨D[j]'(by omega),by simp⟩;have U:=hY (fun(Wx:World) Y E=>mo S.o G.o Wx (D,ws) F j (d-tk+lv) a0 Y E ac K (by show ws.length<=_;omega));clear K a0;go_wp2_with (first|(go_at_call 64;refine a2.o.m fun w4 f=>?_;have A:=hY (H3.o.ext f.o);have K4:=hY (K3.o.ext S.o.hb f.o);have B4:=hY (f.o.keep B3.o);obtain⟨r1,r2⟩:=blk B4.o;obtain⟨r3,r4⟩:=blk A.o.d6;have r5:=(blk A.o.dd).1;have r6:=(blk A.o.dd).2;have r7:w4.cell? ⟨bd,i,none⟩=some (.i d):=(by rw[r5];simp[bz,DI.o]);clear r5;dsimp only at r3;rw[az] at r3;clear q B I X q6 af;have LK:=dw (P:=Tryz.prog) w4 Tryz.underlying127 Tryz.underlying3 (S.o.m' K4.o) (.i 0) HZ.o (jg:Int);rw[R.o.2.2,At] at LK)|(go_at_call 65;refine(Z.o _).mono ?_;rintro e w5 ⟨rfl,rfl⟩)|(go_at_call 63;refine(U.o _ A.o K4.o).mono ?_;rintro e w7 ⟨rfl,F7,C,hC,N⟩;have H7:=hY C;have K7:=hY N;have C7:=hY hC;clear C hC N));all_goals(go_step3;exact a5.o _ _ _ _ _ (by omega) (ST.o _ (.inr ⟨jo,jg,j,R.o.1,R.o.2.1,rfl⟩)) H7.o K7.o ⟨rfl,rfl,rfl,rfl,rfl,rfl,rfl,rfl⟩)
    |false=>
     rcases cd.o with Q|Q
     ·obtain⟨ap,rfl⟩:=Q
      have bg:=hY ap;clear ap;have aa:=ca.o rfl;obtain⟨J,L⟩:∃J,D[i+1]?=some J:=⟨D[i+1]'(by omega),by simp⟩;have y:=hY (fun(Wx:World) Y E=>mo S.o G.o Wx (D,ws) F (i+1) (d-tk+lv) J Y E aa L (by show ws.length<=_;omega));have ST:=hY (a1.o (hnd (D,ws) (i+1) (d-tk+lv)) (.inr ⟨rfl,rfl⟩));clear L J;go_wp2_with (first|(go_at_call 64;refine a2.o.m fun w4 f=>?_;have A:=hY (H3.o.ext f.o);have K4:=hY (K3.o.ext S.o.hb f.o);have B4:=hY (f.o.keep B3.o);obtain⟨r1,r2⟩:=blk B4.o;obtain⟨r3,r4⟩:=blk A.o.d6;have r5:=(blk A.o.dd).1;have r6:=(blk A.o.dd).2;have r7:w4.cell? ⟨bd,i,none⟩=some (.i d):=(by rw[r5];simp[bz,DI.o]);clear r5;dsimp only at r3;rw[az] at r3;clear q B I X q6 af)|(go_at_call 65;refine(Z.o _).mono ?_;rintro e w5 ⟨rfl,rfl⟩)|(go_at_call 63;refine(y.o _ A.o K4.o).mono ?_;rintro e w6 ⟨rfl,F6,C,hC,N⟩;have H6:=hY C;have K6:=hY N;have C6:=hY hC;clear C hC N;have B6:=hY (C6.o.keep B4.o BB.o.1 BB.o.2);obtain⟨t1,t2⟩:=blk B6.o));all_goals(go_step3;exact a5.o _ _ _ _ _ (by omega) (ST.o _ (.inl ⟨bg.o,rfl⟩)) H6.o K6.o ⟨rfl,rfl,rfl,rfl,rfl,rfl,rfl,rfl⟩)
     ·obtain⟨jo,jg,O,rfl⟩:=Q
      obtain⟨j,ac,am,ao⟩:=JG.o jo jg O;have R:=hY (And.intro O (And.intro am ao));have ct:¬((jg:Int)<0):=by omega
      clear O am ao;have aa:=ca.o rfl;obtain⟨J,L⟩:∃J,D[i+1]?=some J:=⟨D[i+1]'(by omega),by simp⟩;have y:=hY (fun(Wx:World) Y E=>mo S.o G.o Wx (D,ws) F (i+1) (d-tk+lv) J Y E aa L (by show ws.length<=_;omega));have ST:=hY (a1.o (hnd (D,ws) (i+1) (d-tk+lv)) (.inr ⟨rfl,rfl⟩));clear L J;have HZ:Hid (∀w:World,(zeroValue 3).run Tryz.prog w=.ok (.i 0) w):=hY (fun _=>rfl);obtain⟨a0,K⟩:∃J,(hnd (D,ws) (i+1) (d-tk+lv)).1[j]?=some J:=⟨(hnd (D,ws) (i+1) (d-tk+lv)).1[j]'(by rw[Bn];show j<D.length;omega),by simp⟩;have U:=hY (fun(Wx:World) (Fx:List Nat) Y E=>mo S.o G.o Wx (hnd (D,ws) (i+1) (d-tk+lv)) Fx j (d-tk+lv) a0 Y E ac K (by have:=mj (s:=(D,ws)) (k:=i+1) cv;have:=dc.o;simp only at*;omega));clear K a0;go_wp2_with (first|(go_at_call 64;refine a2.o.m fun w4 f=>?_;have A:=hY (H3.o.ext f.o);have K4:=hY (K3.o.ext S.o.hb f.o);have B4:=hY (f.o.keep B3.o);obtain⟨r1,r2⟩:=blk B4.o;obtain⟨r3,r4⟩:=blk A.o.d6;have r5:=(blk A.o.dd).1;have r6:=(blk A.o.dd).2;have r7:w4.cell? ⟨bd,i,none⟩=some (.i d):=(by rw[r5];simp[bz,DI.o]);clear r5;dsimp only at r3;rw[az] at r3;clear q B I X q6 af)|(go_at_call 65;refine(Z.o _).mono ?_;rintro e w5 ⟨rfl,rfl⟩)|(have bh:=y;(go_at_call 63;refine(y.o _ A.o K4.o).mono ?_;rintro e w6 ⟨rfl,F6,C,hC,N⟩;have H6:=hY C;have K6:=hY N;have C6:=hY hC;clear C hC N;have B6:=hY (C6.o.keep B4.o BB.o.1 BB.o.2);obtain⟨t1,t2⟩:=blk B6.o;have LK:=dw (P:=Tryz.prog) w6 Tryz.underlying127 Tryz.underlying3 (S.o.m' K6.o) (.i 0) HZ.o (jg:Int);rw[R.o.2.2,At] at LK;clear bh y r1 r2 r3 r4 r6 r7))|(go_at_call 63;refine(U.o _ _ H6.o K6.o).mono ?_;rintro e w7 ⟨rfl,F7,C,hC,N⟩;have H7:=hY C;have K7:=hY N;have C7:=hY hC;clear C hC N));all_goals(go_step3;exact a5.o _ _ _ _ _ (by omega) (ST.o _ (.inr ⟨jo,jg,j,R.o.1,R.o.2.1,rfl⟩)) H7.o K7.o ⟨rfl,rfl,rfl,rfl,rfl,rfl,rfl,rfl⟩)
 ·intro LK
  have c6:=hY (LK 0);clear LK;obtain⟨o,dd,nv,ar,it,c,a6,-,cp,a9,-⟩:=(G.o w (Ext.refl w)).at;have cq:its.length<=2000000000:=a9;have RB:=hY a6;have E1:Hid (Ext w ((w.alloc (.cells #[.pointer (some ⟨r,0,none⟩)] 61)).alloc (.map #[] 0))):=hY (((Ext.refl w).alloc _).alloc _);have C1:=hY (aM (aq w (.cells #[.pointer (some ⟨r,0,none⟩)] 61) _ rfl) (.map #[] 0));have M1:=hY (cQ.new (w.alloc (.cells #[.pointer (some ⟨r,0,none⟩)] 61)) _ rfl .i64);have b7:Hid ((w.alloc (.cells #[.pointer (some ⟨r,0,none⟩)] 61)).heap.size=w.heap.size+1):=hY (by show(w.heap.push _).size=_;exact tc ..);have i1:=run_makeMap (P:=Tryz.prog) 127 (w.alloc (.cells #[.pointer (some ⟨r,0,none⟩)] 61));rw[b7.o] at i1 M1;clear a6 a9;go_upto_region 2 with fail;generalize cz:(w.alloc _).alloc _=W1 at*;clear cz b7 i1;obtain⟨q,B⟩:=blk C1.o;obtain⟨I,X⟩:=blk (E1.o.keep RB.o);go_upto_region 3 with fail;clear q B I X;have du:Hid (∀w:World,(zeroValue 3).run Tryz.prog w=.ok (.i 0) w):=hY (fun _=>rfl)
  go_loopw [22] (fun i wr=>∃(j:Nat) (l:aZ),j<=its.length/\i=.i j/\cQ wr (w.heap.size+1) .i64 l/\fK its j (fun j=>(j:Int)) l/\Mod [w.heap.size+1] W1 wr) (fun i _=>its.length-(intOf i).toNat)
  case atStart=>exact⟨0,[],by omega,rfl,M1.o,fK.zero _ _ _,Mod.refl _ _⟩
  case round=>
   obtain⟨j,l,Q,rfl,hm,bo,t⟩:=hrel;have EW:Ext w wr:=⟨t.os.trans E1.o.os,t.tape.trans E1.o.tape,t.output.trans E1.o.output,aN E1.o.size t.size,fun k E=>by rw[t.block k (bA E E1.o.size) (by simp;omega)];exact E1.o.block E⟩;have cg:=hY EW;have MM:=hY hm;have LA:=hY bo;have MO:=hY t;clear hm bo t;by_cases hlt:j<its.length
   ·obtain⟨x,Y⟩:∃x,its[j]?=some x:=⟨its[j],by simp[hlt]⟩
    obtain⟨o',ds,dh,dt,dl,c',aj,-,-,-,aw⟩:=(G.o wr EW).at;rw[EW.keep RB.o] at aj;simp only[dO,Obj.cells.injEq,Array.mk.injEq,DO,and_true,true_and,Value.slice.injEq] at aj;obtain⟨rfl,rfl,rfl,rfl,rfl,rfl⟩:=aj;obtain⟨g2,cl,pv,hit,-,⟨e0,e1,e2,e3,e4,e5,e6,e7⟩,v⟩:=aw j x Y;obtain⟨pp,rfl⟩:=v.ptr;clear v aw EW;have XI:=hY Y;clear Y;subst hit;have E3:Hid (Ext wr (wr.alloc (.cells (mh (opI x) (itA x) (itB x) (itZ x) (itG x) (itL x) (.pointer pp)).toArray 144))):=hY ((Ext.refl wr).alloc _);have B3:=hY (aq wr (.cells (mh (opI x) (itA x) (itB x) (itZ x) (itG x) (itL x) (.pointer pp)).toArray 144) _ rfl);go_upto_region 5 with fail;generalize wr.heap.size=bx at*;generalize bf:wr.alloc _=W3 at*;clear bf e0 e1 e2 e3 e4 e5 e6 e7;obtain⟨q,B⟩:=blk B3.o;cases hlab:ay x with
    |true=>
     obtain⟨lb,rfl⟩:∃l,x=.lab l:=by cases x<;>simp[ay] at hlab;exact⟨_,rfl⟩
     have b0:itL (.lab lb)=(lb:Int):=rfl;rw[b0] at q;clear b0;obtain⟨w4,i4,m4,d4⟩:=di (P:=Tryz.prog) W3 Tryz.underlying127 Tryz.underlying3 (MM.o.keep E3.o) (lb:Int) (.i (j:Int));have M4:=hY m4;have D4:=hY ((MO.o.ext E3.o).trans d4);clear m4 d4;go_wp2_with fail;go_roundw
     case rel=>exact⟨j+1,_,by omega,by go_num,M4.o,LA.o.lab RL.o.nodup XI.o,D4.o⟩
     case measure=>simp[intOf];omega
    |false=>
     have ax:itL x= -1:=by cases x<;>simp[ay] at hlab<;>rfl
     have NL:Hid (∀g,its[j]?≠some (.lab g)):=hY (fun g h=>by rw[XI.o] at h;cases h;simp[ay] at hlab);rw[ax] at q;clear ax hlab;go_wp2_with fail;go_roundw
     case rel=>exact⟨j+1,l,by omega,by go_num,MM.o.keep E3.o,LA.o.skip NL.o,MO.o.ext E3.o⟩
     case measure=>simp[intOf];omega
   ·have bb:j=its.length:=by omega
    subst bb;have CB:Hid (wr.heap[w.heap.size]?=some (.cells #[.pointer (some ⟨r,0,none⟩)] 61)):=hY (MO.o.keep C1.o (by simp));have b9:=hY (EW.keep RB.o);have b5:Hid (w.heap.size+2<=wr.heap.size):=hY (by have:=MM.o.lt;omega);clear MO C1 Q hlt EW;obtain⟨q,B⟩:=blk CB.o;obtain⟨I,X⟩:=blk b9.o;obtain⟨i0,hi,bm,bl,bk⟩:=info_parts pJ;have NB:Hid (i0.bytes*(its.length+1)<=281474976710656/\its.length+1<=maxLen):=hY ⟨by rw[bk];omega,by unfold maxLen;omega⟩;go_upto_region 9 with(at_make;refine wpList_make_full _ rfl _ _ 83 rfl 0 3 i0 (.i 0) 1 Tryz.underlying83 hi bm bl .i64 .i64 _ _ (its.length+1) rfl rfl (by simp) (by simp) NB.o.1 NB.o.2 (oS _) ?_;intro w5 a7 au;have OW:=hY a7;have GR:=hY au;clear a7 au);obtain⟨c1,a8,bs,bc⟩:=mM OW.o
    have bi:Hid (w5.heap[wr.heap.size]?=some (.cells ((List.replicate (its.length+1) (0:Int)).map bz).toArray 3)):=hY (by
     rw[a8]
     congr 2
     apply Array.toList_inj.1;rw[Fu (by rw[Array.length_toList,bs];exact gE _)] at bc;rw[bc,show(Value.i 0).cells=#[Value.int .i64 0] from rfl,toList_madeCells_one]
     simp[bz])
    have E5:Hid (Ext wr w5):=hY ⟨(ag GR.o).os,(ag GR.o).tape,(ag GR.o).output,(ag GR.o).size,fun k E=>(ag GR.o).block k E (by simp)⟩;have E6:Hid (Ext wr (w5.alloc (.cells #[.slice (some ⟨wr.heap.size,0,none⟩) (its.length+1) (its.length+1)] 83))):=hY (E5.o.alloc _);have D6:=hY (aq w5 (.cells #[.slice (some ⟨wr.heap.size,0,none⟩) (its.length+1) (its.length+1)] 83) _ rfl);have da:=hY (aM bi.o (.cells #[.slice (some ⟨wr.heap.size,0,none⟩) (its.length+1) (its.length+1)] 83));have LB:Hid (wr.heap.size<w5.heap.size):=hY (ab bi.o);clear c1 a8 bs bc OW GR E5 bi q B I X hi bm bl bk NB;generalize bu:wr.heap.size=bd at*;have ce:=hY bu;clear bu;generalize w5.heap.size=b6 at*;generalize cx:w5.alloc _=W6 at*;clear cx;have V:=hY (cg.o.trans E6.o);have cb:=hY (MM.o.keep E6.o);have cj:=hY (E6.o.keep CB.o);have H:Hid (w.heap.size+2<=bd):=hY (by have:=b5.o;have:=ce.o;omega);clear E6 cg MM CB b9 b5 ce;obtain⟨q,B⟩:=blk D6.o;go_upto_region 10 with fail;clear q B
    go_loopw [44] (fun i wr=>∃(j:Nat),j<=its.length+1/\i=.i j/\wr.heap[bd]?=some (.cells ((List.replicate j (-1:Int)++List.replicate (its.length+1-j) 0).map bz).toArray 3)/\Mod [bd] W6 wr) (fun i _=>its.length+1-(intOf i).toNat)
    case atStart=>exact⟨0,by omega,rfl,by simpa using da.o,Mod.refl _ _⟩
    case round=>
     obtain⟨j,Q,rfl,bq,ba⟩:=hrel;have DJ:=hY bq;have MJ:=hY ba;have bj:=hY (ba.keep D6.o (by simp;have:=LB.o;omega));clear bq ba;by_cases hlt:j<its.length+1
     ·obtain⟨q,B⟩:=blk bj.o
      obtain⟨I,X⟩:=blk DJ.o
      have hc:wr.cell? ⟨bd,j,none⟩=some (.i 0):=by
       rw[I]
       have e:(List.replicate j (-1:Int)++List.replicate (its.length+1-j) 0)[j]?=some 0:=by
        rw[j1 (by simp),FC,Fs,vt,if_pos (by omega)]
       simp only[FA,oN,e];rfl
      have DN:Hid ((wr.setCell ⟨bd,j,none⟩ (.i (-1))).heap[bd]?=some (.cells ((List.replicate (j+1) (-1:Int)++List.replicate (its.length+1-(j+1)) 0).map bz).toArray 3)):=hY (by
       rw[be DJ.o]
       congr 2
       rw[show(Value.i (-1))=bz (-1) from rfl,pz]
       congr 2
       have e1:List.replicate (its.length+1-j) (0:Int)=0::List.replicate (its.length+1-(j+1)) 0:=by
        rw[show its.length+1-j=(its.length+1-(j+1))+1 by omega,List.replicate_succ]
       rw[e1,Do _ _ (by simp),FC,Fs,ou,List.replicate_succ' (n:=j),gz]
       rfl)
      have MN:Hid (Mod [bd] W6 (wr.setCell ⟨bd,j,none⟩ (.i (-1)))):=hY (MJ.o.trans (ae wr ⟨bd,j,none⟩ (.i (-1))));have cs:(j:Int)<(its.length:Int)+1:=by omega
      clear I;go_upto_region 13 with fail;generalize wr.setCell ⟨bd,j,none⟩ (.i (-1))=wn at*;clear q B X hc cs;go_wp2_with fail;go_roundw
      case rel=>exact⟨j+1,by omega,by go_num,DN.o,MN.o⟩
      case measure=>simp[intOf];omega
     ·have bb:j=its.length+1:=by omega
      subst bb;have DN:Hid (wr.heap[bd]?=some (.cells ((List.replicate (its.length+1) (-1:Int)).map bz).toArray 3)):=hY (by have:=DJ.o;simpa using this);have c8:Hid (Ext w wr):=hY ⟨MJ.o.os.trans V.o.os,MJ.o.tape.trans V.o.tape,MJ.o.output.trans V.o.output,aN V.o.size MJ.o.size,fun k E=>by rw[MJ.o.block k (bA E V.o.size) (by simp;have:=H.o;omega)];exact V.o.block E⟩;have c4:Hid (cQ wr (w.heap.size+1) .i64 l):=hY (cb.o.mod MJ.o (by simp;have:=H.o;omega));have db:Hid (wr.heap[w.heap.size]?=some (.cells #[.pointer (some ⟨r,0,none⟩)] 61)):=hY (MJ.o.keep cj.o (by simp;have:=H.o;omega));have E8:Hid (Ext wr ((wr.alloc (.cells #[.i 0] 3)).alloc (.cells #[.slice (some ⟨wr.heap.size,0,none⟩) 1 1] 83))):=hY (((Ext.refl wr).alloc _).alloc _);have WB:=hY (aM (aq wr (.cells #[.i 0] 3) _ rfl) (.cells #[.slice (some ⟨wr.heap.size,0,none⟩) 1 1] 83));have W8:=hY (aq (wr.alloc (.cells #[.i 0] 3)) (.cells #[.slice (some ⟨wr.heap.size,0,none⟩) 1 1] 83) _ rfl);have b4:Hid ((wr.alloc (.cells #[.i 0] 3)).heap.size=wr.heap.size+1):=hY (by show(wr.heap.push _).size=_;exact tc ..);rw[b4.o] at W8;clear DJ MJ Q hlt V cb cj;go_upto_region 15 with fail;rw[b4.o] at*;have ah:Hid (b6<wr.heap.size):=hY (ab bj.o);have c5:Hid (wr.heap.size<=((wr.alloc (.cells #[.i 0] 3)).alloc (.cells #[.slice (some ⟨wr.heap.size,0,none⟩) 1 1] 83)).heap.size):=hY E8.o.size;generalize dr:wr.heap.size=base at*;generalize cw:(wr.alloc _).alloc _=wx at*;clear cw;have ch:=hY (E8.o.keep DN.o);have ci:=hY (E8.o.keep bj.o);obtain⟨q,B⟩:=blk ci.o;obtain⟨I,X⟩:=blk ch.o
      have hc:wx.cell? ⟨bd,0,none⟩=some (.i (-1)):=by
       rw[I];simp only[FA,oN,vt,if_pos (Nat.succ_pos _)];rfl
      clear I;have MS:=ae wx ⟨bd,0,none⟩ (.i 0);have ES:Hid (Ext w (wx.setCell ⟨bd,0,none⟩ (.i 0))):=hY ((c8.o.trans E8.o).setCell (by show w.heap.size<=bd;have:=H.o;omega) _);have c2:base≠bd/\base+1≠bd/\b6≠bd/\w.heap.size≠bd/\w.heap.size+1≠bd:=by have:=H.o;have:=LB.o;have:=ah.o;omega
      have c7:Hid (HM base b6 (base+1) bd (wx.setCell ⟨bd,0,none⟩ (.i 0)) ((List.replicate (its.length+1) (-1:Int)).set 0 0,[0]) [bd,base]):=hY (by
       refine⟨⟨by have:=LB.o;have:=ah.o;omega,ah.o,by omega⟩,?_,?_,.slice (some ⟨base,0,none⟩) 1 1,rfl,MS.keep W8.o (by simp;omega),?_⟩
       ·dsimp only
        rw[As,FC];exact MS.keep ci.o (by simp;omega)
       ·rw[be ch.o,show(Value.i 0)=bz 0 from rfl,pz]
       ·exact⟨rfl,.inr ⟨base,1,#[kU 0],rfl,gE _,MS.keep WB.o (by simp;omega),gE _,by decide,rfl,rfl⟩⟩)
      have c3:Hid (sw w (wx.setCell ⟨bd,0,none⟩ (.i 0)) its r base b6 (base+1) bd w.heap.size (w.heap.size+1) l):=hY (by
       refine⟨ES.o,aN c5.o MS.size,⟨by have:=H.o;omega,by have:=H.o;have:=LB.o;have:=ah.o;omega⟩,⟨by have:=H.o;have:=LB.o;have:=ah.o;omega,by omega⟩,⟨by have:=H.o;have:=LB.o;have:=ah.o;omega,by omega⟩,MS.keep (E8.o.keep db.o) (by simp;omega),(c4.o.keep E8.o).mod MS (by simp;omega),LA.o⟩)
      clear MS c2;go_upto_region 16 with fail;generalize wx.setCell ⟨bd,0,none⟩ (.i 0)=wf at*;clear q B X hc;go_wp2_with fail
      go_step3
      rename_i hK1;refine hK1 _ _ (c6.o _ _ ⟨wf,base,b6,base+1,bd,w.heap.size,w.heap.size+1,l,c3.o,rfl,_,0,_,kX.begin RL.o,?_,c7.o,KL.refl _ _ _,⟨rfl,rfl,rfl,rfl,rfl,rfl,rfl,rfl⟩⟩);have:=ww ((List.replicate (its.length+1) (-1:Int)).set 0 0);rw[As,FC] at this;simp only[ta];omega
end
end Go.Proofs.Eff
