import Derived.Test.YtcimpmhmdnoeiaaGreatDoorQ30
set_option maxRecDepth 100000
set_option maxHeartbeats 4000000
set_option linter.all false
namespace Go.Proofs.Eff
open Go.RowKit
theorem dW.grow {w w':World}{ok ok':Nat->Prop}{v:Value}{o:Option (Int×Int)}(a:dW w ok v o)(c:∀g b,ok g->w.heap[g]?=some (.cells b 67)->w'.heap[g]?=some (.cells b 67)/\ok' g):dW w' ok' v o:=by
 cases o with
 |none=>exact a
 |some x=>
  obtain⟨pl,e⟩:=x;obtain⟨g,j,i,h⟩:=a;obtain⟨f,d⟩:=c g _ i h;exact⟨g,j,d,f⟩
theorem zB {base p:Nat}{w w':World}{y x:Value}{s s':GS}{z:List RgS}{F:List Nat}{A j G:Value}{xs:List Value}{l:List Nat}(d:CWV base p w y x s z F A j G xs l)(m:Mod [p] w w'){R:Nat}(K:w.heap.size<=R){nv wv':Value}{q:List BL}{n1:Nat}
 (n:w'.heap[R]?=some (.cells #[A,.i (z.length:Int),nv,.i (n1:Int),.slice none 0 0] 70)) (I:w'.heap[p]?=some (.cells #[y,x,.pointer (some ⟨R,0,none⟩),j,.i (s'.FO:Int),wv',.bool s'.many] 64)) (B:s'.FU=s.FU)
 (t:fL w' (fun k=>w.heap.size<=k/\k<w'.heap.size/\k≠R) nv q) (r:dW w' (fun k=>base<=k/\k<w'.heap.size/\k≠p/\¬k∈F/\k≠R) wv' s'.F9):aa base p w y x F s' ((R,(q,n1),[])::z) w':=by
 have H:p<w.heap.size:=ab d.blk;have v:R<w'.heap.size:=ab n;have J:=d.lo;have g:¬R∈F:=fun h=>by have:=(d.inF R h).2.1;omega
 have f:∀k∈j.ownBlock.toList++(R::l),k∈F\/k=R:=fun k c=>by
  rw[d.foot];simp only[iF,aS] at c ⊢;rcases c with c|rfl|c
  ·exact .inl (.inl c)
  ·exact .inr rfl
  ·exact .inl (.inr c)
 have D:jp (okF base p w F) w w':=fun k c=>m.block k c.2.1 (by simp[c.2.2.1])
 have E:∀k,okF base p w F k->okF base p w' (j.ownBlock.toList++(R::l)) k:=fun k c=>⟨c.1,bA c.2.1 m.size,c.2.2.1,fun h=>by
  rcases f k h with e|e
  ·exact c.2.2.2 e
  ·have:=c.2.1;omega⟩
 have o:∀k∈F,w'.heap[k]?=w.heap[k]?:=fun k c=>m.block k (d.inF k c).2.1 (by simp[(d.inF k c).2.2]);refine⟨j.ownBlock.toList++(R::l),⟨_,j,wv',xs,R::l,d.lo,I,rfl,?_,?_,?_,?_,?_,?_⟩,m.mono (by simp),?_⟩
 ·have hnd:=d.nodup
  rw[d.foot] at hnd g;rw[nr] at hnd ⊢;simp only[iF,not_or] at g;refine⟨hnd.1,D7.2 ⟨g.2,hnd.2.1⟩,fun a C b u=>?_⟩;rcases aS.1 u with rfl|u
  ·intro e;subst e;exact g.1 C
  ·exact hnd.2.2 a C b u
 ·intro k c
  rcases f k c with e|e
  ·exact⟨(d.inF k e).1,bA (d.inF k e).2.1 m.size,(d.inF k e).2.2⟩
  ·subst e
   exact⟨by omega,v,by omega⟩
 ·rw[B]
  exact j4 d.FU (fun k c=>o k (by rw[d.foot,c];simp))
 ·rw[B]
  exact d.litsC.keep D E
 ·refine⟨rfl,A,nv,.slice none 0 0,[],l,by simp[Value.ownBlock],n,?_,⟨rfl,.inl ⟨rfl,rfl⟩⟩,rfl,d.chain.keep D E (fun k c=>o k (by rw[d.foot];simp[c]))⟩
  exact t.keep (fun k _=>rfl) (fun k c=>⟨by omega,c.2.1,by omega,fun h=>by
   rcases f k h with e|e
   ·have:=(d.inF k e).2.1;omega
   ·exact c.2.2 e⟩)
 ·exact r.keep (fun k _=>rfl) (fun k c=>⟨c.1,c.2.1,c.2.2.1,fun h=>by
   rcases f k h with e|e
   ·exact c.2.2.2.1 e
   ·exact c.2.2.2.2 e⟩)
 ·intro k c
  rcases f k c with e|e
  ·exact .inl e
  ·subst e;exact .inr K
def Cx (p:Nat)(w:World)(d c f b lab many:Value)(o:Option (Int×Int))(ok:Nat->Prop)(pl e:Int)(w':World):Prop:=∃a,Mod [p] w w'/\w'.heap[p]?=some (.cells #[d,c,f,b,lab,a,many] 64)/\dW w' (fun k=>ok k\/(w.heap.size<=k/\k<w'.heap.size)) a (if o.isSome then o else some (pl,e))
theorem Ev (p:Nat)(w:World)(u t y n lab many l:Value)(o:Option (Int×Int))(ok:Nat->Prop)(a:w.heap[p]?=some (.cells #[u,t,y,n,lab,l,many] 64))(r:dW w ok l o)(pl e:Int):Calls Tryz.prog 58 #[.pointer (some ⟨p,0,none⟩),.i pl,.i e] w fun B w'=>B=.returned (.tuple #[])/\Cx p w u t y n lab many o ok pl e w':=by
 obtain⟨H,G⟩:=blk a;cases o with
 |some x=>
  obtain⟨m,C⟩:=x;have A:=hY a;obtain⟨g,rfl,d,c⟩:=r;have z:Hid (dW w (fun k=>ok k\/(w.heap.size<=k/\k<w.heap.size)) (.pointer (some ⟨g,0,none⟩)) (some (m,C))):=hY ⟨g,rfl,.inl d,c⟩;clear a d c;go_enter Tryz.func58,Tryz.ntmps58;go_wp2_with fail
  (first|refine QzE rfl rfl ?_|refine QzR rfl rfl ?_);exact ⟨rfl,_,Mod.refl _ _,A.o,z.o⟩
 |none=>
  have q:l=.pointer none:=r;subst q;have j:Ext w (w.alloc (.cells #[.i pl,.i e] 67)):=(Ext.refl w).alloc _;have f:=be (i:=5) (j.keep a) (.pointer (some ⟨w.heap.size,0,none⟩));have h:=ae (w.alloc (.cells #[.i pl,.i e] 67)) ⟨p,5,none⟩ (.pointer (some ⟨w.heap.size,0,none⟩));have s:p<w.heap.size:=ab a;have b:w.heap.size<(w.alloc (.cells #[.i pl,.i e] 67)).heap.size:=ab (aq w _ _ rfl);have D:Hid (Mod [p] w ((w.alloc (.cells #[.i pl,.i e] 67)).setCell ⟨p,5,none⟩ (.pointer (some ⟨w.heap.size,0,none⟩)))/\((w.alloc (.cells #[.i pl,.i e] 67)).setCell ⟨p,5,none⟩ (.pointer (some ⟨w.heap.size,0,none⟩))).heap[p]?=some (.cells #[u,t,y,n,lab,.pointer (some ⟨w.heap.size,0,none⟩),many] 64)/\dW ((w.alloc (.cells #[.i pl,.i e] 67)).setCell ⟨p,5,none⟩ (.pointer (some ⟨w.heap.size,0,none⟩))) (fun k=>ok k\/(w.heap.size<=k/\k<((w.alloc (.cells #[.i pl,.i e] 67)).setCell ⟨p,5,none⟩ (.pointer (some ⟨w.heap.size,0,none⟩))).heap.size)) (.pointer (some ⟨w.heap.size,0,none⟩)) (some (pl,e))):=hY ⟨(j.mod [p]).trans h,by rw[f];simp,w.heap.size,rfl,.inr ⟨gE _,bA b h.size⟩,h.keep (aq w _ _ rfl) (by simp;omega)⟩;obtain⟨F,E⟩:=blk (j.keep a);clear a f h j b s r;go_enter Tryz.func58,Tryz.ntmps58;go_wp2_with fail;exact QzE rfl rfl ⟨rfl,_,D.o.1,D.o.2.1,D.o.2.2⟩
theorem wE (FR:Int)(c:List Rg)(a:List BL)(j:Nat)(x:BL)(b:a[j]?=some x)(s:GS):aA.go FR c (a.take j) (a.drop j) s=aA.go FR c (a.take (j+1)) (a.drop (j+1)) (if(a.take j).contains x||(aF x c).isSome then s.fail FR 132 else s):=by
 obtain⟨d,e⟩:=aC.1 b;rw[hI d,e,aA.go];rw[tO,b];rfl
theorem xQ (a b:List BL)(pl:Int)(c:List Rg)(s:GS):aA a b pl c s=(aA.go pl c [] (a++b) s).or (decide (15<a.length)||decide (63<(a++b).length)||decide (15<c.length)):=rfl
def zZ (base p:Nat)(w:World)(e d:Value)(F:List Nat)(a b:List BL)(pl:Int)(s:GS)(c:List RgS)(w':World):Prop:=∃R,aa base p w e d F (aA a b pl (rgs c) s) ((R,(a++b,a.length),[])::c) w'
structure EnAt (base p R:Nat)(F:List Nat)(W4:World)(fv gv av lv:Value)(dp n1:Int)(pl:Int)(all:List BL)(c:List Rg)(s:GS)(j k:Nat)(wr:World)(sj:GS)(nv wv:Value):Prop where
 mod:Mod [p,R] W4 wr
 pb:wr.heap[p]?=some (.cells #[fv,gv,av,lv,.i (s.FO:Int),wv,.bool s.many] 64)
 rb:wr.heap[R]?=some (.cells #[av,.i dp,nv,.i n1,.slice none 0 0] 70)
 row:wr.ownsRow W4.heap.size 9 1 nv j (dY (all.take j))
 F9:dW wr (fun k=>base<=k/\k<wr.heap.size/\k≠p/\¬k∈F/\k≠R) wv sj.F9
 FO:sj.FO=s.FO
 FU:sj.FU=s.FU
 many:sj.many=s.many
 eq:aA.go pl c [] all s=aA.go pl c (all.take k) (all.drop k) sj
theorem EnAt.failed {base p R:Nat}{F:List Nat}{f:World}{t r u n:Value}{v n1 pl:Int}{a:List BL}{c:List Rg}{s:GS}{j:Nat}{wr:World}{d:GS}{nv w:Value}(h:EnAt base p R F f t r u n v n1 pl a c s j j wr d nv w)(o:p≠R)(H:base<=f.heap.size)(q:∀k∈F,k<f.heap.size)(D:R<f.heap.size)(y:p<f.heap.size){w':World}(B:Cx p wr t r u n (.i (s.FO:Int)) (.bool s.many) d.F9 (fun k=>base<=k/\k<wr.heap.size/\k≠p/\¬k∈F/\k≠R) pl 132 w'){x:BL}(z:a[j]?=some x)(C:((a.take j).contains x||(aF x c).isSome)=true):
 ∃wv',EnAt base p R F f t r u n v n1 pl a c s j (j+1) w' (d.fail pl 132) nv wv':=by
 obtain⟨wv',m,G,E⟩:=B;refine⟨wv',h.mod.trans (m.mono (by simp)),G,m.keep h.rb (by simpa using o.symm),m.row h.row (fun g A=>?_),?_,by rw[fR];exact h.FO,by rw[gD];exact h.FU,by have:=h.many;unfold GS.fail;split<;>exact this,?_⟩
 ·intro l
  simp only[aS,aT,or_false] at l;subst l;have:=(au h.row (k:=g) (by rw[A];simp)).1;omega
 ·have e:(d.fail pl 132).F9=if d.F9.isSome then d.F9 else some (pl,132):=by
   unfold GS.fail
   split<;>rfl
  rw[e];refine E.keep (fun _ _=>rfl) (fun k b=>?_);rcases b with b|b
  ·exact⟨b.1,bA b.2.1 m.size,b.2.2⟩
  ·have:=h.mod.size
   exact⟨by omega,b.2,by omega,fun l=>by have:=q k l;omega,by omega⟩
 ·rw[h.eq,wE pl c a j x z,if_pos C]
theorem EnAt.app {base p R:Nat}{F:List Nat}{w:World}{V S Y P:Value}{W n1 pl:Int}{f:List BL}{c:List Rg}{s:GS}{j:Nat}{wr:World}{O:GS}{nv N:Value}{x:BL}(hj:f[j]?=some x)
 (h:EnAt base p R F w V S Y P W n1 pl f c s j (j+1) wr O nv N) (H:p≠R) (ab:R<w.heap.size) (aa:p<w.heap.size)
 {w5 w6:World} (u:Ext wr w5) {g q:Nat} (i:w6.ownsRow w.heap.size 9 1 (.slice (some ⟨g,0,none⟩) (j+1) q) (j+1) (dY (f.take j)++[.string (mkS x)])) (t:w5.grownBy w6 nv.ownBlock):
 EnAt base p R F w V S Y P W n1 pl f c s (j+1) (j+1) (w6.setCell ⟨R,2,none⟩ (.slice (some ⟨g,0,none⟩) (j+1) q)) O (.slice (some ⟨g,0,none⟩) (j+1) q) N:=by
 obtain⟨v,G,D,y,Z,hl,J,I,K⟩:=h;have d:=ag t;have a:=ae w6 ⟨R,2,none⟩ (.slice (some ⟨g,0,none⟩) (j+1) q);have b:∀k,k∈nv.ownBlock.toList->w.heap.size<=k/\∃X U,wr.heap[k]?=some (.cells X 9 U):=fun k A=>au y A;have n:dY (f.take j)++[.string (mkS x)]=dY (f.take (j+1)):=by rw[tO,hj,AN,sQ];rfl
 rw[n] at i;have C:∀k o,wr.heap[k]?=some o->¬k∈nv.ownBlock.toList->w6.heap[k]?=some o:=fun k o ho l=>d.keep (u.keep ho) l;have m:wr.heap.size<=w6.heap.size:=aN u.size d.size;have E:¬p∈nv.ownBlock.toList:=fun h=>by have:=(b p h).1;omega
 have L:¬R∈nv.ownBlock.toList:=fun h=>by have:=(b R h).1;omega
 have z:=C R _ D L;refine⟨⟨a.os.trans (d.os.trans (u.os.trans v.os)),a.tape.trans (d.tape.trans (u.tape.trans v.tape)),a.output.trans (d.output.trans (u.output.trans v.output)),aN v.size (aN m a.size),fun k A l=>?_⟩,?_,?_,?_,?_,hl,J,I,K⟩
 ·simp only[aS,aT,or_false,not_or] at l
  have r:=bA A v.size;rw[a.block k (bA r m) (by simpa using l.2),d.block k (bA r u.size) (fun h=>by have:=(b k h).1;omega),u.block r];exact v.block k A (by simp[l.1,l.2])
 ·exact a.keep (C p _ G E) (by simpa using H)
 ·rw[be z];simp
 ·exact n8 i a z (by decide)
 ·refine Z.grow (fun M X B Q=>?_)
  have l:¬M∈nv.ownBlock.toList:=fun h=>by
   obtain⟨_,ac,U,e⟩:=b M h;rw[Q] at e;cases e
  exact⟨a.keep (C M _ Q l) (by simpa using B.2.2.2.2),B.1,bA B.2.1 (aN m a.size),B.2.2⟩
section
variable {w:World}
def EJ (w:World)(l:List BL)(v:Value)(w':World):Prop:=w'.ownsRow w.heap.size 9 1 v l.length (dY l)/\Ext w w'
theorem zG (w:World)(q top:Nat)(i:Option Addr)(f:Nat)(b:List BL)(h:Option Addr)(d:Nat)(a:List BL)(j:w.heap[q]?=some (.cells #[.slice i b.length f,.slice h a.length d] 23))(l:bT w top i f b)(k:bT w top h d a)(m:top<=w.heap.size):Calls Tryz.prog 56 #[.slice (some ⟨q,0,none⟩) 2 2] w fun e w'=>∃ad c,e=.returned (.slice ad (b++a).length c)/\EJ w (b++a) (.slice ad (b++a).length c) w':=by
 by_cases h0:b.length+a.length=0
 ·obtain rfl:b=[]:=ls (by omega)
  obtain rfl:a=[]:=ls (by omega);refine(uj w q i f h d j l.nil0 k.nil0).mono ?_;rintro e w' ⟨rfl,rfl⟩;exact⟨none,0,rfl,⟨rfl,.inl ⟨rfl,rfl⟩⟩,Ext.refl _⟩
 ·refine(vF w q top i f b h d a j l k m (by omega)).mono ?_
  rintro e w' ⟨g,c,rfl,o,n⟩;exact⟨_,c,rfl,o,n⟩
theorem mf {b j:Nat}{nv:Value}{l:List BL}{ok:Nat->Prop}(h:w.ownsRow b 9 1 nv j (dY l))(n:l.length=j)(f:l.length<=ao)(k:∀x∈l,x.length<=ao)(a:∀g,b<=g->g<w.heap.size->(∃t,w.heap[g]?=some (.cells t 9))->ok g):fL w ok nv l:=by
 subst n;rcases h.2 with⟨e,d⟩|⟨g,c,s,e,d,m,r,q,v,u⟩
 ·have:l=[]:=ls d
  subst this;exact⟨none,0,e,gE _,oS _,fun _=>rfl,f,k,fun p=>absurd rfl p⟩
 ·subst e
  refine⟨_,c,rfl,r,q,nofun,f,k,fun _=>⟨g,rfl,a g d (ab m) ⟨_,m⟩,fun j x i=>?_⟩⟩;have o:=(aC.1 i).1;rw[h.cellAt j (by omega),dY,oN,i];rfl
theorem wy {p R:Nat}{e wr:World}(a:Ext w e)(b:Mod [p,R] e wr)(f:w.heap.size<=R):Mod [p] w wr:=⟨b.os.trans a.os,b.tape.trans a.tape,b.output.trans a.output,aN a.size b.size,fun k d c=>by
 rw[b.block k (bA d a.size) (by simp only[aS,aT,or_false,not_or] at c ⊢;exact⟨c,by omega⟩)]
 exact a.block d⟩
theorem EnAt.chain {base p R:Nat}{F:List Nat}{r:World}{q o l n:Value}{n1:Nat}{pl:Int}{a:List BL}{c:List Rg}{s:GS}{j k:Nat}{wr:World}{u:GS}{nv t:Value}{i:List RgS}(h:EnAt base p R F r q o l n (i.length:Int) (n1:Int) pl a c s j k wr u nv t){xs:List Value}{m:List Nat}{e:Value}(d:CWV base p w q o s i F l n e xs m)(A:Ext w r)(z:w.heap.size<=R)(D:j<=a.length)(C:a.length<=ao)(y:∀x∈a,x.length<=ao):
 dX wr base (fun k=>k<wr.heap.size) ((R,(a.take j,n1),[])::i) (.pointer (some ⟨R,0,none⟩)) (R::m):=by
 have f:=wy A h.mod z;refine⟨rfl,l,nv,.slice none 0 0,[],m,by simp[Value.ownBlock],h.rb,?_,⟨rfl,.inl ⟨rfl,rfl⟩⟩,rfl,?_⟩
 ·exact mf h.row (by simp;omega) (by simp;omega) (fun x v=>y x (List.mem_of_mem_take v)) (fun g _ B _=>B)
 ·exact d.chain.keep (fun k b=>f.block k b.2.1 (by simp[b.2.2.1])) (fun k b=>bA b.2.1 f.size) (fun k b=>f.block k (d.inF k (by rw[d.foot];simp[b])).2.1 (by simp[(d.inF k (by rw[d.foot];simp[b])).2.2]))
theorem yM {base e b n c:Nat}{ad:Option Addr}{xs:List Value}(h:w.ownsRow base e b (.slice ad n c) n xs)(i:0<n):∃g,ad=some ⟨g,0,none⟩/\base<=g:=by
 rcases h.2 with⟨_,a⟩|⟨g,j,f,d,a,_⟩
 ·omega
 ·cases d;exact⟨g,rfl,a⟩
theorem wG (fs gs:List BL)(x:T)(base top p:Nat)(w:World)(N M:Value)(s:GS)(q:List RgS)(F:List Nat)(U:Option Addr)(P:Nat)(S:Option Addr)(O:Nat)(a3:Option Addr)(c3:Nat)(hE:Env base top p w N M fs gs F)(hC:CW base p w N M s q F)(hP:bK w top x U P S O a3 c3)(hd:q.length<=bq)(hN:x.FP.length+x.FQ.length<=ao):
 Calls Tryz.prog 18 #[.pointer (some ⟨p,0,none⟩),.agg (af x.kind x.name x.FP.length x.FQ.length x.FN.length x.FY x.FR U P S O a3 c3)] w fun e w'=>e=nrm/\zZ base p w N M F x.FP x.FQ x.FR s q w':=by
 have EX:=xal w x U P S O a3 c3;obtain⟨Q,lv,wv,xs,F1,hV⟩:=hC;have V:=hY hV;have EN:=hY hE;have NB:=hY (aq w (.cells (af x.kind x.name x.FP.length x.FQ.length x.FN.length x.FY x.FR U P S O a3 c3) 26) _ rfl);obtain⟨q1,q2⟩:=blk NB.o;obtain⟨v1,v2⟩:=blk (EX.o.keep hV.blk);have PN:=hY hP.FP;have PT:=hY hP.FQ;have bk:x.FP.length<=1048576:=hP.FP.small;have bj:x.FQ.length<=1048576:=hP.FQ.small;have HN:=hY hN;have HD:Hid (q.length<=1000000000):=hY hd;have SZ:Hid (p<w.heap.size/\base<=p):=hY ⟨hE.pw,hE.lo⟩;clear hP hE hV hN hd;generalize x.kind=k at*;generalize x.name=nm at*;generalize x.FP=m at*;generalize x.FQ=X at*;generalize x.FN.length=n3 at*;generalize x.FY=pr at*;generalize x.FR=pl at*;obtain⟨C,E⟩:∃C:Int,C=(q.length:Int):=⟨_,rfl⟩;have DP:=hY E;have bb:=hY (ab NB.o);have HC:=V.o.chain;have HW:=hY (fun k K=>(V.o.inF k (by rw[V.o.foot];simp only[iF];exact .inr K)).2.1);obtain⟨cx,z⟩:∃cx,q=cx:=⟨_,rfl⟩;cases cx
 case' nil=>
  rw[z] at HC;obtain⟨A,-⟩:Q=.pointer none/\F1=[]:=HC;have H:C=0:=by rw[E,z];rfl
  have HH:=hY (And.intro A H);rw[A] at v1;clear E z A H;go_enter Tryz.func18,Tryz.ntmps18;go_upto_region 1 with fail;generalize w.alloc _=n at*
  go_region
  have E3:Hid (Ext n (n.alloc (.cells #[.pointer none,.i 0,.slice none 0 0,.i (m.length:Int),.slice none 0 0] 70)).drew):=((Ext.refl n).alloc _).drew;have RB:Hid ((n.alloc (.cells #[.pointer none,.i 0,.slice none 0 0,.i (m.length:Int),.slice none 0 0] 70)).drew.heap[n.heap.size]?=some (.cells #[Q,.i C,.slice none 0 0,.i (m.length:Int),.slice none 0 0] 70)):=hY (by rw[HH.o.1,HH.o.2];exact aq n _ _ rfl);generalize a7:(n.alloc _).drew=L at*;clear a7;obtain⟨t1,t2⟩:=blk (E3.o.keep (EX.o.keep V.o.blk));rw[HH.o.1] at t1;go_upto_region 4 with fail;clear t1 t2 v1 v2
 case' cons hd c=>
  rw[z] at HC;obtain⟨r,rg,bh⟩:=hd;obtain⟨A,o,bg,bi,ys,F2,a9,hr,_⟩:Q=.pointer (some ⟨r,0,none⟩)/\_:=HC;have H:C=(c.length:Int)+1:=by rw[E,z];simp
  have bd:(c.length:Int)<=999999999:=by have:=HD.o;rw[z] at this;simp only[gi] at this;omega
  have bl:=ab hr;obtain⟨r1,r2⟩:=blk (EX.o.keep hr);have RK:=hY (EX.o.keep hr);have bc:0<=(c.length:Int):=by omega
  generalize(c.length:Int)=cl at*;have HH:=hY (And.intro A H);rw[A] at v1;clear a9 hr E z A H;go_enter Tryz.func18,Tryz.ntmps18;go_upto_region 1 with fail;generalize w.alloc _=n at*
  go_region
  have E2:Hid (Ext n (n.alloc (.cells #[.pointer (some ⟨r,0,none⟩),.i 0,.slice none 0 0,.i (m.length:Int),.slice none 0 0] 70)).drew):=((Ext.refl n).alloc _).drew;have R2:Hid ((n.alloc (.cells #[.pointer (some ⟨r,0,none⟩),.i 0,.slice none 0 0,.i (m.length:Int),.slice none 0 0] 70)).drew.heap[n.heap.size]?=some (.cells #[.pointer (some ⟨r,0,none⟩),.i 0,.slice none 0 0,.i (m.length:Int),.slice none 0 0] 70)):=hY (aq n _ _ rfl);generalize a8:(n.alloc _).drew=W2 at*;clear a8;obtain⟨t1,t2⟩:=blk (E2.o.keep (EX.o.keep V.o.blk));rw[HH.o.1] at t1;obtain⟨t3,t4⟩:=blk (E2.o.keep RK.o);obtain⟨t5,t6⟩:=blk R2.o;go_upto_region 4 with fail;have E3:=hY (E2.o.setCell (p:=⟨n.heap.size,1,none⟩) (gE _) (.i (cl+1)));have RB:Hid ((W2.setCell ⟨n.heap.size,1,none⟩ (.i (cl+1))).heap[n.heap.size]?=some (.cells #[Q,.i C,.slice none 0 0,.i (m.length:Int),.slice none 0 0] 70)):=hY (by rw[HH.o.1,HH.o.2,be R2.o];simp);generalize W2.setCell _ _=L at*;clear t1 t2 t3 t4 t5 t6 r1 r2 v1 v2 R2 E2
 all_goals
  have P3:=hY (E3.o.keep (EX.o.keep V.o.blk));have B:Hid (Ext w L):=hY (EX.o.trans E3.o);have RS:Hid (w.heap.size<n.heap.size/\n.heap.size<L.heap.size):=hY ⟨bb.o,ab RB.o⟩;generalize n.heap.size=R at*;have QN:=hY (aq L (.cells #[.slice U m.length P,.slice S X.length O] 23) _ rfl);have EQ:Hid (Ext L (L.alloc (.cells #[.slice U m.length P,.slice S X.length O] 23))):=(Ext.refl L).alloc _;have CC:=hY (zG (L.alloc (.cells #[.slice U m.length P,.slice S X.length O] 23)) L.heap.size top U P m S O X QN.o (PN.o.keep (am (B.o.trans EQ.o) EN.o.tw)) (PT.o.keep (am (B.o.trans EQ.o) EN.o.tw)) (aN EN.o.tw (B.o.trans EQ.o).size));obtain⟨d,l⟩:∃d,d=m++X:=⟨_,rfl⟩;have ay:=hY l;have AL:Hid (d.length<=ao/\d.length<=1048576):=hY (by have:=HN.o;rw[l,bY];exact⟨this,this⟩);have AE:Hid (∀y∈d,y.length<=ao):=hY (fun y hy=>by rw[l] at hy;rcases iF.1 hy with h|h;exact PN.o.each y h;exact PT.o.each y h);rw[←l] at CC;clear l;have B3:=hY (E3.o.keep NB.o);obtain⟨x1,x2⟩:=blk B3.o;clear q1 q2;go_upto_region 5 with(first|(go_at_call 56;refine CC.o.mono ?_;rintro e D ⟨ad,cc,rfl,t,ar⟩;have aa:=hY t;have E4:=hY (EQ.o.trans ar);clear t ar));have P4:=hY (E4.o.keep P3.o);have R4:=hY (E4.o.keep RB.o);have B4:=hY (E4.o.keep B3.o)
  have f:Hid (w.heap.size<=D.heap.size/\R<D.heap.size/\base<=D.heap.size/\p<D.heap.size/\p≠R/\w.heap.size<=R/\w.heap.size<D.heap.size):=hY (by
   have h1:=RS.o;have h2:=SZ.o;have h3:=E4.o.size;have h4:=B.o.size
   omega)
  have ba:Hid (EnAt base p R F D N M Q lv C (m.length:Int) pl d (rgs q) s 0 0 D s (.slice none 0 0) wv):=hY ⟨Mod.refl _ _,P4.o,R4.o,⟨rfl,.inl ⟨rfl,rfl⟩⟩,V.o.F9.keep (cX (B.o.trans E4.o)).1 (fun k K=>⟨K.1,bA K.2.1 f.o.1,K.2.2.1,K.2.2.2,by have:=f.o;have:=K.2.1;omega⟩),rfl,rfl,rfl,by simp⟩;have FW:Hid (∀k∈F,k<D.heap.size):=hY (fun k K=>by have:=(V.o.inF k K).2.1;have:=f.o;omega);have bn:=AL.o.2;clear x1 x2
  go_loopw [39] (fun i wr=>∃(j:Nat) (I:GS) (nv wv:Value),j<=d.length/\i=.i j/\EnAt base p R F D N M Q lv C (m.length:Int) pl d (rgs q) s j j wr I nv wv) (fun i _=>d.length-(intOf i).toNat)
  case atStart=>exact⟨0,s,_,_,by omega,rfl,ba.o⟩
  case round=>
   obtain⟨j,I,nv,W,hj,rfl,J⟩:=hrel;obtain⟨ax,cj,rfl,_⟩:=aJ J.row;have u:=hY J;have BJ:=hY (J.mod.keep B4.o (by simp only[aS,aT,or_false,not_or];have:=f.o;have:=SZ.o;have:=RS.o;omega));by_cases hlt:j<d.length
   ·obtain⟨x,hx⟩:∃x,d[j]?=some x:=⟨d[j],by simp⟩
    have HX:=hY hx;obtain⟨g,rfl,hg⟩:=yM aa.o (by omega)
    have c0:wr.cell? ⟨g,j,none⟩=some (.string (mkS x)):=by
     obtain⟨_,a6,bo,ai⟩:=aw aa.o;have a4:g≠p:=ie ai P4.o (by intro e;cases e);have a5:g≠R:=ie ai R4.o (by intro e;cases e);rw[World.cell?_of_block (a:=⟨g,j,none⟩) (J.mod.block g a6 (by simp[a4,a5])),aa.o.cellAt j (by omega),dY,oN,hx];rfl
    have DC:=hY (vC wr base _ (fun k h=>h) _ _ _ (EnAt.chain (n1:=m.length) (by rw[←DP.o];exact J) V.o (B.o.trans E4.o) f.o.2.2.2.2.2.1 hj AL.o.1 AE.o) x);rw[show(aF x (rgs ((R,(d.take j,m.length),[])::q))).isSome=((d.take j).contains x||(aF x (rgs q)).isSome) from oy x _ _] at DC;have FX:=hY (Ev p wr N M Q lv _ _ W I.F9 _ J.pb J.F9 pl 132);obtain⟨b1,b2⟩:=blk BJ.o;obtain⟨r5,r6⟩:=blk J.rb;have XS:Hid (x.length<=ao):=hY (AE.o x (eQ hx));have JS:Hid (j<=2000000000):=hY (by omega);have G:=hY hg;clear J hx hg;obtain⟨b,hb⟩:∃b,b=((d.take j).contains x||(aF x (rgs q)).isSome):=⟨_,rfl⟩;have HB:=hY hb;rw[←hb] at DC;clear hb;cases b
    case' false=>
     clear FX;go_upto_region 9 with(go_at_call 57;refine DC.o.mono ?_;rintro e w8 ⟨rfl,rfl⟩);have Z:=hY ({u.o with eq:=by rw[u.o.eq,wE pl (rgs q) d j x HX.o,←HB.o];rfl}:EnAt base p R F D N M Q lv C (m.length:Int) pl d (rgs q) s j (j+1) _ I (.slice ax j cj) W)
    case' true=>
     go_upto_region 9 with(first|(go_at_call 57;refine DC.o.mono ?_;rintro e w5 ⟨rfl,rfl⟩)|(go_at_call 58;refine FX.o.m fun w8 F8=>?_));obtain⟨bf,al⟩:=u.o.failed f.o.2.2.2.2.1 f.o.2.2.1 FW.o f.o.2.1 f.o.2.2.2.1 F8.o HX.o HB.o.symm;have Z:=hY al;clear al;obtain⟨z1,z2⟩:=blk Z.o.rb
    all_goals
     have E5:Hid (Ext w8 (w8.alloc (.cells #[.string (mkS x)] 9))):=(Ext.refl w8).alloc _;have ac:=hY (E5.o.keep Z.o.rb);obtain⟨s1,s2⟩:=blk ac.o;go_wp2_with (at_builtin;refine apd vI Tryz.underlying23 (ak Z.o.row E5.o) (aq w8 _ _ rfl) JS.o (aN Z.o.mod.size E5.o.size) ⟨rfl,by decide,by decide,rfl,rfl⟩ rfl rfl rfl rfl ?_;intro g6 q6 w6 OW GR AT;have a0:=hY (Z.o.app HX.o f.o.2.2.2.2.1 f.o.2.1 f.o.2.2.2.1 E5.o OW.o GR.o);obtain⟨u1,u2⟩:=blk ((ag GR.o).keep ac.o (dx ac.o (ak Z.o.row E5.o) (by decide))));go_roundw
     case rel=>exact⟨j+1,_,_,_,by omega,by go_num,a0.o⟩
     case measure=>simp[intOf];omega
   ·have Y:j=d.length:=by omega
    have GE:Hid (aA.go pl (rgs q) [] d s=I):=hY (by rw[u.o.eq,hH (by omega),aA.go]);have ER:Hid (Ext w D):=hY (B.o.trans E4.o)
    have az:Hid (∀v:Bool,v=(s.many||(decide ((15:Int)<(m.length:Int))||decide ((63:Int)<(j:Int))||decide ((15:Int)<C)))->zZ base p w N M F m X pl s q ((wr.setCell ⟨p,6,none⟩ (.bool v)).setCell ⟨p,2,none⟩ (.pointer (some ⟨R,0,none⟩)))):=hY (fun v hv=>by
     have ah:=f.o;have m1:=ae wr ⟨p,6,none⟩ (.bool v);have m2:=ae (wr.setCell ⟨p,6,none⟩ (.bool v)) ⟨p,2,none⟩ (.pointer (some ⟨R,0,none⟩));have mm:=m1.trans m2;have l:=ay.o;have bm:=DP.o;rw[show decide ((15:Int)<(m.length:Int))=decide (15<m.length) from decide_eq_decide.2 (by omega),show decide ((63:Int)<(j:Int))=decide (63<d.length) from decide_eq_decide.2 (by omega),show decide ((15:Int)<C)=decide (15<(rgs q).length) from decide_eq_decide.2 (by unfold rgs;rw[se];omega)] at hv;have aj:aA m X pl (rgs q) s=I.or (decide (15<m.length)||decide (63<d.length)||decide (15<(rgs q).length)):=by rw[xQ,←l,GE.o]
     refine⟨R,?_⟩;rw[aj,←l];refine zB V.o ((wy ER.o u.o.mod ah.2.2.2.2.2.1).trans mm) ah.2.2.2.2.2.1 (nv:=.slice ax j cj) (wv':=W) ?_ ?_ u.o.FU ?_ ?_
     ·rw[←DP.o];exact mm.keep u.o.rb (by simp;omega)
     ·rw[be (be u.o.pb _),show∀b,(I.or b).many=(I.many||b) from fun _=>rfl,u.o.many,←hv,show∀b,(I.or b).FO=I.FO from fun _=>rfl,u.o.FO]
      simp
     ·have t:=mm.row u.o.row (fun g hg hm=>by
       have:=(au u.o.row (k:=g) (by rw[hg];simp)).1;simp only[aS,aT,or_false] at hm
       omega)
      rw[Y,Fz] at t;rw[Y]
      exact mf t rfl AL.o.1 AE.o (fun g h1 h2 h3=>⟨by omega,h2,by
       obtain⟨cs,h3⟩:=h3
       exact ie h3 (mm.keep u.o.rb (by simp;omega)) (by intro e;cases e)⟩)
     ·refine u.o.F9.grow (fun g cs h1 h2=>⟨mm.keep h2 (by simpa using h1.2.2.1),h1.1,bA h1.2.1 mm.size,h1.2.2⟩))
    obtain⟨p1,p2⟩:=blk u.o.pb;obtain⟨r5,r6⟩:=blk u.o.rb;clear J GE Y;cases hm:s.many<;>by_cases h2:(15:Int)<(m.length:Int)<;>by_cases h3:(63:Int)<(j:Int)<;>by_cases h4:(15:Int)<C
    all_goals
     have FF:=hY (az.o _ rfl);simp only[hm,h2,h3,h4,decide_true,decide_false,Bool.true_or,Bool.false_or,Bool.or_true,FM] at FF p1;clear az hm;go_wp2_with fail;exact QzE rfl rfl ⟨rfl,FF.o⟩
end
theorem zl {w:World}{ok:Nat->Prop}{g:Nat}(l:List It)(b:List Value)(h:nz w ok l b)(a:Nat)(c:∀i,i<b.length->w.cell? ⟨g,a+i,none⟩=b[i]?):fU w ok g a l:=by
 induction l generalizing b a with
 |nil=>rw[fU];trivial
 |cons x r ih=>
  obtain⟨m,k,rfl,d,j,f⟩:=h;rw[fU];refine⟨⟨m,d,fun i e=>?_,j⟩,ih k f (a+8) (fun i e=>?_)⟩
  ·rw[c i (by rw[bY];omega),md (by omega)]
  ·have:=c (8+i) (by rw[bY];omega)
   rw[j1 (by omega),d] at this;rw[show 8+i-8=i by omega] at this;rw[←this]
   congr 2
   omega
structure DU (base p:Nat)(w':World)(F':List Nat)(R:Nat)(rgR:Rg)(mi:List It)(nv:Value):Prop where
 cells:∃o d it,w'.heap[R]?=some (.cells #[o,d,nv,.i (rgR.2:Int),it] 70)
 len:∃a c,nv=.slice a rgR.1.length c
 it:mi.length<=2000000000->∀a b:Nat,fV w' (okF base p w' F') (.blk a b mi) [.i 24,.i (a:Int),.i (b:Int),.i 0,.i 0,.i (-1),.i (-1),.pointer (some ⟨R,0,none⟩)]
theorem CWV.pop {base p:Nat}{w:World}{W V:Value}{s:GS}{R:Nat}{C:Rg}{mi:List It}{r:Nat}{M:Rg}{its:List It}{c:List RgS}{F:List Nat}{av t L:Value}{xs:List Value}{F1:List Nat}(h:CWV base p w W V s ((R,C,mi)::(r,M,its)::c) F av t L xs F1){w':World}(B:Mod [p] w w')
 (hp:w'.heap[p]?=some (.cells #[W,V,.pointer (some ⟨r,0,none⟩),t,.i (s.FO:Int),L,.bool s.many] 64)):
 ∃Y nv,CW base p w' W V s ((r,M,its)::c) Y/\CM p F Y w w'/\DU base p w' Y R C mi nv:=by
 obtain⟨ag,o,nv,Z,ys,v,u,S,O,n,D,H⟩:=h.head;have G:=H;obtain⟨ho,o2,ad,ae,ac,F3,ah,af,aa,N,P,ab⟩:=G;have hnd:=h.nodup;rw[h.foot,u] at hnd
 have j:∀k∈t.ownBlock.toList++v,k∈F:=fun k d=>by
  rw[h.foot,u];simp only[iF,aS] at d ⊢;rcases d with d|d
  ·exact .inl d
  ·exact .inr (.inr (.inr d))
 have m:∀k∈F,w'.heap[k]?=w.heap[k]?:=fun k d=>B.block k (h.inF k d).2.1 (by simp[(h.inF k d).2.2]);have J:jp (okF base p w F) w w':=fun k d=>B.block k d.2.1 (by simp[d.2.2.1]);have K:∀k,okF base p w F k->okF base p w' (t.ownBlock.toList++v) k:=fun k d=>⟨d.1,bA d.2.1 B.size,d.2.2.1,fun h=>d.2.2.2 (j k h)⟩;have q:R∈F:=by rw[h.foot,u];simp
 have A:∀k,k∈F->¬k∈t.ownBlock.toList++v->okF base p w' (t.ownBlock.toList++v) k:=fun k d hn=>⟨(h.inF k d).1,bA (h.inF k d).2.1 B.size,(h.inF k d).2.2,hn⟩;have f:=nr.1 hnd;have y:=D7.1 f.2.1;have x:=nr.1 y.2
 have I:¬R∈t.ownBlock.toList++v:=fun l=>by
  rcases iF.1 l with l|l
  ·exact f.2.2 R l R (by simp) rfl
  ·exact y.1 (by simp[l])
 have Q:∀g,Z.ownBlock=some g->¬g∈t.ownBlock.toList++v:=fun g hg l=>by
  rcases iF.1 l with l|l
  ·exact f.2.2 g l g (by simp[hg]) rfl
  ·exact x.2.2 g (by simp[hg]) g l rfl
 refine⟨t.ownBlock.toList++v,nv,⟨.pointer (some ⟨r,0,none⟩),t,L,xs,v,h.lo,hp,rfl,?_,fun k d=>?_,?_,h.litsC.keep J K,?_,h.F9.keep J K⟩,⟨B.mono (by simp),fun k d=>.inl (j k d)⟩,⟨⟨o,_,Z,by rw[m R q];exact S⟩,?_,?_⟩⟩
 ·rw[nr]
  exact⟨f.1,x.2.1,fun a ha b hb=>f.2.2 a ha b (by simp[hb])⟩
 ·have:=h.inF k (j k d)
  exact⟨this.1,bA this.2.1 B.size,this.2.2⟩
 ·exact j4 h.FU (fun k d=>m k (by rw[h.foot,d];simp))
 ·exact(show dX w base (okF base p w F) ((r,M,its)::c) (.pointer (some ⟨r,0,none⟩)) v from by rw[←ho];exact H).keep J K (fun k d=>m k (j k (by simp[d])))
 ·obtain⟨a,X,e,_⟩:=O
  exact⟨a,X,e⟩
 ·intro z a b
  rw[fV];rcases n.2 with⟨U,h3⟩|⟨g,X,ai,U,h3,h4,h5,h6,h7,h8⟩
  ·subst U
   have:mi=[]:=ls h3;subst this;exact⟨R,o,_,nv,_,none,0,rfl,A R q I,by rw[m R q];exact S,gE _,⟨oS _,z⟩,fun l=>absurd rfl l⟩
  ·subst U
   have E:g∈F:=by rw[h.foot,u];simp[Value.ownBlock]
   refine⟨R,o,_,nv,_,some ⟨g,0,none⟩,X,rfl,A R q I,by rw[m R q];exact S,h5,⟨h6,z⟩,fun _=>⟨g,rfl,A g E (Q g rfl),?_⟩⟩;refine zl mi ys (D.keep J K) 0 (fun i hi=>?_);rw[nl,World.cell?_of_block (a:=⟨g,i,none⟩) (m g E)];exact n.cellAt i (by have:=n.1;omega)
end Go.Proofs.Eff
