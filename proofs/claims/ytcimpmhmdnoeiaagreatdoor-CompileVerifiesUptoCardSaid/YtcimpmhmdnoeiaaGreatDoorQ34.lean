import Derived.Test.YtcimpmhmdnoeiaaGreatDoorQ32
set_option maxRecDepth 100000
set_option maxHeartbeats 8000000
set_option linter.all false
namespace Go.Proofs.Eff
open Go.RowKit
section
variable {base c f d k g:Nat} {w w':World} {s:VS} {R:List RE}
def dP (base a:Nat)(w w':World):Prop:=(∃S:List Nat,(∀x∈S,x=a\/base<=x)/\Mod S w w')/\∀(b:Nat) (c:Array Value) (T:TypeId),w.heap[b]?=some (.cells c T)->b≠a->T≠3->T≠137->w'.heap[b]?=some (.cells c T)
theorem dP.FZ {a:Nat}(h:Ext w w'):dP base a w w':=⟨⟨[],by simp,h.mod _⟩,fun _ _ _ b _ _ _=>h.keep b⟩
theorem dP.of_mod {S:List Nat}(f:Mod S w w')(d:∀x∈S,x=c\/(base<=x/\∃i T h,w.heap[x]?=some (.cells i T h)/\(T=3\/T=137))):dP base c w w':=by
 refine⟨⟨S,fun x a=>(d x a).imp id (·.1),f⟩,fun b i T g j m l=>f.keep g (fun a=>?_)⟩;rcases d b a with e|⟨_,n,o,h,e,k⟩
 ·exact j e
 ·rw[g] at e
  injection e with e;injection e with _ e _;subst e;rcases k with e|e
  ·exact m e
  ·exact l e
theorem dP.trans {a b c:World}(h:dP base f a b)(k:dP base f b c):dP base f a c:=by
 obtain⟨⟨S,s,r⟩,q⟩:=h;obtain⟨⟨T,o,n⟩,m⟩:=k;refine⟨⟨S++T,fun x d=>?_,(r.mono (fun x d=>by simp[d])).trans (n.mono (fun x d=>by simp[d]))⟩,fun b l T p g j i=>m b l T (q b l T p g j i) g j i⟩;rcases iF.1 d with e|e
 ·exact s x e
 ·exact o x e
theorem dP.ext {a b c:World}(h:dP base d a b)(k:Ext b c):dP base d a c:=h.trans (.FZ k)
theorem dP.size {a:Nat}(h:dP base a w w'):w.heap.size<=w'.heap.size:=by obtain⟨⟨S,_,b⟩,_⟩:=h;exact b.size
theorem dP.typ (h:dP base c w w'){b:Nat}{a:Array Value}{T:TypeId}(d:w.heap[b]?=some (.cells a T))(g:b≠c)(f:T≠3)(e:T≠137):w'.heap[b]?=some (.cells a T):=h.2 b a T d g f e
theorem dP.mod {b:Nat}(h:dP w.heap.size b w w'):Mod [b] w w':=by
 obtain⟨⟨S,d,a⟩,_⟩:=h;exact⟨a.os,a.tape,a.output,a.size,fun k g f=>a.block k g (fun c=>by rcases d k c with e|e;exact f (by simp[e]);omega)⟩
theorem AQ {e s n:Nat}{v:Value}{xs:List Value}(h:w.ownsRow base e s v n xs)(d:e=3\/e=137)(c:k∈v.ownBlock.toList):base<=k/\∃b T a,w.heap[k]?=some (.cells b T a)/\(T=3\/T=137):=by
 obtain⟨g,b,a,f⟩:=au h c;exact⟨g,b,e,a,f,d⟩
structure VK where
 a:Int
 t:Int
 f:Int
 e:Int
 flt:Int
 lv:Value
 sl:Value
 sp:Value
 m:Value
 dv:Value
def cK (l:List Nat):List Int:=l.map (fun(k:Nat)=>(k:Int))
theorem eG (l:List Nat):(cK l).length=l.length:=by simp[cK]
theorem qP (l:List Nat)(k:Nat):cK (l++[k])=cK l++[(k:Int)]:=by simp[cK]
structure VM (base pv:Nat)(K:VK)(w:World)(s:VS)(ov bv rv:Value)(R:List RE):Prop where
 blk:w.heap[pv]?=some (.cells (cT K.a K.t K.f K.lv K.sl K.sp K.e K.m rv ov bv K.dv K.flt) 130)
 rr:RR base w rv R
 sk:R.map RE.sk=s.sk
 ir:IR base w (ov::bv::R.map RE.sv) (cK s.of::s.bd::s.st.map cK)
 most:∀r∈R,r.most=0
theorem VM.ext {K:VK}{d e b:Value}(h:VM base c K w s d e b R)(a:Ext w w'):VM base c K w' s d e b R:=
 ⟨a.keep h.blk,h.rr.ext a,h.sk,h.ir.ext a,h.most⟩
theorem VM.of {K:VK}{k u t:Value}(h:VM base f K w s k u t R){j:World}{q:Nat}(n:Mod k.ownBlock.toList w j)(l:j.ownsRow base 3 1 (.slice (some ⟨g,0,none⟩) (s.of.length+1) c) (s.of.length+1) ((cK s.of).map bz++[bz (q:Int)]))(r:k.ownBlock=some g\/w.heap.size<=g):
 VM base f K (j.setCell ⟨f,9,none⟩ (.slice (some ⟨g,0,none⟩) (s.of.length+1) c)) {s with of:=s.of++[q]} (.slice (some ⟨g,0,none⟩) (s.of.length+1) c) u t R/\dP base f w (j.setCell ⟨f,9,none⟩ (.slice (some ⟨g,0,none⟩) (s.of.length+1) c)):=by
 have o:=h.ir.own 0 k _ rfl rfl;have a:=n.keep h.blk (dx h.blk o (by decide));have d:=ae j ⟨f,9,none⟩ (.slice (some ⟨g,0,none⟩) (s.of.length+1) c);have p:=h.ir.grow (i:=0) (v:=k) (v':=.slice (some ⟨g,0,none⟩) (s.of.length+1) c) (xs:=cK s.of) (x:=(q:Int)) rfl rfl n (by rw[eG];exact l) (by rcases r with e|e;exact .inl e.symm;exact .inr ⟨g,rfl,e⟩);refine⟨⟨?_,(h.rr.keep n (kJ o (by decide))).keep d (by intro b m;simp only[aS,aT,or_false] at m;subst m;exact .inr (cZ a (by decide))),h.sk,?_,h.most⟩,?_⟩
 ·rw[be (i:=9) a]
  rfl
 ·rw[show cK (s.of++[q])=cK s.of++[(q:Int)] from qP _ _]
  exact p.keep d (by intro b m;simp only[aS,aT,or_false] at m;subst m;exact .inr (cZ a (by decide)))
 ·exact(dP.of_mod n (fun x y=>.inr (AQ o (by decide) y))).trans (.of_mod d (by simp))
theorem VM.bd {K:VK}{t m r:Value}(h:VM base f K w s t m r R){j:World}{x:Int}(n:Mod m.ownBlock.toList w j)(k:j.ownsRow base 3 1 (.slice (some ⟨g,0,none⟩) (s.bd.length+1) c) (s.bd.length+1) (s.bd.map bz++[bz x]))(q:m.ownBlock=some g\/w.heap.size<=g):
 VM base f K (j.setCell ⟨f,10,none⟩ (.slice (some ⟨g,0,none⟩) (s.bd.length+1) c)) {s with bd:=s.bd++[x]} t (.slice (some ⟨g,0,none⟩) (s.bd.length+1) c) r R/\dP base f w (j.setCell ⟨f,10,none⟩ (.slice (some ⟨g,0,none⟩) (s.bd.length+1) c)):=by
 have o:=h.ir.own 1 m _ rfl rfl;have a:=n.keep h.blk (dx h.blk o (by decide));have d:=ae j ⟨f,10,none⟩ (.slice (some ⟨g,0,none⟩) (s.bd.length+1) c);have p:=h.ir.grow (i:=1) (v:=m) (v':=.slice (some ⟨g,0,none⟩) (s.bd.length+1) c) (xs:=s.bd) (x:=x) rfl rfl n k (by rcases q with e|e;exact .inl e.symm;exact .inr ⟨g,rfl,e⟩);refine⟨⟨?_,(h.rr.keep n (kJ o (by decide))).keep d (by intro b l;simp only[aS,aT,or_false] at l;subst l;exact .inr (cZ a (by decide))),h.sk,?_,h.most⟩,?_⟩
 ·rw[be (i:=10) a]
  rfl
 ·exact p.keep d (by intro b l;simp only[aS,aT,or_false] at l;subst l;exact .inr (cZ a (by decide)))
 ·exact(dP.of_mod n (fun x u=>.inr (AQ o (by decide) u))).trans (.of_mod d (by simp))
theorem VM.stp {F:Nat}{K:VK}{n D:Value}{L:Nat}(h:VM base F K w s n D (.slice (some ⟨k,0,none⟩) R.length L) R){m:World}{i q:Nat}{r:RE}{l:List Nat}(o:R[q]?=some r)(M:s.st[q]?=some l)(G:Mod r.sv.ownBlock.toList w m)(t:m.ownsRow base 3 1 (.slice (some ⟨g,0,none⟩) (l.length+1) c) (l.length+1) ((cK l).map bz++[bz (i:Int)]))(I:r.sv.ownBlock=some g\/w.heap.size<=g):
 VM base F K (m.setCell ⟨k,q*6+4,none⟩ (.slice (some ⟨g,0,none⟩) (l.length+1) c)) {s with st:=s.st.set q (l++[i])} n D (.slice (some ⟨k,0,none⟩) R.length L) (R.set q {r with sv:=.slice (some ⟨g,0,none⟩) (l.length+1) c})/\dP base F w (m.setCell ⟨k,q*6+4,none⟩ (.slice (some ⟨g,0,none⟩) (l.length+1) c)):=by
 have B:(n::D::R.map RE.sv)[q+2]?=some r.sv:=by simp[o]
 have A:(cK s.of::s.bd::s.st.map cK)[q+2]?=some (cK l):=by simp[M]
 have H:=h.ir.own (q+2) r.sv _ B A;have p:=G.keep h.blk (dx h.blk H (by decide));have a:=h.rr.keep G (kJ H (by decide));have y:=h.ir.grow (i:=q+2) (v:=r.sv) (v':=.slice (some ⟨g,0,none⟩) (l.length+1) c) (xs:=cK l) (x:=(i:Int)) B A G (by rw[eG];exact t) (by rcases I with e|e;exact .inl e.symm;exact .inr ⟨g,rfl,e⟩);have u:=ae m ⟨k,q*6+4,none⟩ (.slice (some ⟨g,0,none⟩) (l.length+1) c);have z:=aw a.own;obtain⟨C,d⟩:=z.2.2;refine⟨⟨?_,?_,?_,?_,?_⟩,?_⟩
 ·exact jQ p (fun e=>cZ p (T:=130) (E:=137) (by decide) C (0,0) (by rw[show F=k from e];exact d)) _
 ·have:=a.setSv o (.slice (some ⟨g,0,none⟩) (l.length+1) c)
  exact this
 ·rw[←h.sk,List.map_set]
  apply List.ext_getElem?;intro j;rw[D5]
  split
  ·rename_i hj
   subst hj;simp only[oN,o,se];rw[if_pos (aC.1 o).1];rfl
  ·rfl
 ·have O:(n::D::R.map RE.sv).set (q+2) (.slice (some ⟨g,0,none⟩) (l.length+1) c)=n::D::(R.set q {r with sv:=.slice (some ⟨g,0,none⟩) (l.length+1) c}).map RE.sv:=by simp[List.map_set]
  have N:(cK s.of::s.bd::s.st.map cK).set (q+2) (cK l++[(i:Int)])=cK s.of::s.bd::(s.st.set q (l++[i])).map cK:=by simp[List.map_set,qP]
  rw[O,N] at y;exact y.keep u (by intro b J;simp only[aS,aT,or_false] at J;subst J;exact .inr (cZ d (by decide)))
 ·intro x f
  rcases List.mem_or_eq_of_mem_set f with e|e
  ·exact h.most x e
  ·rw[e];exact h.most r (eQ o)
 ·exact(dP.of_mod G (fun x f=>.inr (AQ H (by decide) f))).trans (.of_mod u (by intro x f;simp only[aS,aT,or_false] at f;subst f;exact .inr ⟨z.1,C,137,(0,0),d,.inr rfl⟩))
theorem VM.reg {K:VK}{v y u:Value}(h:VM base d K w s v y u R){a:World}{k:Sk}{gh:List It×Int×Nat}(p:Mod u.ownBlock.toList w a)(l:a.ownsRow base 137 6 (.slice (some ⟨g,0,none⟩) (R.length+1) c) (R.length+1) (R.flatMap reC++[.i k.outer,.i k.deep,.i k.FQ,.i k.fin,.slice none 0 0,.i 0])):
 VM base d K (a.setCell ⟨d,8,none⟩ (.slice (some ⟨g,0,none⟩) (R.length+1) c)) {s with sk:=s.sk++[k],st:=s.st++[[]],gh:=s.gh++[gh]} v y (.slice (some ⟨g,0,none⟩) (R.length+1) c) (R++[⟨k,.slice none 0 0,0⟩])/\dP base d w (a.setCell ⟨d,8,none⟩ (.slice (some ⟨g,0,none⟩) (R.length+1) c)):=by
 have o:=h.rr.own;have f:=p.keep h.blk (dx h.blk o (by decide));have j:=ae a ⟨d,8,none⟩ (.slice (some ⟨g,0,none⟩) (R.length+1) c);have z:∀b∈[d],b<base\/∀t r,a.heap[b]?≠some (.cells t 3 r):=by intro b m;simp only[aS,aT,or_false] at m;subst m;exact .inr (cZ f (by decide))
 have q:∀b∈[d],b<base\/∀t r,a.heap[b]?≠some (.cells t 137 r):=by intro b m;simp only[aS,aT,or_false] at m;subst m;exact .inr (cZ f (by decide))
 refine⟨⟨?_,?_,?_,?_,?_⟩,?_⟩
 ·rw[be (i:=8) f]
  rfl
 ·have A:RR base a (.slice (some ⟨g,0,none⟩) (R.length+1) c) (R++[⟨k,.slice none 0 0,0⟩]):=⟨by simpa [reC] using l⟩
  exact A.keep j q
 ·simp[h.sk]
 ·have:=((h.ir.keep p (kJ o (by decide))).keep j z).snoc
  simpa [cK] using this
 ·intro x n
  rcases iF.1 n with e|e
  ·exact h.most x e
  ·simp only[aS,aT,or_false] at e
   rw[e]
 ·exact(dP.of_mod p (fun x n=>.inr (AQ o (by decide) n))).trans (.of_mod j (by simp))
theorem VM.put {K:VK}{m l:Value}(h:VM base k K w s m (.slice (some ⟨d,0,none⟩) s.bd.length c) l R)(i:Nat)(x:Int):
 VM base k K (w.setCell ⟨d,i,none⟩ (.i x)) {s with bd:=s.bd.set i x} m (.slice (some ⟨d,0,none⟩) s.bd.length c) l R/\dP base k w (w.setCell ⟨d,i,none⟩ (.i x)):=by
 have n:=h.ir.own 1 _ _ rfl rfl;obtain⟨o,p,j,a⟩:=aw n;have f:=ae w ⟨d,i,none⟩ (.i x);refine⟨⟨?_,h.rr.keep f (by intro b g;simp only[aS,aT,or_false] at g;subst g;exact .inr (cZ a (by decide))),h.sk,?_,h.most⟩,?_⟩
 ·exact jQ h.blk (fun e=>cZ h.blk (T:=130) (E:=3) (by decide) j (0,0) (by rw[show k=d from e];exact a)) _
 ·exact h.ir.put (i:=1) rfl rfl i x
 ·exact .of_mod f (by intro b g;simp only[aS,aT,or_false] at g;subst g;exact .inr ⟨o,j,3,(0,0),a,.inl rfl⟩)
end
section
variable {d k cl:Nat} {FU:List Lit3} {p:Int} {x:aL} {K:VK}
theorem Stp.lens {b:Int->Prop}{s s':VS}(h:Stp b d FU s k p x s')(a:pV s k):pV s' (k+1):=by
 obtain⟨q,n,g,l,c,_,_,_,_,_,_,e⟩:=h.ex;rcases e with⟨_,rfl⟩|⟨_,_,_,_,_,_,_,_,_,_,_,f,rfl⟩
 ·exact⟨by simp[a.st],a.gh,by simp[a.of],by simp[a.bd]⟩
 ·exact⟨by simp[a.st],by simp[a.gh],by simp[a.of],by simp[a.bd]⟩
theorem Stp.skl {a:Int->Prop}{s s':VS}(h:Stp a d FU s k p x s')(b:s.sk.length<=k+1):s'.sk.length<=k+2:=by
 obtain⟨q,n,g,l,c,_,_,_,_,_,_,e⟩:=h.ex;rcases e with⟨_,rfl⟩|⟨_,_,_,_,_,_,_,_,_,_,_,f,rfl⟩
 ·simpa using Nat.le_succ_of_le b
 ·simpa using b
structure VC (b0 pv:Nat)(w:World)(K:VK)(FL:List (Int×aL))(nf:Nat)(FU:List Lit3)(gl cl gp cp mb:Nat)(AL:aZ)(la:Option Addr)(lc:Nat):Prop where
 lv:K.lv=.slice la FU.length lc
 f:K.f=(nf:Int)
 sl:K.sl=.slice (some ⟨gl,0,none⟩) FL.length cl
 sp:K.sp=.slice (some ⟨gp,0,none⟩) FL.length cp
 m:K.m=.map (some mb)
 l:w.ownsRow b0 91 5 (.slice (some ⟨gl,0,none⟩) FL.length cl) FL.length (pA FL)
 p:w.ownsRow b0 3 1 (.slice (some ⟨gp,0,none⟩) FL.length cp) FL.length (nI FL)
 map:cQ w mb .i64 AL
 kinds:ot w la FU
 lax:∀a,la=some a->a.block≠pv
 low:pv<w.heap.size/\∃cs,w.heap[pv]?=some (.cells cs 130)
theorem VC.keep {D j:Nat}{w w':World}{FL:List (Int×aL)}{s:Nat}{A z C t:Nat}{E:aZ}{v:Option Addr}{u:Nat}(h:VC D j w K FL s FU A cl z C t E v u)(d:Mod [j] w w')(F:∃B,w'.heap[j]?=some (.cells B 130)):VC D j w' K FL s FU A cl z C t E v u:=by
 obtain⟨o,B,b⟩:=h.low;refine⟨h.lv,h.f,h.sl,h.sp,h.m,d.row h.l ?_,d.row h.p ?_,h.map.mod d ?_,?_,h.lax,bA o d.size,F⟩
 ·intro g r a
  obtain⟨_,_,c,q⟩:=aw h.l;simp only[aS,aT,or_false] at a;subst a;cases r;exact cZ b (by decide) c (0,0) q
 ·intro g r a
  obtain⟨_,_,c,q⟩:=aw h.p;simp only[aS,aT,or_false] at a;subst a;cases r;exact cZ b (by decide) c (0,0) q
 ·simp only[aS,aT,or_false]
  intro e;exact h.map.ne_cells b e.symm
 ·intro n
  obtain⟨g,k,y,x,I⟩:=h.kinds n;refine⟨g,k,y,bA x d.size,fun i l G=>?_⟩;have H:=d.block g x (by simpa using h.lax _ y);have:=I i l G;unfold World.cell? at this ⊢;rw[H];exact this
theorem VC.ext {l b:Nat}{w w':World}{FL:List (Int×aL)}{c:Nat}{j i:Nat}{m:aZ}{f:Option Addr}{e:Nat}(h:VC l b w K FL c FU j cl i k d m f e)(g:Ext w w'):VC l b w' K FL c FU j cl i k d m f e:=by
 obtain⟨_,n,a⟩:=h.low;exact h.keep (g.mod _) ⟨n,g.keep a⟩
theorem VC.at {v m:Nat}{w:World}{FL:List (Int×aL)}{n:Nat}{e g u o:Nat}{z:aZ}{r:Option Addr}{q:Nat}(h:VC v m w K FL n FU e cl g u o z r q)(f:FL[k]?=some (p,x)):
 w.cell? ⟨e,k*5,none⟩=some (.i x.op)/\w.cell? ⟨e,k*5+1,none⟩=some (.i x.a)/\w.cell? ⟨e,k*5+2,none⟩=some (.i x.b)/\w.cell? ⟨e,k*5+3,none⟩=some (.i x.c)/\w.cell? ⟨e,k*5+4,none⟩=some (.i x.to)/\w.cell? ⟨g,k,none⟩=some (.i p):=by
 have s:=(aC.1 f).1
 have d:∀j,j<5->w.cell? ⟨e,k*5+j,none⟩=(tN x)[j]?:=fun j t=>by
  rw[h.l.cellAt (k*5+j) (by omega)];show(FL.flatMap fun y=>tN y.2)[k*5+j]?=_
  rw[jF (fun y:Int×aL=>tN y.2) 5 (fun _=>rfl) FL k j t,f];rfl
 refine⟨d 0 (by decide),d 1 (by decide),d 2 (by decide),d 3 (by decide),d 4 (by decide),?_⟩;rw[aX h.p k s];simp[nI,f,bz]
end
theorem Bk (b0 base J:Nat)(w:World)(a t f e v:Int)(lv sl sp m dv ov bv rv:Value)(R:List RE)(FL:List (Int×aL))(nf:Nat)(FU:List Lit3)(gl cl gp cp K:Nat)(AL:aZ)(la:Option Addr)(lc:Nat)(s:VS)
 (G:VM base J ⟨a,t,f,e,v,lv,sl,sp,m,dv⟩ w s ov bv rv R) (Z:VC b0 J w ⟨a,t,f,e,v,lv,sl,sp,m,dv⟩ FL nf FU gl cl gp cp K AL la lc) (al:kE (FL.map (·.1)) e FL.length FL.length AL) (hl:s.of.length=FL.length)
 (ae:∀y∈FL,cH y.2.op=true/\0<=y.1/\y.1<=32767) (hn:FL.length<=32767)
 (hJ:∀(i:Nat) (p:Int) (x:aL),FL[i]?=some (p,x)->18<=x.op->x.op<=20->∃(q:Nat) (x':aL) (j:Nat),FL[q]?=some (p+3+x.to,x')/\s.of[q]?=some j/\s.of[i]?=some j):
 Calls Tryz.prog 52 #[.pointer (some ⟨J,0,none⟩)] w fun en w'=>en=.returned (.tuple #[.i 0,.i 0])/\Ext w w':=by
 obtain⟨ag,hf,ad,ac,hm⟩:=And.intro Z.lv (And.intro Z.f (And.intro Z.sl (And.intro Z.sp Z.m)));dsimp only at ag hf ad ac hm;subst ag hf ad ac hm
 obtain⟨Q,O,rfl⟩:∃Q O,ov=.slice Q FL.length O:=by
  obtain⟨Q,O,B,_⟩:=G.ir.nth (i:=0) rfl;rw[eG,hl] at B;exact⟨Q,O,by simpa using B⟩
 obtain⟨N,q2⟩:=blk G.blk;dsimp only at N;have VV:=hY G;have CC:=hY Z;have OK:=hY ae;have AT:=hY al;have JJ:=hY hJ;have NN:=hY (And.intro hn hl);clear G Z ae al hJ hn hl;generalize af:FL.length=n at*;have HN:=hY af;clear af;go_enter Tryz.func52,Tryz.ntmps52;go_upto_region 2 with fail
 go_loopw [13] (fun i wr=>∃k:Nat,i=.i (k:Int)/\k<=n/\Ext w wr) (fun i _=>n-(intOf i).toNat)
 case atStart=>exact⟨0,rfl,oS _,Ext.refl _⟩
 case round=>
  clear N q2;obtain⟨k,rfl,hk,hE⟩:=hrel;have V0:=hY (VV.o.ext hE);have C0:=hY (CC.o.ext hE);have E0:=hY hE;clear hE;by_cases L:k<n
  ·have D:k<FL.length:=by rw[HN.o];exact L
   obtain⟨px,Y⟩:∃px,FL[k]?=some px:=⟨_,iD D⟩;obtain⟨p,u,xa,xb,xc,g⟩:=px;obtain⟨l0,l1,l2,l3,l4,pp⟩:=C0.o.at Y;dsimp only at l0 l1 l2 l3 l4;have PX:=hY Y;have d:=hY (And.intro L D);have ar:(k:Int)<(n:Int):=by omega
   have aw:(k:Int)<=32767:=by have:=NN.o.1;omega
   clear Y L D hk;have E5:Hid (Ext wr (wr.alloc (.cells #[.i u,.i xa,.i xb,.i xc,.i g] 91))):=hY ((Ext.refl _).alloc _);have B6:=hY (aq wr (.cells #[.i u,.i xa,.i xb,.i xc,.i g] 91) _ rfl);go_upto_region 4 with fail;generalize wr.heap.size=b6 at*;generalize wr.alloc _=X at*;have V5:=hY (V0.o.ext E5.o);have C5:=hY (C0.o.ext E5.o);have EE:=hY (E0.o.trans E5.o);clear l0 l1 l2 l3 l4 pp V0 C0;obtain⟨q3,q4⟩:=blk B6.o;by_cases hj:18<=u/\u<=20
   ·obtain⟨q,x',j,F,ai,ah⟩:=JJ.o k p ⟨u,xa,xb,xc,g⟩ PX.o hj.1 hj.2
    have am:im AL (p+3+g)=some (kU q):=AT.o.at_ q _ (by have:=(aC.1 F).1;rw[←HN.o];exact this) (by rw[oN,F];rfl);have ak:0<=p+3+g/\p+3+g<=32767:=(OK.o _ (eQ F)).2;have ax:(q:Int)<(n:Int):=by have h:=(aC.1 F).1;rw[HN.o] at h;omega
    have au:¬(q:Int)=(n:Int):=by omega
    have z:=OK.o _ (eQ PX.o)
    have ab:bf u=3:=by
     obtain⟨B,I⟩:=hj;have:u=18\/u=19\/u=20:=by omega
     rcases this with rfl|rfl|rfl<;>rfl
    have OF:=hY (And.intro ai ah)
    have M:Hid (∀V,Ext X V->(∀j,V.cell? ⟨J,j,none⟩=(cT a t (nf:Int) (.slice la FU.length lc) (.slice (some ⟨gl,0,none⟩) n cl) (.slice (some ⟨gp,0,none⟩) n cp) e (.map (some K)) rv (.slice Q n O) bv dv v)[j]?)/\V.cell? ⟨b6,4,none⟩=some (.i g)/\(Instr.lookup 127 (.map (some K)) (.i (p+3+g)) true).run Tryz.prog V=.ok (.tuple #[.i (q:Int),.bool true]) V):=hY (fun V G=>by
     obtain⟨z1,z2⟩:=blk (G.keep B6.o);refine⟨(blk (V5.o.ext G).blk).1,by rw[z1];rfl,?_⟩;have LK:=lj (P:=Tryz.prog) V Tryz.underlying127 Tryz.underlying3 (C5.o.ext G).map (.i 0) (fun _=>rfl) (p+3+g);rw[am] at LK
     exact LK)
    have BH:Hid (∀V,Ext X V->Calls Tryz.prog 117 #[.pointer (some ⟨J,0,none⟩),.i (k:Int)] V fun en w'=>en=.returned (.i (p+3))/\Ext V w'):=hY (fun V G=>by
     have C:=C5.o.ext G;obtain⟨z0,_,_,_,_,z5⟩:=C.at PX.o;have hl:=C.l;have hp:=C.p;rw[HN.o] at hl hp;have:=jk V J gl 0 gp 0 k n cl n cp a t nf e v u p _ _ _ _ _ _ (V5.o.ext G).blk (gM hl) (gM hp) (by rw[nl];exact z0) (by rw[nl];exact z5) d.o.1 d.o.1 z.1 z.2.1 (by have h:p<=32767:=z.2.2;omega);rw[ab] at this
     exact this)
    have A:IntKind.i64.wrap (p+3+g)=p+3+g:=IntWalk.i64_in _ (by omega);have ap:u=18\/u=19\/u=20:=by obtain⟨B,I⟩:=hj;omega
    have aa:=hY ak;clear F ai ah am ak z ab hj;generalize aj:p+3+g=E at*;have HE:=hY aj;clear aj;rcases ap with rfl|rfl|rfl
    ·go_upto_region 8 with fail
     go_cut [6,7] from 24 to 37 (fun s6 s7 wx=>s6=.i (q:Int)/\s7=.bool true/\Ext X wx)
     case first=>
      clear A;have W:IntKind.i64.wrap (p+3+g)=E:=by rw[HE.o];exact IntWalk.i64_in _ (by have:=aa.o;omega)
      go_region_held3 (fun V=>(∀j,V.cell? ⟨J,j,none⟩=(cT a t (nf:Int) (.slice la FU.length lc) (.slice (some ⟨gl,0,none⟩) n cl) (.slice (some ⟨gp,0,none⟩) n cp) e (.map (some K)) rv (.slice Q n O) bv dv v)[j]?)/\V.cell? ⟨b6,4,none⟩=some (.i g)/\(Instr.lookup 127 (.map (some K)) (.i E) true).run Tryz.prog V=.ok (.tuple #[.i (q:Int),.bool true]) V)
       (first|exact M.o _ (Ext.refl _).drew|exact M.o _ ((Ext.refl _).drew.trans c))
       (first|(go_at_call 117;refine(BH.o _ ((Ext.refl _).drew)).mono ?_;rintro en w8 ⟨rfl,c⟩))
      all_goals
       have E8:=hY ((Ext.refl X).drew.trans c);clear c;go_wp2_with fail;go_meet
       case rel=>exact⟨rfl,rfl,E8.o⟩
     case rest=>
      clear q3 q4 A M BH;obtain⟨rfl,rfl,b⟩:=hcut;have H:=hY (V5.o.ext b);have E9:=hY b;clear b;obtain⟨N,q2⟩:=blk H.o.blk;dsimp only at N;have U:(cK s.of)[q]?=some (j:Int):=by simp[cK,OF.o.1]
      have S:(cK s.of)[k]?=some (j:Int):=by simp[cK,OF.o.2]
      obtain⟨go,c1,B,_,_,_,o3,_⟩:=H.o.ir.cell (i:=0) rfl U;obtain⟨ao,c1',r,_,_,_,o4,_⟩:=H.o.ir.cell (i:=0) rfl S;simp only[iN,dO,Value.slice.injEq] at B r;obtain⟨rfl,-,rfl⟩:=B;obtain⟨I,-,rfl⟩:=r;simp only[dO,Addr.mk.injEq,and_true] at I;subst I;clear U S;go_upto_region 9 with fail;go_quiet (fail);go_wp2_with fail;go_roundw
      case rel=>exact⟨k+1,by push_cast;rfl,d.o.1,(EE.o.trans E9.o).trans ((Ext.refl _).drewN _)⟩
      case measure=>have:=d.o.1;simp[intOf];omega
    ·go_upto_region 8 with fail
     go_cut [6,7] from 24 to 37 (fun s6 s7 wx=>s6=.i (q:Int)/\s7=.bool true/\Ext X wx)
     case first=>
      clear A;have W:IntKind.i64.wrap (p+3+g)=E:=by rw[HE.o];exact IntWalk.i64_in _ (by have:=aa.o;omega)
      go_region_held3 (fun V=>(∀j,V.cell? ⟨J,j,none⟩=(cT a t (nf:Int) (.slice la FU.length lc) (.slice (some ⟨gl,0,none⟩) n cl) (.slice (some ⟨gp,0,none⟩) n cp) e (.map (some K)) rv (.slice Q n O) bv dv v)[j]?)/\V.cell? ⟨b6,4,none⟩=some (.i g)/\(Instr.lookup 127 (.map (some K)) (.i E) true).run Tryz.prog V=.ok (.tuple #[.i (q:Int),.bool true]) V)
       (first|exact M.o _ (Ext.refl _).drew|exact M.o _ ((Ext.refl _).drew.trans c))
       (first|(go_at_call 117;refine(BH.o _ ((Ext.refl _).drew)).mono ?_;rintro en w8 ⟨rfl,c⟩))
      all_goals
       have E8:=hY ((Ext.refl X).drew.trans c);clear c;go_wp2_with fail;go_meet
       case rel=>exact⟨rfl,rfl,E8.o⟩
     case rest=>
      clear q3 q4 A M BH;obtain⟨rfl,rfl,b⟩:=hcut;have H:=hY (V5.o.ext b);have E9:=hY b;clear b;obtain⟨N,q2⟩:=blk H.o.blk;dsimp only at N;have U:(cK s.of)[q]?=some (j:Int):=by simp[cK,OF.o.1]
      have S:(cK s.of)[k]?=some (j:Int):=by simp[cK,OF.o.2]
      obtain⟨go,c1,B,_,_,_,o3,_⟩:=H.o.ir.cell (i:=0) rfl U;obtain⟨ao,c1',r,_,_,_,o4,_⟩:=H.o.ir.cell (i:=0) rfl S;simp only[iN,dO,Value.slice.injEq] at B r;obtain⟨rfl,-,rfl⟩:=B;obtain⟨I,-,rfl⟩:=r;simp only[dO,Addr.mk.injEq,and_true] at I;subst I;clear U S;go_upto_region 9 with fail;go_quiet (fail);go_wp2_with fail;go_roundw
      case rel=>exact⟨k+1,by push_cast;rfl,d.o.1,(EE.o.trans E9.o).trans ((Ext.refl _).drewN _)⟩
      case measure=>have:=d.o.1;simp[intOf];omega
    ·go_upto_region 8 with fail
     go_cut [6,7] from 24 to 37 (fun s6 s7 wx=>s6=.i (q:Int)/\s7=.bool true/\Ext X wx)
     case first=>
      clear A;have W:IntKind.i64.wrap (p+3+g)=E:=by rw[HE.o];exact IntWalk.i64_in _ (by have:=aa.o;omega)
      go_region_held3 (fun V=>(∀j,V.cell? ⟨J,j,none⟩=(cT a t (nf:Int) (.slice la FU.length lc) (.slice (some ⟨gl,0,none⟩) n cl) (.slice (some ⟨gp,0,none⟩) n cp) e (.map (some K)) rv (.slice Q n O) bv dv v)[j]?)/\V.cell? ⟨b6,4,none⟩=some (.i g)/\(Instr.lookup 127 (.map (some K)) (.i E) true).run Tryz.prog V=.ok (.tuple #[.i (q:Int),.bool true]) V)
       (first|exact M.o _ (Ext.refl _).drew|exact M.o _ ((Ext.refl _).drew.trans c))
       (first|(go_at_call 117;refine(BH.o _ ((Ext.refl _).drew)).mono ?_;rintro en w8 ⟨rfl,c⟩))
      all_goals
       have E8:=hY ((Ext.refl X).drew.trans c);clear c;go_wp2_with fail;go_meet
       case rel=>exact⟨rfl,rfl,E8.o⟩
     case rest=>
      clear q3 q4 A M BH;obtain⟨rfl,rfl,b⟩:=hcut;have H:=hY (V5.o.ext b);have E9:=hY b;clear b;obtain⟨N,q2⟩:=blk H.o.blk;dsimp only at N;have U:(cK s.of)[q]?=some (j:Int):=by simp[cK,OF.o.1]
      have S:(cK s.of)[k]?=some (j:Int):=by simp[cK,OF.o.2]
      obtain⟨go,c1,B,_,_,_,o3,_⟩:=H.o.ir.cell (i:=0) rfl U;obtain⟨ao,c1',r,_,_,_,o4,_⟩:=H.o.ir.cell (i:=0) rfl S;simp only[iN,dO,Value.slice.injEq] at B r;obtain⟨rfl,-,rfl⟩:=B;obtain⟨I,-,rfl⟩:=r;simp only[dO,Addr.mk.injEq,and_true] at I;subst I;clear U S;go_upto_region 9 with fail;go_quiet (fail);go_wp2_with fail;go_roundw
      case rel=>exact⟨k+1,by push_cast;rfl,d.o.1,(EE.o.trans E9.o).trans ((Ext.refl _).drewN _)⟩
      case measure=>have:=d.o.1;simp[intOf];omega
   ·have a0:¬u=18:=fun h=>hj ⟨by omega,by omega⟩
    have az:¬u=19:=fun h=>hj ⟨by omega,by omega⟩;have ay:¬u=20:=fun h=>hj ⟨by omega,by omega⟩;clear hj;go_wp2_with fail;go_roundw
    case rel=>exact⟨k+1,by push_cast;rfl,d.o.1,EE.o⟩
    case measure=>have:=d.o.1;simp[intOf];omega
  ·have av:¬(k:Int)<(n:Int):=by omega
   clear L hk;go_wp2_with fail
   go_ret2
   exact⟨rfl,E0.o⟩
theorem ue {op:Int}(h:cH op=true):(opR op).2.2.2.2=cG op:=by
 rcases lF h with rfl|rfl|rfl|rfl|rfl|rfl|rfl|rfl|rfl|rfl|rfl|rfl|rfl|rfl|rfl|rfl|rfl|rfl|rfl|rfl|rfl|rfl|rfl|rfl|rfl<;>decide
theorem Dz (b0 base pv:Nat)(w:World)(a t f e G:Int)(lv sl sp m dv ov bv rv:Value)(R:List RE)(FL:List (Int×aL))(nf:Nat)(FU:List Lit3)(gl cl gp cp mb:Nat)(AL:aZ)(la:Option Addr)(lc:Nat)(s:VS)
 (B:VM base pv ⟨a,t,f,e,G,lv,sl,sp,m,dv⟩ w s ov bv rv R) (F:VC b0 pv w ⟨a,t,f,e,G,lv,sl,sp,m,dv⟩ FL nf FU gl cl gp cp mb AL la lc)
 (ad:∀y∈FL,cH y.2.op=true/\0<=y.1/\y.1<=32767) (hn:FL.length<=32767) (hB:s.sk.length<=32768) (aa:∀l∈s.st,l.length<=32767) (af:FL≠[])
 (E:∀(j:Nat),j<s.sk.length->∃(l:List Nat) (i:Nat) (p:Int) (x:aL),s.st[j]?=some l/\l.getLast?=some i/\FL[i]?=some (p,x)/\cG x.op=true):
 Calls Tryz.prog 53 #[.pointer (some ⟨pv,0,none⟩)] w fun en w'=>en=.returned (.tuple #[.i 0,.i 0])/\Ext w w':=by
 obtain⟨ah,hf,ac,ab,C⟩:=And.intro F.lv (And.intro F.f (And.intro F.sl (And.intro F.sp F.m)));dsimp only at ah hf ac ab C;subst ah hf ac ab C;obtain⟨ap,ao,rfl,-⟩:=aJ B.rr.own;have VV:=hY B;have CC:=hY F;have OK:=hY ad;have EN:=hY E;have NN:=hY (And.intro hn (And.intro hB aa));have RL:Hid (R.length=s.sk.length):=hY (by rw[←B.sk,se]);obtain⟨q1,q2⟩:=blk B.blk;dsimp only at q1
 have ag:¬(FL.length:Int)=0:=by
  intro h;exact af (List.length_eq_zero_iff.1 (by omega))
 clear B F ad E hn hB aa af;generalize ae:FL.length=n at*;have HN:=hY ae;clear ae;generalize d:R.length=I at*;have HR:=hY d;clear d;have ay:((n:Int)==0)=false:=by simpa using ag
 go_enter Tryz.func53,Tryz.ntmps53;go_upto_region 5 with fail
 go_loopw [4,21] (fun fs i wr=>∃k:Nat,fs=.i (-1)/\i=.i (k:Int)/\k<=I/\Ext w wr) (fun _ i _=>I-(intOf i).toNat)
 case atStart=>exact⟨0,rfl,rfl,oS _,Ext.refl _⟩
 case round=>
  clear q1 q2 ag;obtain⟨k,rfl,rfl,hk,E⟩:=hrel;have J:=hY (VV.o.ext E);have C0:=hY (CC.o.ext E);have E0:=hY E;clear E;by_cases hlt:k<I
  ·obtain⟨re,b⟩:∃re,R[k]?=some re:=⟨_,iD (by rw[HR.o];exact hlt)⟩
   obtain⟨l,i,p,x,u,z,q,aj⟩:=EN.o k (by rw[←RL.o];exact hlt)
   obtain⟨m,C⟩:∃m,l.length=m+1:=by
    cases l with
    |nil=>simp at z
    |cons y r=>exact⟨r.length,by simp⟩
   have hi:l[m]?=some i:=by
    rw[List.getLast?_eq_getElem?,C] at z;simpa using z
   obtain⟨am,K,L⟩:=re;obtain⟨N,P,M,O⟩:=am
   obtain⟨gR,rfl⟩:∃gR,ap=some ⟨gR,0,none⟩:=by
    obtain⟨g,c,h1,_⟩:=J.o.rr.slice (fun h=>by rw[h] at b;cases b);injection h1 with h1 _ _;exact⟨g,h1⟩
   have d:=J.o.rr;rw[←HR.o] at d;obtain⟨Z,Y,X,U,S,Q⟩:=d.at b;have au:=J.o.ir.own (k+2) K (cK l) (by simp[b]) (by simp[u]);obtain⟨gs,sc,D,ax,_,_,aw,av⟩:=J.o.ir.cell (i:=k+2) (j:=m) (xs:=cK l) (x:=(i:Int)) (by simp[u]) (by simp[cK,hi])
   have ar:K=.slice (some ⟨gs,0,none⟩) (m+1) sc:=by
    rw[eG,C] at D;simpa [b] using D
   subst ar;dsimp only at Z Y X U S Q;obtain⟨H,xa,xb,xc,xt⟩:=x;obtain⟨l0,_,_,_,_,_⟩:=C0.o.at q;dsimp only at l0;have v:=(OK.o _ (eQ q)).1
   have hb: -1000<=H/\H<=1000:=by
    simp only[cH,gT,decide_eq_true_eq] at v;omega
   have hnd:=ue v;have A:=mQ
   replace A:=fun W=>A W H hb.1 hb.2
   rw[v] at A;generalize opR H=rr at*;obtain⟨nm,kd,po,pu,en⟩:=rr;dsimp only at hnd;have ai:en=true:=by rw[hnd];exact aj
   subst ai
   replace A:Hid (∀W,Calls Tryz.prog 118 #[.i H] W fun e w'=>e=.returned (.tuple #[.agg #[.string (mkS nm),.i kd,.i po,.i pu,.bool true],.bool true])/\Ext W w'):=A
   have a1:(k:Int)<(I:Int):=by omega
   have a4:(i:Int)<(n:Int):=by have h:=(aC.1 q).1;rw[HN.o] at h;omega
   have a0:(m:Int)<=32767:=by have:=NN.o.2.2 l (eQ u);omega
   have az:(m:Int)<(m:Int)+1:=by omega
   have a3:(k:Int)<=32768:=by have h1:=NN.o.2.1;have h2:=RL.o;omega
   have al:=hY hlt
   have B3:Hid (∀V,Ext wr V->V.cell? ⟨gs,m,none⟩=some (.i (i:Int))/\V.cell? ⟨gl,i*5,none⟩=some (.i H)/\∀j,V.cell? ⟨pv,j,none⟩=(cT a t (nf:Int) (.slice la FU.length lc) (.slice (some ⟨gl,0,none⟩) n cl) (.slice (some ⟨gp,0,none⟩) n cp) e (.map (some mb)) (.slice (some ⟨gR,0,none⟩) I ao) ov bv dv G)[j]?):=hY (fun V B=>by
    refine⟨?_,?_,(blk (J.o.ext B).blk).1⟩
    ·obtain⟨g2,c2,z1,_,_,_,z3,_⟩:=(J.o.ext B).ir.cell (i:=k+2) (j:=m) (xs:=cK l) (x:=(i:Int)) (by simp[u]) (by simp[cK,hi])
     rw[eG,C] at z1;simp[b] at z1;rw[z1.1];exact z3
    ·exact((C0.o.ext B).at q).1)
   clear b u z q aj C hi d au D ax aw av v hb hnd hlt hk l0;have BX:=hY (aq wr (.cells #[.i N,.i P,.i M,.i O,.slice (some ⟨gs,0,none⟩) (m+1) sc,.i L] 137) _ rfl);have E5:Hid (Ext wr (wr.alloc (.cells #[.i N,.i P,.i M,.i O,.slice (some ⟨gs,0,none⟩) (m+1) sc,.i L] 137))):=hY ((Ext.refl _).alloc _);go_upto_region 7 with fail;generalize wr.heap.size=b6 at*;generalize wr.alloc _=W5 at*;obtain⟨z1,z2,z3⟩:=B3.o W5 E5.o;obtain⟨q3,q4⟩:=blk BX.o;clear Z Y X U S Q;go_upto_region 9 with(go_at_call 118;refine(A.o _).mono ?_;rintro en w4 ⟨rfl,ak⟩;have E4:=hY (ak.alloc (.cells #[.string (mkS nm),.i kd,.i po,.i pu,.bool true] 196));obtain⟨q5,q6⟩:=blk (aq w4 (.cells #[.string (mkS nm),.i kd,.i po,.i pu,.bool true] 196) _ rfl);clear ak);go_wp2_with fail;go_roundw
   case rel=>exact⟨k+1,rfl,by push_cast;rfl,al.o,(E0.o.trans E5.o).trans E4.o⟩
   case measure=>have:=al.o;simp[intOf];omega
  ·have a2:¬(k:Int)<(I:Int):=by omega
   clear hlt hk;go_wp2_with fail
   go_ret2
   exact⟨rfl,E0.o⟩
theorem Bu {op:Int}(h:cH op=true)(e:¬op=16)(d:¬op=17)(c:¬op=25)(a b:Int):(opR op).2.2.1=aU op a b/\(opR op).2.2.2.1=bI op:=by
 rcases lF h with rfl|rfl|rfl|rfl|rfl|rfl|rfl|rfl|rfl|rfl|rfl|rfl|rfl|rfl|rfl|rfl|rfl|rfl|rfl|rfl|rfl|rfl|rfl|rfl|rfl<;>first|(exfalso;omega)|(constructor<;>rfl)
theorem xV (w:World)(op a b c z:Int)(h:cH op=true)(L:0<=a/\a<=1000)(l:0<=b/\b<=1000):Calls Tryz.prog 121 #[.agg #[.i op,.i a,.i b,.i c,.i z]] w fun e w'=>e=.returned (.tuple #[.i (aU op a b),.i (bI op)])/\Ext w w':=by
 have d: -1000<=op/\op<=1000:=by
  simp only[cH,gT,decide_eq_true_eq] at h;omega
 have A:=fun W=>mQ W op d.1 d.2;rw[h] at A;have x:=Bu h;generalize opR op=r at*;obtain⟨j,k,g,f,m⟩:=r;dsimp only at x
 replace A:Hid (∀W,Calls Tryz.prog 118 #[.i op] W fun e w'=>e=.returned (.tuple #[.agg #[.string (mkS j),.i k,.i g,.i f,.bool m],.bool true])/\Ext W w'):=A
 have v:=hY x;have B:=hY (aq w (.cells #[.i op,.i a,.i b,.i c,.i z] 91) _ rfl);have n:Hid (Ext w (w.alloc (.cells #[.i op,.i a,.i b,.i c,.i z] 91))):=hY ((Ext.refl _).alloc _);have H:=hY h;clear h x d;obtain⟨D,C⟩:=blk B.o;go_enter Tryz.func121,Tryz.ntmps121;go_upto_region 1 with fail;generalize w.heap.size=N at*;generalize w.alloc _=P at*;go_upto_region 2 with(go_at_call 118;refine(A.o _).m fun q u=>?_;have p:=hY (u.o.alloc (.cells #[.string (mkS j),.i k,.i g,.i f,.bool m] 196));have E:=hY (u.o.alloc (.cells #[.string (mkS j),.i k,.i g,.i f,.bool m] 196));have F:=hY (aq q (.cells #[.string (mkS j),.i k,.i g,.i f,.bool m] 196) _ rfl));generalize q.heap.size=M at*;generalize q.alloc _=O at*;clear D C;obtain⟨K,J⟩:=blk (E.o.keep B.o);obtain⟨I,G⟩:=blk F.o;by_cases h16:op=16
 ·subst h16
  have s:b<=1000:=l.2;have t:0<=b:=l.1;go_wp2_with fail
  go_ret2
  exact⟨rfl,n.o.trans p.o⟩
 ·by_cases h17:op=17
  ·subst h17
   have s:b<=1000:=l.2;have t:0<=b:=l.1;go_wp2_with fail
   go_ret2
   exact⟨rfl,n.o.trans p.o⟩
  ·by_cases h25:op=25
   ·subst h25
    go_wp2_with fail
    go_ret2
    exact⟨rfl,n.o.trans p.o⟩
   ·have y:=hY (v.o h16 h17 h25 a b)
    go_upto_region 8 with fail
    go_region_law (fail)
    all_goals
     go_wp2_with fail
     go_ret2
     exact⟨by show Ending.returned (.tuple #[.i g,.i f])=_;rw[y.o.1,y.o.2],(n.o.trans p.o).trans ((Ext.refl _).drew)⟩
section
variable {w:World} {DV:List Int} {M a t f e c:Int} {Wb:List Bool} {n l m o k g j:Value}
structure WP where
 bd:Nat
 base:Nat
 bw:Nat
 pv:Nat
 gd:Nat
 gR:Nat
 gw:Nat
 b2:Nat
 b3:Nat
 b4:Nat
 b5:Nat
 mb:Nat
 DL:Nat
 cd:Nat
 NR:Nat
 cR:Nat
 j:Nat
 n:Nat
 cw:Nat
 R:List RE
 re:RE
 st:List Nat
 RK:aZ
structure WF (P:WP)(w0:World)(a t f e flt:Int)(lv sl sp m rv ov bv:Value):Prop where
 pvb:w0.heap[P.pv]?=some (.cells (cT a t f lv sl sp e m rv ov bv (.slice (some ⟨P.gd,0,none⟩) P.DL P.cd) flt) 130)
 k2:w0.heap[P.b2]?=some (.cells #[.pointer (some ⟨P.gR,P.j*6,none⟩)] 135)
 k3:w0.heap[P.b3]?=some (.cells #[.pointer (some ⟨P.pv,0,none⟩)] 126)
 k4:w0.heap[P.b4]?=some (.cells #[.slice (some ⟨P.gw,0,none⟩) P.n P.cw] 199)
 k5:w0.heap[P.b5]?=some (.cells #[.map (some P.mb)] 127)
 map:cQ w0 P.mb .i64 P.RK
 rk:∀(k i:Nat),P.st[k]?=some i->im P.RK (i:Int)=some (.i (k:Int))
 tgd:∃cs,w0.heap[P.gd]?=some (.cells cs 3)
 tgR:∃cs,w0.heap[P.gR]?=some (.cells cs 137)
 tgw:∃cs,w0.heap[P.gw]?=some (.cells cs 4)
 hj:P.R[P.j]?=some P.re
 hlj:P.j<P.NR/\P.NR<=32768/\P.DL<=32768/\P.n<=32768
structure WK (P:WP)(w0 w:World)(DV:List Int)(M:Int)(Wb:List Bool):Prop where
 mod:Mod [P.gd,P.gR,P.gw] w0 w
 dr:w.ownsRow P.bd 3 1 (.slice (some ⟨P.gd,0,none⟩) P.DL P.cd) P.DL (DV.map bz)
 rr:w.ownsRow P.base 137 6 (.slice (some ⟨P.gR,0,none⟩) P.NR P.cR) P.NR ((P.R.set P.j {P.re with most:=M}).flatMap reC)
 wr:w.ownsRow P.bw 4 1 (.slice (some ⟨P.gw,0,none⟩) P.n P.cw) P.n (Wb.map Value.bool)
theorem WK.len {P:WP}{c:World}(h:WK P c w DV M Wb):DV.length=P.DL/\Wb.length=P.n:=by
 have b:=h.dr.1;have a:=h.wr.1;simp at b a;exact⟨b,a⟩
theorem WK.ext {P:WP}{b w':World}(h:WK P b w DV M Wb)(a:Ext w w'):WK P b w' DV M Wb:=⟨h.mod.ext a,ak h.dr a,ak h.rr a,ak h.wr a⟩
theorem WF.blk {P:WP}{g:World}{i:Int}{q p x:Value}(F:WF P g a t f e i q n l m o p x)(r:Mod [P.gd,P.gR,P.gw] g w){b:Nat}{k:Array Value}{T:TypeId}(d:g.heap[b]?=some (.cells k T))(v:T≠3)(u:T≠137)(s:T≠4):w.heap[b]?=some (.cells k T):=by
 refine r.keep d (fun j=>?_);simp only[aS,aT,or_false] at j;rcases j with rfl|rfl|rfl
 ·obtain⟨c,h⟩:=F.tgd;exact cZ d v c (0,0) h
 ·obtain⟨c,h⟩:=F.tgR;exact cZ d u c (0,0) h
 ·obtain⟨c,h⟩:=F.tgw;exact cZ d s c (0,0) h
theorem WF.mapAt {P:WP}{c:World}{b:Int}{h i q:Value}(F:WF P c a t f e b k h g m i j q)(l:Mod [P.gd,P.gR,P.gw] c w):cQ w P.mb .i64 P.RK:=by
 refine F.map.mod l (fun d=>?_);simp only[aS,aT,or_false] at d;obtain⟨u,p⟩:=F.tgd;obtain⟨s,o⟩:=F.tgR;obtain⟨r,n⟩:=F.tgw;rcases d with e|e|e
 ·exact F.map.ne_cells p e.symm
 ·exact F.map.ne_cells o e.symm
 ·exact F.map.ne_cells n e.symm
theorem WF.apart {P:WP}{h:World}{d:Int}{i:Value}(F:WF P h a t f e d n j i m k l o):P.gd≠P.gR/\P.gd≠P.gw/\P.gR≠P.gw:=by
 obtain⟨r,b⟩:=F.tgd;obtain⟨q,c⟩:=F.tgR;obtain⟨p,g⟩:=F.tgw;refine⟨fun e=>?_,fun e=>?_,fun e=>?_⟩
 ·rw[e,c] at b;cases b
 ·rw[e,g] at b;cases b
 ·rw[e,g] at c;cases c
theorem mod_one {S:List Nat}{a:World}(h:Mod S a w)(p:Addr)(c:p.block∈S)(v:Value):Mod S a (w.setCell p v):=h.trans ((ae w p v).mono (fun x b=>by simp only[aS,aT,or_false] at b;rw[b];exact c))
theorem mK {base e s n c g:Nat}{xs:List Value}(h:w.ownsRow base e s (.slice (some ⟨g,0,none⟩) n c) n xs)(p:Addr)(f:g≠p.block)(v:Value):(w.setCell p v).ownsRow base e s (.slice (some ⟨g,0,none⟩) n c) n xs:=(ae w p v).row h (fun b d a=>by
 simp only[Value.ownBlock,dO] at d;subst d;simp only[aS,aT,or_false] at a
 exact f a)
theorem WK.setMost {P:WP}{b:World}{d:Value}(F:WF P b a t f e c n g d m k l o)(h:WK P b w DV M Wb)(M':Int):WK P b (w.setCell ⟨P.gR,P.j*6+5,none⟩ (.i M')) DV M' Wb:=by
 obtain⟨q,r,p⟩:=F.apart;refine⟨mod_one h.mod _ (by simp) _,mK h.dr _ q _,?_,mK h.wr _ (fun e=>p e.symm) _⟩;have:=(h.rr.stored (P.j*6+5) (.i M')).1;have hj:(P.R.set P.j {P.re with most:=M})[P.j]?=some {P.re with most:=M}:=by rw[pn (aC.1 F.hj).1]
 rw[tT reC 6 gq _ P.j 5 (by decide) {P.re with most:=M} {P.re with most:=M'} hj _ rfl,List.set_set] at this;exact this
theorem WK.setDep {P:WP}{b:World}(F:WF P b a t f e c n j g m k l o)(h:WK P b w DV M Wb)(i:Nat)(d:Int):WK P b (w.setCell ⟨P.gd,i,none⟩ (.i d)) (DV.set i d) M Wb:=by
 obtain⟨q,p,r⟩:=F.apart;refine⟨mod_one h.mod _ (by simp) _,?_,mK h.rr _ (fun e=>q e.symm) _,mK h.wr _ (fun e=>p e.symm) _⟩;have:=n7 h.dr i (.i d);simpa [List.map_set,bz] using this
theorem WK.setWait {P:WP}{c:World}{d:Int}{i:Value}(F:WF P c a t f e d n i g m j l o)(h:WK P c w DV M Wb)(k:Nat)(b:Bool):WK P c (w.setCell ⟨P.gw,k,none⟩ (.bool b)) DV M (Wb.set k b):=by
 obtain⟨r,q,p⟩:=F.apart;refine⟨mod_one h.mod _ (by simp) _,mK h.dr _ q _,mK h.rr _ p _,?_⟩;have:=n7 h.wr k (.bool b);simpa [List.map_set] using this
theorem WK.cells {P:WP}{d:World}{p r:Value}(F:WF P d a t f e c p l g m n o r)(h:WK P d w DV M Wb):w.cell? ⟨P.gR,P.j*6+4,none⟩=some P.re.sv/\w.cell? ⟨P.gR,P.j*6+5,none⟩=some (.i M)/\w.frozen? ⟨P.gR,P.j*6+5,none⟩=false:=by
 have hj:(P.R.set P.j {P.re with most:=M})[P.j]?=some {P.re with most:=M}:=by rw[pn (aC.1 F.hj).1]
 have b:∀k,k<6->w.cell? ⟨P.gR,P.j*6+k,none⟩=(reC {P.re with most:=M})[k]?:=fun k q=>by
  rw[h.rr.cellAt (P.j*6+k) (by have:=F.hlj.1;omega),jF reC 6 gq _ P.j k q,hj];rfl
 exact⟨b 4 (by decide),b 5 (by decide),h.rr.frozenAt _⟩
theorem oU (P:WP)(u w:World)(a t f e q:Int)(C y x m z B I:Value)(F:WF P u a t f e q C y x m z B I)(DV:List Int)(M:Int)(Wb:List Bool)(h:WK P u w DV M Wb)(k i:Nat)(E:P.st[k]?=some i)(d d0:Int)(G:DV[i]?=some d0)(c:d0<0)(D:k<P.n):
 Calls Tryz.prog 119 #[.i (i:Int),.i d,.pointer (some ⟨P.b2,0,none⟩),.pointer (some ⟨P.b3,0,none⟩),.pointer (some ⟨P.b4,0,none⟩),.pointer (some ⟨P.b5,0,none⟩)] w fun H w'=>H=.returned (.tuple #[])/\WK P u w' (DV.set i d) (max M d) (Wb.set k true):=by
 have b:=hY F;have HM:=hY h;have j:=hY (And.intro E (And.intro G (And.intro c D)));obtain⟨s,r⟩:=blk (F.blk h.mod F.k2 (by decide) (by decide) (by decide));obtain⟨U,S,R⟩:=h.cells F;clear E G c D F h;go_enter Tryz.func119,Tryz.ntmps119;go_upto_region 0 with fail
 go_region_law (fail)
 all_goals
  have l:=hY ((HM.o.setMost b.o (max M d)).ext (Ext.refl _).drew);clear s r U S R;generalize(w.setCell _ _).drew=W1 at*;obtain⟨s,r⟩:=blk (b.o.blk l.o.mod b.o.k3 (by decide) (by decide) (by decide));have A:=hY (tR W1 P.bd P.pv P.gd P.cd i a t f e q d d0 C y x m z B I DV (by rw[l.o.len.1];exact b.o.blk l.o.mod b.o.pvb (by decide) (by decide) (by decide)) (by rw[l.o.len.1];exact l.o.dr) j.o.2.1 j.o.2.2.1);go_upto_region 2 with(go_at_call 120;refine A.o.mono ?_;rintro H X ⟨rfl,rfl⟩);have g:=hY (l.o.setDep b.o i d);clear s r;generalize W1.setCell _ _=J at*;obtain⟨s,r⟩:=blk (b.o.blk g.o.mod b.o.k4 (by decide) (by decide) (by decide));obtain⟨Z,Y⟩:=blk (b.o.blk g.o.mod b.o.k5 (by decide) (by decide) (by decide));have W:Hid (∀w:World,(zeroValue 3).run Tryz.prog w=.ok (.i 0) w):=hY (fun _=>rfl);have V:=dw (P:=Tryz.prog) J Tryz.underlying127 Tryz.underlying3 (b.o.mapAt g.o.mod) (.i 0) W.o (i:Int);rw[b.o.rk k i j.o.1,At] at V;have Q:(k:Int)<(P.n:Int):=by have:=j.o.2.2.2;omega
  have p:k<Wb.length:=by rw[g.o.len.2];exact j.o.2.2.2
  have O:J.cell? ⟨P.gw,k,none⟩=some (.bool Wb[k]):=by
   rw[aX g.o.wr k j.o.2.2.2];simp[p]
  have N:=dj g.o.wr k;generalize Wb[k]=L at*;clear p;go_wp2_with fail;have K:=g.o.setWait b.o k true
  (first|refine QzE rfl rfl ?_|refine QzR rfl rfl ?_);exact ⟨rfl,K⟩
theorem ti (P:WP)(l w:World)(a t f e g:Int)(y q p m r x G:Value)(F:WF P l a t f e g y q p m r x G)(DV:List Int)(M:Int)(Wb:List Bool)(h:WK P l w DV M Wb)(k i:Nat)(B:P.st[k]?=some i)(d d0:Int)(C:DV[i]?=some d0)(b:¬d0<0)(D:d0=d)(z:k<P.n):
 Calls Tryz.prog 119 #[.i (i:Int),.i d,.pointer (some ⟨P.b2,0,none⟩),.pointer (some ⟨P.b3,0,none⟩),.pointer (some ⟨P.b4,0,none⟩),.pointer (some ⟨P.b5,0,none⟩)] w fun E w'=>E=.returned (.tuple #[])/\WK P l w' DV (max M d) Wb:=by
 have j:=hY F;have HM:=hY h;have H:=hY (And.intro B (And.intro C (And.intro b z)));have L:=hY D;obtain⟨u,s⟩:=blk (F.blk h.mod F.k2 (by decide) (by decide) (by decide));obtain⟨K,J,I⟩:=h.cells F;clear B C b z F h D;go_enter Tryz.func119,Tryz.ntmps119;go_upto_region 0 with fail
 go_region_law (fail)
 all_goals
  have c:=hY ((HM.o.setMost j.o (max M d)).ext (Ext.refl _).drew);clear u s K J I;generalize(w.setCell _ _).drew=W1 at*;obtain⟨u,s⟩:=blk (j.o.blk c.o.mod j.o.k3 (by decide) (by decide) (by decide));have A:=hY (rT W1 P.bd P.pv P.gd P.cd i a t f e g d d0 y q p m r x G DV (by rw[c.o.len.1];exact j.o.blk c.o.mod j.o.pvb (by decide) (by decide) (by decide)) (by rw[c.o.len.1];exact c.o.dr) H.o.2.1 H.o.2.2.1 L.o);go_wp2_with (go_at_call 120;refine A.o.mono ?_;rintro E N ⟨rfl,rfl⟩)
  (first|refine QzE rfl rfl ?_|refine QzR rfl rfl ?_);exact ⟨rfl,c.o⟩
end
open Classical in
theorem ow {P:Program}{a:Act}{w:World}{Q:Exit->Act->World->Prop}{c:Code}(b:Nat->Nat->Act->World->Prop)(n:∀m l a w,b m l a w->(findLabel c l).isSome=true)
 (j:∀m l a w,b m l a w->(jr ((findLabel c l).getD .skip)).wp P (jU (fun f i w'=>∃m',m'<m/\b m' f i w') Q) a w)
 (first:(∀l a w,(∃m,b m l a w)->(jr ((findLabel c l).getD .skip)).wp P (jU (fun f i w'=>∃m,b m f i w') Q) a w)->c.wp P (jU (fun f i w'=>∃m,b m f i w') Q) a w):(Code.scope c).wp P Q a w:=by
 refine gG (fun l a w=>∃m,b m l a w) (fun l a w=>leastOf (fun m=>b m l a w)) (fun l a w ⟨m,h⟩=>n m l a w h) ?_ first;intro l a w o _;refine wp_mono (j _ l a w (leastOf_spec o).1) ?_;intro e i w' g;cases e with
 |goto f=>
  obtain⟨m',k,d⟩:=g;exact⟨⟨m',d⟩,Nat.lt_of_le_of_lt ((leastOf_spec ⟨m',d⟩).2 m' d) k⟩
 |normal=>exact g
 |exit id=>exact g
 |ret=>exact g
 |panic ch=>exact g
 |outgrown=>exact g
def DY (f e d c b:Value)(a:Act):Prop:=a.defers=[]/\a.tmps.size=154/\a.tmps[2]?=some f/\a.tmps[3]?=some e/\a.tmps[4]?=some d/\a.tmps[5]?=some c/\a.tmps[8]?=some b
theorem DY.open {f e d c b:Value}{a:Act}(h:DY f e d c b a):∃u:Nat->Value,a={tmps:=(frL u [(2,f),(3,e),(4,d),(5,c),(8,b)] 0 154).toArray,defers:=[]}:=by
 obtain⟨i,g,n,m,l,k,j⟩:=h;exact jE i g (by simp[n,m,l,k,j])
def zX (d c b:Value)(a:Act):Prop:=a.defers=[]/\a.tmps.size=157/\a.tmps[3]?=some d/\a.tmps[7]?=some c/\a.tmps[11]?=some b
theorem zX.open {e d b:Value}{a:Act}(h:zX e d b a):∃u:Nat->Value,a={tmps:=(frL u [(3,e),(7,d),(11,b)] 0 157).toArray,defers:=[]}:=by
 obtain⟨g,f,j,i,c⟩:=h;exact jE g f (by simp[j,i,c])
theorem ro (b0 base pv gR C cR l cl n:Nat)(w W:World)(a t f e:Int)(lv sp m ov bv dv:Value)(FL:List (Int×aL))(bd:List Int)(V:List RE)(M:Int)(p3:Value)
 (h:Ext w W) (L:W.heap[pv]?=some (.cells (cT a t f lv (.slice (some ⟨l,0,none⟩) n cl) sp e m (.slice (some ⟨gR,0,none⟩) C cR) ov bv dv (-1)) 130)) (hl:W.ownsRow b0 91 5 (.slice (some ⟨l,0,none⟩) n cl) n (pA FL)) (hn:FL.length=n) (N:n<=32767)
 (A:W.ownsRow base 3 1 bv n (bd.map bz)) (J:W.ownsRow base 137 6 (.slice (some ⟨gR,0,none⟩) C cR) C (V.flatMap reC)) (hB:∀(i:Nat) (p:Int) (x:aL),FL[i]?=some (p,x)->x.op=24->∃(j:Nat) (r:RE),bd[i]?=some (j:Int)/\V[j]?=some r/\¬x.c<r.most) (h0:∃r0,V[0]?=some r0/\r0.most=M)
 (ac:Act) (Q:zX p3 (.slice (some ⟨l,0,none⟩) n cl) (.pointer (some ⟨pv,0,none⟩)) ac):
 Code.wp Tryz.prog (gx 8 (Tryz.f16.body.getD .skip)) (bodyPost Tryz.prog Tryz.f16 (fun en w'=>en=.returned (.tuple #[.i M,.i 0,.i 0])/\Ext w w')) ac W:=by
 obtain⟨u,rfl⟩:=Q.open;simp only[frL,gK,Nat.reduceAdd]
 conv=>arg 2;whnf
 obtain⟨ba,bc,rfl,P⟩:=aJ A;have HH:=hY (And.intro h (And.intro L (And.intro hl (And.intro hn (And.intro N (And.intro A (And.intro J (And.intro hB (And.intro h0 P)))))))));clear h L hl hn N A J hB h0 Q P;go_upto_region 26 with fail
 go_loopw [110] (fun i wr=>∃k:Nat,i=.i (k:Int)/\k<=n/\Ext W wr) (fun i _=>n-(intOf i).toNat)
 case atStart=>exact⟨0,rfl,oS _,Ext.refl _⟩
 case round=>
  obtain⟨k,rfl,hk,h⟩:=hrel;obtain⟨H,B,G,F,S,E,q,D,R,d⟩:=HH.o;obtain⟨q1,q2⟩:=blk (h.keep B);have E0:=hY h;by_cases hlt:k<n
  ·obtain⟨px,v⟩:∃px,FL[k]?=some px:=⟨_,iD (by rw[F];exact hlt)⟩
   obtain⟨p,I,xa,xb,Z,Y⟩:=px;have U:=ak G h
   have b:∀j,j<5->wr.cell? ⟨l,k*5+j,none⟩=(tN ⟨I,xa,xb,Z,Y⟩)[j]?:=fun j hj=>by
    rw[U.cellAt (k*5+j) (by omega)];show(FL.flatMap fun y=>tN y.2)[k*5+j]?=_
    rw[jF (fun y:Int×aL=>tN y.2) 5 (fun _=>rfl) FL k j hj,v];rfl
   have l0:wr.cell? ⟨l,k*5,none⟩=some (.i I):=b 0 (by decide);have l1:wr.cell? ⟨l,k*5+1,none⟩=some (.i xa):=b 1 (by decide);have l2:wr.cell? ⟨l,k*5+2,none⟩=some (.i xb):=b 2 (by decide);have l3:wr.cell? ⟨l,k*5+3,none⟩=some (.i Z):=b 3 (by decide);have l4:wr.cell? ⟨l,k*5+4,none⟩=some (.i Y):=b 4 (by decide);have ag:(k:Int)<(n:Int):=by omega
   have ai:(k:Int)<=32767:=by omega
   have g:=hY hlt;have PX:=hY v;clear b H B G U F S E q D R d h hlt hk v q1 q2;have E5:Hid (Ext wr (wr.alloc (.cells #[.i I,.i xa,.i xb,.i Z,.i Y] 91))):=hY ((Ext.refl _).alloc _);have B6:=hY (aq wr (.cells #[.i I,.i xa,.i xb,.i Z,.i Y] 91) _ rfl);go_upto_region 28 with fail;generalize wr.heap.size=b6 at*;generalize wr.alloc _=W5 at*;clear l0 l1 l2 l3 l4;have X:=hY (E0.o.trans E5.o);obtain⟨q3,q4⟩:=blk B6.o;obtain⟨H,B,G,F,S,E,q,D,R,d⟩:=HH.o;obtain⟨q1,q2⟩:=blk (X.o.keep B);by_cases h24:I=24
   ·obtain⟨j,r,O,z,ad⟩:=D k p _ PX.o h24
    subst h24;dsimp only at ad;obtain⟨gb,rfl,-⟩:=d (by have:=g.o;omega)
    have al:W5.cell? ⟨gb,k,none⟩=some (.i (j:Int)):=by
     rw[aX (ak E X.o) k g.o];simp[O,bz]
    have ab:j<C:=by
     have h1:=(aC.1 z).1;have h2:=q.1;rw[tU reC 6 gq] at h2;omega
    have aa:W5.cell? ⟨gR,j*6+5,none⟩=some (.i r.most):=by
     rw[(ak q X.o).cellAt (j*6+5) (by omega),jF reC 6 gq V j 5 (by decide),z];rfl
    have aj:(j:Int)<(C:Int):=by omega
    clear H B G F S E q D R d O z ab;go_quiet (fail);go_wp2_with fail;go_roundw
    case rel=>exact⟨k+1,by push_cast;rfl,g.o,X.o.trans ((Ext.refl _).drewN _)⟩
    case measure=>have:=g.o;simp[intOf];omega
   ·clear H B G F S E q D R d
    go_quiet (fail);go_wp2_with fail;go_roundw
    case rel=>exact⟨k+1,by push_cast;rfl,g.o,X.o.trans ((Ext.refl _).drewN _)⟩
    case measure=>have:=g.o;simp[intOf];omega
  ·have ah:¬(k:Int)<(n:Int):=by omega
   obtain⟨r0,s,K⟩:=R
   have ae:0<C:=by
    have h1:=(aC.1 s).1;have h2:=q.1;rw[tU reC 6 gq] at h2;omega
   have aa:wr.cell? ⟨gR,5,none⟩=some (.i M):=by
    have:=(ak q h).cellAt (0*6+5) (by omega);rw[jF reC 6 gq V 0 5 (by decide),s] at this;rw[←K];simpa [reC] using this
   have af:(0:Int)<(C:Int):=by omega
   have FF:=hY (H.trans h);clear H B G F S E q D d h hlt hk s K ae;go_wp2_with fail
   go_ret3
   exact⟨rfl,FF.o⟩
end Go.Proofs.Eff
