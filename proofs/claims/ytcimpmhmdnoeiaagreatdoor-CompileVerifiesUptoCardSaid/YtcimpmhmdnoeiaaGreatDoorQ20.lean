import Derived.Test.YtcimpmhmdnoeiaaGreatDoorQ11
import Derived.Test.YtcimpmhmdnoeiaaGreatDoorQ19
import Derived.Lib.AppendZerosOnto
set_option maxRecDepth 100000
set_option maxHeartbeats 4000000
set_option linter.all false
namespace Go.Proofs.Eff
open Go.RowKit
def pM (w:World)(v:Value):Nat:=match v with
 |.pointer (some a)=>(match w.cell? ⟨a.block,1,none⟩ with
  |some (.int _ n)=>n.toNat+1
  |_=>0)
 |_=>0
theorem fG {w:World}{base:Nat}{ok:Nat->Prop}{c:List RgS}{v:Value}{F:List Nat}(h:dX w base ok c v F):pM w v=c.length:=by
 cases c with
 |nil=>obtain⟨rfl,_⟩:=h;rfl
 |cons x c=>
  obtain⟨r,e,a⟩:=x;obtain⟨rfl,o,nv,f,d,j,g,b,_⟩:=h;have:w.cell? ⟨r,1,none⟩=some (.i (c.length:Int)):=by rw[(blk b).1];rfl
  simp[pM,this]
theorem oy (n:BL)(a:Rg)(c:List Rg):(aF n (a::c)).isSome=(a.1.contains n||(aF n c).isSome):=by
 rw[aF];cases h:cA n a.1 with
 |some i=>
  have:n∈a.1:=by
   apply Classical.byContradiction;intro d;rw[jD.2 d] at h;cases h
  have b:a.1.contains n=true:=by simpa using this
  rw[b];rfl
 |none=>
  have b:a.1.contains n=false:=by simpa using jD.1 h
  rw[b];cases aF n c<;>rfl
theorem vC (w:World)(base:Nat)(ok:Nat->Prop)(f:∀k,ok k->k<w.heap.size)(g:List RgS)(v:Value)(F:List Nat)(h:dX w base ok g v F)(n:BL):Calls Tryz.prog 57 #[v,.string (mkS n)] w fun e w'=>e=.returned (.bool (aF n (rgs g)).isSome)/\w'=w:=by
 have H:=hY h;have OK:=hY f;clear h f;go_enter Tryz.func57,Tryz.ntmps57;go_wp2_with fail
 go_loopw [0] (fun r wr=>wr=w/\∃(c:List RgS) (u:List Nat),dX w base ok c r u/\(aF n (rgs g)).isSome=(aF n (rgs c)).isSome) (fun r wr=>pM wr r)
 case atStart=>exact⟨rfl,g,F,H.o,rfl⟩
 case round=>
  obtain⟨rfl,c,u,i,p⟩:=hrel;have l:=hY p;clear p;cases c with
  |nil=>
   obtain⟨rfl,_⟩:=i;go_wp2_with fail;go_ret;exact⟨by rw[l.o];rfl,rfl⟩
  |cons x c=>
   have G:=hY (fG i);obtain⟨r,d,A⟩:=x;obtain⟨rfl,o,nv,N,J,E,B,s,q,_,_,j⟩:=i;have I:=hY (fG j);obtain⟨L,K⟩:=blk s;obtain⟨a,C,rfl,m⟩:=q.strs OK.o;have y:=hY (eW wr _ C a d.1 m n);have t:Hid ((aF n (rgs g)).isSome=(d.1.contains n||(aF n (rgs c)).isSome)):=hY (l.o.trans (oy n d (rgs c)));have D:=hY j;clear B s q j m l;generalize d.1.length=M at*;generalize d.1.contains n=b at*;cases b with
   |true=>
    go_wp2_with (first|(go_at_call 109;refine y.o.mono ?_;rintro e z ⟨rfl,rfl⟩));go_ret;exact⟨by rw[t.o];rfl,rfl⟩
   |false=>
    go_wp2_with (first|(go_at_call 109;refine y.o.mono ?_;rintro e z ⟨rfl,rfl⟩));go_roundw
    case rel=>exact⟨by first|rfl|trivial,c,E,D.o,by rw[t.o];rfl⟩
    case measure=>rw[G.o,I.o];simp
theorem js (w:World)(a b:Addr)(u v:Value)(h:a.block≠b.block):(w.setCell a u).setCell b v=(w.setCell b v).setCell a u:=by
 unfold World.setCell
 congr 1
 apply Array.ext_getElem?;intro k;simp only[Array.getElem?_modify];by_cases h1:a.block=k
 ·by_cases h2:b.block=k
  ·exact absurd (h1.trans h2.symm) h
  ·simp[h1,h2]
 ·by_cases h2:b.block=k<;>simp[h1,h2]
theorem fp.at {w:World}{ok:Nat->Prop}{l:List Lit3}{b:List Value}(h:fp w ok l b){j:Nat}{x:Lit3}(d:l[j]?=some x):∃a c,b[j*3]?=some (.i x.kind)/\b[j*3+1]?=some (.string (mkS x.text))/\b[j*3+2]?=some (.slice a x.list.length c):=by
 induction l generalizing b j with
 |nil=>simp at d
 |cons y r ih=>
  obtain⟨s,q,rfl,p,e,f⟩:=h;cases j with
  |zero=>
   simp only[iN,dO] at d;subst d;obtain⟨k,t,o⟩:=y;rw[dt] at e;obtain⟨a,c,rfl,_⟩:=e;exact⟨a,c,rfl,rfl,rfl⟩
  |succ j=>
   obtain⟨a,c,n,m,g⟩:=ih f (by simpa using d);refine⟨a,c,?_,?_,?_⟩
   ·rw[j1 (by omega)];rw[←n];congr 1;omega
   ·rw[j1 (by omega)];rw[←m];congr 1;omega
   ·rw[j1 (by omega)];rw[←g];congr 1;omega
theorem tI {k:Int}{t:BL}{l:List Lit3}{j:Nat}{x:Lit3}(a:l[j]?=some x):(ei k t (l.drop j)).map (· +j)=if x.kind=k/\x.text=t then some j else(ei k t (l.drop (j+1))).map (· +(j+1)):=by
 obtain⟨b,c⟩:=aC.1 a;rw[hI b,c,ei]
 split
 ·simp
 ·rw[Option.map_map]
  congr 1
  funext i
  show i+1+j=i+(j+1)
  omega
section
variable {base top p:Nat} {w w' b:World} {fs gs:List BL} {F:List Nat} {s:GS} {i:Value} {a:List RgS}
def ScV (w:World)(top:Nat)(v:Value)(l:List BL):Prop:=∃a c,v=.slice a l.length c/\bT w top a c l
structure Env (base top p:Nat)(w:World)(fv gv:Value)(fs gs:List BL)(F:List Nat):Prop where
 tb:top<=base
 low8:8<=base
 lo:base<=p
 pw:p<w.heap.size
 Fb:∀k∈F,base<=k/\k<w.heap.size/\k≠p
 vars:fJ w
 fld:ScV w top fv fs
 glb:ScV w top gv gs
theorem Env.tw {b a:Value}(h:Env base top p w b a fs gs F):top<=w.heap.size:=by
 have:=h.tb;have:=h.lo;have:=h.pw;omega
theorem ze {c:List Nat}(d:top<=base)(f:base<=p)(b:∀k∈F,base<=k)(e:top<=w.heap.size)(h:CM p F c w w'):∀k,k<top->w'.heap[k]?=w.heap[k]?:=fun k g=>h.mod.block k (by omega) (by
 simp only[aS,not_or]
 exact⟨by omega,fun a=>by have:=b k a;omega⟩)
theorem Env.low {c b:Value}{d:List Nat}(h:Env base top p w c b fs gs F)(m:CM p F d w w'):∀k,k<top->w'.heap[k]?=w.heap[k]?:=ze h.tb h.lo (fun k a=>(h.Fb k a).1) h.tw m
theorem Env.step {f d:Value}{g:List Nat}{n:List RgS}(h:Env base top p w f d fs gs F)(m:CM p F g w w')(c:CW base p w' f d s n g):Env base top p w' f d fs gs g:=by
 obtain⟨u,r,q,o,v,j⟩:=c;have i:=h.low m;refine⟨h.tb,h.low8,h.lo,ab j.blk,j.inF,?_,?_,?_⟩
 ·refine h.vars.keep m.mod.size (fun k t=>m.mod.block k ?_ ?_)
  ·have:=h.low8;have:=h.lo;have:=h.pw;omega
  ·simp only[aS,not_or]
   have:=h.low8;have:=h.lo;exact⟨by omega,fun l=>by have:=(h.Fb k l).1;omega⟩
 ·obtain⟨a,c,e,b⟩:=h.fld
  exact⟨a,c,e,b.keep i⟩
 ·obtain⟨a,c,e,b⟩:=h.glb
  exact⟨a,c,e,b.keep i⟩
theorem Env.ext {j:Value}(h:Env base top p w j i fs gs F)(b:Ext w w'):Env base top p w' j i fs gs F:=by
 have g:=h.low (CM.FZ b);refine⟨h.tb,h.low8,h.lo,bA h.pw b.size,fun k f=>⟨(h.Fb k f).1,bA (h.Fb k f).2.1 b.size,(h.Fb k f).2.2⟩,h.vars.ext b,?_,?_⟩
 ·obtain⟨a,c,e,d⟩:=h.fld
  exact⟨a,c,e,d.keep g⟩
 ·obtain⟨a,c,e,d⟩:=h.glb
  exact⟨a,c,e,d.keep g⟩
def bq:Nat:=1000000000
structure Bud (s:GS)(n d N:Nat):Prop where
 its:n+N<=bq
 lab:s.FO+N<=bq
 lit:s.FU.length+N<=bq
 dep:d+N<=bq
theorem Bud.mono {n d N M:Nat}(h:Bud s n d N)(a:M<=N):Bud s n d M:=⟨by have:=h.its;omega,by have:=h.lab;omega,by have:=h.lit;omega,by have:=h.dep;omega⟩
def T.nms:T->Nat
 |.mk _ _ ns ts l _ _=>ns.length+ts.length+nmsL l
where nmsL:List T->Nat
 |[]=>0
 |x::r=>T.nms x+nmsL r
theorem Dj {y:T}{l:List T}(h:y∈l):T.nms y<=T.nms.nmsL l:=by
 induction l with
 |nil=>cases h
 |cons x r ih=>
  rw[T.nms.nmsL];rcases aS.1 h with rfl|h
  ·omega
  ·have:=ih h;omega
theorem bW {x y:T}(h:y∈x.FN):T.nms y<=T.nms x:=by
 obtain⟨k,n,b,a,l,p,pl⟩:=x;have:=Dj (show y∈l from h);rw[T.nms];omega
def sA (fs gs:List BL)(N:FuncId)(x:T)(f:List Rg->GS->GS×List It)(d:Ending)(i:Nat):Prop:=
 ∀base top p w h g s r b a c F o l n k m j,Env base top p w h g fs gs F->CW base p w h g s ((r,b,a)::c) F->bK w top x o l n k m j->Bud s a.length c.length i->T.nms x<=ao->
 Calls Tryz.prog N #[.pointer (some ⟨p,0,none⟩),.agg (af x.kind x.name x.FP.length x.FQ.length x.FN.length x.FY x.FR o l n k m j)] w fun e q=>e=d/\aa base p w h g F (f (b::rgs c) s).1 ((r,b,a++(f (b::rgs c) s).2)::c) q
theorem aa.next {g:Value}{l j:GS}{d c:List RgS}{N:FuncId}{a:Array Value}{R:Ending->Prop}(h:aa base p w i g F l d b)(k:∀f,CW base p b i g l d f->CM p F f w b->Calls Tryz.prog N a b fun e w'=>R e/\aa base p b i g f j c w'):Calls Tryz.prog N a b fun e w'=>R e/\aa base p w i g F j c w':=by
 obtain⟨f,r,m⟩:=h;refine(k f r m).mono ?_;rintro e w' ⟨n,s,q,o⟩;exact⟨n,s,q,m.trans o⟩
theorem aa.box {j:Value}{c:GS}(h:aa base p w j i F c a b){k:Nat}{o:Obj}(e:w.heap[k]?=some o)(d:k≠p)(f:¬k∈F):b.heap[k]?=some o:=by
 obtain⟨l,_,g⟩:=h;exact g.keep e d f
theorem aa.refl {b a:Value}{c:List RgS}(h:CW base p w b a s c F):aa base p w b a F s c w:=⟨F,h,CM.refl _ _ _⟩
theorem aa.FZ {c:World}{f e:Value}{d:GS}(g:Ext w c)(h:aa base p c f e F d a b):aa base p w f e F d a b:=by
 obtain⟨k,j,i⟩:=h;exact⟨k,j,(CM.FZ g).trans i⟩
theorem aa.ext {c:World}{g f:Value}{d:GS}(h:aa base p w g f F d a c)(e:Ext c b):aa base p w g f F d a b:=by
 obtain⟨k,j,i⟩:=h;exact⟨k,j.ext e,i.trans (CM.FZ e)⟩
theorem aa.trans {e f:World}{d c:Value}{s1 g:GS}{b:List RgS}(h:aa base p w d c F s1 b e)(k:∀i,CW base p e d c s1 b i->aa base p e d c i g a f):aa base p w d c F g a f:=by
 obtain⟨q,n,m⟩:=h;obtain⟨o,l,j⟩:=k q n;exact⟨o,l,m.trans j⟩
theorem sA.after {N:FuncId}{x:T}{f:List Rg->GS->GS×List It}{a:Ending}{g:Nat}(h:sA fs gs N x f a g){k:World}{j:Value}{b:GS}{r:Nat}{d:Rg}{its:List It}{c:List RgS}(e:Env base top p w j i fs gs F)(v:aa base p w j i F b ((r,d,its)::c) k){s:Option Addr}{n:Nat}{q:Option Addr}{m:Nat}{o:Option Addr}{l:Nat}(A:bK w top x s n q m o l)(z:Bud b its.length c.length g)(y:T.nms x<=ao):
 Calls Tryz.prog N #[.pointer (some ⟨p,0,none⟩),.agg (af x.kind x.name x.FP.length x.FQ.length x.FN.length x.FY x.FR s n q m o l)] k fun e w'=>e=a/\aa base p w j i F (f (d::rgs c) b).1 ((r,d,its++(f (d::rgs c) b).2)::c) w':=
 v.next (R:=fun e=>e=a) fun B u t=>h base top p k j i b r d its c B s n q m o l (e.step t u) u (A.keep (e.low t)) z y
end
section
variable {w:World} {c:Nat}
theorem pY (z:Value)(k:Nat):Builtin.zeroCells #[z] k=(List.replicate k z).toArray:=by
 apply Array.ext';simp only[Builtin.zeroCells,Array.toList_map,Array.toList_range];simp;apply List.ext_getElem
 ·simp
 ·intro i b a;simp[Nat.mod_one]
theorem iM {P:Program}(w:World){g:Array Oper}{rest:List Oper}{o:Oper}{a:Act}{Q:Exit->Act->World->Prop}(y:o.guard=none)(s x:Operand)(t r:TypeId)
 (K:o.op=.call {callee:=.builtin .append,args:=#[s,x],argTypes:=#[t,r]})
 (base:Nat) (e:TypeId) (i:TypeInfo) (z:Value) (bytes:Nat) (C D:IntKind) (H:P.underlying t=some (.slice e)) (u:P.underlying r=some (.int D)) (L:P.info? e=some i) (F:i.zero=some z)
 (v:i.size=1) (A:i.bytes=bytes) (j:z.cells=#[z])
 (I:a.eval s=.slice none 0 0)
 (k:Nat) (G:a.eval x=.int C k) (N:0<k) (m:k<=maxLen) (b:k*bytes<=140737488355328) (f:base<=w.heap.size)
 (h:∀B p,k<=B->p.ownsRow base e 1 (.slice (some ⟨w.heap.size,0,none⟩) k B) k (List.replicate k z)->w.grownBy p none->wpList P g Q rest (a.put o.dst (.slice (some ⟨w.heap.size,0,none⟩) k B)) p):wpList P g Q (o::rest) a w:=by
 subst A
 have l:(Builtin.firstCells i.size 0 (.slice none 0 0)).run P w.drew=.ok ([]:List Value).toArray w.drew:=by
  simp[Builtin.firstCells]
 have n:k<=9223372036854775807:=by simp only[maxLen] at m;omega
 have E:=Lib.run_append_grow_zeros (P:=P) w t r o.type e i z C D H u L F none 0 0 [] l k N (by omega) (by omega) (by omega) (by omega) (growslice_fits (by omega) (by simpa using b));have d:=grownCap_ge w (0+k) 0 e;have c:grownCap w (0+k) 0 e<=maxLen:=grownCap_le_maxLen w (0+k) 0 e (by simpa using m);rw[nl] at E d c;refine wpList_plain y fun _ M=>?_;unfold Oper.wp execOp;simp only[K,resolve,invoke,builtin,Sem.run_bind,Sem.run_pure,Result.andThen_ok,List.map_toArray,AC,FJ,I,G,E];refine M _ _ (h _ _ d ⟨by simp,.inr ⟨w.heap.size,_,_,rfl,f,heap_alloc_new w.drew _,d,c,?_,?_⟩⟩ ⟨rfl,rfl,rfl,by simp,fun q J _=>Below.heap_alloc w.drew _ q J⟩)
 ·simp only[j,Array.size_append,List.size_toArray,size_zeroCells,hG,ta,Nat.mul_one]
  omega
 ·simp only[j,Array.toList_append,gz,pY,lE,Nat.mul_one]
  have:(List.replicate k z).length=k:=FC;rw[List.take_left' this]
theorem vI:(Tryz.prog.info? 9).map (fun i=>(i.zero,i.size,i.bytes))=some (some (.string {data:=#[]}),1,16):=by kernel_rfl
theorem qR {w':World}(h:w.grownBy w' none):Ext w w':=by
 obtain⟨f,e,d,c,b⟩:=h;exact⟨f,e,d,c,fun k a=>b k a (by simp)⟩
theorem yK {base e g n:Nat}{xs:List Value}(h:w.ownsRow base e 1 (.slice (some ⟨g,0,none⟩) n c) n xs):w.ownsRow base e 1 (.slice (some ⟨g,0,none⟩) 0 c) 0 []:=by
 rcases h.2 with⟨a,_⟩|⟨m,o,b,a,j,i,l,f,d,k⟩
 ·cases a
 ·cases a
  exact⟨rfl,.inr ⟨g,c,b,rfl,j,i,oS _,f,d,by simp⟩⟩
theorem xH (w:World):Calls Tryz.prog 122 #[.slice none 0 0,.i 0] w fun e w'=>e=.returned (.slice none 0 0)/\w'=w:=by
 go_enter Tryz.func122,Tryz.ntmps122;go_wp2_with fail;go_ret;exact⟨rfl,rfl⟩
theorem zx (w:World)(n:Nat)(k:0<n)(z:n<=1000000000):Calls Tryz.prog 122 #[.slice none 0 0,.i (n:Int)] w fun e w'=>∃g c,e=.returned (.slice (some ⟨g,0,none⟩) 0 c)/\n<=c/\w'.ownsRow w.heap.size 9 1 (.slice (some ⟨g,0,none⟩) 0 c) 0 []/\Ext w w':=by
 obtain⟨m,r,j,h,f⟩:=info_parts vI;have u:=hY k;have l:Hid (n<=maxLen/\n*16<=140737488355328):=hY ⟨by unfold maxLen;omega,by omega⟩;have q:(0:Int)<(n:Int):=by omega
 have p:¬(n:Int)<0:=by omega
 clear k;go_enter Tryz.func122,Tryz.ntmps122;go_upto_region 5 with fail;go_wp2_with (at_builtin;refine iM _ rfl (.tmp 20) (.tmp 21) 23 3 rfl w.heap.size 9 m _ 16 .i64 .i64 Tryz.underlying23 Tryz.underlying3 r j h f rfl rfl n rfl u.o l.o.1 l.o.2 (gE _) ?_;intro s y d b a;have t:=hY b;have x:=hY a;have v:=hY d;clear b a d);go_ret;exact⟨w.heap.size,s,rfl,v.o,yK t.o,qR x.o⟩
theorem qT {b w5:World}{e f g n:Nat}{xs:List Value}(a:Ext b w)(j:w.ownsRow b.heap.size e f (.slice (some ⟨g,0,none⟩) n c) n xs)(l:w.grownBy w5 (some g)):Ext b w5:=by
 obtain⟨r,q,p,o,m⟩:=l;have i:=(aw j).1;have h:b.heap.size<=g:=i
 exact⟨r.trans a.os,q.trans a.tape,p.trans a.output,aN a.size o,fun k d=>by
  rw[m k (bA d a.size) (by simp only[ne_eq,dO];omega)]
  exact a.block d⟩
theorem qv {top:Nat}{a:Option Addr}{l:List BL}(h:bT w top a c l):∀ad,a=some ad->∀j u,(dY l)[j]?=some u->w.cell? (ad.add j)=some u:=by
 intro ad d j u b;have i:l≠[]:=by intro e;rw[e] at b;simp[dY] at b
 obtain⟨g,f,m,n,k⟩:=h.row i;rw[m] at d;cases d;unfold dY at b;rw[oN] at b;cases hj:l[j]? with
 |none=>rw[hj] at b;cases b
 |some x=>
  rw[hj] at b;cases b;rw[Addr.add_lit];exact k j x hj
theorem sO (l:List BL):∀u∈dY l,u.oneCell'=true:=by
 intro u a;unfold dY at a;obtain⟨x,_,rfl⟩:=BP.1 a;rfl
theorem sP (l:List BL):(dY l).length=l.length:=by unfold dY;simp
theorem sQ (a b:List BL):dY (a++b)=dY a++dY b:=by unfold dY;simp
theorem uj (w:World)(q:Nat)(b:Option Addr)(j:Nat)(a:Option Addr)(h:Nat)(d:w.heap[q]?=some (.cells #[.slice b 0 j,.slice a 0 h] 23))(g:b=none->j=0)(f:a=none->h=0):Calls Tryz.prog 56 #[.slice (some ⟨q,0,none⟩) 2 2] w fun e w'=>e=.returned (.slice none 0 0)/\w'=w:=by
 obtain⟨p,n⟩:=blk d;have m:=hY g;have l:=hY f;clear d g f;go_enter Tryz.func56,Tryz.ntmps56;go_wp2_with fail
 go_loopw [3,11] (fun s i wr=>s=.i 0/\wr=w/\(i=.i 0\/i=.i 1\/i=.i 2)) (fun _ i _=>2-(intOf i).toNat)
 case atStart=>exact⟨rfl,rfl,.inl rfl⟩
 case round=>
  obtain⟨rfl,rfl,c⟩:=hrel;rcases c with rfl|rfl|rfl
  ·go_wp2_with fail
   go_roundw
   case rel=>exact⟨by go_num,(by first|rfl|trivial),.inr (.inl (by go_num))⟩
   case measure=>simp[intOf]
  ·go_wp2_with fail
   go_roundw
   case rel=>exact⟨by go_num,(by first|rfl|trivial),.inr (.inr (by go_num))⟩
   case measure=>simp[intOf]
  ·go_upto_region 10 with(first|(go_at_call 122;refine(xH _).mono ?_;rintro e k ⟨rfl,rfl⟩))
   go_wp2_with fail
   go_loopw [6,27] (fun v i wr=>v=.slice none 0 0/\wr=k/\(i=.i 0\/i=.i 1\/i=.i 2)) (fun _ i _=>2-(intOf i).toNat)
   case atStart=>exact⟨rfl,rfl,.inl rfl⟩
   case round=>
    obtain⟨rfl,rfl,c⟩:=hrel;rcases c with rfl|rfl|rfl
    ·cases b with
     |none=>
      obtain rfl:=m.o rfl;go_wp2_with fail;go_roundw
      case rel=>exact⟨(by first|rfl|go_num),(by first|rfl|trivial),.inr (.inl (by go_num))⟩
      case measure=>simp[intOf]
     |some b=>
      go_wp2_with fail;go_roundw
      case rel=>exact⟨(by first|rfl|go_num),(by first|rfl|trivial),.inr (.inl (by go_num))⟩
      case measure=>simp[intOf]
    ·cases a with
     |none=>
      obtain rfl:=l.o rfl;go_wp2_with fail;go_roundw
      case rel=>exact⟨(by first|rfl|go_num),(by first|rfl|trivial),.inr (.inr (by go_num))⟩
      case measure=>simp[intOf]
     |some a=>
      go_wp2_with fail;go_roundw
      case rel=>exact⟨(by first|rfl|go_num),(by first|rfl|trivial),.inr (.inr (by go_num))⟩
      case measure=>simp[intOf]
    ·go_wp2_with fail
     go_ret;exact⟨rfl,rfl⟩
theorem vF (w:World)(q top:Nat)(S:Option Addr)(Q:Nat)(b:List BL)(R:Option Addr)(P:Nat)(d:List BL)(L:w.heap[q]?=some (.cells #[.slice S b.length Q,.slice R d.length P] 23))(N:bT w top S Q b)(M:bT w top R P d)(ht:top<=w.heap.size)(hp:0<b.length+d.length):Calls Tryz.prog 56 #[.slice (some ⟨q,0,none⟩) 2 2] w fun e w'=>∃g c,e=.returned (.slice (some ⟨g,0,none⟩) (b++d).length c)/\w'.ownsRow w.heap.size 9 1 (.slice (some ⟨g,0,none⟩) (b++d).length c) (b++d).length (dY (b++d))/\Ext w w':=by
 have HQ:=hY L;obtain⟨I,H⟩:=blk L;have Y:=hY N;have X:=hY M;have s1:b.length<=1048576:=N.small;have s2:d.length<=1048576:=M.small;have HT:=hY ht;have G:=hY (zx w (b.length+d.length) hp (by omega));have N1:=hY (sP b);have N2:=hY (sP d);obtain⟨D,n,K,r,J⟩:=info_parts vI;have F:Hid (Tryz.prog.info? 9=some D/\D.size=1):=hY ⟨n,r⟩;have AL:Hid ((b++d).length=b.length+d.length):=hY (by simp);have SA:=hY (sQ b d);rw[AL.o];clear L N M hp ht n K r J;generalize y:b.length=j at*;generalize x:d.length=k at*;have W:=hY y;have V:=hY x;clear y x;have p1:¬(j:Int)<0:=by omega
 have p2:¬(j:Int)+(k:Int)<0:=by omega
 go_enter Tryz.func56,Tryz.ntmps56;go_wp2_with fail
 go_loopw [3,11] (fun s i wr=>w=wr/\((s=.i 0/\i=.i 0)\/(s=.i j/\i=.i 1)\/(s=.i ((j:Int)+k)/\i=.i 2))) (fun _ i _=>2-(intOf i).toNat)
 case atStart=>exact⟨rfl,.inl ⟨rfl,rfl⟩⟩
 case round=>
  obtain⟨rfl,n⟩:=hrel;rcases n with⟨rfl,rfl⟩|⟨rfl,rfl⟩|⟨rfl,rfl⟩
  ·go_wp2_with fail
   go_roundw
   case rel=>exact⟨(by first|rfl|trivial),.inr (.inl ⟨by go_num,by go_num⟩)⟩
   case measure=>simp[intOf]
  ·go_wp2_with fail
   go_roundw
   case rel=>exact⟨(by first|rfl|trivial),.inr (.inr ⟨by go_num,by go_num⟩)⟩
   case measure=>simp[intOf]
  ·have B:(j:Int)+(k:Int)=((j+k:Nat):Int):=by omega
   rw[←B] at G;clear B;go_upto_region 10 with(first|(go_at_call 122;refine G.o.mono ?_;rintro e w2 ⟨g0,c0,rfl,A,u,l⟩;have C0:=hY A;have O0:=hY u;have E0:=hY l;clear A u l));clear I H;obtain⟨I,H⟩:=blk (E0.o.keep HQ.o);go_wp2_with fail;clear I H
   go_loopw [6,27] (fun v i wr=>∃(g c m:Nat) (p:List Value),v=.slice (some ⟨g,0,none⟩) m c/\j+k<=c/\wr.ownsRow w.heap.size 9 1 (.slice (some ⟨g,0,none⟩) m c) m p/\Ext w wr/\((i=.i 0/\m=0/\p=[])\/(i=.i 1/\m=j/\p=dY b)\/(i=.i 2/\m=j+k/\p=dY b++dY d))) (fun _ i _=>2-(intOf i).toNat)
   case atStart=>exact⟨g0,c0,0,[],rfl,C0.o,O0.o,E0.o,.inl ⟨rfl,rfl,rfl⟩⟩
   case round=>
    obtain⟨g,c,m,p,rfl,A,u,l,n⟩:=hrel;have C:=hY A;have O:=hY u;have E:=hY l;obtain⟨q3,q4⟩:=blk (l.keep HQ.o);have BS:Hid (w.heap.size<=wr.heap.size):=hY l.size;have K1:=hY (qv (Y.o.keep (am l HT.o)));have K2:=hY (qv (X.o.keep (am l HT.o)));have Z1:=hY (fun h=>(Y.o.nil0 h));have Z2:=hY (fun h=>(X.o.nil0 h));clear A u l;rcases n with⟨rfl,z,t⟩|⟨rfl,z,t⟩|⟨rfl,z,t⟩
    ·subst z
     subst t;go_wp2_with (at_builtin;refine wpList_append_fits_any _ rfl (.tmp 31) (.tmp 32) 23 rfl w.heap.size 9 D 1 Tryz.underlying23 F.o.1 F.o.2 g 0 c [] rfl O.o S j Q (dY b) rfl (by rw[N1.o,Nat.mul_one]) (fun e=>⟨by have:=Y.o.cap;rw[Z1.o e] at this;have:=W.o;omega,Z1.o e⟩) K1.o (sO b) (by have:=C.o;omega) ?_;intro w5 f a;have U:=hY f;have Z:=hY (qT E.o O.o a);clear f a);go_roundw
     case rel=>exact⟨g,c,j,dY b,rfl,C.o,by have:=U.o;rw[nl,lE] at this;exact this,Z.o,.inr (.inl ⟨by go_num,rfl,rfl⟩)⟩
     case measure=>simp[intOf]
    ·subst t
     obtain rfl:j=m:=z.symm;go_wp2_with (at_builtin;refine wpList_append_fits_any _ rfl (.tmp 31) (.tmp 32) 23 rfl w.heap.size 9 D 1 Tryz.underlying23 F.o.1 F.o.2 g j c (dY b) rfl O.o R k P (dY d) rfl (by rw[N2.o,Nat.mul_one]) (fun e=>⟨by have:=X.o.cap;rw[Z2.o e] at this;have:=V.o;omega,Z2.o e⟩) K2.o (sO d) C.o ?_;intro w5 f a;have U:=hY f;have Z:=hY (qT E.o O.o a);clear f a);go_roundw
     case rel=>exact⟨g,c,j+k,dY b++dY d,rfl,C.o,U.o,Z.o,.inr (.inr ⟨by go_num,rfl,rfl⟩)⟩
     case measure=>simp[intOf]
    ·subst t
     obtain rfl:j+k=m:=z.symm;go_wp2_with fail;go_ret;exact⟨g,c,rfl,by rw[SA.o];exact O.o,E.o⟩
end
end Go.Proofs.Eff
