import Derived.Test.YtcimpmhmdnoeiaaGreatDoorQ20
import Derived.Test.YtcimpmhmdnoeiaaGreatDoorQ27
set_option maxRecDepth 100000
set_option maxHeartbeats 2000000
set_option linter.all false
namespace Go.Proofs.Eff
open Go.RowKit
section
section
variable {base top p:Nat} {w w2:World} {fv gv:Value} {fs gs:List BL} {F F2:List Nat} {s s2:GS} {ch ch2:List RgS} {r:Nat} {rg:Rg} {its:List It} {c:List RgS}
theorem aa.join (d:CM p F F2 w w2){b:World}{c:GS}{a:List RgS}(k:aa base p w2 fv gv F2 c a b):aa base p w fv gv F c a b:=by
 obtain⟨g,f,e⟩:=k;exact⟨g,f,d.trans e⟩
theorem Env.lowS (h:Env base top p w fv gv fs gs F)(a:aa base p w fv gv F s2 ch2 w2):∀k,k<top->w2.heap[k]?=w.heap[k]?:=by
 obtain⟨b,_,m⟩:=a;exact h.low m
theorem Env.boxed (h:Env base top p w fv gv fs gs F)(o:Obj)(a:aa base p (w.alloc o) fv gv F s2 ch2 w2):w2.heap[w.heap.size]?=some o:=
 a.box (aq w o _ rfl) (by have:=h.pw;omega) (fun b=>by have:=(h.Fb _ b).2.1;omega)
theorem Env.boxC (h:Env base top p w fv gv fs gs F){a:List Value}{T:TypeId}(b:aa base p (w.alloc (.cells a.toArray T)) fv gv F s2 ch2 w2):(∀i,w2.cell? ⟨w.heap.size,i,none⟩=a[i]?)/\(∀i,w2.frozen? ⟨w.heap.size,i,none⟩=false):=by
 obtain⟨d,c⟩:=blk (h.boxed _ b);exact⟨fun i=>by rw[d];simp,c⟩
theorem cr (a:aa base p w fv gv F s ((r,rg,its)::c) w2)(b:its.length<=bq)(op:Int):Calls Tryz.prog 60 #[.pointer (some ⟨p,0,none⟩),.i op] w2 fun e w'=>e=.returned (.tuple #[])/\aa base p w fv gv F s ((r,rg,its++[.ins op 0 0 0])::c) w':=
 a.next (R:=fun e=>e=.returned (.tuple #[])) fun f d _=>EZ base p w2 fv gv s r rg its c f d b op
theorem bh (d:aa base p w fv gv F s ((r,rg,its)::c) w2)(f:its.length<=bq)(op a b z:Int):Calls Tryz.prog 124 #[.pointer (some ⟨p,0,none⟩),.slice (some ⟨w2.heap.size,0,none⟩) 1 1] (w2.alloc (.cells #[.i op,.i a,.i b,.i 0,.i z] 91)) fun e w'=>e=.returned (.tuple #[])/\aa base p w fv gv F s ((r,rg,its++[.ins op a b z])::c) w':=by
 obtain⟨l,h,g⟩:=d;refine(Ek base p w2 fv gv s r rg its c l h f op a b z).mono ?_;rintro e w' ⟨k,j⟩;exact⟨k,j.join g⟩
theorem jH (a:aa base p w fv gv F s ch w2)(pl e:Int):Calls Tryz.prog 58 #[.pointer (some ⟨p,0,none⟩),.i pl,.i e] w2 fun c w'=>c=.returned (.tuple #[])/\aa base p w fv gv F (s.fail pl e) ch w':=
 a.next (R:=fun e=>e=.returned (.tuple #[])) fun d b _=>Dx base p w2 fv gv s ch d b pl e
theorem dI (a:aa base p w fv gv F s ch w2)(b:s.FO<=bq):Calls Tryz.prog 264 #[.pointer (some ⟨p,0,none⟩)] w2 fun e w'=>e=.returned (.i (s.FO:Int))/\aa base p w fv gv F {s with FO:=s.FO+1} ch w':=
 a.next (R:=fun e=>e=.returned (.i (s.FO:Int))) fun d c _=>zj base p w2 fv gv s ch d c b
end
abbrev nrm:Ending:=.returned (.tuple #[])
theorem Aq (fs gs:List BL)(k:Int)(n:BL)(b a:List BL)(v:T)(r:List T)(p pl:Int)(c:List Rg)(s:GS)(h:k=3):bp fs gs (.mk k n b a (v::r) p pl) c s=((ah fs gs v c s).1,(ah fs gs v c s).2++[.ins 21 0 0 0]):=by
 unfold bp;rw[if_pos h]
theorem Ap (fs gs:List BL)(x:T)(c:List Rg)(s:GS)(h:x.kind≠3):bp fs gs x c s=ah fs gs x c s:=by
 obtain⟨k,n,b,a,l,p,pl⟩:=x;unfold bp;rw[if_neg (show¬k=3 from h)]
def eA (fs gs:List BL)(x:T):Prop:=sA fs gs 59 x (bp fs gs x) (.returned (.bool (x.kind==3))) (4*T.nd x)
def eY (fs gs:List BL)(x:T):Prop:=sA fs gs 123 x (ah fs gs x) nrm (4*T.nd x)
theorem sS (fs gs:List BL)(x:T)(J:x.kind=3->∃v,x.FN=[v]/\eY fs gs v)(G:x.kind≠3->eY fs gs x):eA fs gs x:=by
 intro base top p w fv gv s r h its c F U Q S P R O y I H z C;have f:=y.ext (xal w x U Q S P R O).o;have D:=xal w x U Q S P R O;have L:=hY (aa.refl (I.ext D.o));have d:=H.keep (am D.o y.tw);obtain⟨q1,q2⟩:=y.boxC L.o;by_cases hk:x.kind=3
 ·obtain⟨v,a,q⟩:=J hk
  have M:x.FN[0]?=some v:=by rw[a];rfl
  obtain⟨g,X,b1,d1,b2,d2,b3,d3,rfl,hg,N,u⟩:=d.FN.seven (j:=0) (x:=v) M;rw[np,ks] at N;obtain⟨e0,e1,e2,e3,e4,e5,e6⟩:=N
  have B:Hid (bp fs gs x (h::rgs c) s=((ah fs gs v (h::rgs c) s).1,(ah fs gs v (h::rgs c) s).2++[.ins 21 0 0 0])):=hY (by
   obtain⟨k,n,Y,W,l,E,pl⟩:=x;have hl:l=[v]:=a;subst hl
   exact Aq fs gs k n Y W v [] E pl (h::rgs c) s hk)
  have i:v∈x.FN:=by rw[a];simp
  have hnd:=aD i;have A:=hY (q.after f L.o u (z.mono (by omega)) (aN (bW i) C))
  have B2:Hid ((its++(ah fs gs v (h::rgs c) s).2).length<=bq):=hY (by
   have h1:=(dL fs gs v (h::rgs c) s).its;have h2:=z.its
   rw[bY];omega)
  have h0:0<x.FN.length:=by rw[a];simp
  rw[B.o];clear J G a q u d H y f I z C hnd hg B M i;generalize x.kind=k at*;subst hk;generalize x.name=Z at*;generalize x.FP.length=n1 at*;generalize x.FQ.length=n2 at*;generalize x.FN.length=n3 at*;generalize x.FY=E at*;generalize x.FR=pl at*;go_enter Tryz.func59,Tryz.ntmps59;go_upto_region 1 with fail;generalize m:w.alloc _=W1 at*;clear m;go_wp2_with (first|(go_at_call 123;refine A.o.m fun V K=>?_)|(go_at_call 60;refine(cr K.o B2.o _).m fun w3 S3=>?_));go_ret;exact⟨rfl,by rw[←gz];exact aa.FZ D.o S3.o⟩
 ·have A:=hY ((G hk).after f L.o d z C)
  have B:=hY (Ap fs gs x (h::rgs c) s hk);have ek:(x.kind==3)=false:=by simpa using hk
  rw[B.o];clear J G d H y f I z C hk B;generalize x.kind=k at*;generalize x.name=Z at*;generalize x.FP.length=n1 at*;generalize x.FQ.length=n2 at*;generalize x.FN.length=n3 at*;generalize x.FY=E at*;generalize x.FR=pl at*;go_enter Tryz.func59,Tryz.ntmps59;go_upto_region 1 with fail;generalize m:w.alloc _=W1 at*;clear m;go_wp2_with (first|(go_at_call 123;refine A.o.m fun V K=>?_));go_ret;exact⟨by rw[ek];rfl,aa.FZ D.o K.o⟩
end
section
variable {l:List T} {j:Nat} {y:T}
theorem wZ (fs gs:List BL)(a:l[j]?=some y)(b:Bool)(c:List Rg)(s:GS):bN fs gs (l.drop j) b c s=((bN fs gs (l.drop (j+1)) false c (bp fs gs y c s).1).1,(if b then [] else [.ins 14 0 0 0])++(bp fs gs y c s).2++(bN fs gs (l.drop (j+1)) false c (bp fs gs y c s).1).2):=by
 obtain⟨d,e⟩:=aC.1 a;rw[hI d,e,bN]
theorem fi (a:l[j]?=some y):T.ndL (l.drop j)=T.nd y+T.ndL (l.drop (j+1)):=by
 obtain⟨b,c⟩:=aC.1 a;rw[hI b,c,T.ndL]
theorem bF (x:T):T.nd x=2+T.ndL x.FN:=by obtain⟨k,n,b,a,l,p,pl⟩:=x;rw[T.nd];rfl
theorem lZ (a:l[j]?=some y):al (l.drop j)=if j+1<l.length then al (l.drop (j+1)) else y.kind==3:=by
 obtain⟨b,c⟩:=aC.1 a;rw[hI b,c]
 split
 ·rename_i h2
  rw[hI h2];rfl
 ·rename_i h2
  rw[hH (by omega)];rfl
structure ut (fs gs:List BL)(l:List T)(c:List Rg)(s:GS)(n d:Nat)(j:Nat)(sj:GS)(ij:List It)(b:Bool):Prop where
 eq:bN fs gs l true c s=((bN fs gs (l.drop j) (j==0) c sj).1,ij++(bN fs gs (l.drop j) (j==0) c sj).2)
 bud:Bud sj (n+ij.length) d (4*T.ndL (l.drop j)+1)
 ret:al l=if j<l.length then al (l.drop j) else b
theorem ut.next {fs gs:List BL}{c:List Rg}{s:GS}{n d:Nat}{f:GS}{m:List It}{b:Bool}(h:ut fs gs l c s n d j f m b)(g:l[j]?=some y):ut fs gs l c s n d (j+1) (bp fs gs y c f).1 (m++((if j=0 then [] else [.ins 14 0 0 0])++(bp fs gs y c f).2)) (y.kind==3):=by
 have i:=(aC.1 g).1;have k:=gB fs gs y c f;have o:=fi g;have a:=h.bud;have p:=bG y;rw[o] at a;refine⟨?_,?_,?_⟩
 ·rw[h.eq,wZ fs gs g]
  have e:(j+1==0)=false:=by simp
  rw[e];by_cases hj:j=0
  ·subst hj;simp
  ·have:(j==0)=false:=by simpa using hj
   rw[this];simp[hj]
 ·refine⟨?_,?_,?_,?_⟩
  ·have:=a.its;have:=k.its
   simp only[bY]
   split
   ·simp only[hG];omega
   ·simp only[gi,hG];omega
  ·have:=a.lab;have:=k.lab;omega
  ·have:=a.lit;have:=k.lit;omega
  ·have:=a.dep;omega
 ·rw[h.ret,if_pos i,lZ g]
theorem lC (fs gs:List BL)(x:T)(hx:∀y∈x.FN,eA fs gs y):sA fs gs 229 x (fun c s=>bN fs gs x.FN true c s) (.returned (.bool (al x.FN))) (4*T.ndL x.FN+1):=by
 intro base top p w fv gv s r J its c F B u z t v q V hC hP hB hN;have P:=V.ext (xal w x B u z t v q).o;have K:=xal w x B u z t v q;have Q:=hY (aa.refl (hC.ext K.o));have H:=hP.keep (am K.o V.tw);have NN:=hY H.FN;have NM:Hid (∀y∈x.FN,T.nms y<=ao):=hY (fun y n=>aN (bW n) hN);have HX:=hY hx;have EN:=hY P;have Z:=hY hB;have ab:x.FN.length<=1048576:=H.FN.small;obtain⟨q1,q2⟩:=V.boxC Q.o;clear hP H V P hC hB hN hx;generalize x.FN=l at*;by_cases h0:l.length=0
 ·obtain rfl:l=[]:=ls h0
  have B2:Hid (its.length<=bq):=hY (by have:=Z.o.its;omega);clear h0;show Calls Tryz.prog 229 #[.pointer (some ⟨p,0,none⟩),.agg (af x.kind x.name x.FP.length x.FQ.length 0 x.FY x.FR B u z t v q)] w _
  replace q1:∀i,(w.alloc (.cells (af x.kind x.name x.FP.length x.FQ.length 0 x.FY x.FR B u z t v q) 26)).cell? ⟨w.heap.size,i,none⟩=(aB x.kind x.name x.FP.length x.FQ.length 0 x.FY x.FR B u z t v q)[i]?:=q1
  replace K:Hid (Ext w (w.alloc (.cells (af x.kind x.name x.FP.length x.FQ.length 0 x.FY x.FR B u z t v q) 26))):=K
  replace Q:Hid (aa base p (w.alloc (.cells (af x.kind x.name x.FP.length x.FQ.length 0 x.FY x.FR B u z t v q) 26)) fv gv F s ((r,J,its)::c) (w.alloc (.cells (af x.kind x.name x.FP.length x.FQ.length 0 x.FY x.FR B u z t v q) 26))):=Q
  have GG:Hid (bN fs gs [] true (J::rgs c) s=(s,[.ins 2 0 0 0])):=hY (by rw[bN];rfl);dsimp only;rw[GG.o];clear GG NN Z EN HX NM ab;go_enter Tryz.func229,Tryz.ntmps229;go_upto_region 1 with fail;generalize G:w.alloc _=W1 at*;clear G;go_wp2_with (first|(go_at_call 60;refine(cr Q.o B2.o _).m fun w3 S3=>?_));go_ret;exact⟨rfl,aa.FZ K.o S3.o⟩
 ·have ag:(l.length==0)=false:=by simpa using h0
  have ad:((l.length:Int)==0)=false:=by simp;intro h;rw[h] at h0;exact h0 rfl
  have R0:Hid (ut fs gs l (J::rgs c) s its.length c.length 0 s [] false):=hY ⟨by simp,by simpa using Z.o,by rw[if_pos (by omega)];simp⟩;have H0:=hY h0;clear h0 Z;go_enter Tryz.func229,Tryz.ntmps229;go_upto_region 1 with fail;generalize G:w.alloc _=W1 at*;clear G;go_wp2_with fail;clear q1 q2
  go_loopw [5,17] (fun en i wr=>∃(j:Nat) (L:GS) (C:List It) (b:Bool),j<=l.length/\i=.i j/\en=.bool b/\aa base p W1 fv gv F L ((r,J,its++C)::c) wr/\ut fs gs l (J::rgs c) s its.length c.length j L C b) (fun _ i _=>l.length-(intOf i).toNat)
  case atStart=>exact⟨0,s,[],false,by omega,rfl,rfl,by rw[kn];exact Q.o,R0.o⟩
  case round=>
   obtain⟨j,L,C,b,hj,rfl,rfl,hS,hR⟩:=hrel;have R:=hY hR;by_cases hlt:j<l.length
   ·obtain⟨y,n⟩:∃y,l[j]?=some y:=⟨l[j],by simp⟩
    obtain⟨F2,I,f⟩:=hS;have k:=EN.o.step f I;have M2:=hY f;obtain⟨g,ae,b1,d1,b2,d2,b3,d3,rfl,hg,ac,O⟩:=(NN.o.keep (EN.o.low f)).seven n;obtain⟨e0,e1,e2,e3,e4,e5,e6⟩:=ac;have S:=xal wr y b1 d1 b2 d2 b3 d3;have SA:=hY (aa.refl (I.ext S.o));have U:=hY (k.ext S.o);have PY:=hY (O.keep (am S.o k.tw));have YB:=hY (fun(W:World) s' ch' (h:aa base p (wr.alloc (.cells (aB y.kind y.name y.FP.length y.FQ.length y.FN.length y.FY y.FR b1 d1 b2 d2 b3 d3).toArray 26)) fv gv F2 s' ch' W)=>k.boxC h);have HY:=hY (HX.o y (eQ n));have NY:=hY (NM.o y (eQ n));have Y:=hY (R.o.next n);have a:=R.o.bud;rw[fi n] at a;have hp:=bG y;have B1:Hid ((its++C).length<=bq):=hY (by have:=a.its;rw[bY];omega);have B2:Hid (∀l2:List It,l2.length<=1->Bud L ((its++C)++l2).length c.length (4*T.nd y)):=hY (fun l2 h2=>⟨by have:=a.its;simp only[bY];omega,by have:=a.lab;omega,by have:=a.lit;omega,by have:=a.dep;omega⟩);obtain⟨t1,t2⟩:=YB.o _ _ _ SA.o;clear I k f O hg n hR R a hp;by_cases m:j=0
    ·subst m
     rw[if_pos rfl] at Y;simp only[np,ks] at e0 e1 e2 e3 e4 e5 e6;have A:=hY (HY.o.after U.o (its:=its++C) SA.o PY.o (by have:=B2.o [] (by simp);rwa [kn] at this) NY.o);go_upto_region 8 with fail;generalize E:wr.alloc _=W3 at*;clear E;go_wp2_with (first|(go_at_call 59;refine A.o.m fun w4 X=>?_));go_roundw
     case rel=>exact⟨1,_,_,_,by omega,by go_num,rfl,by first|(rw[lE,←gz];exact(aa.FZ S.o X.o).join M2.o),Y.o⟩
     case measure=>simp[intOf];omega
    ·rw[if_neg m] at Y
     have ai:(0:Int)<(j:Int):=by omega
     have aj:=hY m;clear m;go_upto_region 8 with fail;generalize E:wr.alloc _=W3 at*;clear E;go_wp2_with (first|(go_at_call 60;refine(cr SA.o B1.o _).m fun w4 X=>?_;obtain⟨t3,t4⟩:=YB.o _ _ _ X.o;have A:=hY (HY.o.after U.o X.o PY.o (B2.o _ (by simp)) NY.o))|(go_at_call 59;refine A.o.m fun w5 S5=>?_));go_roundw
     case rel=>exact⟨j+1,_,_,_,by omega,by go_num,rfl,by rw[←gz,←gz];exact(aa.FZ S.o S5.o).join M2.o,Y.o⟩
     case measure=>simp[intOf];omega
   ·have ah:j=l.length:=by omega
    have D:Hid (bN fs gs l true (J::rgs c) s=(L,C)/\al l=b):=hY (by
     have m:=R.o.eq;have h2:=R.o.ret;rw[if_neg hlt] at h2;rw[hH (by omega),bN] at m;have e:(j==0)=false:=by have:=H0.o;simp;omega
     rw[e] at m;simp only[kn] at m
     exact⟨by simpa using m,h2⟩)
    have SF:=hY hS;clear hS hR R;go_wp2_with fail;go_ret;dsimp only;rw[D.o.1,D.o.2];exact⟨rfl,aa.FZ K.o SF.o⟩
theorem uZ (fs gs:List BL)(a:l[j]?=some y)(c:List Rg)(s:GS):bP fs gs (l.drop j) c s=((bP fs gs (l.drop (j+1)) c (bp fs gs y c s).1).1,(bp fs gs y c s).2++(if y.kind=3 then [] else [.ins 14 0 0 0])++(bP fs gs (l.drop (j+1)) c (bp fs gs y c s).1).2):=by
 obtain⟨b,d⟩:=aC.1 a;rw[hI b,d,bP]
structure pU (fs gs:List BL)(l:List T)(c:List Rg)(s:GS)(n d:Nat)(j:Nat)(sj:GS)(ij:List It)(b:Bool):Prop where
 eq:bP fs gs l c s=((bP fs gs (l.drop j) c sj).1,ij++(bP fs gs (l.drop j) c sj).2)
 bud:Bud sj (n+ij.length) d (4*T.ndL (l.drop j)+1)
 ret:al l=if j<l.length then al (l.drop j) else b
theorem pU.next {fs gs:List BL}{c:List Rg}{s:GS}{n d:Nat}{e:GS}{k:List It}{b:Bool}(h:pU fs gs l c s n d j e k b)(f:l[j]?=some y):pU fs gs l c s n d (j+1) (bp fs gs y c e).1 (k++((bp fs gs y c e).2++(if y.kind=3 then [] else [.ins 14 0 0 0]))) (y.kind==3):=by
 have g:=(aC.1 f).1;have i:=gB fs gs y c e;have m:=fi f;have a:=h.bud;have o:=bG y;rw[m] at a;refine⟨?_,?_,?_⟩
 ·rw[h.eq,uZ fs gs f]
  simp
 ·refine⟨?_,?_,?_,?_⟩
  ·have:=a.its;have:=i.its
   simp only[bY]
   split
   ·simp only[hG];omega
   ·simp only[gi,hG];omega
  ·have:=a.lab;have:=i.lab;omega
  ·have:=a.lit;have:=i.lit;omega
  ·have:=a.dep;omega
 ·rw[h.ret,if_pos g,lZ f]
def zd (fs gs:List BL)(l:List T)(c:List Rg)(s:GS):GS×List It:=((bP fs gs l c s).1,(bP fs gs l c s).2++(if al l then [] else [It.ins 22 0 0 0]))
theorem za (fs gs:List BL)(x:T)(Z:∀y∈x.FN,eA fs gs y):sA fs gs 19 x (zd fs gs x.FN) nrm (4*T.ndL x.FN+1):=by
 intro base top p w fv gv s r m its c F a1 c1 a2 c2 a3 c3 L hC hP hB hN;have I:=L.ext (xal w x a1 c1 a2 c2 a3 c3).o;have G:=xal w x a1 c1 a2 c2 a3 c3;have S0:=hY (aa.refl (hC.ext G.o));have C:=hP.keep (am G.o L.tw);have NN:=hY C.FN;have NM:Hid (∀y∈x.FN,T.nms y<=ao):=hY (fun y z=>aN (bW z) hN);have HX:=hY Z;have EN:=hY I;have BB:=hY hB;have ac:x.FN.length<=1048576:=C.FN.small;obtain⟨q1,q2⟩:=L.boxC S0.o;clear hP C L I hC hB hN Z;generalize x.FN=l at*
 have R0:Hid (pU fs gs l (m::rgs c) s its.length c.length 0 s [] false):=hY ⟨by simp,by simpa using BB.o,by
  by_cases h0:0<l.length
  ·rw[if_pos h0];simp
  ·rw[if_neg h0];rw[ls (l:=l) (by omega)];rfl⟩
 clear BB;go_enter Tryz.func19,Tryz.ntmps19;go_upto_region 1 with fail;generalize P:w.alloc _=W1 at*;clear P;go_wp2_with fail;clear q1 q2
 go_loopw [4,10] (fun en i wr=>∃(j:Nat) (k:GS) (q:List It) (b:Bool),j<=l.length/\i=.i j/\en=.bool b/\aa base p W1 fv gv F k ((r,m,its++q)::c) wr/\pU fs gs l (m::rgs c) s its.length c.length j k q b) (fun _ i _=>l.length-(intOf i).toNat)
 case atStart=>exact⟨0,s,[],false,by omega,rfl,rfl,by rw[kn];exact S0.o,R0.o⟩
 case round=>
  obtain⟨j,k,q,b,hj,rfl,rfl,S,U⟩:=hrel;have R:=hY U;by_cases hlt:j<l.length
  ·obtain⟨y,z⟩:∃y,l[j]?=some y:=⟨l[j],by simp⟩
   obtain⟨F2,E,t⟩:=S;have u:=EN.o.step t E;have M2:=hY t;obtain⟨g,ab,b1,d1,b2,d2,b3,d3,rfl,hg,Q,H⟩:=(NN.o.keep (EN.o.low t)).seven z;obtain⟨e0,e1,e2,e3,e4,e5,e6⟩:=Q;have K:=xal wr y b1 d1 b2 d2 b3 d3;have SA:=hY (aa.refl (E.ext K.o));have Y:=hY (u.ext K.o);have PY:=hY (H.keep (am K.o u.tw));have YB:=hY (fun(W:World) s' ch' (h:aa base p (wr.alloc (.cells (aB y.kind y.name y.FP.length y.FQ.length y.FN.length y.FY y.FR b1 d1 b2 d2 b3 d3).toArray 26)) fv gv F2 s' ch' W)=>u.boxC h);have HY:=hY (HX.o y (eQ z));have NY:=hY (NM.o y (eQ z));have N:=hY (R.o.next z);have a:=R.o.bud;rw[fi z] at a;have hp:=bG y;have A:=hY (HY.o.after Y.o (its:=its++q) SA.o PY.o ⟨by have:=a.its;simp only[bY];omega,by have:=a.lab;omega,by have:=a.lit;omega,by have:=a.dep;omega⟩ NY.o)
   have B2:Hid (((its++q)++(bp fs gs y (m::rgs c) k).2).length<=bq):=hY (by
    have:=a.its;have:=(gB fs gs y (m::rgs c) k).its
    simp only[bY];omega)
   obtain⟨t1,t2⟩:=YB.o _ _ _ SA.o;clear E u t H hg z U R a hp;by_cases n:y.kind=3
   ·rw[if_pos n] at N
    have O:(y.kind==3)=true:=by simpa using n
    have J:=hY O;clear n;go_upto_region 5 with fail;generalize B:wr.alloc _=W3 at*;clear B;go_wp2_with (first|(go_at_call 59;refine A.o.m fun w4 X=>?_));go_roundw
    case rel=>exact⟨j+1,(bp fs gs y (m::rgs c) k).1,q++((bp fs gs y (m::rgs c) k).2++[]),true,by omega,by go_num,(by first|rfl|rw[J.o]),by rw[kn,←gz];exact(aa.FZ K.o X.o).join M2.o,by have:=N.o;rw[J.o] at this;exact this⟩
    case measure=>simp[intOf];omega
   ·rw[if_neg n] at N
    have O:(y.kind==3)=false:=by simpa using n
    have J:=hY O;clear n;go_upto_region 5 with fail;generalize B:wr.alloc _=W3 at*;clear B;go_wp2_with (first|(go_at_call 59;refine A.o.m fun w4 X=>?_)|(go_at_call 60;refine(cr X.o B2.o _).m fun w5 M=>?_));go_roundw
    case rel=>exact⟨j+1,(bp fs gs y (m::rgs c) k).1,q++((bp fs gs y (m::rgs c) k).2++[.ins 14 0 0 0]),false,by omega,by go_num,(by first|rfl|rw[J.o]),by rw[←gz,←gz];exact(aa.FZ K.o M.o).join M2.o,by have:=N.o;rw[J.o] at this;exact this⟩
    case measure=>simp[intOf];omega
  ·have ad:j=l.length:=by omega
   have D:Hid (zd fs gs l (m::rgs c) s=(k,q++(if b then [] else [It.ins 22 0 0 0]))):=hY (by
    have n:=R.o.eq;have h2:=R.o.ret;rw[if_neg hlt] at h2;rw[hH (by omega),bP] at n;simp only[kn] at n;unfold zd
    rw[n,h2])
   have V:=hY S;have B3:Hid ((its++q).length<=bq):=hY (by have:=R.o.bud.its;rw[bY];omega);clear S U R;cases b with
   |true=>
    go_wp2_with fail
    (first|refine QzE rfl rfl ?_|refine QzR rfl rfl ?_);exact ⟨rfl,by rw[D.o];simp only[if_true,kn];exact aa.FZ G.o V.o⟩
   |false=>
    go_wp2_with (first|(go_at_call 60;refine(cr V.o B3.o _).m fun w5 M=>?_))
    (first|refine QzE rfl rfl ?_|refine QzR rfl rfl ?_);exact ⟨rfl,by rw[D.o];simp only[iS,if_false,←gz];exact aa.FZ G.o M.o⟩
end
end Go.Proofs.Eff
