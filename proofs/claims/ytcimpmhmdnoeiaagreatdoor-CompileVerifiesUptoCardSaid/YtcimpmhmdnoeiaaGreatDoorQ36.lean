import Derived.Test.YtcimpmhmdnoeiaaGreatDoorQ34
set_option maxRecDepth 100000
set_option maxHeartbeats 40000000
set_option linter.all false
namespace Go.Proofs.Eff
open Go.RowKit
theorem vL (fs gs:List BL){l:List T}{j:Nat}{m:T}(b:l[j]?=some m)(a:Bool)(c:List Rg)(s:GS):cV fs gs a (l.drop j) c s=((cV fs gs a (l.drop (j+1)) c (eE fs gs m.name a m.FN m.FN.length c s).1).1,(if j+1<l.length then [.ins 15 0 0 0]++(eE fs gs m.name a m.FN m.FN.length c s).2++[.ins 14 0 0 0] else(eE fs gs m.name a m.FN m.FN.length c s).2)++(cV fs gs a (l.drop (j+1)) c (eE fs gs m.name a m.FN m.FN.length c s).1).2):=by
 obtain⟨d,f⟩:=aC.1 b;rw[hI d,f];obtain⟨k,n,i,g,o,p,pl⟩:=m;rw[cV];by_cases h:j+1<l.length
 ·have e:(l.drop (j+1)).isEmpty=false:=by rw[hI h];rfl
  rw[e,if_pos h];rfl
 ·have e:(l.drop (j+1)).isEmpty=true:=by rw[hH (by omega)];rfl
  rw[e,if_neg h];rfl
structure pW (fs gs:List BL)(sup:Bool)(l:List T)(c:List Rg)(s:GS)(n d:Nat)(j:Nat)(sj:GS)(ij:List It):Prop where
 eq:cV fs gs sup l c s=((cV fs gs sup (l.drop j) c sj).1,ij++(cV fs gs sup (l.drop j) c sj).2)
 bud:Bud sj (n+ij.length) d (4*T.ndL (l.drop j)+1)
theorem pW.next {fs gs:List BL}{a:Bool}{l:List T}{c:List Rg}{s:GS}{n d j:Nat}{b:GS}{g:List It}(h:pW fs gs a l c s n d j b g){m:T}(i:l[j]?=some m):pW fs gs a l c s n d (j+1) (eE fs gs m.name a m.FN m.FN.length c b).1 (g++(if j+1<l.length then [.ins 15 0 0 0]++(eE fs gs m.name a m.FN m.FN.length c b).2++[.ins 14 0 0 0] else(eE fs gs m.name a m.FN m.FN.length c b).2)):=by
 have f:=tA fs gs m.name a m.FN m.FN.length c b;have k:=fi i;have e:=h.bud;have o:=bF m;rw[k] at e;refine⟨?_,?_⟩
 ·rw[h.eq,vL fs gs i]
  simp
 ·refine⟨?_,?_,?_,?_⟩
  ·have:=e.its;have:=f.its
   simp only[bY]
   split
   ·simp only[bY,gi,hG];omega
   ·omega
  ·have:=e.lab;have:=f.lab;omega
  ·have:=e.lit;have:=f.lit;omega
  ·have:=e.dep;omega
def zL (fs gs:List BL)(v:T)(ms:List T)(c:List Rg)(s:GS):GS×List It:=((cV fs gs (db v) ms c (bg fs gs v c s).1).1,(bg fs gs v c s).2++(cV fs gs (db v) ms c (bg fs gs v c s).1).2)
theorem vK (fs gs:List BL)(x v n:T)(d:List T)(f:x.FN=v::n::d)(hv:eY fs gs v)(hx:∀m∈n::d,∀y∈m.FN,eY fs gs y):sA fs gs 173 x (zL fs gs v (n::d)) nrm (4*T.nd x):=by
 intro base top p w Z Y s r a its c F a1 c1 a2 c2 a3 S hE hC hP X hN;have O:=hE.ext (xal w x a1 c1 a2 c2 a3 S).o;have EX:=xal w x a1 c1 a2 c2 a3 S;have S0:=hY (aa.refl (hC.ext EX.o));have C:=hP.keep (am EX.o hE.tw);obtain⟨q1,q2⟩:=hE.boxC S0.o;have KB:=hY (fun(W:World) s' ch' (h:aa base p (w.alloc (.cells (aB x.kind x.name x.FP.length x.FQ.length x.FN.length x.FY x.FR a1 c1 a2 c2 a3 S).toArray 26)) Z Y F s' ch' W)=>hE.boxC h);obtain⟨g,E,b1,d1,b2,d2,U,Q,rfl,hg,V,ak⟩:=C.FN.seven (j:=0) (x:=v) (by rw[f];rfl);rw[np,ks] at V;obtain⟨e0,e1,e2,e3,e4,e5,e6⟩:=V;have K:=bF x;rw[f,T.ndL] at K;have ab:v∈x.FN:=by rw[f];simp
 have A:=hY ((fN fs gs v hv).after O S0.o ak (X.mono (by omega)) (aN (bW ab) hN));have z:x.FN.length<=S:=C.FN.cap;have av:x.FN.length<=1048576:=C.FN.small;have ae:S≠1:=by intro h;rw[f] at z;simp only[gi] at z;omega
 have NR:Hid (NAt (w.alloc (.cells (af x.kind x.name x.FP.length x.FQ.length x.FN.length x.FY x.FR a1 c1 a2 c2 (some ⟨g,E,none⟩) S) 26)) top (some ⟨g,E+7,none⟩) (S-1) (n::d)):=hY (by
  have hd:=C.FN.drop (lo:=1) (by rw[f];simp);rw[if_neg ae,show x.FN.drop 1=n::d by rw[f];rfl] at hd;rw[Ac,Fw,show(⟨g,E,none⟩:Addr).add 7=⟨g,E+7,none⟩ by simp[Addr.add]] at hd
  exact hd)
 have NM:Hid (∀m∈n::d,∀y∈m.FN,T.nms y<=ao):=hY (fun m L y hy=>aN (bW hy) (aN (bW (x:=x) (y:=m) (by rw[f];exact sb _ L)) hN));have HX:=hY hx;have EN:=hY O;have H:=iU fs gs v (a::rgs c) s
 have BB:Hid (Bud (bg fs gs v (a::rgs c) s).1 (its++(bg fs gs v (a::rgs c) s).2).length c.length (4*T.ndL (n::d)+1)):=hY (by
  have hp:=bG v;refine⟨?_,?_,?_,?_⟩
  ·have:=X.its;have:=H.its;rw[bY];omega
  ·have:=X.lab;have:=H.lab;omega
  ·have:=X.lit;have:=H.lit;omega
  ·have:=X.dep;omega)
 have CE:Hid (zL fs gs v (n::d) (a::rgs c) s=((cV fs gs (db v) (n::d) (a::rgs c) (bg fs gs v (a::rgs c) s).1).1,(bg fs gs v (a::rgs c) s).2++(cV fs gs (db v) (n::d) (a::rgs c) (bg fs gs v (a::rgs c) s).1).2)):=rfl;have M:x.FN.length=d.length+1+1:=by rw[f];rfl
 rw[M] at q1 q2 EX S0 KB A NR EN z av e0 e1 e2 e3 e4 e5 e6 ⊢;have RL:Hid ((n::d).length=d.length+1):=hY rfl;clear hP C hE O hC X hN hx hv ak hg K ab H f M;generalize bg fs gs v (a::rgs c) s=q at*;generalize db v=b at*;generalize d.length=u at*;generalize x.kind=k at*;generalize x.name=nm at*;generalize x.FP.length=n1 at*;generalize x.FQ.length=n2 at*;generalize x.FY=pr at*;generalize x.FR=pl at*;have bd:(0:Int)<(u:Int)+1+1:=by omega
 have bc:(1:Int)<(u:Int)+1+1:=by omega
 have bb:(0:Int)<((u+1+1:Nat):Int):=by omega
 have ba:(1:Int)<((u+1+1:Nat):Int):=by omega
 go_enter Tryz.func173,Tryz.ntmps173;go_upto_region 1 with fail;generalize ax:w.alloc _=W1 at*;clear ax;go_upto_region 2 with(first|(go_at_call 171;refine A.o.m fun w2 S2=>?_));clear q1 q2 e0 e1 e2 e3 e4 e5 e6;obtain⟨q3,q4⟩:=KB.o _ _ _ S2.o;go_upto_region 4 with fail;have R0:Hid (pW fs gs b (n::d) (a::rgs c) q.1 (its++q.2).length c.length 0 q.1 []):=hY ⟨by simp,by simpa using BB.o⟩;clear q3 q4 A S0
 go_loopw [22] (fun i wr=>∃(j:Nat) (t:GS) (D:List It),j<=u+1/\i=.i j/\aa base p W1 Z Y F t ((r,a,(its++q.2)++D)::c) wr/\pW fs gs b (n::d) (a::rgs c) q.1 (its++q.2).length c.length j t D) (fun i _=>u+1-(intOf i).toNat)
 case atStart=>exact⟨0,q.1,[],by omega,rfl,by rw[kn];exact S2.o,R0.o⟩
 case round=>
  obtain⟨j,t,D,hj,rfl,V,hR⟩:=hrel;have R:=hY hR;by_cases hlt:j<u+1
  ·obtain⟨m,L⟩:∃m,(n::d)[j]?=some m:=⟨(n::d)[j]'(by rw[RL.o];exact hlt),by simp⟩
   obtain⟨F2,P,I⟩:=V;have J:=EN.o.step I P;have M2:=hY I;obtain⟨g',az,b1,d1,b2,d2,U,Q,ad,hg,ay,aj⟩:=(NR.o.keep (EN.o.low I)).seven L;simp only[dO,Addr.mk.injEq,and_true] at ad;obtain⟨rfl,rfl⟩:=ad;obtain⟨e0,e1,e2,e3,e4,e5,e6⟩:=ay;have EY:=xal wr m b1 d1 b2 d2 U Q;have SA:=hY (aa.refl (P.ext EY.o));have au:=hY (J.ext EY.o);have PY:=hY (aj.keep (am EY.o J.tw));have YB:=hY (fun(W:World) s' ch' (h:aa base p (wr.alloc (.cells (aB m.kind m.name m.FP.length m.FQ.length m.FN.length m.FY m.FR b1 d1 b2 d2 U Q).toArray 26)) Z Y F2 s' ch' W)=>J.boxC h);obtain⟨t1,t2⟩:=YB.o _ _ _ SA.o;have R2:=hY (R.o.next L);have l:=R.o.bud;rw[fi L] at l;have hp:=bF m;have ac:=tA fs gs m.name b m.FN m.FN.length (a::rgs c) t;have MC:Hid (∀(W:World) (G:List It),G.length<=1->aa base p (wr.alloc (.cells (af m.kind m.name m.FP.length m.FQ.length m.FN.length m.FY m.FR b1 d1 b2 d2 U Q) 26)) Z Y F2 t ((r,a,(its++q.2)++D++G)::c) W->Calls Tryz.prog 172 #[.pointer (some ⟨p,0,none⟩),.string (mkS m.name),.slice U m.FN.length Q,.bool b] W fun e w'=>e=nrm/\aa base p (wr.alloc (.cells (af m.kind m.name m.FP.length m.FQ.length m.FN.length m.FY m.FR b1 d1 b2 d2 U Q) 26)) Z Y F2 (eE fs gs m.name b m.FN m.FN.length (a::rgs c) t).1 ((r,a,(its++q.2)++D++G++(eE fs gs m.name b m.FN m.FN.length (a::rgs c) t).2)::c) w'):=hY (fun W G h2 st=>st.next (R:=fun e=>e=nrm) fun F3 aq ap=>gS fs gs m.FN (HX.o m (eQ L)) m.name PY.o.name b base top p W Z Y t r a _ c F3 U Q (au.o.step ap aq) aq (PY.o.FN.keep (au.o.low ap)) ⟨by have:=l.its;simp only[bY] at this ⊢;omega,by have:=l.lab;omega,by have:=l.lit;omega,by have:=l.dep;omega⟩ (NM.o m (eQ L)));have B1:Hid ((its++q.2++D).length<=bq):=hY (by have:=l.its;simp only[bY] at this ⊢;omega);have B2:Hid ((its++q.2++D++[It.ins 15 0 0 0]++(eE fs gs m.name b m.FN m.FN.length (a::rgs c) t).2).length<=bq):=hY (by have h1:=l.its;have h2:=ac.its;simp only[bY,gi,hG] at h1 ⊢;omega);clear P J I aj hg L hR R l hp ac;generalize al:eE fs gs m.name b m.FN m.FN.length (a::rgs c) t=MG at*;have be:=hY al;clear al;generalize m.kind=km at*;generalize m.name=a5 at*;generalize m.FP.length=a8 at*;generalize m.FQ.length=a7 at*;generalize m.FN.length=a6 at*;generalize m.FY=a0 at*;generalize m.FR=a4 at*;by_cases hlast:j+1<u+1
   ·rw[RL.o,if_pos hlast] at R2
    have aw:(j:Int)+1<(u:Int)+1:=by omega
    go_upto_region 6 with fail;generalize N:wr.alloc _=W3 at*;clear N;go_wp2_with (first|(go_at_call 60;first|((with_reducible refine(cr S5.o B2.o _).mono ?_);rintro e w6 ⟨rfl,ag⟩;have S6:=hY ag;clear ag)|((with_reducible refine(cr SA.o B1.o _).mono ?_);rintro e w4 ⟨rfl,ah⟩;have S4:=hY ah;clear ah;obtain⟨t3,t4⟩:=YB.o _ _ _ S4.o))|(go_at_call 172;refine(MC.o _ _ (by simp) S4.o).m fun w5 S5=>?_));go_roundw
    case rel=>exact⟨j+1,MG.1,D++([.ins 15 0 0 0]++MG.2++[.ins 14 0 0 0]),by omega,by go_num,by
     have h:=(aa.FZ EY.o S6.o).join M2.o;simp only[gz] at h ⊢
     exact h,R2.o⟩
    case measure=>simp[intOf];omega
   ·rw[RL.o,if_neg hlast] at R2
    have aw:¬(j:Int)+1<(u:Int)+1:=by omega
    have ar:=hY (MC.o _ [] (by simp) (by rw[kn];exact SA.o));rw[kn] at ar;go_upto_region 6 with fail;generalize N:wr.alloc _=W3 at*;clear N;go_wp2_with (first|(go_at_call 172;refine ar.o.m fun w5 S5=>?_));go_roundw
    case rel=>exact⟨j+1,MG.1,D++MG.2,by omega,by go_num,by
     have h:=(aa.FZ EY.o S5.o).join M2.o;simp only[gz] at h ⊢
     exact h,R2.o⟩
    case measure=>simp[intOf];omega
  ·have a9:j=u+1:=by omega
   have CG:Hid (cV fs gs b (n::d) (a::rgs c) q.1=(t,D)):=hY (by
    have h1:=R.o.eq;rw[hH (by rw[RL.o];omega),cV] at h1
    simpa using h1)
   have SF:=hY V;clear V hR R;go_wp2_with fail
   (first|refine QzE rfl rfl ?_|refine QzR rfl rfl ?_);exact ⟨rfl,by rw[CE.o,CG.o];have h:=aa.FZ EX.o SF.o;rw[gz] at h;exact h⟩
def nW (k a b c z:Int):Prop:=(if k=1\/k=3\/k=15 then 0<=a/\a<=255 else a=0)/\(if k=3\/k=15 then 0<=b/\b<=255 else b=0)/\(if k=15 then 0<=c/\c<=255 else c=0)/\(if k=8\/k=15 then-32768<=z/\z<=32767 else z=0)
theorem Bt (w:World)(s:BL)(k r q:Int)(u:Bool)(op a b c z:Int)(t:KOK k)(C:nW k a b c z):Calls Tryz.prog 126 #[.agg #[.string (mkS s),.i k,.i r,.i q,.bool u],.agg #[.i op,.i a,.i b,.i c,.i z]] w fun e w'=>e=.returned (.bool true)/\Ext w w':=by
 obtain⟨h,g,f,d⟩:=C;obtain⟨G,x,v⟩:=Eb w #[.string (mkS s),.i k,.i r,.i q,.bool u] #[.i op,.i a,.i b,.i c,.i z] 196 91;obtain⟨B,A,y⟩:=pB a b c;have D:=hY t;have F:=hY (And.intro h (And.intro g (And.intro f d)));clear t h g f d;obtain⟨p,n⟩:=blk x.o;obtain⟨m,l⟩:=blk v.o;go_enter Tryz.func126,Tryz.ntmps126;go_upto_region 1 with fail;generalize(w.alloc _).alloc _=W1 at*;go_upto_region 2 with fail;clear p n m l
 go_loopw [15] (fun i wr=>Ext W1 wr/\(i=.i 0\/i=.i 1\/i=.i 2\/i=.i 3)) (fun i _=>3-(intOf i).toNat)
 case atStart=>exact⟨Ext.refl _,.inl rfl⟩
 case round=>
  obtain⟨j,hrel⟩:=hrel;obtain⟨p,n⟩:=blk (j.keep x.o);obtain⟨m,l⟩:=blk (j.keep v.o);have E:=hY j;clear j;obtain⟨h,g,f,d⟩:=F.o;rcases D.o with rfl|rfl|rfl|rfl|rfl<;>simp at h g f d<;>rcases hrel with rfl|rfl|rfl|rfl
  all_goals
   first|subst h|obtain⟨O,N⟩:=h
   first|subst g|obtain⟨M,L⟩:=g
   first|subst f|obtain⟨K,J⟩:=f
   first|subst d|obtain⟨I,H⟩:=d
   first
   |(go_upto_region 5 with fail;go_quiet (fail);go_wp2_with fail;go_roundw;(case rel=>exact⟨E.o.trans ((Ext.refl _).drewN _),by simp⟩);(case measure=>decide))
   |(go_wp2_with fail;go_ret;exact⟨rfl,G.o.trans E.o⟩)
def Ds:Code->Code
 |.seq _ (.scope c)=>c
 |c=>c
structure WX (w:World)(b0:Nat)(P:WP)(w0:World)(a t:Int)(nf:Nat)(e flt:Int)(FU:List Lit3)(la:Option Addr)(lc gl cl gp cp mbv:Nat)(ov bv:Value)(FL:List (Int×aL))(AL:aZ)(l:List It)(gs sc:Nat):Prop where
 ext:Ext w w0
 F:WF P w0 a t (nf:Int) e flt (.slice la FU.length lc) (.slice (some ⟨gl,0,none⟩) FL.length cl) (.slice (some ⟨gp,0,none⟩) FL.length cp) (.map (some mbv)) (.slice (some ⟨P.gR,0,none⟩) P.NR P.cR) ov bv
 C:VC b0 P.pv w0 ⟨a,t,(nf:Int),e,flt,.slice la FU.length lc,.slice (some ⟨gl,0,none⟩) FL.length cl,.slice (some ⟨gp,0,none⟩) FL.length cp,.map (some mbv),.slice (some ⟨P.gd,0,none⟩) P.DL P.cd⟩ FL nf FU gl cl gp cp mbv AL la lc
 at_:kE (FL.map (·.1)) e FL.length FL.length AL
 sv:P.re.sv=.slice (some ⟨gs,0,none⟩) P.n sc
 sr:w0.ownsRow P.base 3 1 (.slice (some ⟨gs,0,none⟩) P.n sc) P.n ((cK P.st).map bz)
 ne:gs≠P.gd/\gp≠P.gd
 hi:w.heap.size<=P.gw
 stl:P.st.length=P.n/\P.st.Nodup
 reg:cB l
 most:ai l<=127
 step:∀(q:Nat) (x:It),l[q]?=some x->ay x=false->∃i p y,vT FL P.st l (rk l q) q x i p y
 ok:∀y∈FL,cH y.2.op=true/\0<=y.1/\y.1<=32767/\0<=y.2.a/\y.2.a<=255/\0<=y.2.b/\y.2.b<=255
structure Lk (st:List Nat)(DV D DV0:List Int):Prop where
 own:∀(k i:Nat),st[k]?=some i->DV[i]?=D[k]?
 oth:∀(i:Nat),¬i∈st->DV[i]?=DV0[i]?
theorem Lk.set {m:List Nat}{DV D l:List Int}(h:Lk m DV D l)(r:m.Nodup){k i:Nat}(n:m[k]?=some i)(f:k<D.length)(d:Int):Lk m (DV.set i d) (D.set k d) l:=by
 have p:DV[i]?=some D[k]:=by rw[h.own k i n];exact iD f
 refine⟨fun b c a=>?_,fun c g=>?_⟩
 ·by_cases e:k=b
  ·subst e
   rw[n] at a;cases a;rw[pn (aC.1 p).1,pn f]
  ·have q:i≠c:=fun o=>e (by
    obtain⟨v,u⟩:=aC.1 n;obtain⟨t,s⟩:=aC.1 a;rcases Nat.lt_trichotomy k b with j|j|j
    ·exact absurd (u.trans (o.trans s.symm)) (List.pairwise_iff_getElem.1 r k b v t j)
    ·exact j
    ·exact absurd (s.trans (o.symm.trans u.symm)) (List.pairwise_iff_getElem.1 r b k t v j))
   rw[lT q,lT e];exact h.own b c a
 ·have q:i≠c:=fun o=>g (by rw[←o];exact eQ n)
  rw[lT q];exact h.oth c g
theorem WX.keepC {w:World}{b0:Nat}{P:WP}{f:World}{a t:Int}{O:Nat}{e A:Int}{FU:List Lit3}{R:Option Addr}{Q d cl g cp n:Nat}{N bv:Value}{FL:List (Int×aL)}{K:aZ}{l:List It}{gs L:Nat}(X:WX w b0 P f a t O e A FU R Q d cl g cp n N bv FL K l gs L){V:World}(m:Mod [P.gd,P.gR,P.gw] f V):
 (∀(k:Nat) (p:Int) (x:aL),FL[k]?=some (p,x)->V.cell? ⟨d,k*5,none⟩=some (.i x.op)/\V.cell? ⟨d,k*5+1,none⟩=some (.i x.a)/\V.cell? ⟨d,k*5+2,none⟩=some (.i x.b)/\V.cell? ⟨d,k*5+3,none⟩=some (.i x.c)/\V.cell? ⟨d,k*5+4,none⟩=some (.i x.to)/\V.cell? ⟨g,k,none⟩=some (.i p))/\cQ V n .i64 K/\(∀k i:Nat,P.st[k]?=some i->V.cell? ⟨gs,k,none⟩=some (.i (i:Int)))/\d<V.heap.size/\g<V.heap.size:=by
 obtain⟨aa,s⟩:=X.F.tgd;obtain⟨Z,j⟩:=X.F.tgR;obtain⟨Y,h⟩:=X.F.tgw;obtain⟨l1,G,W,u⟩:=aw X.C.l;obtain⟨p1,E,U,J⟩:=aw X.C.p;obtain⟨s1,M,S,I⟩:=aw X.sr
 have z:V.heap[d]?=f.heap[d]?:=m.block d G (by
  simp only[aS,aT,or_false,not_or];refine⟨fun e=>?_,fun e=>?_,fun e=>?_⟩
  ·rw[←e] at s;exact cZ u (by decide) _ _ s
  ·rw[←e] at j;exact cZ u (by decide) _ _ j
  ·rw[←e] at h;exact cZ u (by decide) _ _ h)
 have y:V.heap[g]?=f.heap[g]?:=m.block g E (by
  simp only[aS,aT,or_false,not_or];refine⟨X.ne.2,fun e=>?_,fun e=>?_⟩
  ·rw[←e] at j;exact cZ J (by decide) _ _ j
  ·rw[←e] at h;exact cZ J (by decide) _ _ h)
 have v:V.heap[gs]?=f.heap[gs]?:=m.block gs M (by
  simp only[aS,aT,or_false,not_or];refine⟨X.ne.1,fun e=>?_,fun e=>?_⟩
  ·rw[←e] at j;exact cZ I (by decide) _ _ j
  ·rw[←e] at h;exact cZ I (by decide) _ _ h)
 have D:∀o,V.cell? ⟨d,o,none⟩=f.cell? ⟨d,o,none⟩:=fun o=>by unfold World.cell?;rw[z]
 have B:∀o,V.cell? ⟨g,o,none⟩=f.cell? ⟨g,o,none⟩:=fun o=>by unfold World.cell?;rw[y]
 have q:∀o,V.cell? ⟨gs,o,none⟩=f.cell? ⟨gs,o,none⟩:=fun o=>by unfold World.cell?;rw[v]
 refine⟨fun k p x r=>?_,?_,fun k i r=>?_,bA G m.size,bA E m.size⟩
 ·simp only[D,B]
  exact X.C.at r
 ·refine X.C.map.mod m (fun H=>?_)
  simp only[aS,aT,or_false] at H;rcases H with e|e|e
  ·exact X.C.map.ne_cells s e.symm
  ·exact X.C.map.ne_cells j e.symm
  ·exact X.C.map.ne_cells h e.symm
 ·rw[q,aX X.sr k (by rw[←X.stl.1];exact(aC.1 r).1)]
  simp[cK,r,bz]
theorem WF.rebase {P:WP}{c:World}{a t f e b:Int}{k g d m i j l:Value}(F:WF P c a t f e b k g d m i j l){V:World}{DV:List Int}{M:Int}{Wb:List Bool}(h:WK P c V DV M Wb):WF P V a t f e b k g d m i j l:=
 ⟨F.blk h.mod F.pvb (by decide) (by decide) (by decide),F.blk h.mod F.k2 (by decide) (by decide) (by decide),F.blk h.mod F.k3 (by decide) (by decide) (by decide),F.blk h.mod F.k4 (by decide) (by decide) (by decide),F.blk h.mod F.k5 (by decide) (by decide) (by decide),F.mapAt h.mod,F.rk,(aw h.dr).2.2,(aw h.rr).2.2,(aw h.wr).2.2,F.hj,F.hlj⟩
theorem xf {D:List Int}{r:Nat}{e:Int}{k:Nat}{d:Int}(b:D[k]?=some d)(f:0<=d):(oT D r e)[k]?=some d:=by
 unfold oT
 split
 ·rename_i h
  have a:r≠k:=fun c=>by
   subst c;rw[u7,b] at h;simp at h;omega
  rw[lT a];exact b
 ·exact b
theorem mP (w:World)(b0:Nat)(P:WP)(I:World)(a t:Int)(J:Nat)(e m:Int)(FU:List Lit3)(la:Option Addr)(lc gl cl gp cp K:Nat)(ov bv:Value)(FL:List (Int×aL))(AL:aZ)(l:List It)(gs Z:Nat)(X:WX w b0 P I a t J e m FU la lc gl cl gp cp K ov bv FL AL l gs Z)
 (V:World) (B DV D:List Int) (M:Int) (Wb:List Bool) (U:Nat->Prop) (p:WK P I V DV M Wb) (hV:Vx l P.n D Wb M U) (Q:Lk P.st DV D B) (r i:Nat) (d:Int) (hr:(iE l).R r d) (O:0<=d) (x:P.st[r]?=some i):
 Calls Tryz.prog 119 #[.i (i:Int),.i d,.pointer (some ⟨P.b2,0,none⟩),.pointer (some ⟨P.b3,0,none⟩),.pointer (some ⟨P.b4,0,none⟩),.pointer (some ⟨P.b5,0,none⟩)] V fun S w'=>S=.returned (.tuple #[])/\Mod [P.gd,P.gR,P.gw] V w'/\∃C s o,WK P I w' C (max M d) o/\Vx l P.n s o (max M d) U/\Lk P.st C s B/\cD s r/\mud s o<=mud D Wb/\(∀k,cD D k->cD s k)/\∀(k:Nat) (d:Int),D[k]?=some d->0<=d->s[k]?=some d:=by
 have Y:=X.F.rebase p;have W:WK P V V DV M Wb:=⟨Mod.refl _ _,p.dr,p.rr,p.wr⟩;have g:r<P.n:=by rw[←X.stl.1];exact(aC.1 x).1
 obtain⟨⟨d0,y,j⟩,f,E,u,v⟩:=hV.put X.reg hr O g;have z:DV[i]?=some d0:=by rw[Q.own r i x];exact y
 have L:r<D.length:=(aC.1 y).1;rcases j with⟨c,q,G⟩|⟨N,c,q,G⟩
 ·refine(oU P V V a t (J:Int) e m _ _ _ _ _ _ _ Y DV M Wb W r i x d d0 z c g).mono ?_
  rintro S w' ⟨rfl,b⟩;have A:∀(k:Nat) (H:Int),D[k]?=some H->0<=H->(oT D r d)[k]?=some H:=fun k H=>xf;rw[q,G] at f;rw[q] at E v A;rw[q,G] at u;exact⟨rfl,b.mod,DV.set i d,D.set r d,Wb.set r true,⟨p.mod.trans b.mod,b.dr,b.rr,b.wr⟩,f,Q.set X.stl.2 x L d,E,u,v,A⟩
 ·refine(ti P V V a t (J:Int) e m _ _ _ _ _ _ _ Y DV M Wb W r i x d d0 z c N g).mono ?_
  rintro S w' ⟨rfl,b⟩;rw[q,G] at f;rw[q] at E;exact⟨rfl,b.mod,DV,D,Wb,⟨p.mod.trans b.mod,b.dr,b.rr,b.wr⟩,f,Q,E,gE _,fun _ h=>h,fun _ _ h _=>h⟩
end Go.Proofs.Eff
