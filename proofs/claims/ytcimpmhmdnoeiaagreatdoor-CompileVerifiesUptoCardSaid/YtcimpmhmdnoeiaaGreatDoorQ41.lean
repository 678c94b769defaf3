import Derived.Test.YtcimpmhmdnoeiaaGreatDoorQ36
import Derived.Test.YtcimpmhmdnoeiaaGreatDoorQ37
import Derived.Test.YtcimpmhmdnoeiaaGreatDoorQ40
set_option maxRecDepth 100000
set_option maxHeartbeats 4000000
set_option linter.all false
namespace Go.Proofs.Eff
open Go.RowKit
def lP (fs gs:List BL)(x:T):Prop:=
 ∀base top p w f d s r b a c F l i k h j g,s.F9=none->Env base top p w f d fs gs F->CW base p w f d s ((r,b,a)::c) F->bK w top x l i k h j g->Bud s a.length c.length (4*T.nd x)->T.nms x<=ao->
 Calls Tryz.prog 123 #[.pointer (some ⟨p,0,none⟩),.agg (af x.kind x.name x.FP.length x.FQ.length x.FN.length x.FY x.FR l i k h j g)] w fun e m=>e=nrm/\aa base p w f d F (ah fs gs x (b::rgs c) s).1 ((r,b,a++(ah fs gs x (b::rgs c) s).2)::c) m
theorem CWV.wrong_none {base p:Nat}{w:World}{e d:Value}{s:GS}{f:List RgS}{F:List Nat}{g b a:Value}{xs:List Value}{i:List Nat}(h:CWV base p w e d s f F g b a xs i)(c:s.F9=none):a=.pointer none:=by
 have:=h.F9;rw[c] at this;exact this
theorem sE (fs gs:List BL)(x:T)(base top p:Nat)(w:World)(l k:Value)(s:GS)(r:Nat)(a:Rg)(its:List It)(c:List RgS)(F:List Nat)(y:Option Addr)(q:Nat)(u:Option Addr)(n:Nat)(t:Option Addr)(m:Nat)(b:s.F9.isSome=true)(D:Env base top p w l k fs gs F)(j:CW base p w l k s ((r,a,its)::c) F):
 Calls Tryz.prog 123 #[.pointer (some ⟨p,0,none⟩),.agg (af x.kind x.name x.FP.length x.FQ.length x.FN.length x.FY x.FR y q u n t m)] w fun e w'=>e=nrm/\aa base p w l k F (ah fs gs x (a::rgs c) s).1 ((r,a,its++(ah fs gs x (a::rgs c) s).2)::c) w':=by
 have d:=xal w x y q u n t m;have A:=hY (oD fs gs (a::rgs c) s x b);have B:=hY (aa.refl (j.ext d.o));obtain⟨L,J,C,G,N,i⟩:=j.ext d.o
 obtain⟨K,rfl⟩:∃g,C=.pointer (some ⟨g,0,none⟩):=by
  have h:=i.F9;cases hw2:s.F9 with
  |none=>rw[hw2] at b;cases b
  |some z=>rw[hw2] at h;obtain⟨g,E,_⟩:=h;exact⟨g,E⟩
 obtain⟨I,H⟩:=blk i.blk;clear i D j b;go_enter Tryz.func123,Tryz.ntmps123;go_upto_region 1 with fail;generalize f:w.alloc _=M at*;clear f;go_wp2_with fail
 (first|refine QzE rfl rfl ?_|refine QzR rfl rfl ?_);exact ⟨rfl,by rw[A.o,kn];exact aa.FZ d.o B.o⟩
theorem Ad (fs gs:List BL)(x:T)(I:x.kind=8):lP fs gs x:=by
 intro base top p w U S s r i m c F G C E B D z q j y J K Q;have a:=j.ext (xal w x G C E B D z).o;have h:=xal w x G C E B D z;have N:=hY (aa.refl (y.ext h.o));have d:=J.keep (am h.o j.tw);obtain⟨q1,q2⟩:=j.boxC N.o;obtain⟨av,lv,X,W,F1,u⟩:=y.ext h.o;obtain rfl:=u.wrong_none q;obtain⟨v1,Z⟩:=blk u.blk;clear u;have A:=hY (aa.next (R:=fun e=>e=nrm) N.o fun V g f=>nA fs gs x false base top p _ U S s r i m c V G C E B D z (a.step f g) g (d.keep (a.low f)) (K.mono (by have:=bG x;omega)))
 have L:Hid (ah fs gs x (i::rgs c) s=dG fs gs x.name x.FR false (i::rgs c) s):=hY (by
  obtain⟨k,n,P,O,l,H,pl⟩:=x;obtain rfl:k=8:=I
  exact Ak fs gs n P O l H pl (i::rgs c) s q)
 clear J d j a y K Q q;generalize x.name=nm at*;generalize x.FP.length=n1 at*;generalize x.FQ.length=n2 at*;generalize x.FN.length=n3 at*;generalize x.FY=H at*;generalize x.FR=pl at*;generalize x.kind=k at*;subst I;go_enter Tryz.func123,Tryz.ntmps123;go_upto_region 1 with fail;generalize t:w.alloc _=W1 at*;clear t;go_wp2_with (go_at_call 164;refine A.o.m fun Y M=>?_)
 (first|refine QzE rfl rfl ?_|refine QzR rfl rfl ?_);exact ⟨rfl,by rw[L.o];exact aa.FZ h.o M.o⟩
theorem Ah (fs gs:List BL)(x:T)(z:x.kind=2)(u:∀y∈x.FN,eA fs gs y):lP fs gs x:=by
 intro base top p w fv gv s r h Q c F K H J G I E i g q B D C;have d:=g.ext (xal w x K H J G I E).o;have f:=xal w x K H J G I E;have N:=hY (aa.refl (q.ext f.o));have b:=B.keep (am f.o g.tw);obtain⟨Y,X⟩:=g.boxC N.o;obtain⟨av,lv,S,R,F1,m⟩:=q.ext f.o;obtain rfl:=m.wrong_none i;obtain⟨W,V⟩:=blk m.blk;clear m;have A:=hY ((zP fs gs x u).after d N.o b D C)
 have L:Hid (ah fs gs x (h::rgs c) s=pQ fs gs x (h::rgs c) s):=hY (by
  obtain⟨k,n,P,O,l,t,pl⟩:=x;obtain rfl:k=2:=z
  exact CQ fs gs n P O l t pl (h::rgs c) s i)
 clear B b g d q D C i u;generalize x.name=Z at*;generalize x.FP.length=n1 at*;generalize x.FQ.length=n2 at*;generalize x.FN.length=n3 at*;generalize x.FY=t at*;generalize x.FR=pl at*;generalize x.kind=k at*;subst z;go_enter Tryz.func123,Tryz.ntmps123;go_upto_region 1 with fail;generalize j:w.alloc _=W1 at*;clear j;go_wp2_with (go_at_call 168;refine A.o.m fun U M=>?_)
 (first|refine QzE rfl rfl ?_|refine QzR rfl rfl ?_);exact ⟨rfl,by rw[L.o];exact aa.FZ f.o M.o⟩
theorem Ae (fs gs:List BL)(x:T)(G:x.kind=6)(v d:T)(b:List T)(a:x.FN=v::d::b)(E:eY fs gs v)(D:∀m∈d::b,∀y∈m.FN,eY fs gs y):lP fs gs x:=by
 intro base top p w fv gv s r q W c F P M O L N K t j B H J I;have h:=j.ext (xal w x P M O L N K).o;have i:=xal w x P M O L N K;have S:=hY (aa.refl (B.ext i.o));have g:=H.keep (am i.o j.tw);obtain⟨q1,q2⟩:=j.boxC S.o;obtain⟨av,lv,Y,X,F1,z⟩:=B.ext i.o;obtain rfl:=z.wrong_none t;obtain⟨v1,v2⟩:=blk z.blk;clear z;have A:=hY ((vK fs gs x v d b a E D).after h S.o g J I)
 have Q:Hid (ah fs gs x (q::rgs c) s=zL fs gs v (d::b) (q::rgs c) s):=hY (by
  obtain⟨k,n,V,U,l,C,pl⟩:=x;obtain rfl:k=6:=G;obtain rfl:l=v::d::b:=a
  exact CJ fs gs n V U C pl (q::rgs c) s v (d::b) t)
 clear H g j h B J I t D E a;generalize x.name=nm at*;generalize x.FP.length=n1 at*;generalize x.FQ.length=n2 at*;generalize x.FN.length=n3 at*;generalize x.FY=C at*;generalize x.FR=pl at*;generalize x.kind=k at*;subst G;go_enter Tryz.func123,Tryz.ntmps123;go_upto_region 1 with fail;generalize u:w.alloc _=W1 at*;clear u;go_wp2_with (go_at_call 173;refine A.o.m fun Z R=>?_)
 (first|refine QzE rfl rfl ?_|refine QzR rfl rfl ?_);exact ⟨rfl,by rw[Q.o];exact aa.FZ i.o R.o⟩
theorem fS (k:Int)(n:BL)(b a:List BL)(l:List T)(p pl:Int):aH (.mk k n b a l p pl)=aH (.mk k n b a l 0 0):=by
 rw[aH,aH]
theorem wt (l:BL)(a M:Nat)(d:a<=M)(g:M<1844674407370955162)(h:l.all cU=true):(nv a l<=M/\Lib.parseUintM M a l=.ok (nv a l))\/(M<nv a l/\Lib.parseUintM M a l=.range):=by
 induction l generalizing a with
 |nil=>exact .inl ⟨d,rfl⟩
 |cons c r ih=>
  rw[x0,gT] at h;have b:=(gY c).1 h.1;have e:nv a (c::r)=nv (a*10+(c.toNat-48)) r:=by unfold nv;rw[List.foldl_cons];congr 1;omega
  rw[Lib.parseUintM,if_pos b,e,if_neg (by omega)];have f:=yZ r (a*10+(c.toNat-48));by_cases h2:M<a*10+(c.toNat-48)
  ·rw[if_pos h2];exact .inr ⟨by omega,rfl⟩
  ·rw[if_neg h2];exact ih _ (by omega) h.2
theorem mt {r:BL}(h:bE r=true):r≠[]/\r.all cU=true:=by
 simp only[bE,gT,Bool.not_eq_true',Bool.or_eq_true,bne_iff_ne,ne_eq,decide_eq_true_eq] at h;exact⟨by intro e;subst e;simp at h,h.2⟩
theorem AO {n:BL}(h:dz n=true):(dC n=true/\Lib.parseIntB 16 n=.ok (ej n))\/(dC n=false/\Lib.parseIntB 16 n=.range):=by
 by_cases hc:∃r,n=45::r
 ·obtain⟨r,rfl⟩:=hc
  have j:bE r=true:=by
   have:(bE r&&r !=[48])=true:=h;simp only[gT] at this;exact this.1
  obtain⟨d,a⟩:=mt j;have i:ej (45::r)= -(nv 0 r:Int):=rfl;have l:(45:UInt8).toNat=45:=rfl;unfold dC;rw[i,Lib.parseIntB];simp only[l,or_true,if_true,Lib.parseUintB,if_neg d];rcases wt r 0 (2 ^ 16-1) (by decide) (by decide) a with⟨k,b⟩|⟨k,b⟩
  ·rw[b]
   simp only[not_true_eq_false,false_and,if_false,true_and];by_cases h2:2 ^ (16-1)<nv 0 r
   ·rw[if_pos h2]
    refine .inr ⟨?_,rfl⟩;have:¬(-32768<= -(nv 0 r:Int)):=by omega
    simp[this]
   ·rw[if_neg h2]
    refine .inl ⟨?_,rfl⟩;have o:(-32768:Int)<= -(nv 0 r:Int):=by omega
    have m: -(nv 0 r:Int)<=32767:=by omega
    simp[o,m]
  ·rw[b]
   refine .inr ⟨?_,rfl⟩;have:¬(-32768<= -(nv 0 r:Int)):=by omega
   simp[this]
 ·have j:bE n=true:=by
   unfold dz at h
   split at h
   ·rename_i r;exact absurd ⟨r,rfl⟩ hc
   ·exact h
  obtain⟨d,a⟩:=mt j;cases n with
  |nil=>exact absurd rfl d
  |cons c t=>
   have q:=(gY c).1 (by rw[x0,gT] at a;exact a.1);have p:c≠45:=fun e=>hc ⟨t,by rw[e]⟩
   have i:ej (c::t)=(nv 0 (c::t):Int):=by
    unfold ej
    split
    ·rename_i r e;exact absurd ⟨r,e⟩ hc
    ·rfl
   unfold dC;rw[i,Lib.parseIntB];have g:¬c.toNat=43:=by omega
   have f:¬c.toNat=45:=by omega
   simp only[g,f,or_self,if_false,Lib.parseUintB,List.cons_ne_nil];rcases wt (c::t) 0 (2 ^ 16-1) (by decide) (by decide) a with⟨k,b⟩|⟨k,b⟩
   ·rw[b]
    simp only[not_false_eq_true,true_and,false_and,if_false];by_cases h2:2 ^ (16-1)<=nv 0 (c::t)
    ·rw[if_pos h2]
     refine .inr ⟨?_,rfl⟩;have:¬((nv 0 (c::t):Int)<=32767):=by omega
     simp[this]
    ·rw[if_neg h2]
     refine .inl ⟨?_,rfl⟩;have o:(-32768:Int)<=(nv 0 (c::t):Int):=by omega
     have m:(nv 0 (c::t):Int)<=32767:=by omega
     simp[o,m]
   ·rw[b]
    refine .inr ⟨?_,rfl⟩;have:¬((nv 0 (c::t):Int)<=32767):=by omega
    simp[this]
theorem tq (w:World)(n:BL)(k:n.length<=ao)(g:fJ w)(l:dz n=true):Calls Tryz.prog 165 #[.string (mkS n),.i 10,.i 16] w fun e w'=>Ext w w'/\((dC n=true/\e=.returned (.tuple #[.i (ej n),.nilIface]))\/(dC n=false/\∃v N,e=.returned (.tuple #[.i v,.iface 295 (.pointer (some ⟨N,0,none⟩))]))):=by
 have h:(mkS n).size<=1048576:=by rw[aR];exact k
 have e:(mkS n).data.toList=n:=aG n;rcases AO l with⟨c,b⟩|⟨c,b⟩
 ·refine(Go.Proofs.Tryz.strconv_ParseInt_10_at16_ok (mkS n) (by omega) (ej n) (by rw[e];exact b) w).mono ?_
  rintro e w' ⟨rfl,a⟩;refine⟨?_,.inl ⟨c,rfl⟩⟩;rcases a with rfl|⟨t,rfl⟩
  ·exact Ext.refl _
  ·exact dD t w
 ·obtain⟨d,f,j⟩:=g.rng
  refine(Go.Proofs.Tryz.strconv_ParseInt_10_at16_range (mkS n) (by omega) (by rw[e];exact b) _ w j (.inr ⟨d,f,rfl⟩)).mono ?_;rintro e w' ⟨N,rfl,_,_,a⟩;exact⟨a,.inr ⟨c,_,N,rfl⟩⟩
theorem wL (fs gs:List BL)(x:T)(C:x.kind=9)(Q:T.expr x=true)(D:dC x.name=true):lP fs gs x:=by
 intro base top p w fv gv s r N its c F t j q h m g B y I R J Y;have f:=y.ext (xal w x t j q h m g).o;have u:=xal w x t j q h m g;have V:=hY (aa.refl (I.ext u.o));have b:=R.keep (am u.o y.tw);obtain⟨q1,q2⟩:=y.boxC V.o;obtain⟨av,lv,wv,xs,F1,G⟩:=I.ext u.o;obtain rfl:=G.wrong_none B;obtain⟨v1,v2⟩:=blk G.blk;clear G
 have P:dz x.name=true:=by
  obtain⟨k,n,O,M,l,A,pl⟩:=x;obtain rfl:k=9:=C;exact zz Q
 have X:=hY (tq _ x.name b.name f.vars P);have ab:Hid (s.FU.length<=bq):=hY (by have:=J.lit;omega);have K:Hid (its.length<=bq):=hY (by have:=J.its;omega);have KB:=hY (fun W H=>(bt w (aB x.kind x.name x.FP.length x.FQ.length x.FN.length x.FY x.FR t j q h m g) 26 W H).1)
 have S:Hid (ah fs gs x (N::rgs c) s=(s,[.ins 7 0 0 (ej x.name)])):=hY (by
  obtain⟨k,n,O,M,l,A,pl⟩:=x;obtain rfl:k=9:=C
  exact Aj fs gs n O M l A pl (N::rgs c) s B D)
 have P2:Hid (Calls Tryz.prog 165 #[.string (mkS x.name),.i 10,.i 16] (w.alloc (.cells (af x.kind x.name x.FP.length x.FQ.length x.FN.length x.FY x.FR t j q h m g) 26)) fun e L=>e=.returned (.tuple #[.i (ej x.name),.nilIface])/\Ext (w.alloc (.cells (af x.kind x.name x.FP.length x.FQ.length x.FN.length x.FY x.FR t j q h m g) 26)) L):=hY (by
  refine X.o.mono ?_;rintro e L ⟨Z,⟨_,z⟩|⟨z,_⟩⟩
  ·exact⟨z,Z⟩
  ·rw[D] at z;cases z)
 clear R b y f I J Y B Q P D X;generalize ej x.name=iv at*;generalize x.name=nm at*;generalize x.FP.length=n1 at*;generalize x.FQ.length=n2 at*;generalize x.FN.length=n3 at*;generalize x.FY=A at*;generalize x.FR=pl at*;generalize x.kind=k at*;subst C;go_enter Tryz.func123,Tryz.ntmps123;go_upto_region 1 with fail;generalize E:w.alloc _=W1 at*;clear E
 go_wp2_with (first
  |(go_at_call 165;refine P2.o.m fun w4 d=>?_;have S4:=hY (V.o.ext d.o))
  |(go_at_call 124;refine(bh S4.o K.o _ _ _ _).m fun w6 U=>?_))
 (first|refine QzE rfl rfl ?_|refine QzR rfl rfl ?_);exact ⟨rfl,by rw[S.o];exact aa.FZ u.o U.o⟩
theorem uA (fs gs:List BL)(x:T)(C:x.kind=9)(J:T.expr x=true)(I:dC x.name=false):lP fs gs x:=by
 intro base top p w fv gv s r Y its c F t j q h m g H D M hP O hN;have a:=D.ext (xal w x t j q h m g).o;have B:=xal w x t j q h m g;have S0:=hY (aa.refl (M.ext B.o));have d:=hP.keep (am B.o D.tw);obtain⟨q1,q2⟩:=D.boxC S0.o;obtain⟨av,lv,wv,xs,F1,L⟩:=M.ext B.o;obtain rfl:=L.wrong_none H;obtain⟨v1,v2⟩:=blk L.blk;clear L
 have hi:dz x.name=true:=by
  obtain⟨k,n,Z,X,l,G,pl⟩:=x;obtain rfl:k=9:=C;exact zz J
 have PI:=hY (tq _ x.name d.name a.vars hi);have S:Hid (s.FU.length<=bq):=hY (by have:=O.lit;omega);have U:Hid (its.length<=bq):=hY (by have:=O.its;omega);have KB:=hY (fun W b=>(bt w (aB x.kind x.name x.FP.length x.FQ.length x.FN.length x.FY x.FR t j q h m g) 26 W b).1);have R:=hY (fun W (b:Ext (w.alloc (.cells (af x.kind x.name x.FP.length x.FQ.length x.FN.length x.FY x.FR t j q h m g) 26)) W)=>eJ x J (by rw[C];decide) W top t j q h m g (aN a.tw b.size) (a.vars.ext b) (d.keep (am b a.tw)))
 have Q:Hid (ah fs gs x (Y::rgs c) s=((s.lit (aH x)).1,[.ins 6 (s.lit (aH x)).2 0 0])):=hY (by
  obtain⟨k,n,Z,X,l,G,pl⟩:=x;obtain rfl:k=9:=C;rw[fS]
  exact lu fs gs n Z X l G pl (Y::rgs c) s 9 H (.inl ⟨rfl,I⟩))
 have P2:Hid (Calls Tryz.prog 165 #[.string (mkS x.name),.i 10,.i 16] (w.alloc (.cells (af x.kind x.name x.FP.length x.FQ.length x.FN.length x.FY x.FR t j q h m g) 26)) fun e V=>∃v N,e=.returned (.tuple #[.i v,.iface 295 (.pointer (some ⟨N,0,none⟩))])/\Ext (w.alloc (.cells (af x.kind x.name x.FP.length x.FQ.length x.FN.length x.FY x.FR t j q h m g) 26)) V):=hY (by
  refine PI.o.mono ?_;rintro e V ⟨h1,⟨E,_⟩|⟨_,v,N,E⟩⟩
  ·rw[I] at E;cases E
  ·exact⟨v,N,E,h1⟩)
 clear hP d D a M O hN H J hi I PI;obtain⟨P,u⟩:∃P,P=aH x:=⟨_,rfl⟩;unfold iL at R;rw[←u] at R Q;clear u;generalize x.name=nm at*;generalize x.FP.length=n1 at*;generalize x.FQ.length=n2 at*;generalize x.FN.length=n3 at*;generalize x.FY=G at*;generalize x.FR=pl at*;generalize x.kind=k at*;subst C;go_enter Tryz.func123,Tryz.ntmps123;go_upto_region 1 with fail;generalize K:w.alloc _=W1 at*;clear K
 go_wp2_with (first
  |(go_at_call 165;refine P2.o.mono ?_;rintro e w3 ⟨iv,N,rfl,f⟩;have E3:=hY f;obtain q3:=KB.o _ f;clear f)
  |(go_at_call 167;refine(R.o _ E3.o).mono ?_;rintro e w4 ⟨la,lc,rfl,hL,A⟩;have L4:=hY hL;have E4:=hY A;clear hL A)
  |(go_at_call 166;refine(iW (S0.o.ext E3.o) E4.o S.o P la lc L4.o).m fun w5 S5=>?_)
  |(go_at_call 124;refine(bh S5.o U.o _ _ _ _).m fun w6 SF=>?_))
 (first|refine QzE rfl rfl ?_|refine QzR rfl rfl ?_);exact ⟨rfl,by rw[Q.o];exact aa.FZ B.o SF.o⟩
theorem sJ (fs gs:List BL)(x:T)(q:x.kind=10)(O:T.expr x=true):lP fs gs x:=by
 intro base top p w fv gv s r M its c F H D G C E B m j y P z Y;have a:=j.ext (xal w x H D G C E B).o;have i:=xal w x H D G C E B;have S:=hY (aa.refl (y.ext i.o));have g:=P.keep (am i.o j.tw);obtain⟨q1,q2⟩:=j.boxC S.o;obtain⟨av,lv,wv,xs,F1,u⟩:=y.ext i.o;obtain rfl:=u.wrong_none m;obtain⟨v1,v2⟩:=blk u.blk;clear u;have J:=hY (eJ x O (by rw[q];decide) _ top H D G C E B a.tw a.vars g);have K:Hid (s.FU.length<=bq):=hY (by have:=z.lit;omega);have L:Hid (its.length<=bq):=hY (by have:=z.its;omega)
 have I:Hid (ah fs gs x (M::rgs c) s=((s.lit (aH x)).1,[.ins 6 (s.lit (aH x)).2 0 0])):=hY (by
  obtain⟨k,n,V,U,l,N,pl⟩:=x;obtain rfl:k=10:=q;rw[fS]
  exact lu fs gs n V U l N pl (M::rgs c) s 10 m (.inr (by decide)))
 clear P g j a y z Y m O;obtain⟨A,b⟩:∃A,A=aH x:=⟨_,rfl⟩;unfold iL at J;rw[←b] at J I;clear b;generalize x.name=nm at*;generalize x.FP.length=n1 at*;generalize x.FQ.length=n2 at*;generalize x.FN.length=n3 at*;generalize x.FY=N at*;generalize x.FR=pl at*;generalize x.kind=k at*;subst q;go_enter Tryz.func123,Tryz.ntmps123;go_upto_region 1 with fail;generalize t:w.alloc _=W1 at*;clear t
 go_wp2_with (first
  |(go_at_call 167;refine J.o.mono ?_;rintro e w4 ⟨X,W,rfl,Q,h⟩;have L4:=hY Q;have E4:=hY h;clear Q h)
  |(go_at_call 166;refine(iW S.o E4.o K.o A X W L4.o).m fun w5 Z=>?_)
  |(go_at_call 124;refine(bh Z.o L.o _ _ _ _).m fun w6 R=>?_))
 (first|refine QzE rfl rfl ?_|refine QzR rfl rfl ?_);exact ⟨rfl,by rw[I.o];exact aa.FZ i.o R.o⟩
theorem sI (fs gs:List BL)(x:T)(q:x.kind=11)(O:T.expr x=true):lP fs gs x:=by
 intro base top p w fv gv s r M its c F H D G C E B m j y P z Y;have a:=j.ext (xal w x H D G C E B).o;have i:=xal w x H D G C E B;have S:=hY (aa.refl (y.ext i.o));have g:=P.keep (am i.o j.tw);obtain⟨q1,q2⟩:=j.boxC S.o;obtain⟨av,lv,wv,xs,F1,u⟩:=y.ext i.o;obtain rfl:=u.wrong_none m;obtain⟨v1,v2⟩:=blk u.blk;clear u;have J:=hY (eJ x O (by rw[q];decide) _ top H D G C E B a.tw a.vars g);have K:Hid (s.FU.length<=bq):=hY (by have:=z.lit;omega);have L:Hid (its.length<=bq):=hY (by have:=z.its;omega)
 have I:Hid (ah fs gs x (M::rgs c) s=((s.lit (aH x)).1,[.ins 6 (s.lit (aH x)).2 0 0])):=hY (by
  obtain⟨k,n,V,U,l,N,pl⟩:=x;obtain rfl:k=11:=q;rw[fS]
  exact lu fs gs n V U l N pl (M::rgs c) s 11 m (.inr (by decide)))
 clear P g j a y z Y m O;obtain⟨A,b⟩:∃A,A=aH x:=⟨_,rfl⟩;unfold iL at J;rw[←b] at J I;clear b;generalize x.name=nm at*;generalize x.FP.length=n1 at*;generalize x.FQ.length=n2 at*;generalize x.FN.length=n3 at*;generalize x.FY=N at*;generalize x.FR=pl at*;generalize x.kind=k at*;subst q;go_enter Tryz.func123,Tryz.ntmps123;go_upto_region 1 with fail;generalize t:w.alloc _=W1 at*;clear t
 go_wp2_with (first
  |(go_at_call 167;refine J.o.mono ?_;rintro e w4 ⟨X,W,rfl,Q,h⟩;have L4:=hY Q;have E4:=hY h;clear Q h)
  |(go_at_call 166;refine(iW S.o E4.o K.o A X W L4.o).m fun w5 Z=>?_)
  |(go_at_call 124;refine(bh Z.o L.o _ _ _ _).m fun w6 R=>?_))
 (first|refine QzE rfl rfl ?_|refine QzR rfl rfl ?_);exact ⟨rfl,by rw[I.o];exact aa.FZ i.o R.o⟩
theorem sH (fs gs:List BL)(x:T)(q:x.kind=12)(O:T.expr x=true):lP fs gs x:=by
 intro base top p w fv gv s r M its c F H D G C E B m j y P z Y;have a:=j.ext (xal w x H D G C E B).o;have i:=xal w x H D G C E B;have S:=hY (aa.refl (y.ext i.o));have g:=P.keep (am i.o j.tw);obtain⟨q1,q2⟩:=j.boxC S.o;obtain⟨av,lv,wv,xs,F1,u⟩:=y.ext i.o;obtain rfl:=u.wrong_none m;obtain⟨v1,v2⟩:=blk u.blk;clear u;have J:=hY (eJ x O (by rw[q];decide) _ top H D G C E B a.tw a.vars g);have K:Hid (s.FU.length<=bq):=hY (by have:=z.lit;omega);have L:Hid (its.length<=bq):=hY (by have:=z.its;omega)
 have I:Hid (ah fs gs x (M::rgs c) s=((s.lit (aH x)).1,[.ins 6 (s.lit (aH x)).2 0 0])):=hY (by
  obtain⟨k,n,V,U,l,N,pl⟩:=x;obtain rfl:k=12:=q;rw[fS]
  exact lu fs gs n V U l N pl (M::rgs c) s 12 m (.inr (by decide)))
 clear P g j a y z Y m O;obtain⟨A,b⟩:∃A,A=aH x:=⟨_,rfl⟩;unfold iL at J;rw[←b] at J I;clear b;generalize x.name=nm at*;generalize x.FP.length=n1 at*;generalize x.FQ.length=n2 at*;generalize x.FN.length=n3 at*;generalize x.FY=N at*;generalize x.FR=pl at*;generalize x.kind=k at*;subst q;go_enter Tryz.func123,Tryz.ntmps123;go_upto_region 1 with fail;generalize t:w.alloc _=W1 at*;clear t
 go_wp2_with (first
  |(go_at_call 167;refine J.o.mono ?_;rintro e w4 ⟨X,W,rfl,Q,h⟩;have L4:=hY Q;have E4:=hY h;clear Q h)
  |(go_at_call 166;refine(iW S.o E4.o K.o A X W L4.o).m fun w5 Z=>?_)
  |(go_at_call 124;refine(bh Z.o L.o _ _ _ _).m fun w6 R=>?_))
 (first|refine QzE rfl rfl ?_|refine QzR rfl rfl ?_);exact ⟨rfl,by rw[I.o];exact aa.FZ i.o R.o⟩
theorem sG (fs gs:List BL)(x:T)(q:x.kind=13)(O:T.expr x=true):lP fs gs x:=by
 intro base top p w fv gv s r M its c F H D G C E B m j y P z Y;have a:=j.ext (xal w x H D G C E B).o;have i:=xal w x H D G C E B;have S:=hY (aa.refl (y.ext i.o));have g:=P.keep (am i.o j.tw);obtain⟨q1,q2⟩:=j.boxC S.o;obtain⟨av,lv,wv,xs,F1,u⟩:=y.ext i.o;obtain rfl:=u.wrong_none m;obtain⟨v1,v2⟩:=blk u.blk;clear u;have J:=hY (eJ x O (by rw[q];decide) _ top H D G C E B a.tw a.vars g);have K:Hid (s.FU.length<=bq):=hY (by have:=z.lit;omega);have L:Hid (its.length<=bq):=hY (by have:=z.its;omega)
 have I:Hid (ah fs gs x (M::rgs c) s=((s.lit (aH x)).1,[.ins 6 (s.lit (aH x)).2 0 0])):=hY (by
  obtain⟨k,n,V,U,l,N,pl⟩:=x;obtain rfl:k=13:=q;rw[fS]
  exact lu fs gs n V U l N pl (M::rgs c) s 13 m (.inr (by decide)))
 clear P g j a y z Y m O;obtain⟨A,b⟩:∃A,A=aH x:=⟨_,rfl⟩;unfold iL at J;rw[←b] at J I;clear b;generalize x.name=nm at*;generalize x.FP.length=n1 at*;generalize x.FQ.length=n2 at*;generalize x.FN.length=n3 at*;generalize x.FY=N at*;generalize x.FR=pl at*;generalize x.kind=k at*;subst q;go_enter Tryz.func123,Tryz.ntmps123;go_upto_region 1 with fail;generalize t:w.alloc _=W1 at*;clear t
 go_wp2_with (first
  |(go_at_call 167;refine J.o.mono ?_;rintro e w4 ⟨X,W,rfl,Q,h⟩;have L4:=hY Q;have E4:=hY h;clear Q h)
  |(go_at_call 166;refine(iW S.o E4.o K.o A X W L4.o).m fun w5 Z=>?_)
  |(go_at_call 124;refine(bh Z.o L.o _ _ _ _).m fun w6 R=>?_))
 (first|refine QzE rfl rfl ?_|refine QzR rfl rfl ?_);exact ⟨rfl,by rw[I.o];exact aa.FZ i.o R.o⟩
theorem aa.pw {base p:Nat}{w b:World}{k j:Value}{F:List Nat}{s:GS}{n:List RgS}(l:aa base p w k j F s n b):∃e c a,(∀i,b.cell? ⟨p,i,none⟩=(#[k,j,e,c,.i (s.FO:Int),a,.bool s.many]:Array Value)[i]?)/\(∀i,b.frozen? ⟨p,i,none⟩=false)/\((s.F9=none/\a=.pointer none)\/(s.F9.isSome=true/\∃g,a=.pointer (some ⟨g,0,none⟩))):=by
 obtain⟨q,⟨e,c,a,o,r,f⟩,_⟩:=l;obtain⟨d,m⟩:=blk f.blk;refine⟨e,c,a,d,m,?_⟩;have h:=f.F9;cases hw:s.F9 with
 |none=>rw[hw] at h;exact .inl ⟨rfl,h⟩
 |some z=>rw[hw] at h;obtain⟨g,d,_⟩:=h;exact .inr ⟨rfl,g,d⟩
theorem Ag (fs gs:List BL)(x v:T)(hk:x.kind=4)(z:x.FN=[v])(hv:eY fs gs v):lP fs gs x:=by
 intro base top p w Q P s r a its c F M K L J a3 I U G Z hP y hN;have d:=G.ext (xal w x M K L J a3 I).o;have u:=xal w x M K L J a3 I;have S0:=hY (aa.refl (Z.ext u.o));have q:=hP.keep (am u.o G.tw);obtain⟨q1,q2⟩:=G.boxC S0.o;obtain⟨av,lv,wv,xs,F1,Y⟩:=Z.ext u.o;obtain rfl:=Y.wrong_none U;obtain⟨v1,v2⟩:=blk Y.blk;clear Y;obtain⟨g,f,b1,d1,b2,d2,b3,d3,rfl,hg,hS,D⟩:=q.FN.seven (j:=0) (x:=v) (by rw[z];rfl);rw[np,ks] at hS;obtain⟨e0,e1,e2,e3,e4,e5,e6⟩:=hS;have m:v∈x.FN:=by rw[z];simp
 have hnd:=aD m;have A:=hY (hv.after d S0.o D (y.mono (by omega)) (aN (bW m) hN));have b:=dL fs gs v (a::rgs c) s;have B2:Hid (Bud (ah fs gs v (a::rgs c) s).1 (its++(ah fs gs v (a::rgs c) s).2).length c.length 2):=hY ⟨by have:=y.its;have:=b.its;rw[bY];omega,by have:=y.lab;have:=b.lab;omega,by have:=y.lit;have:=b.lit;omega,by have:=y.dep;omega⟩;have V2:=hY (fun(W:World) s2 its2 (st:aa base p (w.alloc (.cells (af x.kind x.name x.FP.length x.FQ.length x.FN.length x.FY x.FR M K L J (some ⟨g,f,none⟩) I) 26)) Q P F s2 ((r,a,its2)::c) W) (V:Bud s2 its2.length c.length 2)=>aa.next (R:=fun e=>e=nrm) st fun F2 H E=>nA fs gs x true base top p W Q P s2 r a its2 c F2 M K L J (some ⟨g,f,none⟩) I (d.step E H) H (q.keep (d.low E)) V);have KB:=hY (fun(W:World) s' ch' (h:aa base p (w.alloc (.cells (aB x.kind x.name x.FP.length x.FQ.length x.FN.length x.FY x.FR M K L J (some ⟨g,f,none⟩) I).toArray 26)) Q P F s' ch' W)=>G.boxC h);have h0:0<x.FN.length:=by rw[z];simp
 have N:Hid (ah fs gs x (a::rgs c) s=if(ah fs gs v (a::rgs c) s).1.F9.isSome then ah fs gs v (a::rgs c) s else((dG fs gs x.name x.FR true (a::rgs c) (ah fs gs v (a::rgs c) s).1).1,(ah fs gs v (a::rgs c) s).2++(dG fs gs x.name x.FR true (a::rgs c) (ah fs gs v (a::rgs c) s).1).2)):=hY (by
  obtain⟨k,n,ns,ts,l,pr,pl⟩:=x;obtain rfl:k=4:=hk;obtain rfl:l=[v]:=z
  exact CN fs gs n ns ts pr pl (a::rgs c) s v [] U)
 clear hP q D G d Z y hN U z hv hg m hnd b;generalize ah fs gs v (a::rgs c) s=XV at*;generalize x.name=nm at*;generalize x.FP.length=n1 at*;generalize x.FQ.length=n2 at*;generalize x.FN.length=n3 at*;generalize x.FY=pr at*;generalize x.FR=pl at*;generalize x.kind=k at*;subst hk;go_enter Tryz.func123,Tryz.ntmps123;go_upto_region 1 with fail;generalize X:w.alloc _=W1 at*;clear X;go_upto_region 27 with(go_at_call 123;refine A.o.m fun w2 S=>?_);clear q1 q2 v1 v2 e0 e1 e2 e3 e4 e5 e6;obtain⟨q1,q2⟩:=KB.o _ _ _ S.o;obtain⟨ad,ac,ab,v1,v2,i⟩:=S.o.pw;rcases i with⟨i,rfl⟩|⟨i,gw,rfl⟩
 ·have t:=hY N.o
  rw[if_neg (fh i)] at t;have A2:=hY (V2.o w2 _ _ S.o B2.o);clear i;go_wp2_with (go_at_call 164;refine A2.o.m fun w3 S3=>?_);have O:=hY (show aa base p W1 Q P F _ ((r,a,its++(XV.2++_))::c) w3 by have h:=S3.o;rw[gz] at h;exact h)
  (first|refine QzE rfl rfl ?_|refine QzR rfl rfl ?_);exact ⟨rfl,by rw[t.o];exact aa.FZ u.o O.o⟩
 ·have t:=hY N.o
  rw[if_pos i] at t;have O:=hY S.o;clear i;go_wp2_with fail
  (first|refine QzE rfl rfl ?_|refine QzR rfl rfl ?_);exact ⟨rfl,by rw[t.o];exact aa.FZ u.o O.o⟩
theorem yv (fs gs:List BL)(x:T)(hk:x.kind=14)(hx:∀y∈x.FN,eY fs gs y):lP fs gs x:=by
 intro base top p w X V s r b its c F a1 c1 a2 c2 a3 c3 hs I hC hP hB hN;have S:=I.ext (xal w x a1 c1 a2 c2 a3 c3).o;have B:=xal w x a1 c1 a2 c2 a3 c3;have S0:=hY (aa.refl (hC.ext B.o));have G:=hP.keep (am B.o I.tw);obtain⟨q1,q2⟩:=I.boxC S0.o;obtain⟨av,lv,wv,xs,F1,hV⟩:=hC.ext B.o;obtain rfl:=hV.wrong_none hs;obtain⟨M,v2⟩:=blk hV.blk;clear hV;have hnd:=bF x
 have ag:Hid (ah fs gs x (b::rgs c) s=((aW fs gs x.FN (b::rgs c) s).1.or (decide (255<x.FN.length)),(aW fs gs x.FN (b::rgs c) s).2++[.ins 25 x.FN.length 0 0])):=hY (by
  obtain⟨k,n,ns,ts,l,pr,pl⟩:=x;obtain rfl:k=14:=hk
  exact yx fs gs n ns ts l pr pl (b::rgs c) s hs)
 have NN:=hY G.FN;have NM:Hid (∀y∈x.FN,T.nms y<=ao):=hY (fun y C=>aN (bW C) hN);have HX:=hY hx;have EN:=hY S;have ak:x.FN.length<=1048576:=G.FN.small;have KB:=hY (fun(W:World) s' ch' (h:aa base p (w.alloc (.cells (aB x.kind x.name x.FP.length x.FQ.length x.FN.length x.FY x.FR a1 c1 a2 c2 a3 c3).toArray 26)) X V F s' ch' W)=>I.boxC h);have al:Hid (p≠w.heap.size):=hY (by have:=I.pw;omega);have R0:Hid (lO fs gs x.FN (b::rgs c) s its.length c.length 0 s []):=hY ⟨by simp,by simpa using hB.mono (by omega)⟩;clear hP G I S hC hB hN hs hx hnd;generalize x.FN=l at*;generalize x.name=nm at*;generalize x.FP.length=n1 at*;generalize x.FQ.length=n2 at*;generalize x.FY=pr at*;generalize x.FR=pl at*;generalize x.kind=k at*;subst hk;go_enter Tryz.func123,Tryz.ntmps123;go_upto_region 1 with fail;generalize ad:w.alloc _=Z at*;clear ad;go_upto_region 17 with fail;clear q1 q2 M v2
 go_loopw [64] (fun i wr=>∃(j:Nat) (f:GS) (q:List It),j<=l.length/\i=.i j/\aa base p Z X V F f ((r,b,its++q)::c) wr/\lO fs gs l (b::rgs c) s its.length c.length j f q) (fun i _=>l.length-(intOf i).toNat)
 case atStart=>exact⟨0,s,[],by omega,rfl,by rw[kn];exact S0.o,R0.o⟩
 case round=>
  obtain⟨j,f,q,hj,rfl,P,hR⟩:=hrel;have R:=hY hR;by_cases hlt:j<l.length
  ·obtain⟨y,C⟩:∃y,l[j]?=some y:=⟨l[j],by simp⟩
   obtain⟨F2,H,t⟩:=P;have u:=EN.o.step t H;have M2:=hY t;obtain⟨g,aj,b1,d1,b2,d2,b3,d3,rfl,hg,ae,Q⟩:=(NN.o.keep (EN.o.low t)).seven C;obtain⟨e0,e1,e2,e3,e4,e5,e6⟩:=ae;have EY:=xal wr y b1 d1 b2 d2 b3 d3;have SA:=hY (aa.refl (H.ext EY.o));have ai:=hY (u.ext EY.o);have PY:=hY (Q.keep (am EY.o u.tw));obtain⟨t1,t2⟩:=u.boxC SA.o;have R2:=hY (R.o.next C);have d:=R.o.bud;rw[fi C] at d;have hp:=bG y;have A:=hY ((HX.o y (eQ C)).after ai.o (its:=its++q) SA.o PY.o ⟨by have:=d.its;simp only[bY];omega,by have:=d.lab;omega,by have:=d.lit;omega,by have:=d.dep;omega⟩ (NM.o y (eQ C)));clear H u t Q hg C hR R d hp;go_upto_region 19 with fail;generalize ac:wr.alloc _=W3 at*;clear ac;go_wp2_with (first|(go_at_call 123;refine A.o.m fun w4 S4=>?_));go_roundw
   case rel=>exact⟨j+1,(ah fs gs y (b::rgs c) f).1,q++(ah fs gs y (b::rgs c) f).2,by omega,by go_num,by rw[←gz];exact(aa.FZ EY.o S4.o).join M2.o,R2.o⟩
   case measure=>simp[intOf];omega
  ·have N:j=l.length:=by omega
   have J:Hid (ah fs gs x (b::rgs c) s=(f.or (decide (255<l.length)),q++[.ins 25 l.length 0 0])):=hY (by
    have h1:=R.o.eq;rw[hH (by omega),aW] at h1;rw[ag.o,h1]
    simp)
   have BI:Hid ((its++q).length<=bq):=hY (by have:=R.o.bud.its;rw[bY];omega);obtain⟨q1,q2⟩:=KB.o _ _ _ P;obtain⟨av,lv,wv,M,v2⟩:=P.pcells;obtain⟨v,hv⟩:∃v:Bool,v=(f.many||decide (255<l.length)):=⟨_,rfl⟩;have K:=hY (P.many (decide (255<l.length)) v hv);have z:=hY hv;have HJ:=hY N;clear P hR R hv N
   have ab:f.many=true\/(f.many=false/\255<l.length)\/(f.many=false/\¬255<l.length):=by
    cases f.many with
    |true=>exact .inl rfl
    |false=>by_cases h:255<l.length;exact .inr (.inl ⟨rfl,h⟩);exact .inr (.inr ⟨rfl,h⟩)
   rcases ab with D|⟨D,U⟩|⟨D,U⟩
   ·rw[D] at M z
    obtain rfl:v=true:=z.o;clear D z;obtain⟨q3,q4⟩:=KB.o _ _ _ K.o;go_upto_region 22 with fail;generalize m:wr.setCell _ _=W5 at*;clear m;go_wp2_with (go_at_call 124;refine(bh K.o BI.o _ _ _ _).m fun L Y=>?_);have E:=hY (show aa base p Z X V F _ ((r,b,its++(q++_))::c) L by have h:=Y.o;rw[gz] at h;exact h)
    (first|refine QzE rfl rfl ?_|refine QzR rfl rfl ?_);exact ⟨rfl,by rw[J.o];exact aa.FZ B.o E.o⟩
   ·rw[D] at M z
    obtain rfl:v=true:=by rw[z.o,decide_eq_true U];rfl
    have af:(255:Int)<(l.length:Int):=by omega
    clear D z U;obtain⟨q3,q4⟩:=KB.o _ _ _ K.o;go_upto_region 22 with fail;generalize m:wr.setCell _ _=W5 at*;clear m;go_wp2_with (go_at_call 124;refine(bh K.o BI.o _ _ _ _).m fun L Y=>?_);have E:=hY (show aa base p Z X V F _ ((r,b,its++(q++_))::c) L by have h:=Y.o;rw[gz] at h;exact h)
    (first|refine QzE rfl rfl ?_|refine QzR rfl rfl ?_);exact ⟨rfl,by rw[J.o];exact aa.FZ B.o E.o⟩
   ·rw[D] at M z
    obtain rfl:v=false:=by rw[z.o,decide_eq_false U];rfl
    have af:¬(255:Int)<(l.length:Int):=by omega
    clear D z U;obtain⟨q3,q4⟩:=KB.o _ _ _ K.o;go_upto_region 22 with fail;generalize m:wr.setCell _ _=W5 at*;clear m;go_wp2_with (go_at_call 124;refine(bh K.o BI.o _ _ _ _).m fun L Y=>?_);have E:=hY (show aa base p Z X V F _ ((r,b,its++(q++_))::c) L by have h:=Y.o;rw[gz] at h;exact h)
    (first|refine QzE rfl rfl ?_|refine QzR rfl rfl ?_);exact ⟨rfl,by rw[J.o];exact aa.FZ B.o E.o⟩
theorem ry (fs gs:List BL){l:List T}(h:T.stmts l=true)(N:Nat)(j:T.ndL l<N)(e:∀y,T.nd y<N->T.expr y=true->eY fs gs y):∀y∈l,eA fs gs y:=by
 intro y c;obtain⟨i,g⟩:=eb (gA h y c);have f:=Ct c;refine sS fs gs y (fun b=>?_) (fun b=>e y (by omega) (g b));obtain⟨v,d,a⟩:=i b;exact⟨v,d,e v (by have:=aD (x:=y) (y:=v) (by rw[d];simp);omega) a⟩
theorem tj {b:T}(c:aY b=true)(a:T.expr b=true):T.stmts b.FN=true:=by
 obtain⟨k,n,e,d,l,p,pl⟩:=b;simp only[aY,gT,beq_iff_eq,T.kind] at c;rw[T.expr,if_pos c.1.1] at a;simp only[gT] at a;exact a.2
def wi (fs gs:List BL)(n:BL)(v:T)(a:List T)(c:List Rg)(s:GS):GS×List It:=fe fs gs n v a c s
theorem lV (fs gs:List BL)(n:BL)(v:T)(a:List T)(c:List Rg)(s:GS):wi fs gs n v a c s=((eE fs gs n (db v) a a.length c (bg fs gs v c s).1).1,(bg fs gs v c s).2++(eE fs gs n (db v) a a.length c (bg fs gs v c s).1).2):=by
 unfold wi;rw[fe];rfl
theorem nX (fs gs:List BL)(x v:T)(a:List T)(p:x.kind=5)(i:x.FN=v::a)(c:List Rg)(s:GS)(m:s.F9=none)(b:aO x.name=none\/ft x=false):ah fs gs x c s=wi fs gs x.name v a c s:=by
 obtain⟨k,n,f,d,l,e,pl⟩:=x;obtain rfl:k=5:=p;obtain rfl:l=v::a:=i;rw[wN fs gs n f d e pl c s v a m];unfold vm wi;rcases b with h|h
 ·rw[show aO n=none from h];rfl
 ·have q:cP n (v::a)=false:=h
  rcases aO n with _|⟨g,j,o⟩
  ·rfl
  ·cases g<;>(simp only[q];rfl)
theorem wM (fs gs:List BL)(x v b:T)(bs:List T)(i:x.kind=5)(g:x.FN=v::b::bs)(c:List Rg)(s:GS)(h:s.F9=none)(skip a:Int)(j:aO x.name=some (false,skip,a))(m:ft x=true):ah fs gs x c s=cv fs gs skip a v b bs c s:=by
 obtain⟨k,n,f,d,l,e,pl⟩:=x;obtain rfl:k=5:=i;obtain rfl:l=v::b::bs:=g;rw[wN fs gs n f d e pl c s v (b::bs) h];have o:cP n (v::b::bs)=true:=m;unfold vm;rw[show aO n=some (false,skip,a) from j];simp[o]
theorem Ai (fs gs:List BL)(x v:T)(b:List T)(i:x.kind=5)(g:x.FN=v::b)(c:List Rg)(s:GS)(h:s.F9=none)(a o:Int)(j:aO x.name=some (true,a,o))(m:ft x=true):ah fs gs x c s=ez fs gs a v b c s:=by
 obtain⟨k,n,f,d,l,e,pl⟩:=x;obtain rfl:k=5:=i;obtain rfl:l=v::b:=g;rw[wN fs gs n f d e pl c s v b h];have p:cP n (v::b)=true:=m;unfold vm;rw[show aO n=some (true,a,o) from j];simp[p]
theorem qa (fs gs:List BL)(x v:T)(z:List T)(hk:x.kind=5)(B:x.FN=v::z)(hv:eY fs gs v)(J:∀y∈z,eY fs gs y)(S:aO x.name=none)(Q:aO x.name=none\/ft x=false)
 (base top p:Nat) (w:World) (G E:Value) (s:GS) (r:Nat) (d:Rg) (its:List It) (c:List RgS) (F:List Nat) (t:Option Addr) (n:Nat) (q:Option Addr) (l:Nat) (L:Option Addr) (b:Nat) (Y:b≠1) (hs:s.F9=none) (hE:Env base top p w G E fs gs F) (hC:CW base p w G E s ((r,d,its)::c) F) (hP:bK w top x t n q l L b) (K:Bud s its.length c.length (4*T.nd x)) (hN:T.nms x<=ao):
 Calls Tryz.prog 123 #[.pointer (some ⟨p,0,none⟩),.agg (af x.kind x.name x.FP.length x.FQ.length x.FN.length x.FY x.FR t n q l L b)] w fun e w'=>e=nrm/\aa base p w G E F (ah fs gs x (d::rgs c) s).1 ((r,d,its++(ah fs gs x (d::rgs c) s).2)::c) w':=by
 have D:=hE.ext (xal w x t n q l L b).o;have M:=xal w x t n q l L b;have S0:=hY (aa.refl (hC.ext M.o));have f:=hP.keep (am M.o hE.tw);obtain⟨q1,q2⟩:=hE.boxC S0.o;obtain⟨av,lv,wv,xs,F1,hV⟩:=hC.ext M.o;obtain rfl:=hV.wrong_none hs;obtain⟨v1,v2⟩:=blk hV.blk;clear hV;have ai:=hY (fD (w.alloc (.cells (af x.kind x.name x.FP.length x.FQ.length x.FN.length x.FY x.FR t n q l L b) 26)).drew);have KB:=hY (fun W al=>(bt w (aB x.kind x.name x.FP.length x.FQ.length x.FN.length x.FY x.FR t n q l L b) 26 W al).1);obtain⟨g,a,b1,d1,b2,d2,b3,d3,rfl,hg,hS,ac⟩:=f.FN.seven (j:=0) (x:=v) (by rw[B];rfl);rw[np,ks] at hS;have SV:=hY (fun(V:World) s' ch' (h:aa base p (w.alloc (.cells (af x.kind x.name x.FP.length x.FQ.length x.FN.length x.FY x.FR t n q l (some ⟨g,a,none⟩) b) 26)) G E F s' ch' V)=>hS.keep (D.lowS h g hg));have KC:=hY (fun(W:World) s' ch' (h:aa base p (w.alloc (.cells (aB x.kind x.name x.FP.length x.FQ.length x.FN.length x.FY x.FR t n q l (some ⟨g,a,none⟩) b).toArray 26)) G E F s' ch' W)=>(hE.boxC h).1);have H:=bF x;rw[B,T.ndL] at H;have O:v∈x.FN:=by rw[B];simp
 have RA:=hY (fun(W:World) (st:aa base p (w.alloc (.cells (af x.kind x.name x.FP.length x.FQ.length x.FN.length x.FY x.FR t n q l (some ⟨g,a,none⟩) b) 26)) G E F s ((r,d,its)::c) W)=>(fN fs gs v hv).after D st ac (K.mono (by omega)) (aN (bW O) hN));have EN:=hY D;have U:x.FN.length<=b:=f.FN.cap;have aj:x.FN.length<=1048576:=f.FN.small;have C:=iU fs gs v (d::rgs c) s
 have BB:Hid (Bud (bg fs gs v (d::rgs c) s).1 (its++(bg fs gs v (d::rgs c) s).2).length c.length (4*T.ndL z+1)):=hY (by
  have hp:=bG v;refine⟨?_,?_,?_,?_⟩
  ·have:=K.its;have:=C.its;rw[bY];omega
  ·have:=K.lab;have:=C.lab;omega
  ·have:=K.lit;have:=C.lit;omega
  ·have:=K.dep;omega)
 have I:x.FN.length=z.length+1:=by rw[B];rfl
 have NR:Hid (NAt (w.alloc (.cells (af x.kind x.name x.FP.length x.FQ.length x.FN.length x.FY x.FR t n q l (some ⟨g,a,none⟩) b) 26)) top (some ⟨g,a+7,none⟩) (b-1) z):=hY (by
  have hd:=f.FN.drop (lo:=1) (by rw[B];simp);rw[if_neg Y,show x.FN.drop 1=z by rw[B];rfl] at hd;rw[Ac,Fw,show(⟨g,a,none⟩:Addr).add 7=⟨g,a+7,none⟩ by simp[Addr.add]] at hd
  exact hd)
 have MC:=hY (fun(W:World) (st:aa base p (w.alloc (.cells (af x.kind x.name x.FP.length x.FQ.length x.FN.length x.FY x.FR t n q l (some ⟨g,a,none⟩) b) 26)) G E F (bg fs gs v (d::rgs c) s).1 ((r,d,its++(bg fs gs v (d::rgs c) s).2)::c) W)=>st.next (R:=fun e=>e=nrm) fun F3 ag u=>gS fs gs z J x.name f.name (db v) base top p W G E _ r d _ c F3 (some ⟨g,a+7,none⟩) (b-1) (EN.o.step u ag) ag (NR.o.keep (EN.o.low u)) BB.o (fun y hy=>aN (bW (x:=x) (y:=y) (by rw[B];exact sb _ hy)) hN));have SE:=hY (lV fs gs x.name v z (d::rgs c) s);have VG:=hY (nX fs gs x v z hk B (d::rgs c) s hs Q);rw[SE.o] at VG;have IK:Hid (aO x.name=none):=hY S;rw[I] at M KB KC q1 q2 v1 v2 S0 EN SV NR MC ai aj U RA ⊢;clear hP f ac hE D hC K hN hs B hS hg H O C I Q SE BB hv J S;generalize z.length=m at*;generalize bg fs gs v (d::rgs c) s=RV at*;generalize db v=sv at*;generalize x.name=N at*;generalize x.FP.length=n1 at*;generalize x.FQ.length=n2 at*;generalize x.FY=pr at*;generalize x.FR=pl at*;generalize x.kind=k at*;subst hk;have hz:∀w,(zeroValue 236).run Tryz.prog w=.ok .nilFunc w:=fun w=>by kernel_rfl
 have HZ:=hY hz;clear hz;go_enter Tryz.func123,Tryz.ntmps123;go_upto_region 1 with fail;generalize ak:w.alloc _=W1 at*;clear ak;have KD:=hY (KB.o _ ((Ext.refl W1).drew));go_upto_region 30 with fail
 go_region_held3 (fun X=>∀i,X.cell? ⟨w.heap.size,i,none⟩=(aB 5 N n1 n2 (m+1) pr pl t n q l (some ⟨g,a,none⟩) b)[i]?)
  (with_reducible (first|exact KD.o|exact KB.o _ E3.o))
  ((go_at_call 169;refine ai.o.mono ?_;rintro e w3 ⟨mm,ll,rfl,ae,u,ad⟩;have E3:=hY (((Ext.refl W1).drew).trans ae);have LK:=dB (P:=Tryz.prog) w3 Tryz.underlying238 Tryz.underlying9 u .nilFunc HZ.o N;have hi:=ad N;rw[IK.o] at hi;rw[show lB ll N=none from hi,Option.getD_none,nE] at LK;clear ae u ad hi))
 have S1:=hY (S0.o.ext E3.o);have A:=hY (RA.o _ S1.o);obtain⟨e0,e1,e2,e3,e4,e5,e6⟩:=SV.o _ _ _ S1.o;have aw:(0:Int)<(m:Int)+1:=by omega
 have au:(1:Int)<=(m:Int)+1:=by omega
 have aq:(0:Int)<((m+1:Nat):Int):=by omega
 have ap:(1:Int)<=((m+1:Nat):Int):=by omega
 clear q1 q2 v1 v2 LK KD KB E3 S0;go_upto_region 34 with(go_at_call 171;refine A.o.m fun w4 S4=>?_);clear e0 e1 e2 e3 e4 e5 e6;have S5:=hY (S4.o.ext ((Ext.refl w4).drew));have KQ:=hY (KC.o _ _ _ S4.o);have KR:=hY (KC.o _ _ _ S5.o);have M5:=hY (MC.o _ S5.o);have q1:=KQ.o
 go_region_held3 (fun X=>∀i,X.cell? ⟨w.heap.size,i,none⟩=(aB 5 N n1 n2 (m+1) pr pl t n q l (some ⟨g,a,none⟩) b)[i]?)
  (with_reducible (first|exact KR.o|exact KQ.o|exact KS.o))
  ((go_at_call 172;refine M5.o.m fun w6 S6=>?_;have KS:=hY (KC.o _ _ _ S6.o)))
 have SF:=hY (show aa base p W1 G E F _ ((r,d,its++(RV.2++_))::c) w6 by have h:=S6.o;rw[gz] at h;exact h);go_wp2_with fail
 (first|refine QzE rfl rfl ?_|refine QzR rfl rfl ?_);exact ⟨rfl,by rw[VG.o];exact aa.FZ M.o SF.o⟩
theorem pZ (fs gs:List BL)(x v:T)(ar:List T)(hk:x.kind=5)(t:x.FN=v::ar)(hv:eY fs gs v)(G:∀y∈ar,eY fs gs y)(N:aO x.name=none)(M:aO x.name=none\/ft x=false)
 (base top p:Nat) (w:World) (C B:Value) (s:GS) (r:Nat) (b:Rg) (its:List It) (c:List RgS) (F:List Nat) (n:Option Addr) (l:Nat) (m:Option Addr) (f:Nat) (I:Option Addr) (c3:Nat) (Q:c3=1) (hs:s.F9=none) (hE:Env base top p w C B fs gs F) (hC:CW base p w C B s ((r,b,its)::c) F) (hP:bK w top x n l m f I c3) (H:Bud s its.length c.length (4*T.nd x)) (hN:T.nms x<=ao):
 Calls Tryz.prog 123 #[.pointer (some ⟨p,0,none⟩),.agg (af x.kind x.name x.FP.length x.FQ.length x.FN.length x.FY x.FR n l m f I c3)] w fun e w'=>e=nrm/\aa base p w C B F (ah fs gs x (b::rgs c) s).1 ((r,b,its++(ah fs gs x (b::rgs c) s).2)::c) w':=by
 subst Q;obtain rfl:ar=[]:=ls (by have h:=hP.FN.cap;rw[t] at h;simp only[gi] at h;omega);have z:=hE.ext (xal w x n l m f I 1).o;have J:=xal w x n l m f I 1;have S0:=hY (aa.refl (hC.ext J.o));have d:=hP.keep (am J.o hE.tw);obtain⟨q1,q2⟩:=hE.boxC S0.o;obtain⟨av,lv,wv,xs,F1,hV⟩:=hC.ext J.o;obtain rfl:=hV.wrong_none hs;obtain⟨v1,v2⟩:=blk hV.blk;clear hV;have ad:=hY (fD (w.alloc (.cells (af x.kind x.name x.FP.length x.FQ.length x.FN.length x.FY x.FR n l m f I 1) 26)).drew);have KB:=hY (fun W ai=>(bt w (aB x.kind x.name x.FP.length x.FQ.length x.FN.length x.FY x.FR n l m f I 1) 26 W ai).1);obtain⟨g,a,b1,d1,b2,d2,b3,d3,rfl,hg,hS,Y⟩:=d.FN.seven (j:=0) (x:=v) (by rw[t];rfl);rw[np,ks] at hS;have SV:=hY (fun(V:World) s' ch' (h:aa base p (w.alloc (.cells (af x.kind x.name x.FP.length x.FQ.length x.FN.length x.FY x.FR n l m f (some ⟨g,a,none⟩) 1) 26)) C B F s' ch' V)=>hS.keep (z.lowS h g hg));have KC:=hY (fun(W:World) s' ch' (h:aa base p (w.alloc (.cells (aB x.kind x.name x.FP.length x.FQ.length x.FN.length x.FY x.FR n l m f (some ⟨g,a,none⟩) 1).toArray 26)) C B F s' ch' W)=>(hE.boxC h).1);have D:=bF x;rw[t,T.ndL] at D;have L:v∈x.FN:=by rw[t];simp
 have RA:=hY (fun(W:World) (st:aa base p (w.alloc (.cells (af x.kind x.name x.FP.length x.FQ.length x.FN.length x.FY x.FR n l m f (some ⟨g,a,none⟩) 1) 26)) C B F s ((r,b,its)::c) W)=>(fN fs gs v hv).after z st Y (H.mono (by omega)) (aN (bW L) hN));have EN:=hY z;have O:x.FN.length<=1:=d.FN.cap;have ae:x.FN.length<=1048576:=d.FN.small;have u:=iU fs gs v (b::rgs c) s
 have BB:Hid (Bud (bg fs gs v (b::rgs c) s).1 (its++(bg fs gs v (b::rgs c) s).2).length c.length (4*T.ndL ([]:List T)+1)):=hY (by
  have hp:=bG v;refine⟨?_,?_,?_,?_⟩
  ·have:=H.its;have:=u.its;rw[bY];omega
  ·have:=H.lab;have:=u.lab;omega
  ·have:=H.lit;have:=u.lit;omega
  ·have:=H.dep;omega)
 have E:x.FN.length=1:=by rw[t];rfl
 have NR:Hid (NAt (w.alloc (.cells (af x.kind x.name x.FP.length x.FQ.length x.FN.length x.FY x.FR n l m f (some ⟨g,a,none⟩) 1) 26)) top (some ⟨g,a,none⟩) 0 []):=hY (by
  have hd:=d.FN.drop (lo:=1) (by rw[t];simp);rw[if_pos rfl,show x.FN.drop 1=[] by rw[t];rfl] at hd
  exact hd)
 have MC:=hY (fun(W:World) (st:aa base p (w.alloc (.cells (af x.kind x.name x.FP.length x.FQ.length x.FN.length x.FY x.FR n l m f (some ⟨g,a,none⟩) 1) 26)) C B F (bg fs gs v (b::rgs c) s).1 ((r,b,its++(bg fs gs v (b::rgs c) s).2)::c) W)=>st.next (R:=fun e=>e=nrm) fun F3 ac q=>gS fs gs [] G x.name d.name (db v) base top p W C B _ r b _ c F3 (some ⟨g,a,none⟩) 0 (EN.o.step q ac) ac (NR.o.keep (EN.o.low q)) BB.o (fun y hy=>aN (bW (x:=x) (y:=y) (by rw[t];exact sb _ hy)) hN));have SE:=hY (lV fs gs x.name v [] (b::rgs c) s);have VG:=hY (nX fs gs x v [] hk t (b::rgs c) s hs M);rw[SE.o] at VG;have IK:Hid (aO x.name=none):=hY N;rw[E] at J KB KC q1 q2 v1 v2 S0 EN SV NR MC ad ae O RA ⊢;clear hP d Y hE z hC H hN hs t hS hg D L u E M SE BB hv G N;simp only[hG] at MC VG;generalize bg fs gs v (b::rgs c) s=RV at*;generalize db v=sv at*;generalize x.name=K at*;generalize x.FP.length=n1 at*;generalize x.FQ.length=n2 at*;generalize x.FY=pr at*;generalize x.FR=pl at*;generalize x.kind=k at*;subst hk;have hz:∀w,(zeroValue 236).run Tryz.prog w=.ok .nilFunc w:=fun w=>by kernel_rfl
 have HZ:=hY hz;clear hz;go_enter Tryz.func123,Tryz.ntmps123;go_upto_region 1 with fail;generalize ag:w.alloc _=W1 at*;clear ag;have KD:=hY (KB.o _ ((Ext.refl W1).drew));go_upto_region 30 with fail
 go_region_held3 (fun X=>∀i,X.cell? ⟨w.heap.size,i,none⟩=(aB 5 K n1 n2 1 pr pl n l m f (some ⟨g,a,none⟩) 1)[i]?)
  (with_reducible (first|exact KD.o|exact KB.o _ E3.o))
  ((go_at_call 169;refine ad.o.mono ?_;rintro e w3 ⟨mm,ll,rfl,ab,q,Z⟩;have E3:=hY (((Ext.refl W1).drew).trans ab);have LK:=dB (P:=Tryz.prog) w3 Tryz.underlying238 Tryz.underlying9 q .nilFunc HZ.o K;have hi:=Z K;rw[IK.o] at hi;rw[show lB ll K=none from hi,Option.getD_none,nE] at LK;clear ab q Z hi))
 have S1:=hY (S0.o.ext E3.o);have A:=hY (RA.o _ S1.o);obtain⟨e0,e1,e2,e3,e4,e5,e6⟩:=SV.o _ _ _ S1.o;clear q1 q2 v1 v2 LK KD KB E3 S0;go_upto_region 34 with(go_at_call 171;refine A.o.m fun w4 S4=>?_);clear e0 e1 e2 e3 e4 e5 e6;have S5:=hY (S4.o.ext ((Ext.refl w4).drew));have KQ:=hY (KC.o _ _ _ S4.o);have KR:=hY (KC.o _ _ _ S5.o);have M5:=hY (MC.o _ S5.o);have q1:=KQ.o
 go_region_held3 (fun X=>∀i,X.cell? ⟨w.heap.size,i,none⟩=(aB 5 K n1 n2 1 pr pl n l m f (some ⟨g,a,none⟩) 1)[i]?)
  (with_reducible (first|exact KR.o|exact KQ.o|exact KS.o))
  ((go_at_call 172;refine M5.o.m fun w6 S6=>?_;have KS:=hY (KC.o _ _ _ S6.o)))
 have SF:=hY (show aa base p W1 C B F _ ((r,b,its++(RV.2++_))::c) w6 by have h:=S6.o;rw[gz] at h;exact h);go_wp2_with fail
 (first|refine QzE rfl rfl ?_|refine QzR rfl rfl ?_);exact ⟨rfl,by rw[VG.o];exact aa.FZ J.o SF.o⟩
theorem oB (fs gs:List BL)(x v:T)(z:List T)(hk:x.kind=5)(C:x.FN=v::z)(hv:eY fs gs v)(M:∀y∈z,eY fs gs y)(ab:∃U j o,aO x.name=some (U,j,o))(J:ft x=false)(I:de.isPrefixOf x.name=false->z≠[])(Z:aO x.name=none\/ft x=false)
 (base top p:Nat) (w:World) (H G:Value) (s:GS) (r:Nat) (d:Rg) (its:List It) (c:List RgS) (F:List Nat) (t:Option Addr) (n:Nat) (q:Option Addr) (l:Nat) (N:Option Addr) (b:Nat) (ae:b≠1) (hs:s.F9=none) (hE:Env base top p w H G fs gs F) (hC:CW base p w H G s ((r,d,its)::c) F) (hP:bK w top x t n q l N b) (O:Bud s its.length c.length (4*T.nd x)) (hN:T.nms x<=ao):
 Calls Tryz.prog 123 #[.pointer (some ⟨p,0,none⟩),.agg (af x.kind x.name x.FP.length x.FQ.length x.FN.length x.FY x.FR t n q l N b)] w fun e w'=>e=nrm/\aa base p w H G F (ah fs gs x (d::rgs c) s).1 ((r,d,its++(ah fs gs x (d::rgs c) s).2)::c) w':=by
 have u:=hE.ext (xal w x t n q l N b).o;have Q:=xal w x t n q l N b;have S0:=hY (aa.refl (hC.ext Q.o));have f:=hP.keep (am Q.o hE.tw);obtain⟨q1,q2⟩:=hE.boxC S0.o;obtain⟨av,lv,wv,xs,F1,hV⟩:=hC.ext Q.o;obtain rfl:=hV.wrong_none hs;obtain⟨v1,v2⟩:=blk hV.blk;clear hV;have au:=hY (fD (w.alloc (.cells (af x.kind x.name x.FP.length x.FQ.length x.FN.length x.FY x.FR t n q l N b) 26)).drew);have KB:=hY (fun W E=>(bt w (aB x.kind x.name x.FP.length x.FQ.length x.FN.length x.FY x.FR t n q l N b) 26 W E).1);have IN:=hY (fun W (E:Ext (w.alloc (.cells (af x.kind x.name x.FP.length x.FQ.length x.FN.length x.FY x.FR t n q l N b) 26)) W)=>jB x v z C I W top (aN u.tw E.size) t n q l N b (f.keep (am E u.tw)));obtain⟨g,a,b1,d1,b2,d2,b3,d3,rfl,hg,hS,aj⟩:=f.FN.seven (j:=0) (x:=v) (by rw[C];rfl);rw[np,ks] at hS;have SV:=hY (fun(V:World) s' ch' (h:aa base p (w.alloc (.cells (af x.kind x.name x.FP.length x.FQ.length x.FN.length x.FY x.FR t n q l (some ⟨g,a,none⟩) b) 26)) H G F s' ch' V)=>hS.keep (u.lowS h g hg));have KC:=hY (fun(W:World) s' ch' (h:aa base p (w.alloc (.cells (aB x.kind x.name x.FP.length x.FQ.length x.FN.length x.FY x.FR t n q l (some ⟨g,a,none⟩) b).toArray 26)) H G F s' ch' W)=>(hE.boxC h).1);have K:=bF x;rw[C,T.ndL] at K;have Y:v∈x.FN:=by rw[C];simp
 have RA:=hY (fun(W:World) (st:aa base p (w.alloc (.cells (af x.kind x.name x.FP.length x.FQ.length x.FN.length x.FY x.FR t n q l (some ⟨g,a,none⟩) b) 26)) H G F s ((r,d,its)::c) W)=>(fN fs gs v hv).after u st aj (O.mono (by omega)) (aN (bW Y) hN));have EN:=hY u;have ad:x.FN.length<=b:=f.FN.cap;have aw:x.FN.length<=1048576:=f.FN.small;have D:=iU fs gs v (d::rgs c) s
 have BB:Hid (Bud (bg fs gs v (d::rgs c) s).1 (its++(bg fs gs v (d::rgs c) s).2).length c.length (4*T.ndL z+1)):=hY (by
  have hp:=bG v;refine⟨?_,?_,?_,?_⟩
  ·have:=O.its;have:=D.its;rw[bY];omega
  ·have:=O.lab;have:=D.lab;omega
  ·have:=O.lit;have:=D.lit;omega
  ·have:=O.dep;omega)
 have L:x.FN.length=z.length+1:=by rw[C];rfl
 have NR:Hid (NAt (w.alloc (.cells (af x.kind x.name x.FP.length x.FQ.length x.FN.length x.FY x.FR t n q l (some ⟨g,a,none⟩) b) 26)) top (some ⟨g,a+7,none⟩) (b-1) z):=hY (by
  have hd:=f.FN.drop (lo:=1) (by rw[C];simp);rw[if_neg ae,show x.FN.drop 1=z by rw[C];rfl] at hd;rw[Ac,Fw,show(⟨g,a,none⟩:Addr).add 7=⟨g,a+7,none⟩ by simp[Addr.add]] at hd
  exact hd)
 have MC:=hY (fun(W:World) (st:aa base p (w.alloc (.cells (af x.kind x.name x.FP.length x.FQ.length x.FN.length x.FY x.FR t n q l (some ⟨g,a,none⟩) b) 26)) H G F (bg fs gs v (d::rgs c) s).1 ((r,d,its++(bg fs gs v (d::rgs c) s).2)::c) W)=>st.next (R:=fun e=>e=nrm) fun F3 aq B=>gS fs gs z M x.name f.name (db v) base top p W H G _ r d _ c F3 (some ⟨g,a+7,none⟩) (b-1) (EN.o.step B aq) aq (NR.o.keep (EN.o.low B)) BB.o (fun y hy=>aN (bW (x:=x) (y:=y) (by rw[C];exact sb _ hy)) hN));have SE:=hY (lV fs gs x.name v z (d::rgs c) s);have VG:=hY (nX fs gs x v z hk C (d::rgs c) s hs Z);rw[SE.o] at VG;have IK:Hid (∃U j o,aO x.name=some (U,j,o)):=hY ab;have IB:Hid (ft x=false):=hY J;rw[L] at Q KB KC q1 q2 v1 v2 S0 EN SV NR MC au aw ad RA IN ⊢;clear hP f aj hE u hC O hN hs C hS hg K Y D L Z SE BB hv M ab J I;generalize z.length=m at*;generalize bg fs gs v (d::rgs c) s=RV at*;generalize db v=sv at*;generalize x.name=S at*;generalize x.FP.length=n1 at*;generalize x.FQ.length=n2 at*;generalize x.FY=pr at*;generalize x.FR=pl at*;generalize x.kind=k at*;subst hk;have hz:∀w,(zeroValue 236).run Tryz.prog w=.ok .nilFunc w:=fun w=>by kernel_rfl
 have HZ:=hY hz;clear hz;go_enter Tryz.func123,Tryz.ntmps123;go_upto_region 1 with fail;generalize ax:w.alloc _=W1 at*;clear ax;have KD:=hY (KB.o _ ((Ext.refl W1).drew));go_upto_region 30 with fail
 go_region_held3 (fun X=>∀i,X.cell? ⟨w.heap.size,i,none⟩=(aB 5 S n1 n2 (m+1) pr pl t n q l (some ⟨g,a,none⟩) b)[i]?)
  (with_reducible (first|exact KD.o|exact KB.o _ E3.o))
  ((go_at_call 169;refine au.o.mono ?_;rintro e w3 ⟨mm,ll,rfl,ap,B,ak⟩;have E3:=hY (((Ext.refl W1).drew).trans ap);have LK:=dB (P:=Tryz.prog) w3 Tryz.underlying238 Tryz.underlying9 B .nilFunc HZ.o S;obtain⟨U,j0,o0,ik⟩:=IK.o;have hi:=ak S;rw[ik] at hi;obtain⟨cl,ac⟩:∃cl,lB ll S=some cl:=(by cases U<;>exact⟨hi.choose,hi.choose_spec.1⟩);rw[ac,At,Option.isSome_some] at LK;have I0:=IN.o w3 E3.o;rw[IB.o] at I0;have I3:=hY I0;clear ap B ak hi ik ac I0))
 go_upto_region 33 with(go_at_call 170;refine I3.o.m fun w4 al=>?_;have E4:=hY (E3.o.trans al.o));have S1:=hY (S0.o.ext E4.o);have q3:=KC.o _ _ _ S1.o;clear I3 E4;have A:=hY (RA.o _ S1.o);obtain⟨e0,e1,e2,e3,e4,e5,e6⟩:=SV.o _ _ _ S1.o;have a4:(0:Int)<(m:Int)+1:=by omega
 have a0:(1:Int)<=(m:Int)+1:=by omega
 have az:(0:Int)<((m+1:Nat):Int):=by omega
 have ay:(1:Int)<=((m+1:Nat):Int):=by omega
 clear q1 q2 v1 v2 LK KD KB E3 S0;go_upto_region 34 with(go_at_call 171;refine A.o.m fun w5 S4=>?_);clear q3 e0 e1 e2 e3 e4 e5 e6;have S5:=hY (S4.o.ext ((Ext.refl w5).drew));have KQ:=hY (KC.o _ _ _ S4.o);have KR:=hY (KC.o _ _ _ S5.o);have M5:=hY (MC.o _ S5.o);have q1:=KQ.o
 go_region_held3 (fun X=>∀i,X.cell? ⟨w.heap.size,i,none⟩=(aB 5 S n1 n2 (m+1) pr pl t n q l (some ⟨g,a,none⟩) b)[i]?)
  (with_reducible (first|exact KR.o|exact KQ.o|exact KS.o))
  ((go_at_call 172;refine M5.o.m fun w6 S6=>?_;have KS:=hY (KC.o _ _ _ S6.o)))
 have SF:=hY (show aa base p W1 H G F _ ((r,d,its++(RV.2++_))::c) w6 by have h:=S6.o;rw[gz] at h;exact h);go_wp2_with fail
 (first|refine QzE rfl rfl ?_|refine QzR rfl rfl ?_);exact ⟨rfl,by rw[VG.o];exact aa.FZ Q.o SF.o⟩
theorem oA (fs gs:List BL)(x v:T)(ar:List T)(hk:x.kind=5)(t:x.FN=v::ar)(hv:eY fs gs v)(J:∀y∈ar,eY fs gs y)(U:∃O j o,aO x.name=some (O,j,o))(G:ft x=false)(E:de.isPrefixOf x.name=false->ar≠[])(S:aO x.name=none\/ft x=false)
 (base top p:Nat) (w:World) (D C:Value) (s:GS) (r:Nat) (b:Rg) (its:List It) (c:List RgS) (F:List Nat) (n:Option Addr) (l:Nat) (m:Option Addr) (f:Nat) (K:Option Addr) (c3:Nat) (ab:c3=1) (hs:s.F9=none) (hE:Env base top p w D C fs gs F) (hC:CW base p w D C s ((r,b,its)::c) F) (hP:bK w top x n l m f K c3) (L:Bud s its.length c.length (4*T.nd x)) (hN:T.nms x<=ao):
 Calls Tryz.prog 123 #[.pointer (some ⟨p,0,none⟩),.agg (af x.kind x.name x.FP.length x.FQ.length x.FN.length x.FY x.FR n l m f K c3)] w fun e w'=>e=nrm/\aa base p w D C F (ah fs gs x (b::rgs c) s).1 ((r,b,its++(ah fs gs x (b::rgs c) s).2)::c) w':=by
 subst ab;obtain rfl:ar=[]:=ls (by have h:=hP.FN.cap;rw[t] at h;simp only[gi] at h;omega);have q:=hE.ext (xal w x n l m f K 1).o;have M:=xal w x n l m f K 1;have S0:=hY (aa.refl (hC.ext M.o));have d:=hP.keep (am M.o hE.tw);obtain⟨q1,q2⟩:=hE.boxC S0.o;obtain⟨av,lv,wv,xs,F1,hV⟩:=hC.ext M.o;obtain rfl:=hV.wrong_none hs;obtain⟨v1,v2⟩:=blk hV.blk;clear hV;have al:=hY (fD (w.alloc (.cells (af x.kind x.name x.FP.length x.FQ.length x.FN.length x.FY x.FR n l m f K 1) 26)).drew);have KB:=hY (fun W B=>(bt w (aB x.kind x.name x.FP.length x.FQ.length x.FN.length x.FY x.FR n l m f K 1) 26 W B).1);have IN:=hY (fun W (B:Ext (w.alloc (.cells (af x.kind x.name x.FP.length x.FQ.length x.FN.length x.FY x.FR n l m f K 1) 26)) W)=>jB x v [] t E W top (aN q.tw B.size) n l m f K 1 (d.keep (am B q.tw)));obtain⟨g,a,b1,d1,b2,d2,b3,d3,rfl,hg,hS,ae⟩:=d.FN.seven (j:=0) (x:=v) (by rw[t];rfl);rw[np,ks] at hS;have SV:=hY (fun(V:World) s' ch' (h:aa base p (w.alloc (.cells (af x.kind x.name x.FP.length x.FQ.length x.FN.length x.FY x.FR n l m f (some ⟨g,a,none⟩) 1) 26)) D C F s' ch' V)=>hS.keep (q.lowS h g hg));have KC:=hY (fun(W:World) s' ch' (h:aa base p (w.alloc (.cells (aB x.kind x.name x.FP.length x.FQ.length x.FN.length x.FY x.FR n l m f (some ⟨g,a,none⟩) 1).toArray 26)) D C F s' ch' W)=>(hE.boxC h).1);have H:=bF x;rw[t,T.ndL] at H;have Q:v∈x.FN:=by rw[t];simp
 have RA:=hY (fun(W:World) (st:aa base p (w.alloc (.cells (af x.kind x.name x.FP.length x.FQ.length x.FN.length x.FY x.FR n l m f (some ⟨g,a,none⟩) 1) 26)) D C F s ((r,b,its)::c) W)=>(fN fs gs v hv).after q st ae (L.mono (by omega)) (aN (bW Q) hN));have EN:=hY q;have Z:x.FN.length<=1:=d.FN.cap;have ap:x.FN.length<=1048576:=d.FN.small;have z:=iU fs gs v (b::rgs c) s
 have BB:Hid (Bud (bg fs gs v (b::rgs c) s).1 (its++(bg fs gs v (b::rgs c) s).2).length c.length (4*T.ndL ([]:List T)+1)):=hY (by
  have hp:=bG v;refine⟨?_,?_,?_,?_⟩
  ·have:=L.its;have:=z.its;rw[bY];omega
  ·have:=L.lab;have:=z.lab;omega
  ·have:=L.lit;have:=z.lit;omega
  ·have:=L.dep;omega)
 have I:x.FN.length=1:=by rw[t];rfl
 have NR:Hid (NAt (w.alloc (.cells (af x.kind x.name x.FP.length x.FQ.length x.FN.length x.FY x.FR n l m f (some ⟨g,a,none⟩) 1) 26)) top (some ⟨g,a,none⟩) 0 []):=hY (by
  have hd:=d.FN.drop (lo:=1) (by rw[t];simp);rw[if_pos rfl,show x.FN.drop 1=[] by rw[t];rfl] at hd
  exact hd)
 have MC:=hY (fun(W:World) (st:aa base p (w.alloc (.cells (af x.kind x.name x.FP.length x.FQ.length x.FN.length x.FY x.FR n l m f (some ⟨g,a,none⟩) 1) 26)) D C F (bg fs gs v (b::rgs c) s).1 ((r,b,its++(bg fs gs v (b::rgs c) s).2)::c) W)=>st.next (R:=fun e=>e=nrm) fun F3 ak u=>gS fs gs [] J x.name d.name (db v) base top p W D C _ r b _ c F3 (some ⟨g,a,none⟩) 0 (EN.o.step u ak) ak (NR.o.keep (EN.o.low u)) BB.o (fun y hy=>aN (bW (x:=x) (y:=y) (by rw[t];exact sb _ hy)) hN));have SE:=hY (lV fs gs x.name v [] (b::rgs c) s);have VG:=hY (nX fs gs x v [] hk t (b::rgs c) s hs S);rw[SE.o] at VG;have IK:Hid (∃O j o,aO x.name=some (O,j,o)):=hY U;have IB:Hid (ft x=false):=hY G;rw[I] at M KB KC q1 q2 v1 v2 S0 EN SV NR MC al ap Z RA IN ⊢;clear hP d ae hE q hC L hN hs t hS hg H Q z I S SE BB hv J U G E;simp only[hG] at MC VG;generalize bg fs gs v (b::rgs c) s=RV at*;generalize db v=sv at*;generalize x.name=N at*;generalize x.FP.length=n1 at*;generalize x.FQ.length=n2 at*;generalize x.FY=pr at*;generalize x.FR=pl at*;generalize x.kind=k at*;subst hk;have hz:∀w,(zeroValue 236).run Tryz.prog w=.ok .nilFunc w:=fun w=>by kernel_rfl
 have HZ:=hY hz;clear hz;go_enter Tryz.func123,Tryz.ntmps123;go_upto_region 1 with fail;generalize aq:w.alloc _=W1 at*;clear aq;have KD:=hY (KB.o _ ((Ext.refl W1).drew));go_upto_region 30 with fail
 go_region_held3 (fun X=>∀i,X.cell? ⟨w.heap.size,i,none⟩=(aB 5 N n1 n2 1 pr pl n l m f (some ⟨g,a,none⟩) 1)[i]?)
  (with_reducible (first|exact KD.o|exact KB.o _ E3.o))
  ((go_at_call 169;refine al.o.mono ?_;rintro e w3 ⟨mm,ll,rfl,aj,u,ag⟩;have E3:=hY (((Ext.refl W1).drew).trans aj);have LK:=dB (P:=Tryz.prog) w3 Tryz.underlying238 Tryz.underlying9 u .nilFunc HZ.o N;obtain⟨O,j0,o0,ik⟩:=IK.o;have hi:=ag N;rw[ik] at hi;obtain⟨cl,Y⟩:∃cl,lB ll N=some cl:=(by cases O<;>exact⟨hi.choose,hi.choose_spec.1⟩);rw[Y,At,Option.isSome_some] at LK;have I0:=IN.o w3 E3.o;rw[IB.o] at I0;have I3:=hY I0;clear aj u ag hi ik Y I0))
 go_upto_region 33 with(go_at_call 170;refine I3.o.m fun w4 ai=>?_;have E4:=hY (E3.o.trans ai.o));have S1:=hY (S0.o.ext E4.o);have q3:=KC.o _ _ _ S1.o;clear I3 E4;have A:=hY (RA.o _ S1.o);obtain⟨e0,e1,e2,e3,e4,e5,e6⟩:=SV.o _ _ _ S1.o;clear q1 q2 v1 v2 LK KD KB E3 S0;go_upto_region 34 with(go_at_call 171;refine A.o.m fun w5 S4=>?_);clear q3 e0 e1 e2 e3 e4 e5 e6;have S5:=hY (S4.o.ext ((Ext.refl w5).drew));have KQ:=hY (KC.o _ _ _ S4.o);have KR:=hY (KC.o _ _ _ S5.o);have M5:=hY (MC.o _ S5.o);have q1:=KQ.o
 go_region_held3 (fun X=>∀i,X.cell? ⟨w.heap.size,i,none⟩=(aB 5 N n1 n2 1 pr pl n l m f (some ⟨g,a,none⟩) 1)[i]?)
  (with_reducible (first|exact KR.o|exact KQ.o|exact KS.o))
  ((go_at_call 172;refine M5.o.m fun w6 S6=>?_;have KS:=hY (KC.o _ _ _ S6.o)))
 have SF:=hY (show aa base p W1 D C F _ ((r,b,its++(RV.2++_))::c) w6 by have h:=S6.o;rw[gz] at h;exact h);go_wp2_with fail
 (first|refine QzE rfl rfl ?_|refine QzR rfl rfl ?_);exact ⟨rfl,by rw[VG.o];exact aa.FZ M.o SF.o⟩
def z7 (W:World)(p:Nat)(F:List Nat)(d c:Nat)(skip a:Int):Prop:=∃e,(W.heap[d]?=some (.cells #[.i skip] 89)/\d≠p/\¬d∈F)/\(W.heap[c]?=some (.cells #[e] 273)/\c≠p/\¬c∈F)/\((a=0/\e=.func (Fn.func 232) #[] #[])\/(a≠0/\∃b,e=.func (Fn.func 267) #[] #[.pointer (some ⟨b,0,none⟩)]/\W.heap[b]?=some (.cells #[.i a] 89)/\b≠p/\¬b∈F))
theorem z7.of {lo:Nat}{w W:World}{v:Value}{skip a:Int}{p:Nat}{F:List Nat}(h:dF lo w v skip a)(d:Ext w W)(A:p<lo)(o:∀k∈F,k<lo):∃g f,v=.func (Fn.func 263) #[] #[.pointer (some ⟨g,0,none⟩),.pointer (some ⟨f,0,none⟩)]/\z7 W p F g f skip a:=by
 obtain⟨l,j,z,⟨y,x⟩,rfl,u,t,e⟩:=h;have c:∀b,lo<=b->b≠p/\¬b∈F:=fun b B=>⟨by omega,fun n=>by have:=o b n;omega⟩;refine⟨l,j,rfl,z,⟨d.keep u,c l y⟩,⟨d.keep t,c j x⟩,?_⟩;rcases e with e|⟨m,i,s,r,q⟩
 ·exact .inl e
 ·exact .inr ⟨m,i,r,d.keep q,c i s⟩
def zT (W:World)(p:Nat)(F:List Nat)(b:Nat)(a:Int):Prop:=W.heap[b]?=some (.cells #[.i a] 89)/\b≠p/\¬b∈F
theorem zT.of {lo:Nat}{w W:World}{v:Value}{a:Int}{p:Nat}{F:List Nat}(h:iK lo w v a)(f:Ext w W)(i:p<lo)(e:∀k∈F,k<lo):∃b,v=.func (Fn.func 268) #[] #[.pointer (some ⟨b,0,none⟩)]/\zT W p F b a:=by
 obtain⟨c,j,rfl,g⟩:=h;exact⟨c,rfl,f.keep g,by omega,fun d=>by have:=e c d;omega⟩
theorem vJ (fs gs:List BL)(x v b:T)(bs:List T)(z:x.FN=v::b::bs)(B:eY fs gs v)(C:∀y∈b.FN,eA fs gs y)(skip a:Int)(M:a=0->∃b2 h,bs=b2::h/\∀y∈b2.FN,eA fs gs y)(j i:Nat)
 (base top p:Nat) (w:World) (g f:Value) (s:GS) (r:Nat) (d:Rg) (its:List It) (c:List RgS) (F:List Nat) (u:Option Addr) (n:Nat) (t:Option Addr) (m:Nat) (o:Option Addr) (l:Nat) (G:Env base top p w g f fs gs F) (H:CW base p w g f s ((r,d,its)::c) F) (D:bK w top x u n t m o l) (I:Bud s its.length c.length (4*T.nd x)) (E:T.nms x<=ao) (N:z7 w p F j i skip a):
 Calls Tryz.prog 263 #[.pointer (some ⟨p,0,none⟩),.agg (af x.kind x.name x.FP.length x.FQ.length x.FN.length x.FY x.FR u n t m o l),.pointer (some ⟨j,0,none⟩),.pointer (some ⟨i,0,none⟩)] w fun e w'=>e=nrm/\aa base p w g f F (cv fs gs skip a v b bs (d::rgs c) s).1 ((r,d,its++(cv fs gs skip a v b bs (d::rgs c) s).2)::c) w':=by
 obtain⟨R,K,J,Q⟩:=N;rcases Q with⟨rfl,rfl⟩|⟨A,L,rfl,P⟩
 ·obtain⟨b2,h,rfl,O⟩:=M rfl
  exact nt fs gs x v b (b2::h) z B C skip 0 (wY fs gs x v b b2 h z O) j i base top p w g f s r d its c F u n t m o l G H D I E (fun q k=>by simp at k) K J
 ·exact pL fs gs x v b bs z B C skip a L (AU fs gs x a A bs L) j i base top p w g f s r d its c F u n t m o l G H D I E (fun q k=>by
   simp only[Array.mk.injEq,DO,Value.pointer.injEq,dO,Addr.mk.injEq,and_true] at k;subst k
   exact P) K J
theorem zf (fs gs:List BL)(x v:T)(h:List T)(q:x.FN=v::h)(t:∀y∈v.FN,eA fs gs y)(E:∀b∈h,∀y∈b.FN,eA fs gs y)(a:Int)(i:Nat)
 (base top p:Nat) (w:World) (g f:Value) (s:GS) (r:Nat) (d:Rg) (its:List It) (c:List RgS) (F:List Nat) (o:Option Addr) (l:Nat) (n:Option Addr) (k:Nat) (m:Option Addr) (j:Nat) (B:Env base top p w g f fs gs F) (C:CW base p w g f s ((r,d,its)::c) F) (u:bK w top x o l n k m j) (D:Bud s its.length c.length (4*T.nd x)) (z:T.nms x<=ao) (A:zT w p F i a):
 Calls Tryz.prog 268 #[.pointer (some ⟨p,0,none⟩),.agg (af x.kind x.name x.FP.length x.FQ.length x.FN.length x.FY x.FR o l n k m j),.pointer (some ⟨i,0,none⟩)] w fun e w'=>e=nrm/\aa base p w g f F (ez fs gs a v h (d::rgs c) s).1 ((r,d,its++(ez fs gs a v h (d::rgs c) s).2)::c) w':=by
 rcases h with _|⟨b,G⟩
 ·exact tF fs gs x v q t a i base top p w g f s r d its c F o l n k m j B C u D z A
 ·exact rM fs gs x v b G q t (E b (by simp)) a i base top p w g f s r d its c F o l n k m j B C u D z A
theorem oC (fs gs:List BL)(x v b:T)(bs:List T)(skip a:Int)(u:aO x.name=some (false,skip,a))(N:x.FN=v::b::bs)(hv:eY fs gs v)(E:∀y∈b.FN,eA fs gs y)(ho:a=0->∃b2 r3,bs=b2::r3/\∀y∈b2.FN,eA fs gs y)(O:x.kind=5)(z:ft x=true)(t:de.isPrefixOf x.name=false->(b::bs)≠[]):lP fs gs x:=by
 intro base top p w fv gv s r rg U c F q l n j m h V Q R hP hB hN;have f:=Q.ext (xal w x q l n j m h).o;have D:=xal w x q l n j m h;have S0:=hY (aa.refl (R.ext D.o));have B:=hP.keep (am D.o Q.tw);obtain⟨q1,q2⟩:=Q.boxC S0.o;obtain⟨av,lv,wv,xs,F1,Z⟩:=R.ext D.o;obtain rfl:=Z.wrong_none V;obtain⟨v1,v2⟩:=blk Z.blk;clear Z;have ab:=hY (fD (w.alloc (.cells (af x.kind x.name x.FP.length x.FQ.length x.FN.length x.FY x.FR q l n j m h) 26)).drew);have KB:=hY (fun W d=>(bt w (aB x.kind x.name x.FP.length x.FQ.length x.FN.length x.FY x.FR q l n j m h) 26 W d).1);have IN:=hY (fun W (d:Ext (w.alloc (.cells (af x.kind x.name x.FP.length x.FQ.length x.FN.length x.FY x.FR q l n j m h) 26)) W)=>jB x v (b::bs) N t W top (aN f.tw d.size) q l n j m h (B.keep (am d f.tw)));have IB:Hid (ft x=true):=hY z;have IK:=hY u;have PW:Hid (p<(w.alloc (.cells (af x.kind x.name x.FP.length x.FQ.length x.FN.length x.FY x.FR q l n j m h) 26)).heap.size):=hY f.pw;have FW:Hid (∀k∈F,k<(w.alloc (.cells (af x.kind x.name x.FP.length x.FQ.length x.FN.length x.FY x.FR q l n j m h) 26)).heap.size):=hY (fun k O=>(f.Fb k O).2.1);have KK:=hY (fun W (d:Ext (w.alloc (.cells (af x.kind x.name x.FP.length x.FQ.length x.FN.length x.FY x.FR q l n j m h) 26)) W) M L (ch:z7 W p F M L skip a)=>vJ fs gs x v b bs N hv E skip a ho M L base top p W fv gv s r rg U c F q l n j m h (f.ext d) ((R.ext D.o).ext d) (B.keep (am d f.tw)) hB hN ch);have VG:=hY (wM fs gs x v b bs O N (rg::rgs c) s V skip a u z);clear hP B Q f R hB hN V N u z t hv E ho;generalize x.name=S at*;generalize x.FP.length=n1 at*;generalize x.FQ.length=n2 at*;generalize x.FN.length=n3 at*;generalize x.FY=pr at*;generalize x.FR=pl at*;generalize x.kind=k at*;subst O;have hz:∀w,(zeroValue 236).run Tryz.prog w=.ok .nilFunc w:=fun w=>by kernel_rfl
 have HZ:=hY hz;clear hz;go_enter Tryz.func123,Tryz.ntmps123;go_upto_region 1 with fail;generalize Y:w.alloc _=W1 at*;clear Y;have KD:=hY (KB.o _ ((Ext.refl W1).drew));go_upto_region 30 with fail
 go_region_held3 (fun X=>∀i,X.cell? ⟨w.heap.size,i,none⟩=(aB 5 S n1 n2 n3 pr pl q l n j m h)[i]?)
  (with_reducible (first|exact KD.o|exact KB.o _ E3.o))
  ((go_at_call 169;refine ab.o.mono ?_;rintro e w3 ⟨mm,ll,rfl,K,I,J⟩;have E3:=hY (((Ext.refl W1).drew).trans K);have LK:=dB (P:=Tryz.prog) w3 Tryz.underlying238 Tryz.underlying9 I .nilFunc HZ.o S;have hi:=J S;rw[IK.o] at hi;obtain⟨cl,G,g⟩:=hi;have CH:=hY g;rw[G,At,Option.isSome_some] at LK;have I0:=IN.o w3 E3.o;rw[IB.o] at I0;have I3:=hY I0;clear K I J G I0 g))
 clear LK;go_upto_region 32 with(go_at_call 170;refine I3.o.m fun w4 C=>?_;have E4:=hY (E3.o.trans C.o);have CX:=hY (z7.of CH.o C.o PW.o FW.o));obtain⟨M,L,rfl,g⟩:=CX.o;have A:=hY (KK.o w4 E4.o M L g);have q3:=KB.o _ E4.o;clear CX CH g q1 q2 v1 v2;go_wp2_with (go_at_call 263;refine A.o.m fun w5 H=>?_;have SF:=hY (aa.FZ E4.o H.o))
 (first|refine QzE rfl rfl ?_|refine QzR rfl rfl ?_);exact ⟨rfl,by rw[VG.o];exact aa.FZ D.o SF.o⟩
theorem rx (fs gs:List BL)(x v:T)(D:List T)(a o:Int)(u:aO x.name=some (true,a,o))(N:x.FN=v::D)(hv:∀y∈v.FN,eA fs gs y)(G:∀b∈D,∀y∈b.FN,eA fs gs y)(O:x.kind=5)(z:ft x=true)(t:de.isPrefixOf x.name=false->D≠[]):lP fs gs x:=by
 intro base top p w fv gv s r rg U c F q l n j m h V Q R hP hB hN;have f:=Q.ext (xal w x q l n j m h).o;have E:=xal w x q l n j m h;have S0:=hY (aa.refl (R.ext E.o));have B:=hP.keep (am E.o Q.tw);obtain⟨q1,q2⟩:=Q.boxC S0.o;obtain⟨av,lv,wv,xs,F1,Z⟩:=R.ext E.o;obtain rfl:=Z.wrong_none V;obtain⟨v1,v2⟩:=blk Z.blk;clear Z;have ab:=hY (fD (w.alloc (.cells (af x.kind x.name x.FP.length x.FQ.length x.FN.length x.FY x.FR q l n j m h) 26)).drew);have KB:=hY (fun W d=>(bt w (aB x.kind x.name x.FP.length x.FQ.length x.FN.length x.FY x.FR q l n j m h) 26 W d).1);have IN:=hY (fun W (d:Ext (w.alloc (.cells (af x.kind x.name x.FP.length x.FQ.length x.FN.length x.FY x.FR q l n j m h) 26)) W)=>jB x v D N t W top (aN f.tw d.size) q l n j m h (B.keep (am d f.tw)));have IB:Hid (ft x=true):=hY z;have IK:=hY u;have PW:Hid (p<(w.alloc (.cells (af x.kind x.name x.FP.length x.FQ.length x.FN.length x.FY x.FR q l n j m h) 26)).heap.size):=hY f.pw;have FW:Hid (∀k∈F,k<(w.alloc (.cells (af x.kind x.name x.FP.length x.FQ.length x.FN.length x.FY x.FR q l n j m h) 26)).heap.size):=hY (fun k O=>(f.Fb k O).2.1);have KK:=hY (fun W (d:Ext (w.alloc (.cells (af x.kind x.name x.FP.length x.FQ.length x.FN.length x.FY x.FR q l n j m h) 26)) W) M (ch:zT W p F M a)=>zf fs gs x v D N hv G a M base top p W fv gv s r rg U c F q l n j m h (f.ext d) ((R.ext E.o).ext d) (B.keep (am d f.tw)) hB hN ch);have VG:=hY (Ai fs gs x v D O N (rg::rgs c) s V a o u z);clear hP B Q f R hB hN V N u z t hv G;generalize x.name=S at*;generalize x.FP.length=n1 at*;generalize x.FQ.length=n2 at*;generalize x.FN.length=n3 at*;generalize x.FY=pr at*;generalize x.FR=pl at*;generalize x.kind=k at*;subst O;have hz:∀w,(zeroValue 236).run Tryz.prog w=.ok .nilFunc w:=fun w=>by kernel_rfl
 have HZ:=hY hz;clear hz;go_enter Tryz.func123,Tryz.ntmps123;go_upto_region 1 with fail;generalize Y:w.alloc _=W1 at*;clear Y;have KD:=hY (KB.o _ ((Ext.refl W1).drew));go_upto_region 30 with fail
 go_region_held3 (fun X=>∀i,X.cell? ⟨w.heap.size,i,none⟩=(aB 5 S n1 n2 n3 pr pl q l n j m h)[i]?)
  (with_reducible (first|exact KD.o|exact KB.o _ E3.o))
  ((go_at_call 169;refine ab.o.mono ?_;rintro e w3 ⟨mm,ll,rfl,L,J,K⟩;have E3:=hY (((Ext.refl W1).drew).trans L);have LK:=dB (P:=Tryz.prog) w3 Tryz.underlying238 Tryz.underlying9 J .nilFunc HZ.o S;have hi:=K S;rw[IK.o] at hi;obtain⟨cl,H,g⟩:=hi;have CH:=hY g;rw[H,At,Option.isSome_some] at LK;have I0:=IN.o w3 E3.o;rw[IB.o] at I0;have I3:=hY I0;clear L J K H I0 g))
 clear LK;go_upto_region 32 with(go_at_call 170;refine I3.o.m fun w4 C=>?_;have E4:=hY (E3.o.trans C.o);have CX:=hY (zT.of CH.o C.o PW.o FW.o));obtain⟨M,rfl,g⟩:=CX.o;have A:=hY (KK.o w4 E4.o M g);have q3:=KB.o _ E4.o;clear CX CH g q1 q2 v1 v2;go_wp2_with (go_at_call 268;refine A.o.m fun w5 I=>?_;have SF:=hY (aa.FZ E4.o I.o))
 (first|refine QzE rfl rfl ?_|refine QzR rfl rfl ?_);exact ⟨rfl,by rw[VG.o];exact aa.FZ E.o SF.o⟩
end Go.Proofs.Eff
