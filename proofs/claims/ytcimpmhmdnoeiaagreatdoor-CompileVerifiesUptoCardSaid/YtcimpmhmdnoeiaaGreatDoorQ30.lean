import Derived.Test.YtcimpmhmdnoeiaaGreatDoorQ28
import Derived.Test.YtcimpmhmdnoeiaaGreatDoorQ29
set_option maxRecDepth 100000
set_option maxHeartbeats 4000000
set_option linter.all false
namespace Go.Proofs.Eff
open Go.RowKit
variable {base p:Nat} {s:GS}
theorem iX {w a:World}{c b:Value}{F:List Nat}{d:List RgS}(f:aa base p w c b F s d a)(j:s.FU.length<=bq)(k:Int)(t:BL)(g:t.length<=ao):Calls Tryz.prog 166 #[.pointer (some ⟨p,0,none⟩),.agg #[.i k,.string (mkS t),.slice none 0 0]] a fun e w'=>e=.returned (.i ((s.lit (.mk k t [])).2:Int))/\aa base p w c b F (s.lit (.mk k t [])).1 d w':=
 f.next (R:=fun e=>e=.returned (.i ((s.lit (.mk k t [])).2:Int))) fun m l _=>pk base p a c b s d m l k t [] none 0 (by rw[dt];exact⟨none,0,rfl,gE _,oS _,fun _=>rfl,oS _,g,fun h=>absurd rfl h⟩) j
theorem aa.many {w d:World}{h g:Value}{F:List Nat}{i:List RgS}(l:aa base p w h g F s i d)(b v:Bool)(n:v=(s.many||b)):aa base p w h g F (s.or b) i (d.setCell ⟨p,6,none⟩ (.bool v)):=by
 refine l.trans fun r o=>?_;obtain⟨q,m,f,j,t,e⟩:=o;have c:=ae d ⟨p,6,none⟩ (.bool v);refine⟨r,⟨q,m,f,j,t,e.own (s':=s.or b) c rfl f ?_ (e.F9.keep (fun k a=>c.block k a.2.1 (by simp[a.2.2.1])) (fun k a=>⟨a.1,bA a.2.1 c.size,a.2.2⟩))⟩,c.mono (by simp),fun k a=>.inl a⟩;rw[be e.blk,n];rfl
theorem aa.pcells {w b:World}{f e:Value}{F:List Nat}{j:List RgS}(g:aa base p w f e F s j b):∃d c a,(∀i,b.cell? ⟨p,i,none⟩=(#[f,e,d,c,.i (s.FO:Int),a,.bool s.many]:Array Value)[i]?)/\(∀i,b.frozen? ⟨p,i,none⟩=false):=by
 obtain⟨l,⟨d,c,a,k,m,h⟩,_⟩:=g;exact⟨d,c,a,blk h.blk⟩
def db (x:T):Bool:=cY x
theorem fN (fs gs:List BL)(x:T)(J:eY fs gs x):sA fs gs 171 x (bg fs gs x) (.returned (.bool (db x))) (4*T.nd x):=by
 intro base top p w fv gv s r D its c F S P R O Q N v M K z L;have m:=v.ext (xal w x S P R O Q N).o;have t:=xal w x S P R O Q N;have B:=hY (aa.refl (M.ext t.o));have j:=K.keep (am t.o v.tw);obtain⟨Z,Y⟩:=v.boxC B.o;have A:=hY (J.after m B.o j z L);have X:Hid (its.length<=bq):=hY (by have:=z.its;omega);have d:((mkS x.name).toList==[115,117,112,101,114])=decide (x.name=bm):=by rw[cO,aG];rfl
 have i:Hid (db x=(x.kind==8&&decide (x.name=bm))):=hY (by
  obtain⟨k,n,W,V,l,u,pl⟩:=x;show(k==8&&n==bm)=(k==8&&decide (n=bm))
  congr 1
  rw[rW];simp)
 have g:Hid (bg fs gs x (D::rgs c) s=if x.kind=8/\x.name=bm then(s,[.ins 1 0 0 0]) else ah fs gs x (D::rgs c) s):=hY (by
  obtain⟨k,n,W,V,l,u,pl⟩:=x
  rw[bg];rfl)
 clear K j v m M z L J;by_cases hk:x.kind=8
 ·by_cases hn:x.name=bm
  ·rw[if_pos ⟨hk,hn⟩] at g
   rw[decide_eq_true hn] at d i;have b:Hid (db x=true):=hY (by rw[i.o,hk];rfl);rw[g.o,b.o];clear A i hn g b;generalize x.kind=k at*;subst hk;generalize x.name=E at*;generalize x.FP.length=I at*;generalize x.FQ.length=H at*;generalize x.FN.length=G at*;generalize x.FY=u at*;generalize x.FR=pl at*;go_enter Tryz.func171,Tryz.ntmps171;go_upto_region 1 with fail;generalize f:w.alloc _=U at*;clear f;go_wp2_with (first|(go_at_call 60;refine(cr B.o X.o _).m fun C q=>?_));go_ret;exact⟨rfl,aa.FZ t.o q.o⟩
  ·rw[if_neg (fun h=>hn h.2)] at g
   rw[decide_eq_false hn] at d i;have b:Hid (db x=false):=hY (by rw[i.o];simp);rw[g.o,b.o];clear i hn g b;generalize x.kind=k at*;subst hk;generalize x.name=E at*;generalize x.FP.length=I at*;generalize x.FQ.length=H at*;generalize x.FN.length=G at*;generalize x.FY=u at*;generalize x.FR=pl at*;go_enter Tryz.func171,Tryz.ntmps171;go_upto_region 1 with fail;generalize f:w.alloc _=U at*;clear f;go_wp2_with (first|(go_at_call 123;refine A.o.m fun C q=>?_));go_ret;exact⟨rfl,aa.FZ t.o q.o⟩
 ·rw[if_neg (fun h=>hk h.1)] at g
  have y:(x.kind==8)=false:=by simpa using hk
  have b:Hid (db x=false):=hY (by rw[i.o,y];rfl);rw[g.o,b.o];clear i hk g b d;generalize x.kind=k at*;generalize x.name=E at*;generalize x.FP.length=I at*;generalize x.FQ.length=H at*;generalize x.FN.length=G at*;generalize x.FY=u at*;generalize x.FR=pl at*;go_enter Tryz.func171,Tryz.ntmps171;go_upto_region 1 with fail;generalize f:w.alloc _=U at*;clear f;go_wp2_with (first|(go_at_call 123;refine A.o.m fun C q=>?_));go_ret;exact⟨rfl,aa.FZ t.o q.o⟩
structure lO (fs gs:List BL)(l:List T)(c:List Rg)(s:GS)(n d:Nat)(j:Nat)(sj:GS)(ij:List It):Prop where
 eq:aW fs gs l c s=((aW fs gs (l.drop j) c sj).1,ij++(aW fs gs (l.drop j) c sj).2)
 bud:Bud sj (n+ij.length) d (4*T.ndL (l.drop j)+1)
theorem lO.next {fs gs:List BL}{l:List T}{c:List Rg}{n d j:Nat}{b:GS}{f:List It}(h:lO fs gs l c s n d j b f){y:T}(g:l[j]?=some y):lO fs gs l c s n d (j+1) (ah fs gs y c b).1 (f++(ah fs gs y c b).2):=by
 have e:=dL fs gs y c b;have i:=fi g;have a:=h.bud;have o:=bG y;rw[i] at a;obtain⟨k,m⟩:=aC.1 g;refine⟨?_,?_⟩
 ·rw[h.eq,hI k,m,aW]
  simp
 ·refine⟨?_,?_,?_,?_⟩
  ·have:=a.its;have:=e.its
   simp only[bY];omega
  ·have:=a.lab;have:=e.lab;omega
  ·have:=a.lit;have:=e.lit;omega
  ·have:=a.dep;omega
theorem gS (fs gs:List BL)(l:List T)(hx:∀y∈l,eY fs gs y)(n:BL)(hn:n.length<=ao)(a:Bool)(base top p:Nat)(w:World)(U S:Value)(s:GS)(r:Nat)(q:Rg)(its:List It)(c:List RgS)(F:List Nat)(a3:Option Addr)(c3:Nat)(hE:Env base top p w U S fs gs F)(hC:CW base p w U S s ((r,q,its)::c) F)(hP:NAt w top a3 c3 l)(hB:Bud s its.length c.length (4*T.ndL l+1))(hN:∀y∈l,T.nms y<=ao):
 Calls Tryz.prog 172 #[.pointer (some ⟨p,0,none⟩),.string (mkS n),.slice a3 l.length c3,.bool a] w fun e w'=>e=nrm/\aa base p w U S F (eE fs gs n a l l.length (q::rgs c) s).1 ((r,q,its++(eE fs gs n a l l.length (q::rgs c) s).2)::c) w':=by
 have NN:=hY hP;have NM:=hY hN;have HX:=hY hx;have EN:=hY hE;have S0:=hY (aa.refl hC);have HN:=hY hn;have ae:l.length<=1048576:=hP.small;have R0:Hid (lO fs gs l (q::rgs c) s its.length c.length 0 s []):=hY ⟨by simp,by simpa using hB⟩;clear hP hE hC hB hN hx hn;go_enter Tryz.func172,Tryz.ntmps172;go_wp2_with fail
 go_loopw [13] (fun i wr=>∃(j:Nat) (k:GS) (B:List It),j<=l.length/\i=.i j/\aa base p w U S F k ((r,q,its++B)::c) wr/\lO fs gs l (q::rgs c) s its.length c.length j k B) (fun i _=>l.length-(intOf i).toNat)
 case atStart=>exact⟨0,s,[],by omega,rfl,by rw[kn];exact S0.o,R0.o⟩
 case round=>
  obtain⟨j,k,B,hj,rfl,Q,hR⟩:=hrel;have R:=hY hR;by_cases hlt:j<l.length
  ·obtain⟨y,J⟩:∃y,l[j]?=some y:=⟨l[j],by simp⟩
   obtain⟨F2,E,x⟩:=Q;have z:=EN.o.step x E;have M2:=hY x;obtain⟨g,ad,b1,d1,b2,d2,b3,d3,rfl,hg,ab,N⟩:=(NN.o.keep (EN.o.low x)).seven J;obtain⟨e0,e1,e2,e3,e4,e5,e6⟩:=ab;have V:=xal wr y b1 d1 b2 d2 b3 d3;have SA:=hY (aa.refl (E.ext V.o));have ac:=hY (z.ext V.o);have PY:=hY (N.keep (am V.o z.tw));obtain⟨t1,t2⟩:=z.boxC SA.o;have R2:=hY (R.o.next J);have m:=R.o.bud;rw[fi J] at m;have hp:=bG y;have A:=hY ((HX.o y (eQ J)).after ac.o (its:=its++B) SA.o PY.o ⟨by have:=m.its;simp only[bY];omega,by have:=m.lab;omega,by have:=m.lit;omega,by have:=m.dep;omega⟩ (NM.o y (eQ J)));clear E z x N hg J hR R m hp;go_upto_region 3 with fail;generalize Z:wr.alloc _=W3 at*;clear Z;go_wp2_with (first|(go_at_call 123;refine A.o.m fun w4 S4=>?_));go_roundw
   case rel=>exact⟨j+1,(ah fs gs y (q::rgs c) k).1,B++(ah fs gs y (q::rgs c) k).2,by omega,by go_num,by rw[←gz];exact(aa.FZ V.o S4.o).join M2.o,R2.o⟩
   case measure=>simp[intOf];omega
  ·have af:j=l.length:=by omega
   have VG:Hid (aW fs gs l (q::rgs c) s=(k,B)):=hY (by
    have h1:=R.o.eq;rw[hH (by omega),aW] at h1
    simpa using h1)
   have L:Hid (eE fs gs n a l l.length (q::rgs c) s=(((k.or (decide (15<l.length))).lit (.mk 3 n [])).1,B++[.ins (if a then 17 else 16) ((k.or (decide (15<l.length))).lit (.mk 3 n [])).2 l.length 0])):=hY (by
    rw[eE,VG.o])
   have I:Hid ((k.or (decide (15<l.length))).FU.length<=bq):=hY (by have:=R.o.bud.lit;show k.FU.length<=_;omega);have H:Hid ((its++B).length<=bq):=hY (by have:=R.o.bud.its;rw[bY];omega);obtain⟨av,lv,wv,W,v2⟩:=Q.pcells;obtain⟨v,Y⟩:∃v:Bool,v=(k.many||decide (15<l.length)):=⟨_,rfl⟩;have K:=hY (Q.many (decide (15<l.length)) v Y);have u:=hY Y;clear Q hR R VG Y
   have X:k.many=true\/(k.many=false/\15<l.length)\/(k.many=false/\¬15<l.length):=by
    cases k.many with
    |true=>exact .inl rfl
    |false=>by_cases h:15<l.length;exact .inr (.inl ⟨rfl,h⟩);exact .inr (.inr ⟨rfl,h⟩)
   generalize k.or (decide (15<l.length))=so at*;rcases X with C|⟨C,G⟩|⟨C,G⟩
   ·rw[C] at W u
    have f:Hid (v=true):=u;rw[f.o] at K;clear C u f;cases a
    all_goals
     go_upto_region 6 with fail;generalize t:wr.setCell _ _=W5 at*;clear t;go_wp2_with (first|(go_at_call 166;refine(iX K.o I.o 3 n HN.o).m fun w6 P=>?_)|(go_at_call 124;refine(bh P.o H.o _ _ _ _).m fun w7 D=>?_))
     (first|refine QzE rfl rfl ?_|refine QzR rfl rfl ?_);exact ⟨rfl,by rw[L.o,←gz];exact D.o⟩
   ·rw[C] at W u
    rw[decide_eq_true G] at u;have f:Hid (v=true):=u;rw[f.o] at K;clear C u f;have O:(15:Int)<(l.length:Int):=by omega
    cases a
    all_goals
     go_upto_region 6 with fail;generalize t:wr.setCell _ _=W5 at*;clear t;go_wp2_with (first|(go_at_call 166;refine(iX K.o I.o 3 n HN.o).m fun w6 P=>?_)|(go_at_call 124;refine(bh P.o H.o _ _ _ _).m fun w7 D=>?_))
     (first|refine QzE rfl rfl ?_|refine QzR rfl rfl ?_);exact ⟨rfl,by rw[L.o,←gz];exact D.o⟩
   ·rw[C] at W u
    rw[decide_eq_false G] at u;have f:Hid (v=false):=u;rw[f.o] at K;clear C u f;have O:¬(15:Int)<(l.length:Int):=by omega
    cases a
    all_goals
     go_upto_region 6 with fail;generalize t:wr.setCell _ _=W5 at*;clear t;go_wp2_with (first|(go_at_call 166;refine(iX K.o I.o 3 n HN.o).m fun w6 P=>?_)|(go_at_call 124;refine(bh P.o H.o _ _ _ _).m fun w7 D=>?_))
     (first|refine QzE rfl rfl ?_|refine QzR rfl rfl ?_);exact ⟨rfl,by rw[L.o,←gz];exact D.o⟩
end Go.Proofs.Eff
