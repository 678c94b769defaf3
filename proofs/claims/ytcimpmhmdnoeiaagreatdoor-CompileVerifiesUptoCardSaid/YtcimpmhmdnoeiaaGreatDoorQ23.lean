import Derived.Test.YtcimpmhmdnoeiaaGreatDoorQ11
import Derived.Test.YtcimpmhmdnoeiaaGreatDoorQ21
set_option maxRecDepth 100000
set_option maxHeartbeats 40000000
set_option linter.all false
namespace Go.Proofs.Eff
open Go.RowKit
def DT (w:World)(g a:Nat)(sk:List Sk):Prop:=∀j s,sk[j]?=some s->w.cell? ⟨g,a+j*6,none⟩=some (.i s.outer)/\w.cell? ⟨g,a+j*6+1,none⟩=some (.i s.deep)/\w.cell? ⟨g,a+j*6+2,none⟩=some (.i s.FQ)/\w.cell? ⟨g,a+j*6+3,none⟩=some (.i s.fin)
theorem Chn.lt {sk:List Sk}{r:Nat}{c:List Nat}(h:Chn sk r c):r<sk.length:=by
 cases h with
 |one h1 _ _=>exact(aC.1 h1).1
 |more h1 _ _ _ _=>exact(aC.1 h1).1
theorem Chn.head {sk:List Sk}{r:Nat}{c:List Nat}(h:Chn sk r c):∃s,sk[r]?=some s/\s.deep+1=c.length/\(∀m:Nat,c[0]?=some m->s.FQ=(m:Int))/\(∀o m:Nat,c[o+1]?=some m->∃(b:Nat) (d:List Nat),s.outer=(b:Int)/\Chn sk b d/\d[o]?=some m):=by
 cases h with
 |@one r m g h1 h2 h3=>
  refine⟨g,h1,by rw[h3];rfl,fun x a=>?_,fun o x a=>by simp at a⟩;simp only[iN,dO] at a;rw[h2,a]
 |@more r b m m' g c h1 h2 h3 h4 h5=>
  refine⟨g,h1,by rw[h3];simp,fun x a=>?_,fun o x a=>⟨b,m'::c,h4,h5,by simpa using a⟩⟩;simp only[iN,dO] at a;rw[h2,a]
theorem yz (w:World)(G g q n cc r o m:Nat)(a t f e D:Int)(lv W V mp ov bv dv:Value)(sk:List Sk)(c:List Nat)(H:w.heap[G]?=some (.cells (cT a t f lv W V e mp (.slice (some ⟨g,q,none⟩) n cc) ov bv dv D) 130))(J:n=sk.length)(ab:n<=1000000)(j:DT w g q sk)(b:Chn sk r c)(B:c[o]?=some m)(ho:o<=1000000):
 Calls Tryz.prog 163 #[.pointer (some ⟨G,0,none⟩),.i (r:Int),.i (o:Int)] w fun en w'=>en=.returned (.i (m:Int))/\w'=w:=by
 obtain⟨q1,q2⟩:=blk H;have SK:=hY j;have CH:=hY b;have HM:=hY B;obtain⟨s,K,h2,_,_⟩:=b.head;obtain⟨_,y,_,_⟩:=j r s K;have aa:=(aC.1 B).1;have k:=b.lt;have v:(r:Int)<(n:Int):=by omega
 have C:¬s.deep<(o:Int):=by omega
 have NN:Hid (n=sk.length):=J;clear H j b B K h2 k J;go_enter Tryz.func163,Tryz.ntmps163;go_upto_region 3 with fail;clear y v C
 go_loopw [1,2] (fun Y z wr=>wr=w/\∃(p h:Nat) (F:List Nat),Y=.i (p:Int)/\z=.i (h:Int)/\h<=o/\Chn sk p F/\F[h]?=some m) (fun _ z _=>(intOf z).toNat)
 case atStart=>exact⟨rfl,r,o,c,rfl,rfl,gE _,CH.o,HM.o⟩
 case round=>
  obtain⟨rfl,p,h,F,rfl,rfl,A,d,x⟩:=hrel;obtain⟨X,N,g2,M,L⟩:=d.head;obtain⟨d0,y,S,R⟩:=SK.o p X N;have k:=d.lt;have v:(p:Int)<(n:Int):=by have:=NN.o;omega
  have C':=hY d;have U:=hY x;have G3:=hY M;have G4:=hY L;clear d x N g2 M L k;by_cases ho2:0<h
  ·obtain⟨l,rfl⟩:∃l,h=l+1:=⟨h-1,by omega⟩
   obtain⟨Z,c2,Q,P,O⟩:=G4.o l m U.o;rw[Q] at d0;have E:=hY (And.intro P O);have u:wrap64 (l:Int)=(l:Int):=IntWalk.wrap64_in _ (by omega);clear Q P O y S R;go_wp2_with fail;go_roundw
   case rel=>exact⟨trivial,Z,l,c2,rfl,by first|rfl|rw[u],by omega,E.o.1,E.o.2⟩
   case measure=>simp[intOf,u]
  ·obtain rfl:h=0:=by omega
   have I:=G3.o m U.o;rw[I] at S;clear d0 y R I ho2 A;go_wp2_with fail;go_ret;exact⟨rfl,rfl⟩
theorem jk (w:World)(s d h c j i m cl l E:Nat)(a t f e g op p:Int)(y x u v F D:Value)(z:w.heap[s]?=some (.cells (cT a t f y (.slice (some ⟨d,h,none⟩) m cl) (.slice (some ⟨c,j,none⟩) l E) e x u v F D g) 130))(r:d<w.heap.size)(q:c<w.heap.size)(N:w.cell? ⟨d,h+i*5,none⟩=some (.i op))(M:w.cell? ⟨c,j+i,none⟩=some (.i p))(B:i<m)(A:i<l)(n:cH op=true)(J:0<=p)(I:p<=1000000):
 Calls Tryz.prog 117 #[.pointer (some ⟨s,0,none⟩),.i (i:Int)] w fun O w'=>O=.returned (.i (p+(bf op:Int)))/\Ext w w':=by
 have G:Hid (∀V,Ext w V->(∀k,V.cell? ⟨s,k,none⟩=(cT a t f y (.slice (some ⟨d,h,none⟩) m cl) (.slice (some ⟨c,j,none⟩) l E) e x u v F D g)[k]?)/\V.cell? ⟨d,h+i*5,none⟩=some (.i op)/\V.cell? ⟨c,j+i,none⟩=some (.i p)):=hY (fun V C=>⟨(blk (C.keep z)).1,by rw[C.cell r];exact N,by rw[C.cell q];exact M⟩);have P:=hY (fun W=>uK W op n)
 have S:bf op<=6:=by
  unfold bf opN
  repeat' split
  all_goals omega
 have L:(i:Int)<(m:Int):=by omega
 have K:(i:Int)<(l:Int):=by omega
 obtain⟨H,_⟩:=blk z;clear z r q B A n;go_enter Tryz.func117,Tryz.ntmps117;go_upto_region 1 with fail
 go_region_held3 (fun V=>(∀k,V.cell? ⟨s,k,none⟩=(cT a t f y (.slice (some ⟨d,h,none⟩) m cl) (.slice (some ⟨c,j,none⟩) l E) e x u v F D g)[k]?)/\V.cell? ⟨d,h+i*5,none⟩=some (.i op)/\V.cell? ⟨c,j+i,none⟩=some (.i p))
  (first|exact G.o _ (Ext.refl _).drew|exact G.o _ ((Ext.refl _).drew.trans b))
  (first|(go_at_call 61;refine(P.o _).m fun R b=>?_))
 all_goals
  have Q:=hY ((Ext.refl w).drew.trans b);clear b H;go_wp2_with fail;go_ret;exact⟨by simp;exact IntWalk.i64_in _ (by omega),Q.o⟩
def jP (l:Lit3):Int:=if l.kind=3 then 1 else if l.kind=4 then 2 else 0
def ot (w:World)(b:Option Addr)(FU:List Lit3):Prop:=FU≠[]->∃g a,b=some ⟨g,a,none⟩/\g<w.heap.size/\∀i l,FU[i]?=some l->w.cell? ⟨g,a+i,none⟩=some (.i (jP l))
theorem tt (w:World)(F r S g f n cc L:Nat)(a t e k:Int)(U:Option Addr)(FU:List Lit3)(P O R Q X W:Value)(sk:List Sk)(c:List Nat)(x:aL)(Y:w.heap[F]?=some (.cells (cT a t (L:Int) (.slice U FU.length S) P O e R (.slice (some ⟨g,f,none⟩) n cc) Q X W k) 130))(Z:g<w.heap.size)(hn:n=sk.length)(N:n<=1000000)(l:DT w g f sk)(h:Chn sk r c)(ac:c.length<=1000000)(hk:ot w U FU)(q:cH x.op=true)(hu:qb L FU c x.op x.a x.b)(hb:x.op=24->x.a<=15/\x.a<=x.b/\x.b<=63/\x.c<=127/\c.length<=15):
 Calls Tryz.prog 116 #[.pointer (some ⟨F,0,none⟩),.agg #[.i x.op,.i x.a,.i x.b,.i x.c,.i x.to],.i (r:Int)] w fun en w'=>en=.returned (.bool true)/\Ext w w':=by
 obtain⟨op,E,D,C,B⟩:=x;dsimp only at q hu hb ⊢;obtain⟨u6,I,J,u8,u9,H⟩:=hu;obtain⟨s,hs,aa,_,_⟩:=h.head;obtain⟨_,ab,_,_⟩:=l r s hs;have ae:(r:Int)<(n:Int):=by have:=h.lt;omega
 have z:Hid (Ext w (w.alloc (.cells #[.i op,.i E,.i D,.i C,.i B] 91))):=hY ((Ext.refl w).alloc _);have HV:=hY (z.o.keep Y);have B1:=hY (aq w (.cells #[.i op,.i E,.i D,.i C,.i B] 91) _ rfl);rw[←z.o.cell (p:=⟨g,f+r*6+1,none⟩) Z] at ab
 have TM:=hY (fun V (G:Ext w V) o m (hm:c[o]?=some m)=>yz V F g f n cc r o m a t L e k (.slice U FU.length S) P O R Q X W sk c (G.keep Y) hn N (fun j s hj=>by
  have hc:=fun i=>G.cell (p:=⟨g,i,none⟩) Z;simp only[hc]
  exact l j s hj) h hm (by have:=(aC.1 hm).1;omega))
 have LA:=hY (fun i=>pm _ F i _ S a t L e k U P O R _ Q X W HV.o)
 have LK:Hid (∀M:Int,M≠0->∀(i:Nat) y,FU[i]?=some y->jP y=M->Calls Tryz.prog 162 #[.pointer (some ⟨F,0,none⟩),.i (i:Int),.i M] (w.alloc (.cells #[.i op,.i E,.i D,.i C,.i B] 91)) fun en w'=>en=.returned (.bool true)/\w'=w.alloc (.cells #[.i op,.i E,.i D,.i C,.i B] 91)):=hY (fun M h0 i y d v=>by
  obtain⟨g2,K,e1,e2,e3⟩:=hk (by intro e;rw[e] at d;simp at d);subst e1
  exact nT _ F i _ S g2 K a t L e k M P O R _ Q X W HV.o (aC.1 d).1 (by rw[z.o.cell e2,e3 i y d,v]) h0)
 obtain⟨A,hA⟩:∃A:Array Value,A=#[.i op,.i E,.i D,.i C,.i B]:=⟨_,rfl⟩;have KE:Hid (∀V,Ext (w.alloc (.cells #[.i op,.i E,.i D,.i C,.i B] 91)) V->∀i,V.cell? ⟨w.heap.size,i,none⟩=A[i]?):=hY (fun V G=>by rw[hA];exact(blk (G.keep B1.o)).1);obtain⟨q1,q2⟩:=blk B1.o;obtain⟨q3,q4⟩:=blk HV.o;clear Y Z hn N l h hk hs;rcases lF q with rfl|rfl|rfl|rfl|rfl|rfl|rfl|rfl|rfl|rfl|rfl|rfl|rfl|rfl|rfl|rfl|rfl|rfl|rfl|rfl|rfl|rfl|rfl|rfl|rfl
 all_goals
  try(obtain⟨i,rfl,d⟩:=u6 rfl;have LI:=hY (LA.o i d))
  try(have u:=I (by decide);obtain⟨⟨i,y,rfl,d,v⟩,u1⟩:=u;have LI:=hY (LK.o 1 (by decide) i y d (by unfold jP;rw[v];rfl)))
  try(have u:=J (by decide);obtain⟨i,y,rfl,d,v⟩:=u;have LI:=hY (LK.o 2 (by decide) i y d (by unfold jP;rw[v];rfl)))
  try(have u:=u9 (by decide);obtain⟨o,m,rfl,d,v⟩:=u;have TI:=hY (fun V G=>TM.o V G o m d);clear d)
  try have h8:=u8 (by decide)
  try have ad:0<s.deep:=by have:=H rfl;omega
  try(obtain⟨h1,d,v,h4,h5⟩:=hb rfl;have h6:s.deep<15:=by omega)
  clear u6 I J u8 u9 H q hb aa ac;go_enter Tryz.func116,Tryz.ntmps116;go_upto_region 1 with fail;generalize w.heap.size=bx at*;generalize w.alloc _=W1 at*;first
  |(have KT:=TI
    go_upto_region 15 with fail;clear q1 q3
    go_region_held3 (fun V=>∀i,V.cell? ⟨bx,i,none⟩=A[i]?)
     (first|exact KE.o _ (Ext.refl _).drew)
     (first|(go_at_call 163;refine(TI.o _ (z.o.trans (Ext.refl _).drew)).mono ?_;rintro e w8 ⟨rfl,rfl⟩))
    all_goals
     clear q2;go_wp2_with fail;go_ret
     exact⟨by first|rfl|simp,z.o.trans (Ext.refl _).drew⟩)
  |(have KT:=h8;go_upto_region 12 with fail;go_quiet (fail);go_wp2_with fail;go_ret;exact⟨by first|rfl|simp,z.o.trans ((Ext.refl _).drewN _)⟩)
  |(go_wp2_with (go_at_call 162;refine LI.o.mono ?_;rintro e w2 ⟨rfl,rfl⟩);go_ret;exact⟨by first|rfl|simp,z.o⟩)
end Go.Proofs.Eff
