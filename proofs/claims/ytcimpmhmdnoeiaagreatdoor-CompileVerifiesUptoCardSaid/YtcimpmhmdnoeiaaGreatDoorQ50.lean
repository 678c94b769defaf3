import Derived.Test.YtcimpmhmdnoeiaaGreatDoorQ45
import Derived.Test.YtcimpmhmdnoeiaaGreatDoorQ47
set_option maxRecDepth 100000
set_option maxHeartbeats 8000000
set_option linter.all false
namespace Go.Proofs.Eff
open Go.RowKit
def zV (d c b:Value)(a:Act):Prop:=a.defers=[]/\a.tmps.size=110/\a.tmps[2]?=some d/\a.tmps[4]?=some c/\a.tmps[8]?=some b
theorem zV.open {d c b:Value}{a:Act}(h:zV d c b a):∃u:Nat->Value,a={tmps:=(frL u [(2,d),(4,c),(8,b)] 0 110).toArray,defers:=[]}:=by
 obtain⟨f,e,j,i,g⟩:=h;exact jE f e (by simp[j,i,g])
theorem Ed (fs gs:List BL)(t:T)(w w5:World)(p B R:Nat)(b:GS)(c:List It)(M L K o d E ar:Value)(na:Option Addr)(nn nc:Nat)(f:Option Addr)(e:Nat)(xs:List Value)(a1:Option Addr)(c1:Nat)(a2:Option Addr)(c2:Nat)(a3:Option Addr)(c3:Nat)
 (J:Ext w w5) (hK1:w5.heap[w.heap.size]?=some (.cells (af t.kind t.name t.FP.length t.FQ.length t.FN.length t.FY t.FR a1 c1 a2 c2 a3 c3) 26)) (C:w5.heap[B]?=some (.cells #[.string ⟨#[]⟩,.i 0,.i 0,.i 0,.i 0,.slice none 0 0,.slice none 0 0] 34)) (D:w5.heap[p]?=some (.cells #[M,L,.pointer (some ⟨R,0,none⟩),.slice f b.FU.length e,K,.pointer none,.bool b.many] 64))
 (F:w5.heap[R]?=some (.cells #[o,d,.slice na (t.FP.length+t.FQ.length) nc,ar,E] 70)) (z:w.heap.size<=B)
 (A:∀W,Ext w5 W->iB W (fun k=>k<W.heap.size) R c) (s:cB c) (m:cM c) (v:b.many=false->b.FU.length<=255->dg c)
 (j:w5.ownsRow w.heap.size 55 3 (.slice f b.FU.length e) b.FU.length xs) (l:fp w5 (fun k=>w.heap.size<=k/\k<w5.heap.size/\k≠B) b.FU xs)
 (g:b.many=true\/255<b.FU.length->dR fs gs t=gX 0 131)
 (r:¬(b.many=true\/255<b.FU.length)->(¬okL (aj c) 0 c\/32767<szL c\/127<ai c)->dR fs gs t=gX 0 131)
 (q:¬(b.many=true\/255<b.FU.length)->¬(¬okL (aj c) 0 c\/32767<szL c\/127<ai c)->dR fs gs t=⟨t.name,t.FP.length,(t.FP++t.FQ).length,ai c,t.FY,b.FU,bD ai (aj c) 0 c,0,0⟩)
 (a:Act) (n:zV (.pointer (some ⟨w.heap.size,0,none⟩)) (.pointer (some ⟨B,0,none⟩)) (.pointer (some ⟨p,0,none⟩)) a):
 Code.wp Tryz.prog (gx 6 (Tryz.f8.body.getD .skip)) (bodyPost Tryz.prog Tryz.f8 (nP fs gs t w)) a w5:=by
 obtain⟨u,rfl⟩:=n.open;simp only[frL,gK,Nat.reduceAdd]
 conv=>arg 2;whnf
 have I:=hY (fun(H:World) (G:Nat) (x:Ext w5 H) (h9:H.heap[G]?=some (.cells #[.string (mkS t.name),.i (t.FP.length:Int),.i ((t.FP.length:Int)+(t.FQ.length:Int)),.i 0,.i t.FY,.slice f b.FU.length e,.slice none 0 0] 34)) (hb:w5.heap.size<=G) (a:Act) n=>C3 fs gs t w H p G B R b c M L K f e xs t.name t.FP.length ((t.FP.length:Int)+(t.FQ.length:Int)) t.FY (J.trans x) (x.keep C) (x.keep D) h9 ⟨by have:=ab C;omega,by have:=ab C;omega⟩ ⟨z,by have:=J.size;omega⟩ (fun W h=>A W (x.trans h)) s m v (ak j x) (l.keep (fun k y=>x.block y.2.1) (fun k y=>⟨y.1,bA y.2.1 x.size,y.2.2,by have:=y.2.1;omega⟩)) g r (fun h1 h2=>by rw[q h1 h2,bY];push_cast;rfl) a n);have HB:=hY C;obtain⟨p1,p2⟩:=blk D;obtain⟨p3,p4⟩:=blk F;obtain⟨Z,Y⟩:=blk hK1;obtain⟨X,V⟩:=blk (aM D (.cells #[.string ⟨#[]⟩,.i 0,.i 0,.i 0,.i 0,.slice none 0 0,.slice none 0 0] 34));obtain⟨U,S⟩:=blk (aM F (.cells #[.string ⟨#[]⟩,.i 0,.i 0,.i 0,.i 0,.slice none 0 0,.slice none 0 0] 34));obtain⟨Q,P⟩:=blk (aM hK1 (.cells #[.string ⟨#[]⟩,.i 0,.i 0,.i 0,.i 0,.slice none 0 0,.slice none 0 0] 34));obtain⟨O,N⟩:=blk (aq w5 (.cells #[.string ⟨#[]⟩,.i 0,.i 0,.i 0,.i 0,.slice none 0 0,.slice none 0 0] 34) _ rfl);have E6:Hid (Ext w5 (w5.alloc (.cells #[.string (mkS t.name),.i (t.FP.length:Int),.i ((t.FP.length:Int)+(t.FQ.length:Int)),.i 0,.i t.FY,.slice f b.FU.length e,.slice none 0 0] 34)).drew):=hY (((Ext.refl _).alloc _).drew);have B9:=hY (((Ext.refl (w5.alloc (.cells #[.string (mkS t.name),.i (t.FP.length:Int),.i ((t.FP.length:Int)+(t.FQ.length:Int)),.i 0,.i t.FY,.slice f b.FU.length e,.slice none 0 0] 34))).drew).keep (aq w5 (.cells #[.string (mkS t.name),.i (t.FP.length:Int),.i ((t.FP.length:Int)+(t.FQ.length:Int)),.i 0,.i t.FY,.slice f b.FU.length e,.slice none 0 0] 34) _ rfl));clear hK1 C D F z A s m v j l g r q n J;go_upto_region 9 with fail
 go_region
 clear X V U S Q P O N p1 p2 p3 p4 Z Y;rename_i hK1;refine hK1 _ _ (I.o _ _ E6.o B9.o (gE _) _ ?_);exact⟨rfl,rfl,rfl,rfl,rfl⟩
theorem Ee (fs gs:List BL)(t:T)(w w5:World)(p B R:Nat)(F5:List Nat)(fv gv av lv X:Value)(xs:List Value)(F1:List Nat)(a1:Option Addr)(c1:Nat)(a2:Option Addr)(c2:Nat)(a3:Option Addr)(c3:Nat)
 (H:Ext w w5) (hK1:w5.heap[w.heap.size]?=some (.cells (af t.kind t.name t.FP.length t.FQ.length t.FN.length t.FY t.FR a1 c1 a2 c2 a3 c3) 26)) (s:w5.heap[B]?=some (.cells #[.string ⟨#[]⟩,.i 0,.i 0,.i 0,.i 0,.slice none 0 0,.slice none 0 0] 34)) (n:w.heap.size<=B) (F:B<p)
 (m:CWV p p w5 fv gv (bi fs gs t).1 [(R,(t.FP++t.FQ,t.FP.length),(bi fs gs t).2)] F5 av lv X xs F1) (c:dR fs gs t=l7 fs gs t) (S:t.method=true) (hnd:T.nd t<=100000000)
 (a:Act) (g:zV (.pointer (some ⟨w.heap.size,0,none⟩)) (.pointer (some ⟨B,0,none⟩)) (.pointer (some ⟨p,0,none⟩)) a):
 Code.wp Tryz.prog (gx 5 (Tryz.f8.body.getD .skip)) (bodyPost Tryz.prog Tryz.f8 (nP fs gs t w)) a w5:=by
 obtain⟨u,rfl⟩:=g.open;simp only[frL,gK,Nat.reduceAdd];obtain⟨K,J,rfl,-⟩:=aJ m.FU;have d:=m.blk;have j:=m.F9;cases hw:(bi fs gs t).1.F9 with
 |some q=>
  obtain⟨pl,er⟩:=q;rw[hw] at j;obtain⟨Z,rfl,N,l⟩:=j;have PF:Hid (dR fs gs t=gX pl er):=hY (by rw[c];unfold l7;rw[hw]);have y:p≠B:=by omega
  have C:Z≠B:=fun e=>by rw[e,s] at l;cases l
  have L:B≠p:=fun e=>y e.symm;have O:B≠Z:=fun e=>C e.symm;have KX:Hid (∀V,Mod [B] w5 V->Ext w V):=hY (fun V hm=>cz H hm (by simpa using n));obtain⟨p1,p2⟩:=blk d;obtain⟨p3,p4⟩:=blk l;obtain⟨p5,p6⟩:=blk s;have HB:=hY s;clear hw m c S hnd hK1 d l N g H F n s
  conv=>arg 2;whnf
  go_upto_region 8 with fail
  go_region
  go_wp2_with fail;have S7:=hY (nG w5 B _ 34 HB.o rfl (.string ⟨#[]⟩) (.i 0) (.i 0) (.i 0) (.i 0) (.slice none 0 0) (.slice none 0 0));refine bodyPost_ret (v:=.tuple #[eZ,.i pl,.i er]) ?_ rfl ⟨?_,eZ,?_,?_⟩
  ·exact s8 _ B _ _ _ _ _ _ _ _ _ _ _ (((Ext.refl _).drew).keep S7.o.1) _ rfl
  ·exact KX.o _ (S7.o.2.ext ((Ext.refl _).drew))
  ·rw[PF.o];rfl
  ·rw[PF.o];exact lr.fail _ _ _ _
 |none=>
  rw[hw] at j;obtain rfl:X=.pointer none:=j;have I:=Ex fs gs S
  have f:(bi fs gs t).2.length<=2000000000:=by
   have h1:=zc fs gs t.FN (ki t) (aA t.FP t.FQ t.FR [] s0);have G:=hnd;rw[bF t] at G;show((bP fs gs t.FN (ki t) (aA t.FP t.FQ t.FR [] s0)).2++(if al t.FN then [] else [It.ins 22 0 0 0])).length<=_
   rw[bY]
   split<;>simp<;>omega
  obtain⟨Q,E⟩:=m.reg f;obtain⟨_,o,nv,it,ys,F2,U,D,M,x,A,P⟩:=m.head;obtain⟨na,nc,z,_⟩:=M;subst z;subst Q;have b:=D;dsimp only at b;rw[bY] at b;have PG:=oV fs gs t hw;have T9:=hY (fun a g=>Ed fs gs t w w5 p B R (bi fs gs t).1 (bi fs gs t).2 fv gv _ _ _ _ _ na 0 nc K J xs a1 c1 a2 c2 a3 c3 H hK1 s d b n (fun W Y=>E.keep (fun k r=>Y.block r) (fun k r=>bA r Y.size)) (I.reg hw) (I.good hw) (I.fit hw) (me m.FU (by omega)) (m.litsC.keep (fun _ _=>rfl) (fun k r=>⟨by have:=r.1;omega,r.2.1,by have:=r.1;omega⟩)) (fun h=>by rw[c,PG,if_pos h]) (fun h G=>by rw[c,PG,if_neg h,if_pos G]) (fun h G=>by rw[c,PG,if_neg h,if_neg G]) a g);obtain⟨p1,p2⟩:=blk d;clear b E U D x A P hw I m d PG f c S hnd hK1 s n F H g
  conv=>arg 2;whnf
  refine wp_seq ?_;go_hide hQ;go_wp2_with fail;subst hQ;exact T9.o _ ⟨rfl,rfl,rfl,rfl,rfl⟩
theorem uk (fs gs:List BL)(t:T)(w:World)(top:Nat)(b:top<=w.heap.size)(hv:fJ w)(fv gv:Value)(ad:ScV w top fv fs)(ac:ScV w top gv gs)(I:Option Addr)(F:Nat)(H:Option Addr)(E:Nat)(G:Option Addr)(D:Nat)(hP:bK w top t I F H E G D)(hnd:T.nd t<=100000000)(M:T.nms t<=ao):
 Calls Tryz.prog 8 #[.agg (af t.kind t.name t.FP.length t.FQ.length t.FN.length t.FY t.FR I F H E G D),.agg #[fv,gv]] w (nP fs gs t w):=by
 obtain⟨y,x,rfl,s⟩:=ad;obtain⟨v,u,rfl,r⟩:=ac;generalize hO1:Obj.cells (af t.kind t.name t.FP.length t.FQ.length t.FN.length t.FY t.FR I F H E G D) 26=B;generalize hO2:Obj.cells #[.slice y fs.length x,.slice v gs.length u] 28=Q;generalize hO3:Obj.cells #[.string ⟨#[]⟩,.i 0,.i 0,.i 0,.i 0,.slice none 0 0,.slice none 0 0] 34=Z;have U:Hid (Ext w (((w.alloc B).alloc Q).alloc Z)):=hY ((((Ext.refl w).alloc _).alloc _).alloc _);have Y:(w.alloc B).heap.size=w.heap.size+1:=by show(w.heap.push _).size=_;exact tc ..
 have S2:((w.alloc B).alloc Q).heap.size=w.heap.size+2:=by show(((w.alloc B).heap).push _).size=_;rw[tc,Y]
 have B1:=hY (aM (aM (aq w B _ rfl) Q) Z);have B2:=hY (aM (aq (w.alloc B) Q _ rfl) Z);have J:=hY (aq ((w.alloc B).alloc Q) Z _ rfl);rw[Y] at B2;rw[S2] at J;subst hO1 hO2 hO3;have CH:=hY (fun W (j:Ext w W)=>BT t hnd W top (aN b j.size) (hv.ext j) I F H E G D (hP.keep (am j b)));have KP:=hY (fun W (j:Ext w W)=>hP.keep (am j b));have HV:=hY hv;have aj:=hY (fun W (j:Ext w W)=>(⟨y,x,rfl,s.keep (am j b)⟩:ScV W top (.slice y fs.length x) fs));have ai:=hY (fun W (j:Ext w W)=>(⟨v,u,rfl,r.keep (am j b)⟩:ScV W top (.slice v gs.length u) gs));have HN:=hY (And.intro hnd M);have HT:=hY b;clear hP hv s r b hnd M;go_enter Tryz.func8,Tryz.ntmps8;go_upto_region 1 with fail;rw[Y,S2] at*;clear Y S2;generalize((w.alloc _).alloc _).alloc _=W0 at*;obtain⟨X,V⟩:=blk B1.o;by_cases hpr:(dM t).2=0
 ·have PR:Hid (dR fs gs t=l7 fs gs t):=hY (by unfold dR;rw[if_neg (by rw[hpr];decide)])
  have HM:Hid (t.method=true):=hY (by
   unfold dM at hpr;cases hm:t.method with
   |true=>rfl
   |false=>rw[if_pos hm] at hpr;simp at hpr)
  rw[hpr] at CH;clear hpr;have P:=hY (ab J.o);go_upto_region 5 with(go_at_call 17;refine(CH.o W0 U.o).m fun m f=>?_;obtain⟨q3,q4⟩:=blk (f.o.keep B2.o));have E3:Hid (Ext m (m.alloc (.cells #[.slice y fs.length x,.slice v gs.length u,.pointer none,.slice none 0 0,.i 0,.pointer none,.bool false] 64))):=hY ((Ext.refl _).alloc _);have P3:=hY (aq m (.cells #[.slice y fs.length x,.slice v gs.length u,.pointer none,.slice none 0 0,.i 0,.pointer none,.bool false] 64) _ rfl);have C:Hid (w.heap.size+2<m.heap.size):=hY (bA P.o f.o.size);clear X V q3 q4;generalize m.heap.size=p at*;generalize ae:m.alloc _=A at*;clear ae;have d:=hY ((U.o.trans f.o).trans E3.o);have K1:=hY ((f.o.trans E3.o).keep B1.o);have K3:=hY ((f.o.trans E3.o).keep J.o);clear B1 B2 J U f E3 CH P;have EN:Hid (Env p top p A (.slice y fs.length x) (.slice v gs.length u) fs gs []):=hY ⟨by have:=C.o;have:=HT.o;omega,by have:=C.o;have:=HV.o.big;omega,gE _,ab P3.o,fun _ h=>(by cases h),HV.o.ext d.o,aj.o A d.o,ai.o A d.o⟩;have ap:Hid (CW p p A (.slice y fs.length x) (.slice v gs.length u) s0 [] []):=hY (DB (gE _) P3.o)
  have q:t.FP.length+t.FQ.length<=ao:=by
   obtain⟨k,n,ns,ts,l,pr,pl⟩:=t;have h:=HN.o.2;rw[T.nms] at h;show ns.length+ts.length<=ao
   omega
  have PP:=hY (KP.o A d.o);have S:=hY (wG fs gs t p top p A _ _ s0 [] [] I F H E G D EN.o ap.o PP.o (by simp) q)
  have L:T.stmts t.FN=true:=by
   have h:=HM.o;unfold T.method at h;simp only[gT] at h;exact h.2
  have ak:=hY (za fs gs t (Ao fs gs L));have N:=bF t
  have B4:Hid (Bud (aA t.FP t.FQ t.FR [] s0) ([]:List It).length ([]:List RgS).length (4*T.ndL t.FN+1)):=hY (by
   obtain⟨e1,e2⟩:=gu t.FP t.FQ t.FR [] s0;have h:=HN.o.1
   exact⟨by unfold bq;simp;omega,by rw[e1];unfold bq;simp[s0];omega,by rw[e2];unfold bq;simp[s0];omega,by unfold bq;simp;omega⟩)
  have NN:=hY HN.o.2;clear L N q;obtain⟨X,V⟩:=blk K1.o;go_upto_region 6 with(go_at_call 18;refine S.o.mono ?_;rintro e w4 ⟨rfl,R,S3⟩;have S4:=hY S3;clear S3);have R2:=hY (ak.o.after EN.o S4.o PP.o B4.o NN.o);have al:=hY (by obtain⟨F',_,hm⟩:=S4.o;exact hm.keep K1.o (by have:=C.o;omega) (by simp));clear X V;obtain⟨X,V⟩:=blk al.o
  have T7:=hY (fun(K:World) (g:aa p p A (.slice y fs.length x) (.slice v gs.length u) [] (bi fs gs t).1 [(R,(t.FP++t.FQ,t.FP.length),(bi fs gs t).2)] K) (a:Act) (ag:zV (.pointer (some ⟨w.heap.size,0,none⟩)) (.pointer (some ⟨w.heap.size+2,0,none⟩)) (.pointer (some ⟨p,0,none⟩)) a)=>show Code.wp Tryz.prog (gx 5 (Tryz.f8.body.getD .skip)) (bodyPost Tryz.prog Tryz.f8 (nP fs gs t w)) a K from by
   obtain⟨F5,ah,z⟩:=g;obtain⟨av,lv,wv,xs,F1,hV⟩:=ah
   exact Ee fs gs t w K p (w.heap.size+2) R F5 _ _ av lv wv xs F1 I F H E G D (cz d.o z.mod (by simp;have:=C.o;omega)) (z.keep K1.o (by have:=C.o;omega) (by simp)) (z.keep K3.o (by have:=C.o;omega) (by simp)) (by omega) C.o hV PR.o HM.o HN.o.1 a ag)
  go_upto_region 6 with fail;go_hide hQ;go_wp2_with (go_at_call 19;refine R2.o.m fun K S5=>?_);subst hQ;rename_i hK1;refine hK1 _ _ (T7.o K S5.o _ ?_);exact⟨rfl,rfl,rfl,rfl,rfl⟩
 ·have PR:Hid (dR fs gs t=gX 0 (dM t).2):=hY (by unfold dR;rw[if_pos hpr])
  generalize(dM t).2=er at*;go_upto_region 3 with(go_at_call 17;refine(CH.o W0 U.o).m fun m f=>?_);obtain⟨q3,q4⟩:=blk (f.o.keep J.o);go_wp2_with fail;have S7:=hY (nG m (w.heap.size+2) _ 34 (f.o.keep J.o) rfl (.string ⟨#[]⟩) (.i 0) (.i 0) (.i 0) (.i 0) (.slice none 0 0) (.slice none 0 0));exact bodyPost_ret (s8 _ _ _ _ _ _ _ _ _ _ _ _ _ S7.o.1 _ rfl) rfl ⟨cz (U.o.trans f.o) S7.o.2 (by simp),eZ,by rw[PR.o];rfl,by rw[PR.o];exact lr.fail _ _ _ _⟩
theorem kR (n:Int):0<=b8 n/\b8 n<=255:=by unfold b8;omega
def mv (b:Int):Prop:=0<=b/\b<=255
theorem oJ (z:Int):∀b∈toB z,mv b:=by
 intro b a;simp only[toB,aS,aT,or_false] at a;rcases a with rfl|rfl<;>exact kR _
theorem xE {op a b z:Int}(h:cE op a b z):∀x∈ja op a b z,mv x:=by
 have d:mv op:=by obtain⟨f,e,_⟩:=h;unfold mv;omega
 intro x c;unfold ja at c
 split at c
 ·simp only[aS,aT,or_false] at c
  rcases c with rfl|rfl
  ·exact d
  ·exact kR _
 ·split at c
  ·simp only[aS,aT,or_false] at c
   rcases c with rfl|rfl|rfl
   ·exact d
   ·exact kR _
   ·exact kR _
  ·split at c
   ·rename_i h7
    simp only[aS] at c;rcases c with rfl|c
    ·exact d
    ·exact oJ _ x c
   ·simp only[aS,aT,or_false] at c
    rw[c];exact d
mutual
theorem xU (d:List It->Int)(pos:Nat->Int)(p:Int):(i:It)->lJ i->un d i->∀x∈eH d pos p i,mv x
 |.lab _,_,_=>by simp[eH]
 |.ins op a b z,h,_=>by
  intro x c;simp only[eH] at c;exact xE h x c
 |.jmp op g,h,_=>by
  intro x c;have l:op=18\/op=19\/op=20:=h;simp only[eH,aS] at c;rcases c with rfl|c
  ·unfold mv;omega
  ·exact oJ _ x c
 |.blk a b body,h,hc=>by
  intro x c;obtain⟨k,j,e⟩:a<=15/\b<=63/\dg body:=h;obtain⟨o,n,m,f⟩:a<=b/\0<=d body/\d body<=127/\sn d body:=hc;simp only[eH,iF,aS,aT,or_false] at c;rcases c with((rfl|rfl|rfl|rfl)|c)|c
  ·unfold mv;omega
  ·exact kR _
  ·exact kR _
  ·unfold mv;omega
  ·exact oJ _ x c
  ·exact ni d (aj body) 0 body e f x c
theorem ni (b:List It->Int)(pos:Nat->Int)(p:Int):(l:List It)->dg l->sn b l->∀x∈bD b pos p l,mv x
 |[],_,_=>by simp[bD]
 |i::r,h,hc=>by
  intro x a;simp only[bD,iF] at a;rcases a with a|a
  ·exact xU b pos p i h.1 hc.1 x a
  ·exact ni b pos (p+szI i) r h.2 hc.2 x a
end
structure Fh (fs gs:List BL)(t:T)(its:List It)(FU:List Lit3):Prop where
 res:dR fs gs t=⟨t.name,t.FP.length,(t.FP++t.FQ).length,ai its,t.FY,FU,bD ai (aj its) 0 its,0,0⟩
 reg:cB its
 good:cM its
 fit:dg its
 use:df fs.length FU [(t.FP++t.FQ).length] its
 ok:okL (aj its) 0 its
 most:ai its<=127
 size:szL its<=32767
 FU:FU.length<=255
 args:t.FP.length<=15/\(t.FP++t.FQ).length<=63
 bad:eM (aj its) 0 its=false
 byte:∀b∈bD ai (aj its) 0 its,0<=b/\b<=255
theorem EP (fs gs:List BL)(t:T)(a:(dR fs gs t).err=0):∃its FU,Fh fs gs t its FU:=by
 have c:(dM t).2=0:=by
  by_cases h:(dM t).2=0
  ·exact h
  ·unfold dR at a
   rw[if_pos h] at a;exact absurd a h
 have l:dR fs gs t=l7 fs gs t:=by unfold dR;rw[if_neg (by rw[c];decide)]
 have r:t.method=true:=by
  unfold dM at c;cases hm:t.method with
  |true=>rfl
  |false=>rw[if_pos hm] at c;simp at c
 have B:=Ex fs gs r;rw[l] at a;cases hw:(bi fs gs t).1.F9 with
 |some q=>
  have m:=B.err;rw[hw] at m;unfold l7 at a;rw[hw] at a;obtain⟨u,s,_⟩:(mB fs gs t).1.err=q.2/\(mB fs gs t).1.err≠0/\(mB fs gs t).1.FR=q.1:=m;have g:q.2=0:=a;exact absurd (u.trans g) s
 |none=>
  have d:=oV fs gs t hw;rw[d] at a;by_cases hc1:(bi fs gs t).1.many=true\/255<(bi fs gs t).1.FU.length
  ·rw[if_pos hc1] at a
   simp[gX] at a
  ·rw[if_neg hc1] at a d
   by_cases hc2:¬okL (aj (bi fs gs t).2) 0 (bi fs gs t).2\/32767<szL (bi fs gs t).2\/127<ai (bi fs gs t).2
   ·rw[if_pos hc2] at a
    simp[gX] at a
   ·rw[if_neg hc2] at d
    simp only[not_or,Classical.not_not,Nat.not_lt,Int.not_lt,Bool.not_eq_true] at hc1 hc2;obtain⟨f,i⟩:=hc1;obtain⟨e,o,n⟩:=hc2;have k:=B.fit hw f i;have j:=Cl (fs:=fs) (gs:=gs) t hw f;have p:=((rL (aj (bi fs gs t).2) (oX _) 0 0 (bi fs gs t).2 (p8 0) (by omega)).1 e).1;have b:=wI fs.length (bi fs gs t).1.FU (aj (bi fs gs t).2) 0 [(t.FP++t.FQ).length] (bi fs gs t).2 e (B.good hw) j;exact⟨(bi fs gs t).2,(bi fs gs t).1.FU,l.trans d,B.reg hw,B.good hw,k,j,e,n,o,i,B.args hw f,p,ni ai _ 0 _ k b⟩
end Go.Proofs.Eff
