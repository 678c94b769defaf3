import Derived.Test.YtcimpmhmdnoeiaaGreatDoorQ34
set_option maxRecDepth 100000
set_option maxHeartbeats 8000000
set_option linter.all false
namespace Go.Proofs.Eff
open Go.RowKit
variable {d:Value} {s:VS} {base:Nat} {K:VK}
theorem zI:(Tryz.prog.info? 137).map (fun i=>(i.zero,i.size,i.bytes))=some (some (.agg #[.i 0,.i 0,.i 0,.i 0,.slice none 0 0,.i 0]),6,64):=by kernel_rfl
def DZ (d c b:Value)(a:Act):Prop:=a.defers=[]/\a.tmps.size=194/\a.tmps[0]?=some d/\a.tmps[2]?=some c/\a.tmps[3]?=some b
theorem DZ.open {c b:Value}{a:Act}(h:DZ d c b a):∃u:Nat->Value,a={tmps:=(frL u [(0,d),(2,c),(3,b)] 0 194).toArray,defers:=[]}:=by
 obtain⟨f,e,j,i,g⟩:=h;exact jE f e (by simp[j,i,g])
def StB (s:VS)(k:Nat):Prop:=s.sk.length<=k+1/\(∀l∈s.st,l.length<=k)/\∀g∈s.sk,g.deep<=15
theorem Stp.stb {m:Int->Prop}{o:Nat}{FU:List Lit3}{s':VS}{k:Nat}{p:Int}{x:aL}(h:Stp m o FU s k p x s')(d:StB s k):StB s' (k+1):=by
 refine⟨h.skl d.1,?_⟩;obtain⟨q,n,g,l,c,_,r,f,_,j,_,u⟩:=h.ex;have i:=d.2.1 l (eQ f)
 have a:∀y∈s.st.set q (l++[k]),y.length<=k+1:=fun y b=>by
  rcases List.mem_or_eq_of_mem_set b with e|e
  ·exact Nat.le_succ_of_le (d.2.1 y e)
  ·rw[e];simpa using i
 rcases u with⟨_,rfl⟩|⟨_,_,_,_,_,_,_,t,_,_,_,v,rfl⟩
 ·exact⟨a,d.2.2⟩
 ·refine⟨fun y b=>?_,fun y b=>?_⟩
  ·rcases iF.1 b with e|e
   ·exact a y e
   ·simp only[aS,aT,or_false] at e
    rw[e];simp
  ·rcases iF.1 b with e|e
   ·exact d.2.2 y e
   ·simp only[aS,aT,or_false] at e
    rw[e];have:=j.deep r;show g.deep+1<=15
    omega
theorem VM.withR {b:Nat}{w:World}{s1:VS}{c a:Value}{R:List RE}(h:VM base b K w s c d a R){r1:Nat}(e:s1={s with r:=r1}):VM base b K w s1 c d a R:=by
 subst e;exact⟨h.blk,h.rr,h.sk,h.ir,h.most⟩
theorem VM.svAt {c:Nat}{w:World}{e b:Value}{R:List RE}(h:VM base c K w s d e b R){q:Nat}{g:Sk}(a:s.sk[q]?=some g):∃r,R[q]?=some r/\r.sk=g:=by
 rw[←h.sk,oN] at a;cases hr:R[q]? with
 |none=>rw[hr] at a;cases a
 |some r=>rw[hr] at a;cases a;exact⟨r,rfl,rfl⟩
theorem VM.len {b:Nat}{w:World}{c a:Value}{R:List RE}(h:VM base b K w s c d a R):R.length=s.sk.length:=by rw[←h.sk,se]
theorem uH (b0 base pv:Nat)(w W:World)(a t f e ae:Int)(lv sl sp m dv rv:Value)(R0:List RE)(FL:List (Int×aL))(nf:Nat)(FU:List Lit3)(gl cl gp cp mb:Nat)(AL:aZ)(la:Option Addr)(lc:Nat)(s0 s':VS)
 (cy:dP base pv w W) (cx:w.heap.size=base) (K:VM base pv ⟨a,t,f,e,ae,lv,sl,sp,m,dv⟩ W s0 (.slice none 0 0) (.slice none 0 0) rv R0) (hC:VC b0 pv w ⟨a,t,f,e,ae,lv,sl,sp,m,dv⟩ FL nf FU gl cl gp cp mb AL la lc) (d5:kE (FL.map (·.1)) e FL.length FL.length AL)
 (A:jN (atL FL e) nf FU 0 s0 FL s') (dr:pV s0 0) (dk:s0.r=0) (cd:StB s0 0) (dl:∀y∈FL,cH y.2.op=true/\0<=y.1/\y.1<=32767) (hn:FL.length<=32767) (he:e<=32767)
 (ac:Act) (d3:DZ (.pointer (some ⟨pv,0,none⟩)) (.i 0) (.i 0) ac):
 Code.wp Tryz.prog (gx 2 (Tryz.f51.body.getD .skip)) (bodyPost Tryz.prog Tryz.f51 (fun en w'=>en=.returned (.tuple #[.i 0,.i 0])/\dP base pv w w'/\∃ov bv rv R,VM base pv ⟨a,t,f,e,ae,lv,sl,sp,m,dv⟩ w' s' ov bv rv R)) ac W:=by
 obtain⟨u,rfl⟩:=d3.open;simp only[frL,gK,Nat.reduceAdd]
 conv=>arg 2;whnf
 obtain⟨J,Z⟩:=blk K.blk;have CC:=hY hC;have bj:=hC.keep (by subst cx;exact cy.mod) ⟨_,K.blk⟩;obtain⟨dn,hf,dg,df,hm⟩:=And.intro hC.lv (And.intro hC.f (And.intro hC.sl (And.intro hC.sp hC.m)));dsimp only at dn hf dg df hm;subst dn hf dg df hm;have ST:=hY (And.intro cy (And.intro K (And.intro A (And.intro dr (And.intro dk cd)))));have OK:=hY dl;have AT:=hY d5;have NN:=hY (And.intro hn he);have HB:=hY cx;clear cy K hC A dr dk cd dl d5 hn he bj cx d3;generalize dm:FL.length=n at*;have HN:=hY dm;clear dm;go_upto_region 4 with fail
 go_loopw [4,29] (fun r i wr=>∃(k:Nat) (s:VS) (ov bv rv:Value) (R:List RE),i=.i (k:Int)/\k<=n/\r=.i (s.r:Int)/\dP base pv w wr/\VM base pv ⟨a,t,(nf:Int),e,ae,.slice la FU.length lc,.slice (some ⟨gl,0,none⟩) n cl,.slice (some ⟨gp,0,none⟩) n cp,.map (some mb),dv⟩ wr s ov bv rv R/\jN (atL FL e) nf FU k s (FL.drop k) s'/\pV s k/\StB s k) (fun _ i _=>n-(intOf i).toNat)
 case atStart=>exact⟨0,s0,_,_,rv,R0,rfl,oS _,by rw[ST.o.2.2.2.2.1];rfl,ST.o.1,ST.o.2.1,ST.o.2.2.1,ST.o.2.2.2.1,ST.o.2.2.2.2.2⟩
 case round=>
  clear J Z ST;obtain⟨k,s,ov,bv,rv,R,rfl,hk,rfl,hM,K,A,hl,cu⟩:=hrel;by_cases M:k<n
  ·have aj:k<FL.length:=by rw[HN.o];exact M
   obtain⟨px,be⟩:∃px,FL[k]?=some px:=⟨_,iD aj⟩;obtain⟨p,xo,xa,O,xc,S⟩:=px
   have bg:FL.drop k=(p,⟨xo,xa,O,xc,S⟩)::FL.drop (k+1):=by
    rw[hI aj];rw[iD aj] at be;rw[ol be]
   rw[bg] at A
   obtain⟨s1,ct,bb⟩:∃s1,Stp (atL FL e) nf FU s k p ⟨xo,xa,O,xc,S⟩ s1/\jN (atL FL e) nf FU (k+1) s1 (FL.drop (k+1)) s':=by
    cases A with
    |cons h1 h2=>exact⟨_,h1,h2⟩
   obtain⟨q,mm,g,l,c,d1,hg,de,ce,cf,cc,bh⟩:=ct.ex;obtain⟨r,hr,dj⟩:=K.svAt hg;obtain⟨gR,cR,rfl,dw,du,e7,dt⟩:=K.rr.slice (fun h=>by rw[h] at hr;cases hr)
   obtain⟨oa,oc,rfl⟩:∃oa oc,ov=.slice oa k oc:=by
    obtain⟨oa,oc,h1,_⟩:=K.ir.nth (i:=0) rfl;rw[eG,hl.of] at h1;exact⟨oa,oc,by simpa using h1⟩
   obtain⟨ba,bc,rfl⟩:∃ba bc,bv=.slice ba k bc:=by
    obtain⟨ba,bc,h1,_⟩:=K.ir.nth (i:=1) rfl;rw[hl.bd] at h1;exact⟨ba,bc,by simpa using h1⟩
   have bj:=CC.o.keep (by have:=hM;rw[←HB.o] at this;exact this.mod) ⟨_,K.blk⟩;obtain⟨l0,l1,l2,l3,l4,pp⟩:=bj.at be;dsimp only at l0 l1 l2 l3 l4;obtain⟨J,Z⟩:=blk K.blk;have V0:=hY K;have C0:=hY bj;have M0:=hY hM;have L:=hY (And.intro bb (And.intro hl (And.intro cu (And.intro ct (And.intro cf (And.intro cc bh))))));have QQ:=hY (And.intro hg (And.intro de (And.intro ce (And.intro hr dj))));have CH:=hY d1;have PX:=hY be;have ax:=hY (And.intro M aj);clear K bj hM bb hl cu ct cf cc bh hg de ce hr dj d1 be bg A dw du dt aj hk;have e1:(k:Int)<(n:Int):=by omega
   clear M;have E5:Hid (Ext wr (wr.alloc (.cells #[.i xo,.i xa,.i O,.i xc,.i S] 91))):=hY ((Ext.refl _).alloc _);have B6:=hY (aq wr (.cells #[.i xo,.i xa,.i O,.i xc,.i S] 91) _ rfl);go_upto_region 6 with fail;generalize wr.heap.size=b6 at*;generalize wr.alloc _=W5 at*;have V5:=hY (V0.o.ext E5.o);have C5:=hY (C0.o.ext E5.o);have M5:=hY (M0.o.ext E5.o);clear J Z l0 l1 l2 l3 l4 pp V0 C0 M0
   go_loopg [4] mm (fun j rr V=>∃b:Nat,rr=.i (b:Int)/\Ch s.sk p b q j/\Ext W5 V)
   case atStart=>exact⟨s.r,rfl,CH.o,Ext.refl _⟩
   case round=>
    obtain⟨b,rfl,hc,hE⟩:=hrel;have V6:=hY (V5.o.ext hE);have C6:=hY (C5.o.ext hE);have M6:=hY (M5.o.ext hE);have B7:=hY (hE.keep B6.o);have E6:=hY hE;clear hE;obtain⟨J,Z⟩:=blk V6.o.blk;obtain⟨_,_,_,_,_,pp⟩:=C6.o.at PX.o
    obtain⟨g',ad⟩:∃g',s.sk[b]?=some g':=by
     cases hc with
     |refl=>exact⟨_,QQ.o.1⟩
     |pop h1 _ _ _=>exact⟨_,h1⟩
    obtain⟨re,bu,cv⟩:=V6.o.svAt ad;obtain⟨Y,ai,X,U,_,_⟩:=V6.o.rr.at bu;rw[cv] at Y ai X U;have di:(b:Int)<(R.length:Int):=by have:=(aC.1 bu).1;omega
    by_cases hfn:g'.fin=p
    ·obtain⟨bq,j',hj,ho,d2⟩:∃(bq j':Nat),j'<gk/\g'.outer=(bq:Int)/\Ch s.sk p bq q j':=by
      cases hc with
      |refl=>rw[QQ.o.1] at ad;cases ad;exact absurd hfn QQ.o.2.2.1
      |pop h1 h2 h3 h4=>rw[h1] at ad;cases ad;exact⟨_,_,sx _,h3,h4⟩
     have HC:=hY (And.intro hj (And.intro ho d2));rw[ho] at Y;rw[hfn] at U;clear hj ho d2 hc ad bu cv ai X hfn;go_upto_region 6 with fail;go_quiet (fail);go_wp2_with fail
     go_roundg (show Nat from j')
     case measure=>exact HC.o.1
     case rel=>exact⟨bq,rfl,HC.o.2.2,E6.o.trans ((Ext.refl _).drewN _)⟩
    ·obtain rfl:b=q:=by
      cases hc with
      |refl=>rfl
      |pop h1 h2 h3 h4=>rw[h1] at ad;cases ad;exact absurd h2 hfn
     have dz:¬p=g'.fin:=fun e=>hfn e.symm;clear hc ad bu cv Y ai X hfn;go_upto_region 6 with fail;go_quiet (fail);go_upto_region 8 with fail;have E7:Hid (Ext wr (wr.drewN nq)):=hY ((Ext.refl _).drewN _);generalize wr.drewN nq=W7 at*;have dp:s.of.length=k:=L.o.2.1.of;have dq:s.bd.length=k:=L.o.2.1.bd;have HL:=hY (And.intro dp dq);have V7:=hY (V6.o.ext E7.o);have C7:=hY (C6.o.ext E7.o);have M7:=hY (M6.o.ext E7.o);have B8:=hY (E7.o.keep B7.o);clear J Z pp U di dz V6 C6 M6 V5 C5 M5 E6 B7 B6 E5 dp dq;obtain⟨J,Z⟩:=blk V7.o.blk;obtain⟨i0,hi,bt,bs,br⟩:=info_parts pJ;have KN:Hid (k+1<=32768):=hY (by have:=ax.o.1;have:=NN.o.1;omega);have b5:Hid ((k+1)*8<=140737488355328/\k+1<=maxLen):=hY ⟨by have:=KN.o;omega,by have:=KN.o;unfold maxLen;omega⟩;have E8:Hid (Ext W7 (W7.alloc (.cells #[.i (b:Int)] 3))):=hY ((Ext.refl _).alloc _);have V8:=hY (V7.o.ext E8.o)
     have aw:Hid ((W7.alloc (.cells #[.i (b:Int)] 3)).ownsRow base 3 1 (.slice oa k oc) k ((cK s.of).map bz)):=hY (by
      have:=V8.o.ir.own 0 _ _ rfl rfl;rw[eG,HL.o.1] at this
      exact this)
     have G:=hY (World.news_of_block (aq W7 (.cells #[.i (b:Int)] 3) _ rfl));have F:Hid (∀u∈([.i (b:Int)]:List Value),u.oneCell'=true):=hY (by intro u hu;simp only[aS,aT,or_false] at hu;rcases hu with rfl;rfl);have ay:Hid (base<=W7.heap.size):=hY (by have h1:=M7.o.size;have h2:=HB.o;omega);have ah:Hid (base<=(W7.alloc (.cells #[.i (b:Int)] 3)).heap.size):=hY (aN ay.o E8.o.size);go_upto_region 9 with(at_builtin;refine wpList_append_lies _ rfl (.tmp 62) (.tmp 64) 83 rfl base 3 i0 _ 1 8 Tryz.underlying83 hi bt bs br rfl (by decide) (.slice oa k oc) k ((cK s.of).map bz) rfl aw.o ⟨W7.heap.size,0,none⟩ 1 1 [.i (b:Int)] rfl rfl G.o F.o (by decide) b5.o.2 b5.o.1 ah.o _ rfl ?_;intro g8 c8 w8 v d N M;have OW:=hY v;have GR:=hY d;have ao:=hY N;clear v d N M;obtain⟨p3,p4⟩:=blk ((ag GR.o).keep V8.o.blk (dx V8.o.blk aw.o (by decide))));have D8:=V8.o.of (g:=g8) (c:=c8) (q:=b) (ag GR.o) (by rw[HL.o.1];exact OW.o) (ao.o.elim .inl (fun h=>.inr (by rw[h];exact gE _)));rw[HL.o.1] at D8;have V9:=hY D8.1;have M9:=hY ((M7.o.ext E8.o).trans D8.2);have B9:=hY (D8.2.typ (E8.o.keep B8.o) (fun e=>by rw[e,V7.o.blk] at B8;have:=B8.o;cases this) (by decide) (by decide));have C9:=hY (CC.o.keep (by have:=M9.o;rw[←HB.o] at this;exact this.mod) ⟨_,V9.o.blk⟩);clear J Z p3 p4 D8 V8 aw G F ah E8 V7 M7 C7 B8 E7 ay OW GR ao;generalize w8.setCell _ _=W9 at*;obtain⟨J,Z⟩:=blk V9.o.blk;have E8:Hid (Ext W9 (W9.alloc (.cells #[.i (-1)] 3))):=hY ((Ext.refl _).alloc _);have V8:=hY (V9.o.ext E8.o)
     have aw:Hid ((W9.alloc (.cells #[.i (-1)] 3)).ownsRow base 3 1 (.slice ba k bc) k (s.bd.map bz)):=hY (by
      have:=V8.o.ir.own 1 _ _ rfl rfl;dsimp only at this;rw[HL.o.2] at this
      exact this)
     have G:=hY (World.news_of_block (aq W9 (.cells #[.i (-1)] 3) _ rfl));have F:Hid (∀u∈([.i (-1)]:List Value),u.oneCell'=true):=hY (by intro u hu;simp only[aS,aT,or_false] at hu;rcases hu with rfl;rfl);have ay:Hid (base<=W9.heap.size):=hY (by have h1:=M9.o.size;have h2:=HB.o;omega);have ah:Hid (base<=(W9.alloc (.cells #[.i (-1)] 3)).heap.size):=hY (aN ay.o E8.o.size);go_upto_region 10 with(at_builtin;refine wpList_append_lies _ rfl (.tmp 72) (.tmp 73) 83 rfl base 3 i0 _ 1 8 Tryz.underlying83 hi bt bs br rfl (by decide) (.slice ba k bc) k (s.bd.map bz) rfl aw.o ⟨W9.heap.size,0,none⟩ 1 1 [.i (-1)] rfl rfl G.o F.o (by decide) b5.o.2 b5.o.1 ah.o _ rfl ?_;intro g9 c9 w9 v d N M;have OW:=hY v;have GR:=hY d;have ao:=hY N;clear v d N M;obtain⟨p3,p4⟩:=blk ((ag GR.o).keep V8.o.blk (dx V8.o.blk aw.o (by decide))));have D8:=V8.o.bd (g:=g9) (c:=c9) (x:= -1) (ag GR.o) (by dsimp only;rw[HL.o.2];exact OW.o) (ao.o.elim .inl (fun h=>.inr (by rw[h];exact gE _)));dsimp only at D8;rw[HL.o.2] at D8;have af:=hY D8.1;have b7:=hY ((M9.o.ext E8.o).trans D8.2);have da:=hY (D8.2.typ (E8.o.keep B9.o) (fun e=>by rw[e,V9.o.blk] at B9;have:=B9.o;cases this) (by decide) (by decide));have ey:=hY (CC.o.keep (by have:=b7.o;rw[←HB.o] at this;exact this.mod) ⟨_,af.o.blk⟩);clear J Z p3 p4 D8 V8 aw G F ah E8 V9 M9 C9 B9 ay OW GR ao;generalize w9.setCell _ _=B at*;obtain⟨J,Z⟩:=blk af.o.blk
     obtain⟨sa,sc,cs⟩:∃sa sc,r.sv=.slice sa l.length sc:=by
      have:=af.o.ir.own (b+2) r.sv (cK l) (by simp[QQ.o.2.2.2.1]) (by simp[QQ.o.2.1]);obtain⟨sa,sc,h1,_⟩:=aJ this;rw[eG] at h1;exact⟨sa,sc,h1⟩
     dsimp only at J;obtain⟨Y,ai,X,U,az,bp⟩:=af.o.rr.at (QQ.o.2.2.2.1);rw[cs] at az;clear Y ai X U bp;have di:(b:Int)<(R.length:Int):=by have:=(aC.1 QQ.o.2.2.2.1).1;omega
     have b8:=hY cs;clear cs
     go_cut [] from 77 to 94 (fun wx=>∃(H I:Nat),VM base pv ⟨a,t,(nf:Int),e,ae,.slice la FU.length lc,.slice (some ⟨gl,0,none⟩) n cl,.slice (some ⟨gp,0,none⟩) n cp,.map (some mb),dv⟩ wx {s with st:=s.st.set b (l++[k]),of:=s.of++[b],bd:=s.bd++[-1]} (.slice (some ⟨g8,0,none⟩) (k+1) c8) (.slice (some ⟨g9,0,none⟩) (k+1) c9) (.slice (some ⟨gR,0,none⟩) R.length cR) (R.set b {r with sv:=.slice (some ⟨H,0,none⟩) (l.length+1) I})/\dP base pv B wx)
     case first=>
      have EX:Hid (Ext B (B.drew.alloc (.cells #[.i (k:Int)] 3))):=hY (((Ext.refl B).drew).alloc _);obtain⟨t5,t6⟩:=blk (aM af.o.blk (.cells #[.i (k:Int)] 3));dsimp only at t5
      have t7:(B.alloc (.cells #[.i (k:Int)] 3)).cell? ⟨gR,b*6+4,none⟩=some (.slice sa l.length sc):=by
       rw[((Ext.refl B).alloc _).cell (gM af.o.rr.own)];exact az
      have z:=hY (af.o.ext EX.o)
      have av:Hid ((B.drew.alloc (.cells #[.i (k:Int)] 3)).ownsRow base 3 1 (.slice sa l.length sc) l.length ((cK l).map bz)):=hY (by
       have:=z.o.ir.own (b+2) r.sv (cK l) (by simp[QQ.o.2.2.2.1]) (by simp[QQ.o.2.1]);rw[b8.o,eG] at this
       exact this)
      have ei:l.length<=k:=L.o.2.2.1.2.1 l (eQ QQ.o.2.1);have am:Hid ((l.length+1)*8<=140737488355328/\l.length+1<=maxLen):=hY ⟨by have:=KN.o;omega,by have:=KN.o;unfold maxLen;omega⟩;clear ei;have G:Hid (∀(j:Nat) (u:Value),([.i (k:Int)]:List Value)[j]?=some u->(B.drew.alloc (.cells #[.i (k:Int)] 3)).cell? ((⟨B.heap.size,0,none⟩:Addr).add j)=some u):=hY (World.news_of_block (aq B.drew (.cells #[.i (k:Int)] 3) B.heap.size rfl));have F:Hid (∀u∈([.i (k:Int)]:List Value),u.oneCell'=true):=hY (by intro u hu;simp only[aS,aT,or_false] at hu;rcases hu with rfl;rfl);have ay:Hid (base<=B.heap.size):=hY (by have h1:=b7.o.size;have h2:=HB.o;omega);have ah:Hid (base<=(B.drew.alloc (.cells #[.i (k:Int)] 3)).heap.size):=hY (aN ay.o EX.o.size)
      go_region_law (first
       |((refine step_append_lies _ rfl _ _ _ rfl base 3 i0 _ 1 8 Tryz.underlying83 hi bt bs br rfl (by decide) (.slice sa l.length sc) l.length ((cK l).map bz) ?hs av.o ⟨B.heap.size,0,none⟩ 1 1 [.i (k:Int)] ?hx rfl ?hnews ?h1 (by decide) am.o.2 am.o.1 ?hb _ rfl ?_;(case hs=>simp[Act.eval,Act.put]);(case hx=>simp[Act.eval,Act.put]);(case hnews=>exact G.o);(case h1=>exact F.o);(case hb=>exact ah.o);intro H I eb v d N M;have OW:=hY v;have GR:=hY d;have ao:=hY N;clear v d N M;obtain⟨cr,ec⟩:=blk ((ag GR.o).keep z.o.blk (dx z.o.blk av.o (by decide)));dsimp only at cr;have e3:∀j,eb.frozen? ⟨gR,j,none⟩=false:=(fun j=>((z.o.rr.keep (ag GR.o) (kJ av.o (by decide))).own).frozenAt j);have cq:=(z.o.rr.keep (ag GR.o) (kJ av.o (by decide))).at QQ.o.2.2.2.1;replace cq:=cq.2.2.2.2.1;rw[b8.o] at cq))
       |fail)
      all_goals
       have D:=z.o.stp (g:=H) (c:=I) (i:=k) (q:=b) QQ.o.2.2.2.1 QQ.o.2.1 (by rw[b8.o];exact ag GR.o) OW.o (by rw[b8.o];exact ao.o.elim .inl (fun h=>.inr (by rw[h];exact gE _)));go_wp2_with fail;go_meet
       case rel=>exact⟨H,I,D.1,(dP.FZ EX.o).trans D.2⟩
     case rest=>
      clear J Z az hi bt bs br;obtain⟨H,I,ck,bi⟩:=hcut;have z:=hY ck;have c2:=hY (b7.o.trans bi);have c7:=hY (bi.typ da.o (fun e=>by have h:=af.o.blk;rw[←e,da.o] at h;cases h) (by decide) (by decide));have c5:=hY (CC.o.keep (by have:=c2.o;rw[←HB.o] at this;exact this.mod) ⟨_,z.o.blk⟩);clear ck bi af b7 ey da;obtain⟨J,Z⟩:=blk z.o.blk;obtain⟨q3,q4⟩:=blk c7.o;dsimp only at J;have Q:(R.set b {r with sv:=.slice (some ⟨H,0,none⟩) (l.length+1) I}).length=R.length:=As ..
      have OP:Hid (Calls Tryz.prog 116 #[.pointer (some ⟨pv,0,none⟩),.agg #[.i xo,.i xa,.i O,.i xc,.i S],.i (b:Int)] wc fun en w'=>en=.returned (.bool true)/\Ext wc w'):=hY (by
       have ap:=z.o.rr;rw[←Q] at ap
       exact tt wc pv b lc gR 0 R.length cR nf a t e ae la FU _ _ _ _ _ _ s.sk c ⟨xo,xa,O,xc,S⟩ z.o.blk (gM ap.own) (by rw[←z.o.len,Q]) (by have h1:=z.o.len;have h2:=L.o.2.2.1.1;have h3:=KN.o;rw[Q] at h1;dsimp only at h1;omega) (by have:=ap.skAt;rw[z.o.sk] at this;exact this) L.o.2.2.2.2.1 (by have h1:=L.o.2.2.2.2.1.deep QQ.o.1;have h2:=L.o.2.2.1.2.2 g (eQ QQ.o.1);omega) c5.o.kinds (OK.o _ (eQ PX.o)).1 L.o.2.2.2.2.2.1 (fun b1=>by rcases L.o.2.2.2.2.2.2 with⟨bw,_⟩|⟨_,_,z1,z2,z3,_,z4,z5,_⟩;exact absurd b1 bw;exact⟨z1,z2,z3,z4,z5⟩))
      go_upto_region 13 with(go_at_call 116;refine OP.o.mono ?_;rintro en bo ⟨rfl,co⟩;have bn:=hY co;clear co);have al:=hY (z.o.ext bn.o);have c1:=hY (c2.o.ext bn.o);have ca:=hY (bn.o.keep c7.o);have c4:=hY (c5.o.ext bn.o);clear J Z q3 q4 z c2 c5 OP bn c7;obtain⟨q3,q4⟩:=blk ca.o;rcases L.o.2.2.2.2.2.2 with⟨bw,aa⟩|⟨b1,a1,a2,a3,a4,a5,a6,a7,a8,a9,b3,b2,aa⟩
      ·have e0:¬xo=24:=bw
       clear bw;have b9:=hY aa;clear aa;have ek:(k:Int)<=32767:=by have:=KN.o;omega
       go_wp2_with fail;go_roundw
       case rel=>exact⟨k+1,s1,_,_,_,_,by push_cast;rfl,ax.o.1,by rw[b9.o],c1.o,by rw[b9.o];exact⟨al.o.blk,al.o.rr,al.o.sk,al.o.ir,al.o.most⟩,L.o.1,L.o.2.2.2.1.lens L.o.2.1,L.o.2.2.2.1.stb L.o.2.2.1⟩
       case measure=>have:=ax.o.1;simp[intOf];omega
      ·have d6:xo=24:=b1
       clear b1;subst d6;have b9:=hY (And.intro aa (And.intro a8 (And.intro a9 b3)));have db:=AT.o;rw[←HN.o] at db;obtain⟨kk,ds⟩:=kE.hit (ps:=FL.map (·.1)) (n:=FL.length) (by simpa using db) (FL:=FL) rfl b3;have ev:=hY ds
       have d4:0<=p+6+S/\p+6+S<=32767:=by
        refine⟨?_,?_⟩
        ·have h7:0<=p:=(OK.o _ (eQ PX.o)).2.1
         have h8:1<=S:=a8;omega
        ·rcases b3 with⟨y,hy⟩|hy
         ·exact(OK.o _ hy).2.2
         ·have eg:p+6+S=e:=hy
          rw[eg];exact NN.o.2
       have eh:¬S<1:=by have h8:1<=S:=a8;omega
       have dc:IntKind.i64.wrap (p+6+S)=p+6+S:=IntWalk.i64_in _ (by omega);have em:¬(g.fin<p+6+S):=by have h9:p+6+S<=g.fin:=a9;omega
       clear aa a1 a2 a3 a4 a5 a6 a7 a8 a9 b3 ds db;have e9:=hY d4;clear d4;generalize hE:p+6+S=E at*;have HE:=hY hE;clear hE;have KE:Hid (∀V,Ext bo V->V.cell? ⟨b6,4,none⟩=some (.i S)/\V.frozen? ⟨b6,4,none⟩=false):=hY (fun V K=>by obtain⟨z1,z2⟩:=blk (K.keep ca.o);exact⟨by rw[z1];rfl,z2 4⟩)
       have BH:Hid (∀V,Ext bo V->Calls Tryz.prog 117 #[.pointer (some ⟨pv,0,none⟩),.i (k:Int)] V fun en w'=>en=.returned (.i (p+6))/\Ext V w'):=hY (fun V K=>by
        have C:=c4.o.ext K;obtain⟨z0,_,_,_,_,z5⟩:=C.at PX.o;have hl:=C.l;have hp:=C.p;rw[HN.o] at hl hp
        exact jk V pv gl 0 gp 0 k n cl n cp a t nf e ae 24 p _ _ _ _ _ _ (al.o.ext K).blk (gM hl) (gM hp) (by rw[nl];exact z0) (by rw[nl];exact z5) ax.o.1 ax.o.1 (by decide) (OK.o _ (eQ PX.o)).2.1 (by have:=(OK.o _ (eQ PX.o)).2.2;dsimp only at this;omega))
       go_upto_region 14 with fail
       go_cut [7] from 110 to 115 (fun s7 wx=>s7=.i E/\Ext bo wx)
       case first=>
        go_region_held3 (fun V=>V.cell? ⟨b6,4,none⟩=some (.i S)/\V.frozen? ⟨b6,4,none⟩=false)
         (first|exact KE.o _ (Ext.refl _).drew|exact KE.o _ ((Ext.refl _).drew.trans cz))
         (first|(go_at_call 117;refine(BH.o _ ((Ext.refl _).drew)).mono ?_;rintro en w8 ⟨rfl,cz⟩))
        all_goals
         have E8:=hY ((Ext.refl bo).drew.trans cz);clear cz;go_wp2_with fail;go_meet
         case rel=>exact⟨by rw[HE.o,dc],E8.o⟩
       case rest=>
        clear q3 q4 dc BH KE;obtain⟨rfl,ak⟩:=hcut;have bm:=hY (al.o.ext ak);have c0:=hY (c1.o.ext ak);have c6:=hY (ak.keep ca.o);have ea:=hY (c4.o.ext ak);clear ak al c1 ca c4;obtain⟨J,Z⟩:=blk bm.o.blk;obtain⟨q3,q4⟩:=blk c6.o;dsimp only at J;have cw:(R.set b {r with sv:=.slice (some ⟨H,0,none⟩) (l.length+1) I})[b]?=some {r with sv:=.slice (some ⟨H,0,none⟩) (l.length+1) I}:=by rw[pn (aC.1 QQ.o.2.2.2.1).1]
        have ap:=bm.o.rr;have a0:=hY Q;rw[←Q] at ap;obtain⟨Y,ai,X,U,az,bp⟩:=ap.at cw;dsimp only at Y ai X U az bp;rw[QQ.o.2.2.2.2] at Y ai X U;clear ap Q Y X az bp;have e8:=hY cw;clear cw;have HZ:Hid (∀w:World,(zeroValue 3).run Tryz.prog w=.ok (.i 0) w):=hY (fun _=>rfl);have LK:=lj (P:=Tryz.prog) wc Tryz.underlying127 Tryz.underlying3 ea.o.map (.i 0) HZ.o E;rw[ev.o] at LK;have et:(Instr.lookup 127 (.map (some mb)) (.i E) true).run Tryz.prog wc=.ok (.tuple #[kU kk,.bool true]) wc:=LK;clear LK;go_upto_region 18 with fail;clear et eh em U;obtain⟨dd,ew,e6⟩:∃dd,Hid (g.deep+1=dd)/\IntKind.i64.wrap (g.deep+1)=dd:=⟨_,rfl,IntWalk.i64_in _ (by have h1:=L.o.2.2.1.2.2 g (eQ QQ.o.1);have h2:=L.o.2.2.2.2.1.deep QQ.o.1;omega)⟩
        go_cut [] from 151 to 173 (fun wx=>∃(ar au:Nat),VM base pv ⟨a,t,(nf:Int),e,ae,.slice la FU.length lc,.slice (some ⟨gl,0,none⟩) n cl,.slice (some ⟨gp,0,none⟩) n cp,.map (some mb),dv⟩ wx ⟨s.sk++[⟨(b:Int),dd,O,E⟩],s.st.set b (l++[k])++[[]],s.gh++[b2],s.r,s.of++[b],s.bd++[-1]⟩ (.slice (some ⟨g8,0,none⟩) (k+1) c8) (.slice (some ⟨g9,0,none⟩) (k+1) c9) (.slice (some ⟨ar,0,none⟩) (R.length+1) au) ((R.set b {r with sv:=.slice (some ⟨H,0,none⟩) (l.length+1) I})++[⟨⟨(b:Int),dd,O,E⟩,.slice none 0 0,0⟩])/\dP base pv wc wx)
        case first=>
         obtain⟨j0,hj,ef,ee,ed⟩:=info_parts zI;have EX:Hid (Ext wc (wc.drew.alloc (.cells #[.i (b:Int),.i dd,.i O,.i E,.slice none 0 0,.i 0] 137))):=hY (((Ext.refl wc).drew).alloc _);obtain⟨t5,t6⟩:=blk (aM bm.o.blk (.cells #[.i (b:Int),.i dd,.i O,.i E,.slice none 0 0,.i 0] 137));dsimp only at t5;obtain⟨t7,t8⟩:=blk (aM c6.o (.cells #[.i (b:Int),.i dd,.i O,.i E,.slice none 0 0,.i 0] 137));have bl:=hY (bm.o.ext EX.o)
         have av:Hid ((wc.drew.alloc (.cells #[.i (b:Int),.i dd,.i O,.i E,.slice none 0 0,.i 0] 137)).ownsRow base 137 6 (.slice (some ⟨gR,0,none⟩) R.length cR) R.length ((R.set b {r with sv:=.slice (some ⟨H,0,none⟩) (l.length+1) I}).flatMap reC)):=hY (by
          have:=bl.o.rr.own;rw[a0.o] at this
          exact this)
         have am:Hid ((R.length+1)*64<=140737488355328/\R.length+1<=maxLen):=hY (by
          have h1:=bl.o.len;rw[a0.o] at h1;have h2:=L.o.2.2.1.1;have h3:=KN.o;dsimp only at h1
          exact⟨by omega,by unfold maxLen;omega⟩)
         have G:Hid (∀(j:Nat) (u:Value),([.i (b:Int),.i dd,.i O,.i E,.slice none 0 0,.i 0]:List Value)[j]?=some u->(wc.drew.alloc (.cells #[.i (b:Int),.i dd,.i O,.i E,.slice none 0 0,.i 0] 137)).cell? ((⟨wc.heap.size,0,none⟩:Addr).add j)=some u):=hY (World.news_of_block (aq wc.drew (.cells #[.i (b:Int),.i dd,.i O,.i E,.slice none 0 0,.i 0] 137) wc.heap.size rfl));have F:Hid (∀u∈([.i (b:Int),.i dd,.i O,.i E,.slice none 0 0,.i 0]:List Value),u.oneCell'=true):=hY (by intro u hu;simp only[aS,aT,or_false] at hu;rcases hu with rfl|rfl|rfl|rfl|rfl|rfl<;>rfl);have ah:Hid (base<=(wc.drew.alloc (.cells #[.i (b:Int),.i dd,.i O,.i E,.slice none 0 0,.i 0] 137)).heap.size):=hY (aN (by have h1:=c0.o.size;have h2:=HB.o;omega) EX.o.size)
         go_region_law (first
          |((refine step_append_lies _ rfl _ _ _ rfl base 137 j0 _ 6 64 Tryz.underlying128 hj ef ee ed rfl (by decide) (.slice (some ⟨gR,0,none⟩) R.length cR) R.length ((R.set b {r with sv:=.slice (some ⟨H,0,none⟩) (l.length+1) I}).flatMap reC) ?hs av.o ⟨wc.heap.size,0,none⟩ 1 1 [.i (b:Int),.i dd,.i O,.i E,.slice none 0 0,.i 0] ?hx rfl ?hnews ?h1 (by decide) am.o.2 am.o.1 ?hb _ rfl ?_;(case hs=>simp[Act.eval,Act.put]);(case hx=>simp[Act.eval,Act.put]);(case hnews=>exact G.o);(case h1=>exact F.o);(case hb=>exact ah.o);intro ar au e2 v d N M;have OW:=hY v;have GR:=hY d;have ao:=hY N;clear v d N M;obtain⟨cr,ec⟩:=blk ((ag GR.o).keep bl.o.blk (dx bl.o.blk av.o (by decide)));dsimp only at cr))
          |fail)
         all_goals
          have D:=bl.o.reg (g:=ar) (c:=au) (k:=⟨(b:Int),dd,O,E⟩) (gh:=b2) (ag GR.o) (by rw[a0.o];exact OW.o);rw[a0.o] at D;go_wp2_with fail;go_meet
          case rel=>exact⟨ar,au,D.1,(dP.FZ EX.o).trans D.2⟩
        case rest=>
         obtain⟨ar,au,cj,cn⟩:=hcut;have bk:=hY cj;have d8:=hY (c0.o.trans cn);clear cj cn J Z q3 q4 bm c0 c6 ea;obtain⟨J,Z⟩:=blk bk.o.blk;dsimp only at J;have ch:(s.bd++[-1])[k]?=some (-1:Int):=by rw[j1 (by rw[HL.o.2];exact gE _),HL.o.2,Fs];rfl
         obtain⟨gb,cb,ab,_,_,_,dy,bx⟩:=bk.o.ir.cell (i:=1) (j:=k) rfl ch;have bf:(s.bd++[-1]).length=k+1:=by simp[HL.o.2]
         obtain⟨rfl,rfl⟩:gb=g9/\cb=c9:=by
          simp only[og,iN,dO,Value.slice.injEq,Addr.mk.injEq,and_true] at ab;exact⟨ab.1.symm,ab.2.2.symm⟩
         have el:=bx k;have c3:=hY bf;clear ab ch bf bx;have e5:(k:Int)<((k+1:Nat):Int):=by omega
         have e4:(k:Int)<(k:Int)+1:=by omega
         go_upto_region 19 with fail
         go_cut [] from 174 to 184 (fun wx=>VM base pv ⟨a,t,(nf:Int),e,ae,.slice la FU.length lc,.slice (some ⟨gl,0,none⟩) n cl,.slice (some ⟨gp,0,none⟩) n cp,.map (some mb),dv⟩ wx ⟨s.sk++[⟨(b:Int),dd,O,E⟩],s.st.set b (l++[k])++[[]],s.gh++[b2],s.r,s.of++[b],(s.bd++[-1]).set k (R.length:Int)⟩ (.slice (some ⟨g8,0,none⟩) (k+1) c8) (.slice (some ⟨gb,0,none⟩) (k+1) cb) (.slice (some ⟨ar,0,none⟩) (R.length+1) au) ((R.set b {r with sv:=.slice (some ⟨H,0,none⟩) (l.length+1) I})++[⟨⟨(b:Int),dd,O,E⟩,.slice none 0 0,0⟩])/\dP base pv wc wx)
         case first=>
          obtain⟨rl,eu,ez⟩:∃rl:Int,Hid (rl=(R.length:Int))/\IntKind.i64.wrap (R.length:Int)=rl:=⟨_,rfl,by
           have h1:=bk.o.len;have h2:=L.o.2.2.1.1;have h3:=KN.o;rw[bY,a0.o] at h1;simp at h1
           exact IntWalk.i64_in _ (by omega)⟩
          go_region_law (fail)
          all_goals
           have d7:=hY (show VM base pv _ wc ⟨s.sk++[⟨(b:Int),dd,O,E⟩],s.st.set b (l++[k])++[[]],s.gh++[b2],s.r,s.of++[b],s.bd++[-1]⟩ (.slice (some ⟨g8,0,none⟩) (k+1) c8) (.slice (some ⟨gb,0,none⟩) (s.bd++[-1]).length cb) (.slice (some ⟨ar,0,none⟩) (R.length+1) au) _ from by rw[c3.o];exact bk.o);have D:=d7.o.put k rl;dsimp only at D;rw[c3.o] at D;go_wp2_with fail;go_meet
           case rel=>
            have dh:=eu.o;subst dh;exact⟨D.1.ext ((Ext.refl _).drew),D.2.ext ((Ext.refl _).drew)⟩
         case rest=>
          obtain⟨ci,cm⟩:=hcut;have b4:=hY ci;have es:=hY (d8.o.trans cm);clear ci cm J Z dy el bk d8;obtain⟨J,Z⟩:=blk b4.o.blk;dsimp only at J;have cg:((s.bd++[-1]).set k (R.length:Int))[k]?=some (R.length:Int):=by rw[pn (by rw[c3.o];omega)]
          obtain⟨ep,er,ab,_,_,_,dy,bx⟩:=b4.o.ir.cell (i:=1) (j:=k) rfl cg
          obtain⟨rfl,rfl⟩:ep=gb/\er=cb:=by
           simp only[og,iN,dO,Value.slice.injEq,Addr.mk.injEq,and_true] at ab;exact⟨ab.1.symm,ab.2.2.symm⟩
          clear ab cg bx;have ek:(k:Int)<=32767:=by have:=KN.o;omega
          have d9:Hid (R.length=s.sk.length):=hY (by have h1:=b4.o.len;rw[bY,a0.o] at h1;simpa using h1);go_upto_region 20 with fail;go_wp2_with fail;go_roundw
          case rel=>
           have aa:=b9.o.1;rw[ew.o] at aa
           have eo:(s.bd++[-1]).set k (R.length:Int)=s.bd++[(s.sk.length:Int)]:=by
            rw[Do _ _ (by rw[HL.o.2];exact gE _),HL.o.2,Fs,d9.o];rfl
           have K:=b4.o;rw[eo] at K;have hF:=K.withR (s1:=s1) (r1:=s.sk.length) aa;exact⟨k+1,s1,_,_,_,_,by push_cast;rfl,ax.o.1,by rw[aa,d9.o],es.o,hF,L.o.1,L.o.2.2.2.1.lens L.o.2.1,L.o.2.2.2.1.stb L.o.2.2.1⟩
          case measure=>have:=ax.o.1;simp[intOf];omega
  ·have ej:k=n:=by omega
   have d0:FL.drop k=[]:=hH (by rw[HN.o];omega);rw[d0] at A
   have hs:s=s':=by
    cases A with
    |nil=>rfl
   subst hs;have FF:=hY (And.intro hM K);obtain⟨J,Z⟩:=blk K.blk;clear hM K A hl cu d0 ej hk;go_wp2_with fail
   go_ret2
   exact⟨rfl,FF.o.1,_,_,_,_,FF.o.2⟩
theorem Ar (S c:Nat)(w:World)(a t f e d:Int)(n l k m D:Value)(FL:List (Int×aL))(F:Nat)(FU:List Lit3)(P cl O Q I:Nat)(H:aZ)(K:Option Addr)(J:Nat)(C:List It×Int×Nat)(s':VS)
 (p:w.heap[c]?=some (.cells (cT a t f n l k e m (.slice none 0 0) (.slice none 0 0) (.slice none 0 0) D d) 130)) (N:VC S c w ⟨a,t,f,e,d,n,l,k,m,D⟩ FL F FU P cl O Q I H K J) (B:kE (FL.map (·.1)) e FL.length FL.length H)
 (g:jN (atL FL e) F FU 0 ⟨[⟨-1,0,t,e⟩],[[]],[C],0,[],[]⟩ FL s') (q:∀y∈FL,cH y.2.op=true/\0<=y.1/\y.1<=32767) (L:FL.length<=32767) (M:e<=32767):
 Calls Tryz.prog 51 #[.pointer (some ⟨c,0,none⟩)] w fun X w'=>X=.returned (.tuple #[.i 0,.i 0])/\dP w.heap.size c w w'/\∃V Y U R,VM w.heap.size c ⟨a,t,f,e,d,n,l,k,m,D⟩ w' s' V Y U R:=by
 obtain⟨q1,q2⟩:=blk p;obtain⟨q3,q4⟩:=blk (aM p (.cells #[.i (-1),.i 0,.i t,.i e,.slice none 0 0,.i 0] 137));have r:c≠w.heap.size:=by have:=ab p;omega
 have x:=be (i:=8) (aM p (.cells #[.i (-1),.i 0,.i t,.i e,.slice none 0 0,.i 0] 137)) (.slice (some ⟨w.heap.size,0,none⟩) 1 1);have s:=jQ (aq w (.cells #[.i (-1),.i 0,.i t,.i e,.slice none 0 0,.i 0] 137) _ rfl) (a:=⟨c,8,none⟩) (fun h=>r h.symm) (.slice (some ⟨w.heap.size,0,none⟩) 1 1)
 have z:VM w.heap.size c ⟨a,t,f,e,d,n,l,k,m,D⟩ ((w.alloc (.cells #[.i (-1),.i 0,.i t,.i e,.slice none 0 0,.i 0] 137)).setCell ⟨c,8,none⟩ (.slice (some ⟨w.heap.size,0,none⟩) 1 1)).drew ⟨[⟨-1,0,t,e⟩],[[]],[C],0,[],[]⟩ (.slice none 0 0) (.slice none 0 0) (.slice (some ⟨w.heap.size,0,none⟩) 1 1) [⟨⟨-1,0,t,e⟩,.slice none 0 0,0⟩]:=by
  refine⟨x,⟨⟨rfl,.inr ⟨w.heap.size,1,_,rfl,gE _,s,gE _,by decide,rfl,rfl⟩⟩⟩,rfl,?_,by simp⟩;have W:IR w.heap.size ((w.alloc (.cells #[.i (-1),.i 0,.i t,.i e,.slice none 0 0,.i 0] 137)).setCell ⟨c,8,none⟩ (.slice (some ⟨w.heap.size,0,none⟩) 1 1)).drew [] []:=⟨rfl,fun i v xs h=>by simp at h,fun i j u v b h=>by simp at h⟩;exact W.snoc.snoc.snoc
 have A:dP w.heap.size c w ((w.alloc (.cells #[.i (-1),.i 0,.i t,.i e,.slice none 0 0,.i 0] 137)).setCell ⟨c,8,none⟩ (.slice (some ⟨w.heap.size,0,none⟩) 1 1)).drew:=
  ((dP.FZ ((Ext.refl w).alloc _)).trans (.of_mod (ae _ ⟨c,8,none⟩ _) (by simp))).ext (Ext.refl _).drew
 have E:=hY (fun Z G=>uH S w.heap.size c w _ a t f e d n l k m D _ _ FL F FU P cl O Q I H K J _ s' A rfl z N B g ⟨rfl,rfl,rfl,rfl⟩ rfl ⟨by simp,by simp,by simp⟩ q L M Z G);clear p N g q B L M x s z A r;go_enter Tryz.func51,Tryz.ntmps51;go_upto_region 1 with fail
 go_region_law (fail)
 all_goals
  rename_i hK1;refine hK1 _ _ (E.o _ ?_);exact⟨rfl,rfl,rfl,rfl,rfl⟩
end Go.Proofs.Eff
