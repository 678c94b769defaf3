import Derived.Test.YtcimpmhmdnoeiaaGreatDoorQ36
set_option maxRecDepth 100000
set_option maxHeartbeats 8000000
set_option linter.all false
namespace Go.Proofs.Eff
open Go.RowKit
theorem vg {l:List It}(f:(az l).Nodup){i j g:Nat}(b:l[i]?=some (.lab g))(c:l[j]?=some (.lab g)):i=j:=by
 induction l generalizing i j with
 |nil=>simp at b
 |cons x r ih=>
  have a:(dZ x++az r).Nodup:=by simpa [az] using f
  have e:=(nr.1 a).2.1;have d:∀{k:Nat},r[k]?=some (.lab g)->g∈az r:=fun {k} hk=>CA.2 ⟨_,eQ hk,by simp[dZ]⟩;cases i with
  |zero=>
   cases j with
   |zero=>rfl
   |succ j=>
    simp only[iN,dO] at b;simp only[og] at c;subst b;exact absurd rfl ((nr.1 a).2.2 g (by simp[dZ]) g (d c))
  |succ i=>
   cases j with
   |zero=>
    simp only[iN,dO] at c;simp only[og] at b;subst c;exact absurd rfl ((nr.1 a).2.2 g (by simp[dZ]) g (d b))
   |succ j=>
    simp only[og] at b c;rw[ih e b c]
abbrev Fv (P:WP):Value:=.func (.func 119) #[] #[.pointer (some ⟨P.b2,0,none⟩),.pointer (some ⟨P.b3,0,none⟩),.pointer (some ⟨P.b4,0,none⟩),.pointer (some ⟨P.b5,0,none⟩)]
abbrev FrP (P:WP)(a:Act):Prop:=DY (.pointer (some ⟨P.b3,0,none⟩)) (.pointer (some ⟨P.b2,0,none⟩)) (.pointer (some ⟨P.b4,0,none⟩)) (.pointer (some ⟨P.b5,0,none⟩)) (Fv P) a
theorem Di (w:World)(b0:Nat)(P:WP)(w0:World)(a t:Int)(nf:Nat)(e ag:Int)(FU:List Lit3)(la:Option Addr)(lc gl cl gp cp s:Nat)(ov bv:Value)(FL:List (Int×aL))(AL:aZ)(l:List It)(gs sc:Nat)(X:WX w b0 P w0 a t nf e ag FU la lc gl cl gp cp s ov bv FL AL l gs sc)
 (wr:World) (af DV D:List Int) (M:Int) (Wb:List Bool) (hK:WK P w0 wr DV M Wb) (hV:Vx l P.n D Wb M (fun _=>False)) (hL:Lk P.st DV D af) (ac:Act) (b6:FrP P ac) (bd:Ending->World->Prop) (a2:∀w' U,WK P w0 w' U (ai l) Wb->(∀(i:Nat),¬i∈P.st->U[i]?=af[i]?)->bd (.returned (.tuple #[])) w'):
 Code.wp Tryz.prog (jr ((findLabel (Ds (Tryz.f54.body.getD .skip)) 0).getD .skip)) (jU (fun l' a' w'=>l'=0/\∃U D' M' S,WK P w0 w' U M' S/\Vx l P.n D' S M' (fun _=>False)/\Lk P.st U D' af/\mud D' S<mud D Wb/\FrP P a') (bodyPost Tryz.prog Tryz.f54 bd)) ac wr:=by
 obtain⟨u,rfl⟩:=b6.open;simp only[frL,gK,Nat.reduceAdd]
 conv=>arg 2;whnf
 have c:=hY X;have KK:=hY hK;have VV:=hY hV;have LL:=hY hL;have PP:=hY a2;obtain⟨q1,q2⟩:=blk (X.F.blk hK.mod X.F.k2 (by decide) (by decide) (by decide));obtain⟨c4,_,_⟩:=hK.cells X.F;rw[X.sv] at c4;have NB:Hid (P.n<=32768):=hY X.F.hlj.2.2.2;clear X hK hV hL a2 b6;go_upto_region 11 with fail;clear q1 q2 c4
 go_loopw [52] (fun i V=>∃f:Nat,i=.i (f:Int)/\f<=P.n/\V=wr/\∀k',k'<f->¬wts Wb k') (fun i _=>P.n-(intOf i).toNat)
 case atStart=>exact⟨0,rfl,oS _,rfl,fun k' h=>by omega⟩
 case round=>
  obtain⟨f,rfl,bs,rfl,bp⟩:=hrel;have NO:=hY bp;clear bp;by_cases hlt:f<P.n
  ·have c2:(f:Int)<(P.n:Int):=by omega
   have c7:(f:Int)<=32768:=by have:=NB.o;omega
   obtain⟨i,hi⟩:∃i,P.st[f]?=some i:=⟨_,iD (by rw[c.o.stl.1];exact hlt)⟩;obtain⟨C,Y,z,H,G⟩:=c.o.keepC KK.o.mod;have cm:=z f i hi;have be:f<Wb.length:=by rw[VV.o.wl];exact hlt
   have ci:wr.cell? ⟨P.gw,f,none⟩=some (.bool Wb[f]):=by
    rw[aX KK.o.wr f hlt];simp[be]
   have ch:=dj KK.o.wr f;have bl:Wb[f]?=some Wb[f]:=iD be;obtain⟨q1,q2⟩:=blk (c.o.F.blk KK.o.mod c.o.F.k4 (by decide) (by decide) (by decide));have cd:=hY hlt;have HI:=hY hi;generalize Wb[f]=b at*;clear C Y z H G hi be hlt bs;have bj:=hY bl;clear bl;cases b with
   |false=>
    go_wp2_with fail;go_roundw
    case rel=>exact⟨f+1,by push_cast;rfl,cd.o,(by first|rfl|trivial),fun k' c8=>by
     by_cases e:k'=f
     ·subst e;unfold wts;rw[bj.o];simp
     ·exact NO.o k' (by omega)⟩
    case measure=>have:=cd.o;simp[intOf];omega
   |true=>
    go_upto_region 15 with fail;obtain⟨d,q,x,hd,b1,cu,cy,bn,hx,ay,a7,ck,cj,hR⟩:=VV.o.top c.o.reg bj.o;obtain⟨i',p,y,hS⟩:=c.o.step q x hx ay;rw[a7] at hS;have ct:i'=i:=by have:=hS.num;rw[HI.o] at this;exact(ol this).symm
    subst ct;obtain⟨b2,bb⟩:=VV.o.pop bj.o hR (e:=bL x d) (by rw[←a7,zS hx ay]);have K1:=hY (KK.o.setWait c.o.F f false);obtain⟨yo,ya,yb,yc,yt⟩:=y;have ah:=c.o.ok _ (eQ hS.at_);dsimp only at ah;have bf:=mS x;have cq:=c.o.most;have cr:i'<FL.length:=(aC.1 hS.at_).1;have az:DV[i']?=some d:=by rw[LL.o.own f i' HI.o];exact hd
    have HA:=hY (And.intro hd (And.intro bn (And.intro hx (And.intro ay (And.intro a7 hR)))));have HS:=hY hS;have V1:=hY b2;have MU:=hY bb;have Z:=hY ah;have bk:=hY (fun W=>xV W yo ya yb yc yt ah.1 ⟨ah.2.2.2.1,by omega⟩ ⟨ah.2.2.2.2.2.1,by omega⟩);have bm:aU yo ya yb=bJ x:=hS.take;have br:bI yo=bZ x:=hS.leave;rw[bm,br] at bk;have ax:Hid (bL x d=d-bJ x+bZ x):=hY rfl;clear cm ci ch q1 q2 hd bn hx ay a7 hR hS b2 bb ah bm br;generalize wr.setCell _ _=W1 at*;have cx:d<=127:=by omega
    have c9:d-bJ x+bZ x<=127:=by have:=ax.o;omega
    have cw:0<=bZ x:=bf.1;have cv:bZ x<=2:=bf.2;have c1:(i':Int)<(FL.length:Int):=by omega
    clear cu cy bf cq cr;generalize bJ x=tk at*;generalize bZ x=lv at*;generalize bq:FL.length=n at*;have HN:=hY bq;clear bq;obtain⟨C,Y,z,H,G⟩:=c.o.keepC K1.o.mod;obtain⟨y0,y1,y2,y3,y4,y5⟩:=C i' p ⟨yo,ya,yb,yc,yt⟩ HS.o.at_;dsimp only at y0 y1 y2 y3 y4;clear C Y z H G y5;obtain⟨q1,q2⟩:=blk (c.o.F.blk K1.o.mod c.o.F.k3 (by decide) (by decide) (by decide));obtain⟨q3,q4⟩:=blk (c.o.F.blk K1.o.mod c.o.F.pvb (by decide) (by decide) (by decide));rw[HN.o] at q3;have E2:Hid (Ext W1 (W1.alloc (.cells #[.i yo,.i ya,.i yb,.i yc,.i yt] 91))):=hY ((Ext.refl _).alloc _);have BY:=hY (aq W1 (.cells #[.i yo,.i ya,.i yb,.i yc,.i yt] 91) _ rfl);go_upto_region 16 with fail;generalize W1.heap.size=av at*;generalize W1.alloc _=W2 at*;have K2:=hY (K1.o.ext E2.o);clear q1 q2 q3 q4 y0 y1 y2 y3 y4 K1 E2;obtain⟨q5,q6⟩:=blk BY.o;go_upto_region 17 with(go_at_call 121;refine(bk.o _).mono ?_;rintro en w3 ⟨rfl,b7⟩;have E3:=hY b7;clear b7);have K3:=hY (K2.o.ext E3.o);have B3:=hY (E3.o.keep BY.o);clear K2 BY q5 q6 bk E3;obtain⟨q1,q2⟩:=blk (c.o.F.blk K3.o.mod c.o.F.k3 (by decide) (by decide) (by decide));obtain⟨q3,q4⟩:=blk (c.o.F.blk K3.o.mod c.o.F.pvb (by decide) (by decide) (by decide));rw[HN.o] at q3;have bu:i'<P.DL:=by rw[←K3.o.len.1];exact(aC.1 az).1
    have bt:(i':Int)<(P.DL:Int):=by omega
    have bx:w3.cell? ⟨P.gd,i',none⟩=some (.i d):=by
     rw[aX K3.o.dr i' bu];simp[az,bz]
    have dc:=hY az;clear az bu;have co:¬d<tk:=by omega
    have cn:¬(127:Int)<d-tk+lv:=by omega
    go_upto_region 20 with fail
    go_cut [] from 104 to 112 (fun wx=>WK P w0 wx DV (max M (d-tk+lv)) (Wb.set f false)/\wx.heap[av]?=some (.cells #[.i yo,.i ya,.i yb,.i yc,.i yt] 91))
    case first=>
     clear q1 q2 q3 q4 bx;obtain⟨q5,q6⟩:=blk (c.o.F.blk K3.o.mod c.o.F.k2 (by decide) (by decide) (by decide));obtain⟨_,c5,c6⟩:=K3.o.cells c.o.F
     go_region_law (fail)
     all_goals
      have K:=(K3.o.setMost c.o.F (max M (d-tk+lv))).ext (Ext.refl _).drew
      have B:=jQ B3.o (a:=⟨P.gR,P.j*6+5,none⟩) (fun e=>by
       obtain⟨_,_,cs,h⟩:=aw K3.o.rr
       exact cZ B3.o (E:=137) (by decide) cs (0,0) (by rw[show av=P.gR from e];exact h)) (.i (max M (d-tk+lv)))
      go_wp2_with fail;go_meet
      case rel=>exact⟨K,B⟩
    case rest=>
     clear q1 q2 q3 q4 bx;obtain⟨b5,b8⟩:=hcut;have K4:=hY b5;have B4:=hY b8;clear b5 b8 K3 B3;rw[ax.o] at V1;have Q:0<=d-tk+lv:=by omega
     generalize bw:d-tk+lv=m at*;have dd:=hY bw;have a0:=hY b1;clear bw co cn cx cw cv b1 ck cj bt
     have a5:Hid (∀(V:World) (U D':List Int) (S:List Bool) (M':Int),WK P w0 V U M' S->Vx l P.n D' S M' (fun i=>i=f)->Lk P.st U D' af->mud D' S<=mud D (Wb.set f false)->D'[f]?=some d->(cG (opI x)=false->cD D' (f+1))->(∀op g j,x=.jmp op g->l[j]?=some (.lab g)->cD D' (rk l j))->m<=M'->∃U D' M' S,WK P w0 V U M' S/\Vx l P.n D' S M' (fun _=>False)/\Lk P.st U D' af/\mud D' S<mud D Wb):=hY (fun V U D' S M' f1 f2 f3 f4 f5 f6 f7 f8=>by
      obtain⟨h1,h2,h3,h4,h5,h6⟩:=HA.o;refine⟨U,D',M',S,f1,f2.close c.o.reg h2 h3 h4 h5 f5 f6 f7 (by rw[ax.o];exact f8),f3,?_⟩
      have:=MU.o;omega)
     have bo:yo=opI x:=HS.o.op
     have bh: -1000<=yo/\yo<=1000:=by
      have:=Z.o.1;simp only[cH,gT,decide_eq_true_eq] at this;omega
     have A:=fun W=>mQ W yo bh.1 bh.2;rw[Z.o.1] at A;have bi:=ue Z.o.1;generalize opR yo=rr at*;obtain⟨nm,kd,po,pu,en⟩:=rr;dsimp only at bi
     replace A:Hid (∀W,Calls Tryz.prog 118 #[.i yo] W fun e w'=>e=.returned (.tuple #[.agg #[.string (mkS nm),.i kd,.i po,.i pu,.bool en],.bool true])/\Ext W w'):=A
     have ae:Hid (cG (opI x)=en):=hY (by rw[←bo];exact bi.symm);clear bi bh bo;obtain⟨q5,q6⟩:=blk B4.o;go_upto_region 22 with(go_at_call 118;refine(A.o _).mono ?_;rintro da w4 ⟨rfl,hE⟩;have E4:=hY (hE.alloc (.cells #[.string (mkS nm),.i kd,.i po,.i pu,.bool en] 196));have D0:=hY (aq w4 (.cells #[.string (mkS nm),.i kd,.i po,.i pu,.bool en] 196) _ rfl);clear hE);generalize w4.heap.size=db at*;generalize w4.alloc _=W4 at*;have O:=hY (K4.o.ext E4.o);have B5:=hY (E4.o.keep B4.o);clear K4 B4 q5 q6 A E4;obtain⟨s1,s2⟩:=blk D0.o;by_cases hjx:∃op g,x=.jmp op g
     ·obtain⟨jo,jg,a8⟩:=hjx
      obtain⟨jl,i3,x3,bg,a3,a9,ba⟩:=HS.o.jump jo jg a8;dsimp only at a3 ba
      have b4:(iE l).R (rk l jl) m:=by
       obtain⟨h1,h2,h3,h4,h5,h6⟩:=HA.o;exact(ip c.o.reg).step f d (rk l jl) m h6 ⟨q,x,h2,h3,h4,h5,.inr ⟨jo,jg,jl,a8,bg,rfl,by rw[ax.o]⟩⟩
      obtain⟨E3,cz,c0⟩:∃E3,Hid (p+3+yt=E3)/\IntKind.i64.wrap (p+3+yt)=E3:=⟨_,rfl,IntWalk.i64_in _ (by have:=(c.o.ok _ (eQ a3)).2;dsimp only at this;omega)⟩
      have b9:im AL E3=some (.i (i3:Int)):=by
       rw[←cz.o];exact c.o.at_.at_ i3 _ (aC.1 a3).1 (by rw[oN,a3];rfl)
      have HJ:=hY (And.intro b4 (And.intro a9 (And.intro b9 (show∀(ak:Int) (aj j2:Nat),x=.jmp ak aj->l[j2]?=some (.lab aj)->j2=jl from fun ak aj j2 e1 e2=>by rw[a8] at e1;cases e1;exact vg c.o.reg.nodup e2 bg))));clear a8 bg a3 a9 b4 b9;rcases ba with rfl|rfl|rfl
      ·obtain rfl:en=true:=by
        rw[←ae.o,←(show _=opI x from HS.o.op)];rfl
       obtain⟨r1,r2⟩:=blk B5.o;have PJ:=hY (fun(V:World) (hE:Ext W4 V)=>mP w b0 P w0 a t nf e ag FU la lc gl cl gp cp s ov bv FL AL l gs sc c.o V af DV D (max M m) (Wb.set f false) _ (O.o.ext hE) V1.o LL.o (rk l jl) i3 m HJ.o.1 Q HJ.o.2.1)
       have KE:Hid (∀V,Mod [P.gd,P.gR,P.gw] W4 V->V.cell? ⟨P.b3,0,none⟩=some (.pointer (some ⟨P.pv,0,none⟩))/\V.cell? ⟨P.pv,7,none⟩=some (.map (some s))/\V.cell? ⟨av,4,none⟩=some (.i yt)/\(Instr.lookup 127 (.map (some s)) (.i E3) false).run Tryz.prog V=.ok (.i (i3:Int)) V):=hY (fun V hm=>by
        have r:=O.o.mod.trans hm;obtain⟨z1,_⟩:=blk (c.o.F.blk r c.o.F.k3 (by decide) (by decide) (by decide));obtain⟨z2,_⟩:=blk (c.o.F.blk r c.o.F.pvb (by decide) (by decide) (by decide))
        obtain⟨z3,_⟩:=blk (hm.keep B5.o (by
         obtain⟨_,_,ad,h1⟩:=aw O.o.dr;obtain⟨_,_,ab,h2⟩:=aw O.o.rr;obtain⟨_,_,aa,h3⟩:=aw O.o.wr;simp only[aS,aT,or_false,not_or];refine⟨fun e=>?_,fun e=>?_,fun e=>?_⟩
         ·exact cZ B5.o (E:=3) (by decide) ad (0,0) (by rw[e];exact h1)
         ·exact cZ B5.o (E:=137) (by decide) ab (0,0) (by rw[e];exact h2)
         ·exact cZ B5.o (E:=4) (by decide) aa (0,0) (by rw[e];exact h3)))
        refine⟨by rw[z1];rfl,by rw[z2];rfl,by rw[z3];rfl,?_⟩;have LK:=dw (P:=Tryz.prog) V Tryz.underlying127 Tryz.underlying3 (c.o.keepC r).2.1 (.i 0) (fun _=>rfl) E3;rw[HJ.o.2.2.1] at LK
        exact LK)
       have BH:Hid (∀V,Ext W4 V->Calls Tryz.prog 117 #[.pointer (some ⟨P.pv,0,none⟩),.i (i':Int)] V fun en w'=>en=.returned (.i (p+3))/\Ext V w'):=hY (fun V hE=>by
        have r:=O.o.mod.ext hE;obtain⟨C,Y,z,H,G⟩:=c.o.keepC r;obtain⟨z0,_,_,_,_,z5⟩:=C i' p _ HS.o.at_;have a1:=c.o.F.blk r c.o.F.pvb (by decide) (by decide) (by decide);have:=jk V P.pv gl 0 gp 0 i' FL.length cl FL.length cp a t (nf:Int) e ag 18 p _ _ _ _ _ _ a1 H G (by rw[nl];exact z0) (by rw[nl];exact z5) (aC.1 HS.o.at_).1 (aC.1 HS.o.at_).1 Z.o.1 Z.o.2.1 (by have:=Z.o.2.2.1;omega)
        exact this)
       go_upto_region 28 with fail
       go_region_held3 (fun V=>V.cell? ⟨P.b3,0,none⟩=some (.pointer (some ⟨P.pv,0,none⟩))/\V.cell? ⟨P.pv,7,none⟩=some (.map (some s))/\V.cell? ⟨av,4,none⟩=some (.i yt)/\(Instr.lookup 127 (.map (some s)) (.i E3) false).run Tryz.prog V=.ok (.i (i3:Int)) V)
        (first|exact KE.o _ ((Ext.refl _).drew.mod _)|exact KE.o _ (((Ext.refl _).drew.trans N).mod _)|exact KE.o _ ((((Ext.refl _).drew.trans N).mod _).trans ar))
        (first|(go_at_call 117;refine(BH.o _ ((Ext.refl _).drew)).mono ?_;rintro cb w8 ⟨rfl,N⟩)|(go_at_call 119;refine(PJ.o _ ((Ext.refl _).drew.trans N)).mono ?_;rintro ca w9 ⟨rfl,ar,J,D9,I,k1,k2,k3,k4,k5,k6,k7⟩))
       all_goals
        have FF:=hY (a5.o _ J D9 I _ k1 k2 k3 k5 (k7 f d HA.o.1 (by have:=a0.o;omega)) (fun h=>by rw[ae.o] at h;cases h) (fun ak aj j2 e1 e2=>by
         have e3:=HJ.o.2.2.2 ak aj j2 e1 e2;subst e3
         exact k4) (by omega))
        clear ar k1 k2 k3 k4 k5 k6 k7 N;go_wp2_with fail
        go_step3
        obtain⟨J,D9,M9,I,g1,g2,g3,g4⟩:=FF.o;exact⟨rfl,J,D9,M9,I,g1,g2,g3,g4,⟨rfl,rfl,rfl,rfl,rfl,rfl,rfl⟩⟩
      ·obtain rfl:en=false:=by
        rw[←ae.o,←(show _=opI x from HS.o.op)];rfl
       obtain⟨i2,L⟩:=HS.o.next ae.o;have ao:f+1<P.n:=by rw[←c.o.stl.1];exact(aC.1 L).1
       have am:(f:Int)+1<(P.n:Int):=by omega
       have ap:(iE l).R (f+1) m:=by
        obtain⟨h1,h2,h3,h4,h5,h6⟩:=HA.o;refine(ip c.o.reg).step f d (f+1) m h6 ⟨q,x,h2,h3,h4,h5,.inl ⟨ae.o,?_,by rw[ax.o]⟩⟩;have h7:=eN h3;rw[h4,h5] at h7;simpa using h7.symm
       have PN:=hY (mP w b0 P w0 a t nf e ag FU la lc gl cl gp cp s ov bv FL AL l gs sc c.o W4 af DV D (max M m) (Wb.set f false) _ O.o V1.o LL.o (f+1) i2 m ap Q L);obtain⟨C,Y,z,H,G⟩:=c.o.keepC O.o.mod;have al:=z (f+1) i2 L;clear C Y z H G L ao ap;obtain⟨r1,r2⟩:=blk (c.o.F.blk O.o.mod c.o.F.k2 (by decide) (by decide) (by decide));obtain⟨c4,_,_⟩:=O.o.cells c.o.F;rw[c.o.sv] at c4;go_upto_region 24 with(go_at_call 119;refine PN.o.mono ?_;rintro cc w6 ⟨rfl,au,a6,D6,a4,k1,k2,k3,k4,k5,k6,k7⟩;have M6:=hY au;have K6:=hY k1;have V6:=hY k2;have L6:=hY k3;have S6:=hY (And.intro k4 (And.intro k5 (And.intro k6 k7)));clear au k1 k2 k3 k4 k5 k6 k7);clear r1 r2 c4 al s1 s2 am
       have B6:=hY (M6.o.keep B5.o (by
        obtain⟨_,_,ad,h1⟩:=aw O.o.dr;obtain⟨_,_,ab,h2⟩:=aw O.o.rr;obtain⟨_,_,aa,h3⟩:=aw O.o.wr;simp only[aS,aT,or_false,not_or];refine⟨fun e=>?_,fun e=>?_,fun e=>?_⟩
        ·exact cZ B5.o (E:=3) (by decide) ad (0,0) (by rw[e];exact h1)
        ·exact cZ B5.o (E:=137) (by decide) ab (0,0) (by rw[e];exact h2)
        ·exact cZ B5.o (E:=4) (by decide) aa (0,0) (by rw[e];exact h3)))
       obtain⟨r1,r2⟩:=blk B6.o;have PJ:=hY (fun(V:World) (hE:Ext w6 V)=>mP w b0 P w0 a t nf e ag FU la lc gl cl gp cp s ov bv FL AL l gs sc c.o V af a6 D6 (max (max M m) m) (a4) _ (K6.o.ext hE) V6.o L6.o (rk l jl) i3 m HJ.o.1 Q HJ.o.2.1)
       have KE:Hid (∀V,Mod [P.gd,P.gR,P.gw] w6 V->V.cell? ⟨P.b3,0,none⟩=some (.pointer (some ⟨P.pv,0,none⟩))/\V.cell? ⟨P.pv,7,none⟩=some (.map (some s))/\V.cell? ⟨av,4,none⟩=some (.i yt)/\(Instr.lookup 127 (.map (some s)) (.i E3) false).run Tryz.prog V=.ok (.i (i3:Int)) V):=hY (fun V hm=>by
        have r:=K6.o.mod.trans hm;obtain⟨z1,_⟩:=blk (c.o.F.blk r c.o.F.k3 (by decide) (by decide) (by decide));obtain⟨z2,_⟩:=blk (c.o.F.blk r c.o.F.pvb (by decide) (by decide) (by decide))
        obtain⟨z3,_⟩:=blk (hm.keep B6.o (by
         obtain⟨_,_,ad,h1⟩:=aw K6.o.dr;obtain⟨_,_,ab,h2⟩:=aw K6.o.rr;obtain⟨_,_,aa,h3⟩:=aw K6.o.wr;simp only[aS,aT,or_false,not_or];refine⟨fun e=>?_,fun e=>?_,fun e=>?_⟩
         ·exact cZ B6.o (E:=3) (by decide) ad (0,0) (by rw[e];exact h1)
         ·exact cZ B6.o (E:=137) (by decide) ab (0,0) (by rw[e];exact h2)
         ·exact cZ B6.o (E:=4) (by decide) aa (0,0) (by rw[e];exact h3)))
        refine⟨by rw[z1];rfl,by rw[z2];rfl,by rw[z3];rfl,?_⟩;have LK:=dw (P:=Tryz.prog) V Tryz.underlying127 Tryz.underlying3 (c.o.keepC r).2.1 (.i 0) (fun _=>rfl) E3;rw[HJ.o.2.2.1] at LK
        exact LK)
       have BH:Hid (∀V,Ext w6 V->Calls Tryz.prog 117 #[.pointer (some ⟨P.pv,0,none⟩),.i (i':Int)] V fun en w'=>en=.returned (.i (p+3))/\Ext V w'):=hY (fun V hE=>by
        have r:=K6.o.mod.ext hE;obtain⟨C,Y,z,H,G⟩:=c.o.keepC r;obtain⟨z0,_,_,_,_,z5⟩:=C i' p _ HS.o.at_;have a1:=c.o.F.blk r c.o.F.pvb (by decide) (by decide) (by decide);have:=jk V P.pv gl 0 gp 0 i' FL.length cl FL.length cp a t (nf:Int) e ag 19 p _ _ _ _ _ _ a1 H G (by rw[nl];exact z0) (by rw[nl];exact z5) (aC.1 HS.o.at_).1 (aC.1 HS.o.at_).1 Z.o.1 Z.o.2.1 (by have:=Z.o.2.2.1;omega)
        exact this)
       go_upto_region 28 with fail
       go_region_held3 (fun V=>V.cell? ⟨P.b3,0,none⟩=some (.pointer (some ⟨P.pv,0,none⟩))/\V.cell? ⟨P.pv,7,none⟩=some (.map (some s))/\V.cell? ⟨av,4,none⟩=some (.i yt)/\(Instr.lookup 127 (.map (some s)) (.i E3) false).run Tryz.prog V=.ok (.i (i3:Int)) V)
        (first|exact KE.o _ ((Ext.refl _).drew.mod _)|exact KE.o _ (((Ext.refl _).drew.trans N).mod _)|exact KE.o _ ((((Ext.refl _).drew.trans N).mod _).trans ar))
        (first|(go_at_call 117;refine(BH.o _ ((Ext.refl _).drew)).mono ?_;rintro cb w8 ⟨rfl,N⟩)|(go_at_call 119;refine(PJ.o _ ((Ext.refl _).drew.trans N)).mono ?_;rintro ca w9 ⟨rfl,ar,J,D9,I,k1,k2,k3,k4,k5,k6,k7⟩))
       all_goals
        have FF:=hY (a5.o _ J D9 I _ k1 k2 k3 (aN k5 S6.o.2.1) (k7 f d (S6.o.2.2.2 f d HA.o.1 (by have:=a0.o;omega)) (by have:=a0.o;omega)) (fun _=>k6 _ S6.o.1) (fun ak aj j2 e1 e2=>by
         have e3:=HJ.o.2.2.2 ak aj j2 e1 e2;subst e3
         exact k4) (by omega))
        clear ar k1 k2 k3 k4 k5 k6 k7 N;go_wp2_with fail
        go_step3
        obtain⟨J,D9,M9,I,g1,g2,g3,g4⟩:=FF.o;exact⟨rfl,J,D9,M9,I,g1,g2,g3,g4,⟨rfl,rfl,rfl,rfl,rfl,rfl,rfl⟩⟩
      ·obtain rfl:en=false:=by
        rw[←ae.o,←(show _=opI x from HS.o.op)];rfl
       obtain⟨i2,L⟩:=HS.o.next ae.o;have ao:f+1<P.n:=by rw[←c.o.stl.1];exact(aC.1 L).1
       have am:(f:Int)+1<(P.n:Int):=by omega
       have ap:(iE l).R (f+1) m:=by
        obtain⟨h1,h2,h3,h4,h5,h6⟩:=HA.o;refine(ip c.o.reg).step f d (f+1) m h6 ⟨q,x,h2,h3,h4,h5,.inl ⟨ae.o,?_,by rw[ax.o]⟩⟩;have h7:=eN h3;rw[h4,h5] at h7;simpa using h7.symm
       have PN:=hY (mP w b0 P w0 a t nf e ag FU la lc gl cl gp cp s ov bv FL AL l gs sc c.o W4 af DV D (max M m) (Wb.set f false) _ O.o V1.o LL.o (f+1) i2 m ap Q L);obtain⟨C,Y,z,H,G⟩:=c.o.keepC O.o.mod;have al:=z (f+1) i2 L;clear C Y z H G L ao ap;obtain⟨r1,r2⟩:=blk (c.o.F.blk O.o.mod c.o.F.k2 (by decide) (by decide) (by decide));obtain⟨c4,_,_⟩:=O.o.cells c.o.F;rw[c.o.sv] at c4;go_upto_region 24 with(go_at_call 119;refine PN.o.mono ?_;rintro cc w6 ⟨rfl,au,a6,D6,a4,k1,k2,k3,k4,k5,k6,k7⟩;have M6:=hY au;have K6:=hY k1;have V6:=hY k2;have L6:=hY k3;have S6:=hY (And.intro k4 (And.intro k5 (And.intro k6 k7)));clear au k1 k2 k3 k4 k5 k6 k7);clear r1 r2 c4 al s1 s2 am
       have B6:=hY (M6.o.keep B5.o (by
        obtain⟨_,_,ad,h1⟩:=aw O.o.dr;obtain⟨_,_,ab,h2⟩:=aw O.o.rr;obtain⟨_,_,aa,h3⟩:=aw O.o.wr;simp only[aS,aT,or_false,not_or];refine⟨fun e=>?_,fun e=>?_,fun e=>?_⟩
        ·exact cZ B5.o (E:=3) (by decide) ad (0,0) (by rw[e];exact h1)
        ·exact cZ B5.o (E:=137) (by decide) ab (0,0) (by rw[e];exact h2)
        ·exact cZ B5.o (E:=4) (by decide) aa (0,0) (by rw[e];exact h3)))
       obtain⟨r1,r2⟩:=blk B6.o;have PJ:=hY (fun(V:World) (hE:Ext w6 V)=>mP w b0 P w0 a t nf e ag FU la lc gl cl gp cp s ov bv FL AL l gs sc c.o V af a6 D6 (max (max M m) m) (a4) _ (K6.o.ext hE) V6.o L6.o (rk l jl) i3 m HJ.o.1 Q HJ.o.2.1)
       have KE:Hid (∀V,Mod [P.gd,P.gR,P.gw] w6 V->V.cell? ⟨P.b3,0,none⟩=some (.pointer (some ⟨P.pv,0,none⟩))/\V.cell? ⟨P.pv,7,none⟩=some (.map (some s))/\V.cell? ⟨av,4,none⟩=some (.i yt)/\(Instr.lookup 127 (.map (some s)) (.i E3) false).run Tryz.prog V=.ok (.i (i3:Int)) V):=hY (fun V hm=>by
        have r:=K6.o.mod.trans hm;obtain⟨z1,_⟩:=blk (c.o.F.blk r c.o.F.k3 (by decide) (by decide) (by decide));obtain⟨z2,_⟩:=blk (c.o.F.blk r c.o.F.pvb (by decide) (by decide) (by decide))
        obtain⟨z3,_⟩:=blk (hm.keep B6.o (by
         obtain⟨_,_,ad,h1⟩:=aw K6.o.dr;obtain⟨_,_,ab,h2⟩:=aw K6.o.rr;obtain⟨_,_,aa,h3⟩:=aw K6.o.wr;simp only[aS,aT,or_false,not_or];refine⟨fun e=>?_,fun e=>?_,fun e=>?_⟩
         ·exact cZ B6.o (E:=3) (by decide) ad (0,0) (by rw[e];exact h1)
         ·exact cZ B6.o (E:=137) (by decide) ab (0,0) (by rw[e];exact h2)
         ·exact cZ B6.o (E:=4) (by decide) aa (0,0) (by rw[e];exact h3)))
        refine⟨by rw[z1];rfl,by rw[z2];rfl,by rw[z3];rfl,?_⟩;have LK:=dw (P:=Tryz.prog) V Tryz.underlying127 Tryz.underlying3 (c.o.keepC r).2.1 (.i 0) (fun _=>rfl) E3;rw[HJ.o.2.2.1] at LK
        exact LK)
       have BH:Hid (∀V,Ext w6 V->Calls Tryz.prog 117 #[.pointer (some ⟨P.pv,0,none⟩),.i (i':Int)] V fun en w'=>en=.returned (.i (p+3))/\Ext V w'):=hY (fun V hE=>by
        have r:=K6.o.mod.ext hE;obtain⟨C,Y,z,H,G⟩:=c.o.keepC r;obtain⟨z0,_,_,_,_,z5⟩:=C i' p _ HS.o.at_;have a1:=c.o.F.blk r c.o.F.pvb (by decide) (by decide) (by decide);have:=jk V P.pv gl 0 gp 0 i' FL.length cl FL.length cp a t (nf:Int) e ag 20 p _ _ _ _ _ _ a1 H G (by rw[nl];exact z0) (by rw[nl];exact z5) (aC.1 HS.o.at_).1 (aC.1 HS.o.at_).1 Z.o.1 Z.o.2.1 (by have:=Z.o.2.2.1;omega)
        exact this)
       go_upto_region 28 with fail
       go_region_held3 (fun V=>V.cell? ⟨P.b3,0,none⟩=some (.pointer (some ⟨P.pv,0,none⟩))/\V.cell? ⟨P.pv,7,none⟩=some (.map (some s))/\V.cell? ⟨av,4,none⟩=some (.i yt)/\(Instr.lookup 127 (.map (some s)) (.i E3) false).run Tryz.prog V=.ok (.i (i3:Int)) V)
        (first|exact KE.o _ ((Ext.refl _).drew.mod _)|exact KE.o _ (((Ext.refl _).drew.trans N).mod _)|exact KE.o _ ((((Ext.refl _).drew.trans N).mod _).trans ar))
        (first|(go_at_call 117;refine(BH.o _ ((Ext.refl _).drew)).mono ?_;rintro cb w8 ⟨rfl,N⟩)|(go_at_call 119;refine(PJ.o _ ((Ext.refl _).drew.trans N)).mono ?_;rintro ca w9 ⟨rfl,ar,J,D9,I,k1,k2,k3,k4,k5,k6,k7⟩))
       all_goals
        have FF:=hY (a5.o _ J D9 I _ k1 k2 k3 (aN k5 S6.o.2.1) (k7 f d (S6.o.2.2.2 f d HA.o.1 (by have:=a0.o;omega)) (by have:=a0.o;omega)) (fun _=>k6 _ S6.o.1) (fun ak aj j2 e1 e2=>by
         have e3:=HJ.o.2.2.2 ak aj j2 e1 e2;subst e3
         exact k4) (by omega))
        clear ar k1 k2 k3 k4 k5 k6 k7 N;go_wp2_with fail
        go_step3
        obtain⟨J,D9,M9,I,g1,g2,g3,g4⟩:=FF.o;exact⟨rfl,J,D9,M9,I,g1,g2,g3,g4,⟨rfl,rfl,rfl,rfl,rfl,rfl,rfl⟩⟩
     ·obtain⟨cg,cf,ce⟩:=HS.o.nojump (fun op g e=>hjx ⟨op,g,e⟩)
      dsimp only at cg cf ce;cases en with
      |true=>
       have FF:=hY (a5.o W4 DV D (Wb.set f false) (max M m) O.o V1.o LL.o (gE _) HA.o.1 (fun h=>by rw[ae.o] at h;cases h) (fun op g j h=>absurd ⟨op,g,h⟩ hjx) (by omega));clear hjx;obtain⟨r1,r2⟩:=blk B5.o;go_wp2_with fail
       go_step3
       obtain⟨J,D9,M9,I,g1,g2,g3,g4⟩:=FF.o;exact⟨rfl,J,D9,M9,I,g1,g2,g3,g4,⟨rfl,rfl,rfl,rfl,rfl,rfl,rfl⟩⟩
      |false=>
       have NJ:=hY hjx;clear hjx;obtain⟨i2,L⟩:=HS.o.next ae.o;have ao:f+1<P.n:=by rw[←c.o.stl.1];exact(aC.1 L).1
       have am:(f:Int)+1<(P.n:Int):=by omega
       have ap:(iE l).R (f+1) m:=by
        obtain⟨h1,h2,h3,h4,h5,h6⟩:=HA.o;refine(ip c.o.reg).step f d (f+1) m h6 ⟨q,x,h2,h3,h4,h5,.inl ⟨ae.o,?_,by rw[ax.o]⟩⟩;have h7:=eN h3;rw[h4,h5] at h7;simpa using h7.symm
       have PN:=hY (mP w b0 P w0 a t nf e ag FU la lc gl cl gp cp s ov bv FL AL l gs sc c.o W4 af DV D (max M m) (Wb.set f false) _ O.o V1.o LL.o (f+1) i2 m ap Q L);obtain⟨C,Y,z,H,G⟩:=c.o.keepC O.o.mod;have al:=z (f+1) i2 L;clear C Y z H G L ao ap;obtain⟨r1,r2⟩:=blk (c.o.F.blk O.o.mod c.o.F.k2 (by decide) (by decide) (by decide));obtain⟨c4,_,_⟩:=O.o.cells c.o.F;rw[c.o.sv] at c4;go_upto_region 24 with(go_at_call 119;refine PN.o.mono ?_;rintro cc w6 ⟨rfl,au,a6,D6,a4,k1,k2,k3,k4,k5,k6,k7⟩;have M6:=hY au;have K6:=hY k1;have V6:=hY k2;have L6:=hY k3;have S6:=hY (And.intro k4 (And.intro k5 (And.intro k6 k7)));clear au k1 k2 k3 k4 k5 k6 k7);clear r1 r2 c4 al s1 s2 am
       have B6:=hY (M6.o.keep B5.o (by
        obtain⟨_,_,ad,h1⟩:=aw O.o.dr;obtain⟨_,_,ab,h2⟩:=aw O.o.rr;obtain⟨_,_,aa,h3⟩:=aw O.o.wr;simp only[aS,aT,or_false,not_or];refine⟨fun e=>?_,fun e=>?_,fun e=>?_⟩
        ·exact cZ B5.o (E:=3) (by decide) ad (0,0) (by rw[e];exact h1)
        ·exact cZ B5.o (E:=137) (by decide) ab (0,0) (by rw[e];exact h2)
        ·exact cZ B5.o (E:=4) (by decide) aa (0,0) (by rw[e];exact h3)))
       have FF:=hY (a5.o w6 a6 D6 a4 _ K6.o V6.o L6.o S6.o.2.1 (S6.o.2.2.2 f d HA.o.1 (by have:=a0.o;omega)) (fun _=>S6.o.1) (fun op g j h=>absurd ⟨op,g,h⟩ NJ.o) (by omega));obtain⟨r1,r2⟩:=blk B6.o;go_wp2_with fail
       go_step3
       obtain⟨J,D9,M9,I,g1,g2,g3,g4⟩:=FF.o;exact⟨rfl,J,D9,M9,I,g1,g2,g3,g4,⟨rfl,rfl,rfl,rfl,rfl,rfl,rfl⟩⟩
  ·have c3:¬(f:Int)<(P.n:Int):=by omega
   have bc:∀k,¬wts Wb k:=fun k hk=>by
    by_cases h:k<f
    ·exact NO.o k h hk
    ·unfold wts at hk
     have h1:=(aC.1 hk).1;rw[VV.o.wl] at h1;omega
   have hm:=VV.o.none c.o.reg bc;have FF:=hY (PP.o wr DV (by rw[hm];exact KK.o) LL.o.oth);clear bc hm bs hlt;go_wp2_with fail;exact QzE rfl rfl FF.o
end Go.Proofs.Eff
