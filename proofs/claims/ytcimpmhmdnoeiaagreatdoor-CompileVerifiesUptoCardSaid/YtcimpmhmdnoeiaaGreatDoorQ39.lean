import Derived.Test.YtcimpmhmdnoeiaaGreatDoorQ38
set_option maxRecDepth 100000
set_option maxHeartbeats 8000000
set_option linter.all false
namespace Go.Proofs.Eff
open Go.RowKit
theorem DF:(Tryz.prog.info? 4).map (fun i=>(i.zero,i.size,i.bytes))=some (some (.bool false),1,1):=by kernel_rfl
theorem CD (b0 bd base G u d v O s Q j n:Nat)(R:List RE)(r:RE)(m:List Nat)(w:World)(a t:Int)(nf:Nat)(e B:Int)(FU:List Lit3)(la:Option Addr)(lc gl cl gp cp z:Nat)(ov bv:Value)(FL:List (Int×aL))(AL:aZ)(l:List It)(gs sc:Nat)(c:List Int)
 (ba:w.heap[G]?=some (.cells (cT a t (nf:Int) (.slice la FU.length lc) (.slice (some ⟨gl,0,none⟩) FL.length cl) (.slice (some ⟨gp,0,none⟩) FL.length cp) e (.map (some z)) (.slice (some ⟨d,0,none⟩) s Q) ov bv (.slice (some ⟨u,0,none⟩) v O) B) 130))
 (hC:VC b0 G w ⟨a,t,(nf:Int),e,B,.slice la FU.length lc,.slice (some ⟨gl,0,none⟩) FL.length cl,.slice (some ⟨gp,0,none⟩) FL.length cp,.map (some z),.slice (some ⟨u,0,none⟩) v O⟩ FL nf FU gl cl gp cp z AL la lc)
 (bo:kE (FL.map (·.1)) e FL.length FL.length AL) (bj:w.ownsRow bd 3 1 (.slice (some ⟨u,0,none⟩) v O) v (c.map bz)) (ae:w.ownsRow base 137 6 (.slice (some ⟨d,0,none⟩) s Q) s (R.flatMap reC)) (hj:R[j]?=some r) (bh:j<s) (bf:r.most=0) (ar:r.sv=.slice (some ⟨gs,0,none⟩) n sc) (a7:w.ownsRow base 3 1 (.slice (some ⟨gs,0,none⟩) n sc) n ((cK m).map bz))
 (af:gs≠u/\gp≠u) (a6:m.length=n/\m.Nodup) (au:0<n) (hD:∀i∈m,c[i]?=some (-1)) (al:cB l) (X:ai l<=127) (W:∀(q:Nat) (x:It),l[q]?=some x->ay x=false->∃i p y,vT FL m l (rk l q) q x i p y)
 (bc:∀y∈FL,cH y.2.op=true/\0<=y.1/\y.1<=32767/\0<=y.2.a/\y.2.a<=255/\0<=y.2.b/\y.2.b<=255) (a5:s<=32768/\v<=32768/\n<=32768):
 Calls Tryz.prog 54 #[.pointer (some ⟨G,0,none⟩),.pointer (some ⟨d,j*6,none⟩)] w fun en w'=>en=.returned (.tuple #[])/\Mod [u,d] w w'/\∃F:List Int,w'.ownsRow bd 3 1 (.slice (some ⟨u,0,none⟩) v O) v (F.map bz)/\(∀(i:Nat),¬i∈m->F[i]?=c[i]?)/\w'.ownsRow base 137 6 (.slice (some ⟨d,0,none⟩) s Q) s ((R.set j {r with most:=ai l}).flatMap reC):=by
 have PV:=hY ba;have CC:=hY hC;have I:=hY (And.intro bj (And.intro ae a7));have ac:=hY (And.intro hj (And.intro bh (And.intro bf ar)));have C:=hY (And.intro a6 (And.intro au hD));have PL:=hY (And.intro al (And.intro X (And.intro W (And.intro bc (And.intro bo (And.intro af a5))))));have h6:(reC r)[4]?=some r.sv:=rfl
 have bl:w.cell? ⟨d,j*6+4,none⟩=some (.slice (some ⟨gs,0,none⟩) n sc):=by
  rw[ae.cellAt (j*6+4) (by omega),jF reC 6 gq R j 4 (by decide),hj,←ar];rfl
 have N:=hY (And.intro bl (aw ae).2.1);clear ba hC bj ae a7 hj bh bf ar a6 au hD al X W bc bo af a5 h6 bl;go_enter Tryz.func54,Tryz.ntmps54;go_wp2_with fail;have E1:Hid (Ext w ((w.alloc (.cells #[.pointer (some ⟨G,0,none⟩)] 126)).alloc (.cells #[.pointer (some ⟨d,j*6,none⟩)] 135))):=hY (((Ext.refl _).alloc _).alloc _);have B3:=hY (aM (aq w (.cells #[.pointer (some ⟨G,0,none⟩)] 126) _ rfl) (.cells #[.pointer (some ⟨d,j*6,none⟩)] 135));have S1:(w.alloc (.cells #[.pointer (some ⟨G,0,none⟩)] 126)).heap.size=w.heap.size+1:=by show(w.heap.push _).size=_;exact tc ..
 have B2:=hY (aq (w.alloc (.cells #[.pointer (some ⟨G,0,none⟩)] 126)) (.cells #[.pointer (some ⟨d,j*6,none⟩)] 135) _ rfl);rw[S1] at B2;clear S1;generalize bm:w.heap.size=H at*;have ax:=hY bm;clear bm;generalize cj:(w.alloc _).alloc _=W1 at*;clear cj;refine ow (fun m' l' a' w'=>l'=0/\∃(A b4 f b5 cw bw:Nat) (J:aZ) (w0:World) (DV D:List Int) (M:Int) (Wb:List Bool),WX w b0 ⟨bd,base,bw,G,u,d,A,H+1,H,b4,b5,f,v,O,s,Q,j,n,cw,R,r,m,J⟩ w0 a t nf e B FU la lc gl cl gp cp z ov bv FL AL l gs sc/\WK ⟨bd,base,bw,G,u,d,A,H+1,H,b4,b5,f,v,O,s,Q,j,n,cw,R,r,m,J⟩ w0 w' DV M Wb/\Vx l n D Wb M (fun _=>False)/\Lk m DV D c/\m'=mud D Wb/\FrP ⟨bd,base,bw,G,u,d,A,H+1,H,b4,b5,f,v,O,s,Q,j,n,cw,R,r,m,J⟩ a') ?_ ?_ ?_
 ·rintro m' l' a' w' ⟨rfl,_⟩
  rfl
 ·rintro m' l' a' w' ⟨rfl,A,b4,f,b5,cw,bw,J,w0,DV,D,M,Wb,hX,hK,hV,hL,rfl,hF⟩
  refine wp_mono (Di w b0 _ w0 a t nf e B FU la lc gl cl gp cp z ov bv FL AL l gs sc hX w' c DV D M Wb hK hV hL a' hF (fun en w'=>en=.returned (.tuple #[])/\Mod [u,d] w w'/\∃F:List Int,w'.ownsRow bd 3 1 (.slice (some ⟨u,0,none⟩) v O) v (F.map bz)/\(∀(i:Nat),¬i∈m->F[i]?=c[i]?)/\w'.ownsRow base 137 6 (.slice (some ⟨d,0,none⟩) s Q) s ((R.set j {r with most:=ai l}).flatMap reC)) ?_) ?_
  ·intro w9 cu hw bb
   have hm:=hw.mod;have hE:=hX.ext;have cg:=hX.hi;dsimp only at hm cg;refine⟨rfl,⟨hm.os.trans hE.os,hm.tape.trans hE.tape,hm.output.trans hE.output,aN hE.size hm.size,fun k hk hn=>?_⟩,cu,hw.dr,bb,hw.rr⟩
   rw[hm.block k (bA hk hE.size) (by
    simp only[aS,aT,or_false,not_or] at hn ⊢
    exact⟨hn.1,hn.2,by omega⟩)]
   exact hE.block hk
  ·intro ex a9 w9 hq
   cases ex with
   |goto l9=>
    obtain⟨rfl,F,D',M',ck,g1,g2,g3,g4,g5⟩:=hq;exact⟨_,g4,rfl,A,b4,f,b5,cw,bw,J,w0,F,D',M',ck,hX,g1,g2,g3,rfl,g5⟩
   |normal=>exact hq
   |exit id=>exact hq
   |ret=>exact hq
   |panic ch=>exact hq
   |outgrown=>exact hq
 ·intro b6
  have LB:=hY b6;clear b6;have C1:=hY (CC.o.ext E1.o);have c1:=hY (E1.o.keep PV.o);obtain⟨q1,q2⟩:=blk B2.o;have c4:W1.cell? ⟨d,j*6+4,none⟩=some (.slice (some ⟨gs,0,none⟩) n sc):=by rw[E1.o.cell (by rw[ax.o];exact N.o.2)];exact N.o.1
  obtain⟨i0,hi,a3,a0,az⟩:=info_parts DF;have NB:Hid (i0.bytes*n<=281474976710656/\n<=maxLen):=hY (by have:=PL.o.2.2.2.2.2.2.2.2;exact⟨by rw[az];omega,by unfold maxLen;omega⟩);go_upto_region 2 with(at_make;refine wpList_make_full _ rfl _ _ 199 rfl 0 4 i0 (.bool false) 1 Tryz.underlying199 hi a3 a0 .i64 .i64 _ _ n rfl rfl (by simp) (by simp) NB.o.1 NB.o.2 (oS _) ?_;intro w5 am ab;have OW:=hY am;have GR:=hY ab;clear am ab);have E5:Hid (Ext W1 w5):=hY ⟨(ag GR.o).os,(ag GR.o).tape,(ag GR.o).output,(ag GR.o).size,fun k hk=>(ag GR.o).block k hk (by simp)⟩;have c2:=hY (aw OW.o);generalize bi:W1.heap.size=A at*;have ct:=hY bi;clear bi q1 q2 c4 hi a3 a0 az NB GR
  have co:Hid (w5.ownsRow 0 4 1 (.slice (some ⟨A,0,none⟩) n n) n ((List.replicate n false).map Value.bool)):=hY (by
   have h:=OW.o;rw[show(Value.bool false).cells=#[Value.bool false] from rfl,toList_madeCells_one] at h
   simpa using h)
  clear OW;have E6:Hid (Ext w5 (w5.alloc (.cells #[.slice (some ⟨A,0,none⟩) n n] 199))):=hY ((Ext.refl _).alloc _);have B4:=hY (aq w5 (.cells #[.slice (some ⟨A,0,none⟩) n n] 199) _ rfl);generalize w5.heap.size=b4 at*;generalize w5.alloc _=L at*;have cc:=run_makeMap (P:=Tryz.prog) 127 L;have E7:Hid (Ext L ((L.alloc (.map #[] 0)).alloc (.cells #[.map (some L.heap.size)] 127))):=hY (((Ext.refl _).alloc _).alloc _);have S1:(L.alloc (.map #[] 0)).heap.size=L.heap.size+1:=by show(L.heap.push _).size=_;exact tc ..
  have MP:=hY ((cQ.new L _ rfl .i64).keep ((Ext.refl _).alloc (.cells #[.map (some L.heap.size)] 127)));have B5:=hY (aq (L.alloc (.map #[] 0)) (.cells #[.map (some L.heap.size)] 127) _ rfl);rw[S1] at B5;go_upto_region 3 with fail;clear S1 cc;generalize be:L.heap.size=f at*;have cr:=hY be;clear be;generalize(L.alloc _).alloc _=W7 at*;have cb:=hY (E7.o.keep (E6.o.keep (E5.o.keep B2.o)));obtain⟨q1,q2⟩:=blk cb.o;have ad:=hY (E5.o.trans (E6.o.trans E7.o));have c4:W7.cell? ⟨d,j*6+4,none⟩=some (.slice (some ⟨gs,0,none⟩) n sc):=by rw[(E1.o.trans ad.o).cell (by rw[ax.o];exact N.o.2)];exact N.o.1
  have NB:Hid (n<=32768):=hY PL.o.2.2.2.2.2.2.2.2;go_upto_region 4 with fail;clear q1 q2 c4
  go_loopw [29] (fun i V=>∃(k:Nat) (J:aZ),i=.i (k:Int)/\k<=n/\cQ V f .i64 J/\(∀(S U:Nat),S<k->m[S]?=some U->im J (U:Int)=some (.i (S:Int)))/\Mod [f] W7 V) (fun i _=>n-(intOf i).toNat)
  case atStart=>exact⟨0,[],rfl,oS _,MP.o,fun S U h=>by omega,Mod.refl _ _⟩
  case round=>
   obtain⟨k,J,rfl,bg,av,a8,Y⟩:=hrel;have bs:=hY (ak I.o.2.2 (E1.o.trans ad.o));have MO:=hY Y;have bu:=hY a8;have bx:=hY av;have ca:=hY (Y.keep B5.o (by simp));clear Y a8;by_cases hlt:k<n
   ·obtain⟨i,hi⟩:∃i,m[k]?=some i:=⟨_,iD (by rw[C.o.1.1];exact hlt)⟩
    have ao:gs≠f:=by
     obtain⟨_,_,cs,h⟩:=aw bs.o;exact MP.o.ne_cells h
    have ci:wr.cell? ⟨gs,k,none⟩=some (.i (i:Int)):=by
     rw[aX (MO.o.row bs.o (fun g hg aa=>by
      simp only[aS,aT,or_false] at aa;simp only[Value.ownBlock,dO] at hg
      exact ao (hg.trans aa))) k hlt]
     simp[cK,hi,bz]
    have cy:(k:Int)<(n:Int):=by omega
    have cz:(k:Int)<=32768:=by have:=NB.o;omega
    obtain⟨w4,i4,m4,d4⟩:=di (P:=Tryz.prog) wr Tryz.underlying127 Tryz.underlying3 bx.o (i:Int) (.i (k:Int));have M4:=hY m4;have D4:=hY (MO.o.trans d4);have HI:=hY hi;have b7:=hY hlt;obtain⟨q1,q2⟩:=blk ca.o;clear hi ao av hlt m4 d4 bg;go_wp2_with fail;go_roundw
    case rel=>exact⟨k+1,_,by push_cast;rfl,b7.o,M4.o,fun S U K ah=>by
     rw[kS];by_cases e:S=k
     ·subst e;rw[HI.o] at ah;cases ah;rw[if_pos rfl]
     ·have af:(i:Int)≠(U:Int):=fun e2=>by
       have e3:i=U:=by omega
       subst e3;obtain⟨a1,a2⟩:=aC.1 HI.o;obtain⟨b1,b2⟩:=aC.1 ah;exact absurd (b2.trans a2.symm) (List.pairwise_iff_getElem.1 C.o.1.2 S k b1 a1 (by omega))
      rw[if_neg (fun e2=>af e2.symm)]
      exact bu.o S U (by omega) ah,D4.o⟩
    case measure=>have:=b7.o;simp[intOf];omega
   ·have cf:¬(k:Int)<(n:Int):=by omega
    have ce:n=k:=by omega
    subst ce
    have KB:Hid (∀(b:Nat) (cs:Array Value) (T:TypeId),W7.heap[b]?=some (.cells cs T)->wr.heap[b]?=some (.cells cs T)):=hY (fun b cs T hb=>MO.o.keep hb (by
     simp only[aS,aT,or_false]
     exact MP.o.ne_cells hb))
    have c3:Hid (Ext W1 W7):=ad
    have a4:w.heap.size<=f:=by
     have h1:=E1.o.size;have h2:=E5.o.size;have h3:=E6.o.size;have h4:=cr.o;omega
    have E:=hY (gQ (E1.o.trans ad.o) MO.o (by simpa using a4));have ap:w.heap.size<=A:=by have h1:=E1.o.size;have h2:=ct.o;omega
    have b9:=hY (KB.o _ _ _ cb.o);have cx:=hY (KB.o _ _ _ (ad.o.keep B3.o));have cv:=hY (KB.o _ _ _ (E7.o.keep B4.o));have bq:=hY (ak co.o (E6.o.trans E7.o))
    have bp:=hY (MO.o.row bq.o (fun g hg aa=>by
     simp only[aS,aT,or_false] at aa;simp only[Value.ownBlock,dO] at hg;obtain⟨_,_,cs,h⟩:=aw bq.o
     exact MP.o.ne_cells h (hg.trans aa)))
    have b8:=hY (ak I.o.1 E.o);have bt:=hY (ak I.o.2.1 E.o);have br:=hY (ak I.o.2.2 E.o)
    have aj:R.set j {r with most:=0}=R:=by
     have h0:({r with most:=0}:RE)=r:=by rw[←ac.o.2.2.1]
     rw[h0];obtain⟨h1,h2⟩:=aC.1 ac.o.1;rw[←h2];exact List.set_getElem_self h1
    have FF:Hid (WF ⟨bd,base,0,G,u,d,A,H+1,H,b4,f+1,f,v,O,s,Q,j,n,n,R,r,m,J⟩ wr a t (nf:Int) e B (.slice la FU.length lc) (.slice (some ⟨gl,0,none⟩) FL.length cl) (.slice (some ⟨gp,0,none⟩) FL.length cp) (.map (some z)) (.slice (some ⟨d,0,none⟩) s Q) ov bv):=hY
     ⟨E.o.keep PV.o,b9.o,cx.o,cv.o,ca.o,bx.o,fun S U K=>bu.o S U (by have h1:=(aC.1 K).1;have h2:=C.o.1.1;dsimp only at h1;omega) K,(aw b8.o).2.2,(aw bt.o).2.2,(aw bp.o).2.2,ac.o.1,ac.o.2.1,PL.o.2.2.2.2.2.2.1,PL.o.2.2.2.2.2.2.2.1,NB.o⟩
    have KK:Hid (WK ⟨bd,base,0,G,u,d,A,H+1,H,b4,f+1,f,v,O,s,Q,j,n,n,R,r,m,J⟩ wr wr c 0 (List.replicate n false)):=hY ⟨Mod.refl _ _,b8.o,by dsimp only;rw[aj];exact bt.o,bp.o⟩
    have XX:Hid (WX w b0 ⟨bd,base,0,G,u,d,A,H+1,H,b4,f+1,f,v,O,s,Q,j,n,n,R,r,m,J⟩ wr a t nf e B FU la lc gl cl gp cp z ov bv FL AL l gs sc):=hY
     ⟨E.o,FF.o,CC.o.ext E.o,PL.o.2.2.2.2.1,ac.o.2.2.2,br.o,PL.o.2.2.2.2.2.1,ap,C.o.1,PL.o.1,PL.o.2.1,PL.o.2.2.1,PL.o.2.2.2.1⟩
    obtain⟨i0,Z⟩:∃i0,m[0]?=some i0:=⟨_,iD (by rw[C.o.1.1];exact C.o.2.1)⟩;have bk:=C.o.2.2 i0 (eQ Z);have cn:=hY (oU ⟨bd,base,0,G,u,d,A,H+1,H,b4,f+1,f,v,O,s,Q,j,n,n,R,r,m,J⟩ wr wr a t (nf:Int) e B _ _ _ _ _ _ _ FF.o c 0 (List.replicate n false) KK.o 0 i0 Z 0 (-1) bk (by decide) C.o.2.1)
    have cq:Hid (Lk m (c.set i0 0) ((List.replicate n (-1:Int)).set 0 0) c):=hY (by
     refine Lk.set (DV:=c) ⟨fun S U K=>?_,fun _ _=>rfl⟩ C.o.1.2 Z (by simpa using C.o.2.1) 0;rw[C.o.2.2 U (eQ K),vt,if_pos];have h1:=(aC.1 K).1;have h2:=C.o.1.1
     omega)
    have cm:=hY (Vx.begin PL.o.1 n C.o.2.1)
    have ci:wr.cell? ⟨gs,0,none⟩=some (.i (i0:Int)):=by
     rw[aX br.o 0 C.o.2.1];simp[cK,Z,bz]
    have c4:wr.cell? ⟨d,j*6+4,none⟩=some (.slice (some ⟨gs,0,none⟩) n sc):=by rw[E.o.cell (by rw[ax.o];exact N.o.2)];exact N.o.1
    have au:(0:Int)<(n:Int):=by have:=C.o.2.1;omega
    obtain⟨q1,q2⟩:=blk b9.o;clear hlt bg av aj a4 ap Z bk cf;go_wp2_with (go_at_call 119;refine cn.o.mono ?_;rintro c0 w6 ⟨rfl,bn⟩;have K6:=hY bn;clear bn)
    go_step3
    rename_i hK1;refine hK1 _ _ (LB.o _ _ _ ⟨_,rfl,A,b4,f,f+1,n,0,J,wr,_,_,_,_,XX.o,K6.o,cm.o,cq.o,rfl,⟨rfl,rfl,rfl,rfl,rfl,rfl,rfl⟩⟩)
theorem VC.keep2 {D n:Nat}{w w':World}{K:VK}{FL:List (Int×aL)}{y:Nat}{FU:List Lit3}{x cl v C q:Nat}{E:aZ}{r:Option Addr}{z:Nat}(h:VC D n w K FL y FU x cl v C q E r z){S:List Nat}(c:Mod S w w')(k:∀b∈S,b≠x/\b≠v/\b≠q/\b≠n/\∀a,r=some a->a.block≠b):VC D n w' K FL y FU x cl v C q E r z:=by
 obtain⟨t,I,u⟩:=h.low;refine⟨h.lv,h.f,h.sl,h.sp,h.m,c.row h.l ?_,c.row h.p ?_,h.map.mod c (fun e=>(k _ e).2.2.1 rfl),?_,h.lax,bA t c.size,I,c.keep u (fun e=>(k _ e).2.2.2.1 rfl)⟩
 ·intro g j d
  simp only[Value.ownBlock,dO] at j;exact(k g d).1 j.symm
 ·intro g j d
  simp only[Value.ownBlock,dO] at j;exact(k g d).2.1 j.symm
 ·intro s
  obtain⟨g,o,B,A,H⟩:=h.kinds s;refine⟨g,o,B,bA A c.size,fun i l F=>?_⟩;have G:=c.block g A (fun e=>(k g e).2.2.2.2 _ B rfl);have:=H i l F;unfold World.cell? at this ⊢;rw[G];exact this
noncomputable def moF (s:VS)(j:Nat):Int:=match s.gh[j]? with
 |some (l,_,_)=>ai l
 |none=>0
structure Rk (R Rm:List RE)(s:VS)(k:Nat):Prop where
 len:Rm.length=R.length
 at_:∀(j:Nat) (r:RE),R[j]?=some r->Rm[j]?=some {r with most:=if j<k then moF s j else r.most}
theorem Rk.zero (R:List RE)(s:VS):Rk R R s 0:=⟨rfl,fun j r h=>by simpa using h⟩
theorem Rk.next {R c:List RE}{s:VS}{k:Nat}(h:Rk R c s k){r rm:RE}(d:R[k]?=some r)(a:c[k]?=some rm):Rk R (c.set k {rm with most:=moF s k}) s (k+1):=by
 have e:=h.at_ k r d;rw[a] at e;have g:=ol e;refine⟨by rw[As];exact h.len,fun j f b=>?_⟩;by_cases hjk:k=j
 ·subst hjk
  rw[d] at b;cases b;rw[pn (aC.1 a).1,g];simp
 ·rw[lT hjk,h.at_ j f b]
  by_cases hlt:j<k
  ·rw[if_pos hlt,if_pos (by omega)]
  ·rw[if_neg hlt,if_neg (by omega)]
theorem rq (b0 bd base pv E cd:Nat)(w W:World)(a t e:Int)(nf:Nat)(FU:List Lit3)(la:Option Addr)(lc gl cl gp cp mb:Nat)(ov bv rv:Value)(R:List RE)(FL:List (Int×aL))(AL:aZ)(s:VS)(n:Nat)(its:List It)(p3:Value)
 (hE:Ext w W) (P:VM base pv ⟨a,t,(nf:Int),e,-1,.slice la FU.length lc,.slice (some ⟨gl,0,none⟩) FL.length cl,.slice (some ⟨gp,0,none⟩) FL.length cp,.map (some mb),.slice (some ⟨E,0,none⟩) FL.length cd⟩ W s ov bv rv R)
 (hC:VC b0 pv W ⟨a,t,(nf:Int),e,-1,.slice la FU.length lc,.slice (some ⟨gl,0,none⟩) FL.length cl,.slice (some ⟨gp,0,none⟩) FL.length cp,.map (some mb),.slice (some ⟨E,0,none⟩) FL.length cd⟩ FL nf FU gl cl gp cp mb AL la lc)
 (bi:kE (FL.map (·.1)) e FL.length FL.length AL) (D:W.ownsRow bd 3 1 (.slice (some ⟨E,0,none⟩) FL.length cd) FL.length ((List.replicate FL.length (-1:Int)).map bz)) (d:gp≠E/\E<base/\w.heap.size<=E/\w.heap.size<=base/\∀ad,la=some ad->ad.block<w.heap.size)
 (hn:FL.length=n) (a2:n<=32767) (M:pV s n) (ax:s.sk.length<=32768) (ah:∀(j:Nat),j<s.sk.length->∃l F U,io ai FL s j l F U/\ai l<=127/\0<(stp U l).length/\(stp U l).Nodup/\(stp U l).length<=n)
 (al:∀(i:Nat) (p:Int) (x:aL),FL[i]?=some (p,x)->x.op=24->∃(j:Nat) (l:List It) (F:Int) (k:Nat),s.bd[i]?=some (j:Int)/\s.gh[j]?=some (l,F,k)/\x.c=ai l) (N:∃Q k',s.gh[0]?=some (its,Q,k'))
 (a0:∀y∈FL,cH y.2.op=true/\0<=y.1/\y.1<=32767/\0<=y.2.a/\y.2.a<=255/\0<=y.2.b/\y.2.b<=255)
 (ac:Act) (ae:zX p3 (.slice (some ⟨gl,0,none⟩) FL.length cl) (.pointer (some ⟨pv,0,none⟩)) ac):
 Code.wp Tryz.prog (gx 7 (Tryz.f16.body.getD .skip)) (bodyPost Tryz.prog Tryz.f16 (fun en w'=>en=.returned (.tuple #[.i (ai its),.i 0,.i 0])/\Ext w w')) ac W:=by
 obtain⟨u,rfl⟩:=ae.open;simp only[frL,gK,Nat.reduceAdd]
 conv=>arg 2;whnf
 have be:R≠[]:=fun h=>by
  obtain⟨Q,k',C⟩:=N;have I:=(aC.1 C).1;have h3:=(show R.length=s.sk.length by rw[←P.sk,se]);rw[h] at h3;have h4:=M.gh;simp at h3;omega
 obtain⟨Y,cR,rfl,ak,a9,b7,f⟩:=P.rr.slice be;have bc:R.length=s.sk.length:=(show R.length=s.sk.length by rw[←P.sk,se])
 have ab:∀b∈[E,Y],b≠gl/\b≠gp/\b≠mb/\b≠pv/\∀ad,la=some ad->ad.block≠b:=by
  obtain⟨_,_,b5,tl⟩:=aw hC.l;obtain⟨_,_,b4,tp⟩:=aw hC.p;obtain⟨_,_,b6,td⟩:=aw D;intro b hb;simp only[aS,aT,or_false] at hb;rcases hb with rfl|rfl
  ·refine⟨fun H=>?_,fun H=>d.1 H.symm,hC.map.ne_cells td,fun H=>?_,fun ad C H=>?_⟩
   ·rw[H] at td;exact cZ tl (by decide) _ _ td
   ·rw[H,P.blk] at td;cases td
   ·have:=d.2.2.2.2 ad C;have:=d.2.2.1;omega
  ·refine⟨fun H=>?_,fun H=>?_,hC.map.ne_cells f,fun H=>?_,fun ad C H=>?_⟩
   ·rw[H] at f;exact cZ tl (by decide) _ _ f
   ·rw[H] at f;exact cZ tp (by decide) _ _ f
   ·rw[H,P.blk] at f;cases f
   ·have:=d.2.2.2.2 ad C;have:=d.2.2.2.1;omega
 have a6:∀V,Mod [E,Y] W V->IR base V (ov::bv::R.map RE.sv) (cK s.of::s.bd::s.st.map cK):=fun V m=>P.ir.keep m (fun b hb=>by
  simp only[aS,aT,or_false] at hb;rcases hb with rfl|rfl
  ·exact .inl d.2.1
  ·exact .inr (cZ f (by decide)))
 have ar:=hY (fun(V:World) (m:Mod [E,Y] W V)=>m.keep P.blk (fun hx=>(ab pv hx).2.2.2.1 rfl));have bk:=hY a6;have CC:=hY (fun(V:World) (m:Mod [E,Y] W V)=>hC.keep2 m ab)
 have EX:Hid (∀V,Mod [E,Y] W V->Ext w V):=hY (fun V m=>gQ hE m (by
  intro b hb;simp only[aS,aT,or_false] at hb;rcases hb with rfl|rfl
  ·exact d.2.2.1
  ·exact aN d.2.2.2.1 ak))
 have LR:=hY (fun(V:World) (m:Mod [E,Y] W V)=>m.row hC.l (fun g hg hx=>by
  simp only[Value.ownBlock,dO] at hg
  exact(ab g hx).1 hg.symm))
 have bt:=hY P.most;have z:=hY (And.intro bi (And.intro d (And.intro hn (And.intro a2 (And.intro M (And.intro ax (And.intro ah (And.intro al (And.intro N a0)))))))));have S:=hY (And.intro D P.rr.own);have hq:=P.blk;obtain⟨q1,q2⟩:=blk hq;dsimp only at q1;have au:=hY bc;clear P hC bi D d M ax ah al N a0 ae be ab a6 hq ak a9 f hE bc hn a2;generalize bf:R.length=Z at*;have bl:=hY bf;clear bf;generalize bh:FL.length=fn at*;have af:=hY bh;clear bh;refine wp_seq ?_;go_hide hQ;go_upto_region 21 with fail;clear q1 q2
 go_loopw [96] (fun i V=>∃(k:Nat) (DV:List Int) (Rm:List RE),i=.i (k:Int)/\k<=Z/\Mod [E,Y] W V/\V.ownsRow bd 3 1 (.slice (some ⟨E,0,none⟩) fn cd) fn (DV.map bz)/\(∀j,k<=j->j<s.sk.length->∀l,s.st[j]?=some l->∀i∈l,DV[i]?=some (-1))/\V.ownsRow base 137 6 (.slice (some ⟨Y,0,none⟩) Z cR) Z (Rm.flatMap reC)/\Rk R Rm s k) (fun i _=>Z-(intOf i).toNat)
 case atStart=>
  refine⟨0,_,R,rfl,oS _,Mod.refl _ _,S.o.1,fun j _ hj l hl i hi=>?_,S.o.2,Rk.zero R s⟩;obtain⟨l',Q,U,v,_⟩:=z.o.2.2.2.2.2.2.1 j hj;rw[v.st] at hl;cases hl;have C:=(aC.1 (v.of i hi)).1;have I:=z.o.2.2.2.2.1.of;have h3:=z.o.2.2.1;rw[vt,if_pos (by omega)]
 case round=>
  obtain⟨k,DV,Rm,rfl,hk,m,D,G,aa,K⟩:=hrel;have HM:=hY m;obtain⟨q1,q2⟩:=blk (ar.o wr m);by_cases hlt:k<Z
  ·have ap:k<s.sk.length:=by rw[←au.o];exact hlt
   obtain⟨l,Q,U,v,a3,J,hnd,av⟩:=z.o.2.2.2.2.2.2.1 k ap;obtain⟨r,X⟩:∃r,R[k]?=some r:=⟨_,iD (by rw[bl.o];exact hlt)⟩;have B:=K.at_ k r X;rw[if_neg (Nat.lt_irrefl k),bt.o r (eQ X)] at B;have A:=(bk.o wr m).own (k+2) r.sv (cK (stp U l)) (by simp[X]) (by simp[v.st]);rw[eG] at A;obtain⟨bw,sc,ao,ay⟩:=aJ A;obtain⟨gs,rfl,a8,a7⟩:=ay J;rw[ao] at A;have d:=z.o.2.1;have bx:(k:Int)<(Z:Int):=by omega
   have am:Z<=32768:=by have C:=z.o.2.2.2.2.2.1;have I:=au.o;omega
   have b3:(k:Int)<=32768:=by omega
   have br:fn<=32767:=by have C:=z.o.2.2.1;have I:=z.o.2.2.2.1;omega
   have ag:(stp U l).length<=32768:=by have I:=z.o.2.2.2.1;omega
   have bj:=hY (CD b0 bd base pv E Y fn cd Z cR k (stp U l).length Rm {r with most:=0} (stp U l) wr a t nf e (-1) FU la lc gl cl gp cp mb ov bv FL AL l gs sc DV
    (by rw[af.o];exact ar.o wr m) (by rw[af.o];exact CC.o wr m) (by rw[af.o];exact z.o.1) D aa B hlt rfl ao A ⟨by have:=d.2.1;omega,d.1⟩ ⟨rfl,hnd⟩ J (G k (gE k) ap _ v.st) v.reg a3 (fun q x hx hl=>⟨_,_,_,v.stepAt hx hl⟩) z.o.2.2.2.2.2.2.2.2.2 ⟨am,by omega,ag⟩)
   have HN:=hY (And.intro G (And.intro K (And.intro v (And.intro X B))));have bm:=hY hlt;clear G K v a3 J hnd X B A ao ay a8 a7 d am br ag av ap m D aa hlt hk;go_upto_region 24 with(go_at_call 54;refine bj.o.mono ?_;rintro en w4 ⟨rfl,bg,bu,ba,a1,az⟩;have W4:=hY (And.intro bg (And.intro ba (And.intro a1 az)));clear bg ba a1 az);clear q1 q2;go_wp2_with fail;go_roundw
   case rel=>
    obtain⟨w1,w2,w3,bn⟩:=W4.o;obtain⟨n1,n2,n3,n4,n5⟩:=HN.o;have bo:moF s k=ai l:=by unfold moF;rw[n3.gh]
    refine⟨k+1,bu,_,by push_cast;rfl,bm.o,HM.o.trans w1,w2,fun j hj a5 l' a4 i hi=>?_,bn,?_⟩
    ·obtain⟨l2,b2,k2,L,_⟩:=z.o.2.2.2.2.2.2.1 j a5
     rw[L.st] at a4;cases a4
     rw[w3 i (fun bq=>by
      have C:=n3.of i bq;have I:=L.of i hi;rw[C] at I;have:=ol I
      omega)]
     exact n1 j (by omega) a5 _ L.st i hi
    ·rw[←bo]
     exact n2.next (r:=r) (rm:={r with most:=0}) n4 n5
   case measure=>have:=bm.o;simp[intOf];omega
  ·have b1:¬(k:Int)<(Z:Int):=by omega
   have bp:k=Z:=by omega
   subst bp;have aj:=bk.o wr m;have O:=aj.own 1 bv s.bd rfl rfl;have bb:s.bd.length=fn:=by have C:=z.o.2.2.2.2.1.bd;have I:=z.o.2.2.1;omega
   rw[bb] at O
   have aq:∀(j:Nat) (l:List It) (Q:Int) (k':Nat),s.gh[j]?=some (l,Q,k')->∃r,R[j]?=some r/\Rm[j]?=some {r with most:=ai l}:=fun j l Q k' hg=>by
    have C:=(aC.1 hg).1;have I:=z.o.2.2.2.2.1.gh;have h3:=au.o;obtain⟨r,X⟩:∃r,R[j]?=some r:=⟨_,iD (by have:=bl.o;omega)⟩;have h4:=K.at_ j r X;rw[if_pos (by omega)] at h4;refine⟨r,X,?_⟩;rw[h4];unfold moF;rw[hg]
   have T8:=hY (fun ac ae=>ro b0 base pv Y k cR gl cl fn w wr a t (nf:Int) e (.slice la FU.length lc) _ _ ov bv _ FL s.bd Rm (ai its) p3 (EX.o wr m) (ar.o wr m) (by have h:=LR.o wr m;exact h) af.o (by have C:=z.o.2.2.1;have I:=z.o.2.2.2.1;omega) O aa (fun i p x hx bs=>by
    obtain⟨j,l,Q,k',C,I,h3⟩:=z.o.2.2.2.2.2.2.2.1 i p x hx bs;obtain⟨r,X,B⟩:=aq j l Q k' I;exact⟨j,_,C,B,by rw[h3];exact Int.lt_irrefl _⟩) (by
    obtain⟨Q,k',C⟩:=z.o.2.2.2.2.2.2.2.2.1;obtain⟨r,X,B⟩:=aq 0 its Q k' C
    exact⟨_,B,rfl⟩) ac ae)
   clear aj O bb aq m D G aa K hlt hk;go_wp2_with fail;subst hQ;exact T8.o _ ⟨rfl,rfl,rfl,rfl,rfl⟩
end Go.Proofs.Eff
