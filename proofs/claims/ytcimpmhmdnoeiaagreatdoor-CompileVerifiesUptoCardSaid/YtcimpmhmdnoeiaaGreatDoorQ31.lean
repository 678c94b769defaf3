import Derived.Test.YtcimpmhmdnoeiaaGreatDoorQ30
set_option maxRecDepth 100000
set_option maxHeartbeats 4000000
set_option linter.all false
namespace Go.Proofs.Eff
open Go.RowKit
def Cn (fs gs:List BL)(x:T)(set:Bool):Prop:=
 ∀base top p w f d s r b a c F l i k h j g,Env base top p w f d fs gs F->CW base p w f d s ((r,b,a)::c) F->bK w top x l i k h j g->Bud s a.length c.length 2->
 Calls Tryz.prog 164 #[.pointer (some ⟨p,0,none⟩),.agg (af x.kind x.name x.FP.length x.FQ.length x.FN.length x.FY x.FR l i k h j g),.bool set] w fun e m=>e=nrm/\aa base p w f d F (dG fs gs x.name x.FR set (b::rgs c) s).1 ((r,b,a++(dG fs gs x.name x.FR set (b::rgs c) s).2)::c) m
theorem ux (n:BL)(a:Rg)(c:List Rg):aF n (a::c)=match cA n a.1 with
 |some i=>some (0,i,decide (i<a.2))
 |none=>(aF n c).map fun x=>(x.1+1,x.2):=by rw[aF];rfl
theorem oz (fs gs:List BL)(x:T)(t:bn x.name≠0\/x.name=bm):Cn fs gs x false:=by
 intro base top p w X W s r y its c F S P R O Q N J K M L;have h:=xal w x S P R O Q N;have u:=hY (aa.refl (K.ext h.o));obtain⟨V,U⟩:=J.boxC u.o;have H:Hid (its.length<=bq):=hY (by have:=L.its;omega);have q:((mkS x.name).toList==[115,101,108,102])=decide (x.name=[115,101,108,102]):=by rw[cO,aG]
 have n:((mkS x.name).toList==[110,105,108])=decide (x.name=[110,105,108]):=by rw[cO,aG]
 have m:((mkS x.name).toList==[116,114,117,101])=decide (x.name=[116,114,117,101]):=by rw[cO,aG]
 have l:((mkS x.name).toList==[102,97,108,115,101])=decide (x.name=[102,97,108,115,101]):=by rw[cO,aG]
 have j:((mkS x.name).toList==[116,104,105,115,67,111,110,116,101,120,116])=decide (x.name=[116,104,105,115,67,111,110,116,101,120,116]):=by rw[cO,aG]
 have i:((mkS x.name).toList==[115,117,112,101,114])=decide (x.name=[115,117,112,101,114]):=by rw[cO,aG]
 have I:x.name=[115,101,108,102]\/x.name=[110,105,108]\/x.name=[116,114,117,101]\/x.name=[102,97,108,115,101]\/x.name=[116,104,105,115,67,111,110,116,101,120,116]\/x.name=bm:=by
  rcases t with t|t
  ·unfold bn at t
   repeat' split at t
   all_goals first
    |exact absurd rfl t
    |simp_all
  ·exact .inr (.inr (.inr (.inr (.inr t))))
 clear t M J K L;rcases I with a|a|a|a|a|a
 ·have f:Hid (dG fs gs x.name x.FR false (y::rgs c) s=(s,[.ins 1 0 0 0])):=hY (by rw[a];unfold dG;rw[if_pos (by decide)];rfl)
  replace q:=q.trans (show decide (x.name=[115,101,108,102])=true by rw[a];rfl)
  replace n:=n.trans (show decide (x.name=[110,105,108])=false by rw[a];rfl)
  replace m:=m.trans (show decide (x.name=[116,114,117,101])=false by rw[a];rfl)
  replace l:=l.trans (show decide (x.name=[102,97,108,115,101])=false by rw[a];rfl)
  replace j:=j.trans (show decide (x.name=[116,104,105,115,67,111,110,116,101,120,116])=false by rw[a];rfl)
  replace i:=i.trans (show decide (x.name=[115,117,112,101,114])=false by rw[a];rfl)
  clear a;generalize x.kind=k at*;generalize x.name=B at*;generalize x.FP.length=E at*;generalize x.FQ.length=D at*;generalize x.FN.length=C at*;generalize x.FY=A at*;generalize x.FR=pl at*;go_enter Tryz.func164,Tryz.ntmps164;go_upto_region 1 with fail;generalize d:w.alloc _=G at*;clear d;go_wp2_with (first|(go_at_call 60;refine(cr u.o H.o _).m fun z g=>?_))
  (first|refine QzE rfl rfl ?_|refine QzR rfl rfl ?_);exact ⟨rfl,by rw[f.o];exact aa.FZ h.o g.o⟩
 ·have f:Hid (dG fs gs x.name x.FR false (y::rgs c) s=(s,[.ins 2 0 0 0])):=hY (by rw[a];unfold dG;rw[if_pos (by decide)];rfl)
  replace q:=q.trans (show decide (x.name=[115,101,108,102])=false by rw[a];rfl)
  replace n:=n.trans (show decide (x.name=[110,105,108])=true by rw[a];rfl)
  replace m:=m.trans (show decide (x.name=[116,114,117,101])=false by rw[a];rfl)
  replace l:=l.trans (show decide (x.name=[102,97,108,115,101])=false by rw[a];rfl)
  replace j:=j.trans (show decide (x.name=[116,104,105,115,67,111,110,116,101,120,116])=false by rw[a];rfl)
  replace i:=i.trans (show decide (x.name=[115,117,112,101,114])=false by rw[a];rfl)
  clear a;generalize x.kind=k at*;generalize x.name=B at*;generalize x.FP.length=E at*;generalize x.FQ.length=D at*;generalize x.FN.length=C at*;generalize x.FY=A at*;generalize x.FR=pl at*;go_enter Tryz.func164,Tryz.ntmps164;go_upto_region 1 with fail;generalize d:w.alloc _=G at*;clear d;go_wp2_with (first|(go_at_call 60;refine(cr u.o H.o _).m fun z g=>?_))
  (first|refine QzE rfl rfl ?_|refine QzR rfl rfl ?_);exact ⟨rfl,by rw[f.o];exact aa.FZ h.o g.o⟩
 ·have f:Hid (dG fs gs x.name x.FR false (y::rgs c) s=(s,[.ins 3 0 0 0])):=hY (by rw[a];unfold dG;rw[if_pos (by decide)];rfl)
  replace q:=q.trans (show decide (x.name=[115,101,108,102])=false by rw[a];rfl)
  replace n:=n.trans (show decide (x.name=[110,105,108])=false by rw[a];rfl)
  replace m:=m.trans (show decide (x.name=[116,114,117,101])=true by rw[a];rfl)
  replace l:=l.trans (show decide (x.name=[102,97,108,115,101])=false by rw[a];rfl)
  replace j:=j.trans (show decide (x.name=[116,104,105,115,67,111,110,116,101,120,116])=false by rw[a];rfl)
  replace i:=i.trans (show decide (x.name=[115,117,112,101,114])=false by rw[a];rfl)
  clear a;generalize x.kind=k at*;generalize x.name=B at*;generalize x.FP.length=E at*;generalize x.FQ.length=D at*;generalize x.FN.length=C at*;generalize x.FY=A at*;generalize x.FR=pl at*;go_enter Tryz.func164,Tryz.ntmps164;go_upto_region 1 with fail;generalize d:w.alloc _=G at*;clear d;go_wp2_with (first|(go_at_call 60;refine(cr u.o H.o _).m fun z g=>?_))
  (first|refine QzE rfl rfl ?_|refine QzR rfl rfl ?_);exact ⟨rfl,by rw[f.o];exact aa.FZ h.o g.o⟩
 ·have f:Hid (dG fs gs x.name x.FR false (y::rgs c) s=(s,[.ins 4 0 0 0])):=hY (by rw[a];unfold dG;rw[if_pos (by decide)];rfl)
  replace q:=q.trans (show decide (x.name=[115,101,108,102])=false by rw[a];rfl)
  replace n:=n.trans (show decide (x.name=[110,105,108])=false by rw[a];rfl)
  replace m:=m.trans (show decide (x.name=[116,114,117,101])=false by rw[a];rfl)
  replace l:=l.trans (show decide (x.name=[102,97,108,115,101])=true by rw[a];rfl)
  replace j:=j.trans (show decide (x.name=[116,104,105,115,67,111,110,116,101,120,116])=false by rw[a];rfl)
  replace i:=i.trans (show decide (x.name=[115,117,112,101,114])=false by rw[a];rfl)
  clear a;generalize x.kind=k at*;generalize x.name=B at*;generalize x.FP.length=E at*;generalize x.FQ.length=D at*;generalize x.FN.length=C at*;generalize x.FY=A at*;generalize x.FR=pl at*;go_enter Tryz.func164,Tryz.ntmps164;go_upto_region 1 with fail;generalize d:w.alloc _=G at*;clear d;go_wp2_with (first|(go_at_call 60;refine(cr u.o H.o _).m fun z g=>?_))
  (first|refine QzE rfl rfl ?_|refine QzR rfl rfl ?_);exact ⟨rfl,by rw[f.o];exact aa.FZ h.o g.o⟩
 ·have f:Hid (dG fs gs x.name x.FR false (y::rgs c) s=(s,[.ins 5 0 0 0])):=hY (by rw[a];unfold dG;rw[if_pos (by decide)];rfl)
  replace q:=q.trans (show decide (x.name=[115,101,108,102])=false by rw[a];rfl)
  replace n:=n.trans (show decide (x.name=[110,105,108])=false by rw[a];rfl)
  replace m:=m.trans (show decide (x.name=[116,114,117,101])=false by rw[a];rfl)
  replace l:=l.trans (show decide (x.name=[102,97,108,115,101])=false by rw[a];rfl)
  replace j:=j.trans (show decide (x.name=[116,104,105,115,67,111,110,116,101,120,116])=true by rw[a];rfl)
  replace i:=i.trans (show decide (x.name=[115,117,112,101,114])=false by rw[a];rfl)
  clear a;generalize x.kind=k at*;generalize x.name=B at*;generalize x.FP.length=E at*;generalize x.FQ.length=D at*;generalize x.FN.length=C at*;generalize x.FY=A at*;generalize x.FR=pl at*;go_enter Tryz.func164,Tryz.ntmps164;go_upto_region 1 with fail;generalize d:w.alloc _=G at*;clear d;go_wp2_with (first|(go_at_call 60;refine(cr u.o H.o _).m fun z g=>?_))
  (first|refine QzE rfl rfl ?_|refine QzR rfl rfl ?_);exact ⟨rfl,by rw[f.o];exact aa.FZ h.o g.o⟩
 ·have f:Hid (dG fs gs x.name x.FR false (y::rgs c) s=(s.fail x.FR 130,[])):=hY (by rw[a];unfold dG;rw[if_neg (by decide),if_pos (by decide)])
  replace q:=q.trans (show decide (x.name=[115,101,108,102])=false by rw[a];rfl)
  replace n:=n.trans (show decide (x.name=[110,105,108])=false by rw[a];rfl)
  replace m:=m.trans (show decide (x.name=[116,114,117,101])=false by rw[a];rfl)
  replace l:=l.trans (show decide (x.name=[102,97,108,115,101])=false by rw[a];rfl)
  replace j:=j.trans (show decide (x.name=[116,104,105,115,67,111,110,116,101,120,116])=false by rw[a];rfl)
  replace i:=i.trans (show decide (x.name=[115,117,112,101,114])=true by rw[a];rfl)
  clear a;generalize x.kind=k at*;generalize x.name=B at*;generalize x.FP.length=E at*;generalize x.FQ.length=D at*;generalize x.FN.length=C at*;generalize x.FY=A at*;generalize x.FR=pl at*;go_enter Tryz.func164,Tryz.ntmps164;go_upto_region 1 with fail;generalize d:w.alloc _=G at*;clear d;go_wp2_with (first|(go_at_call 58;refine(jH u.o _ _).m fun z g=>?_))
  (first|refine QzE rfl rfl ?_|refine QzR rfl rfl ?_);exact ⟨rfl,by rw[f.o,kn];exact aa.FZ h.o g.o⟩
section
variable {n:BL}
def jV (fs gs:List BL)(n:BL)(FR:Int)(set:Bool)(c:List Rg)(s:GS):GS×List It:=
 match aF n c with
  |some (out,i,arg)=>(if set&&arg then s.fail FR 133 else s,[.ins (if set then 12 else 9) out i 0])
  |none=>match cA n fs with
   |some i=>(s.or (decide (255<i)),[.ins (if set then 11 else 8) i 0 0])
   |none=>if gs.contains n then((s.lit (.mk 4 n [])).1,[.ins (if set then 13 else 10) (s.lit (.mk 4 n [])).2 0 0])
    else(s.fail FR 130,[])
theorem qp (fs gs:List BL)(n:BL)(FR:Int)(set:Bool)(c:List Rg)(s:GS)(h:set=false->bn n=0/\n≠bm):dG fs gs n FR set c s=jV fs gs n FR set c s:=by
 unfold dG jV;cases set with
 |true=>rw[if_neg (by simp),if_neg (by simp)];rfl
 |false=>
  obtain⟨d,b⟩:=h rfl;rw[if_neg (fun a=>a.2 d),if_neg (fun a=>b a.2)];rfl
theorem vx (h:bn n=0):n≠[115,101,108,102]/\n≠[110,105,108]/\n≠[116,114,117,101]/\n≠[102,97,108,115,101]/\n≠[116,104,105,115,67,111,110,116,101,120,116]:=by
 refine⟨?_,?_,?_,?_,?_⟩<;>(intro e;rw[e] at h;revert h;decide)
theorem ox (n:BL)(a:Rg)(c:List Rg)(k:Nat):(aF n (a::c)).map (fun x=>(x.1+k,x.2))=match cA n a.1 with
 |some i=>some (k,i,decide (i<a.2))
 |none=>(aF n c).map fun x=>(x.1+(k+1),x.2):=by
 rw[ux];cases cA n a.1 with
 |some i=>simp
 |none=>
  rw[Option.map_map]
  congr 1
  funext x
  show(x.1+1+k,x.2)=_
  rw[show x.1+1+k=x.1+(k+1) by omega]
theorem kN {l:List BL}{i:Nat}(h:cA n l=some i):lH n l=i:=by unfold lH;rw[h]
theorem kO {l:List BL}(h:cA n l=none):lH n l= -1:=by unfold lH;rw[h]
theorem ru (fs gs:List BL)(x:T)(M:bn x.name=0/\x.name≠bm):Cn fs gs x false:=by
 intro base top p w fv gv s r U its c F a1 c1 a2 c2 a3 c3 B hC hP hB;have C:Hid (dG fs gs x.name x.FR false (U::rgs c) s=jV fs gs x.name x.FR false (U::rgs c) s):=hY (qp fs gs x.name x.FR false _ s (by exact fun _=>M));have EX:=xal w x a1 c1 a2 c2 a3 c3;have S0:=hY (aa.refl (hC.ext EX.o));obtain⟨G,D⟩:=B.boxC S0.o;have NB:=hY (aq w (.cells (af x.kind x.name x.FP.length x.FQ.length x.FN.length x.FY x.FR a1 c1 a2 c2 a3 c3) 26) _ rfl);have BZ:Hid (w.heap.size<(w.alloc (.cells (af x.kind x.name x.FP.length x.FQ.length x.FN.length x.FY x.FR a1 c1 a2 c2 a3 c3) 26)).heap.size):=hY (ab NB.o);obtain⟨fa,fc,rfl,ag⟩:=B.fld;obtain⟨ga,gc,rfl,ad⟩:=B.glb;have FSe:=hY (fun V (z:Ext w V)=>ag.keep (B.low (CM.FZ z)));have ay:=hY (fun V (z:Ext w V)=>ad.keep (B.low (CM.FZ z)));have a9:fs.length<=1048576:=ag.small;have a8:gs.length<=1048576:=ad.small;have EN:=hY B;have CC:=hY hC;have PW:Hid (p<w.heap.size/\∀k∈F,k<w.heap.size):=hY ⟨B.pw,fun k W=>(B.Fb k W).2.1⟩;clear ag ad;have B2:Hid (its.length<=bq/\s.FU.length<=bq):=hY ⟨by have:=hB.its;omega,by have:=hB.lit;omega⟩;have ba:c.length<=999999999:=by have:=hB.dep;unfold bq at this;omega
 have XN:Hid (x.name.length<=ao):=hY hP.name;obtain⟨f1,f2,f3,f4,f5⟩:=vx M.1;have f6:=M.2;have e1:((mkS x.name).toList==[115,101,108,102])=false:=by rw[cO,aG];exact decide_eq_false f1
 have e2:((mkS x.name).toList==[110,105,108])=false:=by rw[cO,aG];exact decide_eq_false f2
 have e3:((mkS x.name).toList==[116,114,117,101])=false:=by rw[cO,aG];exact decide_eq_false f3
 have e4:((mkS x.name).toList==[102,97,108,115,101])=false:=by rw[cO,aG];exact decide_eq_false f4
 have e5:((mkS x.name).toList==[116,104,105,115,67,111,110,116,101,120,116])=false:=by rw[cO,aG];exact decide_eq_false f5
 have e6:((mkS x.name).toList==[115,117,112,101,114])=false:=by rw[cO,aG];exact decide_eq_false f6
 clear f1 f2 f3 f4 f5 f6 M;clear hP B hC hB;generalize x.kind=kx at*;generalize x.name=f at*;generalize x.FP.length=n1 at*;generalize x.FQ.length=n2 at*;generalize x.FN.length=n3 at*;generalize x.FY=pr at*;generalize x.FR=pl at*;go_enter Tryz.func164,Tryz.ntmps164;go_upto_region 1 with fail;generalize aw:w.alloc _=Z at*;clear aw;go_upto_region 18 with fail;have E2:Hid (Ext Z (Z.alloc (.cells #[.i 9,.i 8,.i 10] 269))):=(Ext.refl Z).alloc _;have OB:=hY (aq Z (.cells #[.i 9,.i 8,.i 10] 269) _ rfl);have BK:=hY (E2.o.keep NB.o);generalize au:Z.alloc _=L at*;clear au;have j:Hid (Ext w L):=hY (EX.o.trans E2.o);have OZ:Hid (w.heap.size<Z.heap.size/\Z.heap.size<L.heap.size):=hY ⟨BZ.o,ab OB.o⟩;generalize Z.heap.size=O at*;have a0:=hY (CC.o.ext j.o);have bc:=hY (EN.o.ext j.o);obtain⟨av,lv,wv,xs,F1,z⟩:=a0.o;have aj:=z.chain.keep (ok':=fun b=>b<L.heap.size) (fun _ _=>rfl) (fun k W=>W.2.1) (fun _ _=>rfl);have PB:=hY z.blk;obtain⟨rfl,_⟩:=z.head;have CH:=hY aj;clear z aj G D;obtain⟨G,D⟩:=blk BK.o;obtain⟨K,v2⟩:=blk PB.o;go_upto_region 20 with fail;clear G D K v2 e1 e2 e3 e4 e5 e6
 go_loopw [7,8] (fun am rp wr=>Ext L wr/\∃(k:Nat) (P:List RgS) (F':List Nat),am=.i k/\dX L base (fun b=>b<L.heap.size) P rp F'/\k+P.length=c.length+1/\aF f (U::rgs c)=(aF f (rgs P)).map (fun x=>(x.1+k,x.2))) (fun _ rp _=>pM L rp)
 case atStart=>exact⟨Ext.refl _,0,_,_,rfl,CH.o,by simp,by simp[rgs]⟩
 case round=>
  obtain⟨B,k,P,F',rfl,hC,W,hW⟩:=hrel;have E:=hY B;have WQ:=hY hW;have a7:k<=1000000000:=by omega
  have HK:=hY W;clear B hW W;obtain⟨G,D⟩:=blk (E.o.keep BK.o);have bb:=hY (fun(l:List BL) (V:World) (a:Option Addr) (cp:Nat) (tp:Nat) (hs:bT V tp a cp l)=>gV V tp cp a l hs f);cases P with
  |nil=>
   obtain⟨rfl,_⟩:=hC;have WN:Hid (aF f (U::rgs c)=none):=hY (by rw[WQ.o];rfl);have R:=hY (fun V (z:Ext wr V)=>gV V _ fc fa fs (FSe.o V ((j.o.trans E.o).trans z)) f);have CT:=hY (fun V (z:Ext wr V)=>eW V _ gc ga gs (ay.o V ((j.o.trans E.o).trans z)) f);have ak:=hY (E.o.keep PB.o);obtain⟨K,v2⟩:=blk ak.o;clear WQ;go_upto_region 28 with fail;cases q:cA f fs with
   |some i=>
    rw[kN q] at R;have ar:=gW q;have y:Hid (jV fs gs f pl false (U::rgs c) s=(s.or (decide (255<i)),[.ins 8 i 0 0])):=hY (by unfold jV;rw[WN.o,q];rfl);clear q;go_quiet ((go_at_call 155;exact Calls.quiet_of_same (R.o _ ((Ext.refl _).drewN _))));have g:Hid (Ext L (wr.drewN nq)):=hY (E.o.trans ((Ext.refl _).drewN _));generalize u:wr.drewN nq=V at*;clear u G D K v2;have Q:=hY (aa.refl (CC.o.ext (j.o.trans g.o)));have OV:=hY (g.o.keep OB.o);have ai:Hid (∀(v:Bool),(V.setCell ⟨p,6,none⟩ (.bool v)).heap[O]?=some (.cells #[.i 9,.i 8,.i 10] 269)):=hY (fun v=>(ae V ⟨p,6,none⟩ (.bool v)).keep OV.o (by simp only[aS,aT,or_false];have:=OZ.o;have:=PW.o.1;omega));have PV:=hY (g.o.keep PB.o);obtain⟨K,v2⟩:=blk PV.o
    have ap:s.many=true\/(s.many=false/\255<i)\/(s.many=false/\¬255<i):=by
     cases s.many with
     |true=>exact .inl rfl
     |false=>by_cases h:255<i;exact .inr (.inl ⟨rfl,h⟩);exact .inr (.inr ⟨rfl,h⟩)
    rcases ap with t|⟨t,Y⟩|⟨t,Y⟩
    ·have SM:=hY (Q.o.many (decide (255<i)) true (by rw[t];rfl))
     obtain⟨o1,o2⟩:=blk (ai.o true);rw[t] at K;clear t;go_upto_region 31 with fail;generalize H:V.setCell _ _=V5 at*;clear H;go_wp2_with (first|(go_at_call 124;refine(bh SM.o B2.o.1 _ _ _ _).m fun w3 A=>?_));(first|refine QzE rfl rfl ?_|refine QzR rfl rfl ?_);exact ⟨rfl,by rw[C.o,y.o];exact aa.FZ (j.o.trans g.o) A.o⟩
    ·have SM:=hY (Q.o.many (decide (255<i)) true (by rw[t,decide_eq_true Y];rfl))
     obtain⟨o1,o2⟩:=blk (ai.o true);rw[t] at K;have ax:(255:Int)<(i:Int):=by omega
     clear t Y;go_upto_region 31 with fail;generalize H:V.setCell _ _=V5 at*;clear H;go_wp2_with (first|(go_at_call 124;refine(bh SM.o B2.o.1 _ _ _ _).m fun w3 A=>?_));(first|refine QzE rfl rfl ?_|refine QzR rfl rfl ?_);exact ⟨rfl,by rw[C.o,y.o];exact aa.FZ (j.o.trans g.o) A.o⟩
    ·have SM:=hY (Q.o.many (decide (255<i)) false (by rw[t,decide_eq_false Y];rfl))
     obtain⟨o1,o2⟩:=blk (ai.o false);rw[t] at K;have ax:¬(255:Int)<(i:Int):=by omega
     clear t Y;go_upto_region 31 with fail;generalize H:V.setCell _ _=V5 at*;clear H;go_wp2_with (first|(go_at_call 124;refine(bh SM.o B2.o.1 _ _ _ _).m fun w3 A=>?_));(first|refine QzE rfl rfl ?_|refine QzR rfl rfl ?_);exact ⟨rfl,by rw[C.o,y.o];exact aa.FZ (j.o.trans g.o) A.o⟩
   |none=>
    rw[kO q] at R;have J:Hid (jV fs gs f pl false (U::rgs c) s=if gs.contains f then((s.lit (.mk 4 f [])).1,[.ins 10 (s.lit (.mk 4 f [])).2 0 0]) else(s.fail pl 130,[])):=hY (by unfold jV;rw[WN.o,q];rfl);clear q;go_quiet ((go_at_call 155;exact Calls.quiet_of_same (R.o _ ((Ext.refl _).drewN _))));go_upto_region 32 with fail;have S:Hid (Ext wr (wr.drewN nq)):=hY ((Ext.refl _).drewN _);generalize u:wr.drewN nq=V0 at*;clear u G D K v2;obtain⟨G,D⟩:=blk (S.o.keep (E.o.keep BK.o));obtain⟨K,v2⟩:=blk (S.o.keep ak.o);obtain⟨b,hb⟩:∃b,b=gs.contains f:=⟨_,rfl⟩;rw[←hb] at CT J;clear hb;have az:=hY (fun n=>CT.o (V0.drewN n) (S.o.trans ((Ext.refl V0).drewN n)));go_quiet ((go_at_call 109;with_reducible exact Calls.quiet_of_same (v:=.bool b) (az.o _)));have g:Hid (Ext L (V0.drewN nq)):=hY ((E.o.trans S.o).trans ((Ext.refl _).drewN _));generalize u:V0.drewN nq=V at*;clear u G D K v2;have Q:=hY (aa.refl (CC.o.ext (j.o.trans g.o)));have OV:=hY (g.o.keep OB.o);have BV:=hY (g.o.keep BK.o);cases b with
    |false=>
     rw[if_neg (by decide)] at J;have y:=hY J.o;obtain⟨G,D⟩:=blk BV.o;go_wp2_with (first|(go_at_call 58;refine(jH Q.o _ _).m fun w3 A=>?_));(first|refine QzE rfl rfl ?_|refine QzR rfl rfl ?_);exact ⟨rfl,by rw[C.o,y.o,kn];exact aa.FZ (j.o.trans g.o) A.o⟩
    |true=>
     rw[if_pos rfl] at J;have y:=hY J.o
     have KS:=hY (fun(X:World) s' I (h:aa base p V (.slice fa fs.length fc) (.slice ga gs.length gc) F s' I X)=>And.intro (fun i=>by
      have hb:=h.box BV.o (by have:=PW.o.1;omega) (fun t=>by have:=PW.o.2 _ t;omega);have:=(blk hb).1 i;simpa using this) (fun i=>by
      have hb:=h.box OV.o (by have:=OZ.o;have:=PW.o.1;omega) (fun t=>by have:=PW.o.2 _ t;have:=OZ.o;omega);have:=(blk hb).1 i
      simpa using this):∀(X:World) (s':GS) (I:List RgS),aa base p V (.slice fa fs.length fc) (.slice ga gs.length gc) F s' I X->(∀i,X.cell? ⟨w.heap.size,i,none⟩=(aB kx f n1 n2 n3 pr pl a1 c1 a2 c2 a3 c3)[i]?)/\(∀i,X.cell? ⟨O,i,none⟩=([.i 9,.i 8,.i 10]:List Value)[i]?))
     have SD:=hY (KS.o _ _ _ (Q.o.ext ((Ext.refl V).drew)));have KE:=hY (fun(X:World) s' I o (h:aa base p V (.slice fa fs.length fc) (.slice ga gs.length gc) F s' I X)=>KS.o (X.alloc o) _ _ (h.ext ((Ext.refl X).alloc o)));go_upto_region 33 with fail
     go_region_held3 (fun X=>(∀i,X.cell? ⟨w.heap.size,i,none⟩=(aB kx f n1 n2 n3 pr pl a1 c1 a2 c2 a3 c3)[i]?)/\(∀i,X.cell? ⟨O,i,none⟩=([.i 9,.i 8,.i 10]:List Value)[i]?))
      (with_reducible (first|exact SD.o|exact KS.o _ _ _ ah.o|exact KS.o _ _ _ N.o|exact KE.o _ _ _ _ N.o))
      (first|(go_at_call 166;refine(iX (Q.o.ext ((Ext.refl V).drew)) B2.o.2 4 f XN.o).m fun w5 N=>?_)|(go_at_call 124;refine(bh N B2.o.1 _ _ _ _).m fun w6 ah=>?_))
     have S6:=hY ah;clear N ah;go_wp2_with fail
     (first|refine QzE rfl rfl ?_|refine QzR rfl rfl ?_);exact ⟨rfl,by rw[C.o,y.o];exact aa.FZ (j.o.trans g.o) S6.o⟩
  |cons hd P=>
   have DD:=hY (fG hC);obtain⟨r',m,a4⟩:=hd;obtain⟨rfl,o,nv,it,ys,F2,h1,Y,h3,_,_,h6⟩:=hC;have D2:=hY (fG h6);have al:=hY (E.o.keep Y);obtain⟨r1,r2⟩:=blk al.o;obtain⟨a,cp,rfl,hs⟩:=h3.strs (fun k h=>h);have R:=hY (fun V (z:Ext wr V)=>gV V _ cp a m.1 (hs.keep (fun k W=>(E.o.trans z).block W)) f);have H6:=hY h6;have WS:Hid (aF f (U::rgs c)=match cA f m.1 with|some i=>some (k,i,decide (i<m.2))|none=>(aF f (rgs P)).map fun x=>(x.1+(k+1),x.2)):=hY (by rw[WQ.o];exact ox f m (rgs P) k);have a6:m.1.length<=1048576:=hs.small;have ac:=fun i (q:cA f m.1=some i)=>gW q;clear h1 Y h3 h6 hs WQ;generalize m.1.length=a5 at*;cases q:cA f m.1 with
   |none=>
    rw[q] at WS;rw[kO q] at R;clear q ac;go_upto_region 22 with fail;go_quiet ((go_at_call 155;exact Calls.quiet_of_same (R.o _ ((Ext.refl _).drewN _))));go_wp2_with fail;go_roundw
    case rel=>exact⟨E.o.trans ((Ext.refl _).drewN _),k+1,P,F2,by go_num,H6.o,by have:=HK.o;simp only[gi] at this;omega,WS.o⟩
    case measure=>rw[DD.o,D2.o];simp
   |some i=>
    rw[q] at WS;rw[kN q] at R;have ar:=ac i q;clear q ac;go_upto_region 22 with fail;go_quiet ((go_at_call 155;exact Calls.quiet_of_same (R.o _ ((Ext.refl _).drewN _))));have g:Hid (Ext L (wr.drewN nq)):=hY (E.o.trans ((Ext.refl _).drewN _));have RV:=hY ((Ext.refl wr).drewN nq |>.keep al.o);generalize u:wr.drewN nq=V at*;clear u r1 r2 G D;have Q:=hY (aa.refl (CC.o.ext (j.o.trans g.o)));have OV:=hY (g.o.keep OB.o);have BV:=hY (g.o.keep BK.o);obtain⟨r1,r2⟩:=blk RV.o;obtain⟨G,D⟩:=blk BV.o;obtain⟨o1,o2⟩:=blk OV.o;have y:Hid (jV fs gs f pl false (U::rgs c) s=(s,[.ins 9 k i 0])):=hY (by unfold jV;rw[WS.o];rfl);go_wp2_with (first|(go_at_call 124;refine(bh Q.o B2.o.1 _ _ _ _).m fun w3 A=>?_))
    (first|refine QzE rfl rfl ?_|refine QzR rfl rfl ?_);exact ⟨rfl,by rw[C.o,y.o];exact aa.FZ (j.o.trans g.o) A.o⟩
theorem rt (fs gs:List BL)(x:T):Cn fs gs x true:=by
 intro base top p w fv gv s r N its c F a1 c1 a2 c2 a3 c3 C hC hP hB;have B:Hid (dG fs gs x.name x.FR true (N::rgs c) s=jV fs gs x.name x.FR true (N::rgs c) s):=hY (qp fs gs x.name x.FR true _ s (by intro h;cases h));have EX:=xal w x a1 c1 a2 c2 a3 c3;have S0:=hY (aa.refl (hC.ext EX.o));obtain⟨G,D⟩:=C.boxC S0.o;have NB:=hY (aq w (.cells (af x.kind x.name x.FP.length x.FQ.length x.FN.length x.FY x.FR a1 c1 a2 c2 a3 c3) 26) _ rfl);have BZ:Hid (w.heap.size<(w.alloc (.cells (af x.kind x.name x.FP.length x.FQ.length x.FN.length x.FY x.FR a1 c1 a2 c2 a3 c3) 26)).heap.size):=hY (ab NB.o);obtain⟨fa,fc,rfl,ag⟩:=C.fld;obtain⟨ga,gc,rfl,ad⟩:=C.glb;have FSe:=hY (fun V (A:Ext w V)=>ag.keep (C.low (CM.FZ A)));have a0:=hY (fun V (A:Ext w V)=>ad.keep (C.low (CM.FZ A)));have bb:fs.length<=1048576:=ag.small;have ba:gs.length<=1048576:=ad.small;have EN:=hY C;have CC:=hY hC;have PW:Hid (p<w.heap.size/\∀k∈F,k<w.heap.size):=hY ⟨C.pw,fun k U=>(C.Fb k U).2.1⟩;clear ag ad;have B2:Hid (its.length<=bq/\s.FU.length<=bq):=hY ⟨by have:=hB.its;omega,by have:=hB.lit;omega⟩;have bc:c.length<=999999999:=by have:=hB.dep;unfold bq at this;omega
 have XN:Hid (x.name.length<=ao):=hY hP.name;clear hP C hC hB;generalize x.kind=kx at*;generalize x.name=f at*;generalize x.FP.length=n1 at*;generalize x.FQ.length=n2 at*;generalize x.FN.length=n3 at*;generalize x.FY=pr at*;generalize x.FR=pl at*;go_enter Tryz.func164,Tryz.ntmps164;go_upto_region 1 with fail;generalize ay:w.alloc _=Y at*;clear ay;go_upto_region 18 with fail;have E2:Hid (Ext Y (Y.alloc (.cells #[.i 12,.i 11,.i 13] 269))):=(Ext.refl Y).alloc _;have OB:=hY (aq Y (.cells #[.i 12,.i 11,.i 13] 269) _ rfl);have BK:=hY (E2.o.keep NB.o);generalize ax:Y.alloc _=L at*;clear ax;have m:Hid (Ext w L):=hY (EX.o.trans E2.o);have OZ:Hid (w.heap.size<Y.heap.size/\Y.heap.size<L.heap.size):=hY ⟨BZ.o,ab OB.o⟩;generalize Y.heap.size=O at*;have a5:=hY (CC.o.ext m.o);have be:=hY (EN.o.ext m.o);obtain⟨av,lv,wv,xs,F1,A⟩:=a5.o;have ak:=A.chain.keep (ok':=fun b=>b<L.heap.size) (fun _ _=>rfl) (fun k U=>U.2.1) (fun _ _=>rfl);have PB:=hY A.blk;obtain⟨rfl,_⟩:=A.head;have CH:=hY ak;clear A ak G D;obtain⟨G,D⟩:=blk BK.o;obtain⟨K,Z⟩:=blk PB.o;go_upto_region 20 with fail;clear G D K Z
 go_loopw [7,8] (fun ar rp wr=>Ext L wr/\∃(k:Nat) (Q:List RgS) (F':List Nat),ar=.i k/\dX L base (fun b=>b<L.heap.size) Q rp F'/\k+Q.length=c.length+1/\aF f (N::rgs c)=(aF f (rgs Q)).map (fun x=>(x.1+k,x.2))) (fun _ rp _=>pM L rp)
 case atStart=>exact⟨Ext.refl _,0,_,_,rfl,CH.o,by simp,by simp[rgs]⟩
 case round=>
  obtain⟨C,k,Q,F',rfl,hC,U,hW⟩:=hrel;have E:=hY C;have WQ:=hY hW;have a9:k<=1000000000:=by omega
  have HK:=hY U;clear C hW U;obtain⟨G,D⟩:=blk (E.o.keep BK.o);have bd:=hY (fun(l:List BL) (V:World) (a:Option Addr) (cp:Nat) (tp:Nat) (hs:bT V tp a cp l)=>gV V tp cp a l hs f);cases Q with
  |nil=>
   obtain⟨rfl,_⟩:=hC;have WN:Hid (aF f (N::rgs c)=none):=hY (by rw[WQ.o];rfl);have R:=hY (fun V (A:Ext wr V)=>gV V _ fc fa fs (FSe.o V ((m.o.trans E.o).trans A)) f);have CT:=hY (fun V (A:Ext wr V)=>eW V _ gc ga gs (a0.o V ((m.o.trans E.o).trans A)) f);have am:=hY (E.o.keep PB.o);obtain⟨K,Z⟩:=blk am.o;clear WQ;go_upto_region 28 with fail;cases u:cA f fs with
   |some i=>
    rw[kN u] at R;have aw:=gW u;have q:Hid (jV fs gs f pl true (N::rgs c) s=(s.or (decide (255<i)),[.ins 11 i 0 0])):=hY (by unfold jV;rw[WN.o,u];rfl);clear u;go_quiet ((go_at_call 155;exact Calls.quiet_of_same (R.o _ ((Ext.refl _).drewN _))));have g:Hid (Ext L (wr.drewN nq)):=hY (E.o.trans ((Ext.refl _).drewN _));generalize z:wr.drewN nq=V at*;clear z G D K Z;have M:=hY (aa.refl (CC.o.ext (m.o.trans g.o)));have OV:=hY (g.o.keep OB.o);have ai:Hid (∀(v:Bool),(V.setCell ⟨p,6,none⟩ (.bool v)).heap[O]?=some (.cells #[.i 12,.i 11,.i 13] 269)):=hY (fun v=>(ae V ⟨p,6,none⟩ (.bool v)).keep OV.o (by simp only[aS,aT,or_false];have:=OZ.o;have:=PW.o.1;omega));have PV:=hY (g.o.keep PB.o);obtain⟨K,Z⟩:=blk PV.o
    have au:s.many=true\/(s.many=false/\255<i)\/(s.many=false/\¬255<i):=by
     cases s.many with
     |true=>exact .inl rfl
     |false=>by_cases h:255<i;exact .inr (.inl ⟨rfl,h⟩);exact .inr (.inr ⟨rfl,h⟩)
    rcases au with t|⟨t,W⟩|⟨t,W⟩
    ·have SM:=hY (M.o.many (decide (255<i)) true (by rw[t];rfl))
     obtain⟨o1,o2⟩:=blk (ai.o true);rw[t] at K;clear t;go_upto_region 31 with fail;generalize H:V.setCell _ _=V5 at*;clear H;go_wp2_with (first|(go_at_call 124;refine(bh SM.o B2.o.1 _ _ _ _).m fun w3 y=>?_));(first|refine QzE rfl rfl ?_|refine QzR rfl rfl ?_);exact ⟨rfl,by rw[B.o,q.o];exact aa.FZ (m.o.trans g.o) y.o⟩
    ·have SM:=hY (M.o.many (decide (255<i)) true (by rw[t,decide_eq_true W];rfl))
     obtain⟨o1,o2⟩:=blk (ai.o true);rw[t] at K;have az:(255:Int)<(i:Int):=by omega
     clear t W;go_upto_region 31 with fail;generalize H:V.setCell _ _=V5 at*;clear H;go_wp2_with (first|(go_at_call 124;refine(bh SM.o B2.o.1 _ _ _ _).m fun w3 y=>?_));(first|refine QzE rfl rfl ?_|refine QzR rfl rfl ?_);exact ⟨rfl,by rw[B.o,q.o];exact aa.FZ (m.o.trans g.o) y.o⟩
    ·have SM:=hY (M.o.many (decide (255<i)) false (by rw[t,decide_eq_false W];rfl))
     obtain⟨o1,o2⟩:=blk (ai.o false);rw[t] at K;have az:¬(255:Int)<(i:Int):=by omega
     clear t W;go_upto_region 31 with fail;generalize H:V.setCell _ _=V5 at*;clear H;go_wp2_with (first|(go_at_call 124;refine(bh SM.o B2.o.1 _ _ _ _).m fun w3 y=>?_));(first|refine QzE rfl rfl ?_|refine QzR rfl rfl ?_);exact ⟨rfl,by rw[B.o,q.o];exact aa.FZ (m.o.trans g.o) y.o⟩
   |none=>
    rw[kO u] at R;have J:Hid (jV fs gs f pl true (N::rgs c) s=if gs.contains f then((s.lit (.mk 4 f [])).1,[.ins 13 (s.lit (.mk 4 f [])).2 0 0]) else(s.fail pl 130,[])):=hY (by unfold jV;rw[WN.o,u];rfl);clear u;go_quiet ((go_at_call 155;exact Calls.quiet_of_same (R.o _ ((Ext.refl _).drewN _))));go_upto_region 32 with fail;have S:Hid (Ext wr (wr.drewN nq)):=hY ((Ext.refl _).drewN _);generalize z:wr.drewN nq=V0 at*;clear z G D K Z;obtain⟨G,D⟩:=blk (S.o.keep (E.o.keep BK.o));obtain⟨K,Z⟩:=blk (S.o.keep am.o);obtain⟨b,hb⟩:∃b,b=gs.contains f:=⟨_,rfl⟩;rw[←hb] at CT J;clear hb;have a4:=hY (fun n=>CT.o (V0.drewN n) (S.o.trans ((Ext.refl V0).drewN n)));go_quiet ((go_at_call 109;with_reducible exact Calls.quiet_of_same (v:=.bool b) (a4.o _)));have g:Hid (Ext L (V0.drewN nq)):=hY ((E.o.trans S.o).trans ((Ext.refl _).drewN _));generalize z:V0.drewN nq=V at*;clear z G D K Z;have M:=hY (aa.refl (CC.o.ext (m.o.trans g.o)));have OV:=hY (g.o.keep OB.o);have BV:=hY (g.o.keep BK.o);cases b with
    |false=>
     rw[if_neg (by decide)] at J;have q:=hY J.o;obtain⟨G,D⟩:=blk BV.o;go_wp2_with (first|(go_at_call 58;refine(jH M.o _ _).m fun w3 y=>?_));(first|refine QzE rfl rfl ?_|refine QzR rfl rfl ?_);exact ⟨rfl,by rw[B.o,q.o,kn];exact aa.FZ (m.o.trans g.o) y.o⟩
    |true=>
     rw[if_pos rfl] at J;have q:=hY J.o
     have KS:=hY (fun(X:World) s' I (h:aa base p V (.slice fa fs.length fc) (.slice ga gs.length gc) F s' I X)=>And.intro (fun i=>by
      have hb:=h.box BV.o (by have:=PW.o.1;omega) (fun t=>by have:=PW.o.2 _ t;omega);have:=(blk hb).1 i;simpa using this) (fun i=>by
      have hb:=h.box OV.o (by have:=OZ.o;have:=PW.o.1;omega) (fun t=>by have:=PW.o.2 _ t;have:=OZ.o;omega);have:=(blk hb).1 i
      simpa using this):∀(X:World) (s':GS) (I:List RgS),aa base p V (.slice fa fs.length fc) (.slice ga gs.length gc) F s' I X->(∀i,X.cell? ⟨w.heap.size,i,none⟩=(aB kx f n1 n2 n3 pr pl a1 c1 a2 c2 a3 c3)[i]?)/\(∀i,X.cell? ⟨O,i,none⟩=([.i 12,.i 11,.i 13]:List Value)[i]?))
     have SD:=hY (KS.o _ _ _ (M.o.ext ((Ext.refl V).drew)));have KE:=hY (fun(X:World) s' I o (h:aa base p V (.slice fa fs.length fc) (.slice ga gs.length gc) F s' I X)=>KS.o (X.alloc o) _ _ (h.ext ((Ext.refl X).alloc o)));go_upto_region 33 with fail
     go_region_held3 (fun X=>(∀i,X.cell? ⟨w.heap.size,i,none⟩=(aB kx f n1 n2 n3 pr pl a1 c1 a2 c2 a3 c3)[i]?)/\(∀i,X.cell? ⟨O,i,none⟩=([.i 12,.i 11,.i 13]:List Value)[i]?))
      (with_reducible (first|exact SD.o|exact KS.o _ _ _ ah.o|exact KS.o _ _ _ P.o|exact KE.o _ _ _ _ P.o))
      (first|(go_at_call 166;refine(iX (M.o.ext ((Ext.refl V).drew)) B2.o.2 4 f XN.o).m fun w5 P=>?_)|(go_at_call 124;refine(bh P B2.o.1 _ _ _ _).m fun w6 ah=>?_))
     have S6:=hY ah;clear P ah;go_wp2_with fail
     (first|refine QzE rfl rfl ?_|refine QzR rfl rfl ?_);exact ⟨rfl,by rw[B.o,q.o];exact aa.FZ (m.o.trans g.o) S6.o⟩
  |cons hd Q=>
   have DD:=hY (fG hC);obtain⟨r',j,a6⟩:=hd;obtain⟨rfl,o,nv,it,ys,F2,h1,W,h3,_,_,h6⟩:=hC;have D2:=hY (fG h6);have ap:=hY (E.o.keep W);obtain⟨r1,r2⟩:=blk ap.o;obtain⟨a,cp,rfl,hs⟩:=h3.strs (fun k h=>h);have R:=hY (fun V (A:Ext wr V)=>gV V _ cp a j.1 (hs.keep (fun k U=>(E.o.trans A).block U)) f);have H6:=hY h6;have WS:Hid (aF f (N::rgs c)=match cA f j.1 with|some i=>some (k,i,decide (i<j.2))|none=>(aF f (rgs Q)).map fun x=>(x.1+(k+1),x.2)):=hY (by rw[WQ.o];exact ox f j (rgs Q) k);have a8:j.1.length<=1048576:=hs.small;have ac:=fun i (u:cA f j.1=some i)=>gW u;clear h1 W h3 h6 hs WQ;generalize j.1.length=a7 at*;cases u:cA f j.1 with
   |none=>
    rw[u] at WS;rw[kO u] at R;clear u ac;go_upto_region 22 with fail;go_quiet ((go_at_call 155;exact Calls.quiet_of_same (R.o _ ((Ext.refl _).drewN _))));go_wp2_with fail;go_roundw
    case rel=>exact⟨E.o.trans ((Ext.refl _).drewN _),k+1,Q,F2,by go_num,H6.o,by have:=HK.o;simp only[gi] at this;omega,WS.o⟩
    case measure=>rw[DD.o,D2.o];simp
   |some i=>
    rw[u] at WS;rw[kN u] at R;have aw:=ac i u;clear u ac;go_upto_region 22 with fail;go_quiet ((go_at_call 155;exact Calls.quiet_of_same (R.o _ ((Ext.refl _).drewN _))));have g:Hid (Ext L (wr.drewN nq)):=hY (E.o.trans ((Ext.refl _).drewN _));have RV:=hY ((Ext.refl wr).drewN nq |>.keep ap.o);generalize z:wr.drewN nq=V at*;clear z r1 r2 G D;have M:=hY (aa.refl (CC.o.ext (m.o.trans g.o)));have OV:=hY (g.o.keep OB.o);have BV:=hY (g.o.keep BK.o);obtain⟨r1,r2⟩:=blk RV.o;obtain⟨G,D⟩:=blk BV.o;obtain⟨o1,o2⟩:=blk OV.o;by_cases hia:i<j.2
    ·have q:Hid (jV fs gs f pl true (N::rgs c) s=(s.fail pl 133,[.ins 12 k i 0])):=hY (by unfold jV;rw[WS.o];simp[hia])
     have aj:(i:Int)<(j.2:Int):=by omega
     clear hia;go_wp2_with (first|(go_at_call 58;refine(jH M.o _ _).m fun w3 y=>?_;obtain⟨o3,o4⟩:=blk (y.o.box OV.o (by have:=OZ.o;have:=PW.o.1;omega) (fun t=>by have:=PW.o.2 _ t;have:=OZ.o;omega)))|(go_at_call 124;refine(bh y.o B2.o.1 _ _ _ _).m fun w4 S4=>?_));(first|refine QzE rfl rfl ?_|refine QzR rfl rfl ?_);exact ⟨rfl,by rw[B.o,q.o];exact aa.FZ (m.o.trans g.o) S4.o⟩
    ·have q:Hid (jV fs gs f pl true (N::rgs c) s=(s,[.ins 12 k i 0])):=hY (by unfold jV;rw[WS.o];simp[hia])
     have aj:¬(i:Int)<(j.2:Int):=by omega
     clear hia;go_wp2_with (first|(go_at_call 124;refine(bh M.o B2.o.1 _ _ _ _).m fun w3 y=>?_));(first|refine QzE rfl rfl ?_|refine QzR rfl rfl ?_);exact ⟨rfl,by rw[B.o,q.o];exact aa.FZ (m.o.trans g.o) y.o⟩
theorem nA (fs gs:List BL)(x:T)(set:Bool):Cn fs gs x set:=by
 cases set with
 |true=>exact rt fs gs x
 |false=>
  by_cases h:bn x.name=0/\x.name≠bm
  ·exact ru fs gs x h
  ·exact oz fs gs x (by
    by_cases h1:bn x.name=0
    ·by_cases h2:x.name=bm
     ·exact .inr h2
     ·exact absurd ⟨h1,h2⟩ h
    ·exact .inl h1)
end
section
variable {P:Program} {K:TypeId} {b:Nat}
abbrev iA:=List (BL×Value)
def lB:iA->BL->Option Value
 |[],_=>none
 |p::r,k=>if p.1=k then some p.2 else lB r k
def qg:iA->BL->Nat->Option (Nat×Value)
 |[],_,_=>none
 |p::r,k,i=>if p.1=k then some (i,p.2) else qg r k (i+1)
def lA (a:List MapEntry):List (Value×Value):=a.map fun e=>(e.key,e.val)
def oO (l:iA):List (Value×Value):=l.map fun p=>(.string (mkS p.1),p.2)
def cW (w:World)(b:Nat)(l:iA):Prop:=∃c a,w.heap[b]?=some (.map c a)/\lA c.toList=oO l
theorem qD (l:iA)(k:BL)(i:Nat):lB l k=(qg l k i).map (·.2):=by
 induction l generalizing i with
 |nil=>rfl
 |cons p r ih=>simp only[lB,qg];split<;>simp[ih (i+1)]
theorem A8 (a b:BL):(mkS a==mkS b)=decide (a=b):=by
 have h:(mkS a==mkS b)=((mkS a).data==(mkS b).data):=rfl;rw[h,rW,beq_iff_eq,decide_eq_true_eq];exact⟨fun h=>by have:=congrArg Array.toList h;simpa [mkS] using this,fun h=>by rw[h]⟩
theorem tZ (k:BL):∀(a:List MapEntry) (l:iA) (i:Nat),lA a=oO l->Instr.findNow .string (.string (mkS k)) a i=some (qg l k i):=by
 intro a
 induction a with
 |nil=>intro l i h;cases l with
  |nil=>rfl
  |cons p r=>simp[lA,oO] at h
 |cons e a ih=>
  intro l i h;cases l with
  |nil=>simp[lA,oO] at h
  |cons p r=>
   simp only[lA,oO,AC,DO,A4] at h;obtain⟨⟨g,f⟩,d⟩:=h;have b:=ih r (i+1) d;simp only[Instr.findNow,g,Instr.sameNow,qg,A8];by_cases hk:p.1=k
   ·simp[hk,f]
   ·have c:¬k=p.1:=fun h=>hk h.symm
    simp[c,hk,b]
theorem fk {w:World}{r:Nat}{b:Array MapEntry}{a:Nat}(c:w.heap[r]?=some (.map b a)):(getObj r).run P w=.ok (.map b a) w:=by
 simp[getObj,Sem.run,c]
theorem rE {w:World}{r:Nat}{c:Array MapEntry}{a:Nat}(o:Obj)(b:w.heap[r]?=some (.map c a)):(setObj r o).run P w=.ok () {w with heap:=w.heap.setIfInBounds r o}:=by
 simp[setObj,Sem.run,b]
theorem lW (w:World)(a:P.underlying K=some .string)(b:Bool)(n:Nat)(s:ByteArray):(Instr.checkKey b (n+1) K (.string s)).run P w=.ok () w:=by
 simp only[Instr.checkKey,Sem.run_bind,run_underlying a,Result.andThen_ok];rfl
theorem fB (w:World)(b:P.underlying K=some .string)(a:Bool)(s:ByteArray):(Instr.checkKey a 10000 K (.string s)).run P w=.ok () w:=lW w b a 9999 s
theorem fW (w:World)(b:P.underlying K=some .string){a:List MapEntry}{l:iA}(h:lA a=oO l)(k:BL):(Instr.findKey K (.string (mkS k)) a).run P w=.ok (qg l k 0) w:=by
 simp only[Instr.findKey,Sem.run_bind,run_underlying b,Result.andThen_ok,tZ k a l 0 h];rfl
theorem dB (w:World){T E:TypeId}(j:P.underlying T=some (.map K E))(f:P.underlying K=some .string){l:iA}(i:cW w b l)(z:Value)(g:∀w,(zeroValue E).run P w=.ok z w)(k:BL):
 (Instr.lookup T (.map (some b)) (.string (mkS k)) true).run P w=.ok (.tuple #[(lB l k).getD z,.bool (lB l k).isSome]) w:=by
 obtain⟨n,c,e,h⟩:=i;rw[qD l k 0];have d:=fun m=>fB (P:=P) w f m (mkS k);have a:=fW (P:=P) w f h k;simp only[Instr.lookup,Sem.run_bind,run_underlying j,Result.andThen_ok];cases ha:qg l k 0 with
 |none=>rw[ha] at a;simp[fk e,d,a,g]
 |some p=>rw[ha] at a;simp[fk e,d,a]
theorem oP (w:World){T E:TypeId}(j:P.underlying T=some (.map K E))(f:P.underlying K=some .string){l:iA}(i:cW w b l)(z:Value)(g:∀w,(zeroValue E).run P w=.ok z w)(k:BL):
 (Instr.lookup T (.map (some b)) (.string (mkS k)) false).run P w=.ok ((lB l k).getD z) w:=by
 obtain⟨n,c,e,h⟩:=i;rw[qD l k 0];have d:=fun m=>fB (P:=P) w f m (mkS k);have a:=fW (P:=P) w f h k;simp only[Instr.lookup,Sem.run_bind,run_underlying j,Result.andThen_ok];cases ha:qg l k 0 with
 |none=>rw[ha] at a;simp[fk e,d,a,g]
 |some p=>rw[ha] at a;simp[fk e,d,a]
theorem wW {l:iA}{k:BL}{i:Nat}(h:∀p∈l,p.1≠k):qg l k i=none:=by
 induction l generalizing i with
 |nil=>rfl
 |cons p r ih=>rw[qg,if_neg (h p (by simp)),ih (fun q a=>h q (by simp[a]))]
theorem bU (w:World){T E:TypeId}(q:P.underlying T=some (.map K E))(j:P.underlying K=some .string){l:iA}(m:cW w b l)(k:BL)(v:Value)(e:∀p∈l,p.1≠k):
 ∃w',(Instr.mapUpdate T (.map (some b)) (.string (mkS k)) v).run P w=.ok () w'/\cW w' b (l++[(k,v)])/\Mod [b] w w':=by
 obtain⟨r,a,g,d⟩:=m;have f:=ab g;have n:=fun s=>fB (P:=P) w j s (mkS k);have h:=fW (P:=P) w j d k
 have c:∀o,Mod [b] w {w with heap:=w.heap.setIfInBounds b o}:=fun o=>⟨rfl,rfl,rfl,by simp,fun i t e=>by
  show(w.heap.setIfInBounds b o)[i]?=_
  rw[Array.getElem?_setIfInBounds_ne (by simpa [eq_comm] using e)]⟩
 rw[wW e] at h;refine⟨_,by simp[Instr.mapUpdate,run_underlying q,fk g,n,h,rE _ g];rfl,?_,c _⟩;refine⟨r.push ⟨.string (mkS k),v,a⟩,a+1,by simp[f],?_⟩;simp only[lA,oO,Array.toList_push,An] at d ⊢;rw[d];rfl
theorem cW.keep {a w:World}{l:iA}(h:cW a b l)(d:Ext a w):cW w b l:=by
 obtain⟨f,c,e,r⟩:=h;exact⟨f,c,d.keep e,r⟩
theorem cW.new (w:World):cW (w.alloc (.map #[] 0)) w.heap.size []:=⟨#[],0,aq _ _ _ rfl,rfl⟩
end
def tv (w w':World)(g:Nat):Prop:=w.heap.size<=g/\g<w'.heap.size
def iL (x:T)(w:World)(e:Ending)(w':World):Prop:=∃a c,e=.returned (.agg #[.i (aH x).kind,.string (mkS (aH x).text),.slice a (aH x).list.length c])/\dt w' (tv w w') (aH x) [.i (aH x).kind,.string (mkS (aH x).text),.slice a (aH x).list.length c]/\Ext w w'
def lQ (x:T):Prop:=∀(w:World) (top:Nat) a1 c1 a2 c2 a3 c3,top<=w.heap.size->fJ w->bK w top x a1 c1 a2 c2 a3 c3->Calls Tryz.prog 167 #[.agg (af x.kind x.name x.FP.length x.FQ.length x.FN.length x.FY x.FR a1 c1 a2 c2 a3 c3)] w (iL x w)
theorem sg (k:Int)(n:BL)(b a:List BL)(l:List T)(p pl:Int)(c:k=9\/k=10\/k=11):aH (.mk k n b a l p pl)=.mk (k-8) n []:=by
 rw[aH];rcases c with rfl|rfl|rfl<;>simp
theorem rN {w:World}{ok:Nat->Prop}{k:Int}{t:BL}(a:t.length<=ao):dt w ok (.mk k t []) [.i k,.string (mkS t),.slice none 0 0]:=by
 rw[dt];exact⟨none,0,rfl,gE _,oS _,fun _=>rfl,oS _,a,fun h=>absurd rfl h⟩
theorem kj (x:T)(c:x.kind=9\/x.kind=10\/x.kind=11):lQ x:=by
 intro w top q h m g j f y u d
 have b:aH x=.mk (x.kind-8) x.name []:=by
  obtain⟨k,n,s,r,l,p,pl⟩:=x;exact sg k n s r l p pl c
 have C:Hid (∀e a,e=.returned (.agg #[.i (x.kind-8),.string (mkS x.name),.slice none 0 0])->Ext w a->iL x w e a):=hY (fun e a z A=>by
  subst z;refine⟨none,0,?_,?_,A⟩
  ·rw[b];rfl
  ·rw[b];exact rN d.name)
 obtain⟨E,D⟩:=blk (aq w (.cells (af x.kind x.name x.FP.length x.FQ.length x.FN.length x.FY x.FR q h m g j f) 26) _ rfl);have B:=xal w x q h m g j f;clear b d u y;generalize x.name=t at*;generalize x.FP.length=I at*;generalize x.FQ.length=H at*;generalize x.FN.length=G at*;generalize x.FY=F at*;generalize x.FR=pl at*;generalize x.kind=k at*;rcases c with rfl|rfl|rfl
 all_goals
  go_enter Tryz.func167,Tryz.ntmps167;go_wp2_with fail;refine bodyPost_ret (v:=.agg #[.i _,.string (mkS t),.slice none 0 0]) (by simp[results,Tryz.results167,go_sem]) rfl (C.o _ _ rfl (B.o.trans ((Ext.refl _).alloc _)))
def vy:iA:=[([110,105,108],.i 7),([116,114,117,101],.i 8),([102,97,108,115,101],.i 9)]
theorem Bs (n:BL):(lB vy n).getD (.i 0)=.i (if n=[110,105,108] then 7 else if n=[116,114,117,101] then 8 else if n=[102,97,108,115,101] then 9 else 0):=by
 by_cases h1:n=[110,105,108]
 ·subst h1;rfl
 ·by_cases h2:n=[116,114,117,101]
  ·subst h2;rfl
  ·by_cases h3:n=[102,97,108,115,101]
   ·subst h3;rfl
   ·rw[if_neg h1,if_neg h2,if_neg h3]
    simp only[vy,lB];rw[if_neg (fun e=>h1 e.symm),if_neg (fun e=>h2 e.symm),if_neg (fun e=>h3 e.symm)];rfl
theorem zF (n:BL)(b a:List BL)(l:List T)(p pl:Int):aH (.mk 8 n b a l p pl)=.mk (if n=[110,105,108] then 7 else if n=[116,114,117,101] then 8 else if n=[102,97,108,115,101] then 9 else 0) [] []:=by
 rw[aH];simp
theorem sf (x:T)(b:x.kind=8):lQ x:=by
 intro w top s m r j q h ht hv hP
 have B:aH x=.mk (if x.name=[110,105,108] then 7 else if x.name=[116,114,117,101] then 8 else if x.name=[102,97,108,115,101] then 9 else 0) [] []:=by
  obtain⟨k,n,ns,ts,l,p,pl⟩:=x;obtain rfl:k=8:=b;exact zF n ns ts l p pl
 have CP:Hid (∀e z,e=.returned (.agg #[.i (if x.name=[110,105,108] then 7 else if x.name=[116,114,117,101] then 8 else if x.name=[102,97,108,115,101] then 9 else 0),.string (mkS []),.slice none 0 0])->Ext w z->iL x w e z):=hY (fun e z he c=>by
  subst he;refine⟨none,0,?_,?_,c⟩
  ·rw[B];rfl
  ·rw[B];exact rN (by decide))
 have H:=hY (aq w (.cells (af x.kind x.name x.FP.length x.FQ.length x.FN.length x.FY x.FR s m r j q h) 26) _ rfl);have EX:=xal w x s m r j q h;have BZ:Hid (w.heap.size<(w.alloc (.cells (af x.kind x.name x.FP.length x.FQ.length x.FN.length x.FY x.FR s m r j q h) 26)).heap.size):=hY (ab H.o);have G:Hid ((w.alloc (.cells (af x.kind x.name x.FP.length x.FQ.length x.FN.length x.FY x.FR s m r j q h) 26)).heap.size=w.heap.size+1):=hY (by simp);have FG:=hY (Bs x.name);clear B hP hv ht;generalize A:(if x.name=[110,105,108] then(7:Int) else if x.name=[116,114,117,101] then 8 else if x.name=[102,97,108,115,101] then 9 else 0)=N at*;clear A;generalize x.name=nm at*;generalize x.FP.length=n1 at*;generalize x.FQ.length=n2 at*;generalize x.FN.length=n3 at*;generalize x.FY=pr at*;generalize x.FR=pl at*;generalize x.kind=k at*;subst b;obtain⟨J,I⟩:=blk H.o;go_enter Tryz.func167,Tryz.ntmps167;go_upto_region 9 with fail;generalize E:w.alloc _=d at*;clear E J I;have Y:Hid (Ext d (d.alloc (.cells #[.i 0,.string {data:=#[]},.slice none 0 0] 55))):=(Ext.refl d).alloc _;have F:=hY (aq d (.cells #[.i 0,.string {data:=#[]},.slice none 0 0] 55) _ rfl);have B2:=hY (Y.o.keep H.o);have t:Hid (w.heap.size<d.heap.size/\d.heap.size<(d.alloc (.cells #[.i 0,.string {data:=#[]},.slice none 0 0] 55)).heap.size):=hY ⟨BZ.o,ab F.o⟩;generalize C:d.alloc _=a at*;clear C;have EW:Hid (Ext w a):=hY (EX.o.trans Y.o);rw[G.o] at F t;obtain⟨y,R,M,W⟩:=bU (P:=Tryz.prog) (a.alloc (.map #[] 0)) Tryz.underlying271 Tryz.underlying9 (cW.new a) [110,105,108] (.i 7) (by simp);obtain⟨u,Q,L,V⟩:=bU (P:=Tryz.prog) y Tryz.underlying271 Tryz.underlying9 M [116,114,117,101] (.i 8) (by simp);obtain⟨f,O,K,U⟩:=bU (P:=Tryz.prog) u Tryz.underlying271 Tryz.underlying9 L [102,97,108,115,101] (.i 9) (by simp);have S:∀w,(zeroValue 53).run Tryz.prog w=.ok (.i 0) w:=fun w=>by kernel_rfl
 have i7:=oP (P:=Tryz.prog) f Tryz.underlying271 Tryz.underlying9 (l:=vy) K (.i 0) S nm;rw[FG.o] at i7;have i3:=run_makeMap (P:=Tryz.prog) 271 a
 replace R:(Instr.mapUpdate 271 (.map (some a.heap.size)) (.string {data:=#[110,105,108]}) (.i 7)).run Tryz.prog (a.alloc (.map #[] 0))=.ok () y:=R
 replace Q:(Instr.mapUpdate 271 (.map (some a.heap.size)) (.string {data:=#[116,114,117,101]}) (.i 8)).run Tryz.prog y=.ok () u:=Q
 replace O:(Instr.mapUpdate 271 (.map (some a.heap.size)) (.string {data:=#[102,97,108,115,101]}) (.i 9)).run Tryz.prog u=.ok () f:=O
 have D:=hY ((W.trans V).trans U)
 have E6:Hid (Ext w f):=hY (by
  have c:Ext a (a.alloc (.map #[] 0)):=(Ext.refl a).alloc _;have g:=D.o;refine EW.o.trans ⟨g.os.trans c.os,g.tape.trans c.tape,g.output.trans c.output,aN c.size g.size,fun k b=>?_⟩;rw[g.block k (bA b c.size) (by simp;omega)]
  exact c.block b)
 have X:Hid (∀k o,a.heap[k]?=some o->f.heap[k]?=some o):=hY (fun k o b=>D.o.keep (aM b _) (by simp only[aS,aT,or_false];have:=ab b;omega));obtain⟨J,I⟩:=blk (X.o _ _ B2.o);obtain⟨Z,z2⟩:=blk (X.o _ _ F.o);have ES:Hid (Ext w (((f.setCell ⟨w.heap.size+1,0,none⟩ (.i N)).setCell ⟨w.heap.size+1,1,none⟩ (.string {data:=#[]})).setCell ⟨w.heap.size+1,2,none⟩ (.slice none 0 0))):=hY (((E6.o.setCell (FH t.o.1) _).setCell (FH t.o.1) _).setCell (FH t.o.1) _);clear S M L K W V U;go_wp2_with fail;exact bodyPost_ret (v:=.agg #[.i N,.string {data:=#[]},.slice none 0 0]) (by simp[results,Tryz.results167,go_sem,Z]) rfl (CP.o _ _ rfl ES.o)
section
variable {P:Program} {K T:TypeId} {q:IntKind} {b i:Nat} {k:Int} {w:World}
abbrev aZ:=List (Int×Value)
def im:aZ->Int->Option Value
 |[],_=>none
 |p::r,k=>if p.1=k then some p.2 else im r k
def mA:aZ->Int->Value->aZ
 |[],k,v=>[(k,v)]
 |p::r,k,v=>if p.1=k then(k,v)::r else p::mA r k v
def kC:aZ->Int->Nat->Option (Nat×Value)
 |[],_,_=>none
 |p::r,k,i=>if p.1=k then some (i,p.2) else kC r k (i+1)
def eu (a:List MapEntry):List (Value×Value):=a.map fun e=>(e.key,e.val)
def nU (a:IntKind)(l:aZ):List (Value×Value):=l.map fun p=>(.int a p.1,p.2)
def cQ (w:World)(b:Nat)(d:IntKind)(l:aZ):Prop:=
 ∃c a,w.heap[b]?=some (.map c a)/\eu c.toList=nU d l/\(∀e,e∈c.toList->e.born<a)/\(c.toList.map (·.born)).Nodup
theorem rh (l:aZ)(k:Int)(i:Nat):im l k=(kC l k i).map (·.2):=by
 induction l generalizing i with
 |nil=>rfl
 |cons p r ih=>simp only[im,kC];split<;>simp[ih (i+1)]
theorem ub (q d:IntKind)(k:Int):∀(a:List MapEntry) (l:aZ) (i:Nat),eu a=nU d l->Instr.findNow (.int q) (.int d k) a i=some (kC l k i):=by
 intro a
 induction a with
 |nil=>intro l i h;cases l with
  |nil=>rfl
  |cons p r=>simp[eu,nU] at h
 |cons e a ih=>
  intro l i h;cases l with
  |nil=>simp[eu,nU] at h
  |cons p r=>
   simp only[eu,nU,AC,DO,A4] at h;obtain⟨⟨j,g⟩,f⟩:=h;have b:=ih r (i+1) f;simp only[Instr.findNow,j,Instr.sameNow,if_true,kC];by_cases hk:p.1=k
   ·simp[hk,g]
   ·have c:(k==p.1)=false:=by simp;exact fun h=>hk h.symm
    simp[c,hk,b]
theorem lX (w:World)(b:P.underlying K=some (.int q))(a:IntKind)(c:Bool)(n:Nat)(k:Int):(Instr.checkKey c (n+1) K (.int a k)).run P w=.ok () w:=by
 simp only[Instr.checkKey,Sem.run_bind,run_underlying b,Result.andThen_ok];rfl
theorem fC (w:World)(c:P.underlying K=some (.int q))(a:IntKind)(b:Bool)(k:Int):(Instr.checkKey b 10000 K (.int a k)).run P w=.ok () w:=lX w c a b 9999 k
theorem fX (w:World)(c:P.underlying K=some (.int q)){a:IntKind}{b:List MapEntry}{l:aZ}(h:eu b=nU a l)(k:Int):(Instr.findKey K (.int a k) b).run P w=.ok (kC l k 0) w:=by
 simp only[Instr.findKey,Sem.run_bind,run_underlying c,Result.andThen_ok,ub q a k b l 0 h];rfl
theorem lj (w:World){E:TypeId}{c:IntKind}(m:P.underlying T=some (.map K E))(g:P.underlying K=some (.int q)){l:aZ}(j:cQ w b c l)(z:Value)(h:∀w,(zeroValue E).run P w=.ok z w)(k:Int):
 (Instr.lookup T (.map (some b)) (.int c k) true).run P w=.ok (.tuple #[(im l k).getD z,.bool (im l k).isSome]) w:=by
 obtain⟨o,d,f,i,_,_⟩:=j;rw[rh l k 0];have e:=fun n=>fC (P:=P) w g c n k;have a:=fX (P:=P) w g i k;simp only[Instr.lookup,Sem.run_bind,run_underlying m,Result.andThen_ok];cases ha:kC l k 0 with
 |none=>rw[ha] at a;simp[fk f,e,a,h]
 |some p=>rw[ha] at a;simp[fk f,e,a]
theorem dw (w:World){E:TypeId}{c:IntKind}(m:P.underlying T=some (.map K E))(g:P.underlying K=some (.int q)){l:aZ}(j:cQ w b c l)(z:Value)(h:∀w,(zeroValue E).run P w=.ok z w)(k:Int):
 (Instr.lookup T (.map (some b)) (.int c k) false).run P w=.ok ((im l k).getD z) w:=by
 obtain⟨o,d,f,i,_,_⟩:=j;rw[rh l k 0];have e:=fun n=>fC (P:=P) w g c n k;have a:=fX (P:=P) w g i k;simp only[Instr.lookup,Sem.run_bind,run_underlying m,Result.andThen_ok];cases ha:kC l k 0 with
 |none=>rw[ha] at a;simp[fk f,e,a,h]
 |some p=>rw[ha] at a;simp[fk f,e,a]
theorem rf {l:aZ}{j:Nat}{v:Value}(h:kC l k i=some (j,v)):i<=j/\∃c:j-i<l.length,l[j-i].1=k:=by
 induction l generalizing i with
 |nil=>simp[kC] at h
 |cons p r ih=>
  simp only[kC] at h
  split at h
  ·rename_i hp
   simp only[dO,A4] at h;obtain⟨rfl,_⟩:=h;exact⟨gE _,by simp,by simpa using hp⟩
  ·obtain⟨f,d,a⟩:=ih h
   refine⟨by omega,by simp;omega,?_⟩;obtain⟨m,b⟩:∃m,j-i=m+1:=⟨j-(i+1),by omega⟩;have e:j-(i+1)=m:=by omega
   simp only[b,List.getElem_cons_succ];simp only[e] at a;exact a
theorem yp {l:aZ}(v:Value)(h:kC l k i=none):mA l k v=l++[(k,v)]:=by
 induction l generalizing i with
 |nil=>rfl
 |cons p r ih=>
  simp only[kC] at h
  split at h
  ·cases h
  ·rename_i hp;simp[mA,hp,ih h]
theorem yn {l:aZ}{j:Nat}{u:Value}(v:Value)(h:kC l k i=some (j,u)):mA l k v=l.set (j-i) (k,v):=by
 induction l generalizing i with
 |nil=>simp[kC] at h
 |cons p r ih=>
  simp only[kC] at h
  split at h
  ·rename_i hp
   simp only[dO,A4] at h;obtain⟨rfl,_⟩:=h;simp[mA,hp]
  ·rename_i hp
   have b:=(rf h).1;obtain⟨m,a⟩:∃m,j-i=m+1:=⟨j-(i+1),by omega⟩;have e:j-(i+1)=m:=by omega
   rw[a,oF,mA,if_neg hp,ih h,e]
theorem di (w:World){E:TypeId}{c:IntKind}(N:P.underlying T=some (.map K E))(O:P.underlying K=some (.int q)){l:aZ}(U:cQ w b c l)(k:Int)(v:Value):
 ∃w',(Instr.mapUpdate T (.map (some b)) (.int c k) v).run P w=.ok () w'/\cQ w' b c (mA l k v)/\Mod [b] w w':=by
 obtain⟨d,a,B,n,m,hnd⟩:=U;have r:=ab B;have M:=fun W=>fC (P:=P) w O c W k;have D:=fX (P:=P) w O n k;have A:d.toList.length=l.length:=by have:=congrArg List.length n;simpa [eu,nU] using this
 have g:∀o,Mod [b] w {w with heap:=w.heap.setIfInBounds b o}:=fun o=>⟨rfl,rfl,rfl,by simp,fun i C S=>by
  show(w.heap.setIfInBounds b o)[i]?=_
  rw[Array.getElem?_setIfInBounds_ne (by simpa [eq_comm] using S)]⟩
 cases ha:kC l k 0 with
 |none=>
  rw[ha] at D;refine⟨_,by simp[Instr.mapUpdate,run_underlying N,fk B,M,D,rE _ B];rfl,?_,g _⟩;refine⟨d.push ⟨.int c k,v,a⟩,a+1,by simp[r],?_,?_,?_⟩
  ·rw[yp v ha]
   simp only[eu,nU,Array.toList_push,An] at n ⊢;rw[n];rfl
  ·intro e f
   simp only[Array.toList_push,iF,AS] at f;rcases f with f|rfl
   ·have:=m e f;omega
   ·simp
  ·simp only[Array.toList_push,An,AC,FJ]
   rw[nr];refine⟨hnd,by simp,?_⟩;intro x J y R;simp only[BP,AS] at J R;obtain⟨e,f,rfl⟩:=J;have:=m e f;omega
 |some p=>
  obtain⟨j,u⟩:=p;rw[ha] at D;obtain⟨_,G,L⟩:=rf ha;simp only[Nat.sub_zero] at G L;have t:j<d.size:=by rw[←Array.length_toList,A];exact G
  have s:d[j].key=.int c k:=by
   have:=congrArg (fun z=>z[j]?) n;simp[eu,nU,t,G] at this;rw[this.1,L]
  have F:(Instr.keyThatStays (((d[j]?).map (·.key)).getD (.int c k)) (.int c k)).run P w=.ok (.int c k) w:=by
   have:((d[j]?).map (·.key)).getD (.int c k)=.int c k:=by simp[t,s]
   rw[this];simp[Instr.keyThatStays,Instr.sameBits]
  have h:(d.modify j fun e=>{e with key:=.int c k,val:=v}).toList=d.toList.modify j fun e=>{e with key:=.int c k,val:=v}:=Array.toList_modify;refine⟨{w with heap:=w.heap.setIfInBounds b (.map (d.modify j fun e=>{e with key:=.int c k,val:=v}) a)},by simp only[Instr.mapUpdate,Sem.run_bind,run_underlying N,Result.andThen_ok,fk B,M,D,F,rE _ B],?_,g _⟩;refine⟨_,a,by simp[r];rfl,?_,?_,?_⟩
  ·rw[yn v ha,Nat.sub_zero,h]
   apply List.ext_getElem
   ·simp[eu,nU,A]
   ·intro i Q V
    have C:i<d.toList.length:=by simpa [eu] using Q
    have H:i<l.length:=by omega
    have:=congrArg (fun z=>z[i]?) n;simp only[eu,nU,oN,iD C,iD H,Ac,dO] at this;simp only[eu,nU,List.getElem_map,List.getElem_modify,List.getElem_set];by_cases hij:j=i
    ·simp[hij]
    ·simp only[if_neg hij];exact this
  ·intro e f
   rw[h] at f;obtain⟨i,C,rfl⟩:=Ft f;rw[List.getElem_modify];have I:i<d.toList.length:=by simpa using C
   have:=m _ (List.getElem_mem I)
   split<;>simpa using this
  ·rw[h]
   have:(d.toList.modify j fun e=>{e with key:=.int c k,val:=v}).map (·.born)=d.toList.map (·.born):=by
    apply List.ext_getElem
    ·simp
    ·intro i Q V
     simp only[List.getElem_map,List.getElem_modify]
     split<;>rfl
   rw[this];exact hnd
theorem cQ.keep {a:World}{d:IntKind}{l:aZ}(h:cQ a b d l)(e:Ext a w):cQ w b d l:=by
 obtain⟨g,c,f,r⟩:=h;exact⟨g,c,e.keep f,r⟩
theorem cQ.mod {S:List Nat}{a:World}{d:IntKind}{l:aZ}(h:cQ a b d l)(e:Mod S a w)(f:¬b∈S):cQ w b d l:=by
 obtain⟨i,c,g,r⟩:=h;exact⟨i,c,e.keep g f,r⟩
theorem cQ.new (w:World)(n:Nat)(b:n=w.heap.size)(a:IntKind):cQ (w.alloc (.map #[] 0)) n a []:=⟨#[],0,aq _ _ _ b,rfl,by simp,by simp⟩
theorem cQ.lt {a:IntKind}{l:aZ}(h:cQ w b a l):b<w.heap.size:=by obtain⟨e,c,d,_⟩:=h;exact ab d
theorem cQ.ne_cells {g:Nat}{a:IntKind}{l:aZ}{i:Array Value}{f:Nat×Nat}(h:cQ w b a l)(d:w.heap[g]?=some (.cells i T f)):g≠b:=by
 obtain⟨j,c,e,_⟩:=h;exact ie d e (by simp)
theorem kS (l:aZ)(k g:Int)(v:Value):im (mA l k v) g=if g=k then some v else im l g:=by
 induction l with
 |nil=>
  simp only[mA,im];by_cases h:k=g
  ·rw[if_pos h,if_pos h.symm]
  ·rw[if_neg h,if_neg (fun e=>h e.symm)]
 |cons p r ih=>
  by_cases hp:p.1=k
  ·simp only[mA,if_pos hp,im]
   by_cases h:k=g
   ·rw[if_pos h,if_pos h.symm]
   ·rw[if_neg h,if_neg (fun e=>h e.symm),if_neg (fun e=>h (hp.symm.trans e))]
  ·simp only[mA,if_neg hp,im,ih]
   by_cases h:p.1=g
   ·rw[if_pos h,if_pos h,if_neg (fun e=>hp (h.trans e))]
   ·rw[if_neg h,if_neg h]
def fK (its:List It)(i:Nat)(f:Nat->Int)(l:aZ):Prop:=∀j g,j<i->its[j]?=some (.lab g)->im l (g:Int)=some (.i (f j))
theorem fK.zero (its:List It)(f:Nat->Int)(l:aZ):fK its 0 f l:=fun j g h=>absurd h (Nat.not_lt_zero j)
theorem fK.lab {its:List It}{f:Nat->Int}{l:aZ}(h:fK its i f l)(c:(az its).Nodup){g:Nat}(b:its[i]?=some (.lab g)):fK its (i+1) f (mA l (g:Int) (.i (f i))):=by
 intro j k d a;rw[kS];by_cases hij:j=i
 ·subst hij
  rw[b] at a;cases a;simp
 ·rw[if_neg]
  ·exact h j k (by omega) a
  ·intro e
   have:k=g:=by omega
   subst this;exact hij (tK c a b)
theorem fK.skip {its:List It}{f:Nat->Int}{l:aZ}(h:fK its i f l)(b:∀g,its[i]?≠some (.lab g)):fK its (i+1) f l:=by
 intro j k c a;by_cases hij:j=i
 ·subst hij;exact absurd a (b k)
 ·exact h j k (by omega) a
end
end Go.Proofs.Eff
