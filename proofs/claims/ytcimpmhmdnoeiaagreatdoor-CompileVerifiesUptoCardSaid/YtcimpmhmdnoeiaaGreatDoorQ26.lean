import Derived.Test.YtcimpmhmdnoeiaaGreatDoorQ21
set_option maxRecDepth 100000
set_option maxHeartbeats 40000000
set_option linter.all false
namespace Go.Proofs.Eff
open Go.RowKit
section
variable {w:World} {b:Nat}
theorem zu (a b c:Option Addr):(∀w,(Instr.index 226 (.agg #[.pointer a,.pointer b,.pointer c]) (.i 0)).run Tryz.prog w=.ok (.pointer a) w)/\(∀w,(Instr.index 226 (.agg #[.pointer a,.pointer b,.pointer c]) (.i 1)).run Tryz.prog w=.ok (.pointer b) w)/\∀w,(Instr.index 226 (.agg #[.pointer a,.pointer b,.pointer c]) (.i 2)).run Tryz.prog w=.ok (.pointer c) w:=⟨fun _=>by kernel_rfl,fun _=>by kernel_rfl,fun _=>by kernel_rfl⟩
theorem yR (W:World)(B:Nat)(a b c d e:Int)(g:W.heap[B]?=some (.cells #[.i a,.i b,.i c,.i d,.i e] 91))(f:Array Value)(h:f.getD 4 undef=.pointer (some ⟨B,0,none⟩)):
 (results Tryz.f115 f).run Tryz.prog W=.ok (.tuple #[.agg #[.i a,.i b,.i c,.i d,.i e],f.getD 5 undef,f.getD 6 undef]) W:=by
 obtain⟨k,j⟩:=blk g;rw[dU rfl,h];go_simp
def iC (w:World)(g a:Nat)(bs:List Int):Prop:=∀i v,bs[i]?=some v->w.cell? ⟨g,a+i,none⟩=some (.int .u8 v)
theorem gQ {S:List Nat}{a b:World}(e:Ext w a)(c:Mod S a b)(d:∀k∈S,w.heap.size<=k):Ext w b:=(uu.of_mod c d).ext e
theorem CS {x y:Int}(f:0<=x)(h:x<=255)(d:0<=y)(g:y<=255):IntKind.i64.wrap (IntKind.i16.wrap (bits BinOp.or IntKind.u16 (IntKind.u16.wrap (IntKind.u16.wrap x*256)) (IntKind.u16.wrap y)))=sM x y:=by
 have c:∀n:Int,0<=n->n<2 ^ 16->IntKind.u16.wrap n=n:=fun n a b=>by
  simp only[IntKind.wrap,IntKind.bits,IntKind.signed];simp;omega
 rw[c x f (by omega),c (x*256) (by omega) (by omega),c y d (by omega)];rw[bits_join .u16 16 (by decide) c 8 (x*256) y (by omega) (by omega) (by omega) d (by omega) (by omega)];unfold sM
 have e:∀n:Int,IntKind.i16.wrap n=(n+32768) % 65536-32768:=fun n=>by
  simp only[IntKind.wrap,IntKind.bits,IntKind.signed];simp;omega
 rw[e,IntWalk.i64_in _ (by omega)]
 split<;>omega
def Eg (w:World)(b:Nat)(f e d c a:Int):World:=((((w.setCell ⟨b,0,none⟩ (.i f)).setCell ⟨b,1,none⟩ (.i e)).setCell ⟨b,2,none⟩ (.i d)).setCell ⟨b,3,none⟩ (.i c)).setCell ⟨b,4,none⟩ (.i a)
theorem Cp {m l k j g:Value}(f e d c a:Int)(h:w.heap[b]?=some (.cells #[m,l,k,j,g] 91)):(Eg w b f e d c a).heap[b]?=some (.cells #[.i f,.i e,.i d,.i c,.i a] 91):=be (i:=4) (be (i:=3) (be (i:=2) (be (i:=1) (be (i:=0) h _) _) _) _) _
theorem Co {a:World}(i g f e d:Int)(h:Ext w a)(c:w.heap.size<=b):Ext w (Eg a b i g f e d):=((((h.setCell c _).setCell c _).setCell c _).setCell c _).setCell c _
theorem ET {e d c a f:Value}(h:w.heap[b]?=some (.cells #[e,d,c,a,f] 91))(v:Value):Hid ((w.setCell ⟨b,4,none⟩ v).drew.heap[b]?=some (.cells #[e,d,c,a,v] 91)):=hY (be (i:=4) h v)
theorem Es {c:Nat}{o:Obj}(h:w.heap[b]?=some o)(a:b≠c)(v:Value):Hid ((w.setCell ⟨c,4,none⟩ v).drew.heap[b]?=some o):=hY (jQ h a v)
def R8 (k:Int)(y:Nat->Int)(j:Int):Nat×Int×Int×Int:=if k=0\/k=8\/j=0 then(1,0,0,0) else if k=1\/j=1 then(2,y 1,0,0) else if k=3\/j=2 then(3,y 1,y 2,0) else(4,y 1,y 2,y 3)
def X8 (k:Int)(y:Nat->Int)(op:Int):List Int:=[op,(R8 k y 3).2.1,(R8 k y 3).2.2.1,(R8 k y 3).2.2.2,if k=8 then sM (y 1) (y 2) else if k=15 then sM (y 4) (y 5) else 0]
def agL (l:List Int):Value:=.agg #[.i (l.getD 0 0),.i (l.getD 1 0),.i (l.getD 2 0),.i (l.getD 3 0),.i (l.getD 4 0)]
theorem DA (w:World)(g l n cc d:Nat)(bs:List Int)(op k:Int)(y:Nat->Int)(hg:g<w.heap.size)(F:iC w g l bs)(hn:bs.length=n)(U:n<=32767)(s:cH op=true)(hk:(opR op).2.1=k)(h0:bs[d]?=some op)(Q:d+bf op<=n)(hy:∀j,d+j<n->bs[d+j]?=some (y j)/\0<=y j/\y j<=255):
 Calls Tryz.prog 115 #[.slice (some ⟨g,l,none⟩) n cc,.i (d:Int)] w fun e w'=>Ext w w'/\e=.returned (.tuple #[agL (X8 k y op),.i ((d:Int)+(bf op:Int)),.bool true]):=by
 obtain⟨p,P⟩:=mL s;have D:0<=op/\op<=25:=by simp only[cH,gT,decide_eq_true_eq] at s;omega
 have v:=hY (fun W=>mQ W op (by omega) (by omega));rw[s] at v;obtain⟨aw,av⟩:=D;have a4:IntKind.i64.wrap op=op:=IntWalk.i64_in _ (by omega);have aj:(d:Int)<(n:Int):=by have:=(aC.1 h0).1;omega
 rw[hk] at P p;generalize hR:opR op=R at*;obtain⟨nm,B,po,pu,en⟩:=R;obtain rfl:B=k:=hk
 replace v:Hid (∀W,Calls Tryz.prog 118 #[.i op] W fun e w'=>e=.returned (.tuple #[.agg #[.string (mkS nm),.i B,.i po,.i pu,.bool en],.bool true])/\Ext W w'):=v
 have E0:Hid (Ext w (w.alloc (.cells #[.i 0,.i 0,.i 0,.i 0,.i 0] 91))):=hY ((Ext.refl w).alloc _);have B0:=hY (aq w (.cells #[.i 0,.i 0,.i 0,.i 0,.i 0] 91) _ rfl);have al:(w.alloc (.cells #[.i 0,.i 0,.i 0,.i 0,.i 0] 91)).cell? ⟨g,l+d,none⟩=some (.int .u8 op):=by rw[E0.o.cell hg];exact F d op h0
 have C:=hY (fun W=>wh W nm B po pu en p);simp only[P] at C;have LW:=hY (ab B0.o);have HS:Hid ((bf op:Int)=szK B):=hY P.symm;have HK:Hid (KOK B):=hY p;have CY:=hY (fun j h=>F (d+j) _ (hy j h).1);have RY:=hY (fun j h=>(hy j h).2);have HG:=hY hg;have h6:(bf op:Int)<=6:=by rw[←P];rcases p with rfl|rfl|rfl|rfl|rfl<;>decide
 have SZ:=hY (And.intro Q U);generalize bf op=sz at*;have a3:¬(n:Int)<(d:Int)+(sz:Int):=by omega
 have a5:(d:Int)<=32767:=by omega
 clear F h0 p s hn hg hR P Q U hy;go_enter Tryz.func115,Tryz.ntmps115;go_upto_region 1 with fail;generalize X:w.heap.size=b4 at*;have x:=hY X;clear X;generalize w.alloc _=W0 at*;go_upto_region 3 with(go_at_call 118;refine(v.o W0).m fun N E2=>?_);have E3:Hid (Ext N (N.alloc (.cells #[.string (mkS nm),.i B,.i po,.i pu,.bool en] 196))):=hY ((Ext.refl _).alloc _);have B8:=hY (aq N (.cells #[.string (mkS nm),.i B,.i po,.i pu,.bool en] 196) _ rfl);clear al;generalize N.heap.size=b8 at*;generalize N.alloc _=W3 at*;obtain⟨q1,q2⟩:=blk B8.o;clear aj;go_upto_region 5 with(go_at_call 125;refine(C.o _).m fun r E4=>?_);have I:Hid (Ext r (r.alloc (.cells #[.i op,.i 0,.i 0,.i 0,.i 0] 91))):=hY ((Ext.refl _).alloc _);have au:=hY (aq r (.cells #[.i op,.i 0,.i 0,.i 0,.i 0] 91) _ rfl);have aa:=hY (E4.o.keep B8.o);clear q1 q2;go_upto_region 6 with fail;have LB:Hid (b4<=r.heap.size):=hY (by have h1:=aN E0.o.size (aN E2.o.size (aN E3.o.size E4.o.size));have h2:=x.o;omega);have NB:Hid (b4≠r.heap.size/\b8≠r.heap.size/\g≠r.heap.size):=hY ⟨fun e=>by have h:=ab (E4.o.keep (E3.o.keep (E2.o.keep B0.o)));omega,fun e=>by have:=ab aa.o;omega,fun e=>by have:=HG.o;have:=LB.o;omega⟩;generalize r.heap.size=f at*;generalize r.alloc _=W5 at*;go_upto_region 8 with fail;obtain⟨a0,az,ay⟩:=zu (some ⟨f,1,none⟩) (some ⟨f,2,none⟩) (some ⟨f,3,none⟩);have A:=hY ((E0.o.trans E2.o).trans ((E3.o.trans E4.o).trans I.o));have ap:=hY (I.o.keep aa.o);have ar:=hY ((E2.o.trans ((E3.o.trans E4.o).trans I.o)).keep B0.o)
 have CK:Hid (∀wr,Mod [f] W5 wr->∀j,d+j<n->wr.cell? ⟨g,l+(d+j),none⟩=some (.int .u8 (y j))):=hY (fun wr hm j hj=>by
  rw[←CY.o j hj,←A.o.cell (by rw[x.o];exact HG.o)];have hb:=hm.block g (bA (by rw[x.o];exact HG.o) A.o.size) (by simpa using NB.o.2.2);unfold World.cell?;dsimp only
  rw[hb])
 go_loopw [11,44] (fun nx i wr=>∃(j:Int) (m:Nat) (a b c:Int) (q:Nat),i=.i j/\nx=.i (q:Int)/\R8 B y j=(m,a,b,c)/\q=d+m/\Mod [f] W5 wr/\wr.heap[f]?=some (.cells #[.i op,.i a,.i b,.i c,.i 0] 91)/\(j=0\/j=1\/j=2\/j=3)) (fun _ i _=>3-(intOf i).toNat)
 case atStart=>exact⟨0,1,0,0,0,d+1,rfl,rfl,by simp[R8],rfl,Mod.refl _ _,au.o,.inl rfl⟩
 case round=>
  obtain⟨j,m,a,b,c,q,rfl,rfl,hR,hq,G,E,hj⟩:=hrel;obtain⟨q1,q2⟩:=blk (G.keep ap.o (by simpa using NB.o.2.1));have J:=hY (G.keep ar.o (by simpa using NB.o.1));obtain⟨s1,s2⟩:=blk J.o;obtain⟨r1,r2⟩:=blk E;have BX:=hY E;have M:=hY G
  have FB:Hid (d+m<n->wr.cell? ⟨g,l+q,none⟩=some (.int .u8 (y m))/\(q:Int)<(n:Int)/\(q:Int)<=32767/\IntKind.i64.wrap (y m)=y m):=hY (fun h=>by
   rw[hq];have h1:=RY.o m h;have h2:=SZ.o
   exact⟨CK.o wr G m h,by omega,by omega,IntWalk.i64_in _ (by omega)⟩)
  have FD:Hid (d+(m+1)<n->∃(q9:Nat) (L K:Int),(L=y m/\K=y (m+1))/\wr.cell? ⟨g,l+q,none⟩=some (.int .u8 L)/\wr.cell? ⟨g,l+q9,none⟩=some (.int .u8 K)/\(q:Int)<(n:Int)/\(q:Int)<=32767/\(q9:Int)<(n:Int)/\IntKind.i64.wrap ((q:Int)+1)=(q9:Int)/\0<=L/\L<=255/\0<=K/\K<=255):=hY (fun h=>by
   rw[hq];have h1:=RY.o (m+1) h;have h2:=SZ.o;have h3:=RY.o m (by omega)
   exact⟨d+(m+1),_,_,⟨rfl,rfl⟩,CK.o wr G m (by omega),CK.o wr G _ h,by omega,by omega,by omega,by rw[IntWalk.i64_in _ (by omega)];omega,h3.1,h3.2,h1.1,h1.2⟩)
  have HQ:=hY hq;have t:Hid (w.heap.size<=b4/\w.heap.size<=f):=hY (by have:=x.o;have:=LB.o;omega);clear G E hq;have H:=HS.o;rcases HK.o with rfl|rfl|rfl|rfl|rfl<;>rcases hj with rfl|rfl|rfl|rfl<;>simp[R8] at hR<;>obtain⟨rfl,rfl,rfl,rfl⟩:=hR<;>simp[szK] at H<;>replace H:=hY H
  all_goals
   first
   |(go_upto_region 10 with fail
     go_quiet (fail);go_wp2_with fail;go_roundw
     case rel=>exact⟨_,_,_,_,_,q,rfl,rfl,rfl,HQ.o,M.o.ext ((Ext.refl _).drewN _),BX.o,by decide⟩
     case measure=>decide)
   |(have u:=FB.o (by have:=SZ.o;have:=H.o;omega)
     obtain⟨V,ai,S,a1⟩:=u;go_upto_region 10 with fail;go_quiet (fail);go_upto_region 12 with fail;go_wp2_with fail;go_roundw
     case rel=>exact⟨_,_,_,_,_,q+1,rfl,by push_cast;rfl,rfl,by have:=HQ.o;omega,(M.o.ext ((Ext.refl _).drewN _)).trans (ae _ ⟨f,_,none⟩ _),by rw[be (b:=f) (show(wr.drewN _).heap[f]?=_ from BX.o)];rfl,by decide⟩
     case measure=>decide)
   |(go_wp2_with fail
     refine bodyPost_ret (yR _ b4 _ _ _ _ _ (Cp op _ _ _ _ J.o) _ rfl) rfl ⟨Co _ _ _ _ _ (gQ A.o M.o (by simpa using t.o.2)) t.o.1,?_⟩;rw[show(d:Int)+(sz:Int)=(q:Int) by have:=HQ.o;have:=H.o;omega]
     rfl)
   |(have u:=FD.o (by have:=SZ.o;have:=H.o;omega)
     obtain⟨q9,L,K,hv,V,ak,ax,S,ai,a2,ah,ag,af,ad⟩:=u;have HV:=hY hv;clear hv;go_upto_region 15 with fail
     go_region_law (fail)
     all_goals
      rw[CS ah ag af ad];generalize O:sM L K=z at*;have M2:=hY ((M.o.trans (ae wr ⟨f,4,none⟩ (.i z))).ext ((Ext.refl _).drew));have ao:=ET BX.o (.i z);have ac:=Es J.o NB.o.1 (.i z);have am:=hY O;generalize(wr.setCell ⟨f,4,none⟩ (.i z)).drew=W7 at*;clear q1 q2 s1 s2 r1 r2 V ak O;obtain⟨r1,r2⟩:=blk ao.o;obtain⟨s1,s2⟩:=blk ac.o;go_wp2_with fail;refine bodyPost_ret (yR _ b4 _ _ _ _ _ (Cp op _ _ _ z ac.o) _ rfl) rfl ⟨Co _ _ _ _ _ (gQ A.o M2.o (by simpa using t.o.2)) t.o.1,?_⟩;rw[show(d:Int)+(sz:Int)=(q:Int)+2 by have:=HQ.o;have:=H.o;omega,←am.o,HV.o.1,HV.o.2]
      rfl)
def Dr (x:aL):Value:=.agg #[.i x.op,.i x.a,.i x.b,.i x.c,.i x.to]
theorem vh {op:Int}(h:cH op=true):(opN op=0/\fQ op=false/\(opR op).2.1=0)\/(opN op=1/\fQ op=false/\(opR op).2.1=1)\/(opN op=2/\fQ op=false/\(opR op).2.1=3)\/(opN op=0/\fQ op=true/\(opR op).2.1=8)\/(opN op=3/\fQ op=true/\(opR op).2.1=15):=by
 rcases lF h with rfl|rfl|rfl|rfl|rfl|rfl|rfl|rfl|rfl|rfl|rfl|rfl|rfl|rfl|rfl|rfl|rfl|rfl|rfl|rfl|rfl|rfl|rfl|rfl|rfl<;>decide
theorem xZ (w:World)(g c n s a:Nat)(bs:List Int)(op:Int)(y:g<w.heap.size)(o:iC w g c bs)(v:bs.length=n)(m:n<=32767)(u:∀b∈bs,0<=b/\b<=255)(k:cH op=true)(r:bs[a]?=some op)(l:a+bf op<=n):
 Calls Tryz.prog 115 #[.slice (some ⟨g,c,none⟩) n s,.i (a:Int)] w fun e w'=>Ext w w'/\e=.returned (.tuple #[Dr (gm (bs.drop a)),.i ((a:Int)+(bf op:Int)),.bool true]):=by
 have q:∀j:Nat,(bs.drop a).getD j 0=bs.getD (a+j) 0:=fun j=>by simp[u7,List.getElem?_drop]
 have z:(bs.drop a).getD 0 0=op:=by rw[q,ks,u7,r];rfl
 have t:∀j:Nat,a+j<n->bs[a+j]?=some (bs.getD (a+j) 0)/\(0<=bs.getD (a+j) 0/\bs.getD (a+j) 0<=255):=fun j A=>by
  have p:a+j<bs.length:=by omega
  have e:bs[a+j]?=some bs[a+j]:=iD p;rw[u7,e];exact⟨rfl,u _ (List.getElem_mem p)⟩
 have x:Dr (gm (bs.drop a))=agL (X8 (opR op).2.1 (fun j=>bs.getD (a+j) 0) op):=by
  rcases vh k with⟨h,f,d⟩|⟨h,f,d⟩|⟨h,f,d⟩|⟨h,f,d⟩|⟨h,f,d⟩<;>simp only[Dr,gm,z,h,f,d,q]<;>simp[agL,X8,R8]
 rw[x];exact DA w g c n s a bs op _ _ y o v m k rfl r l t
end
theorem BC:(Tryz.prog.info? 91).map (fun i=>(i.zero,i.size,i.bytes))=some (some (.agg #[.i 0,.i 0,.i 0,.i 0,.i 0]),5,40):=by kernel_rfl
def tN (x:aL):List Value:=[.i x.op,.i x.a,.i x.b,.i x.c,.i x.to]
def pA (l:List (Int×aL)):List Value:=l.flatMap fun y=>tN y.2
def nI (l:List (Int×aL)):List Value:=l.map fun y=>bz y.1
theorem xX {n:Nat}{p:Int}{b:List Int}{FL:List (Int×aL)}(h:jd n p b=some FL)(c:b≠[]):∃m a,cH (b.getD 0 0)=true/\bf (b.getD 0 0)<=b.length/\FL=(p,gm b)::a/\jd m (p+bf (b.getD 0 0)) (b.drop (bf (b.getD 0 0)))=some a:=by
 cases n with
 |zero=>rw[jd,if_neg c] at h;cases h
 |succ m=>
  rw[jd,if_neg c] at h
  split at h
  ·cases h
  ·rename_i hn
   simp only[not_or,Bool.not_eq_false,Nat.not_lt] at hn;rw[Option.map_eq_some_iff] at h;obtain⟨a,e,d⟩:=h;exact⟨m,a,hn.1,hn.2,d.symm,e⟩
theorem xW {n:Nat}{p:Int}{FL:List (Int×aL)}(h:jd n p []=some FL):FL=[]:=by
 cases n<;>simp[jd] at h<;>exact h
theorem iC.ext {w w':World}{g a:Nat}{bs:List Int}(h:iC w g a bs)(d:Ext w w')(c:g<w.heap.size):iC w' g a bs:=fun i v b=>by rw[d.cell c];exact h i v b
theorem qE {w:World}{base e c s s' n d:Nat}{v v':Value}{xs b:List Value}(h:w.ownsRow base e s v n xs)(l:w.ownsRow base c s' v' d b)(j:e≠c):∀g,v.ownBlock=some g->¬g∈v'.ownBlock.toList:=fun g i f=>by
 obtain⟨_,r,p,q⟩:=au h (k:=g) (by rw[i];simp);obtain⟨_,o,m,a⟩:=au l f;rw[q] at a;injection a with a;injection a with _ a _;exact j a
theorem rF {b:Func}{t u v x:Tmp}(h:b.results=#[.tmp t,.tmp u,.tmp v,.tmp x])(a:Array Value)(P:Program)(w:World):
 (results b a).run P w=.ok (.tuple #[a.getD t undef,a.getD u undef,a.getD v undef,a.getD x undef]) w:=by
 simp[results,h]
theorem zE (w:World)(g D n cc N:Nat)(bs:List Int)(FL:List (Int×aL))(hg:g<w.heap.size)(aj:iC w g D bs)(hn:bs.length=n)(ae:n<=32767)(hr:∀b∈bs,0<=b/\b<=255)(hd:jd N 0 bs=some FL):
 Calls Tryz.prog 50 #[.slice (some ⟨g,D,none⟩) n cc] w fun e w'=>Ext w w'/\∃lv pv,e=.returned (.tuple #[lv,pv,.i 0,.i 0])/\w'.ownsRow w.heap.size 91 5 lv FL.length (pA FL)/\w'.ownsRow w.heap.size 3 1 pv FL.length (nI FL):=by
 have j:=hY (And.intro hg (And.intro aj (And.intro hn (And.intro ae (And.intro hr hd)))));have ai:¬(32767:Int)<(n:Int):=by omega
 clear hg aj hn hr hd ae;go_enter Tryz.func50,Tryz.ntmps50;go_upto_region 6 with fail
 go_loopw [6,7,8] (fun lv pv a wr=>Ext w wr/\∃(c m:Nat) (L R:List (Int×aL)),a=.i (c:Int)/\c<=n/\L.length<=c/\FL=L++R/\jd m (c:Int) (bs.drop c)=some R/\wr.ownsRow w.heap.size 91 5 lv L.length (pA L)/\wr.ownsRow w.heap.size 3 1 pv L.length (nI L)) (fun _ _ a _=>n-(intOf a).toNat)
 case atStart=>exact⟨Ext.refl _,0,N,[],FL,rfl,oS _,oS _,rfl,by simpa using j.o.2.2.2.2.2,⟨rfl,.inl ⟨rfl,rfl⟩⟩,⟨rfl,.inl ⟨rfl,rfl⟩⟩⟩
 case round=>
  obtain⟨W,c,m,L,R,rfl,ah,O,E,t,q,p⟩:=hrel;obtain⟨la,lc,rfl,-⟩:=aJ q;obtain⟨pa,pc,rfl,-⟩:=aJ p;by_cases r:c<n
  ·have af:bs.drop c≠[]:=by
    intro e;have:=congrArg List.length e;simp only[List.length_drop,hG] at this;have:=j.o.2.2.1;omega
   obtain⟨m',R',ad,ac,hR,M⟩:=xX t af
   have h0:bs[c]?=some ((bs.drop c).getD 0 0):=by
    have hl:c<bs.length:=by have:=j.o.2.2.1;omega
    rw[u7,List.getElem?_drop,ks,iD hl];rfl
   have l:c+bf ((bs.drop c).getD 0 0)<=n:=by
    rw[List.length_drop] at ac;have:=j.o.2.2.1;omega
   have G:1<=bf ((bs.drop c).getD 0 0):=by unfold bf;omega
   have H:=xZ wr g D n cc c bs _ (bA j.o.1 W.size) (j.o.2.1.ext W j.o.1) j.o.2.2.1 j.o.2.2.2.1 j.o.2.2.2.2.1 ad h0 l;rw[List.drop_drop] at M;generalize(bs.drop c).getD 0 0=op at*;generalize bf op=sz at*;generalize gm (bs.drop c)=x at*;obtain⟨z,C,B,A,y⟩:=x;have bg:Hid (Calls Tryz.prog 115 #[.slice (some ⟨g,D,none⟩) n cc,.i (c:Int)] wr fun e w'=>Ext wr w'/\e=.returned (.tuple #[.agg #[.i z,.i C,.i B,.i A,.i y],.i ((c:Int)+(sz:Int)),.bool true])):=hY H;have J:=hY (And.intro W (And.intro E (And.intro hR (And.intro M (And.intro q p)))));have SZ:=hY (And.intro l G);have LA:=hY O;have aw:=hY r;have ba:=hY j.o.2.2.2.1;clear H W E hR M t q p af ad ac l G h0 O ai ah;go_upto_region 8 with(go_at_call 115;refine bg.o.mono ?_;rintro e Y ⟨al,rfl⟩;have E2:=hY al;clear al);have B9:=hY (aq Y (.cells #[.i z,.i C,.i B,.i A,.i y] 91) _ rfl);have E3:Hid (Ext Y (Y.alloc (.cells #[.i z,.i C,.i B,.i A,.i y] 91))):=hY ((Ext.refl _).alloc _);generalize Y.heap.size=b9 at*;generalize Y.alloc _=X at*;have a8:=hY (ak J.o.2.2.2.2.1 (E2.o.trans E3.o));have a7:=hY (ak J.o.2.2.2.2.2 (E2.o.trans E3.o));have a0:=hY (J.o.1.trans (E2.o.trans E3.o));have KL:Hid (L.length<n/\n<=32767):=hY ⟨by have:=LA.o;have:=aw.o;omega,ba.o⟩;generalize s:L.length=h at*;have F:=hY s;clear s;obtain⟨q1,q2⟩:=blk B9.o;go_upto_region 10 with fail;obtain⟨i0,hi,a3,a2,a1⟩:=info_parts BC;have E4:Hid (Ext X (X.alloc (.cells #[.i z,.i C,.i B,.i A,.i y] 91))):=hY ((Ext.refl X).alloc _);have P:=hY (ak a8.o E4.o);have ao:=hY (ak a7.o E4.o);have av:=hY (World.news_of_block (aq X (.cells #[.i z,.i C,.i B,.i A,.i y] 91) _ rfl));have ap:Hid (∀u∈([.i z,.i C,.i B,.i A,.i y]:List Value),u.oneCell'=true):=hY (by intro u hu;simp only[aS,aT,or_false] at hu;rcases hu with rfl|rfl|rfl|rfl|rfl<;>rfl);have bd:Hid (w.heap.size<=(X.alloc (.cells #[.i z,.i C,.i B,.i A,.i y] 91)).heap.size):=hY (aN a0.o.size E4.o.size);have ar:Hid ((h+1)*40<=140737488355328/\h+1<=maxLen):=hY ⟨by have:=KL.o;omega,by have:=KL.o;unfold maxLen;omega⟩;go_upto_region 11 with(at_builtin;refine wpList_append_lies _ rfl (.tmp 29) (.tmp 31) 86 rfl w.heap.size 91 i0 _ 5 40 Tryz.underlying86 hi a3 a2 a1 rfl (by decide) (.slice la h lc) h (pA L) rfl P.o ⟨X.heap.size,0,none⟩ 1 1 [.i z,.i C,.i B,.i A,.i y] rfl rfl av.o ap.o (by decide) ar.o.2 ar.o.1 bd.o _ rfl ?_;intro g6 q6 V f d v r;have OW:=hY f;have GR:=hY d;have AT:=hY v;clear f d v r);have a6:=hY ((ag GR.o).row ao.o (qE ao.o P.o (by decide)));have bb:Hid (∀k∈(Value.slice la h lc).ownBlock.toList,w.heap.size<=k):=hY (fun k hk=>(au P.o hk).1);have az:=hY (gQ (a0.o.trans E4.o) (ag GR.o) bb.o);obtain⟨i1,a4,ab,aa,Z⟩:=info_parts pJ;have E8:Hid (Ext V (V.alloc (.cells #[.i (c:Int)] 3))):=hY ((Ext.refl V).alloc _);have am:=hY (ak OW.o E8.o);have Q:=hY (ak a6.o E8.o);have U:=hY (World.news_of_block (aq V (.cells #[.i (c:Int)] 3) _ rfl));have S:Hid (∀u∈([.i (c:Int)]:List Value),u.oneCell'=true):=hY (by intro u hu;simp only[aS,aT,or_false] at hu;rcases hu with rfl;rfl);have bc:Hid (w.heap.size<=(V.alloc (.cells #[.i (c:Int)] 3)).heap.size):=hY (aN az.o.size E8.o.size);have I:Hid ((h+1)*8<=140737488355328/\h+1<=maxLen):=hY ⟨by have:=KL.o;omega,by have:=KL.o;unfold maxLen;omega⟩;go_wp2_with (at_builtin;refine wpList_append_lies _ rfl (.tmp 33) (.tmp 35) 83 rfl w.heap.size 3 i1 _ 1 8 Tryz.underlying83 a4 ab aa Z rfl (by decide) (.slice pa h pc) h (nI L) rfl Q.o ⟨V.heap.size,0,none⟩ 1 1 [.i (c:Int)] rfl rfl U.o S.o (by decide) I.o.2 I.o.1 bc.o _ rfl ?_;intro g9 q9 w9 f d v r;have a9:=hY f;have ay:=hY d;have bh:=hY v;clear f d v r);have a5:=hY ((ag ay.o).row am.o (qE am.o Q.o (by decide)));have ax:Hid (∀k∈(Value.slice pa h pc).ownBlock.toList,w.heap.size<=k):=hY (fun k hk=>(au Q.o hk).1);have be:=hY (gQ (az.o.trans E8.o) (ag ay.o) ax.o);go_roundw
   case rel=>
    obtain⟨f1,f2,f3,f4,f5,f6⟩:=J.o;have K:(L++[((c:Int),(⟨z,C,B,A,y⟩:aL))]).length=h+1:=by simp[F.o]
    refine⟨be.o,c+sz,m',L++[((c:Int),(⟨z,C,B,A,y⟩:aL))],R',by push_cast;rfl,SZ.o.1,by rw[K];have:=SZ.o.2;have:=LA.o;omega,by rw[f2,f3];simp,by push_cast;exact f4,?_,?_⟩
    ·rw[K]
     have:=a5.o;simpa [pA,tN] using this
    ·rw[K]
     have:=a9.o;simpa [nI,bz] using this
   case measure=>have h1:=SZ.o.1;have h2:=SZ.o.2;have h3:=aw.o;simp[intOf];omega
  ·have hR:R=[]:=by
    have e:bs.drop c=[]:=hH (by have:=j.o.2.2.1;omega);rw[e] at t;exact xW t
   subst hR;rw[kn] at E;subst E;have J:=hY (And.intro W (And.intro q p));clear W q p t O ah ai;generalize s:FL.length=h at*;have F:=hY s;clear s;go_wp2_with fail;try simp only[Exit.inBlock,Exit.then]
   refine bodyPost_ret (rF rfl _ _ _) rfl ?_;exact⟨J.o.1,.slice la h lc,.slice pa h pc,rfl,by rw[F.o];exact J.o.2.1,by rw[F.o];exact J.o.2.2⟩
end Go.Proofs.Eff
