import Derived.Test.YtcimpmhmdnoeiaaGreatDoorQ45
set_option maxRecDepth 100000
set_option maxHeartbeats 8000000
set_option linter.all false
namespace Go.Proofs.Eff
open Go.RowKit
theorem yr (w:World)(g a7 n cc:Nat)(its:List It)(K FQ:Nat)(a:Int)(FU:List Lit3)(M:Option Addr)(lc:Nat)(hg:g<w.heap.size)(bt:iC w g a7 (bD ai (aj its) 0 its))(hn:(bD ai (aj its) 0 its).length=n)(a9:(szL its:Int)=(n:Int))(bk:n<=32767)(bu:∀b∈bD ai (aj its) 0 its,0<=b/\b<=255)
 (hr:cB its) (br:cM its) (hf:dg its) (hu:df K FU [FQ] its) (bj:okL (aj its) 0 its) (hm:ai its<=127) (ha:0<=a/\a<=15/\a<=(FQ:Int)/\(FQ:Int)<=63) (ck:K<=255) (bn:FU.length<=255) (hk:ot w M FU) (bo:∀ad,M=some ad->ad.block<w.heap.size)
 (a5:eM (aj its) 0 its=false):
 Calls Tryz.prog 16 #[.slice (some ⟨g,a7,none⟩) n cc,.agg #[.i a,.i (FQ:Int),.i (K:Int),.slice M FU.length lc]] w fun en w'=>en=.returned (.tuple #[.i (ai its),.i 0,.i 0])/\Ext w w':=by
 have hd:=xY ai hf a5;obtain⟨s,hO⟩:=EO hr br hf hu bj hm;have F:=xg hf ai;have ap:=mZ ai (aj its) 0 0 its hf;generalize cq:aE ai (aj its) 0 0 its=A at*;clear cq
 have a4:A.length<=n:=by
  have R:=F.1;have Q:=F.2
  have ce:∀(L:List Int) (lo:Nat),L.Pairwise (· <·)->(∀p∈L,(lo:Int)<=p/\p<(n:Int))->lo+L.length<=n\/L=[]:=by
   intro L
   induction L with
   |nil=>intro lo _ _;exact .inr rfl
   |cons p r ih=>
    intro lo hp H;left;have c5:=H p (by simp)
    rcases ih (lo+1) (By.1 hp).2 (fun q hq=>by
     have N:=(By.1 hp).1 q hq;have h4:=H q (by simp[hq])
     push_cast
     omega) with h5|h5
    ·simp only[gi];omega
    ·subst h5;simp;omega
  rcases ce (A.map (·.1)) 0 R (fun p hp=>by have:=Q p hp;rw[a9] at this;simpa using this) with N|N
  ·simpa using N
  ·have:A=[]:=by simpa using N
   rw[this];simp
 have ar:∀y∈A,cH y.2.op=true/\0<=y.1/\y.1<=32767/\0<=y.2.a/\y.2.a<=255/\0<=y.2.b/\y.2.b<=255:=fun y hy=>by
  obtain⟨R,Q,N,h4,h5⟩:=ap y hy;have h6:=F.2 y.1 (BP.2 ⟨y,hy,rfl⟩);exact⟨R,h6.1,by omega,Q,N,h4,h5⟩
 have C:=hY (And.intro hO (And.intro F (And.intro ar (And.intro a4 (And.intro a9 (And.intro bk (And.intro hk bo)))))));have cv:=hY (fun W=>Er W a FQ K M FU.length lc ha.1 ha.2.1 ha.2.2.1 ha.2.2.2 (by omega) (by omega) bn);have c0:=hY (fun(W:World) (hE:Ext w W)=>zE W g a7 n cc _ (bD ai (aj its) 0 its) A (bA hg hE.size) (bt.ext hE hg) hn bk bu hd);clear hd hO F ap a4 ar hg bt hn bu hr br hf hu bj hm ha ck bn hk bo a5 a9;go_enter Tryz.func16,Tryz.ntmps16;have E1:Hid (Ext w (w.alloc (.cells #[.i a,.i (FQ:Int),.i (K:Int),.slice M FU.length lc] 52))):=hY ((Ext.refl _).alloc _);have B3:=hY (aq w (.cells #[.i a,.i (FQ:Int),.i (K:Int),.slice M FU.length lc] 52) _ rfl);go_upto_region 1 with fail;have S0:=hY (ab B3.o);generalize bv:w.heap.size=b3 at*;have cb:=hY bv;clear bv;generalize w.alloc _=W1 at*;obtain⟨q1,q2⟩:=blk B3.o;generalize bm:FU.length=ln at*;have cw:=hY bm;clear bm;go_upto_region 3 with(go_at_call 49;refine(cv.o _).mono ?_;rintro en w2 ⟨rfl,b0⟩;have E2:=hY b0;clear b0);go_upto_region 6 with(go_at_call 50;refine(c0.o w2 (E1.o.trans E2.o)).mono ?_;rintro en w3 ⟨bx,lv,c2,rfl,hl,hp⟩;have E3:=hY bx;have LP:=hY (And.intro hl hp);obtain⟨c4,E,rfl,az⟩:=aJ hl;obtain⟨c3,D,rfl,am⟩:=aJ hp;clear bx hl hp);have bi:=hY (E2.o.trans E3.o);have c1:=hY (bi.o.keep B3.o);clear q1 q2;obtain⟨q1,q2⟩:=blk c1.o;have v:0<A.length:=zb.2 C.o.1.ne;obtain⟨gl,rfl,a3,a2⟩:=az v;obtain⟨gp,rfl,a1,a0⟩:=am v;have GG:=hY (And.intro a3 (And.intro a2 (And.intro a1 a0)));generalize bs:A.length=f at*;have j:=hY bs;have b9:=hY v;clear bs az am a3 a2 a1 a0 v;have cf:=run_makeMap (P:=Tryz.prog) 127 w3;obtain⟨w4,i4,m4,d4⟩:=di (P:=Tryz.prog) (w3.alloc (.map #[] 0)) Tryz.underlying127 Tryz.underlying3 (cQ.new w3 _ rfl .i64) (n:Int) (.i (f:Int));have M4:=hY m4;have E4:Hid (Ext w3 w4):=hY (gQ ((Ext.refl _).alloc (.map #[] 0)) d4 (by simp));clear m4 d4;have E5:Hid (Ext w4 (w4.alloc (.cells (cT a (FQ:Int) (K:Int) (.slice M ln lc) (.slice (some ⟨gl,0,none⟩) f E) (.slice (some ⟨gp,0,none⟩) f D) (n:Int) (.map (some w3.heap.size)) (.slice none 0 0) (.slice none 0 0) (.slice none 0 0) (.slice none 0 0) (-1)) 130))):=hY ((Ext.refl _).alloc _);have BV:=hY (aq w4 (.cells (cT a (FQ:Int) (K:Int) (.slice M ln lc) (.slice (some ⟨gl,0,none⟩) f E) (.slice (some ⟨gp,0,none⟩) f D) (n:Int) (.map (some w3.heap.size)) (.slice none 0 0) (.slice none 0 0) (.slice none 0 0) (.slice none 0 0) (-1)) 130) _ rfl);go_upto_region 7 with fail;have bh:=hY (E4.o.trans E5.o);have M5:=hY (M4.o.keep E5.o);have av:w3.heap.size<w4.heap.size:=M4.o.lt;have MV:=hY av;clear av cf i4 M4 q1 q2;generalize bl:w3.heap.size=mb at*;have ca:=hY bl;clear bl;generalize al:w4.heap.size=O at*;have b8:=hY al;clear al;generalize w4.alloc _=X at*;have cr:=hY (ab BV.o);have FB:Hid (f<=32767):=hY (by have R:=C.o.2.2.2.1;have Q:=C.o.2.2.2.2.2.1;omega);go_upto_region 8 with fail;rename_i hKK;have cx:=hY hKK;clear hKK
 go_loopw [50] (fun i V=>∃(k:Nat) (AL:aZ) (dv:Value),i=.i (k:Int)/\k<=f/\cQ V mb .i64 AL/\kE (A.map (·.1)) (n:Int) f k AL/\V.heap[O]?=some (.cells (cT a (FQ:Int) (K:Int) (.slice M ln lc) (.slice (some ⟨gl,0,none⟩) f E) (.slice (some ⟨gp,0,none⟩) f D) (n:Int) (.map (some mb)) (.slice none 0 0) (.slice none 0 0) (.slice none 0 0) dv (-1)) 130)/\V.ownsRow X.heap.size 3 1 dv k ((List.replicate k (-1:Int)).map bz)/\∃S:List Nat,(∀x∈S,x=mb\/x=O\/X.heap.size<=x)/\Mod S X V) (fun i _=>f-(intOf i).toNat)
 case atStart=>exact⟨0,_,_,rfl,oS _,M5.o,kE.zero (A.map (·.1)) (n:Int) f,BV.o,⟨rfl,.inl ⟨rfl,rfl⟩⟩,[],by simp,Mod.refl _ _⟩
 case round=>
  obtain⟨k,AL,dv,rfl,hk,ax,I,B,bc,S,hS,z⟩:=hrel;have LR:=hY (ak LP.o.1 bh.o);have PR:=hY (ak LP.o.2 bh.o)
  have m:∀(b:Nat) (U:Array Value) (T:TypeId),X.heap[b]?=some (.cells U T)->T≠130->¬b∈S:=fun b U T H hT c=>by
   rcases hS b c with e|e|e
   ·exact M5.o.ne_cells H e
   ·rw[e,BV.o] at H
    injection H with H;injection H with _ H _;exact hT H.symm
   ·have:=ab H;omega
  have ah:wr.ownsRow w2.heap.size 91 5 (.slice (some ⟨gl,0,none⟩) f E) f (pA A):=z.row LR.o (fun g' d c=>by
   simp only[Value.ownBlock,dO] at d;obtain⟨_,_,U,h⟩:=aw LR.o
   exact m gl U 91 h (by decide) (by rw[show gl=g' from d];exact c))
  have af:wr.ownsRow w2.heap.size 3 1 (.slice (some ⟨gp,0,none⟩) f D) f (nI A):=z.row PR.o (fun g' d c=>by
   simp only[Value.ownBlock,dO] at d;obtain⟨_,_,U,h⟩:=aw PR.o
   exact m gp U 3 h (by decide) (by rw[show gp=g' from d];exact c))
  have bg:=hY (And.intro ah af);clear ah af m;have DR:=hY bc;have bf:=hY B;have MO:=hY (And.intro hS z);have Z:=hY ax;have cd:=hY I;obtain⟨da,dc,rfl,bd⟩:=aJ bc;clear bc hS z ax I;by_cases t:k<f
  ·have ay:k<A.length:=by rw[j.o];exact t
   obtain⟨px,ba⟩:∃px,A[k]?=some px:=⟨_,iD ay⟩;obtain⟨p,x⟩:=px
   have cj:wr.cell? ⟨gp,k,none⟩=some (.i p):=by
    rw[aX bg.o.2 k t];simp[nI,ba,bz]
   have c6:(k:Int)<(f:Int):=by omega
   have c7:(k:Int)<=32767:=by have:=FB.o;omega
   obtain⟨w6,i6,m6,d6⟩:=di (P:=Tryz.prog) wr Tryz.underlying127 Tryz.underlying3 Z.o p (.i (k:Int));have M6:=hY m6;have D6:=hY d6;have PX:=hY ba;have aa:=hY t;obtain⟨q1,q2⟩:=blk B;have b2:=hY (d6.keep B (by simp only[aS,aT,or_false];exact fun e=>Z.o.ne_cells B e))
   have cz:=hY (d6.row DR.o (fun g' d c=>by
    obtain⟨_,U,fz,h⟩:=au DR.o (k:=g') (by rw[d];simp);simp only[aS,aT,or_false] at c
    exact Z.o.ne_cells h c))
   clear ba t ay hk m6 d6 B bd;go_upto_region 11 with fail;clear q1 q2 cj i6;obtain⟨q1,q2⟩:=blk b2.o;obtain⟨i0,hi,ci,ch,cg⟩:=info_parts pJ;have b5:Hid ((k+1)*8<=140737488355328/\k+1<=maxLen):=hY ⟨by have:=FB.o;have:=aa.o;omega,by have:=FB.o;have:=aa.o;unfold maxLen;omega⟩;have E8:Hid (Ext w6 (w6.alloc (.cells #[.i (-1)] 3))):=hY ((Ext.refl _).alloc _);have J:=hY (ak cz.o E8.o);have Y:=hY (E8.o.keep b2.o);have b6:=hY (World.news_of_block (aq w6 (.cells #[.i (-1)] 3) _ rfl));have b4:Hid (∀u∈([.i (-1)]:List Value),u.oneCell'=true):=hY (by intro u hu;simp only[aS,aT,or_false] at hu;rcases hu with rfl;rfl);have cy:Hid (X.heap.size<=(w6.alloc (.cells #[.i (-1)] 3)).heap.size):=hY (by have R:=MO.o.2.size;have Q:=D6.o.size;have N:=E8.o.size;omega);go_upto_region 12 with(at_builtin;refine wpList_append_lies _ rfl (.tmp 65) (.tmp 66) 83 rfl X.heap.size 3 i0 _ 1 8 Tryz.underlying83 hi ci ch cg rfl (by decide) (.slice da k dc) k ((List.replicate k (-1:Int)).map bz) rfl J.o ⟨w6.heap.size,0,none⟩ 1 1 [.i (-1)] rfl rfl b6.o b4.o (by decide) b5.o.2 b5.o.1 cy.o _ rfl ?_;intro g8 c8 w8 ao G I t;have OW:=hY ao;have GR:=hY G;have c9:=hY I;clear ao G I t;obtain⟨p3,p4⟩:=blk ((ag GR.o).keep Y.o (dx Y.o J.o (by decide))));have b1:=hY ((ag GR.o).keep Y.o (dx Y.o J.o (by decide)));have bb:=ae w8 ⟨O,11,none⟩ (.slice (some ⟨g8,0,none⟩) (k+1) c8)
   have b7:=hY (((M6.o.keep E8.o).mod (ag GR.o) (fun c=>by
    obtain⟨_,U,fz,h⟩:=au J.o c
    exact(M6.o.keep E8.o).ne_cells h rfl)).mod bb (fun c=>by
    simp only[aS,aT,or_false] at c
    have:=MV.o;omega))
   have a6:g8≠O:=fun e2=>by
    obtain⟨_,_,U,h⟩:=aw OW.o;rw[show(⟨g8,0,none⟩:Addr).block=O from e2,b1.o] at h;cases h
   have cu:=hY (bb.row OW.o (fun g' d c=>by
    simp only[Value.ownBlock,dO] at d;simp only[aS,aT,or_false] at c
    exact a6 (d.trans c)))
   have ct:=hY (be (i:=11) b1.o (.slice (some ⟨g8,0,none⟩) (k+1) c8));clear p3 p4 q1 q2 bb a6;go_wp2_with fail;go_roundw
   case rel=>
    refine⟨k+1,_,_,by push_cast;rfl,aa.o,b7.o,cd.o.next C.o.2.1.1 (fun q hq=>by have R:=C.o.2.1.2 q hq;have Q:=C.o.2.2.2.2.1;omega) (by rw[oN,PX.o];rfl),ct.o,?_,S++mb::O::(Value.slice da k dc).ownBlock.toList,fun x c=>?_,?_⟩
    ·have:=cu.o
     rw[List.replicate_succ',An];exact this
    ·simp only[iF,aS] at c
     rcases c with c|rfl|rfl|c
     ·exact MO.o.1 x c
     ·exact .inl rfl
     ·exact .inr (.inl rfl)
     ·exact .inr (.inr (au J.o c).1)
    ·refine(MO.o.2.mono (fun x c=>by simp[c])).trans ((D6.o.mono (fun x c=>by simp only[aS,aT,or_false] at c;simp[c])).trans ((E8.o.mod _).trans (((ag GR.o).mono (fun x c=>by simp[c])).trans ((ae w8 ⟨O,11,none⟩ _).mono (fun x c=>by simp only[aS,aT,or_false] at c;simp[c])))))
   case measure=>have:=aa.o;simp[intOf];omega
  ·have cn:¬(k:Int)<(f:Int):=by omega
   have cm:f=k:=by omega
   subst cm;obtain⟨gd,rfl,bq,bp⟩:=bd b9.o;have EX:Hid (Ext w X):=hY (E1.o.trans (bi.o.trans bh.o))
   have a8:w.heap.size<=mb/\w.heap.size<=O/\w.heap.size<=X.heap.size:=by
    have R:=E1.o.size;have Q:=bi.o.size;have N:=E4.o.size;have h4:=E5.o.size;have h5:=ca.o;have h6:=b8.o;omega
   have T6:=hY (fun ac cp=>rs w2.heap.size X.heap.size O gd dc w wr a (FQ:Int) (n:Int) K FU M lc gl E gp D mb A AL s its (.pointer (some ⟨b3,0,none⟩)) (gQ EX.o MO.o.2 (fun x c=>by rcases MO.o.1 x c with e|e|e<;>omega))
    (by rw[cw.o,j.o];exact bf.o)
    ⟨rfl,rfl,rfl,rfl,rfl,by rw[j.o];exact bg.o.1,by rw[j.o];exact bg.o.2,Z.o,fun cl=>by
     obtain⟨g1,o1,z1,z2,z3⟩:=C.o.2.2.2.2.2.2.1 cl;have bw:Ext w wr:=gQ EX.o MO.o.2 (fun x c=>by rcases MO.o.1 x c with e|e|e<;>omega)
     exact⟨g1,o1,z1,bA z2 bw.size,fun i l hi=>by rw[bw.cell z2];exact z3 i l hi⟩,fun ad co=>by have R:=C.o.2.2.2.2.2.2.2 ad co;have Q:=cb.o;have N:=a8.2.1;omega,ab bf.o,_,bf.o⟩
    (by rw[j.o];exact cd.o) (by rw[j.o];exact DR.o) ⟨by have R:=GG.o.2.2.2;have Q:=ca.o;have N:=MV.o;have h4:=b8.o;have h5:=cr.o;omega,by omega,a8.2.1,by rw[cb.o];exact C.o.2.2.2.2.2.2.2⟩
    (by rw[j.o];exact FB.o) C.o.2.2.2.2.1.symm (by have:=C.o.2.2.2.2.2.1;omega) C.o.1 C.o.2.2.1 ac cp)
   rw[j.o] at T6;clear cn t hk B bd a8 bq bp;go_wp2_with fail;exact cx.o _ _ (T6.o _ ⟨rfl,rfl,rfl,rfl,rfl⟩)
end Go.Proofs.Eff
