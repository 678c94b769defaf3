import Derived.Test.YtcimpmhmdnoeiaaGreatDoorQ31
set_option maxRecDepth 100000
set_option maxHeartbeats 4000000
set_option linter.all false
namespace Go.Proofs.Eff
open Go.RowKit
theorem Bd {w:World}{ok:Nat->Prop}{g:Nat}(l:List Lit3)(b:List Value)(h:fp w ok l b)(a:Nat)(c:∀i,i<b.length->w.cell? ⟨g,a+i,none⟩=b[i]?):gf w ok g a l:=by
 induction l generalizing b a with
 |nil=>rw[gf];trivial
 |cons x r ih=>
  obtain⟨m,k,rfl,d,j,f⟩:=h;rw[gf];refine⟨⟨m,d,fun i e=>?_,j⟩,ih k f (a+3) (fun i e=>?_)⟩
  ·rw[c i (by rw[bY];omega),md (by omega)]
  ·have:=c (3+i) (by rw[bY];omega)
   rw[j1 (by omega),d] at this;rw[show 3+i-3=i by omega] at this;rw[←this]
   congr 2
   omega
theorem jJ (l:List T):(cu l).length=l.length:=by
 induction l with
 |nil=>rw[cu];rfl
 |cons x r ih=>rw[cu,gi,ih,gi]
theorem ui {l:List T}{j:Nat}{y:T}(c:l[j]?=some y):cu (l.take (j+1))=cu (l.take j)++[aH y]:=by
 have:∀a b:List T,cu (a++b)=cu a++cu b:=by
  intro a b
  induction a with
  |nil=>rw[cu];rfl
  |cons x r ih=>rw[kq,cu,ih,cu];rfl
 rw[tO,c,this];rw[AN,cu,cu]
def okA (b wr:World)(a:Value)(k:Nat):Prop:=b.heap.size<=k/\k<wr.heap.size/\a.ownBlock≠some k
structure ArAt (O:Nat)(W3:World)(l:List T)(j:Nat)(lv:Value)(ys:List Value)(wr:World):Prop where
 mod:Mod [O] W3 wr
 tb:wr.heap[O]?=some (.cells #[.i 5,.string {data:=#[]},lv] 55)
 row:wr.ownsRow W3.heap.size 55 3 lv j ys
 FU:fp wr (okA W3 wr lv) (cu (l.take j)) ys
theorem ArAt.step {O:Nat}{x:World}{l:List T}{j:Nat}{m:Value}{A:List Value}{wr:World}(h:ArAt O x l j m A wr)(S:O<x.heap.size){y:T}(J:l[j]?=some y){w4 w5 w6:World}(Q:Ext wr w4)(w:Ext w4 w5){z:List Value}(L:dt w4 (tv wr w4) (aH y) z)(D:z.length=3){g q:Nat}
 (f:w6.ownsRow x.heap.size 55 3 (.slice (some ⟨g,0,none⟩) (j+1) q) (j+1) (A++z)) (r:w5.grownBy w6 m.ownBlock) (E:m.ownBlock=some g\/g=w5.heap.size):
 ArAt O x l (j+1) (.slice (some ⟨g,0,none⟩) (j+1) q) (A++z) (w6.setCell ⟨O,2,none⟩ (.slice (some ⟨g,0,none⟩) (j+1) q)):=by
 have c:=ag r;have b:=ae w6 ⟨O,2,none⟩ (.slice (some ⟨g,0,none⟩) (j+1) q);have n:=Q.trans w;have p:∀k,k∈m.ownBlock.toList->x.heap.size<=k:=fun k a=>(au h.row a).1
 have t:∀k,m.ownBlock=some k->k<wr.heap.size:=fun k a=>by
  obtain⟨_,W,V,e⟩:=au h.row (k:=k) (by rw[a];simp);exact ab e
 have F:¬O∈m.ownBlock.toList:=fun M=>by have:=p O M;omega
 have o:wr.heap.size<=w6.heap.size:=aN n.size c.size;have B:w6.heap[O]?=some (.cells #[.i 5,.string {data:=#[]},m] 55):=c.keep (n.keep h.tb) F;have N:g≠O:=by have:=(aw f).1;intro e;simp only at this;omega
 have P:g<w6.heap.size:=(aw f).2.1
 have d:∀k,k<w5.heap.size->m.ownBlock≠some k->k≠O->(w6.setCell ⟨O,2,none⟩ (.slice (some ⟨g,0,none⟩) (j+1) q)).heap[k]?=w5.heap[k]?:=fun k H G R=>by
  rw[b.block k (bA H c.size) (by simpa using R)];exact c.block k H (by simpa using fun e=>G e)
 have v:∀k,k<w5.heap.size->m.ownBlock≠some k->(Value.slice (some ⟨g,0,none⟩) (j+1) q).ownBlock≠some k:=fun k H G e=>by
  simp only[Value.ownBlock,dO] at e;subst e;rcases E with e|e
  ·exact G e
  ·omega
 refine⟨⟨b.os.trans (c.os.trans (n.os.trans h.mod.os)),b.tape.trans (c.tape.trans (n.tape.trans h.mod.tape)),b.output.trans (c.output.trans (n.output.trans h.mod.output)),aN h.mod.size (aN o b.size),fun k a I=>?_⟩,?_,?_,?_⟩
 ·have u:=bA a h.mod.size
  rw[d k (bA u n.size) (fun e=>by have:=p k (by rw[e];simp);omega) (by simpa using I),n.block u];exact h.mod.block k a I
 ·rw[be B];simp
 ·exact b.row f (fun U C K=>by
   simp only[Value.ownBlock,dO] at C;simp only[aS,aT,or_false] at K
   omega)
 ·rw[ui J]
  refine fp.snoc ?_ ?_ D
  ·refine h.FU.keep (fun k a=>?_) (fun k a=>⟨a.1,bA a.2.1 (aN o b.size),v k (bA a.2.1 n.size) a.2.2⟩)
   rw[d k (bA a.2.1 n.size) a.2.2 (by have:=a.1;omega),n.block a.2.1]
  ·have s:∀k,tv wr w4 k->m.ownBlock≠some k:=fun k a e=>by have:=t k e;have:=a.1;omega
   refine L.keep (fun k a=>?_) (fun k a=>⟨aN h.mod.size a.1,bA a.2 (aN (aN w.size c.size) b.size),v k (bA a.2 w.size) (s k a)⟩);rw[d k (bA a.2 w.size) (s k a) (by have:=a.1;have:=h.mod.size;omega),w.block a.2]
theorem dt.keep' {w w':World}{ok ok':Nat->Prop}{x:Lit3}{a:List Value}(b:dt w ok x a)(h:jp ok w w')(c:∀k,ok k->ok' k):dt w' ok' x a:=dt.keep h c x a b
theorem ArAt.done {O:Nat}{w m wr:World}{l:List T}{a:Option Addr}{c:Nat}{n:List Value}(h:ArAt O m l l.length (.slice a l.length c) n wr)(p:w.heap.size<=m.heap.size)(s:l.length<=ao){w':World}(q:∀k,m.heap.size<=k->k<wr.heap.size->w'.heap[k]?=wr.heap[k]?)(o:wr.heap.size<=w'.heap.size):dt w' (tv w w') (.mk 5 [] (cu l)) [.i 5,.string (mkS []),.slice a (cu l).length c]:=by
 rw[dt];have b:=h.FU;rw[Fz] at b;rcases h.row.2 with⟨j,f⟩|⟨g,B,x,j,f,r,v,u,A,z⟩
 ·have:l=[]:=ls f
  subst this;cases j;exact⟨none,0,by rw[cu],by rw[cu];exact gE _,oS _,fun _=>rfl,by rw[cu];exact oS _,by decide,fun t=>absurd (by rw[cu]) t⟩
 ·cases j
  refine⟨some ⟨g,0,none⟩,c,by rw[jJ],by rw[jJ];exact v,u,(fun e=>by cases e),by rw[jJ];exact s,by decide,fun _=>⟨g,rfl,⟨aN p f,bA (ab r) o⟩,?_⟩⟩;refine Bd (cu l) n (b.keep (fun k d=>q k d.1 d.2.1) (fun k d=>⟨aN p d.1,bA d.2.1 o⟩)) 0 (fun i y=>?_);rw[nl,World.cell?_of_block (a:=⟨g,i,none⟩) (q g f (ab r))];exact h.row.cellAt i (by have:=h.row.1;omega)
theorem kp (x:T)(z:x.kind=12)(IH:∀y∈x.FN,lQ y):lQ x:=by
 intro w top H E G D F C ht hv hP
 have hc:aH x=.mk 5 [] (cu x.FN):=by
  obtain⟨k,n,ns,ts,l,p,pl⟩:=x;obtain rfl:k=12:=z;rw[aH];rfl
 have az:x.FN.length<=1048576:=hP.FN.small
 have CP:Hid (∀e w' a c,e=.returned (.agg #[.i 5,.string {data:=#[]},.slice a x.FN.length c])->dt w' (tv w w') (.mk 5 [] (cu x.FN)) [.i 5,.string (mkS []),.slice a (cu x.FN).length c]->Ext w w'->iL x w e w'):=hY (fun e w' a c he M hE=>by
  subst he;refine⟨a,c,?_,?_,hE⟩
  ·rw[hc];show _=Ending.returned (.agg #[.i 5,.string (mkS []),.slice a (cu x.FN).length c]);rw[jJ];rfl
  ·rw[hc];exact M)
 have HB:=hY (aq w (.cells (af x.kind x.name x.FP.length x.FQ.length x.FN.length x.FY x.FR H E G D F C) 26) _ rfl);have EX:=xal w x H E G D F C;have BZ:Hid (w.heap.size<(w.alloc (.cells (af x.kind x.name x.FP.length x.FQ.length x.FN.length x.FY x.FR H E G D F C) 26)).heap.size):=hY (ab HB.o);have NN:=hY hP.FN;have HI:=hY IH;have HT:=hY ht;have HV:=hY hv;have SM:Hid (x.FN.length<=ao):=hY hP.FN.small;clear hc hP hv ht IH;generalize x.FN=l at*;generalize x.name=Q at*;generalize x.FP.length=S at*;generalize x.FQ.length=R at*;generalize x.FY=P at*;generalize x.FR=pl at*;generalize x.kind=k at*;subst z;obtain⟨q1,q2⟩:=blk HB.o;have s1:(w.alloc (.cells (af 12 Q S R l.length P pl H E G D F C) 26)).heap.size=w.heap.size+1:=by simp
 have EW:Hid (Ext w (((w.alloc (.cells (af 12 Q S R l.length P pl H E G D F C) 26)).alloc (.cells #[.i 0,.string {data:=#[]},.slice none 0 0] 55)).alloc (.cells #[.i 5,.string {data:=#[]},.slice none 0 0] 55))):=((((Ext.refl w).alloc _).alloc _).alloc _);have B3:=hY (aM (aM HB.o (.cells #[.i 0,.string {data:=#[]},.slice none 0 0] 55)) (.cells #[.i 5,.string {data:=#[]},.slice none 0 0] 55));have Z3:=hY (aM (aq (w.alloc (.cells (af 12 Q S R l.length P pl H E G D F C) 26)) (.cells #[.i 0,.string {data:=#[]},.slice none 0 0] 55) (w.heap.size+1) s1.symm) (.cells #[.i 5,.string {data:=#[]},.slice none 0 0] 55));have T3:=hY (aq ((w.alloc (.cells (af 12 Q S R l.length P pl H E G D F C) 26)).alloc (.cells #[.i 0,.string {data:=#[]},.slice none 0 0] 55)) (.cells #[.i 5,.string {data:=#[]},.slice none 0 0] 55) (w.heap.size+1+1) (by simp));have OZ:Hid (w.heap.size+1+1<(((w.alloc (.cells (af 12 Q S R l.length P pl H E G D F C) 26)).alloc (.cells #[.i 0,.string {data:=#[]},.slice none 0 0] 55)).alloc (.cells #[.i 5,.string {data:=#[]},.slice none 0 0] 55)).heap.size):=hY (ab T3.o);clear s1;go_enter Tryz.func167,Tryz.ntmps167;go_upto_region 14 with fail;generalize((w.alloc _).alloc _).alloc _=W3 at*;clear q1 q2 EX BZ HB;have A0:Hid (ArAt (w.heap.size+1+1) W3 l 0 (.slice none 0 0) [] W3):=hY ⟨Mod.refl _ _,T3.o,⟨rfl,.inl ⟨rfl,rfl⟩⟩,by rw[List.take_zero,cu];rfl⟩
 go_loopw [40] (fun i wr=>∃(j:Nat) (lv:Value) (ys:List Value),j<=l.length/\i=.i j/\ArAt (w.heap.size+1+1) W3 l j lv ys wr) (fun i _=>l.length-(intOf i).toNat)
 case atStart=>exact⟨0,_,_,by omega,rfl,A0.o⟩
 case round=>
  obtain⟨j,lv,ys,hj,rfl,B⟩:=hrel;have A:=hY B;obtain⟨O,N,rfl,_⟩:=aJ B.row
  have s:Hid (Ext w wr):=hY (by
   have h1:=EW.o;have K:=B.mod;have h3:=OZ.o
   exact⟨K.os.trans h1.os,K.tape.trans h1.tape,K.output.trans h1.output,aN h1.size K.size,fun k z=>by rw[K.block k (bA z h1.size) (by simp;omega)];exact h1.block z⟩)
  have BJ:=hY (B.mod.keep B3.o (by simp;omega));have ZJ:=hY (B.mod.keep Z3.o (by simp));obtain⟨q1,q2⟩:=blk BJ.o;by_cases U:j<l.length
  ·obtain⟨y,hy⟩:∃y,l[j]?=some y:=⟨l[j],by simp⟩
   obtain⟨g,ay,b1,d1,b2,d2,b3,d3,rfl,hg,hS,X⟩:=(NN.o.keep (am s.o HT.o)).seven hy;obtain⟨e0,e1,e2,e3,e4,e5,e6⟩:=hS;have EY:=xal wr y b1 d1 b2 d2 b3 d3;have YB:=hY (aq wr (.cells (af y.kind y.name y.FP.length y.FQ.length y.FN.length y.FY y.FR b1 d1 b2 d2 b3 d3) 26) _ rfl);have CY:=hY (fun(V:World) (W:Ext wr V)=>HI.o y (eQ hy) V top b1 d1 b2 d2 b3 d3 (aN HT.o (s.o.trans W).size) (HV.o.ext (s.o.trans W)) (X.keep (am W (aN HT.o s.o.size))));have TJ:=hY (EY.o.keep B.tb);obtain⟨t1,t2⟩:=blk TJ.o;obtain⟨y1,y2⟩:=blk YB.o;obtain⟨a4,a0⟩:=blk (EY.o.keep BJ.o);have HY:=hY hy;clear X hg hy B;go_upto_region 19 with fail;generalize av:wr.alloc _=L at*;clear av;have ED:Hid (Ext wr L.drew):=hY (EY.o.trans ((Ext.refl L).drew));obtain⟨i0,hi,ar,ap,al⟩:=info_parts wH;have ah:Hid ((j+1)*48<=140737488355328/\j+1<=maxLen):=hY ⟨by omega,by unfold maxLen;omega⟩;have KT:=hY (fun(V:World) (W:Ext wr V)=>W.keep A.o.tb);have KD:=hY (fun(w5:World) m h (f:Ext L.drew w5) (M:dt w5 (tv L.drew w5) (aH y) [.i (aH y).kind,.string (mkS (aH y).text),.slice m (aH y).list.length h]) (w6:World) (g q:Nat) d b t=>A.o.step OZ.o HY.o (w4:=w5) (w5:=w5.alloc (.cells #[.i (aH y).kind,.string (mkS (aH y).text),.slice m (aH y).list.length h] 55)) (w6:=w6) (g:=g) (q:=q) (ED.o.trans f) ((Ext.refl w5).alloc _) (M.keep' (fun _ _=>rfl) (fun k z=>⟨aN ED.o.size z.1,z.2⟩)) rfl d b t);obtain⟨r,J⟩:∃r,r=aH y:=⟨_,rfl⟩;rw[←J] at KD;have ax:Hid (Calls Tryz.prog 167 #[.agg (af y.kind y.name y.FP.length y.FQ.length y.FN.length y.FY y.FR b1 d1 b2 d2 b3 d3)] L.drew fun e w'=>∃m h,e=.returned (.agg #[.i r.kind,.string (mkS r.text),.slice m r.list.length h])/\dt w' (tv L.drew w') r [.i r.kind,.string (mkS r.text),.slice m r.list.length h]/\Ext L.drew w'):=hY (by rw[J];exact CY.o _ ED.o);clear J CY;generalize r.kind=ck at*;generalize r.text=Y at*;generalize r.list.length=Z at*
   go_region_law (first
    |((refine step_append_lies _ rfl _ _ _ rfl W3.heap.size 55 i0 _ 3 48 Tryz.underlying31 hi ar ap al rfl (by decide) (.slice O j N) j ys ?hs aa.o ⟨w5.heap.size,0,none⟩ 1 1 [.i ck,.string (mkS Y),.slice m Z h] ?hx rfl ?hnews ?h1 (by decide) ah.o.2 ah.o.1 ?hb _ rfl ?_;(case hs=>simp[Act.eval,Act.put]);(case hx=>simp[Act.eval,Act.put]);(case hnews=>exact ai.o);(case h1=>exact ac.o);(case hb=>exact aw.o);intro g6 q6 w7 d b t U;have aj:=hY (KD.o w5 m h E5.o L5.o w7 g6 q6 d b t);obtain⟨u1,u2⟩:=blk ((ag b).keep T6.o (fun hm=>by have:=(au aa.o hm).1;have:=OZ.o;omega));clear d b t U))
    |(go_simp;go_at_call 167;refine ax.o.mono ?_;rintro e w5 ⟨m,h,rfl,M,f⟩;have L5:=hY M;have E5:=hY f;obtain⟨t3,t4⟩:=blk (KT.o _ (ED.o.trans f));have E6:Hid (Ext wr (w5.alloc (.cells #[.i ck,.string (mkS Y),.slice m Z h] 55))):=hY ((ED.o.trans f).alloc _);have aa:=hY (ak A.o.row E6.o);have T6:=hY (KT.o _ E6.o);obtain⟨t5,t6⟩:=blk T6.o;have ai:=hY (World.news_of_block (aq w5 (.cells #[.i ck,.string (mkS Y),.slice m Z h] 55) _ rfl));have ac:Hid (∀u∈([.i ck,.string (mkS Y),.slice m Z h]:List Value),u.oneCell'=true):=hY (by intro u hu;simp only[aS,aT,or_false] at hu;rcases hu with rfl|rfl|rfl<;>rfl);have aw:Hid (W3.heap.size<=(w5.alloc (.cells #[.i ck,.string (mkS Y),.slice m Z h] 55)).heap.size):=hY (aN A.o.mod.size E6.o.size);clear M f)
    |fail)
   all_goals
    go_wp2_with fail;go_roundw
    case rel=>exact⟨j+1,_,_,by omega,by go_num,aj.o⟩
    case measure=>simp[intOf];omega
  ·have I:j=l.length:=by omega
   obtain⟨t1,t2⟩:=blk A.o.tb;obtain⟨z1,z2⟩:=blk ZJ.o;have m1:=ae wr ⟨w.heap.size+1,0,none⟩ (.i 5);have m2:=ae (wr.setCell ⟨w.heap.size+1,0,none⟩ (.i 5)) ⟨w.heap.size+1,1,none⟩ (.string {data:=#[]});have m3:=ae ((wr.setCell ⟨w.heap.size+1,0,none⟩ (.i 5)).setCell ⟨w.heap.size+1,1,none⟩ (.string {data:=#[]})) ⟨w.heap.size+1,2,none⟩ (.slice O j N);have MM:=hY ((m1.trans m2).trans m3);have EF:Hid (Ext w (((wr.setCell ⟨w.heap.size+1,0,none⟩ (.i 5)).setCell ⟨w.heap.size+1,1,none⟩ (.string {data:=#[]})).setCell ⟨w.heap.size+1,2,none⟩ (.slice O j N))):=hY (((s.o.setCell (Fy _) _).setCell (Fy _) _).setCell (Fy _) _);have LF:=hY (ArAt.done (w:=w) (by rw[I] at A;exact A.o) EW.o.size SM.o (w':=((wr.setCell ⟨w.heap.size+1,0,none⟩ (.i 5)).setCell ⟨w.heap.size+1,1,none⟩ (.string {data:=#[]})).setCell ⟨w.heap.size+1,2,none⟩ (.slice O j N)) (fun k h1 K=>MM.o.block k K (by simp;have:=OZ.o;omega)) MM.o.size);have HJ:=hY I;clear B I m1 m2 m3;go_wp2_with fail;exact bodyPost_ret (v:=.agg #[.i 5,.string {data:=#[]},.slice O j N]) (by simp[results,Tryz.results167,go_sem,z1]) rfl (CP.o _ _ O N (by rw[HJ.o]) LF.o EF.o)
theorem vN {w:World}{base:Nat}{v:Value}{l:BL}(h:w.ownsRow base 5 1 v l.length (fI l)):(convert 32 9 v).run Tryz.prog w=.ok (.string (mkS l)) w:=by
 rcases h.2 with⟨a,d⟩|⟨g,c,f,a,_⟩
 ·rw[a]
  have e:l=[]:=ls d;rw[e];exact Lib.run_convert_nil_bytes w 32 9 5 0 Tryz.underlying32 Tryz.underlying5 Tryz.underlying9
 ·rw[a] at h ⊢
  refine Go.run_convert_bytes_back w 32 9 5 ⟨g,0,none⟩ c l Tryz.underlying32 Tryz.underlying5 Tryz.underlying9 (fun j b=>?_);have:=aX h j (by omega);unfold fI at this;rw[oN,iD b] at this;have e:(⟨g,0,none⟩:Addr).add j=⟨g,j,none⟩:=by unfold Addr.add;split<;>simp_all
  rw[e];exact this
theorem vA {b w w5:World}{e d n:Nat}{v:Value}{xs:List Value}(a:Ext b w)(f:w.ownsRow b.heap.size e d v n xs)(g:w.grownBy w5 v.ownBlock):Ext b w5:=by
 obtain⟨m,l,j,i,h⟩:=g
 exact⟨m.trans a.os,l.trans a.tape,j.trans a.output,aN a.size i,fun k c=>by
  rw[h k (bA c a.size) (fun e=>by
   have:=(au f (k:=k) (by rw[←e];simp)).1
   omega)]
  exact a.block c⟩
def ic (l:List T):BL:=l.map fun x=>UInt8.ofNat (ee x.name)
theorem vO {l:List T}{j:Nat}{y:T}(a:l[j]?=some y):ic (l.take (j+1))=ic (l.take j)++[UInt8.ofNat (ee y.name)]:=by
 unfold ic;rw[tO,a,AN,An];rfl
theorem Cc {y:T}(h:T.byt y=true):dz y.name=true/\eP y.name=true/\ee y.name<=255:=by
 obtain⟨k,n,b,a,l,p,pl⟩:=y;rw[T.byt] at h;simp only[gT] at h;refine⟨h.1.1.2,h.2,?_⟩;have:=h.2;unfold eP at this;simp only[gT,decide_eq_true_eq] at this;exact this.2
theorem ko (x:T)(hk:x.kind=13)(IH:∀y∈x.FN,T.byt y=true):lQ x:=by
 intro w top r h q f m d ht hv M
 have hc:aH x=.mk 6 (ic x.FN) []:=by
  obtain⟨k,n,ns,ts,l,p,pl⟩:=x;obtain rfl:k=13:=hk;rw[aH];rfl
 have au:x.FN.length<=1048576:=M.FN.small
 have CP:Hid (∀e z,e=.returned (.agg #[.i 6,.string (mkS (ic x.FN)),.slice none 0 0])->Ext w z->iL x w e z):=hY (fun e z he c=>by
  subst he;refine⟨none,0,?_,?_,c⟩
  ·rw[hc];rfl
  ·rw[hc];exact rN (by unfold ic;rw[se];exact M.FN.small))
 have Z:=hY (aq w (.cells (af x.kind x.name x.FP.length x.FQ.length x.FN.length x.FY x.FR r h q f m d) 26) _ rfl);have EX:=xal w x r h q f m d;have BZ:Hid (w.heap.size<(w.alloc (.cells (af x.kind x.name x.FP.length x.FQ.length x.FN.length x.FY x.FR r h q f m d) 26)).heap.size):=hY (ab Z.o);have NN:=hY M.FN;have HI:=hY IH;have HT:=hY ht;have HV:=hY hv;have SM:Hid (x.FN.length<=ao):=hY M.FN.small;clear hc M hv ht IH;generalize x.FN=l at*;generalize x.name=C at*;generalize x.FP.length=G at*;generalize x.FQ.length=D at*;generalize x.FY=B at*;generalize x.FR=pl at*;generalize x.kind=k at*;subst hk;obtain⟨q1,q2⟩:=blk Z.o;have s1:(w.alloc (.cells (af 13 C G D l.length B pl r h q f m d) 26)).heap.size=w.heap.size+1:=by simp
 have EW:Hid (Ext w (((w.alloc (.cells (af 13 C G D l.length B pl r h q f m d) 26)).alloc (.cells #[.i 0,.string {data:=#[]},.slice none 0 0] 55)).alloc (.cells #[.i 5,.string {data:=#[]},.slice none 0 0] 55))):=((((Ext.refl w).alloc _).alloc _).alloc _);have B3:=hY (aM (aM Z.o (.cells #[.i 0,.string {data:=#[]},.slice none 0 0] 55)) (.cells #[.i 5,.string {data:=#[]},.slice none 0 0] 55));have Z3:=hY (aM (aq (w.alloc (.cells (af 13 C G D l.length B pl r h q f m d) 26)) (.cells #[.i 0,.string {data:=#[]},.slice none 0 0] 55) (w.heap.size+1) s1.symm) (.cells #[.i 5,.string {data:=#[]},.slice none 0 0] 55));have T3:=hY (aq ((w.alloc (.cells (af 13 C G D l.length B pl r h q f m d) 26)).alloc (.cells #[.i 0,.string {data:=#[]},.slice none 0 0] 55)) (.cells #[.i 5,.string {data:=#[]},.slice none 0 0] 55) (w.heap.size+1+1) (by simp));have OZ:Hid (w.heap.size+1+1<(((w.alloc (.cells (af 13 C G D l.length B pl r h q f m d) 26)).alloc (.cells #[.i 0,.string {data:=#[]},.slice none 0 0] 55)).alloc (.cells #[.i 5,.string {data:=#[]},.slice none 0 0] 55)).heap.size):=hY (ab T3.o);clear s1;go_enter Tryz.func167,Tryz.ntmps167;go_upto_region 14 with fail;generalize((w.alloc _).alloc _).alloc _=W3 at*;clear q1 q2 EX BZ Z;have ay:=hY EW.o
 go_loopw [5,40] (fun bv i wr=>∃(j:Nat) (v:Value),j<=l.length/\i=.i j/\bv=v/\Ext W3 wr/\wr.ownsRow W3.heap.size 5 1 v j (fI (ic (l.take j)))) (fun _ i _=>l.length-(intOf i).toNat)
 case atStart=>exact⟨0,_,by omega,rfl,rfl,Ext.refl _,⟨rfl,.inl ⟨rfl,rfl⟩⟩⟩
 case round=>
  obtain⟨j,v,hj,rfl,rfl,c,X⟩:=hrel;have E:=hY c;have R:=hY X;obtain⟨ad,cc,rfl,_⟩:=aJ X;have t:Hid (Ext w wr):=hY (EW.o.trans c);have BJ:=hY (c.keep B3.o);have ZJ:=hY (c.keep Z3.o);obtain⟨q1,q2⟩:=blk BJ.o;by_cases J:j<l.length
  ·obtain⟨y,W⟩:∃y,l[j]?=some y:=⟨l[j],by simp⟩
   obtain⟨g,ar,b1,d1,b2,d2,b3,d3,rfl,hg,hS,L⟩:=(NN.o.keep (am t.o HT.o)).seven W;obtain⟨e0,e1,e2,e3,e4,e5,e6⟩:=hS;have EY:=xal wr y b1 d1 b2 d2 b3 d3;obtain⟨y1,y2⟩:=blk (aq wr (.cells (af y.kind y.name y.FP.length y.FQ.length y.FN.length y.FY y.FR b1 d1 b2 d2 b3 d3) 26) _ rfl);obtain⟨ax,aw⟩:=blk (EY.o.keep BJ.o);obtain⟨n0,F,av⟩:=Cc (HI.o y (eQ W));have H:=L.name;have AT:=hY (fun(V:World) (hV:Ext wr V)=>(wJ V y.name H (HV.o.ext (t.o.trans hV))))
   have AK:Hid (Lib.atoiAll y.name=.ok (ee y.name)):=hY (by
    rcases pR n0 with⟨_,A⟩|⟨Y,_⟩
    ·exact A
    ·rw[F] at Y;cases Y)
   have aj:Hid (∀(V:World),Ext wr V->Calls Tryz.prog 228 #[.string (mkS y.name)] V fun e z=>e=.returned (.tuple #[.i (ee y.name:Int),.nilIface])/\Ext V z):=hY (fun V hV=>by
    refine(AT.o V hV).mono ?_;rintro e z ⟨Y,⟨v',A,h3⟩|⟨A,_⟩⟩
    ·rw[AK.o] at A
     cases A;exact⟨h3,Y⟩
    ·exact absurd AK.o (A _))
   have BS:=hY (vO W)
   have I:((UInt8.ofNat (ee y.name)).toNat:Int)=(ee y.name:Int):=by
    rw[UInt8.toNat_ofNat'];omega
   have HU:=hY I;clear L hg W AT AK n0 F H I X c;generalize ee y.name=nv at*;obtain⟨i0,hi,ae,ac,aa⟩:=info_parts sh;have Q:Hid ((j+1)*1<=140737488355328/\j+1<=maxLen):=hY ⟨by omega,by unfold maxLen;omega⟩;go_upto_region 17 with fail;generalize ah:wr.alloc _=W4 at*;clear ah;go_upto_region 18 with(go_at_call 228;refine(aj.o _ EY.o).m fun U N=>?_;have E5:=hY (EY.o.trans N.o));have E6:Hid (Ext wr (U.alloc (.cells #[.int .u8 (nv:Int)] 5))):=hY (E5.o.alloc _);have O:=hY (ak R.o E6.o);have S:=hY (World.news_of_block (aq U (.cells #[.int .u8 (nv:Int)] 5) _ rfl));have P:Hid (∀u∈([.int .u8 (nv:Int)]:List Value),u.oneCell'=true):=hY (by intro u I;simp only[aS,aT,or_false] at I;rw[I];rfl);have ai:Hid (W3.heap.size<=(U.alloc (.cells #[.int .u8 (nv:Int)] 5)).heap.size):=hY (aN E.o.size E6.o.size);have ap:(0:Int)<=(nv:Int):=by omega
   have al:(nv:Int)<=255:=by omega
   have XT:Hid (fI (ic (l.take j))++[.int .u8 (nv:Int)]=fI (ic (l.take (j+1)))):=hY (by rw[BS.o];unfold fI;rw[An,AC,FJ,HU.o]);go_wp2_with (at_builtin;refine wpList_append_lies _ rfl (.tmp 53) (.tmp 56) 32 rfl W3.heap.size 5 i0 _ 1 1 Tryz.underlying32 hi ae ac aa rfl (by decide) (.slice ad j cc) j (fI (ic (l.take j))) rfl O.o ⟨U.heap.size,0,none⟩ 1 1 [.int .u8 (nv:Int)] rfl rfl S.o P.o (by decide) Q.o.2 Q.o.1 ai.o _ rfl ?_;intro g6 q6 w7 a b ag J;rw[XT.o] at a;have OW:=hY a;have EG:=hY (vA (E.o.trans E6.o) O.o b);clear a b ag J);go_roundw
   case rel=>exact⟨j+1,_,by omega,by go_num,rfl,EG.o,OW.o⟩
   case measure=>simp[intOf];omega
  ·have s:j=l.length:=by omega
   have TX:Hid ((convert 32 9 (.slice ad j cc)).run Tryz.prog wr=.ok (.string (mkS (ic l))) wr):=hY (by
    have hr:=R.o;rw[s,Fz] at hr;rw[s];have K:(ic l).length=l.length:=by unfold ic;rw[se]
    rw[←K] at hr ⊢
    exact vN hr)
   have tx:=TX.o;obtain⟨z1,z2⟩:=blk ZJ.o;have EF:Hid (Ext w (((wr.setCell ⟨w.heap.size+1,0,none⟩ (.i 6)).setCell ⟨w.heap.size+1,1,none⟩ (.string (mkS (ic l)))).setCell ⟨w.heap.size+1,2,none⟩ (.slice none 0 0))):=hY (((t.o.setCell (Fy _) _).setCell (Fy _) _).setCell (Fy _) _);generalize mkS (ic l)=bs at*;clear s X c;go_wp2_with fail;exact bodyPost_ret (v:=.agg #[.i 6,.string bs,.slice none 0 0]) (by simp[results,Tryz.results167,go_sem,z1]) rfl (CP.o _ _ rfl EF.o)
theorem pj {l:List T}(h:T.FU l=true):∀y∈l,T.litOk y=true:=by
 rw[tG] at h;intro y a;exact pf.1 h y a
theorem pO {l:List T}(h:T.byts l=true):∀y∈l,T.byt y=true:=by
 rw[uo] at h;intro y a;exact pf.1 h y a
theorem sd (n:Nat):∀x:T,T.nd x<=n->T.litOk x=true->lQ x:=by
 induction n with
 |zero=>intro x h;have:=bG x;omega
 |succ n ih=>
  intro x f h;have b:∀y∈x.FN,T.nd y<=n:=fun y a=>by have:=aD a;omega
  obtain⟨k,e,d,c,l,p,pl⟩:=x;rw[T.litOk] at h;by_cases h8:k=8
  ·exact sf _ h8
  ·rw[if_neg h8] at h
   by_cases h9:9<=k/\k<=11
   ·exact kj _ (show k=9\/k=10\/k=11 by omega)
   ·rw[if_neg h9] at h
    by_cases h12:k=12
    ·rw[if_pos h12] at h
     simp only[gT] at h;exact kp _ h12 (fun y a=>ih y (b y a) (pj h.2 y a))
    ·rw[if_neg h12] at h
     by_cases h13:k=13
     ·rw[if_pos h13] at h
      simp only[gT] at h;exact ko _ h13 (pO h.2)
     ·rw[if_neg h13] at h;cases h
theorem eJ (x:T)(a:T.expr x=true)(e:9<=x.kind/\x.kind<=13):lQ x:=by
 obtain⟨k,h,g,f,l,p,pl⟩:=x;have d:9<=k/\k<=13:=e;rw[T.expr] at a;rw[if_neg (by omega)] at a
 split at a
 ·cases a
 ·rw[if_neg (by omega),if_neg (by omega),if_neg (by omega),if_neg (by omega)] at a
  by_cases h9:9<=k/\k<=11
  ·exact kj _ (show k=9\/k=10\/k=11 by omega)
  ·rw[if_neg (by omega),if_neg (by omega)] at a
   by_cases h12:k=12
   ·rw[if_pos h12] at a
    simp only[gT] at a;exact kp _ h12 (fun y c=>sd _ y (gE _) (pj a.2 y c))
   ·have b:k=13:=by omega
    rw[if_neg h12,if_pos b] at a;simp only[gT] at a;exact ko _ b (pO a.2)
theorem iW {base p:Nat}{w h b:World}{m l:Value}{F:List Nat}{s:GS}{n:List RgS}(r:aa base p w m l F s n h)(o:Ext h b)(z:s.FU.length<=bq)(x:Lit3)(a:Option Addr)(c:Nat)(v:dt b (tv h b) x [.i x.kind,.string (mkS x.text),.slice a x.list.length c]):Calls Tryz.prog 166 #[.pointer (some ⟨p,0,none⟩),.agg #[.i x.kind,.string (mkS x.text),.slice a x.list.length c]] b fun e w'=>e=.returned (.i ((s.lit x).2:Int))/\aa base p w m l F (s.lit x).1 n w':=by
 obtain⟨G,q,A⟩:=r;obtain⟨k,t,u⟩:=x;have j:=q;obtain⟨K,J,I,H,L,f⟩:=j;refine(pk base p b m l s n G (q.ext o) k t u a c (v.keep' (fun _ _=>rfl) (fun g d=>⟨?_,d.2,?_,?_⟩)) z).mono ?_
 ·have:=f.lo;have:=ab f.blk;have:=d.1;omega
 ·have:=ab f.blk;have:=d.1;omega
 ·intro y;have:=(f.inF g y).2.1;have:=d.1;omega
 ·rintro e w' ⟨D,E,C,B⟩
  exact⟨D,E,C,(A.trans (CM.FZ o)).trans B⟩
theorem AV (w:World)(op:Int):Calls Tryz.prog 231 #[.i op] w fun e w'=>e=.returned (.func (Fn.func 267) #[] #[.pointer (some ⟨w.heap.size,0,none⟩)])/\w'=w.alloc (.cells #[.i op] 89):=by
 go_enter Tryz.func231,Tryz.ntmps231;go_wp2_with fail;go_ret;exact⟨rfl,rfl⟩
theorem od (w:World)(op:Int):Calls Tryz.prog 233 #[.i op] w fun e w'=>e=.returned (.func (Fn.func 268) #[] #[.pointer (some ⟨w.heap.size,0,none⟩)])/\w'=w.alloc (.cells #[.i op] 89):=by
 go_enter Tryz.func233,Tryz.ntmps233;go_wp2_with fail;go_ret;exact⟨rfl,rfl⟩
theorem gF (w:World)(op:Int)(f:FuncId)(a:Array Value):Calls Tryz.prog 230 #[.i op,.func (Fn.func f) #[] a] w fun e w'=>e=.returned (.func (Fn.func 263) #[] #[.pointer (some ⟨w.heap.size,0,none⟩),.pointer (some ⟨w.heap.size+1,0,none⟩)])/\w'=(w.alloc (.cells #[.i op] 89)).alloc (.cells #[.func (Fn.func f) #[] a] 273):=by
 go_enter Tryz.func230,Tryz.ntmps230;go_wp2_with fail;go_ret;exact⟨rfl,rfl⟩
def dF (lo:Nat)(w:World)(v:Value)(skip a:Int):Prop:=∃e d b,(lo<=e/\lo<=d)/\v=.func (Fn.func 263) #[] #[.pointer (some ⟨e,0,none⟩),.pointer (some ⟨d,0,none⟩)]/\w.heap[e]?=some (.cells #[.i skip] 89)/\w.heap[d]?=some (.cells #[b] 273)/\((a=0/\b=.func (Fn.func 232) #[] #[])\/(a≠0/\∃c,lo<=c/\b=.func (Fn.func 267) #[] #[.pointer (some ⟨c,0,none⟩)]/\w.heap[c]?=some (.cells #[.i a] 89)))
def iK (lo:Nat)(w:World)(v:Value)(a:Int):Prop:=∃b,lo<=b/\v=.func (Fn.func 268) #[] #[.pointer (some ⟨b,0,none⟩)]/\w.heap[b]?=some (.cells #[.i a] 89)
def aV (w w':World):Prop:=∀(k:Nat) (a:Array Value) (T:TypeId),w.heap[k]?=some (.cells a T)->w'.heap[k]?=some (.cells a T)
theorem aV.trans {a b c:World}(h:aV a b)(k:aV b c):aV a c:=fun i d T e=>k i d T (h i d T e)
theorem aV.ext {a b:World}(h:Ext a b):aV a b:=fun i d T c=>h.keep c
theorem aV.map {w w':World}{m:Nat}{l:iA}(b:cW w m l)(h:Mod [m] w w'):aV w w':=fun i g T a=>h.keep a (by
 simp only[aS,aT,or_false];obtain⟨f,c,d,_⟩:=b
 exact ie a d (by intro e;cases e))
theorem dF.keep {lo:Nat}{w w':World}{v:Value}{s o:Int}(h:dF lo w v s o)(k:aV w w'):dF lo w' v s o:=by
 obtain⟨n,m,j,i,g,f,e,a⟩:=h;refine⟨n,m,j,i,g,k _ _ _ f,k _ _ _ e,?_⟩;rcases a with a|⟨a,l,b,d,c⟩
 ·exact .inl a
 ·exact .inr ⟨a,l,b,d,k _ _ _ c⟩
theorem iK.keep {lo:Nat}{w w':World}{v:Value}{s:Int}(h:iK lo w v s)(k:aV w w'):iK lo w' v s:=by
 obtain⟨d,c,b,a⟩:=h;exact⟨d,c,b,k _ _ _ a⟩
theorem oh (lo:Nat)(w:World)(b:lo<=w.heap.size)(skip a:Int)(c:a≠0):dF lo (((w.alloc (.cells #[.i a] 89)).alloc (.cells #[.i skip] 89)).alloc (.cells #[.func (Fn.func 267) #[] #[.pointer (some ⟨w.heap.size,0,none⟩)]] 273)) (.func (Fn.func 263) #[] #[.pointer (some ⟨w.heap.size+1,0,none⟩),.pointer (some ⟨w.heap.size+1+1,0,none⟩)]) skip a:=
 ⟨w.heap.size+1,w.heap.size+1+1,_,⟨by omega,by omega⟩,rfl,aM (aq _ _ _ (by simp)) _,aq _ _ _ (by simp),.inr ⟨c,w.heap.size,b,rfl,aM (aM (aq _ _ _ rfl) _) _⟩⟩
theorem qO (lo:Nat)(w:World)(a:lo<=w.heap.size)(skip:Int):dF lo ((w.alloc (.cells #[.i skip] 89)).alloc (.cells #[.func (Fn.func 232) #[] #[]] 273)) (.func (Fn.func 263) #[] #[.pointer (some ⟨w.heap.size,0,none⟩),.pointer (some ⟨w.heap.size+1,0,none⟩)]) skip 0:=
 ⟨w.heap.size,w.heap.size+1,_,⟨by omega,by omega⟩,rfl,aM (aq _ _ _ rfl) _,aq _ _ _ (by simp),.inl ⟨rfl,rfl⟩⟩
theorem oi (lo:Nat)(w:World)(b:lo<=w.heap.size)(a:Int):iK lo (w.alloc (.cells #[.i a] 89)) (.func (Fn.func 268) #[] #[.pointer (some ⟨w.heap.size,0,none⟩)]) a:=⟨w.heap.size,b,rfl,aq _ _ _ rfl⟩
def Fm (lo:Nat)(w:World)(o:Option Value)(k:Option (Bool×Int×Int)):Prop:=match k with
 |none=>o=none
 |some (false,skip,other)=>∃v,o=some v/\dF lo w v skip other
 |some (true,leave,_)=>∃v,o=some v/\iK lo w v leave
def Fo (w:World)(e:Ending)(w':World):Prop:=∃m l,e=.returned (.map (some m))/\Ext w w'/\cW w' m l/\∀n,Fm w.heap.size w' (lB l n) (aO n)
theorem fD (w:World):Calls Tryz.prog 169 #[] w (Fo w):=by
 have i0:=run_makeMap (P:=Tryz.prog) 238 w;have M0:=hY (cW.new w);have EW:Hid (Ext w (w.alloc (.map #[] 0))):=(Ext.refl w).alloc _;have Z0:Hid (w.heap.size<=(w.alloc (.map #[] 0)).heap.size):=hY EW.o.size;go_enter Tryz.func169,Tryz.ntmps169
 go_wp2_with (first
  |(have a:=M9;clear a;go_at_call 233;refine(od _ _).mono ?_;rintro e r ⟨rfl,rfl⟩;have W:Hid (Ext j (j.alloc (.cells #[.i 19] 89))):=hY (((Ext.refl j).alloc _));have K9:Hid (cW (j.alloc (.cells #[.i 19] 89)) w.heap.size _):=hY (M9.o.keep W.o);obtain⟨q,t,I,L⟩:=bU (P:=Tryz.prog) (j.alloc (.cells #[.i 19] 89)) Tryz.underlying238 Tryz.underlying9 K9.o [119,104,105,108,101,70,97,108,115,101] (.func (Fn.func 268) #[] #[.pointer (some ⟨j.heap.size,0,none⟩)]) (by simp);have V9:Hid (iK w.heap.size (j.alloc (.cells #[.i 19] 89)) (.func (Fn.func 268) #[] #[.pointer (some ⟨j.heap.size,0,none⟩)]) 19):=hY (oi w.heap.size j Z9.o 19);have aa:=hY I;have s:Hid (aV j q):=hY ((aV.ext W.o).trans (aV.map K9.o L));have X9:Hid (aV (j.alloc (.cells #[.i 19] 89)) q):=hY (aV.map K9.o L);have Y9:Hid (Mod [w.heap.size] (j.alloc (.cells #[.i 19] 89)) q):=hY L;have ab:Hid (w.heap.size<=q.heap.size):=hY (aN Z9.o (aN W.o.size Y9.o.size));clear I L;replace t:(Instr.mapUpdate 238 (.map (some w.heap.size)) (.string {data:=#[119,104,105,108,101,70,97,108,115,101]}) (.func (Fn.func 268) #[] #[.pointer (some ⟨j.heap.size,0,none⟩)])).run Tryz.prog (j.alloc (.cells #[.i 19] 89))=.ok () q:=t)
  |(have a:=M8;clear a;go_at_call 233;refine(od _ _).mono ?_;rintro e r ⟨rfl,rfl⟩;have X:Hid (Ext l (l.alloc (.cells #[.i 20] 89))):=hY (((Ext.refl l).alloc _));have K8:Hid (cW (l.alloc (.cells #[.i 20] 89)) w.heap.size _):=hY (M8.o.keep X.o);obtain⟨j,u,m9,M⟩:=bU (P:=Tryz.prog) (l.alloc (.cells #[.i 20] 89)) Tryz.underlying238 Tryz.underlying9 K8.o [119,104,105,108,101,84,114,117,101] (.func (Fn.func 268) #[] #[.pointer (some ⟨l.heap.size,0,none⟩)]) (by simp);have V8:Hid (iK w.heap.size (l.alloc (.cells #[.i 20] 89)) (.func (Fn.func 268) #[] #[.pointer (some ⟨l.heap.size,0,none⟩)]) 20):=hY (oi w.heap.size l Z8.o 20);have M9:=hY m9;have E:Hid (aV l j):=hY ((aV.ext X.o).trans (aV.map K8.o M));have X8:Hid (aV (l.alloc (.cells #[.i 20] 89)) j):=hY (aV.map K8.o M);have Y8:Hid (Mod [w.heap.size] (l.alloc (.cells #[.i 20] 89)) j):=hY M;have Z9:Hid (w.heap.size<=j.heap.size):=hY (aN Z8.o (aN X.o.size Y8.o.size));clear m9 M;replace u:(Instr.mapUpdate 238 (.map (some w.heap.size)) (.string {data:=#[119,104,105,108,101,84,114,117,101]}) (.func (Fn.func 268) #[] #[.pointer (some ⟨l.heap.size,0,none⟩)])).run Tryz.prog (l.alloc (.cells #[.i 20] 89))=.ok () j:=u)
  |(have a:=M7;clear a;go_at_call 233;refine(od _ _).mono ?_;rintro e r ⟨rfl,rfl⟩;have Y:Hid (Ext m (m.alloc (.cells #[.i 19] 89))):=hY (((Ext.refl m).alloc _));have K7:Hid (cW (m.alloc (.cells #[.i 19] 89)) w.heap.size _):=hY (M7.o.keep Y.o);obtain⟨l,v,m8,N⟩:=bU (P:=Tryz.prog) (m.alloc (.cells #[.i 19] 89)) Tryz.underlying238 Tryz.underlying9 K7.o [119,104,105,108,101,70,97,108,115,101,58] (.func (Fn.func 268) #[] #[.pointer (some ⟨m.heap.size,0,none⟩)]) (by simp);have V7:Hid (iK w.heap.size (m.alloc (.cells #[.i 19] 89)) (.func (Fn.func 268) #[] #[.pointer (some ⟨m.heap.size,0,none⟩)]) 19):=hY (oi w.heap.size m Z7.o 19);have M8:=hY m8;have F:Hid (aV m l):=hY ((aV.ext Y.o).trans (aV.map K7.o N));have X7:Hid (aV (m.alloc (.cells #[.i 19] 89)) l):=hY (aV.map K7.o N);have Y7:Hid (Mod [w.heap.size] (m.alloc (.cells #[.i 19] 89)) l):=hY N;have Z8:Hid (w.heap.size<=l.heap.size):=hY (aN Z7.o (aN Y.o.size Y7.o.size));clear m8 N;replace v:(Instr.mapUpdate 238 (.map (some w.heap.size)) (.string {data:=#[119,104,105,108,101,70,97,108,115,101,58]}) (.func (Fn.func 268) #[] #[.pointer (some ⟨m.heap.size,0,none⟩)])).run Tryz.prog (m.alloc (.cells #[.i 19] 89))=.ok () l:=v)
  |(have a:=M6;clear a;go_at_call 233;refine(od _ _).mono ?_;rintro e r ⟨rfl,rfl⟩;have Z:Hid (Ext p (p.alloc (.cells #[.i 20] 89))):=hY (((Ext.refl p).alloc _));have K6:Hid (cW (p.alloc (.cells #[.i 20] 89)) w.heap.size _):=hY (M6.o.keep Z.o);obtain⟨m,x,m7,O⟩:=bU (P:=Tryz.prog) (p.alloc (.cells #[.i 20] 89)) Tryz.underlying238 Tryz.underlying9 K6.o [119,104,105,108,101,84,114,117,101,58] (.func (Fn.func 268) #[] #[.pointer (some ⟨p.heap.size,0,none⟩)]) (by simp);have V6:Hid (iK w.heap.size (p.alloc (.cells #[.i 20] 89)) (.func (Fn.func 268) #[] #[.pointer (some ⟨p.heap.size,0,none⟩)]) 20):=hY (oi w.heap.size p Z6.o 20);have M7:=hY m7;have H:Hid (aV p m):=hY ((aV.ext Z.o).trans (aV.map K6.o O));have X6:Hid (aV (p.alloc (.cells #[.i 20] 89)) m):=hY (aV.map K6.o O);have Y6:Hid (Mod [w.heap.size] (p.alloc (.cells #[.i 20] 89)) m):=hY O;have Z7:Hid (w.heap.size<=m.heap.size):=hY (aN Z6.o (aN Z.o.size Y6.o.size));clear m7 O;replace x:(Instr.mapUpdate 238 (.map (some w.heap.size)) (.string {data:=#[119,104,105,108,101,84,114,117,101,58]}) (.func (Fn.func 268) #[] #[.pointer (some ⟨p.heap.size,0,none⟩)])).run Tryz.prog (p.alloc (.cells #[.i 20] 89))=.ok () m:=x)
  |(have a:=M5;clear a;go_at_call 230;refine(gF _ _ _ _).mono ?_;rintro e r ⟨rfl,rfl⟩;have E5:Hid (Ext b (((b.alloc (.cells #[.i 3] 89)).alloc (.cells #[.i 19] 89)).alloc (.cells #[.func (Fn.func 267) #[] #[.pointer (some ⟨b.heap.size,0,none⟩)]] 273))):=hY (((((Ext.refl b).alloc _).alloc _).alloc _));have K5:Hid (cW (((b.alloc (.cells #[.i 3] 89)).alloc (.cells #[.i 19] 89)).alloc (.cells #[.func (Fn.func 267) #[] #[.pointer (some ⟨b.heap.size,0,none⟩)]] 273)) w.heap.size _):=hY (M5.o.keep E5.o);obtain⟨p,y,m6,Q⟩:=bU (P:=Tryz.prog) (((b.alloc (.cells #[.i 3] 89)).alloc (.cells #[.i 19] 89)).alloc (.cells #[.func (Fn.func 267) #[] #[.pointer (some ⟨b.heap.size,0,none⟩)]] 273)) Tryz.underlying238 Tryz.underlying9 K5.o [111,114,58] (.func (Fn.func 263) #[] #[.pointer (some ⟨b.heap.size+1,0,none⟩),.pointer (some ⟨b.heap.size+1+1,0,none⟩)]) (by simp);have V5:Hid (dF w.heap.size (((b.alloc (.cells #[.i 3] 89)).alloc (.cells #[.i 19] 89)).alloc (.cells #[.func (Fn.func 267) #[] #[.pointer (some ⟨b.heap.size,0,none⟩)]] 273)) (.func (Fn.func 263) #[] #[.pointer (some ⟨b.heap.size+1,0,none⟩),.pointer (some ⟨b.heap.size+1+1,0,none⟩)]) 19 3):=hY (oh w.heap.size b Z5.o 19 3 (by decide));have M6:=hY m6;have K:Hid (aV b p):=hY ((aV.ext E5.o).trans (aV.map K5.o Q));have X5:Hid (aV (((b.alloc (.cells #[.i 3] 89)).alloc (.cells #[.i 19] 89)).alloc (.cells #[.func (Fn.func 267) #[] #[.pointer (some ⟨b.heap.size,0,none⟩)]] 273)) p):=hY (aV.map K5.o Q);have Y5:Hid (Mod [w.heap.size] (((b.alloc (.cells #[.i 3] 89)).alloc (.cells #[.i 19] 89)).alloc (.cells #[.func (Fn.func 267) #[] #[.pointer (some ⟨b.heap.size,0,none⟩)]] 273)) p):=hY Q;have Z6:Hid (w.heap.size<=p.heap.size):=hY (aN Z5.o (aN E5.o.size Y5.o.size));clear m6 Q;replace y:(Instr.mapUpdate 238 (.map (some w.heap.size)) (.string {data:=#[111,114,58]}) (.func (Fn.func 263) #[] #[.pointer (some ⟨b.heap.size+1,0,none⟩),.pointer (some ⟨b.heap.size+1+1,0,none⟩)])).run Tryz.prog (((b.alloc (.cells #[.i 3] 89)).alloc (.cells #[.i 19] 89)).alloc (.cells #[.func (Fn.func 267) #[] #[.pointer (some ⟨b.heap.size,0,none⟩)]] 273))=.ok () p:=y)
  |(have a:=M4;clear a;go_at_call 230;refine(gF _ _ _ _).mono ?_;rintro e r ⟨rfl,rfl⟩;have E4:Hid (Ext c (((c.alloc (.cells #[.i 4] 89)).alloc (.cells #[.i 20] 89)).alloc (.cells #[.func (Fn.func 267) #[] #[.pointer (some ⟨c.heap.size,0,none⟩)]] 273))):=hY (((((Ext.refl c).alloc _).alloc _).alloc _));have K4:Hid (cW (((c.alloc (.cells #[.i 4] 89)).alloc (.cells #[.i 20] 89)).alloc (.cells #[.func (Fn.func 267) #[] #[.pointer (some ⟨c.heap.size,0,none⟩)]] 273)) w.heap.size _):=hY (M4.o.keep E4.o);obtain⟨b,z,m5,R⟩:=bU (P:=Tryz.prog) (((c.alloc (.cells #[.i 4] 89)).alloc (.cells #[.i 20] 89)).alloc (.cells #[.func (Fn.func 267) #[] #[.pointer (some ⟨c.heap.size,0,none⟩)]] 273)) Tryz.underlying238 Tryz.underlying9 K4.o [97,110,100,58] (.func (Fn.func 263) #[] #[.pointer (some ⟨c.heap.size+1,0,none⟩),.pointer (some ⟨c.heap.size+1+1,0,none⟩)]) (by simp);have V4:Hid (dF w.heap.size (((c.alloc (.cells #[.i 4] 89)).alloc (.cells #[.i 20] 89)).alloc (.cells #[.func (Fn.func 267) #[] #[.pointer (some ⟨c.heap.size,0,none⟩)]] 273)) (.func (Fn.func 263) #[] #[.pointer (some ⟨c.heap.size+1,0,none⟩),.pointer (some ⟨c.heap.size+1+1,0,none⟩)]) 20 4):=hY (oh w.heap.size c Z4.o 20 4 (by decide));have M5:=hY m5;have D4:Hid (aV c b):=hY ((aV.ext E4.o).trans (aV.map K4.o R));have X4:Hid (aV (((c.alloc (.cells #[.i 4] 89)).alloc (.cells #[.i 20] 89)).alloc (.cells #[.func (Fn.func 267) #[] #[.pointer (some ⟨c.heap.size,0,none⟩)]] 273)) b):=hY (aV.map K4.o R);have Y4:Hid (Mod [w.heap.size] (((c.alloc (.cells #[.i 4] 89)).alloc (.cells #[.i 20] 89)).alloc (.cells #[.func (Fn.func 267) #[] #[.pointer (some ⟨c.heap.size,0,none⟩)]] 273)) b):=hY R;have Z5:Hid (w.heap.size<=b.heap.size):=hY (aN Z4.o (aN E4.o.size Y4.o.size));clear m5 R;replace z:(Instr.mapUpdate 238 (.map (some w.heap.size)) (.string {data:=#[97,110,100,58]}) (.func (Fn.func 263) #[] #[.pointer (some ⟨c.heap.size+1,0,none⟩),.pointer (some ⟨c.heap.size+1+1,0,none⟩)])).run Tryz.prog (((c.alloc (.cells #[.i 4] 89)).alloc (.cells #[.i 20] 89)).alloc (.cells #[.func (Fn.func 267) #[] #[.pointer (some ⟨c.heap.size,0,none⟩)]] 273))=.ok () b:=z)
  |(have a:=M3;clear a;go_at_call 230;refine(gF _ _ _ _).mono ?_;rintro e r ⟨rfl,rfl⟩;have E3:Hid (Ext f ((f.alloc (.cells #[.i 19] 89)).alloc (.cells #[.func (Fn.func 232) #[] #[]] 273))):=hY ((((Ext.refl f).alloc _).alloc _));have K3:Hid (cW ((f.alloc (.cells #[.i 19] 89)).alloc (.cells #[.func (Fn.func 232) #[] #[]] 273)) w.heap.size _):=hY (M3.o.keep E3.o);obtain⟨c,A,m4,S⟩:=bU (P:=Tryz.prog) ((f.alloc (.cells #[.i 19] 89)).alloc (.cells #[.func (Fn.func 232) #[] #[]] 273)) Tryz.underlying238 Tryz.underlying9 K3.o [105,102,70,97,108,115,101,58,105,102,84,114,117,101,58] (.func (Fn.func 263) #[] #[.pointer (some ⟨f.heap.size,0,none⟩),.pointer (some ⟨f.heap.size+1,0,none⟩)]) (by simp);have V3:Hid (dF w.heap.size ((f.alloc (.cells #[.i 19] 89)).alloc (.cells #[.func (Fn.func 232) #[] #[]] 273)) (.func (Fn.func 263) #[] #[.pointer (some ⟨f.heap.size,0,none⟩),.pointer (some ⟨f.heap.size+1,0,none⟩)]) 19 0):=hY (qO w.heap.size f Z3.o 19);have M4:=hY m4;have D3:Hid (aV f c):=hY ((aV.ext E3.o).trans (aV.map K3.o S));have X3:Hid (aV ((f.alloc (.cells #[.i 19] 89)).alloc (.cells #[.func (Fn.func 232) #[] #[]] 273)) c):=hY (aV.map K3.o S);have Y3:Hid (Mod [w.heap.size] ((f.alloc (.cells #[.i 19] 89)).alloc (.cells #[.func (Fn.func 232) #[] #[]] 273)) c):=hY S;have Z4:Hid (w.heap.size<=c.heap.size):=hY (aN Z3.o (aN E3.o.size Y3.o.size));clear m4 S;replace A:(Instr.mapUpdate 238 (.map (some w.heap.size)) (.string {data:=#[105,102,70,97,108,115,101,58,105,102,84,114,117,101,58]}) (.func (Fn.func 263) #[] #[.pointer (some ⟨f.heap.size,0,none⟩),.pointer (some ⟨f.heap.size+1,0,none⟩)])).run Tryz.prog ((f.alloc (.cells #[.i 19] 89)).alloc (.cells #[.func (Fn.func 232) #[] #[]] 273))=.ok () c:=A)
  |(have a:=M2;clear a;go_at_call 230;refine(gF _ _ _ _).mono ?_;rintro e r ⟨rfl,rfl⟩;have E2:Hid (Ext g ((g.alloc (.cells #[.i 20] 89)).alloc (.cells #[.func (Fn.func 232) #[] #[]] 273))):=hY ((((Ext.refl g).alloc _).alloc _));have K2:Hid (cW ((g.alloc (.cells #[.i 20] 89)).alloc (.cells #[.func (Fn.func 232) #[] #[]] 273)) w.heap.size _):=hY (M2.o.keep E2.o);obtain⟨f,B,m3,U⟩:=bU (P:=Tryz.prog) ((g.alloc (.cells #[.i 20] 89)).alloc (.cells #[.func (Fn.func 232) #[] #[]] 273)) Tryz.underlying238 Tryz.underlying9 K2.o [105,102,84,114,117,101,58,105,102,70,97,108,115,101,58] (.func (Fn.func 263) #[] #[.pointer (some ⟨g.heap.size,0,none⟩),.pointer (some ⟨g.heap.size+1,0,none⟩)]) (by simp);have V2:Hid (dF w.heap.size ((g.alloc (.cells #[.i 20] 89)).alloc (.cells #[.func (Fn.func 232) #[] #[]] 273)) (.func (Fn.func 263) #[] #[.pointer (some ⟨g.heap.size,0,none⟩),.pointer (some ⟨g.heap.size+1,0,none⟩)]) 20 0):=hY (qO w.heap.size g Z2.o 20);have M3:=hY m3;have D2:Hid (aV g f):=hY ((aV.ext E2.o).trans (aV.map K2.o U));have X2:Hid (aV ((g.alloc (.cells #[.i 20] 89)).alloc (.cells #[.func (Fn.func 232) #[] #[]] 273)) f):=hY (aV.map K2.o U);have Y2:Hid (Mod [w.heap.size] ((g.alloc (.cells #[.i 20] 89)).alloc (.cells #[.func (Fn.func 232) #[] #[]] 273)) f):=hY U;have Z3:Hid (w.heap.size<=f.heap.size):=hY (aN Z2.o (aN E2.o.size Y2.o.size));clear m3 U;replace B:(Instr.mapUpdate 238 (.map (some w.heap.size)) (.string {data:=#[105,102,84,114,117,101,58,105,102,70,97,108,115,101,58]}) (.func (Fn.func 263) #[] #[.pointer (some ⟨g.heap.size,0,none⟩),.pointer (some ⟨g.heap.size+1,0,none⟩)])).run Tryz.prog ((g.alloc (.cells #[.i 20] 89)).alloc (.cells #[.func (Fn.func 232) #[] #[]] 273))=.ok () f:=B)
  |(have a:=M1;clear a;go_at_call 230;refine(gF _ _ _ _).mono ?_;rintro e r ⟨rfl,rfl⟩;have E1:Hid (Ext d (((d.alloc (.cells #[.i 2] 89)).alloc (.cells #[.i 19] 89)).alloc (.cells #[.func (Fn.func 267) #[] #[.pointer (some ⟨d.heap.size,0,none⟩)]] 273))):=hY (((((Ext.refl d).alloc _).alloc _).alloc _));have K1:Hid (cW (((d.alloc (.cells #[.i 2] 89)).alloc (.cells #[.i 19] 89)).alloc (.cells #[.func (Fn.func 267) #[] #[.pointer (some ⟨d.heap.size,0,none⟩)]] 273)) w.heap.size _):=hY (M1.o.keep E1.o);obtain⟨g,C,m2,V⟩:=bU (P:=Tryz.prog) (((d.alloc (.cells #[.i 2] 89)).alloc (.cells #[.i 19] 89)).alloc (.cells #[.func (Fn.func 267) #[] #[.pointer (some ⟨d.heap.size,0,none⟩)]] 273)) Tryz.underlying238 Tryz.underlying9 K1.o [105,102,70,97,108,115,101,58] (.func (Fn.func 263) #[] #[.pointer (some ⟨d.heap.size+1,0,none⟩),.pointer (some ⟨d.heap.size+1+1,0,none⟩)]) (by simp);have V1:Hid (dF w.heap.size (((d.alloc (.cells #[.i 2] 89)).alloc (.cells #[.i 19] 89)).alloc (.cells #[.func (Fn.func 267) #[] #[.pointer (some ⟨d.heap.size,0,none⟩)]] 273)) (.func (Fn.func 263) #[] #[.pointer (some ⟨d.heap.size+1,0,none⟩),.pointer (some ⟨d.heap.size+1+1,0,none⟩)]) 19 2):=hY (oh w.heap.size d Z1.o 19 2 (by decide));have M2:=hY m2;have D1:Hid (aV d g):=hY ((aV.ext E1.o).trans (aV.map K1.o V));have X1:Hid (aV (((d.alloc (.cells #[.i 2] 89)).alloc (.cells #[.i 19] 89)).alloc (.cells #[.func (Fn.func 267) #[] #[.pointer (some ⟨d.heap.size,0,none⟩)]] 273)) g):=hY (aV.map K1.o V);have Y1:Hid (Mod [w.heap.size] (((d.alloc (.cells #[.i 2] 89)).alloc (.cells #[.i 19] 89)).alloc (.cells #[.func (Fn.func 267) #[] #[.pointer (some ⟨d.heap.size,0,none⟩)]] 273)) g):=hY V;have Z2:Hid (w.heap.size<=g.heap.size):=hY (aN Z1.o (aN E1.o.size Y1.o.size));clear m2 V;replace C:(Instr.mapUpdate 238 (.map (some w.heap.size)) (.string {data:=#[105,102,70,97,108,115,101,58]}) (.func (Fn.func 263) #[] #[.pointer (some ⟨d.heap.size+1,0,none⟩),.pointer (some ⟨d.heap.size+1+1,0,none⟩)])).run Tryz.prog (((d.alloc (.cells #[.i 2] 89)).alloc (.cells #[.i 19] 89)).alloc (.cells #[.func (Fn.func 267) #[] #[.pointer (some ⟨d.heap.size,0,none⟩)]] 273))=.ok () g:=C)
  |(have a:=M0;clear a;go_at_call 230;refine(gF _ _ _ _).mono ?_;rintro e r ⟨rfl,rfl⟩;have E0:Hid (Ext (w.alloc (.map #[] 0)) ((((w.alloc (.map #[] 0)).alloc (.cells #[.i 2] 89)).alloc (.cells #[.i 20] 89)).alloc (.cells #[.func (Fn.func 267) #[] #[.pointer (some ⟨w.heap.size+1,0,none⟩)]] 273))):=hY (((((Ext.refl (w.alloc (.map #[] 0))).alloc _).alloc _).alloc _));have K0:Hid (cW ((((w.alloc (.map #[] 0)).alloc (.cells #[.i 2] 89)).alloc (.cells #[.i 20] 89)).alloc (.cells #[.func (Fn.func 267) #[] #[.pointer (some ⟨w.heap.size+1,0,none⟩)]] 273)) w.heap.size _):=hY (M0.o.keep E0.o);obtain⟨d,D,m1,d0⟩:=bU (P:=Tryz.prog) ((((w.alloc (.map #[] 0)).alloc (.cells #[.i 2] 89)).alloc (.cells #[.i 20] 89)).alloc (.cells #[.func (Fn.func 267) #[] #[.pointer (some ⟨w.heap.size+1,0,none⟩)]] 273)) Tryz.underlying238 Tryz.underlying9 K0.o [105,102,84,114,117,101,58] (.func (Fn.func 263) #[] #[.pointer (some ⟨w.heap.size+1+1,0,none⟩),.pointer (some ⟨w.heap.size+1+1+1,0,none⟩)]) (by simp);have V0:Hid (dF w.heap.size ((((w.alloc (.map #[] 0)).alloc (.cells #[.i 2] 89)).alloc (.cells #[.i 20] 89)).alloc (.cells #[.func (Fn.func 267) #[] #[.pointer (some ⟨w.heap.size+1,0,none⟩)]] 273)) (.func (Fn.func 263) #[] #[.pointer (some ⟨w.heap.size+1+1,0,none⟩),.pointer (some ⟨w.heap.size+1+1+1,0,none⟩)]) 20 2):=hY (by have h:=oh w.heap.size (w.alloc (.map #[] 0)) Z0.o 20 2 (by decide);rw[show(w.alloc (Obj.map #[] 0)).heap.size=w.heap.size+1 by simp] at h;exact h);have M1:=hY m1;have D0:Hid (aV (w.alloc (.map #[] 0)) d):=hY ((aV.ext E0.o).trans (aV.map K0.o d0));have X0:Hid (aV ((((w.alloc (.map #[] 0)).alloc (.cells #[.i 2] 89)).alloc (.cells #[.i 20] 89)).alloc (.cells #[.func (Fn.func 267) #[] #[.pointer (some ⟨w.heap.size+1,0,none⟩)]] 273)) d):=hY (aV.map K0.o d0);have Y0:Hid (Mod [w.heap.size] ((((w.alloc (.map #[] 0)).alloc (.cells #[.i 2] 89)).alloc (.cells #[.i 20] 89)).alloc (.cells #[.func (Fn.func 267) #[] #[.pointer (some ⟨w.heap.size+1,0,none⟩)]] 273)) d):=hY d0;have Z1:Hid (w.heap.size<=d.heap.size):=hY (aN Z0.o (aN E0.o.size Y0.o.size));clear m1 d0;replace D:(Instr.mapUpdate 238 (.map (some w.heap.size)) (.string {data:=#[105,102,84,114,117,101,58]}) (.func (Fn.func 263) #[] #[.pointer (some ⟨w.heap.size+1+1,0,none⟩),.pointer (some ⟨w.heap.size+1+1+1,0,none⟩)])).run Tryz.prog ((((w.alloc (.map #[] 0)).alloc (.cells #[.i 2] 89)).alloc (.cells #[.i 20] 89)).alloc (.cells #[.func (Fn.func 267) #[] #[.pointer (some ⟨w.heap.size+1,0,none⟩)]] 273))=.ok () d:=D)
  |(go_at_call 231;refine(AV _ _).mono ?_;rintro e r ⟨rfl,rfl⟩))
 have J:=((((((((((E0.o.mod [w.heap.size]).trans Y0.o).trans ((E1.o.mod [w.heap.size]).trans Y1.o)).trans ((E2.o.mod [w.heap.size]).trans Y2.o)).trans ((E3.o.mod [w.heap.size]).trans Y3.o)).trans ((E4.o.mod [w.heap.size]).trans Y4.o)).trans ((E5.o.mod [w.heap.size]).trans Y5.o)).trans ((Z.o.mod [w.heap.size]).trans Y6.o)).trans ((Y.o.mod [w.heap.size]).trans Y7.o)).trans ((X.o.mod [w.heap.size]).trans Y8.o)).trans ((W.o.mod [w.heap.size]).trans Y9.o)
 have EF:Ext w q:=by
  have G:=EW.o;refine⟨J.os.trans G.os,J.tape.trans G.tape,J.output.trans G.output,aN G.size J.size,fun k hk=>?_⟩;rw[J.block k (bA hk G.size) (by simp only[aS,aT,or_false];omega)];exact G.block hk
 go_ret;refine⟨w.heap.size,_,rfl,EF,aa.o,fun n=>?_⟩;unfold aO;by_cases h0:n=[105,102,84,114,117,101,58]
 ·rw[if_pos h0]
  subst h0;exact⟨_,rfl,V0.o.keep ((((((((((X0.o).trans D1.o).trans D2.o).trans D3.o).trans D4.o).trans K.o).trans H.o).trans F.o).trans E.o).trans s.o)⟩
 rw[if_neg h0];by_cases h1:n=[105,102,70,97,108,115,101,58]
 ·rw[if_pos h1]
  subst h1;exact⟨_,rfl,V1.o.keep (((((((((X1.o).trans D2.o).trans D3.o).trans D4.o).trans K.o).trans H.o).trans F.o).trans E.o).trans s.o)⟩
 rw[if_neg h1];by_cases h2:n=[105,102,84,114,117,101,58,105,102,70,97,108,115,101,58]
 ·rw[if_pos h2]
  subst h2;exact⟨_,rfl,V2.o.keep ((((((((X2.o).trans D3.o).trans D4.o).trans K.o).trans H.o).trans F.o).trans E.o).trans s.o)⟩
 rw[if_neg h2];by_cases h3:n=[105,102,70,97,108,115,101,58,105,102,84,114,117,101,58]
 ·rw[if_pos h3]
  subst h3;exact⟨_,rfl,V3.o.keep (((((((X3.o).trans D4.o).trans K.o).trans H.o).trans F.o).trans E.o).trans s.o)⟩
 rw[if_neg h3];by_cases h4:n=[97,110,100,58]
 ·rw[if_pos h4]
  subst h4;exact⟨_,rfl,V4.o.keep ((((((X4.o).trans K.o).trans H.o).trans F.o).trans E.o).trans s.o)⟩
 rw[if_neg h4];by_cases h5:n=[111,114,58]
 ·rw[if_pos h5]
  subst h5;exact⟨_,rfl,V5.o.keep (((((X5.o).trans H.o).trans F.o).trans E.o).trans s.o)⟩
 rw[if_neg h5];by_cases h6:n=de++[84,114,117,101,58]
 ·rw[if_pos h6]
  subst h6;exact⟨_,rfl,V6.o.keep ((((X6.o).trans F.o).trans E.o).trans s.o)⟩
 rw[if_neg h6];by_cases h7:n=de++[70,97,108,115,101,58]
 ·rw[if_pos h7]
  subst h7;exact⟨_,rfl,V7.o.keep (((X7.o).trans E.o).trans s.o)⟩
 rw[if_neg h7];by_cases h8:n=de++[84,114,117,101]
 ·rw[if_pos h8]
  subst h8;exact⟨_,rfl,V8.o.keep ((X8.o).trans s.o)⟩
 rw[if_neg h8];by_cases h9:n=de++[70,97,108,115,101]
 ·rw[if_pos h9]
  subst h9;exact⟨_,rfl,V9.o.keep (X9.o)⟩
 rw[if_neg h9];show lB _ n=none
 replace h0:¬[105,102,84,114,117,101,58]=n:=fun e=>h0 e.symm
 replace h1:¬[105,102,70,97,108,115,101,58]=n:=fun e=>h1 e.symm
 replace h2:¬[105,102,84,114,117,101,58,105,102,70,97,108,115,101,58]=n:=fun e=>h2 e.symm
 replace h3:¬[105,102,70,97,108,115,101,58,105,102,84,114,117,101,58]=n:=fun e=>h3 e.symm
 replace h4:¬[97,110,100,58]=n:=fun e=>h4 e.symm
 replace h5:¬[111,114,58]=n:=fun e=>h5 e.symm
 replace h6:¬[119,104,105,108,101,84,114,117,101,58]=n:=fun e=>h6 e.symm
 replace h7:¬[119,104,105,108,101,70,97,108,115,101,58]=n:=fun e=>h7 e.symm
 replace h8:¬[119,104,105,108,101,84,114,117,101]=n:=fun e=>h8 e.symm
 replace h9:¬[119,104,105,108,101,70,97,108,115,101]=n:=fun e=>h9 e.symm
 simp only[lE,kq,lB];rw[if_neg h0,if_neg h1,if_neg h2,if_neg h3,if_neg h4,if_neg h5,if_neg h6,if_neg h7,if_neg h8,if_neg h9]
def ft (x:T):Bool:=cP x.name x.FN
theorem oj (n:BL)(v:T)(a:List T):cP n (v::a)=((if de.isPrefixOf n then v::a else a).all aY&&!db v):=rfl
theorem oY (y:T):aY y=(y.kind==2&&(y.FP.length+y.FQ.length==0)):=by
 unfold aY;rw[Bool.and_assoc]
 congr 1
 cases y.FP with
 |nil=>cases y.FQ<;>rfl
 |cons a r=>simp
theorem pS (q:T->Bool){l:List T}{j:Nat}{y:T}(a:l[j]?=some y):(l.drop j).all q=(q y&&(l.drop (j+1)).all q):=by
 obtain⟨b,c⟩:=aC.1 a;rw[hI b,c,x0]
theorem tP (x v:T)(C:List T)(I:x.FN=v::C)(w:World)(top:Nat)(b:top<=w.heap.size)(Y:Option Addr)(S:Nat)(X:Option Addr)(R:Nat)(U:Option Addr)(B:Nat)(O:bK w top x Y S X R U B)(hp:de.isPrefixOf x.name=true)(aj:B≠1):Calls Tryz.prog 170 #[.agg (af x.kind x.name x.FP.length x.FQ.length x.FN.length x.FY x.FR Y S X R U B)] w fun e w'=>e=.returned (.bool (ft x))/\Ext w w':=by
 have u:=xal w x Y S X R U B;have KE:=hY (bt w (aB x.kind x.name x.FP.length x.FQ.length x.FN.length x.FY x.FR Y S X R U B) 26);have q1:=(KE.o _ (Ext.refl _)).1;have ac:x.FN.length<=1048576:=O.FN.small;have M:x.FN.length<=B:=O.FN.cap
 have ag:Hid (Lib.hasPrefix (mkS x.name).data.toList ({data:=#[119,104,105,108,101]}:ByteArray).data.toList=true):=hY (by
  show([119,104,105,108,101]:List UInt8).isPrefixOf (mkS x.name).data.toList=true
  rw[show(mkS x.name).data.toList=x.name from aG _]
  exact hp)
 have G:Hid (ft x=((v::C).all aY&&!db v)):=hY (by unfold ft;rw[I,oj,hp];rfl);obtain⟨g,aa,b1,d1,b2,d2,b3,d3,rfl,Q,N,ae⟩:=O.FN.seven (j:=0) (x:=v) (by rw[I];rfl);rw[np,ks] at N;have SV:=hY (fun(V:World) (hV:Ext w V)=>N.keep (am hV b g Q));have r:x.FN.length=C.length+1:=by rw[I];rfl
 have NB:=hY (fun(V:World) (hV:Ext w V)=>(show NAt V top (some ⟨g,aa,none⟩) B (v::C) by rw[←I];exact O.FN.keep (am hV b)))
 have t:Hid (db v=(v.kind==8&&decide (v.name=bm))):=hY (by
  obtain⟨k,n,ns,ts,l,pr,pl⟩:=v;show(k==8&&n==bm)=(k==8&&decide (n=bm))
  congr 1
  rw[rW];simp)
 have c:((mkS v.name).toList==[115,117,112,101,114])=decide (v.name=bm):=by rw[cO,aG];rfl
 have a:((mkS v.name).toList !=[115,117,112,101,114])=!decide (v.name=bm):=by rw[bne,c]
 have TW:=hY b;rw[r] at u KE q1 ac M ⊢;clear O ae N Q I r b;obtain⟨bl,z⟩:∃bl,bl=v::C:=⟨_,rfl⟩;rw[←z] at NB G;have d:bl.length=C.length+1:=by rw[z];rfl
 have ah:=hY d;clear z d;generalize C.length=m at*;generalize db v=Z at*;generalize x.kind=k at*;generalize x.name=nm at*;generalize x.FP.length=n1 at*;generalize x.FQ.length=n2 at*;generalize x.FY=pr at*;generalize x.FR=pl at*;go_enter Tryz.func170,Tryz.ntmps170;go_upto_region 1 with fail;generalize ad:w.alloc _=W1 at*;clear ad;have PX:=hY (fun(W:World)=>Tryz.strings_HasPrefix (mkS nm) {data:=#[119,104,105,108,101]} W);rw[ag.o] at PX;go_upto_region 5 with(first|(go_at_call 234;refine(PX.o _).m fun w2 ab=>?_;obtain rfl:W1=w2:=ab.o.symm))
 go_loopw [16] (fun i wr=>∃j:Nat,j<=bl.length/\i=.i j/\Ext W1 wr/\bl.all aY=(bl.drop j).all aY) (fun i _=>bl.length-(intOf i).toNat)
 case atStart=>exact⟨0,by omega,rfl,Ext.refl _,rfl⟩
 case round=>
  obtain⟨j,hj,rfl,hE,hF⟩:=hrel;have E:=hY hE;have F:=hY hF;clear hE hF q1;have q1:=(KE.o _ E.o).1;have d:=ah.o;by_cases hlt:j<m+1
  ·obtain⟨y,hy⟩:∃y,bl[j]?=some y:=⟨bl[j]'(by omega),by simp⟩
   obtain⟨g',ai,b1,d1,b2,d2,b3,d3,L,Q,N,A⟩:=(NB.o wr (u.o.trans E.o)).seven hy;simp only[dO,Addr.mk.injEq,and_true] at L;obtain⟨rfl,rfl⟩:=L;obtain⟨e0,e1,e2,e3,e4,e5,e6⟩:=N;have EY:=xal wr y b1 d1 b2 d2 b3 d3;have y1:=(bt wr (aB y.kind y.name y.FP.length y.FQ.length y.FN.length y.FY y.FR b1 d1 b2 d2 b3 d3) 26 _ (Ext.refl _)).1;have H:=hY (F.o.trans (pS aY hy));have D:=hY (oY y);have al:y.FP.length<=1048576:=A.FP.small;have ak:y.FQ.length<=1048576:=A.FQ.small;have HL:=hY d;clear A Q hy F d;generalize y.FP.length=p at*;generalize y.FQ.length=h at*;by_cases h2:y.kind=2
   ·by_cases h0:p+h=0
    ·have q:Hid (bl.all aY=(bl.drop (j+1)).all aY):=hY (by rw[H.o,D.o,h2,h0];simp)
     obtain rfl:p=0:=by omega
     obtain rfl:h=0:=by omega
     have K:(y.kind !=2)=false:=by simpa using h2
     clear h2 h0 H D;go_upto_region 7 with fail;generalize f:wr.alloc _=W3 at*;clear f;go_wp2_with fail;go_roundw
     case rel=>exact⟨j+1,by have:=HL.o;omega,by go_num,E.o.trans EY.o,q.o⟩
     case measure=>have:=HL.o;simp[intOf];omega
    ·have q:Hid (bl.all aY=false):=hY (by rw[H.o,D.o,h2,show(p+h==0)=false by simpa using h0];simp)
     have ao:(0:Int)<(p:Int)+(h:Int):=by omega
     have K:(y.kind !=2)=false:=by simpa using h2
     clear h2 h0 H D;go_upto_region 7 with fail;generalize f:wr.alloc _=W3 at*;clear f;go_wp2_with fail;go_ret;exact⟨by rw[G.o,q.o];rfl,(u.o.trans E.o).trans EY.o⟩
   ·have q:Hid (bl.all aY=false):=hY (by rw[H.o,D.o,show(y.kind==2)=false by simpa using h2];simp)
    have K:(y.kind !=2)=true:=by simpa using h2
    clear h2 H D;go_upto_region 7 with fail;generalize f:wr.alloc _=W3 at*;clear f;go_wp2_with fail;go_ret;exact⟨by rw[G.o,q.o];rfl,(u.o.trans E.o).trans EY.o⟩
  ·have q:Hid (bl.all aY=true):=hY (by rw[F.o,hH (by omega)];rfl)
   obtain⟨e0,e1,e2,e3,e4,e5,e6⟩:=SV.o wr (u.o.trans E.o);have ap:(0:Int)<(m:Int)+1:=by omega
   clear F d;by_cases h8:v.kind=8
   ·by_cases hn:v.name=bm
    ·rw[decide_eq_true hn] at c t a
     have P:Hid (Z=true):=hY (by rw[t.o,h8];rfl);have J:(v.kind !=8)=false:=by simpa using h8
     clear h8 hn t;go_wp2_with fail;go_ret;exact⟨by rw[G.o,q.o,P.o];rfl,u.o.trans E.o⟩
    ·rw[decide_eq_false hn] at c t a
     have P:Hid (Z=false):=hY (by rw[t.o];simp);have J:(v.kind !=8)=false:=by simpa using h8
     clear h8 hn t;go_wp2_with fail;go_ret;exact⟨by rw[G.o,q.o,P.o];rfl,u.o.trans E.o⟩
   ·have s:(v.kind==8)=false:=by simpa using h8
    have J:(v.kind !=8)=true:=by simpa using h8
    have P:Hid (Z=false):=hY (by rw[t.o,s];rfl);clear h8 t c a s;go_wp2_with fail;go_ret;exact⟨by rw[G.o,q.o,P.o];rfl,u.o.trans E.o⟩
theorem rS (x v:T)(B:List T)(H:x.FN=v::B)(w:World)(top:Nat)(b:top<=w.heap.size)(a1:Option Addr)(X:Nat)(Z:Option Addr)(U:Nat)(Y:Option Addr)(A:Nat)(P:bK w top x a1 X Z U Y A)(hp:de.isPrefixOf x.name=true)(M:A=1):Calls Tryz.prog 170 #[.agg (af x.kind x.name x.FP.length x.FQ.length x.FN.length x.FY x.FR a1 X Z U Y A)] w fun e w'=>e=.returned (.bool (ft x))/\Ext w w':=by
 have q:=xal w x a1 X Z U Y A;have KE:=hY (bt w (aB x.kind x.name x.FP.length x.FQ.length x.FN.length x.FY x.FR a1 X Z U Y A) 26);have R:=(KE.o _ (Ext.refl _)).1;have ac:x.FN.length<=1048576:=P.FN.small;have L:x.FN.length<=A:=P.FN.cap
 have ag:Hid (Lib.hasPrefix (mkS x.name).data.toList ({data:=#[119,104,105,108,101]}:ByteArray).data.toList=true):=hY (by
  show([119,104,105,108,101]:List UInt8).isPrefixOf (mkS x.name).data.toList=true
  rw[show(mkS x.name).data.toList=x.name from aG _]
  exact hp)
 have D:Hid (ft x=((v::B).all aY&&!db v)):=hY (by unfold ft;rw[H,oj,hp];rfl);obtain⟨g,aa,b1,d1,b2,d2,b3,d3,rfl,S,O,ae⟩:=P.FN.seven (j:=0) (x:=v) (by rw[H];rfl);rw[np,ks] at O;have SV:=hY (fun(V:World) (hV:Ext w V)=>O.keep (am hV b g S));have r:x.FN.length=B.length+1:=by rw[H];rfl
 have NB:=hY (fun(V:World) (hV:Ext w V)=>(show NAt V top (some ⟨g,aa,none⟩) A (v::B) by rw[←H];exact P.FN.keep (am hV b)));subst M;have N:B.length=0:=by omega
 have t:Hid (db v=(v.kind==8&&decide (v.name=bm))):=hY (by
  obtain⟨k,n,ns,ts,l,pr,pl⟩:=v;show(k==8&&n==bm)=(k==8&&decide (n=bm))
  congr 1
  rw[rW];simp)
 have c:((mkS v.name).toList==[115,117,112,101,114])=decide (v.name=bm):=by rw[cO,aG];rfl
 have a:((mkS v.name).toList !=[115,117,112,101,114])=!decide (v.name=bm):=by rw[bne,c]
 have TW:=hY b;rw[r] at q KE R ac L ⊢;clear P ae O S H r b;obtain⟨bl,u⟩:∃bl,bl=v::B:=⟨_,rfl⟩;rw[←u] at NB D;have d:bl.length=1:=by rw[u,gi,N]
 have ah:=hY d;clear u d;rw[N] at q KE R ⊢;generalize db v=sv at*;generalize x.kind=k at*;generalize x.name=nm at*;generalize x.FP.length=n1 at*;generalize x.FQ.length=n2 at*;generalize x.FY=pr at*;generalize x.FR=pl at*;go_enter Tryz.func170,Tryz.ntmps170;go_upto_region 1 with fail;generalize ad:w.alloc _=W1 at*;clear ad;have PX:=hY (fun(W:World)=>Tryz.strings_HasPrefix (mkS nm) {data:=#[119,104,105,108,101]} W);rw[ag.o] at PX;go_upto_region 5 with(first|(go_at_call 234;refine(PX.o _).m fun w2 ab=>?_;obtain rfl:W1=w2:=ab.o.symm))
 go_loopw [16] (fun i wr=>∃j:Nat,j<=bl.length/\i=.i j/\Ext W1 wr/\bl.all aY=(bl.drop j).all aY) (fun i _=>bl.length-(intOf i).toNat)
 case atStart=>exact⟨0,by omega,rfl,Ext.refl _,rfl⟩
 case round=>
  obtain⟨j,hj,rfl,hE,hF⟩:=hrel;have E:=hY hE;have F:=hY hF;clear hE hF R;have R:=(KE.o _ E.o).1;have d:=ah.o;by_cases hlt:j<1
  ·obtain⟨y,hy⟩:∃y,bl[j]?=some y:=⟨bl[j]'(by omega),by simp⟩
   obtain⟨g',ai,b1,d1,b2,d2,b3,d3,K,S,O,z⟩:=(NB.o wr (q.o.trans E.o)).seven hy;simp only[dO,Addr.mk.injEq,and_true] at K;obtain⟨rfl,rfl⟩:=K;obtain⟨e0,e1,e2,e3,e4,e5,e6⟩:=O;have EY:=xal wr y b1 d1 b2 d2 b3 d3;have y1:=(bt wr (aB y.kind y.name y.FP.length y.FQ.length y.FN.length y.FY y.FR b1 d1 b2 d2 b3 d3) 26 _ (Ext.refl _)).1;have G:=hY (F.o.trans (pS aY hy));have C:=hY (oY y);have ak:y.FP.length<=1048576:=z.FP.small;have aj:y.FQ.length<=1048576:=z.FQ.small;have HL:=hY d;clear z S hy F d;generalize y.FP.length=m at*;generalize y.FQ.length=h at*;by_cases h2:y.kind=2
   ·by_cases h0:m+h=0
    ·have p:Hid (bl.all aY=(bl.drop (j+1)).all aY):=hY (by rw[G.o,C.o,h2,h0];simp)
     obtain rfl:m=0:=by omega
     obtain rfl:h=0:=by omega
     have J:(y.kind !=2)=false:=by simpa using h2
     clear h2 h0 G C;go_upto_region 7 with fail;generalize f:wr.alloc _=W3 at*;clear f;go_wp2_with fail;go_roundw
     case rel=>exact⟨j+1,by have:=HL.o;omega,by go_num,E.o.trans EY.o,p.o⟩
     case measure=>have:=HL.o;simp[intOf];omega
    ·have p:Hid (bl.all aY=false):=hY (by rw[G.o,C.o,h2,show(m+h==0)=false by simpa using h0];simp)
     have al:(0:Int)<(m:Int)+(h:Int):=by omega
     have J:(y.kind !=2)=false:=by simpa using h2
     clear h2 h0 G C;go_upto_region 7 with fail;generalize f:wr.alloc _=W3 at*;clear f;go_wp2_with fail;go_ret;exact⟨by rw[D.o,p.o];rfl,(q.o.trans E.o).trans EY.o⟩
   ·have p:Hid (bl.all aY=false):=hY (by rw[G.o,C.o,show(y.kind==2)=false by simpa using h2];simp)
    have J:(y.kind !=2)=true:=by simpa using h2
    clear h2 G C;go_upto_region 7 with fail;generalize f:wr.alloc _=W3 at*;clear f;go_wp2_with fail;go_ret;exact⟨by rw[D.o,p.o];rfl,(q.o.trans E.o).trans EY.o⟩
  ·have p:Hid (bl.all aY=true):=hY (by rw[F.o,hH (by omega)];rfl)
   obtain⟨e0,e1,e2,e3,e4,e5,e6⟩:=SV.o wr (q.o.trans E.o);have ao:(0:Int)<(0:Int)+1:=by omega
   clear F d;by_cases h8:v.kind=8
   ·by_cases hn:v.name=bm
    ·rw[decide_eq_true hn] at c t a
     have Q:Hid (sv=true):=hY (by rw[t.o,h8];rfl);have I:(v.kind !=8)=false:=by simpa using h8
     clear h8 hn t;go_wp2_with fail;go_ret;exact⟨by rw[D.o,p.o,Q.o];rfl,q.o.trans E.o⟩
    ·rw[decide_eq_false hn] at c t a
     have Q:Hid (sv=false):=hY (by rw[t.o];simp);have I:(v.kind !=8)=false:=by simpa using h8
     clear h8 hn t;go_wp2_with fail;go_ret;exact⟨by rw[D.o,p.o,Q.o];rfl,q.o.trans E.o⟩
   ·have s:(v.kind==8)=false:=by simpa using h8
    have I:(v.kind !=8)=true:=by simpa using h8
    have Q:Hid (sv=false):=hY (by rw[t.o,s];rfl);clear h8 t c a s;go_wp2_with fail;go_ret;exact⟨by rw[D.o,p.o,Q.o];rfl,q.o.trans E.o⟩
theorem rR (x v:T)(h:List T)(J:x.FN=v::h)(w:World)(top:Nat)(b:top<=w.heap.size)(a1:Option Addr)(X:Nat)(Z:Option Addr)(U:Nat)(Y:Option Addr)(D:Nat)(Q:bK w top x a1 X Z U Y D)(hp:de.isPrefixOf x.name=false)(hc:h≠[]):Calls Tryz.prog 170 #[.agg (af x.kind x.name x.FP.length x.FQ.length x.FN.length x.FY x.FR a1 X Z U Y D)] w fun e w'=>e=.returned (.bool (ft x))/\Ext w w':=by
 have z:=xal w x a1 X Z U Y D;have KE:=hY (bt w (aB x.kind x.name x.FP.length x.FQ.length x.FN.length x.FY x.FR a1 X Z U Y D) 26);have q1:=(KE.o _ (Ext.refl _)).1;have ab:x.FN.length<=1048576:=Q.FN.small;have N:x.FN.length<=D:=Q.FN.cap
 have ag:Hid (Lib.hasPrefix (mkS x.name).data.toList ({data:=#[119,104,105,108,101]}:ByteArray).data.toList=false):=hY (by
  show([119,104,105,108,101]:List UInt8).isPrefixOf (mkS x.name).data.toList=false
  rw[show(mkS x.name).data.toList=x.name from aG _]
  exact hp)
 have H:Hid (ft x=((h).all aY&&!db v)):=hY (by unfold ft;rw[J,oj,hp];rfl);obtain⟨g,A,b1,d1,b2,d2,b3,d3,rfl,S,P,ae⟩:=Q.FN.seven (j:=0) (x:=v) (by rw[J];rfl);rw[np,ks] at P;have SV:=hY (fun(V:World) (hV:Ext w V)=>P.keep (am hV b g S));have s:x.FN.length=h.length+1:=by rw[J];rfl
 have ac:0<h.length:=zb.2 hc;have O:D≠1:=by omega
 have NB:=hY (fun(V:World) (hV:Ext w V)=>(show NAt V top (some ⟨g,A+7,none⟩) (D-1) h by
  have hd:=(Q.FN.keep (am hV b)).drop (lo:=1) (by omega);rw[if_neg O,show x.FN.drop 1=h by rw[J];rfl] at hd;rw[Ac,Fw,show(⟨g,A,none⟩:Addr).add 7=⟨g,A+7,none⟩ by simp[Addr.add]] at hd
  exact hd))
 clear hc ac
 have u:Hid (db v=(v.kind==8&&decide (v.name=bm))):=hY (by
  obtain⟨k,n,ns,ts,l,pr,pl⟩:=v;show(k==8&&n==bm)=(k==8&&decide (n=bm))
  congr 1
  rw[rW];simp)
 have c:((mkS v.name).toList==[115,117,112,101,114])=decide (v.name=bm):=by rw[cO,aG];rfl
 have a:((mkS v.name).toList !=[115,117,112,101,114])=!decide (v.name=bm):=by rw[bne,c]
 have TW:=hY b;rw[s] at z KE q1 ab N ⊢;clear Q ae P S J s b;obtain⟨bl,B⟩:∃bl,bl=h:=⟨_,rfl⟩;rw[←B] at NB H;have d:bl.length=h.length:=by rw[B]
 have ah:=hY d;clear B d;generalize h.length=m at*;generalize db v=sv at*;generalize x.kind=k at*;generalize x.name=nm at*;generalize x.FP.length=n1 at*;generalize x.FQ.length=n2 at*;generalize x.FY=pr at*;generalize x.FR=pl at*;go_enter Tryz.func170,Tryz.ntmps170;go_upto_region 1 with fail;generalize ad:w.alloc _=W1 at*;clear ad;have PX:=hY (fun(W:World)=>Tryz.strings_HasPrefix (mkS nm) {data:=#[119,104,105,108,101]} W);rw[ag.o] at PX;go_upto_region 5 with(first|(go_at_call 234;refine(PX.o _).m fun w2 aa=>?_;obtain rfl:W1=w2:=aa.o.symm))
 go_loopw [16] (fun i wr=>∃j:Nat,j<=bl.length/\i=.i j/\Ext W1 wr/\bl.all aY=(bl.drop j).all aY) (fun i _=>bl.length-(intOf i).toNat)
 case atStart=>exact⟨0,by omega,rfl,Ext.refl _,rfl⟩
 case round=>
  obtain⟨j,hj,rfl,hE,hF⟩:=hrel;have E:=hY hE;have F:=hY hF;clear hE hF q1;have q1:=(KE.o _ E.o).1;have d:=ah.o;by_cases hlt:j<m
  ·obtain⟨y,hy⟩:∃y,bl[j]?=some y:=⟨bl[j]'(by omega),by simp⟩
   obtain⟨g',ai,b1,d1,b2,d2,b3,d3,M,S,P,C⟩:=(NB.o wr (z.o.trans E.o)).seven hy;simp only[dO,Addr.mk.injEq,and_true] at M;obtain⟨rfl,rfl⟩:=M;obtain⟨e0,e1,e2,e3,e4,e5,e6⟩:=P;have EY:=xal wr y b1 d1 b2 d2 b3 d3;have y1:=(bt wr (aB y.kind y.name y.FP.length y.FQ.length y.FN.length y.FY y.FR b1 d1 b2 d2 b3 d3) 26 _ (Ext.refl _)).1;have I:=hY (F.o.trans (pS aY hy));have G:=hY (oY y);have ak:y.FP.length<=1048576:=C.FP.small;have aj:y.FQ.length<=1048576:=C.FQ.small;have HL:=hY d;clear C S hy F d;generalize y.FP.length=q at*;generalize y.FQ.length=p at*;by_cases h2:y.kind=2
   ·by_cases h0:q+p=0
    ·have r:Hid (bl.all aY=(bl.drop (j+1)).all aY):=hY (by rw[I.o,G.o,h2,h0];simp)
     obtain rfl:q=0:=by omega
     obtain rfl:p=0:=by omega
     have L:(y.kind !=2)=false:=by simpa using h2
     clear h2 h0 I G;go_upto_region 7 with fail;generalize f:wr.alloc _=W3 at*;clear f;go_wp2_with fail;go_roundw
     case rel=>exact⟨j+1,by have:=HL.o;omega,by go_num,E.o.trans EY.o,r.o⟩
     case measure=>have:=HL.o;simp[intOf];omega
    ·have r:Hid (bl.all aY=false):=hY (by rw[I.o,G.o,h2,show(q+p==0)=false by simpa using h0];simp)
     have al:(0:Int)<(q:Int)+(p:Int):=by omega
     have L:(y.kind !=2)=false:=by simpa using h2
     clear h2 h0 I G;go_upto_region 7 with fail;generalize f:wr.alloc _=W3 at*;clear f;go_wp2_with fail;go_ret;exact⟨by rw[H.o,r.o];rfl,(z.o.trans E.o).trans EY.o⟩
   ·have r:Hid (bl.all aY=false):=hY (by rw[I.o,G.o,show(y.kind==2)=false by simpa using h2];simp)
    have L:(y.kind !=2)=true:=by simpa using h2
    clear h2 I G;go_upto_region 7 with fail;generalize f:wr.alloc _=W3 at*;clear f;go_wp2_with fail;go_ret;exact⟨by rw[H.o,r.o];rfl,(z.o.trans E.o).trans EY.o⟩
  ·have r:Hid (bl.all aY=true):=hY (by rw[F.o,hH (by omega)];rfl)
   obtain⟨e0,e1,e2,e3,e4,e5,e6⟩:=SV.o wr (z.o.trans E.o);have ao:(0:Int)<(m:Int)+1:=by omega
   clear F d;by_cases h8:v.kind=8
   ·by_cases hn:v.name=bm
    ·rw[decide_eq_true hn] at c u a
     have R:Hid (sv=true):=hY (by rw[u.o,h8];rfl);have K:(v.kind !=8)=false:=by simpa using h8
     clear h8 hn u;go_wp2_with fail;go_ret;exact⟨by rw[H.o,r.o,R.o];rfl,z.o.trans E.o⟩
    ·rw[decide_eq_false hn] at c u a
     have R:Hid (sv=false):=hY (by rw[u.o];simp);have K:(v.kind !=8)=false:=by simpa using h8
     clear h8 hn u;go_wp2_with fail;go_ret;exact⟨by rw[H.o,r.o,R.o];rfl,z.o.trans E.o⟩
   ·have t:(v.kind==8)=false:=by simpa using h8
    have K:(v.kind !=8)=true:=by simpa using h8
    have R:Hid (sv=false):=hY (by rw[u.o,t];rfl);clear h8 u c a t;go_wp2_with fail;go_ret;exact⟨by rw[H.o,r.o,R.o];rfl,z.o.trans E.o⟩
theorem jB (x v:T)(f:List T)(j:x.FN=v::f)(l:de.isPrefixOf x.name=false->f≠[])(w:World)(top:Nat)(a:top<=w.heap.size)(i:Option Addr)(d:Nat)(h:Option Addr)(c:Nat)(g:Option Addr)(b:Nat)(k:bK w top x i d h c g b):Calls Tryz.prog 170 #[.agg (af x.kind x.name x.FP.length x.FQ.length x.FN.length x.FY x.FR i d h c g b)] w fun e w'=>e=.returned (.bool (ft x))/\Ext w w':=by
 cases hp:de.isPrefixOf x.name with
 |false=>exact rR x v f j w top a i d h c g b k hp (l hp)
 |true=>
  by_cases h1:b=1
  ·exact rS x v f j w top a i d h c g b k hp h1
  ·exact tP x v f j w top a i d h c g b k hp h1
section
section
variable {base top p:Nat} {w w2:World} {fv gv:Value} {fs gs:List BL} {F F2:List Nat} {s s2:GS} {ch ch2:List RgS} {r:Nat} {rg:Rg} {its:List It} {c:List RgS}
theorem eh (a:aa base p w fv gv F s ((r,rg,its)::c) w2)(b:its.length<=bq)(l:Nat):Calls Tryz.prog 266 #[.pointer (some ⟨p,0,none⟩),.i (l:Int)] w2 fun e w'=>e=.returned (.tuple #[])/\aa base p w fv gv F s ((r,rg,its++[.lab l])::c) w':=
 a.next (R:=fun e=>e=.returned (.tuple #[])) fun f d _=>Ba base p w2 fv gv s r rg its c f d b l
theorem gU (a:aa base p w fv gv F s ((r,rg,its)::c) w2)(b:its.length<=bq)(op:Int)(l:Nat):Calls Tryz.prog 265 #[.pointer (some ⟨p,0,none⟩),.i op,.i (l:Int)] w2 fun e w'=>e=.returned (.tuple #[])/\aa base p w fv gv F s ((r,rg,its++[.jmp op l])::c) w':=
 a.next (R:=fun e=>e=.returned (.tuple #[])) fun f d _=>Bl base p w2 fv gv s r rg its c f d b op l
end
def lD (fs gs:List BL)(a:Int)(bs:List T)(c:List Rg)(s:GS):GS×List It:=match bs with
 |[]=>(s,[It.ins a 0 0 0])
 |b2::_=>if a=0 then bV fs gs b2 c s else(s,[It.ins a 0 0 0])
theorem kA (fs gs:List BL)(b:T)(c:List Rg)(s:GS):bV fs gs b c s=bN fs gs b.FN true c s:=by
 obtain⟨k,n,d,a,l,p,pl⟩:=b;rw[bV];rfl
def qn (fs gs:List BL)(x:T)(a:Int)(bs:List T)(f:FuncId)(d:Array Value):Prop:=
 ∀base top p w k j s r h g c F t n q m o l,Env base top p w k j fs gs F->CW base p w k j s ((r,h,g)::c) F->bK w top x t n q m o l->Bud s g.length c.length (4*T.ndL bs+1)->T.nms x<=ao->(∀b,d=#[.pointer (some ⟨b,0,none⟩)]->w.heap[b]?=some (.cells #[.i a] 89)/\b≠p/\¬b∈F)->
 Calls Tryz.prog f (#[.pointer (some ⟨p,0,none⟩),.agg (af x.kind x.name x.FP.length x.FQ.length x.FN.length x.FY x.FR t n q m o l)]++d) w fun e u=>∃b,e=.returned (.bool b)/\aa base p w k j F (lD fs gs a bs (h::rgs c) s).1 ((r,h,g++(lD fs gs a bs (h::rgs c) s).2)::c) u
theorem AU (fs gs:List BL)(x:T)(a:Int)(B:a≠0)(bs:List T)(b:Nat):qn fs gs x a bs 267 #[.pointer (some ⟨b,0,none⟩)]:=by
 intro base top p w O N s r A its c F z t v q u n E l C m D k;obtain⟨d,h,g⟩:=k b rfl;have j:=xal w x z t v q u n;have H:=hY (aa.refl (l.ext j.o));obtain⟨M,L⟩:=blk (j.o.keep d);have J:Hid (its.length<=bq):=hY (by have:=m.its;omega)
 have I:Hid (lD fs gs a bs (A::rgs c) s=(s,[.ins a 0 0 0])):=hY (by
  cases bs with
  |nil=>rfl
  |cons y r=>show(if a=0 then _ else _)=_;rw[if_neg B])
 clear C E l m D k d h g;show Calls Tryz.prog 267 #[.pointer (some ⟨p,0,none⟩),.agg (af x.kind x.name x.FP.length x.FQ.length x.FN.length x.FY x.FR z t v q u n),.pointer (some ⟨b,0,none⟩)] w _
 go_enter Tryz.func267,Tryz.ntmps267;go_upto_region 1 with fail;generalize i:w.alloc _=P at*;clear i;go_wp2_with (first|(go_at_call 60;refine(cr H.o J.o _).m fun K G=>?_));go_ret;exact⟨_,rfl,by rw[I.o];exact aa.FZ j.o G.o⟩
theorem wY (fs gs:List BL)(x v b b2:T)(q:List T)(l:x.FN=v::b::b2::q)(H:∀y∈b2.FN,eA fs gs y):qn fs gs x 0 (b2::q) 232 #[]:=by
 intro base top p w fv gv s r n U c F E C D B M z m K I L J _;have i:=m.ext (xal w x E C D B M z).o;have G:=xal w x E C D B M z;have N:=hY (aa.refl (K.ext G.o));have h:=I.keep (am G.o m.tw);obtain⟨q1,q2⟩:=m.boxC N.o;obtain⟨g,t,b1,d1,X,d2,b3,d3,rfl,V,W,f⟩:=h.FN.seven (j:=2) (x:=b2) (by rw[l];rfl);obtain⟨e0,e1,e2,e3,e4,e5,e6⟩:=W;have a:b2∈x.FN:=by rw[l];simp
 have A:=hY ((lC fs gs b2 H).after i N.o f (L.mono (by rw[T.ndL,bF b2];omega)) (aN (bW a) J));have h2:(2:Int)<(x.FN.length:Int):=by rw[l];simp only[gi];omega
 have Z:Hid (lD fs gs 0 (b2::q) (n::rgs c) s=bN fs gs b2.FN true (n::rgs c) s):=hY (by show(if(0:Int)=0 then bV fs gs b2 (n::rgs c) s else(s,[It.ins 0 0 0 0]))=_;rw[if_pos rfl,kA]);clear I h f m i K L J V a H l;generalize x.kind=k at*;generalize x.name=P at*;generalize x.FP.length=S at*;generalize x.FQ.length=R at*;generalize x.FN.length=Q at*;generalize x.FY=O at*;generalize x.FR=pl at*;show Calls Tryz.prog 232 #[.pointer (some ⟨p,0,none⟩),.agg (af k P S R Q O pl E C D B (some ⟨g,t,none⟩) z)] w _
 go_enter Tryz.func232,Tryz.ntmps232;go_upto_region 1 with fail;generalize u:w.alloc _=W1 at*;clear u;go_wp2_with (first|(go_at_call 229;refine A.o.m fun w3 Y=>?_));go_ret;exact⟨_,rfl,by rw[Z.o];exact aa.FZ G.o Y.o⟩
end
section
variable {base p r top v:Nat} {w:World} {F:List Nat} {its:List It} {c:List RgS} {x:T} {a:Int} {bs:List T}
theorem pK (fs gs:List BL)(skip a:Int)(v b:T)(bs:List T)(c:List Rg)(s:GS):cv fs gs skip a v b bs c s=
 ((lD fs gs a bs c (bN fs gs b.FN true c {(ah fs gs v c s).1 with FO:=(ah fs gs v c s).1.FO+1+1}).1).1,
  (ah fs gs v c s).2++[.jmp skip (ah fs gs v c s).1.FO]++(bN fs gs b.FN true c {(ah fs gs v c s).1 with FO:=(ah fs gs v c s).1.FO+1+1}).2++(if al b.FN then [] else [.jmp 18 ((ah fs gs v c s).1.FO+1)])++[.lab (ah fs gs v c s).1.FO]++(lD fs gs a bs c (bN fs gs b.FN true c {(ah fs gs v c s).1 with FO:=(ah fs gs v c s).1.FO+1+1}).1).2++[.lab ((ah fs gs v c s).1.FO+1)]):=by
 unfold cv;dsimp only;rw[kA];cases bs<;>rfl
theorem yW (fs gs:List BL)(a:Int)(bs:List T)(c:List Rg)(s:GS):Gw s (lD fs gs a bs c s) (4*T.ndL bs+1):=by
 cases bs with
 |nil=>exact(Gw.put s _).mono (by simp)
 |cons b r=>
  show Gw s (if a=0 then bV fs gs b c s else(s,[It.ins a 0 0 0])) _
  rw[T.ndL]
  split
  ·exact(yh fs gs b c s).mono (by omega)
  ·exact(Gw.put s _).mono (by simp)
theorem mR {a:World}{f d:Value}{s:GS}{b:Rg}(g:aa base p w f d F s ((r,b,its)::c) a)(j:its.length<=bq)(l:Nat)(z:Int)(h:z=(l:Int)):Calls Tryz.prog 266 #[.pointer (some ⟨p,0,none⟩),.i z] a fun e w'=>e=.returned (.tuple #[])/\aa base p w f d F s ((r,b,its++[.lab l])::c) w':=by
 subst h;exact eh g j l
theorem rO {a:World}{f d:Value}{s:GS}{b:Rg}(g:aa base p w f d F s ((r,b,its)::c) a)(j:its.length<=bq)(op:Int)(l:Nat)(z:Int)(h:z=(l:Int)):Calls Tryz.prog 265 #[.pointer (some ⟨p,0,none⟩),.i op,.i z] a fun e w'=>e=.returned (.tuple #[])/\aa base p w f d F s ((r,b,its++[.jmp op l])::c) w':=by
 subst h;exact gU g j op l
theorem qn.after {fs gs:List BL}{f:FuncId}{d:Array Value}(h:qn fs gs x a bs f d){u:World}{t s:Value}{g:GS}{j:Rg}(e:Env base top p w t s fs gs F)(G:aa base p w t s F g ((r,j,its)::c) u){C:Option Addr}{z:Nat}{B:Option Addr}{y:Nat}{A:Option Addr}(K:bK w top x C z B y A v)(J:Bud g its.length c.length (4*T.ndL bs+1))(I:T.nms x<=ao)(k:∀q,d=#[.pointer (some ⟨q,0,none⟩)]->w.heap[q]?=some (.cells #[.i a] 89)/\q≠p/\¬q∈F):
 Calls Tryz.prog f (#[.pointer (some ⟨p,0,none⟩),.agg (af x.kind x.name x.FP.length x.FQ.length x.FN.length x.FY x.FR C z B y A v)]++d) u fun E w'=>∃b,E=.returned (.bool b)/\aa base p w t s F (lD fs gs a bs (j::rgs c) g).1 ((r,j,its++(lD fs gs a bs (j::rgs c) g).2)::c) w':=by
 obtain⟨M,D,l⟩:=G;refine(h base top p u t s g r j its c M C z B y A v (e.step l D) D (K.keep (e.low l)) J I (fun q H=>?_)).mono ?_
 ·obtain⟨o,n,m⟩:=k q H
  exact⟨l.keep o n m,n,l.fresh (ab o) m⟩
 ·rintro E w' ⟨b,o,L,n,m⟩
  exact⟨b,o,L,n,l.trans m⟩
theorem qn.after0 {fs gs:List BL}{f:FuncId}(h:qn fs gs x a bs f (#[]:Array Value)){m:World}{l j:Value}{d:GS}{g:Rg}(e:Env base top p w l j fs gs F)(B:aa base p w l j F d ((r,g,its)::c) m){A:Option Addr}{z:Option Addr}{u:Nat}{y:Option Addr}{t:Nat}(G:bK w top x A v z u y t)(E:Bud d its.length c.length (4*T.ndL bs+1))(C:T.nms x<=ao)(k:Int)(o:BL)(n1 s q:Nat)(n pl:Int)(D:x.kind=k/\x.name=o/\x.FP.length=n1/\x.FQ.length=s/\x.FN.length=q/\x.FY=n/\x.FR=pl):
 Calls Tryz.prog f #[.pointer (some ⟨p,0,none⟩),.agg (af k o n1 s q n pl A v z u y t)] m fun H w'=>∃b,H=.returned (.bool b)/\aa base p w l j F (lD fs gs a bs (g::rgs c) d).1 ((r,g,its++(lD fs gs a bs (g::rgs c) d).2)::c) w':=by
 obtain⟨rfl,rfl,rfl,rfl,rfl,rfl,rfl⟩:=D;exact h.after e B G E C (fun I i=>by cases i)
theorem qn.after1 {fs gs:List BL}{f:FuncId}{q:Nat}(h:qn fs gs x a bs f (#[.pointer (some ⟨q,0,none⟩)]:Array Value)){n:World}{m l:Value}{d:GS}{g:Rg}(e:Env base top p w m l fs gs F)(D:aa base p w m l F d ((r,g,its)::c) n){C:Option Addr}{z:Nat}{B:Option Addr}{y:Nat}{A:Option Addr}(J:bK w top x C z B y A v)(I:Bud d its.length c.length (4*T.ndL bs+1))(G:T.nms x<=ao)(E:w.heap[q]?=some (.cells #[.i a] 89)/\q≠p/\¬q∈F)(k:Int)(s:BL)(n1 u t:Nat)(o pl:Int)(H:x.kind=k/\x.name=s/\x.FP.length=n1/\x.FQ.length=u/\x.FN.length=t/\x.FY=o/\x.FR=pl):
 Calls Tryz.prog f #[.pointer (some ⟨p,0,none⟩),.agg (af k s n1 u t o pl C z B y A v),.pointer (some ⟨q,0,none⟩)] n fun K w'=>∃b,K=.returned (.bool b)/\aa base p w m l F (lD fs gs a bs (g::rgs c) d).1 ((r,g,its++(lD fs gs a bs (g::rgs c) d).2)::c) w':=by
 obtain⟨rfl,rfl,rfl,rfl,rfl,rfl,rfl⟩:=H;exact h.after e D J I G (fun L j=>by cases j;exact E)
theorem pL (fs gs:List BL)(x v b:T)(bs:List T)(hx:x.FN=v::b::bs)(hv:eY fs gs v)(hs:∀y∈b.FN,eA fs gs y)(skip a:Int)(S:Nat)(ho:qn fs gs x a bs 267 #[.pointer (some ⟨S,0,none⟩)])(k1 k2:Nat):
 ∀base top p w G E s r f its c F L J K I a3 H,Env base top p w G E fs gs F->CW base p w G E s ((r,f,its)::c) F->bK w top x L J K I a3 H->Bud s its.length c.length (4*T.nd x)->T.nms x<=ao->(∀q,#[.pointer (some ⟨S,0,none⟩)]=(#[.pointer (some ⟨q,0,none⟩)]:Array Value)->w.heap[q]?=some (.cells #[.i a] 89)/\q≠p/\¬q∈F)->
 (w.heap[k1]?=some (.cells #[.i skip] 89)/\k1≠p/\¬k1∈F)->(w.heap[k2]?=some (.cells #[.func (Fn.func 267) #[] #[.pointer (some ⟨S,0,none⟩)]] 273)/\k2≠p/\¬k2∈F)->
 Calls Tryz.prog 263 #[.pointer (some ⟨p,0,none⟩),.agg (af x.kind x.name x.FP.length x.FQ.length x.FN.length x.FY x.FR L J K I a3 H),.pointer (some ⟨k1,0,none⟩),.pointer (some ⟨k2,0,none⟩)] w fun e w'=>e=nrm/\aa base p w G E F (cv fs gs skip a v b bs (f::rgs c) s).1 ((r,f,its++(cv fs gs skip a v b bs (f::rgs c) s).2)::c) w':=by
 intro base top p w G E s r f its c F L J K I a3 H hE hC hP hB hN u N M;have P:=hE.ext (xal w x L J K I a3 H).o;have EX:=xal w x L J K I a3 H;have S0:=hY (aa.refl (hC.ext EX.o));have O:=hP.keep (am EX.o hE.tw);have KB:=hY (fun(W:World) s' ch' (h:aa base p (w.alloc (.cells (aB x.kind x.name x.FP.length x.FQ.length x.FN.length x.FY x.FR L J K I a3 H).toArray 26)) G E F s' ch' W)=>hE.boxC h);obtain⟨q1,q2⟩:=KB.o _ _ _ S0.o;have K1:=hY (fun(W:World) s' ch' (h:aa base p (w.alloc (.cells (af x.kind x.name x.FP.length x.FQ.length x.FN.length x.FY x.FR L J K I a3 H) 26)) G E F s' ch' W)=>blk (h.box (EX.o.keep N.1) N.2.1 N.2.2));have K2:=hY (fun(W:World) s' ch' (h:aa base p (w.alloc (.cells (af x.kind x.name x.FP.length x.FQ.length x.FN.length x.FY x.FR L J K I a3 H) 26)) G E F s' ch' W)=>blk (h.box (EX.o.keep M.1) M.2.1 M.2.2));obtain⟨g,ai,b1,d1,b2,d2,b3,d3,rfl,hg,a4,a5⟩:=O.FN.seven (j:=0) (x:=v) (by rw[hx];rfl);obtain⟨g',bk,f1,m1,f2,m2,f3,m3,aq,_,ae,a6⟩:=O.FN.seven (j:=1) (x:=b) (by rw[hx];rfl);simp only[dO,Addr.mk.injEq,and_true] at aq;obtain⟨rfl,rfl⟩:=aq;rw[np,ks] at a4;rw[Fw] at ae;have SB:=hY (fun(W:World) s' ch' (h:aa base p (w.alloc (.cells (af x.kind x.name x.FP.length x.FQ.length x.FN.length x.FY x.FR L J K I (some ⟨g,ai,none⟩) H) 26)) G E F s' ch' W)=>ae.keep (P.lowS h g hg));obtain⟨e0,e1,e2,e3,e4,e5,e6⟩:=a4;have aj:v∈x.FN:=by rw[hx];simp
 have ar:b∈x.FN:=by rw[hx];simp
 have hnd:=bF x;rw[hx,T.ndL,T.ndL] at hnd;have ap:=bF b;have be:=bG v;have Q:=dL fs gs v (f::rgs c) s;have A1:=hY (hv.after P S0.o a5 (hB.mono (by omega)) (aN (bW aj) hN));have EN:=hY P;have PB:=hY a6;have PX:=hY O;have RB:=hY (lC fs gs b hs);have OC:=hY ho;have a8:=hY (show(w.alloc (.cells (af x.kind x.name x.FP.length x.FQ.length x.FN.length x.FY x.FR L J K I (some ⟨g,ai,none⟩) H) 26)).heap[S]?=some (.cells #[.i a] 89)/\S≠p/\¬S∈F from⟨EX.o.keep (u S rfl).1,(u S rfl).2⟩);have NX:=hY hN;have bg:=hY (aN (bW ar) hN);have CG:=hY (pK fs gs skip a v b bs (f::rgs c) s);have bm:(1:Int)<(x.FN.length:Int):=by rw[hx];simp only[gi];omega
 have bn:(0:Int)<(x.FN.length:Int):=by omega
 generalize au:ah fs gs v (f::rgs c) s=d at*;have bo:=hY au;have C:=iR fs gs b.FN true (f::rgs c) {d.1 with FO:=d.1.FO+1+1};have a7:=yW fs gs a bs (f::rgs c) (bN fs gs b.FN true (f::rgs c) {d.1 with FO:=d.1.FO+1+1}).1;simp only[if_true] at C;have l0:=hB.its;have l1:=hB.lab;have l2:=hB.lit;have l3:=hB.dep;have w1:=Q.its;have w2:=Q.lab;have w3:=Q.lit;have y1:=C.its;have y2:=C.lab;have y3:=C.lit;have z1:=a7.its;simp only at y2 y3;have a9:Hid (d.1.FO<=bq/\d.1.FO+1<=bq):=hY ⟨by omega,by omega⟩;have bj:Hid ((its++d.2).length<=bq):=hY (by rw[bY];omega);have BR:Hid (Bud {d.1 with FO:=d.1.FO+1+1} (its++d.2++[It.jmp skip d.1.FO]).length c.length (4*T.ndL b.FN+1)):=hY ⟨by simp only[bY,gi,hG];omega,by simp only;omega,by simp only;omega,by omega⟩;generalize av:bN fs gs b.FN true (f::rgs c) {d.1 with FO:=d.1.FO+1+1}=XR at*;have bh:=hY av;have bi:Hid ((its++d.2++[It.jmp skip d.1.FO]++XR.2).length<=bq):=hY (by simp only[bY,gi,hG];omega);have bc:Hid (∀t:List It,t.length<=1->(its++d.2++[It.jmp skip d.1.FO]++XR.2++t).length<=bq):=hY (fun t hj=>by simp only[bY,gi,hG];omega);have BO:Hid (∀t:List It,t.length<=1->Bud XR.1 (its++d.2++[It.jmp skip d.1.FO]++XR.2++t++[It.lab d.1.FO]).length c.length (4*T.ndL bs+1)):=hY (fun t hj=>⟨by simp only[bY,gi,hG];omega,by omega,by omega,by omega⟩);have ba:Hid (∀t:List It,t.length<=1->(its++d.2++[It.jmp skip d.1.FO]++XR.2++t++[It.lab d.1.FO]++(lD fs gs a bs (f::rgs c) XR.1).2).length<=bq):=hY (fun t hj=>by simp only[bY,gi,hG];omega);clear hP O a5 a6 ae hE P hC hB hN hx hv hs ho u N M hg aj ar hnd ap be Q C a7 l0 l1 l2 l3 w1 w2 w3 y1 y2 y3 z1 au av;generalize U:al b.FN=bd at*;have bl:=hY U;clear U;generalize ak:x.kind=k at*;generalize Y:x.name=nm at*;generalize ac:x.FP.length=n1 at*;generalize ab:x.FQ.length=n2 at*;generalize Z:x.FN.length=n3 at*;generalize V:x.FY=pr at*;generalize X:x.FR=pl at*;have KQ:=hY (And.intro ak (And.intro Y (And.intro ac (And.intro ab (And.intro Z (And.intro V X))))));clear ak Y ac ab Z V X;go_enter Tryz.func263,Tryz.ntmps263;go_upto_region 1 with fail;generalize bf:w.alloc _=W1 at*;clear bf
 go_upto_region 3 with(first
  |(go_at_call 123;refine A1.o.m fun w2 S2=>?_)
  |(go_at_call 264;first
   |((with_reducible refine(dI S3.o a9.o.2).mono ?_);rintro e w4 ⟨rfl,ay⟩;have S4:=hY ay;clear ay)
   |((with_reducible refine(dI S2.o a9.o.1).mono ?_);rintro e w3 ⟨rfl,az⟩;have S3:=hY az;clear az)))
 obtain⟨u1,u2⟩:=K1.o _ _ _ S4.o;go_upto_region 4 with(go_at_call 265;refine(gU S4.o bj.o skip _).m fun w5 S5=>?_);clear u1 u2 q1 q2 e0 e1 e2 e3 e4 e5 e6;obtain⟨q1,q2⟩:=KB.o _ _ _ S5.o;obtain⟨e0,e1,e2,e3,e4,e5,e6⟩:=SB.o _ _ _ S5.o;have R6:=hY (RB.o.after EN.o S5.o PB.o BR.o bg.o);rw[bh.o] at R6;have lz:((d.1.FO:Int)+1)=((d.1.FO+1:Nat):Int):=by omega
 have LZ:=hY lz;clear lz;cases bd with
 |true=>
  have n:=hY (bc.o [] (by simp));have R:=hY (BO.o [] (by simp));have m:=hY (ba.o [] (by simp));rw[kn] at n R m
  go_upto_region 7 with(first
   |(go_at_call 229;refine R6.o.m fun w6 S6=>?_)
   |(go_at_call 266;refine(eh S6.o n.o _).m fun w8 S8=>?_))
  clear q1 q2 e0 e1 e2 e3 e4 e5 e6;obtain⟨q1,q2⟩:=KB.o _ _ _ S8.o;obtain⟨u1,u2⟩:=K2.o _ _ _ S8.o;have O9:=hY (OC.o.after1 EN.o S8.o PX.o R.o NX.o a8.o _ _ _ _ _ _ _ KQ.o)
  go_wp2_with (first
   |(go_at_call 267;refine O9.o.mono ?_;rintro e w9 ⟨bb,rfl,z⟩;have S9:=hY z;clear z)
   |(go_at_call 266;refine(mR S9.o m.o (d.1.FO+1) _ LZ.o).m fun ad ag=>?_))
  have D:Hid (aa base p w G E F (cv fs gs skip a v b bs (f::rgs c) s).1 ((r,f,its++(cv fs gs skip a v b bs (f::rgs c) s).2)::c) ad):=hY (by
   have h:=aa.FZ EX.o ag.o;rw[CG.o];simp only[gz,lE,kn,if_true,iS,if_false] at h ⊢
   exact h)
  (first|refine QzE rfl rfl ?_|refine QzR rfl rfl ?_);exact ⟨rfl,D.o⟩
 |false=>
  have n:=hY (bc.o [It.jmp 18 (d.1.FO+1)] (by simp));have R:=hY (BO.o [It.jmp 18 (d.1.FO+1)] (by simp));have m:=hY (ba.o [It.jmp 18 (d.1.FO+1)] (by simp))
  go_upto_region 7 with(first
   |(go_at_call 229;refine R6.o.m fun w6 S6=>?_)
   |(go_at_call 265;refine(rO S6.o bi.o 18 (d.1.FO+1) _ LZ.o).m fun w7 S7=>?_)
   |(go_at_call 266;refine(eh S7.o n.o _).m fun w8 S8=>?_))
  clear q1 q2 e0 e1 e2 e3 e4 e5 e6;obtain⟨q1,q2⟩:=KB.o _ _ _ S8.o;obtain⟨u1,u2⟩:=K2.o _ _ _ S8.o;have O9:=hY (OC.o.after1 EN.o S8.o PX.o R.o NX.o a8.o _ _ _ _ _ _ _ KQ.o)
  go_wp2_with (first
   |(go_at_call 267;refine O9.o.mono ?_;rintro e w9 ⟨bb,rfl,z⟩;have S9:=hY z;clear z)
   |(go_at_call 266;refine(mR S9.o m.o (d.1.FO+1) _ LZ.o).m fun ad ag=>?_))
  have D:Hid (aa base p w G E F (cv fs gs skip a v b bs (f::rgs c) s).1 ((r,f,its++(cv fs gs skip a v b bs (f::rgs c) s).2)::c) ad):=hY (by
   have h:=aa.FZ EX.o ag.o;rw[CG.o];simp only[gz,lE,kn,if_true,iS,if_false] at h ⊢
   exact h)
  (first|refine QzE rfl rfl ?_|refine QzR rfl rfl ?_);exact ⟨rfl,D.o⟩
theorem nt (fs gs:List BL)(x v b:T)(bs:List T)(hx:x.FN=v::b::bs)(hv:eY fs gs v)(hs:∀y∈b.FN,eA fs gs y)(skip a:Int)(ho:qn fs gs x a bs 232 #[])(k1 k2:Nat):
 ∀base top p w E D s r f its c F P N O M a3 L,Env base top p w E D fs gs F->CW base p w E D s ((r,f,its)::c) F->bK w top x P N O M a3 L->Bud s its.length c.length (4*T.nd x)->T.nms x<=ao->(∀q,#[]=(#[.pointer (some ⟨q,0,none⟩)]:Array Value)->w.heap[q]?=some (.cells #[.i a] 89)/\q≠p/\¬q∈F)->
 (w.heap[k1]?=some (.cells #[.i skip] 89)/\k1≠p/\¬k1∈F)->(w.heap[k2]?=some (.cells #[.func (Fn.func 232) #[] #[]] 273)/\k2≠p/\¬k2∈F)->
 Calls Tryz.prog 263 #[.pointer (some ⟨p,0,none⟩),.agg (af x.kind x.name x.FP.length x.FQ.length x.FN.length x.FY x.FR P N O M a3 L),.pointer (some ⟨k1,0,none⟩),.pointer (some ⟨k2,0,none⟩)] w fun e w'=>e=nrm/\aa base p w E D F (cv fs gs skip a v b bs (f::rgs c) s).1 ((r,f,its++(cv fs gs skip a v b bs (f::rgs c) s).2)::c) w':=by
 intro base top p w E D s r f its c F P N O M a3 L hE hC hP hB hN ak H G;have J:=hE.ext (xal w x P N O M a3 L).o;have EX:=xal w x P N O M a3 L;have S0:=hY (aa.refl (hC.ext EX.o));have I:=hP.keep (am EX.o hE.tw);have KB:=hY (fun(W:World) s' ch' (h:aa base p (w.alloc (.cells (aB x.kind x.name x.FP.length x.FQ.length x.FN.length x.FY x.FR P N O M a3 L).toArray 26)) E D F s' ch' W)=>hE.boxC h);obtain⟨q1,q2⟩:=KB.o _ _ _ S0.o;have K1:=hY (fun(W:World) s' ch' (h:aa base p (w.alloc (.cells (af x.kind x.name x.FP.length x.FQ.length x.FN.length x.FY x.FR P N O M a3 L) 26)) E D F s' ch' W)=>blk (h.box (EX.o.keep H.1) H.2.1 H.2.2));have K2:=hY (fun(W:World) s' ch' (h:aa base p (w.alloc (.cells (af x.kind x.name x.FP.length x.FQ.length x.FN.length x.FY x.FR P N O M a3 L) 26)) E D F s' ch' W)=>blk (h.box (EX.o.keep G.1) G.2.1 G.2.2));obtain⟨g,ba,b1,d1,b2,d2,b3,d3,rfl,hg,az,a0⟩:=I.FN.seven (j:=0) (x:=v) (by rw[hx];rfl);obtain⟨g',bi,f1,m1,f2,m2,f3,m3,aj,_,ac,a4⟩:=I.FN.seven (j:=1) (x:=b) (by rw[hx];rfl);simp only[dO,Addr.mk.injEq,and_true] at aj;obtain⟨rfl,rfl⟩:=aj;rw[np,ks] at az;rw[Fw] at ac;have SB:=hY (fun(W:World) s' ch' (h:aa base p (w.alloc (.cells (af x.kind x.name x.FP.length x.FQ.length x.FN.length x.FY x.FR P N O M (some ⟨g,ba,none⟩) L) 26)) E D F s' ch' W)=>ac.keep (J.lowS h g hg));obtain⟨e0,e1,e2,e3,e4,e5,e6⟩:=az;have ae:v∈x.FN:=by rw[hx];simp
 have ap:b∈x.FN:=by rw[hx];simp
 have hnd:=bF x;rw[hx,T.ndL,T.ndL] at hnd;have ai:=bF b;have bc:=bG v;have K:=dL fs gs v (f::rgs c) s;have A1:=hY (hv.after J S0.o a0 (hB.mono (by omega)) (aN (bW ae) hN));have EN:=hY J;have PB:=hY a4;have PX:=hY I;have RB:=hY (lC fs gs b hs);have OC:=hY ho;have NX:=hY hN;have be:=hY (aN (bW ap) hN);have CG:=hY (pK fs gs skip a v b bs (f::rgs c) s);have bk:(1:Int)<(x.FN.length:Int):=by rw[hx];simp only[gi];omega
 have bl:(0:Int)<(x.FN.length:Int):=by omega
 generalize aq:ah fs gs v (f::rgs c) s=d at*;have bm:=hY aq;have B:=iR fs gs b.FN true (f::rgs c) {d.1 with FO:=d.1.FO+1+1};have a5:=yW fs gs a bs (f::rgs c) (bN fs gs b.FN true (f::rgs c) {d.1 with FO:=d.1.FO+1+1}).1;simp only[if_true] at B;have l0:=hB.its;have l1:=hB.lab;have l2:=hB.lit;have l3:=hB.dep;have w1:=K.its;have w2:=K.lab;have w3:=K.lit;have y1:=B.its;have y2:=B.lab;have y3:=B.lit;have z1:=a5.its;simp only at y2 y3;have a6:Hid (d.1.FO<=bq/\d.1.FO+1<=bq):=hY ⟨by omega,by omega⟩;have bh:Hid ((its++d.2).length<=bq):=hY (by rw[bY];omega);have BR:Hid (Bud {d.1 with FO:=d.1.FO+1+1} (its++d.2++[It.jmp skip d.1.FO]).length c.length (4*T.ndL b.FN+1)):=hY ⟨by simp only[bY,gi,hG];omega,by simp only;omega,by simp only;omega,by omega⟩;generalize ar:bN fs gs b.FN true (f::rgs c) {d.1 with FO:=d.1.FO+1+1}=XR at*;have bf:=hY ar;have bg:Hid ((its++d.2++[It.jmp skip d.1.FO]++XR.2).length<=bq):=hY (by simp only[bY,gi,hG];omega);have a8:Hid (∀t:List It,t.length<=1->(its++d.2++[It.jmp skip d.1.FO]++XR.2++t).length<=bq):=hY (fun t hj=>by simp only[bY,gi,hG];omega);have BO:Hid (∀t:List It,t.length<=1->Bud XR.1 (its++d.2++[It.jmp skip d.1.FO]++XR.2++t++[It.lab d.1.FO]).length c.length (4*T.ndL bs+1)):=hY (fun t hj=>⟨by simp only[bY,gi,hG];omega,by omega,by omega,by omega⟩);have a7:Hid (∀t:List It,t.length<=1->(its++d.2++[It.jmp skip d.1.FO]++XR.2++t++[It.lab d.1.FO]++(lD fs gs a bs (f::rgs c) XR.1).2).length<=bq):=hY (fun t hj=>by simp only[bY,gi,hG];omega);clear hP I a0 a4 ac hE J hC hB hN hx hv hs ho ak H G hg ae ap hnd ai bc K B a5 l0 l1 l2 l3 w1 w2 w3 y1 y2 y3 z1 aq ar;generalize R:al b.FN=a9 at*;have bj:=hY R;clear R;generalize ag:x.kind=k at*;generalize V:x.name=nm at*;generalize Z:x.FP.length=n1 at*;generalize Y:x.FQ.length=n2 at*;generalize X:x.FN.length=n3 at*;generalize S:x.FY=pr at*;generalize U:x.FR=pl at*;have KQ:=hY (And.intro ag (And.intro V (And.intro Z (And.intro Y (And.intro X (And.intro S U))))));clear ag V Z Y X S U;go_enter Tryz.func263,Tryz.ntmps263;go_upto_region 1 with fail;generalize bd:w.alloc _=W1 at*;clear bd
 go_upto_region 3 with(first
  |(go_at_call 123;refine A1.o.m fun w2 S2=>?_)
  |(go_at_call 264;first
   |((with_reducible refine(dI S3.o a6.o.2).mono ?_);rintro e w4 ⟨rfl,aw⟩;have S4:=hY aw;clear aw)
   |((with_reducible refine(dI S2.o a6.o.1).mono ?_);rintro e w3 ⟨rfl,ax⟩;have S3:=hY ax;clear ax)))
 obtain⟨u1,u2⟩:=K1.o _ _ _ S4.o;go_upto_region 4 with(go_at_call 265;refine(gU S4.o bh.o skip _).m fun w5 S5=>?_);clear u1 u2 q1 q2 e0 e1 e2 e3 e4 e5 e6;obtain⟨q1,q2⟩:=KB.o _ _ _ S5.o;obtain⟨e0,e1,e2,e3,e4,e5,e6⟩:=SB.o _ _ _ S5.o;have R6:=hY (RB.o.after EN.o S5.o PB.o BR.o be.o);rw[bf.o] at R6;have lz:((d.1.FO:Int)+1)=((d.1.FO+1:Nat):Int):=by omega
 have LZ:=hY lz;clear lz;cases a9 with
 |true=>
  have n:=hY (a8.o [] (by simp));have Q:=hY (BO.o [] (by simp));have m:=hY (a7.o [] (by simp));rw[kn] at n Q m
  go_upto_region 7 with(first
   |(go_at_call 229;refine R6.o.m fun w6 S6=>?_)
   |(go_at_call 266;refine(eh S6.o n.o _).m fun w8 S8=>?_))
  clear q1 q2 e0 e1 e2 e3 e4 e5 e6;obtain⟨q1,q2⟩:=KB.o _ _ _ S8.o;obtain⟨u1,u2⟩:=K2.o _ _ _ S8.o;have O9:=hY (OC.o.after0 EN.o S8.o PX.o Q.o NX.o _ _ _ _ _ _ _ KQ.o)
  go_wp2_with (first
   |(go_at_call 232;refine O9.o.mono ?_;rintro e w9 ⟨bb,rfl,u⟩;have S9:=hY u;clear u)
   |(go_at_call 266;refine(mR S9.o m.o (d.1.FO+1) _ LZ.o).m fun ab ad=>?_))
  have C:Hid (aa base p w E D F (cv fs gs skip a v b bs (f::rgs c) s).1 ((r,f,its++(cv fs gs skip a v b bs (f::rgs c) s).2)::c) ab):=hY (by
   have h:=aa.FZ EX.o ad.o;rw[CG.o];simp only[gz,lE,kn,if_true,iS,if_false] at h ⊢
   exact h)
  (first|refine QzE rfl rfl ?_|refine QzR rfl rfl ?_);exact ⟨rfl,C.o⟩
 |false=>
  have n:=hY (a8.o [It.jmp 18 (d.1.FO+1)] (by simp));have Q:=hY (BO.o [It.jmp 18 (d.1.FO+1)] (by simp));have m:=hY (a7.o [It.jmp 18 (d.1.FO+1)] (by simp))
  go_upto_region 7 with(first
   |(go_at_call 229;refine R6.o.m fun w6 S6=>?_)
   |(go_at_call 265;refine(rO S6.o bg.o 18 (d.1.FO+1) _ LZ.o).m fun w7 S7=>?_)
   |(go_at_call 266;refine(eh S7.o n.o _).m fun w8 S8=>?_))
  clear q1 q2 e0 e1 e2 e3 e4 e5 e6;obtain⟨q1,q2⟩:=KB.o _ _ _ S8.o;obtain⟨u1,u2⟩:=K2.o _ _ _ S8.o;have O9:=hY (OC.o.after0 EN.o S8.o PX.o Q.o NX.o _ _ _ _ _ _ _ KQ.o)
  go_wp2_with (first
   |(go_at_call 232;refine O9.o.mono ?_;rintro e w9 ⟨bb,rfl,u⟩;have S9:=hY u;clear u)
   |(go_at_call 266;refine(mR S9.o m.o (d.1.FO+1) _ LZ.o).m fun ab ad=>?_))
  have C:Hid (aa base p w E D F (cv fs gs skip a v b bs (f::rgs c) s).1 ((r,f,its++(cv fs gs skip a v b bs (f::rgs c) s).2)::c) ab):=hY (by
   have h:=aa.FZ EX.o ad.o;rw[CG.o];simp only[gz,lE,kn,if_true,iS,if_false] at h ⊢
   exact h)
  (first|refine QzE rfl rfl ?_|refine QzR rfl rfl ?_);exact ⟨rfl,C.o⟩
end
theorem xq (fs gs:List BL)(a:Int)(v:T)(c:List Rg)(s:GS):ez fs gs a v [] c s=
 ((bN fs gs v.FN true c {s with FO:=s.FO+1+1}).1,[.lab (s.FO+1)]++(bN fs gs v.FN true c {s with FO:=s.FO+1+1}).2++[.jmp a s.FO]++[.jmp 18 (s.FO+1)]++[It.lab s.FO]++[It.ins 2 0 0 0]):=by
 unfold ez;dsimp only;rw[kA];simp
theorem vd (fs gs:List BL)(a:Int)(v b:T)(bs:List T)(c:List Rg)(s:GS):ez fs gs a v (b::bs) c s=
 ((bN fs gs b.FN true c (bN fs gs v.FN true c {s with FO:=s.FO+1+1}).1).1,[.lab (s.FO+1)]++(bN fs gs v.FN true c {s with FO:=s.FO+1+1}).2++[.jmp a s.FO]++(bN fs gs b.FN true c (bN fs gs v.FN true c {s with FO:=s.FO+1+1}).1).2++(if al b.FN then [] else [.ins 14 0 0 0,.jmp 18 (s.FO+1)])++[It.lab s.FO]++[It.ins 2 0 0 0]):=by
 unfold ez;dsimp only;rw[kA,kA];simp
theorem tF (fs gs:List BL)(x v:T)(E:x.FN=v::[])(hv:∀y∈v.FN,eA fs gs y)(a:Int)(X:Nat):
 ∀base top p w m l s r b its c F z t u q C n,Env base top p w m l fs gs F->CW base p w m l s ((r,b,its)::c) F->bK w top x z t u q C n->Bud s its.length c.length (4*T.nd x)->T.nms x<=ao->
 (w.heap[X]?=some (.cells #[.i a] 89)/\X≠p/\¬X∈F)->
 Calls Tryz.prog 268 #[.pointer (some ⟨p,0,none⟩),.agg (af x.kind x.name x.FP.length x.FQ.length x.FN.length x.FY x.FR z t u q C n),.pointer (some ⟨X,0,none⟩)] w fun e w'=>e=nrm/\aa base p w m l F (ez fs gs a v [] (b::rgs c) s).1 ((r,b,its++(ez fs gs a v [] (b::rgs c) s).2)::c) w':=by
 intro base top p w m l s r b its c F z t u q C n Y hC hP U hN f;have B:=Y.ext (xal w x z t u q C n).o;have Z:=xal w x z t u q C n;have S0:=hY (aa.refl (hC.ext Z.o));have S:=hP.keep (am Z.o Y.tw);have KB:=hY (fun(W:World) s' ch' (h:aa base p (w.alloc (.cells (aB x.kind x.name x.FP.length x.FQ.length x.FN.length x.FY x.FR z t u q C n).toArray 26)) m l F s' ch' W)=>Y.boxC h);have K1:=hY (fun(W:World) s' ch' (h:aa base p (w.alloc (.cells (af x.kind x.name x.FP.length x.FQ.length x.FN.length x.FY x.FR z t u q C n) 26)) m l F s' ch' W)=>blk (h.box (Z.o.keep f.1) f.2.1 f.2.2));obtain⟨g,ab,b1,d1,b2,d2,b3,d3,rfl,hg,A,R⟩:=S.FN.seven (j:=0) (x:=v) (by rw[E];rfl);rw[np,ks] at A;have SA:=hY (fun(W:World) s' ch' (h:aa base p (w.alloc (.cells (af x.kind x.name x.FP.length x.FQ.length x.FN.length x.FY x.FR z t u q (some ⟨g,ab,none⟩) n) 26)) m l F s' ch' W)=>A.keep (B.lowS h g hg));have ah:¬(1:Int)<(x.FN.length:Int):=by rw[E];simp
 have ai:(0:Int)<(x.FN.length:Int):=by rw[E];simp
 have G:v∈x.FN:=by rw[E];simp
 have hnd:=bF x;rw[E,T.ndL,T.ndL] at hnd;have H:=bF v;have EN:=hY B;have PV:=hY R;have RV:=hY (lC fs gs v hv);have NV:=hY (aN (bW G) hN);have LG:=hY (xq fs gs a v (b::rgs c) s);have d:=iR fs gs v.FN true (b::rgs c) {s with FO:=s.FO+1+1};simp only[if_true] at d;have l0:=U.its;have l1:=U.lab;have l2:=U.lit;have l3:=U.dep;have y1:=d.its;have y2:=d.lab;have y3:=d.lit;simp only at y2 y3;have BL:Hid (s.FO<=bq/\s.FO+1<=bq/\its.length<=bq):=hY ⟨by omega,by omega,by omega⟩;have BV:Hid (Bud {s with FO:=s.FO+1+1} (its++[It.lab (s.FO+1)]).length c.length (4*T.ndL v.FN+1)):=hY ⟨by simp only[bY,gi,hG];omega,by simp only;omega,by simp only;omega,by omega⟩;generalize I:bN fs gs v.FN true (b::rgs c) {s with FO:=s.FO+1+1}=XV at*;have ad:=hY I;have ag:Hid ((its++[It.lab (s.FO+1)]++XV.2).length<=bq):=hY (by simp only[bY,gi,hG];omega);have D:Hid (∀jj:List It,jj.length<=3->(its++[It.lab (s.FO+1)]++XV.2++[It.jmp a s.FO]++jj).length<=bq):=hY (fun jj hj=>by simp only[bY,gi,hG];omega);clear hP S R A Y B hC U hN E hv f hg G hnd H d l0 l1 l2 l3 y1 y2 y3 I;generalize x.kind=k at*;generalize x.name=nm at*;generalize x.FP.length=n1 at*;generalize x.FQ.length=n2 at*;generalize x.FN.length=n3 at*;generalize x.FY=pr at*;generalize x.FR=pl at*;have lz:((s.FO:Int)+1)=((s.FO+1:Nat):Int):=by omega
 have LZ:=hY lz;clear lz;go_enter Tryz.func268,Tryz.ntmps268;go_upto_region 1 with fail;generalize ac:w.alloc _=W1 at*;clear ac
 go_upto_region 3 with(first
  |(go_at_call 264;first
   |((with_reducible refine(dI S2.o BL.o.2.1).mono ?_);rintro e w3 ⟨rfl,P⟩;have S3:=hY P;clear P)
   |((with_reducible refine(dI S0.o BL.o.1).mono ?_);rintro e w2 ⟨rfl,Q⟩;have S2:=hY Q;clear Q))
  |(go_at_call 266;refine(mR S3.o BL.o.2.2 (s.FO+1) _ LZ.o).m fun w4 S4=>?_))
 obtain⟨q1,q2⟩:=KB.o _ _ _ S4.o;obtain⟨e0,e1,e2,e3,e4,e5,e6⟩:=SA.o _ _ _ S4.o;have R5:=hY (RV.o.after EN.o S4.o PV.o BV.o NV.o);rw[ad.o] at R5;go_upto_region 4 with(go_at_call 229;refine R5.o.m fun w5 S5=>?_);clear q1 q2 e0 e1 e2 e3 e4 e5 e6;obtain⟨u1,u2⟩:=K1.o _ _ _ S5.o;go_upto_region 5 with(go_at_call 265;refine(gU S5.o ag.o a _).m fun w6 S6=>?_);clear u1 u2;obtain⟨q1,q2⟩:=KB.o _ _ _ S6.o;have ae:Hid ((its++[It.lab (s.FO+1)]++XV.2++[It.jmp a s.FO]++[It.jmp 18 (s.FO+1)]++[It.lab s.FO]).length<=bq):=hY (by have:=D.o [It.jmp 18 (s.FO+1),It.lab s.FO] (by simp);simp only[bY,gi,hG] at this ⊢;omega)
 go_wp2_with (first
  |(go_at_call 265;refine(rO S6.o (by have:=D.o [] (by simp);rwa [kn] at this) 18 (s.FO+1) _ LZ.o).m fun w7 S7=>?_)
  |(go_at_call 266;refine(eh S7.o (D.o [_] (by simp)) _).m fun w8 S8=>?_)
  |(go_at_call 60;refine(cr S8.o ae.o _).m fun w9 S9=>?_))
 have V:Hid (aa base p w m l F (ez fs gs a v [] (b::rgs c) s).1 ((r,b,its++(ez fs gs a v [] (b::rgs c) s).2)::c) w9):=hY (by
  have h:=aa.FZ Z.o S9.o;rw[LG.o];simp only[gz,lE,kn,if_true,iS,if_false,kq] at h ⊢
  exact h)
 (first|refine QzE rfl rfl ?_|refine QzR rfl rfl ?_);exact ⟨rfl,V.o⟩
theorem rM (fs gs:List BL)(x v b:T)(bs:List T)(L:x.FN=v::(b::bs))(hv:∀y∈v.FN,eA fs gs y)(hs:∀y∈b.FN,eA fs gs y)(a:Int)(k1:Nat):
 ∀base top p w A z s r d its c F I G H E P D,Env base top p w A z fs gs F->CW base p w A z s ((r,d,its)::c) F->bK w top x I G H E P D->Bud s its.length c.length (4*T.nd x)->T.nms x<=ao->
 (w.heap[k1]?=some (.cells #[.i a] 89)/\k1≠p/\¬k1∈F)->
 Calls Tryz.prog 268 #[.pointer (some ⟨p,0,none⟩),.agg (af x.kind x.name x.FP.length x.FQ.length x.FN.length x.FY x.FR I G H E P D),.pointer (some ⟨k1,0,none⟩)] w fun e w'=>e=nrm/\aa base p w A z F (ez fs gs a v (b::bs) (d::rgs c) s).1 ((r,d,its++(ez fs gs a v (b::bs) (d::rgs c) s).2)::c) w':=by
 intro base top p w A z s r d its c F I G H E P D hE hC hP hB hN B;have C:=hE.ext (xal w x I G H E P D).o;have EX:=xal w x I G H E P D;have S0:=hY (aa.refl (hC.ext EX.o));have O:=hP.keep (am EX.o hE.tw);have KB:=hY (fun(W:World) s' ch' (h:aa base p (w.alloc (.cells (aB x.kind x.name x.FP.length x.FQ.length x.FN.length x.FY x.FR I G H E P D).toArray 26)) A z F s' ch' W)=>hE.boxC h);have K1:=hY (fun(W:World) s' ch' (h:aa base p (w.alloc (.cells (af x.kind x.name x.FP.length x.FQ.length x.FN.length x.FY x.FR I G H E P D) 26)) A z F s' ch' W)=>blk (h.box (EX.o.keep B.1) B.2.1 B.2.2));obtain⟨g,Q,b1,d1,b2,d2,b3,d3,rfl,hg,N,aj⟩:=O.FN.seven (j:=0) (x:=v) (by rw[L];rfl);rw[np,ks] at N;have SA:=hY (fun(W:World) s' ch' (h:aa base p (w.alloc (.cells (af x.kind x.name x.FP.length x.FQ.length x.FN.length x.FY x.FR I G H E (some ⟨g,Q,none⟩) D) 26)) A z F s' ch' W)=>N.keep (C.lowS h g hg));obtain⟨g',a4,f1,m1,f2,m2,f3,m3,V,_,M,ak⟩:=O.FN.seven (j:=1) (x:=b) (by rw[L];rfl);simp only[dO,Addr.mk.injEq,and_true] at V;obtain⟨rfl,rfl⟩:=V;rw[Fw] at M;have SB:=hY (fun(W:World) s' ch' (h:aa base p (w.alloc (.cells (af x.kind x.name x.FP.length x.FQ.length x.FN.length x.FY x.FR I G H E (some ⟨g,Q,none⟩) D) 26)) A z F s' ch' W)=>M.keep (C.lowS h g hg));have X:b∈x.FN:=by rw[L];simp
 have U:=bF b;have PB:=hY ak;have RB:=hY (lC fs gs b hs);have au:=hY (aN (bW X) hN);have a6:(1:Int)<(x.FN.length:Int):=by rw[L];simp only[gi];omega
 have a7:(0:Int)<(x.FN.length:Int):=by omega
 have R:v∈x.FN:=by rw[L];simp
 have hnd:=bF x;rw[L,T.ndL,T.ndL] at hnd;have S:=bF v;have EN:=hY C;have PV:=hY aj;have RV:=hY (lC fs gs v hv);have NV:=hY (aN (bW R) hN);have LG:=hY (vd fs gs a v b bs (d::rgs c) s);have t:=iR fs gs v.FN true (d::rgs c) {s with FO:=s.FO+1+1};simp only[if_true] at t;have l0:=hB.its;have l1:=hB.lab;have l2:=hB.lit;have l3:=hB.dep;have y1:=t.its;have y2:=t.lab;have y3:=t.lit;simp only at y2 y3;have BL:Hid (s.FO<=bq/\s.FO+1<=bq/\its.length<=bq):=hY ⟨by omega,by omega,by omega⟩;have BV:Hid (Bud {s with FO:=s.FO+1+1} (its++[It.lab (s.FO+1)]).length c.length (4*T.ndL v.FN+1)):=hY ⟨by simp only[bY,gi,hG];omega,by simp only;omega,by simp only;omega,by omega⟩;generalize Y:bN fs gs v.FN true (d::rgs c) {s with FO:=s.FO+1+1}=K at*;have av:=hY Y;have a0:Hid ((its++[It.lab (s.FO+1)]++K.2).length<=bq):=hY (by simp only[bY,gi,hG];omega);have q:=iR fs gs b.FN true (d::rgs c) K.1;simp only[if_true] at q;have z1:=q.its;have z2:=q.lab;have z3:=q.lit;have BB:Hid (Bud K.1 (its++[It.lab (s.FO+1)]++K.2++[It.jmp a s.FO]).length c.length (4*T.ndL b.FN+1)):=hY ⟨by simp only[bY,gi,hG];omega,by omega,by omega,by omega⟩;generalize Z:bN fs gs b.FN true (d::rgs c) K.1=XB at*;have aw:=hY Z;have f:Hid (∀jj:List It,jj.length<=3->(its++[It.lab (s.FO+1)]++K.2++[It.jmp a s.FO]++XB.2++jj).length<=bq):=hY (fun jj hj=>by simp only[bY,gi,hG];omega);generalize J:al b.FN=aq at*;have a5:=hY J;clear J q z1 z2 z3 Z ak M hs X U;clear hP O aj N hE C hC hB hN L hv B hg R hnd S t l0 l1 l2 l3 y1 y2 y3 Y;generalize x.kind=k at*;generalize x.name=nm at*;generalize x.FP.length=n1 at*;generalize x.FQ.length=n2 at*;generalize x.FN.length=n3 at*;generalize x.FY=pr at*;generalize x.FR=pl at*;have lz:((s.FO:Int)+1)=((s.FO+1:Nat):Int):=by omega
 have LZ:=hY lz;clear lz;go_enter Tryz.func268,Tryz.ntmps268;go_upto_region 1 with fail;generalize ar:w.alloc _=W1 at*;clear ar
 go_upto_region 3 with(first
  |(go_at_call 264;first
   |((with_reducible refine(dI S2.o BL.o.2.1).mono ?_);rintro e w3 ⟨rfl,ah⟩;have S3:=hY ah;clear ah)
   |((with_reducible refine(dI S0.o BL.o.1).mono ?_);rintro e w2 ⟨rfl,ai⟩;have S2:=hY ai;clear ai))
  |(go_at_call 266;refine(mR S3.o BL.o.2.2 (s.FO+1) _ LZ.o).m fun w4 S4=>?_))
 obtain⟨q1,q2⟩:=KB.o _ _ _ S4.o;obtain⟨e0,e1,e2,e3,e4,e5,e6⟩:=SA.o _ _ _ S4.o;have R5:=hY (RV.o.after EN.o S4.o PV.o BV.o NV.o);rw[av.o] at R5;go_upto_region 4 with(go_at_call 229;refine R5.o.m fun w5 S5=>?_);clear q1 q2 e0 e1 e2 e3 e4 e5 e6;obtain⟨u1,u2⟩:=K1.o _ _ _ S5.o;go_upto_region 5 with(go_at_call 265;refine(gU S5.o a0.o a _).m fun w6 S6=>?_);clear u1 u2;obtain⟨q1,q2⟩:=KB.o _ _ _ S6.o;obtain⟨e0,e1,e2,e3,e4,e5,e6⟩:=SB.o _ _ _ S6.o;have R7:=hY (RB.o.after EN.o S6.o PB.o BB.o au.o);rw[aw.o] at R7;have ap:=hY (f.o [] (by simp));rw[kn] at ap;have ay:=hY (f.o [It.ins 14 0 0 0] (by simp));have ax:Hid ((its++[It.lab (s.FO+1)]++K.2++[It.jmp a s.FO]++XB.2++[It.ins 14 0 0 0]++[It.jmp 18 (s.FO+1)]).length<=bq):=hY (by have:=f.o [It.ins 14 0 0 0,It.jmp 18 (s.FO+1)] (by simp);simp only[bY,gi,hG] at this ⊢;omega);have az:Hid ((its++[It.lab (s.FO+1)]++K.2++[It.jmp a s.FO]++XB.2++[It.ins 14 0 0 0]++[It.jmp 18 (s.FO+1)]++[It.lab s.FO]).length<=bq):=hY (by have:=f.o [It.ins 14 0 0 0,It.jmp 18 (s.FO+1),It.lab s.FO] (by simp);simp only[bY,gi,hG] at this ⊢;omega);cases aq with
 |true=>
  go_wp2_with (first
   |(go_at_call 229;refine R7.o.m fun w7 S7=>?_)
   |(go_at_call 266;refine(eh S7.o (by have:=f.o [] (by simp);rwa [kn] at this) _).m fun w8 S8=>?_)
   |(go_at_call 60;refine(cr S8.o (f.o [_] (by simp)) _).m fun w9 S9=>?_))
  have u:Hid (aa base p w A z F (ez fs gs a v (b::bs) (d::rgs c) s).1 ((r,d,its++(ez fs gs a v (b::bs) (d::rgs c) s).2)::c) w9):=hY (by
   have h:=aa.FZ EX.o S9.o;rw[LG.o];simp only[gz,lE,kn,if_true,iS,if_false,kq] at h ⊢
   exact h)
  (first|refine QzE rfl rfl ?_|refine QzR rfl rfl ?_);exact ⟨rfl,u.o⟩
 |false=>
  go_wp2_with (first
   |(go_at_call 229;refine R7.o.m fun w7 S7=>?_)
   |(go_at_call 60;first
    |((with_reducible refine(cr S8.o az.o _).mono ?_);rintro e w9 ⟨rfl,l⟩;have S9:=hY l;clear l)
    |((with_reducible refine(cr S7.o ap.o _).mono ?_);rintro e wa ⟨rfl,ac⟩;have Sa:=hY ac;clear ac))
   |(go_at_call 265;refine(rO Sa.o ay.o 18 (s.FO+1) _ LZ.o).m fun wb Sb=>?_)
   |(go_at_call 266;refine(eh Sb.o ax.o _).m fun w8 S8=>?_))
  have u:Hid (aa base p w A z F (ez fs gs a v (b::bs) (d::rgs c) s).1 ((r,d,its++(ez fs gs a v (b::bs) (d::rgs c) s).2)::c) w9):=hY (by
   have h:=aa.FZ EX.o S9.o;rw[LG.o];simp only[gz,lE,kn,if_true,iS,if_false,kq] at h ⊢
   exact h)
  (first|refine QzE rfl rfl ?_|refine QzR rfl rfl ?_);exact ⟨rfl,u.o⟩
end Go.Proofs.Eff
