import Derived.Test.YtcimpmhmdnoeiaaGreatDoorQ13
import Derived.Test.YtcimpmhmdnoeiaaGreatDoorQ48
import Derived.Test.YtcimpmhmdnoeiaaGreatDoorQ49
import Derived.Test.YtcimpmhmdnoeiaaGreatDoorQ50
set_option maxRecDepth 100000
set_option maxHeartbeats 8000000
set_option linter.all false
namespace Go.Proofs.Eff
open Go.RowKit
theorem BD:(Tryz.prog.info? 56).map (fun i=>(i.zero,i.size,i.bytes))=some (some (.i 0),1,8):=by kernel_rfl
theorem uv {w:World}{ok:Nat->Prop}{l:List Lit3}{xs:List Value}(h:fp w ok l xs){j:Nat}{x:Lit3}(b:l[j]?=some x):∃a,a.length=3/\(∀i,i<3->xs[j*3+i]?=a[i]?)/\dt w ok x a:=by
 induction l generalizing xs j with
 |nil=>simp at b
 |cons y r ih=>
  obtain⟨a,o,rfl,f,e,d⟩:=h;cases j with
  |zero=>
   simp only[iN,dO] at b;subst b;refine⟨a,f,fun i c=>?_,e⟩;rw[np,nl,md (by omega)]
  |succ j=>
   obtain⟨n,m,k,g⟩:=ih d (by simpa using b);refine⟨n,m,fun i c=>?_,g⟩;rw[←k i c,j1 (by omega)]
   congr 1
   omega
theorem Fe (fs gs:List BL)(t:T)(w:World)(top:Nat)(s:top<=w.heap.size)(hv:fJ w)(fv gv:Value)(cv:ScV w top fv fs)(cr:ScV w top gv gs)(a1:Option Addr)(c1:Nat)(a2:Option Addr)(c2:Nat)(a3:Option Addr)(c3:Nat)(hP:bK w top t a1 c1 a2 c2 a3 c3)(bq:T.nms t<=ao)(b2:fs.length<=1048576)
 (cd:∀W,Ext w W->Calls Tryz.prog 7 #[] W fun e w'=>e=.returned (.bool true)/\Ext W w'):
 Calls Tryz.prog 5 #[.agg (af t.kind t.name t.FP.length t.FQ.length t.FN.length t.FY t.FR a1 c1 a2 c2 a3 c3),.agg #[fv,gv]] w fun e w'=>e=.returned (.bool true)/\Ext w w':=by
 obtain⟨fa,fc,rfl,a7⟩:=cv;obtain⟨ga,gc,rfl,a6⟩:=cr;generalize hO1:Obj.cells (af t.kind t.name t.FP.length t.FQ.length t.FN.length t.FY t.FR a1 c1 a2 c2 a3 c3) 26=O1;generalize hO2:Obj.cells #[.slice fa fs.length fc,.slice ga gs.length gc] 28=O2;have E0:Hid (Ext w ((w.alloc O1).alloc O2)):=hY (((Ext.refl w).alloc _).alloc _);have S1:(w.alloc O1).heap.size=w.heap.size+1:=by show(w.heap.push _).size=_;exact tc ..
 have B1:=hY (aM (aq w O1 _ rfl) O2);have B2:=hY (aq (w.alloc O1) O2 _ rfl);rw[S1] at B2;subst hO1 hO2;have SZ:=hY (fun W (I:Ext w W)=>Ef t W top 20000 a1 c1 a2 c2 a3 c3 (aN s I.size) (by decide) (by decide) (hP.keep (am I s)));have CO:=hY (fun W (I:Ext w W) (hnd:T.nd t<=100000000)=>uk fs gs t W top (aN s I.size) (hv.ext I) (.slice fa fs.length fc) (.slice ga gs.length gc) ⟨fa,fc,rfl,a7.keep (am I s)⟩ ⟨ga,gc,rfl,a6.keep (am I s)⟩ a1 c1 a2 c2 a3 c3 (hP.keep (am I s)) hnd bq);have AW:=hY cd;have HB:=hY (jZ t 20000 (by decide));have ND:=hY (sT t 20000 (by decide));have FL:=hY b2;clear hP hv a7 a6 s bq cd b2;go_enter Tryz.func5,Tryz.ntmps5;go_upto_region 1 with fail;rw[S1] at*;clear S1;generalize(w.alloc _).alloc _=W0 at*;obtain⟨q1,q2⟩:=blk B1.o;obtain⟨q3,q4⟩:=blk B2.o;generalize cm:gj t 20000=sz at*;clear cm;have db:1<=sz:=HB.o.1;have c9:sz<=20001:=HB.o.2;by_cases hbig:20000<sz
 ·have A2:=hY (fun W I=>AW.o W I)
  go_wp2_with (first|(go_at_call 6;refine(SZ.o W0 E0.o).m fun w2 q=>?_;have E2:=hY (E0.o.trans q.o);obtain⟨L,K⟩:=blk (q.o.keep B2.o))|(go_at_call 7;refine(A2.o _ E2.o).m fun w3 E3=>?_));go_ret;exact⟨rfl,E2.o.trans E3.o⟩
 ·have hnd:T.nd t<=100000000:=by have:=ND.o (by omega);omega
  have c6:=hY hnd;clear hnd;by_cases hf:255<fs.length
  ·have cx:(255:Int)<(fs.length:Int):=by omega
   clear hf;have A2:=hY (fun W I=>AW.o W I);go_wp2_with (first|(go_at_call 6;refine(SZ.o W0 E0.o).m fun w2 q=>?_;have E2:=hY (E0.o.trans q.o);have X2:=hY q.o;obtain⟨L,K⟩:=blk (q.o.keep B2.o))|(go_at_call 7;refine(A2.o _ E2.o).m fun w3 E3=>?_));go_ret;exact⟨rfl,E2.o.trans E3.o⟩
  ·have cx:¬(255:Int)<(fs.length:Int):=by omega
   have FSe:=hY (show fs.length<=255 by omega);clear hf;go_upto_region 3 with(go_at_call 6;refine(SZ.o W0 E0.o).m fun w2 q=>?_;have E2:=hY (E0.o.trans q.o);have X2:=hY q.o;obtain⟨L,K⟩:=blk (q.o.keep B2.o));clear q1 q2 q3 q4 L K;have ci:=hY (X2.o.keep B1.o);have bo:=hY (X2.o.keep B2.o);obtain⟨q1,q2⟩:=blk ci.o;obtain⟨q3,q4⟩:=blk bo.o;have cf:=hY (CO.o w2 E2.o c6.o);go_upto_region 4 with(go_at_call 8;refine cf.o.mono ?_;rintro e w3 ⟨D,v,rfl,la,lc,ca,cc,xs,rfl,bx,bw,bv⟩;have E3:=hY D;have CV:=hY (And.intro bx (And.intro bw bv));clear D bx bw bv);by_cases herr:(dR fs gs t).err=0
   ·obtain⟨k,FU,TK⟩:=EP fs gs t herr
    have a4:=TK.res;have f:=hY TK;rw[a4] at CV ⊢;dsimp only at CV ⊢;clear herr a4 TK cf q1 q2 q3 q4;have B5:=hY (aq w3 (.cells #[.string (mkS t.name),.i (t.FP.length:Int),.i ((t.FP++t.FQ).length:Int),.i (ai k),.i t.FY,.slice la FU.length lc,.slice ca (bD ai (aj k) 0 k).length cc] 34) _ rfl);have E4:Hid (Ext w3 (w3.alloc (.cells #[.string (mkS t.name),.i (t.FP.length:Int),.i ((t.FP++t.FQ).length:Int),.i (ai k),.i t.FY,.slice la FU.length lc,.slice ca (bD ai (aj k) 0 k).length cc] 34))):=hY ((Ext.refl _).alloc _);generalize w3.heap.size=b5 at*;generalize w3.alloc _=W4 at*;have bl:=hY (E2.o.trans (E3.o.trans E4.o));have ch:=hY (E4.o.keep (E3.o.keep bo.o));obtain⟨q1,q2⟩:=blk B5.o;obtain⟨q3,q4⟩:=blk ch.o;have B8:=hY (aq W4 (.cells #[.i (t.FP.length:Int),.i ((t.FP++t.FQ).length:Int),.i (fs.length:Int),.slice none 0 0] 52) _ rfl);have E6:Hid (Ext W4 (W4.alloc (.cells #[.i (t.FP.length:Int),.i ((t.FP++t.FQ).length:Int),.i (fs.length:Int),.slice none 0 0] 52))):=hY ((Ext.refl _).alloc _);have HU:=hY f.o.use;have NA:=hY (show t.FP.length<=15/\(t.FP++t.FQ).length<=63/\t.FP.length<=(t.FP++t.FQ).length from⟨f.o.args.1,f.o.args.2,by simp⟩);generalize cn:t.FP.length=na at*;generalize cl:(t.FP++t.FQ).length=tn at*;generalize cw:fs.length=nf at*;go_upto_region 7 with fail;have c5:Hid (w.heap.size<=W4.heap.size):=hY bl.o.size;generalize W4.heap.size=b8 at*;generalize W4.alloc _=X at*;clear q1 q2 q3 q4;have az:=hY (E6.o.keep B5.o);obtain⟨q1,q2⟩:=blk az.o;go_upto_region 8 with fail;clear q1 q2;have LL:=hY (ak (ak CV.o.1 E4.o) E6.o);have NL:Hid (FU.length<=255):=hY f.o.FU;generalize br:FU.length=ln at*;have ap:=hY br;clear br cn cl cw
    go_loopw [46] (fun i V=>∃(j:Nat) (kv:Value),i=.i (j:Int)/\j<=ln/\V.heap[b8]?=some (.cells #[.i (na:Int),.i (tn:Int),.i (nf:Int),kv] 52)/\V.ownsRow X.heap.size 56 1 kv j ((FU.take j).map fun y=>bz (jP y))/\∃S:List Nat,(∀x∈S,x=b8\/X.heap.size<=x)/\Mod S X V) (fun i _=>ln-(intOf i).toNat)
    case atStart=>exact⟨0,_,rfl,oS _,B8.o,⟨rfl,.inl ⟨rfl,rfl⟩⟩,[],by simp,Mod.refl _ _⟩
    case round=>
     obtain⟨j,kv,rfl,hj,ay,U,S,hS,z⟩:=hrel;have MO:=hY (And.intro hS z);obtain⟨da,dc,rfl,bf⟩:=aJ U;have KR:=hY U;have P0:=hY ay;by_cases A:j<ln
     ·obtain⟨x,a⟩:∃x,FU[j]?=some x:=⟨_,iD (by rw[ap.o];exact A)⟩
      obtain⟨c1,c0,b6,cz⟩:=uv CV.o.2.1 a;have aa:jP x=if x.kind=3 then 1 else if x.kind=4 then 2 else 0:=rfl
      obtain⟨xk,xt,xl⟩:=x;obtain⟨xa,xc,rfl,_⟩:=cz
      obtain⟨lg,rfl,bt,bs⟩:∃lg,la=some ⟨lg,0,none⟩/\True/\lg<X.heap.size:=by
       obtain⟨ad,c,h1,h2⟩:=aJ LL.o;obtain⟨g,h3,h4,h5⟩:=h2 (by omega);injection h1 with h1 _ _;exact⟨g,h1.trans h3,trivial,h5⟩
      have a0:=z.row LL.o (fun g' m bb=>by
       simp only[Value.ownBlock,dO] at m;rcases hS g' bb with O|O
       ·obtain⟨_,_,cs,h⟩:=aw LL.o
        rw[show(⟨lg,0,none⟩:Addr).block=b8 from m.trans O,B8.o] at h;cases h
       ·omega)
      have av:∀i,i<3->wr.cell? ⟨lg,j*3+i,none⟩=([.i xk,.string (mkS xt),.slice xa xl.length xc]:List Value)[i]?:=fun i Z=>by
       rw[a0.cellAt (j*3+i) (by omega),b6 i Z]
      have l0:wr.cell? ⟨lg,j*3,none⟩=some (.i xk):=av 0 (by decide);have l1:wr.cell? ⟨lg,j*3+1,none⟩=some (.string (mkS xt)):=av 1 (by decide);have l2:wr.cell? ⟨lg,j*3+2,none⟩=some (.slice xa xl.length xc):=av 2 (by decide);have dd:(j:Int)<(ln:Int):=by omega
      have de:(j:Int)<=255:=by have:=NL.o;omega
      have JL:=hY A;have XJ:=hY a;have al:=hY aa;have BX:=hY (aq wr (.cells #[.i xk,.string (mkS xt),.slice xa xl.length xc] 55) _ rfl);have E5:Hid (Ext wr (wr.alloc (.cells #[.i xk,.string (mkS xt),.slice xa xl.length xc] 55))):=hY ((Ext.refl _).alloc _);have c7:Hid (X.heap.size<=wr.heap.size):=hY z.size;clear av a0 c0 b6 a A hj ay U hS z bt bs bf aa;go_upto_region 10 with fail;generalize wr.heap.size=di at*;generalize wr.alloc _=J at*;clear l0 l1 l2;have P5:=hY (E5.o.keep P0.o);have bj:=hY (ak KR.o E5.o)
      have bk:Hid (X.heap.size<=J.heap.size):=hY (by
       have h1:=ab BX.o;have h2:=c7.o
       omega)
      obtain⟨L,K⟩:=blk BX.o;obtain⟨i0,Z,ba,a9,a8⟩:=info_parts BD;have Y:Hid ((j+1)*8<=140737488355328/\j+1<=maxLen):=hY ⟨by omega,by unfold maxLen;omega⟩;by_cases h3:xk=3
      ·subst h3
       have KV:Hid (jP (.mk 3 xt xl)=1):=hY (by rw[al.o];rfl);go_upto_region 16 with fail;clear L K;obtain⟨L,K⟩:=blk P5.o;have R:Hid (Ext J (J.alloc (.cells #[.i 1] 56))):=hY ((Ext.refl _).alloc _);have p:=hY (ak bj.o R.o);have Q:=hY (R.o.keep P5.o);have H:=hY (World.news_of_block (aq J (.cells #[.i 1] 56) _ rfl));have G:Hid (∀u∈([.i 1]:List Value),u.oneCell'=true):=hY (by intro u hu;simp only[aS,aT,or_false] at hu;rcases hu with rfl;rfl);have ar:Hid (X.heap.size<=(J.alloc (.cells #[.i 1] 56)).heap.size):=hY (aN bk.o R.o.size);go_upto_region 17 with(at_builtin;refine wpList_append_lies _ rfl (.tmp 57) (.tmp 59) 50 rfl X.heap.size 56 i0 _ 1 8 Tryz.underlying50 Z ba a9 a8 rfl (by decide) (.slice da j dc) j ((FU.take j).map fun y=>bz (jP y)) rfl p.o ⟨J.heap.size,0,none⟩ 1 1 [.i 1] rfl rfl H.o G.o (by decide) Y.o.2 Y.o.1 ar.o _ rfl ?_;intro P c8 w8 r d C A;have OW:=hY r;have GR:=hY d;have cj:=hY C;clear r d C A;obtain⟨p3,p4⟩:=blk ((ag GR.o).keep Q.o (dx Q.o p.o (by decide))));have P9:=hY ((ag GR.o).keep Q.o (dx Q.o p.o (by decide)));have B:=ae w8 ⟨b8,3,none⟩ (.slice (some ⟨P,0,none⟩) (j+1) c8)
       have F:P≠b8:=fun O=>by
        obtain⟨_,_,cs,h⟩:=aw OW.o;rw[show(⟨P,0,none⟩:Addr).block=b8 from O,P9.o] at h;cases h
       have ah:=hY (B.row OW.o (fun g' m a=>by
        simp only[Value.ownBlock,dO] at m;simp only[aS,aT,or_false] at a
        exact F (m.trans a)))
       have ac:=hY (be (i:=3) P9.o (.slice (some ⟨P,0,none⟩) (j+1) c8));clear p3 p4 L K B F;go_wp2_with fail;go_roundw
       case rel=>
        refine⟨j+1,_,by push_cast;rfl,JL.o,ac.o,?_,S++b8::(Value.slice da j dc).ownBlock.toList,fun x a=>?_,?_⟩
        ·have h9:=ah.o
         rw[tO,XJ.o];simpa [bz,KV.o] using h9
        ·simp only[iF,aS] at a
         rcases a with a|rfl|a
         ·exact MO.o.1 x a
         ·exact .inl rfl
         ·exact .inr (au p.o a).1
        ·exact(MO.o.2.mono (fun x a=>by simp[a])).trans ((E5.o.mod _).trans ((R.o.mod _).trans (((ag GR.o).mono (fun x a=>by simp[a])).trans ((ae w8 ⟨b8,3,none⟩ _).mono (fun x a=>by simp only[aS,aT,or_false] at a;simp[a])))))
       case measure=>have:=JL.o;simp[intOf];omega
      ·by_cases h4:xk=4
       ·subst h4
        have KV:Hid (jP (.mk 4 xt xl)=2):=hY (by rw[al.o];rfl);go_upto_region 16 with fail;clear L K;obtain⟨L,K⟩:=blk P5.o;have R:Hid (Ext J (J.alloc (.cells #[.i 2] 56))):=hY ((Ext.refl _).alloc _);have p:=hY (ak bj.o R.o);have Q:=hY (R.o.keep P5.o);have H:=hY (World.news_of_block (aq J (.cells #[.i 2] 56) _ rfl));have G:Hid (∀u∈([.i 2]:List Value),u.oneCell'=true):=hY (by intro u hu;simp only[aS,aT,or_false] at hu;rcases hu with rfl;rfl);have ar:Hid (X.heap.size<=(J.alloc (.cells #[.i 2] 56)).heap.size):=hY (aN bk.o R.o.size);go_upto_region 17 with(at_builtin;refine wpList_append_lies _ rfl (.tmp 57) (.tmp 59) 50 rfl X.heap.size 56 i0 _ 1 8 Tryz.underlying50 Z ba a9 a8 rfl (by decide) (.slice da j dc) j ((FU.take j).map fun y=>bz (jP y)) rfl p.o ⟨J.heap.size,0,none⟩ 1 1 [.i 2] rfl rfl H.o G.o (by decide) Y.o.2 Y.o.1 ar.o _ rfl ?_;intro P c8 w8 r d C A;have OW:=hY r;have GR:=hY d;have cj:=hY C;clear r d C A;obtain⟨p3,p4⟩:=blk ((ag GR.o).keep Q.o (dx Q.o p.o (by decide))));have P9:=hY ((ag GR.o).keep Q.o (dx Q.o p.o (by decide)));have B:=ae w8 ⟨b8,3,none⟩ (.slice (some ⟨P,0,none⟩) (j+1) c8)
        have F:P≠b8:=fun O=>by
         obtain⟨_,_,cs,h⟩:=aw OW.o;rw[show(⟨P,0,none⟩:Addr).block=b8 from O,P9.o] at h;cases h
        have ah:=hY (B.row OW.o (fun g' m a=>by
         simp only[Value.ownBlock,dO] at m;simp only[aS,aT,or_false] at a
         exact F (m.trans a)))
        have ac:=hY (be (i:=3) P9.o (.slice (some ⟨P,0,none⟩) (j+1) c8));clear p3 p4 L K B F;go_wp2_with fail;go_roundw
        case rel=>
         refine⟨j+1,_,by push_cast;rfl,JL.o,ac.o,?_,S++b8::(Value.slice da j dc).ownBlock.toList,fun x a=>?_,?_⟩
         ·have h9:=ah.o
          rw[tO,XJ.o];simpa [bz,KV.o] using h9
         ·simp only[iF,aS] at a
          rcases a with a|rfl|a
          ·exact MO.o.1 x a
          ·exact .inl rfl
          ·exact .inr (au p.o a).1
         ·exact(MO.o.2.mono (fun x a=>by simp[a])).trans ((E5.o.mod _).trans ((R.o.mod _).trans (((ag GR.o).mono (fun x a=>by simp[a])).trans ((ae w8 ⟨b8,3,none⟩ _).mono (fun x a=>by simp only[aS,aT,or_false] at a;simp[a])))))
        case measure=>have:=JL.o;simp[intOf];omega
       ·have KV:Hid (jP (.mk xk xt xl)=0):=hY (by rw[al.o,if_neg (by exact h3),if_neg (by exact h4)])
        go_upto_region 16 with fail;clear L K;obtain⟨L,K⟩:=blk P5.o;have R:Hid (Ext J (J.alloc (.cells #[.i 0] 56))):=hY ((Ext.refl _).alloc _);have p:=hY (ak bj.o R.o);have Q:=hY (R.o.keep P5.o);have H:=hY (World.news_of_block (aq J (.cells #[.i 0] 56) _ rfl));have G:Hid (∀u∈([.i 0]:List Value),u.oneCell'=true):=hY (by intro u hu;simp only[aS,aT,or_false] at hu;rcases hu with rfl;rfl);have ar:Hid (X.heap.size<=(J.alloc (.cells #[.i 0] 56)).heap.size):=hY (aN bk.o R.o.size);go_upto_region 17 with(at_builtin;refine wpList_append_lies _ rfl (.tmp 57) (.tmp 59) 50 rfl X.heap.size 56 i0 _ 1 8 Tryz.underlying50 Z ba a9 a8 rfl (by decide) (.slice da j dc) j ((FU.take j).map fun y=>bz (jP y)) rfl p.o ⟨J.heap.size,0,none⟩ 1 1 [.i 0] rfl rfl H.o G.o (by decide) Y.o.2 Y.o.1 ar.o _ rfl ?_;intro P c8 w8 r d C A;have OW:=hY r;have GR:=hY d;have cj:=hY C;clear r d C A;obtain⟨p3,p4⟩:=blk ((ag GR.o).keep Q.o (dx Q.o p.o (by decide))));have P9:=hY ((ag GR.o).keep Q.o (dx Q.o p.o (by decide)));have B:=ae w8 ⟨b8,3,none⟩ (.slice (some ⟨P,0,none⟩) (j+1) c8)
        have F:P≠b8:=fun O=>by
         obtain⟨_,_,cs,h⟩:=aw OW.o;rw[show(⟨P,0,none⟩:Addr).block=b8 from O,P9.o] at h;cases h
        have ah:=hY (B.row OW.o (fun g' m a=>by
         simp only[Value.ownBlock,dO] at m;simp only[aS,aT,or_false] at a
         exact F (m.trans a)))
        have ac:=hY (be (i:=3) P9.o (.slice (some ⟨P,0,none⟩) (j+1) c8));clear p3 p4 L K B F;go_wp2_with fail;go_roundw
        case rel=>
         refine⟨j+1,_,by push_cast;rfl,JL.o,ac.o,?_,S++b8::(Value.slice da j dc).ownBlock.toList,fun x a=>?_,?_⟩
         ·have h9:=ah.o
          rw[tO,XJ.o];simpa [bz,KV.o] using h9
         ·simp only[iF,aS] at a
          rcases a with a|rfl|a
          ·exact MO.o.1 x a
          ·exact .inl rfl
          ·exact .inr (au p.o a).1
         ·exact(MO.o.2.mono (fun x a=>by simp[a])).trans ((E5.o.mod _).trans ((R.o.mod _).trans (((ag GR.o).mono (fun x a=>by simp[a])).trans ((ae w8 ⟨b8,3,none⟩ _).mono (fun x a=>by simp only[aS,aT,or_false] at a;simp[a])))))
        case measure=>have:=JL.o;simp[intOf];omega
     ·have cp:¬(j:Int)<(ln:Int):=by omega
      have cq:ln=j:=by omega
      subst cq
      have b9:Ext w wr:=gQ (bl.o.trans E6.o) MO.o.2 (fun x a=>by
       have h1:=c5.o;have h2:=(bl.o.trans E6.o).size
       rcases hS x a with O|O<;>omega)
      have N:∀(b:Nat) (cs:Array Value) (T:TypeId),X.heap[b]?=some (.cells cs T)->T≠52->¬b∈S:=fun b cs T hb hT a=>by
       rcases hS b a with O|O
       ·rw[O,B8.o] at hb
        injection hb with hb;injection hb with _ hb _;exact hT hb.symm
       ·have:=ab hb;omega
      have a5:0<(bD ai (aj k) 0 k).length:=by rw[bu];have:=qM f.o.reg.last;omega
      have ax:=ak (ak CV.o.2.2 E4.o) E6.o;obtain⟨dh,dg,cy,b3⟩:=aJ ax;obtain⟨cg,b4,_,_⟩:=b3 a5;injection cy with e1 O e3;clear O;subst e3;subst e1;subst b4
      have bg:=z.row ax (fun g' m bb=>by
       simp only[Value.ownBlock,dO] at m;obtain⟨_,_,cs,h⟩:=aw ax
       exact N cg cs 5 h (by decide) (by rw[show cg=g' from m];exact bb))
      have b7:iC wr cg 0 (bD ai (aj k) 0 k):=fun i v Z=>by
       have bd:=(aC.1 Z).1;have hr:=f.o.byte v (eQ Z);rw[nl,aX bg i bd];simp[u8L,Z,jm hr.1 hr.2]
      have b0:FU.take ln=FU:=by rw[Fu (by rw[ap.o];exact gE _)]
      have b1:ot wr da FU:=fun bc=>by
       have co:0<ln:=by rw[←ap.o];exact zb.2 bc
       obtain⟨g,cu,df,ct⟩:=bf co;subst cu;refine⟨g,0,rfl,ct,fun i l Z=>?_⟩;have bd:=(aC.1 Z).1;rw[nl,aX U i (by rw[←ap.o];exact bd),b0];simp[Z,bz]
      have bh:=f.o.args
      have bi:=hY (yr wr cg 0 (bD ai (aj k) 0 k).length cc k nf tn (na:Int) FU da dc (aw bg).2.1 b7 rfl (by rw[bu]) (by rw[bu];exact f.o.size) f.o.byte f.o.reg f.o.good f.o.fit HU.o f.o.ok f.o.most ⟨by omega,by have:=NA.o;omega,by have:=NA.o;omega,by have:=NA.o;omega⟩ FSe.o f.o.FU b1 (fun ad c4=>by
       subst c4
       exact(aw U).2.1) f.o.bad)
      rw[ap.o] at bi;have bn:=hY (z.keep az.o (N b5 _ 34 az.o (by decide)));have EV:=hY b9;clear b9 N a5 ax b3 bg b7 b0 b1 bh U bf hS z A hj;generalize(bD ai (aj k) 0 k).length=n at*;obtain⟨L,K⟩:=blk ay;obtain⟨q7,q8⟩:=blk bn.o;clear ay cp;have bp:=hY (fun W I=>AW.o W I);go_upto_region 19 with(go_at_call 16;refine bi.o.m fun w9 E9=>?_);clear L K q7 q8;obtain⟨M,hM⟩:∃M,ai k=M:=⟨_,rfl⟩
      have q9:w9.cell? ⟨b5,3,none⟩=some (.i M):=by
       rw[(blk (E9.o.keep bn.o)).1,←hM];rfl
      rw[hM];clear hM;have ce:=hY (EV.o.trans E9.o);clear f HU bi bn B5 CV az LL P0 KR MO B8 ci bo ch E6 E4 B1 B2 X2 SZ CO ND HB;go_wp2_with (go_at_call 7;refine(bp.o _ ce.o).m fun ck bm=>?_);go_ret;exact⟨by simp,ce.o.trans bm.o⟩
   ·have bp:=hY (fun W I=>AW.o W I)
    have bc:¬(dR fs gs t).err=0:=herr;have E4:=hY (E2.o.trans E3.o);clear CV;generalize dR fs gs t=RR at*;obtain⟨r1,r2,r3,r4,r5,r6,r7,r8,r9⟩:=RR;dsimp only at bc ⊢;have EA:Hid (Ext w (w3.alloc (.cells #[.string (mkS r1),.i r2,.i r3,.i r4,.i r5,.slice la r6.length lc,.slice ca r7.length cc] 34))):=hY (E4.o.alloc _);go_wp2_with (go_at_call 7;refine(bp.o _ EA.o).m fun ck bm=>?_);go_ret;exact⟨rfl,EA.o.trans bm.o⟩
section
variable {w:World}
theorem qw (w:World)(top:Nat):bT w top none 0 []:=⟨by simp,fun _=>rfl,fun h=>absurd rfl h,by unfold maxLen;omega,by simp,by simp⟩
theorem su {top:Nat}{k p:Int}{n:BL}{l:List T}{c:Option Addr}{b:Nat}(e:n.length<=ao)(h:I64 k)(d:I64 p)(j:l.length<=b/\(c=none->b=0)/\b<=maxLen/\l.length<=ao)(f:l≠[]->∃g a,c=some ⟨g,a,none⟩/\g<top/\LAt w top g a l):
 TAt w top (.mk k n [] [] l 0 p) [.i k,.string (mkS n),.slice none 0 0,.slice none 0 0,.slice c l.length b,.i 0,.i p]:=by
 rw[TAt];exact⟨none,0,none,0,c,b,rfl,qw _ _,qw _ _,j,f,e,h,by unfold I64;omega,d⟩
theorem sy {top g a:Nat}{t:T}{r:List T}{b:List Value}(f:b.length=7)(e:∀i,i<7->w.cell? ⟨g,a+i,none⟩=b[i]?)(c:TAt w top t b)(d:LAt w top g (a+7) r):LAt w top g a (t::r):=by
 rw[LAt];exact⟨⟨b,f,e,c⟩,d⟩
theorem tr {base e size n c:Nat}{ad:Option Addr}{xs:List Value}(h:w.ownsRow base e size (.slice ad n c) n xs)(i:0<n):n<=c/\c<=maxLen:=by
 rcases h.2 with⟨_,j⟩|⟨g,k,f,a,_,_,d,b,_⟩
 ·omega
 ·simp only[Value.slice.injEq] at a
  obtain⟨_,_,rfl⟩:=a;exact⟨d,b⟩
theorem qm.parts {base:Nat}{W:World}{s w n o c:Nat}(h:qm base W s w n o c):bK W W.heap.size eB none 0 none 0 (some ⟨s,0,none⟩) w:=by
 have t:=tr h.row (by decide);have v:=tr h.args (by decide);obtain⟨_,p,_,_⟩:=aw h.row;obtain⟨_,r,_,_⟩:=aw h.args;have g:TAt W W.heap.size mH (ndC 8 ⟨#[115,101,108,102]⟩ (.slice none 0 0) 6).toList:=su (by decide) (by unfold I64;omega) (by unfold I64;omega) ⟨by simp,fun _=>rfl,by unfold maxLen;omega,by simp⟩ (fun h=>absurd rfl h);have b:TAt W W.heap.size gJ (ndC 9 ⟨#[51]⟩ (.slice none 0 0) 16).toList:=su (by decide) (by unfold I64;omega) (by unfold I64;omega) ⟨by simp,fun _=>rfl,by unfold maxLen;omega,by simp⟩ (fun h=>absurd rfl h)
 have a:∀i,i<14->W.cell? ⟨o,i,none⟩=((ndC 8 ⟨#[115,101,108,102]⟩ (.slice none 0 0) 6).toList++(ndC 9 ⟨#[51]⟩ (.slice none 0 0) 16).toList)[i]?:=fun i f=>by
  have m:i<((ndC 8 ⟨#[115,101,108,102]⟩ (.slice none 0 0) 6).toList++(ndC 9 ⟨#[51]⟩ (.slice none 0 0) 16).toList).length:=f;rw[iD m];exact iT h.args (iD m)
 have d:TAt W W.heap.size nD (ndC 5 ⟨#[98,97,114,58]⟩ (.slice (some ⟨o,0,none⟩) 2 c) 11).toList:=su (l:=[mH,gJ]) (by decide) (by unfold I64;omega) (by unfold I64;omega) ⟨v.1,fun e=>(by cases e),v.2,by decide⟩ (fun _=>⟨o,0,rfl,r,sy rfl (fun i f=>by
  rw[nl,a i (by omega),md f]) g (sy rfl (fun i f=>by
  rw[a (0+7+i) (by omega),j1 (by show 7<=_;omega)]
  congr 1
  show 0+7+i-7=i
  omega) b (by rw[LAt];trivial))⟩)
 have k:TAt W W.heap.size uE (ndC 3 ⟨#[]⟩ (.slice (some ⟨n,0,none⟩) 1 1) 4).toList:=su (l:=[nD]) (by decide) (by unfold I64;omega) (by unfold I64;omega) ⟨gE _,fun e=>(by cases e),by unfold maxLen;omega,by decide⟩ (fun _=>⟨n,0,rfl,ab h.ret,sy rfl (fun i f=>by
  rw[nl,(blk h.ret).1 i]
  simp) d (by rw[LAt];trivial)⟩)
 refine⟨qw _ _,qw _ _,⟨t.1,fun e=>(by cases e),t.2,by decide,fun _=>⟨s,0,rfl,p,fun j x u=>?_⟩⟩,by decide,by unfold I64;decide,by unfold I64;decide,by unfold I64;decide⟩
 have q:j=0:=by
  have:=(aC.1 u).1;have y:eB.FN.length=1:=rfl;omega
 subst q;obtain rfl:uE=x:=ol u;refine⟨_,rfl,fun i f=>?_,k⟩;have m:i<(ndC 3 ⟨#[]⟩ (.slice (some ⟨n,0,none⟩) 1 1) 4).toList.length:=f;rw[np,nl,iD m];exact iT h.row (iD m)
def AwV (w:World)(v:Value):Prop:=∃a c b d,v=.agg #[.string ⟨#[102,111,111]⟩,.i 0,.i 0,.i 2,.i 0,.slice (some ⟨a,0,none⟩) 1 c,.slice (some ⟨b,0,none⟩) 8 d]/\w.cell? ⟨a,1,none⟩=some (.string ⟨#[98,97,114,58]⟩)/\a<w.heap.size/\b<w.heap.size/\∀j (e:j<8),w.cell? ⟨b,j,none⟩=some (.int .u8 ((([1,7,0,3,16,0,1,21]:List UInt8)[j]).toNat:Int))
theorem Bz {e:Ending}{w':World}(h:nP [] [] eB w e w'):Ext w w'/\∃v,e=.returned (.tuple #[v,.i 0,.i 0])/\AwV w' v:=by
 unfold nP at h;rw[vG] at h;obtain⟨r,v,p,B,o,D,z,A,rfl,n,s,m⟩:=h;refine⟨r,_,p,?_⟩;obtain⟨I,G,l,y⟩:=aJ n;obtain⟨t,rfl,_,d⟩:=y (by decide);obtain⟨H,F,k,x⟩:=aJ m;obtain⟨u,rfl,_,f⟩:=x (by decide);injection l with l _ _;injection k with k _ _;subst l k;obtain⟨E,q,g,b⟩:=uv s (j:=0) rfl;rw[dt] at b;obtain⟨a,c,rfl,_⟩:=b;refine⟨t,o,u,z,rfl,?_,d,f,fun j C=>?_⟩
 ·exact iT n (by have:=g 1 (by omega);simpa [mkS] using this)
 ·refine iT m ?_
  rcases j with _|_|_|_|_|_|_|_|j;all_goals first|rfl|(exfalso;omega)
theorem DH (w:World)(D:fJ w):Calls Tryz.prog 7 #[] w fun e w'=>e=.returned (.bool true)/\Ext w w':=by
 have V:=hY D;have R:=hY (AP w);clear D;go_enter Tryz.func7,Tryz.ntmps7;go_upto_region 2 with(go_at_call 15;refine R.o.mono ?_;rintro e f ⟨n,r,gR,gN,c,rfl,E,h⟩;have Q:=hY E;have K:=hY h;clear E h);have Y:=hY (aq f (.cells (ndC 1 ⟨#[102,111,111]⟩ (.slice (some ⟨n,0,none⟩) 1 r) 0) 26) _ rfl);have z:Hid (Ext f (f.alloc (.cells (ndC 1 ⟨#[102,111,111]⟩ (.slice (some ⟨n,0,none⟩) 1 r) 0) 26))):=hY ((Ext.refl _).alloc _);generalize f.heap.size=b1 at*;generalize f.alloc _=m at*;have O:=hY (Q.o.mod (z.o.mod []) (fun x M=>by simp at M));have W:Hid (Calls Tryz.prog 8 #[.agg (ndC 1 ⟨#[102,111,111]⟩ (.slice (some ⟨n,0,none⟩) 1 r) 0),.agg #[.slice none 0 0,.slice none 0 0]] m (nP [] [] eB m)):=hY (uk [] [] eB m m.heap.size (gE _) ((V.o.ext K.o).ext z.o) (.slice none 0 0) (.slice none 0 0) ⟨none,0,rfl,qw _ _⟩ ⟨none,0,rfl,qw _ _⟩ none 0 none 0 (some ⟨n,0,none⟩) r O.o.parts (by decide) (by decide));obtain⟨B,A⟩:=blk Y.o;go_upto_region 3 with(go_at_call 8;refine W.o.mono ?_;intro e d F;obtain⟨h,v,rfl,k,C,b,q,rfl,J,I,H,G⟩:=Bz F;have U:=hY h;have s:=hY (And.intro J (And.intro I (And.intro H G)));clear F h J I H G);clear B A;have L:=hY (aq d (.cells #[.string ⟨#[102,111,111]⟩,.i 0,.i 0,.i 2,.i 0,.slice (some ⟨k,0,none⟩) 1 C,.slice (some ⟨b,0,none⟩) 8 q] 34) _ rfl);have y:Hid (Ext d (d.alloc (.cells #[.string ⟨#[102,111,111]⟩,.i 0,.i 0,.i 2,.i 0,.slice (some ⟨k,0,none⟩) 1 C,.slice (some ⟨b,0,none⟩) 8 q] 34))):=hY ((Ext.refl _).alloc _);generalize g:d.heap.size=b5 at*;have l:=hY g;clear g;generalize d.alloc _=a at*;have u:Hid (Ext a (a.alloc (.cells #[.int .u8 1,.int .u8 7,.int .u8 0,.int .u8 3,.int .u8 16,.int .u8 0,.int .u8 1,.int .u8 21] 5))):=hY ((Ext.refl _).alloc _);have X:=hY (aq a (.cells #[.int .u8 1,.int .u8 7,.int .u8 0,.int .u8 3,.int .u8 16,.int .u8 0,.int .u8 1,.int .u8 21] 5) _ rfl);obtain⟨B,A⟩:=blk L.o;obtain⟨q3,q4⟩:=blk (u.o.keep L.o);have Z:(a.alloc (.cells #[.int .u8 1,.int .u8 7,.int .u8 0,.int .u8 3,.int .u8 16,.int .u8 0,.int .u8 1,.int .u8 21] 5)).cell? ⟨k,1,none⟩=some (.string ⟨#[98,97,114,58]⟩):=by rw[(y.o.trans u.o).cell (p:=⟨k,1,none⟩) (show k<d.heap.size by rw[l.o];exact s.o.2.1)];exact s.o.1
 have CV:(convert 32 9 (.slice (some ⟨b,0,none⟩) 8 q)).run Tryz.prog a=.ok (.string ⟨#[1,7,0,3,16,0,1,21]⟩) a:=run_convert_bytes_back (P:=Tryz.prog) a 32 9 5 ⟨b,0,none⟩ q [1,7,0,3,16,0,1,21] Tryz.underlying32 Tryz.underlying5 Tryz.underlying9 (fun j t=>by
  rw[show(⟨b,0,none⟩:Addr).add j=⟨b,j,none⟩ by unfold Addr.add;split<;>simp_all,y.o.cell (p:=⟨b,j,none⟩) (show b<d.heap.size by rw[l.o];exact s.o.2.2.1)]
  exact s.o.2.2.2 j t)
 have CW:(convert 32 9 (.slice (some ⟨a.heap.size,0,none⟩) 8 8)).run Tryz.prog (a.alloc (.cells #[.int .u8 1,.int .u8 7,.int .u8 0,.int .u8 3,.int .u8 16,.int .u8 0,.int .u8 1,.int .u8 21] 5))=.ok (.string ⟨#[1,7,0,3,16,0,1,21]⟩) (a.alloc (.cells #[.int .u8 1,.int .u8 7,.int .u8 0,.int .u8 3,.int .u8 16,.int .u8 0,.int .u8 1,.int .u8 21] 5)):=run_convert_bytes_back (P:=Tryz.prog) _ 32 9 5 ⟨a.heap.size,0,none⟩ 8 [1,7,0,3,16,0,1,21] Tryz.underlying32 Tryz.underlying5 Tryz.underlying9 (fun j t=>by
  rw[show(⟨a.heap.size,0,none⟩:Addr).add j=⟨a.heap.size,j,none⟩ by unfold Addr.add;split<;>simp_all,(blk X.o).1 j];have N:j<8:=t;rcases j with _|_|_|_|_|_|_|_|j
  all_goals first|rfl|(exfalso;omega))
 have S:=hY (K.o.trans (z.o.trans (U.o.trans (y.o.trans u.o))));go_wp2_with fail;go_ret;exact⟨rfl,S.o⟩
end
end Go.Proofs.Eff
