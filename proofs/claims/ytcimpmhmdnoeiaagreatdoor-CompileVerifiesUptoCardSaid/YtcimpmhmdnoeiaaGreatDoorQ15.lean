import Derived.Test.YtcimpmhmdnoeiaaGreatDoorQ08
import Derived.Test.YtcimpmhmdnoeiaaGreatDoorQ10
import Derived.Test.YtcimpmhmdnoeiaaGreatDoorQ14
set_option maxRecDepth 100000
set_option maxHeartbeats 4000000
set_option linter.all false
namespace Go.Proofs.Eff
open Go.RowKit
theorem kh (w:World)(top:Nat)(a:top<=w.heap.size)(b:fJ w):∀(n:Nat) (x:T),SizeOf.sizeOf x<=n->jq x w top
 |0,x,h=>by
  obtain⟨k,e,d,c,l,p,pl⟩:=x;simp only[T.mk.sizeOf_spec] at h;omega
 |n+1,x,h=>qj w top a b x (fun y f=>kh w top a b n y (by omega))
theorem pE (w:World)(top:Nat)(a:top<=w.heap.size)(b:fJ w)(x:T):jq x w top:=kh w top a b _ x (gE _)
def qK (k:Int)(n:BL)(a b:List BL)(l:List T)(p:Int):Bool:=k==1&&(bo n==(a.length:Int))&&decide (0<=p)&&decide (p<=255)&&bM a&&bM b&&T.stmts l
theorem vk (W:World)(top:Nat)(j:top<=W.heap.size)(H:fJ W)(k:Int)(n:BL)(g h:List BL)(l:List T)(p pl:Int)(v:Option Addr)(s:Nat)(u:Option Addr)(r:Nat)(t:Option Addr)(q:Nat)(C:bK W top (.mk k n g h l p pl) v s u r t q):
 Calls Tryz.prog 32 #[.agg (af k n g.length h.length l.length p pl v s u r t q)] W fun e w'=>e=.returned (.bool (qK k n g h l p))/\Ext W w':=by
 have I:(mkS n).size<=1048576:=by rw[aR];exact C.name
 have N:g.length<=1048576:=C.FP.small;have m:Hid (Ext W (W.alloc (.cells (af k n g.length h.length l.length p pl v s u r t q) 26))):=(Ext.refl W).alloc _;have w:=hY (bt W (aB k n g.length h.length l.length p pl v s u r t q) 26);have E:=hY (fun V=>ss V (mkS n) I);rw[aG] at E;have A:=hY (fun V (f:Ext (W.alloc (.cells (af k n g.length h.length l.length p pl v s u r t q) 26)) V)=>am (m.o.trans f) j);have TV:Hid (∀V,Ext (W.alloc (.cells (af k n g.length h.length l.length p pl v s u r t q) 26)) V->top<=V.heap.size):=hY (fun V f=>aN j (m.o.trans f).size);have G:=hY (fun V f=>jI V top s v g (C.FP.keep (A.o V f)) (TV.o V f));have F:=hY (fun V f=>jI V top r u h (C.FQ.keep (A.o V f)) (TV.o V f));have Q:=hY (fun V f=>lU V top q t l (C.FN.keep (A.o V f)) (TV.o V f) (fun y M _=>pE V top (TV.o V f) (H.ext (m.o.trans f)) y) (fun y M _ z L=>pE V top (TV.o V f) (H.ext (m.o.trans f)) z));obtain⟨R,_⟩:=w.o _ (Ext.refl _);have B:Hid (qK k n g h l p=(k==1&&(bo n==(g.length:Int))&&decide (0<=p)&&decide (p<=255)&&bM g&&bM h&&T.stmts l)):=rfl;clear C j H;generalize bM g=P at*;generalize bM h=O at*;generalize T.stmts l=U at*;by_cases h7:k=1
 ·subst h7
  go_enter Tryz.func32,Tryz.ntmps32;go_upto_region 1 with fail;generalize W.alloc _=c at*;generalize L:bo n=z at*;refine wp_region_held_drew (S:=(fun w'=>(∀i,w'.cell? ⟨W.heap.size,i,none⟩=([.i 1,.string (mkS n),.slice v g.length s,.slice u h.length r,.slice t l.length q,.i p,.i pl]:List Value)[i]?)/\Ext c w')) (by kernel_rfl) ?_ (fun a=>?_)
  ·with_reducible (refine w.o _ ?_;(repeat' (first|refine Ext.drew ?_|exact Ext.refl _|refine Ext.trans ?_ b|exact(‹_/\Ext c _›).2)))
  refine tk 0 a ?_;refine tk 1 a ?_;refine tk 2 a ?_;refine tk 3 a ?_;refine tk 4 a ?_;refine tk 5 a ?_;refine tk 7 a ?_;refine tk 8 a ?_;refine tk 9 a ?_;(refine kz 6 rfl (by kernel_rfl) (fun K d=>?_);go_simp;(refine(E.o _).mono ?_;rintro e D ⟨rfl,b⟩);(try go_wp2_with fail);refine d.o _ _ ?_ (fun a=>?_);(focus(with_reducible (refine w.o _ ?_;(repeat' (first|refine Ext.drew ?_|exact Ext.refl _|refine Ext.trans ?_ b|exact(‹_/\Ext c _›).2)));done));clear d K)
  try simp only[Act.put,nb,ou,oF]
  cases h2:(z==(g.length:Int))
  ·refine tk 10 a ?_
   refine tk 11 a ?_;refine tk 12 a ?_;refine sk [13,14,15] (fuel:=22) a ?_;refine tk 16 a ?_;refine tk 17 a ?_;refine sk [18,19,20] (fuel:=17) a ?_;refine tk 21 a ?_;refine tk 22 a ?_;refine sk [23,24,25] (fuel:=12) a ?_;refine tk 26 a ?_;refine tk 27 a ?_;refine sk [28,29,30] (fuel:=7) a ?_;refine tk 31 a ?_;refine tk 32 a ?_;refine sk [33,34,35] (fuel:=2) a ?_;refine tk 36 a ?_;refine tk 37 a ?_;refine wpAnyH_done (by kernel_rfl) ?_ _;go_wp2_with fail;go_ret;refine⟨?_,m.o.trans (‹_/\Ext c _›).2⟩;rw[B.o];first|rfl|(simp[h2];done)|(simp[x];done)|(simp[*];done)
  ·refine tk 10 a ?_
   refine tk 11 a ?_;refine tk 12 a ?_;refine tk 13 a ?_;refine tk 14 a ?_;by_cases h3:0<=p
   ·refine tk 15 a ?_
    refine tk 16 a ?_;refine tk 17 a ?_;refine tk 18 a ?_;refine tk 19 a ?_;by_cases h4:p<=255
    ·refine tk 20 a ?_
     refine tk 21 a ?_;refine tk 22 a ?_;refine tk 23 a ?_;refine tk 24 a ?_;cases P
     ·(refine kz 25 rfl (by kernel_rfl) (fun K d=>?_);go_simp;((first|with_reducible refine(G.o _ (‹_/\Ext c _›).2).mono ?_|with_reducible refine(F.o _ (‹_/\Ext c _›).2).mono ?_);rintro e D ⟨rfl,b⟩);(try go_wp2_with fail);refine d.o _ _ ?_ (fun a=>?_);(focus(with_reducible (refine w.o _ ?_;(repeat' (first|refine Ext.drew ?_|exact Ext.refl _|refine Ext.trans ?_ b|exact(‹_/\Ext c _›).2)));done));clear d K)
      try simp only[Act.put,nb,ou,oF]
      refine tk 26 a ?_;refine tk 27 a ?_;refine sk [28,29,30] (fuel:=7) a ?_;refine tk 31 a ?_;refine tk 32 a ?_;refine sk [33,34,35] (fuel:=2) a ?_;refine tk 36 a ?_;refine tk 37 a ?_;refine wpAnyH_done (by kernel_rfl) ?_ _;go_wp2_with fail;go_ret;refine⟨?_,m.o.trans (‹_/\Ext c _›).2⟩;rw[B.o];first|rfl|(simp[h2];done)|(simp[x];done)|(simp[*];done)
     ·(refine kz 25 rfl (by kernel_rfl) (fun K d=>?_);go_simp;((first|with_reducible refine(G.o _ (‹_/\Ext c _›).2).mono ?_|with_reducible refine(F.o _ (‹_/\Ext c _›).2).mono ?_);rintro e D ⟨rfl,b⟩);(try go_wp2_with fail);refine d.o _ _ ?_ (fun a=>?_);(focus(with_reducible (refine w.o _ ?_;(repeat' (first|refine Ext.drew ?_|exact Ext.refl _|refine Ext.trans ?_ b|exact(‹_/\Ext c _›).2)));done));clear d K)
      try simp only[Act.put,nb,ou,oF]
      refine tk 26 a ?_;refine tk 27 a ?_;refine tk 28 a ?_;refine tk 29 a ?_;cases O
      ·(refine kz 30 rfl (by kernel_rfl) (fun K d=>?_);go_simp;((first|with_reducible refine(G.o _ (‹_/\Ext c _›).2).mono ?_|with_reducible refine(F.o _ (‹_/\Ext c _›).2).mono ?_);rintro e D ⟨rfl,b⟩);(try go_wp2_with fail);refine d.o _ _ ?_ (fun a=>?_);(focus(with_reducible (refine w.o _ ?_;(repeat' (first|refine Ext.drew ?_|exact Ext.refl _|refine Ext.trans ?_ b|exact(‹_/\Ext c _›).2)));done));clear d K)
       try simp only[Act.put,nb,ou,oF]
       refine tk 31 a ?_;refine tk 32 a ?_;refine sk [33,34,35] (fuel:=2) a ?_;refine tk 36 a ?_;refine tk 37 a ?_;refine wpAnyH_done (by kernel_rfl) ?_ _;go_wp2_with fail;go_ret;refine⟨?_,m.o.trans (‹_/\Ext c _›).2⟩;rw[B.o];first|rfl|(simp[h2];done)|(simp[x];done)|(simp[*];done)
      ·(refine kz 30 rfl (by kernel_rfl) (fun K d=>?_);go_simp;((first|with_reducible refine(G.o _ (‹_/\Ext c _›).2).mono ?_|with_reducible refine(F.o _ (‹_/\Ext c _›).2).mono ?_);rintro e D ⟨rfl,b⟩);(try go_wp2_with fail);refine d.o _ _ ?_ (fun a=>?_);(focus(with_reducible (refine w.o _ ?_;(repeat' (first|refine Ext.drew ?_|exact Ext.refl _|refine Ext.trans ?_ b|exact(‹_/\Ext c _›).2)));done));clear d K)
       try simp only[Act.put,nb,ou,oF]
       refine tk 31 a ?_;refine tk 32 a ?_;refine tk 33 a ?_;refine tk 34 a ?_;(refine kz 35 rfl (by kernel_rfl) (fun K d=>?_);go_simp;(refine(Q.o _ (‹_/\Ext c _›).2).mono ?_;rintro e D ⟨rfl,b⟩);(try go_wp2_with fail);refine d.o _ _ ?_ (fun a=>?_);(focus(with_reducible (refine w.o _ ?_;(repeat' (first|refine Ext.drew ?_|exact Ext.refl _|refine Ext.trans ?_ b|exact(‹_/\Ext c _›).2)));done));clear d K)
       try simp only[Act.put,nb,ou,oF]
       refine tk 36 a ?_;refine tk 37 a ?_;refine wpAnyH_done (by kernel_rfl) ?_ _;go_wp2_with fail;go_ret;refine⟨?_,m.o.trans (‹_/\Ext c _›).2⟩;rw[B.o];first|rfl|(simp[h2];done)|(simp[x];done)|(simp[*];done)
    ·have x:decide (p<=255)=false:=decide_eq_false h4
     refine tk 20 a ?_;refine tk 21 a ?_;refine tk 22 a ?_;refine sk [23,24,25] (fuel:=12) a ?_;refine tk 26 a ?_;refine tk 27 a ?_;refine sk [28,29,30] (fuel:=7) a ?_;refine tk 31 a ?_;refine tk 32 a ?_;refine sk [33,34,35] (fuel:=2) a ?_;refine tk 36 a ?_;refine tk 37 a ?_;refine wpAnyH_done (by kernel_rfl) ?_ _;go_wp2_with fail;go_ret;refine⟨?_,m.o.trans (‹_/\Ext c _›).2⟩;rw[B.o];first|rfl|(simp[h2];done)|(simp[x];done)|(simp[*];done)
   ·have x:decide (0<=p)=false:=decide_eq_false h3
    refine tk 15 a ?_;refine tk 16 a ?_;refine tk 17 a ?_;refine sk [18,19,20] (fuel:=17) a ?_;refine tk 21 a ?_;refine tk 22 a ?_;refine sk [23,24,25] (fuel:=12) a ?_;refine tk 26 a ?_;refine tk 27 a ?_;refine sk [28,29,30] (fuel:=7) a ?_;refine tk 31 a ?_;refine tk 32 a ?_;refine sk [33,34,35] (fuel:=2) a ?_;refine tk 36 a ?_;refine tk 37 a ?_;refine wpAnyH_done (by kernel_rfl) ?_ _;go_wp2_with fail;go_ret;refine⟨?_,m.o.trans (‹_/\Ext c _›).2⟩;rw[B.o];first|rfl|(simp[h2];done)|(simp[x];done)|(simp[*];done)
 ·have J:((k:Int)==1)=false:=by simpa using h7
  go_enter Tryz.func32,Tryz.ntmps32;go_upto_region 1 with fail;generalize W.alloc _=c at*;go_quiet (fail);go_wp2_with fail;go_ret;exact⟨by rw[B.o,J];rfl,m.o.trans ((Ext.refl _).drewN _)⟩
section
variable {base p n:Nat} {a b w w':World} {s:TX} {v:Value} {x:BL}
structure WM (base p:Nat)(w w':World):Prop where
 os:w'.os=w.os
 tape:w'.tape=w.tape
 output:w'.output=w.output
 size:w.heap.size<=w'.heap.size
 low:∀k,k<base->k<w.heap.size->w'.heap[k]?=w.heap[k]?
 keep:∀k o,w.heap[k]?=some o->k≠p->(∀cs fz,o≠.cells cs 5 fz)->w'.heap[k]?=some o
theorem WM.refl (base p:Nat)(w:World):WM base p w w:=⟨rfl,rfl,rfl,gE _,fun _ _ _=>rfl,fun _ _ h _ _=>h⟩
theorem WM.trans {c:World}(h:WM base p a b)(k:WM base p b c):WM base p a c:=
 ⟨k.os.trans h.os,k.tape.trans h.tape,k.output.trans h.output,aN h.size k.size,fun i g e=>(k.low i g (bA e h.size)).trans (h.low i g e),fun i o j f d=>k.keep i o (h.keep i o j f d) f d⟩
theorem WM.FZ (h:Ext a b):WM base p a b:=
 ⟨h.os,h.tape,h.output,h.size,fun k _ c=>h.block c,fun _ _ d _ _=>h.keep d⟩
theorem WM.ext {c:World}(h:WM base p a b)(k:Ext b c):WM base p a c:=h.trans (.FZ k)
theorem WM.mod {S:List Nat}(h:Mod S a b)(j:∀k∈S,base<=k/\(k=p\/∃i g,a.heap[k]?=some (.cells i 5 g))):WM base p a b:=
 ⟨h.os,h.tape,h.output,h.size,fun k n f=>h.block k f (fun d=>by have:=(j k d).1;omega),fun k o c m l=>h.keep c (fun d=>by
  rcases(j k d).2 with e|⟨i,g,e⟩
  ·exact m e
  ·rw[e] at c;exact l i g (ol c).symm)⟩
def fI (l:BL):List Value:=l.map fun b=>Value.int .u8 (b.toNat:Int)
def pwC (v:Value)(s:TX):Array Value:=#[v,.i s.deep,.i s.most,.bool (decide (65536<s.F.length))]
structure PWV (base:Nat)(w:World)(p:Nat)(s:TX)(v:Value)(n:Nat)(xs:List Value):Prop where
 lo:base<=p
 blk:w.heap[p]?=some (.cells (pwC v s) 100)
 row:w.ownsRow base 5 1 v n xs
 small:n<=65536
 same:s.F.length<=65536->xs=fI s.F/\n=s.F.length
def aK (base:Nat)(w:World)(p:Nat)(s:TX):Prop:=∃v n a,PWV base w p s v n a
theorem PWV.keep {xs:List Value}(h:PWV base w p s v n xs)(a:Ext w w'):PWV base w' p s v n xs:=
 ⟨h.lo,a.keep h.blk,ak h.row a,h.small,h.same⟩
theorem aK.keep (h:aK base w p s)(b:Ext w w'):aK base w' p s:=by
 obtain⟨v,n,a,h⟩:=h;exact⟨v,n,a,h.keep b⟩
theorem aK.size (h:aK base w p s):base<w.heap.size:=by
 obtain⟨v,n,a,h⟩:=h;exact Nat.lt_of_le_of_lt h.lo (ab h.blk)
theorem PWV.write {xs:List Value}(h:PWV base w p s v n xs)(i:Nat)(u:Value):WM base p w (w.setCell ⟨p,i,none⟩ u)/\(w.setCell ⟨p,i,none⟩ u).heap[p]?=some (.cells ((pwC v s).setIfInBounds i u) 100)/\(w.setCell ⟨p,i,none⟩ u).ownsRow base 5 1 v n xs:=
 ⟨WM.mod (ae w ⟨p,i,none⟩ u) (fun k a=>by
  simp only[aS,aT,or_false] at a;subst a
  exact⟨h.lo,.inl rfl⟩),be h.blk u,n8 h.row (ae w ⟨p,i,none⟩ u) h.blk (by decide)⟩
theorem PWV.grown {m:Nat}{v':Value}{xs b:List Value}(h:PWV base w p s v n xs)(c:w'.ownsRow base 5 1 v' m b)(a:w.grownBy w' v.ownBlock):WM base p w w'/\w'.heap[p]?=some (.cells (pwC v s) 100)/\WM base p w (w'.setCell ⟨p,0,none⟩ v')/\(w'.setCell ⟨p,0,none⟩ v').heap[p]?=some (.cells ((pwC v s).setIfInBounds 0 v') 100)/\(w'.setCell ⟨p,0,none⟩ v').ownsRow base 5 1 v' m b:=by
 have g:WM base p w w':=WM.mod (ag a) (fun k d=>⟨(au h.row d).1,.inr (au h.row d).2⟩)
 have f:w'.heap[p]?=some (.cells (pwC v s) 100):=(ag a).keep h.blk (fun i=>by
  obtain⟨_,l,j,e⟩:=au h.row i;rw[h.blk] at e
  cases e)
 refine⟨g,f,g.trans (WM.mod (ae w' ⟨p,0,none⟩ v') (fun k d=>by
  simp only[aS,aT,or_false] at d;subst d
  exact⟨h.lo,.inl rfl⟩)),be f v',n8 c (ae w' ⟨p,0,none⟩ v') f (by decide)⟩
theorem sN (l:BL):Lib.strCells (mkS l)=fI l:=by unfold Lib.strCells fI mkS;simp
theorem sh:(Tryz.prog.info? 5).map (fun i=>(i.zero,i.size,i.bytes))=some (some (.int .u8 0),1,1):=by kernel_rfl
theorem vu {vs:List BL}{k:Nat}(h:vs[k]?=some x):(vs.take (k+1)).foldl TX.put s=((vs.take k).foldl TX.put s).put x:=by
 rw[tO,h,List.foldl_append];rfl
theorem yT (h:65536<s.F.length+x.length):(pwC v s).setIfInBounds 3 (.bool true)=pwC v (s.put x):=by
 have:decide (65536<(s.put x).F.length)=true:=decide_eq_true (by show 65536<(s.F++x).length;rw[bY];exact h);unfold pwC;rw[this];rfl
theorem AB (h:65536<s.F.length):pwC v s=pwC v (s.put x):=by
 have a:decide (65536<(s.put x).F.length)=true:=decide_eq_true (by show 65536<(s.F++x).length;rw[bY];omega);unfold pwC;rw[a,decide_eq_true h];rfl
theorem AD {v':Value}(h:s.F.length+x.length<=65536):(pwC v s).setIfInBounds 0 v'=pwC v' (s.put x):=by
 have a:decide (65536<(s.put x).F.length)=false:=decide_eq_false (by show¬65536<(s.F++x).length;rw[bY];omega);unfold pwC;rw[a,decide_eq_false (by omega)];rfl
theorem Em (w:World)(base p g:Nat)(s:TX)(vs:List BL)(N:Array Value)(h:aK base w p s)(P:w.heap[g]?=some (.cells N 9))(C:N.toList=dY vs)(Y:vs.length<=ao)(he:∀x∈vs,x.length<=140737488289792):Calls Tryz.prog 34 #[.pointer (some ⟨p,0,none⟩),.slice (some ⟨g,0,none⟩) vs.length vs.length] w fun e w'=>e=.returned (.tuple #[])/\aK base w' p (vs.foldl TX.put s)/\WM base p w w':=by
 have ac:vs.length<=1048576:=Y
 have B:g≠p:=by
  obtain⟨v,n,H,h⟩:=h;exact ie P h.blk (by intro e;cases e)
 have HB:=hY (fun W (hW:WM base p w W)=>(blk (hW.keep g _ P B (by intro N fz e;cases e))).1);have HX:Hid (∀j x,vs[j]?=some x->N[j]?=some (Value.string (mkS x))):=hY (fun j x hj=>by rw[←C2,C,dY,oN,hj];rfl);have R:=hY h;have HE:=hY he;clear h P C Y B he;obtain⟨y,K,q,m,l⟩:=info_parts sh;have U:Hid (Tryz.prog.info? 5=some y/\y.zero=some (.int .u8 0)/\y.size=1/\y.bytes=1):=hY ⟨K,q,m,l⟩;clear K q m l;go_enter Tryz.func34,Tryz.ntmps34;go_wp2_with fail
 go_loopw [8] (fun i wr=>∃k:Nat,k<=vs.length/\i=.i k/\aK base wr p ((vs.take k).foldl TX.put s)/\WM base p w wr) (fun i _=>vs.length-(intOf i).toNat)
 case atStart=>exact⟨0,by omega,rfl,R.o,WM.refl _ _ _⟩
 case round=>
  obtain⟨k,hk,rfl,L,E⟩:=hrel;have M:=hY E;by_cases hlt:k<vs.length
  ·obtain⟨x,J⟩:∃x,vs[k]?=some x:=⟨vs[k],by simp⟩
   have c0:wr.cell? ⟨g,k,none⟩=some (.string (mkS x)):=by rw[HB.o wr E k];exact HX.o k x J
   have aa:=HE.o x (eQ J);have X:=hY (vu (s:=s) J);obtain⟨v,n,H,D⟩:=L;obtain⟨ad,c,rfl,_⟩:=aJ D.row;have V:=hY D;have hn:=D.small;obtain⟨t,q2⟩:=blk D.blk;have sz:(mkS x).size=x.length:=aR x;clear E D J;generalize List.foldl TX.put s (vs.take k)=S at*;by_cases hlong:65536<n+x.length
   ·have Q:=V.o.write 3 (.bool true)
    have u:Hid (65536<S.F.length+x.length):=hY (by
     by_cases h6:S.F.length<=65536
     ·have:=(V.o.same h6).2;omega
     ·omega)
    rw[yT u.o] at Q;have f:=hY Q;clear Q;unfold pwC at t;go_upto_region 5 with fail;generalize wr.setCell _ _=W1 at*;obtain⟨I,r2⟩:=blk f.o.2.1;have r:decide (65536<(S.put x).F.length)=true:=decide_eq_true (by show 65536<(S.F++x).length;rw[bY];exact u.o);unfold pwC at I;rw[r] at I;have a:Hid (aK base W1 p (S.put x)/\WM base p w W1):=hY ⟨⟨_,n,H,V.o.lo,f.o.2.1,f.o.2.2,V.o.small,fun h=>by simp at r;omega⟩,M.o.trans f.o.1⟩;clear f r t q2 u c0;go_wp2_with fail;go_roundw
    case rel=>exact⟨k+1,by omega,by go_num,by rw[X.o];exact a.o.1,a.o.2⟩
    case measure=>simp[intOf];omega
   ·by_cases h6:65536<S.F.length
    ·have r:decide (65536<S.F.length)=true:=decide_eq_true h6
     have a:Hid (aK base wr p (S.put x)):=hY ⟨_,n,H,V.o.lo,by rw[←AB h6];exact V.o.blk,V.o.row,V.o.small,fun h=>by
      have:(S.F++x).length<=65536:=h;rw[bY] at this
      omega⟩
     unfold pwC at t;rw[r] at t;clear r h6;go_wp2_with fail;go_roundw
     case rel=>exact⟨k+1,by omega,by go_num,by rw[X.o];exact a.o,M.o⟩
     case measure=>simp[intOf];omega
    ·have r:decide (65536<S.F.length)=false:=decide_eq_false h6
     have O:=hY (V.o.same (by omega));have u:Hid (S.F.length+x.length<=65536):=hY (by have:=O.o.2;omega);unfold pwC at t;rw[r] at t;clear r h6;go_upto_region 6 with fail;have z:base<=wr.heap.size:=FH (Nat.lt_of_le_of_lt V.o.lo (ab V.o.blk));obtain⟨K,q,m,l⟩:=U.o;have B1:Hid (n+(mkS x).size<=maxLen):=hY (by unfold maxLen;omega);have B2:Hid (n+(mkS x).size<=140737488355328):=hY (by omega);have HS:=hY z;clear z;go_wp2_with (at_builtin;refine Lib.wpList_append_own_string _ rfl (.tmp 33) (.tmp 34) 32 9 rfl base 5 y Tryz.underlying32 Tryz.underlying9 K q m l (.slice ad n c) n H rfl V.o.row (mkS x) rfl B1.o B2.o HS.o ?_;intro v5 w5 b d _;obtain⟨ae,c5,rfl,_⟩:=aJ b;have G:=hY (V.o.grown b d);clear b d;obtain⟨I,r2⟩:=blk G.o.2.1;unfold pwC at I);go_roundw
     case rel=>
      refine⟨k+1,by omega,by go_num,?_,M.o.trans G.o.2.2.1⟩;rw[X.o];have Z:=G.o.2.2.2.1;rw[AD u.o] at Z;refine⟨_,_,_,V.o.lo,Z,G.o.2.2.2.2,by rw[aR];have:=O.o.2;have:=u.o;omega,fun _=>?_⟩;rw[O.o.1,O.o.2,sN,aR];exact⟨by show _=fI (S.F++x);unfold fI;rw[An],by show _=(S.F++x).length;rw[bY]⟩
     case measure=>simp[intOf];omega
  ·have A:k=vs.length:=by omega
   have F:Hid (aK base wr p (vs.foldl TX.put s)/\WM base p w wr):=hY ⟨by rw[A,Fz] at L;exact L,E⟩;clear L E M A;go_wp2_with fail;exact QzE rfl rfl ⟨rfl,F.o⟩
end
theorem jC (c b:UInt8)(l:BL):Lib.index (b::l) [c]=if b=c then 0 else if Lib.index l [c]= -1 then-1 else Lib.index l [c]+1:=by
 rw[Lib.index];by_cases h:b=c
 ·subst h;simp[List.isPrefixOf]
 ·rw[if_neg h]
  have:List.isPrefixOf [c] (b::l)=false:=by simp[List.isPrefixOf,Ne.symm h]
  rw[this];simp[beq_iff_eq]
theorem De (new:BL)(c:UInt8)(l:BL):∀k,l.count c<=k->Lib.replaceK [c] new k l=l.flatMap fun b=>if b=c then new else [b]:=by
 induction l with
 |nil=>
  intro k _;cases k with
  |zero=>rfl
  |succ k=>rw[Lib.replaceK];rfl
 |cons b l ih=>
  intro k a;by_cases h:b=c
  ·subst h
   rw[List.count_cons_self] at a;cases k with
   |zero=>omega
   |succ k=>
    rw[Lib.replaceK,jC,if_pos rfl];simp only[oR,if_true];show(b::l).take 0++new++Lib.replaceK [b] new k ((b::l).drop (0+1))=_
    rw[show(b::l).drop (0+1)=l from rfl,ih k (by omega)];simp
  ·rw[List.count_cons_of_ne (by simpa using h)] at a
   have e:Lib.replaceK [c] new k (b::l)=b::Lib.replaceK [c] new k l:=by
    cases k with
    |zero=>rfl
    |succ k=>
     rw[Lib.replaceK,Lib.replaceK,jC,if_neg h];have d:=Lib.index_ge l [c];by_cases hi:Lib.index l [c]= -1
     ·rw[if_pos hi,hi];rfl
     ·rw[if_neg hi]
      have i:¬(Lib.index l [c]+1== -1)=true:=by rw[beq_iff_eq];omega
      have g:¬(Lib.index l [c]== -1)=true:=by rw[beq_iff_eq];omega
      rw[if_neg i,if_neg g];have f:(Lib.index l [c]+1).toNat=(Lib.index l [c]).toNat+1:=by omega
      rw[f];simp only[ty,kq]
      congr 1
   rw[e,ih k a,oR,if_neg h];rfl
theorem qh (l:BL):Lib.replaceAll l [39] [39,39]=l.flatMap j7:=by
 unfold Lib.replaceAll Lib.replace Lib.replaceNum;rw[if_neg (by decide),if_pos (.inl (by decide)),De _ _ _ _ (by rw[Lib.count_one];exact gE _)];rfl
theorem uR (b:UInt8)(a l:BL):aQ (b::a) l=match aQ a l with|([],r)=>([],b::r)|(p::ps,r)=>((b::p)::ps,r):=by
 induction l generalizing a with
 |nil=>rfl
 |cons x l ih=>
  rw[aQ,aQ];by_cases h:x=58
  ·rw[if_pos h,if_pos h];rfl
  ·rw[if_neg h,if_neg h,kq,ih]
theorem nF (l:BL):∀k,l.count 58<=k->Lib.splitK [58] 1 k l=(aQ [] l).1++[(aQ [] l).2]:=by
 induction l with
 |nil=>
  intro k _;cases k with
  |zero=>rfl
  |succ k=>rw[Lib.splitK];rfl
 |cons b l ih=>
  intro k a;by_cases h:b=58
  ·subst h
   rw[List.count_cons_self] at a;cases k with
   |zero=>omega
   |succ k=>
    rw[Lib.splitK,jC,if_pos rfl,aQ,if_pos rfl];show(58::l).take (0+1)::Lib.splitK [58] 1 k ((58::l).drop (0+1))=_
    rw[show((58::l:BL)).drop (0+1)=l from rfl,ih k (by omega)];rfl
  ·rw[List.count_cons_of_ne (by simpa using h)] at a
   have e:∀k,Lib.splitK [58] 1 k (b::l)=match Lib.splitK [58] 1 k l with|[]=>[]|x::r=>(b::x)::r:=by
    intro k;cases k with
    |zero=>rfl
    |succ k=>
     rw[Lib.splitK,Lib.splitK,jC,if_neg h];have d:=Lib.index_ge l [58];by_cases hi:Lib.index l [58]= -1
     ·rw[if_pos hi,hi];rfl
     ·rw[if_neg hi]
      have i:¬(Lib.index l [58]+1== -1)=true:=by rw[beq_iff_eq];omega
      have g:¬(Lib.index l [58]== -1)=true:=by rw[beq_iff_eq];omega
      rw[if_neg i,if_neg g];have f:(Lib.index l [58]+1).toNat=(Lib.index l [58]).toNat+1:=by omega
      rw[f,show(Lib.index l [58]).toNat+1+1=((Lib.index l [58]).toNat+1)+1 from rfl,ty,show(Lib.index l [58]).toNat+1+([58]:BL).length=((Lib.index l [58]).toNat+([58]:BL).length)+1 by omega,List.drop_succ_cons]
   rw[e,ih k a,aQ,if_neg h,lE,uR];rcases hp:aQ [] l with⟨c,r⟩;cases c with
   |nil=>rfl
   |cons p c=>rfl
theorem wC (a:BL)(l:List BL):Lib.join l a=fA a l:=by
 unfold Lib.join
 induction l with
 |nil=>rfl
 |cons x r ih=>
  cases r with
  |nil=>simp[List.intercalate,fA]
  |cons y r=>rw[fA,←ih];simp[List.intercalate,List.intersperse]
theorem zk (l:List BL):(fA [32] l).length<=(l.map (·.length)).sum+l.length:=by
 induction l with
 |nil=>simp[fA]
 |cons x r ih=>
  cases r with
  |nil=>simp[fA]
  |cons y r=>rw[fA];simp only[bY,AC,List.sum_cons,gi] at ih ⊢;simp only[hG];omega
theorem yi (a b:ByteArray):bl (a++b)=bl a++bl b:=by simp[bl,ByteArray.data_append]
theorem ph (a b:BL):mkS a++mkS b=mkS (a++b):=by rw[←jw (mkS a++mkS b),yi,aG,aG]
theorem mN (w:World)(n:BL)(j:n.length<=ao):Calls Tryz.prog 204 #[.string (mkS n)] w fun e w'=>e=.returned (.i (cI n))/\Ext w w':=by
 have c:(mkS n).size<=1048576:=by rw[aR];exact j
 have N:=hY (fun W=>iZ W (mkS n) c);have B:=hY (fun W=>jA W (mkS n) c);rw[aG] at N B;have R:Hid (cI n=if aI n then 0 else if cJ n then 1 else 2):=rfl;generalize aI n=l at*;generalize cJ n=k at*;cases l with
 |true=>
  go_enter Tryz.func204,Tryz.ntmps204;go_wp2_with (go_at_call 98;refine(N.o _).m fun g d=>?_);go_ret;exact⟨by rw[R.o];rfl,d.o⟩
 |false=>
  cases k with
  |true=>
   go_enter Tryz.func204,Tryz.ntmps204;go_wp2_with (first|(go_at_call 98;refine(N.o _).m fun g d=>?_)|(go_at_call 99;refine(B.o _).m fun h f=>?_));go_ret;exact⟨by rw[R.o];rfl,d.o.trans f.o⟩
  |false=>
   go_enter Tryz.func204,Tryz.ntmps204;go_wp2_with (first|(go_at_call 98;refine(N.o _).m fun g d=>?_)|(go_at_call 99;refine(B.o _).m fun h f=>?_));go_ret;exact⟨by rw[R.o];rfl,d.o.trans f.o⟩
theorem j5 (n:BL):cI n=0\/cI n=1\/cI n=2:=by
 unfold cI;split
 ·exact .inl rfl
 ·split
  ·exact .inr (.inl rfl)
  ·exact .inr (.inr rfl)
theorem Az (W:World)(k:Int)(n:BL)(n1 c b:Nat)(p pl:Int)(l:Option Addr)(g:Nat)(j:Option Addr)(f:Nat)(h:Option Addr)(d:Nat)(s:n.length<=ao):
 Calls Tryz.prog 250 #[.agg (af k n n1 c b p pl l g j f h d)] W fun e w'=>e=.returned (.i (if k=4\/k=6 then 4 else if k=5 then 1+cI n else 0))/\Ext W w':=by
 have m:Hid (Ext W (W.alloc (.cells (af k n n1 c b p pl l g j f h d) 26))):=(Ext.refl W).alloc _;obtain⟨y,_⟩:=bt W (aB k n n1 c b p pl l g j f h d) 26 _ (Ext.refl _);have R:=hY (fun V=>mN V n s);by_cases h4:k=4\/k=6
 ·rw[if_pos h4]
  rcases h4 with rfl|rfl
  all_goals
   go_enter Tryz.func250,Tryz.ntmps250;go_upto_region 1 with fail;generalize W.alloc _=q at*;go_wp2_with fail;go_ret;exact⟨rfl,m.o⟩
 ·rw[if_neg h4]
  have u:(k==4)=false:=by simp;omega
  have t:(k==6)=false:=by simp;omega
  by_cases h5:k=5
  ·subst h5
   rw[if_pos rfl];have v:=hY (j5 n);generalize cI n=r at*;clear h4 u t;rcases v.o with rfl|rfl|rfl
   all_goals
    go_enter Tryz.func250,Tryz.ntmps250;go_upto_region 1 with fail;generalize W.alloc _=q at*;go_wp2_with (go_at_call 204;refine(R.o _).m fun x w=>?_);go_ret;exact⟨rfl,m.o.trans w.o⟩
  ·rw[if_neg h5]
   have z:(k==5)=false:=by simpa using h5
   clear h4 h5;go_enter Tryz.func250,Tryz.ntmps250;go_upto_region 1 with fail;generalize W.alloc _=q at*;go_wp2_with fail;go_ret;exact⟨rfl,m.o⟩
theorem mO (n:BL):(n.flatMap j7).length<=2*n.length:=by
 induction n with
 |nil=>simp
 |cons b r ih=>
  rw[oR,bY,gi];have:(j7 b).length<=2:=by unfold j7;split<;>simp
  omega
theorem tg (w:World)(n:BL)(f:n.length<=ao)(d:fJ w):Calls Tryz.prog 150 #[.string (mkS n)] w fun e w'=>e=.returned (.string (mkS (j6 n)))/\Ext w w':=by
 have c:(mkS n).size<=1048576:=by rw[aR];exact f
 obtain⟨m,g⟩:=d.mx
 have C:=hY (Go.Proofs.Tryz.strings_ReplaceAll (mkS n) ⟨#[39]⟩ ⟨#[39,39]⟩ m w (by omega) g (by decide) (by
  have s:=Lib.countB_le ⟨#[39]⟩ (by decide) _ (mkS n) (gE _);have k:(⟨#[39,39]⟩:ByteArray).size=2:=rfl;rw[k]
  omega))
 rw[show(mkS n).data.toList=n from aG n] at C;rw[show(⟨#[39]⟩:ByteArray).data.toList=[39] from rfl,show(⟨#[39,39]⟩:ByteArray).data.toList=[39,39] from rfl,qh] at C;clear d g;have i:(n.flatMap j7).length<=2*n.length:=mO n;obtain⟨X,b⟩:∃X,X=mkS (n.flatMap j7):=⟨_,rfl⟩;have j:X.size<=2097152:=by rw[b,aR];unfold ao at f;omega
 rw[show(⟨(n.flatMap j7).toArray⟩:ByteArray)=X from b.symm] at C;have l:=hY b;have r:(⟨#[39]⟩:ByteArray).size=1:=rfl;have q:((⟨#[39]⟩:ByteArray)++X).size=1+X.size:=by simp[ByteArray.size_append];rfl
 clear b i c;go_enter Tryz.func150,Tryz.ntmps150;go_wp2_with (go_at_call 205;refine C.o.m fun h a=>?_;have p:Hid (Ext w h):=hY a.o);go_ret;refine⟨?_,p.o⟩;show Ending.returned (Value.string ((mkS [39]++X)++mkS [39]))=_
 rw[l.o,ph,ph];rfl
theorem yA (x:UInt8):(decide (fu (x.toNat:Int)=2)||decide (fu (x.toNat:Int)=3)||x==58)=jY x:=by
 rw[gZ,nk];rfl
theorem wR (w:World)(x:UInt8):Calls Tryz.prog 207 #[.int .u8 (x.toNat:Int)] w fun e w'=>e=.returned (.bool (!jY x))/\Ext w w':=by
 have S:=hY (yA x);have j:((x.toNat:Int)==58)=(x==58):=(oE x 58).trans (by rw[rW];simp);have C:=hY (fun W=>dS W (x.toNat:Int));generalize(x==58)=b at*;generalize fu (x.toNat:Int)=c at*;have h:c=2\/(c≠2/\c=3)\/(c≠2/\c≠3):=by omega
 rcases h with rfl|⟨f,rfl⟩|⟨f,i⟩
 ·go_enter Tryz.func207,Tryz.ntmps207
  go_wp2_with (go_at_call 143;refine(C.o _).m fun g d=>?_);go_ret;exact⟨by rw[←S.o];rfl,d.o⟩
 ·go_enter Tryz.func207,Tryz.ntmps207
  go_wp2_with (go_at_call 143;refine(C.o _).m fun g d=>?_);go_ret;exact⟨by rw[←S.o];rfl,d.o⟩
 ·have n:(c !=2)=true:=by simpa using f
  have m:(c !=3)=true:=by simpa using i
  have l:decide (c=2)=false:=decide_eq_false f;have k:decide (c=3)=false:=decide_eq_false i;rw[l,k] at S;clear f i l k;cases b with
  |true=>
   go_enter Tryz.func207,Tryz.ntmps207;go_wp2_with (go_at_call 143;refine(C.o _).m fun g d=>?_);go_ret;exact⟨by rw[←S.o];show Ending.returned (Value.bool ((x.toNat:Int)!=58))=_;simp only[bne,j];rfl,d.o⟩
  |false=>
   go_enter Tryz.func207,Tryz.ntmps207;go_wp2_with (go_at_call 143;refine(C.o _).m fun g d=>?_);go_ret;exact⟨by rw[←S.o];show Ending.returned (Value.bool ((x.toNat:Int)!=58))=_;simp only[bne,j];rfl,d.o⟩
def jS (q:UInt8->Bool):Nat->BL->Int
 |_,[]=> -1
 |k,x::r=>if q x=true then k else jS q (k+1) r
theorem xN (q:UInt8->Bool)(k:Nat)(l:BL):decide (0<=jS q k l)=l.any q:=by
 induction l generalizing k with
 |nil=>rfl
 |cons x r ih=>
  rw[jS,List.any_cons,←ih (k+1)];cases q x with
  |true=>simp
  |false=>simp
theorem Ck (q:UInt8->Bool)(l:BL):(l.any fun x=>!q x)=!l.all q:=by
 induction l with
 |nil=>rfl
 |cons x r ih=>rw[List.any_cons,x0,ih];cases q x<;>rfl
theorem zr (w:World)(g c:Nat)(l:BL)(h:l.length<=ao)(n:∀W,Ext w W->∀(j:Nat) (x:UInt8),l[j]?=some x->W.cell? ⟨g,j,none⟩=some (.int .u8 (x.toNat:Int))):Calls Tryz.prog 252 #[.slice (some ⟨g,0,none⟩) l.length c,.func (.func 207) #[] #[]] w fun e w'=>e=.returned (.i (jS (fun x=>!jY x) 0 l))/\Ext w w':=by
 have s:l.length<=1048576:=h;have u:=hY n;clear h n;go_enter Tryz.func252,Tryz.ntmps252;go_wp2_with fail
 go_loopw [8] (fun i wr=>∃k:Nat,k<=l.length/\i=.i k/\Ext w wr/\jS (fun x=>!jY x) 0 l=jS (fun x=>!jY x) k (l.drop k)) (fun i _=>l.length-(intOf i).toNat)
 case atStart=>exact⟨0,by omega,rfl,Ext.refl _,rfl⟩
 case round=>
  obtain⟨k,v,rfl,q,p⟩:=hrel;have E:=hY q;have F:=hY p;clear q p;by_cases hlt:k<l.length
  ·obtain⟨x,d⟩:∃x,l[k]?=some x:=⟨l[k],by simp⟩
   have t:=u.o wr E.o k x d
   have b:Hid (jS (fun x=>!jY x) 0 l=if(!jY x)=true then(k:Int) else jS (fun x=>!jY x) (k+1) (l.drop (k+1))):=by
    have:=F.o;rw[hI hlt,jS] at this;have e:l[k]=x:=by simpa [hlt] using d
    rw[e] at this;exact this
   have C:=hY (wR wr x);clear d F;cases hqx:jY x with
   |false=>
    rw[hqx] at C b;go_wp2_with (go_at_call 207;refine C.o.m fun r f=>?_);go_ret;exact⟨by rw[b.o];rfl,E.o.trans f.o⟩
   |true=>
    rw[hqx] at C b;go_wp2_with (go_at_call 207;refine C.o.m fun r f=>?_);go_roundw
    case rel=>exact⟨k+1,by omega,by go_num,E.o.trans f.o,by rw[b.o];rfl⟩
    case measure=>simp[intOf];omega
  ·have m:l.drop k=[]:=hH (by omega)
   have b:Hid (jS (fun x=>!jY x) 0 l= -1):=by
    have:=F.o;rw[m] at this;exact this
   clear m
   go_wp2
   go_ret;exact⟨by rw[b.o];rfl,E.o⟩
theorem uh (w:World)(g c:Nat)(l:BL)(b:l.length<=ao)(d:∀W,Ext w W->∀(j:Nat) (x:UInt8),l[j]?=some x->W.cell? ⟨g,j,none⟩=some (.int .u8 (x.toNat:Int))):Calls Tryz.prog 206 #[.slice (some ⟨g,0,none⟩) l.length c,.func (.func 207) #[] #[]] w fun e w'=>e=.returned (.bool (!l.all jY))/\Ext w w':=by
 have M:Hid (decide (0<=jS (fun x=>!jY x) 0 l)=!l.all jY):=hY (by rw[xN,Ck]);have C:=hY (zr w g c l b d);clear b d;generalize jS (fun x=>!jY x) 0 l=z at*;go_enter Tryz.func206,Tryz.ntmps206;go_wp2_with (go_at_call 252;refine C.o.m fun h f=>?_);go_ret;exact⟨by rw[←M.o];rfl,f.o⟩
theorem wS (w:World)(n:BL)(z:n.length<=ao)(N:fJ w):Calls Tryz.prog 151 #[.string (mkS n)] w fun e w'=>e=.returned (.string (mkS (wT n)))/\Ext w w':=by
 have u:(mkS n).size<=1048576:=by rw[aR];exact z
 have B:=hY (fun W=>jA W (mkS n) u);rw[aG] at B;have Q:=hY (fun W (P:Ext w W)=>tg W n z (N.ext P));have R:Hid (wT n=if(lS n||cJ n)=true then n else j6 n):=rfl;cases n with
 |nil=>
  rw[show lS []=false from rfl,show cJ []=false from rfl] at R;rw[show cJ []=false from rfl] at B;have v:((mkS []).toList.isEmpty)=true:=by rw[kL];rfl
  go_enter Tryz.func151,Tryz.ntmps151;go_wp2_with (first|(go_at_call 99;refine(B.o _).m fun m g=>?_)|(go_at_call 150;refine(Q.o _ g.o).m fun L i=>?_));go_ret;exact⟨by rw[R.o];rfl,g.o.trans i.o⟩
 |cons x r=>
  have M:0<(mkS (x::r)).size:=by rw[aR];simp
  have v:((mkS (x::r)).toList.isEmpty)=false:=by rw[kL];rfl
  have A:(mkS (x::r))[0]=x:=by
   have:=f9 (mkS (x::r)) 0 M;rw[aG] at this;simpa using this.symm
  have D:=gZ x;rw[←A] at D;have q:Hid (lS (x::r)=(ew (mkS (x::r))[0]&&(x::r).all jY)):=by rw[A];exact hY rfl
  have K:=hY (fun W (j:Nat) (y:UInt8) (s:(x::r)[j]?=some y)=>(by
   have I:j<(mkS (x::r)).size:=by rw[aR];exact(aC.1 s).1
   have S:=fH (mkS (x::r)) W j I;have H:=f9 (mkS (x::r)) j I;rw[aG,s] at H
   rw[S,←ol H]:(Lib.bytesWorld W 5 (mkS (x::r))).cell? ⟨W.heap.size,j,none⟩=some (.int .u8 (y.toNat:Int))))
  have t:=hY (fun W c=>uh (Lib.bytesWorld W 5 (mkS (x::r))) W.heap.size c (x::r) z (fun V O j y s=>(O.cell (p:=⟨W.heap.size,j,none⟩) (by rw[Lib.bytesWorld_size];exact sx _)).trans (K.o W j y s)));have X:(mkS (x::r)).size=(x::r).length:=aR _;rw[←X] at t;have f:=hY (fun W=>dS W ((mkS (x::r))[0].toNat:Int));clear A K;generalize ew (mkS (x::r))[0]=U at*;generalize((x::r).all jY)=b2 at*;generalize cJ (x::r)=J at*;cases U with
  |false=>
   have C:(fu ((mkS (x::r))[0].toNat:Int)==2)=false:=by simpa using D
   cases J with
   |true=>
    go_enter Tryz.func151,Tryz.ntmps151;go_wp2_with (first|(go_at_call 143;refine(f.o _).m fun h k=>?_)|(go_at_call 99;refine(B.o _).m fun m a=>?_;have g:=hY (k.o.trans a.o)));go_ret;exact⟨by rw[R.o,q.o];rfl,g.o⟩
   |false=>
    go_enter Tryz.func151,Tryz.ntmps151;go_wp2_with (first|(go_at_call 143;refine(f.o _).m fun h k=>?_)|(go_at_call 99;refine(B.o _).m fun m a=>?_;have g:=hY (k.o.trans a.o))|(go_at_call 150;refine(Q.o _ g.o).m fun L i=>?_));go_ret;exact⟨by rw[R.o,q.o];rfl,g.o.trans i.o⟩
  |true=>
   have C:fu ((mkS (x::r))[0].toNat:Int)=2:=by simpa using D
   cases b2 with
   |true=>
    go_enter Tryz.func151,Tryz.ntmps151;go_wp2_with (first|(go_at_call 143;refine(f.o _).m fun h k=>?_)|(rw[ep (mkS (x::r)) h];have g:=hY (k.o.trans (dD (mkS (x::r)) h)))|(go_at_call 206;refine(t.o _ _).m fun m a=>?_;have i:=hY (g.o.trans a.o))|(go_at_call 99;refine(B.o _).m fun G a=>?_;have l:=hY (i.o.trans a.o))|(go_at_call 150;refine(Q.o _ l.o).m fun F E=>?_));go_ret;exact⟨by rw[R.o,q.o];rfl,i.o⟩
   |false=>
    cases J with
    |true=>
     go_enter Tryz.func151,Tryz.ntmps151;go_wp2_with (first|(go_at_call 143;refine(f.o _).m fun h k=>?_)|(rw[ep (mkS (x::r)) h];have g:=hY (k.o.trans (dD (mkS (x::r)) h)))|(go_at_call 206;refine(t.o _ _).m fun m a=>?_;have i:=hY (g.o.trans a.o))|(go_at_call 99;refine(B.o _).m fun G a=>?_;have l:=hY (i.o.trans a.o))|(go_at_call 150;refine(Q.o _ l.o).m fun F E=>?_));go_ret;exact⟨by rw[R.o,q.o];rfl,l.o⟩
    |false=>
     go_enter Tryz.func151,Tryz.ntmps151;go_wp2_with (first|(go_at_call 143;refine(f.o _).m fun h k=>?_)|(rw[ep (mkS (x::r)) h];have g:=hY (k.o.trans (dD (mkS (x::r)) h)))|(go_at_call 206;refine(t.o _ _).m fun m a=>?_;have i:=hY (g.o.trans a.o))|(go_at_call 99;refine(B.o _).m fun G a=>?_;have l:=hY (i.o.trans a.o))|(go_at_call 150;refine(Q.o _ l.o).m fun F E=>?_));go_ret;exact⟨by rw[R.o,q.o];rfl,l.o.trans E.o⟩
def qo (w:World)(g:Nat)(l:List BL):Prop:=∃a:Array Value,w.heap[g]?=some (.cells a 9)/\∀(j:Nat) (x:BL),l[j]?=some x->a[j]?=some (Value.string (mkS x))
theorem qo.keep {w w':World}{g base p:Nat}{l:List BL}(h:qo w g l)(c:WM base p w w')(b:g≠p):qo w' g l:=by
 obtain⟨a,f,d⟩:=h;exact⟨a,c.keep g _ f b (by intro a i e;cases e),d⟩
theorem qo.cell {w:World}{g:Nat}{l:List BL}(h:qo w g l){j:Nat}{x:BL}(a:l[j]?=some x):w.cell? ⟨g,j,none⟩=some (.string (mkS x)):=by
 obtain⟨d,c,b⟩:=h;rw[(blk c).1];exact b j x a
theorem yE (n:BL)(k:Nat)(a:n.count 58<=k):(Lib.splitB ⟨#[58]⟩ 1 k (mkS n)).map bl=bS n++[yS n]:=by
 have:=Lib.splitB_data ⟨#[58]⟩ 1 k (mkS n);rw[show(mkS n).data.toList=n from aG n,show(⟨#[58]⟩:ByteArray).data.toList=[58] from rfl,nF n k a] at this;exact this
theorem yF (w:World)(n:BL)(A:n.length<=ao)(p:fJ w):Calls Tryz.prog 144 #[.string (mkS n),.string ⟨#[58]⟩] w fun e w'=>∃c,e=.returned (.slice (some ⟨w.heap.size,0,none⟩) ((bS n).length+1) c)/\(bS n).length+1<=c/\c<=2097152/\qo w' w.heap.size (bS n)/\Ext w w':=by
 have z:(mkS n).size<=1048576:=by rw[aR];exact A
 obtain⟨m,q⟩:=p.mx;have d:=Lib.countB_le ⟨#[58]⟩ (by decide) _ (mkS n) (gE _)
 have b:Lib.countB (mkS n) ⟨#[58]⟩=n.count 58:=by
  show Lib.count (mkS n).data.toList [58]=_
  rw[Lib.count_one,show(mkS n).data.toList=n from aG n]
 rw[b] at d
 have h:((n.count 58+1:Nat):Int)=min (if(-1:Int)<0 then((Lib.countB (mkS n) ⟨#[58]⟩:Nat):Int)+1 else-1) (((mkS n).size:Int)+1):=by
  rw[b,if_pos (by decide)]
  push_cast
  omega
 have i:=Go.Proofs.Tryz.strings_genSplit (mkS n) ⟨#[58]⟩ 1 (-1) (n.count 58+1) m w (by omega) q (by decide) (by decide) (by decide) (by decide) h;have g:=yE n (n.count 58+1-1) (by omega);generalize Lib.splitB ⟨#[58]⟩ 1 (n.count 58+1-1) (mkS n)=f at*
 have a:f.length=(bS n).length+1:=by
  have:=congrArg List.length g;simpa using this
 rw[a] at i
 have E:Hid (qo (w.alloc (.cells (Lib.cellsOf f (n.count 58+1)) 9)) w.heap.size (bS n)):=by
  refine hY ⟨_,aq w _ _ rfl,fun j x r=>?_⟩;have u:(f.map bl)[j]?=some x:=by rw[g,md (aC.1 r).1];exact r
  rw[oN] at u;obtain⟨y,t,D⟩:=Option.map_eq_some_iff.1 u;unfold Lib.cellsOf;rw[FA,md (by rw[se];exact(aC.1 t).1),oN,t,←D,jw];rfl
 have v:Hid ((bS n).length+1<=n.count 58+1/\n.count 58+1<=2097152):=by
  refine hY ⟨?_,by omega⟩;rw[←a];have:=nF n (n.count 58) (gE _)
  have B:∀k (l:BL),(Lib.splitK [58] 1 k l).length<=k+1:=by
   intro k
   induction k with
   |zero=>intro l;simp[Lib.splitK]
   |succ k ih=>intro l;rw[Lib.splitK];split;simp;exact Nat.succ_le_succ (ih _)
  have s:=B (n.count 58) n;rw[this] at s;rw[a];simpa [bS] using s
 have C:=hY i;have F:Hid (Ext w (w.alloc (.cells (Lib.cellsOf f (n.count 58+1)) 9))):=(Ext.refl w).alloc _;clear i g a b d p q;go_enter Tryz.func144,Tryz.ntmps144;go_wp2_with (go_at_call 196;refine C.o.mono ?_;rintro e G ⟨rfl,rfl⟩);go_ret;exact⟨_,rfl,v.o.1,v.o.2,E.o,F.o⟩
theorem nJ (w:World)(n:BL)(f:n.length<=ao)(d:fJ w):Calls Tryz.prog 100 #[.string (mkS n)] w fun e w'=>∃g c,e=.returned (.slice (some ⟨g,0,none⟩) (bS n).length c)/\w.heap.size<=g/\g<w'.heap.size/\qo w' g (bS n)/\Ext w w':=by
 have C:=hY (yF w n f d);go_enter Tryz.func100,Tryz.ntmps100;go_wp2_with (go_at_call 144;refine C.o.mono ?_;rintro e l ⟨c,rfl,i,h,b,a⟩;have k:=hY a;have K:=hY b;clear a b);go_ret;refine⟨_,_,rfl,gE _,?_,K.o,k.o⟩;obtain⟨m,j,_⟩:=K.o;exact ab j
theorem C4 (l:List BL)(h:∀x∈l,x.length<=ao):(l.map (·.length)).sum<=l.length*ao:=by
 induction l with
 |nil=>simp
 |cons x r ih=>
  simp only[AC,List.sum_cons,gi];have c:=h x (by simp);have b:=ih (fun y a=>h y (by simp[a]));rw[Nat.add_mul];omega
theorem mT {l:List BL}(a:l.length<=ao)(h:∀x∈l,x.length<=ao):(fA [32] l).length<=1099512676352:=by
 have d:=zk l;have c:=C4 l h;have b:l.length*ao<=ao*ao:=Nat.mul_le_mul_right _ a;unfold ao at*;omega
theorem vj (w:World)(top c:Nat)(a:Option Addr)(l:List BL)(h:bT w top a c l)(f:top<=w.heap.size):Calls Tryz.prog 36 #[.slice a l.length c,.string ⟨#[32]⟩] w fun e w'=>e=.returned (.string (mkS (fA [32] l)))/\Ext w w':=by
 by_cases hl:l=[]
 ·subst hl
  refine(Go.Proofs.Tryz.strings_Join_none a c ⟨#[32]⟩ w).mono ?_;rintro e w' ⟨rfl,rfl⟩;exact⟨rfl,Ext.refl _⟩
 ·obtain⟨g,d,rfl,q,n⟩:=h.row hl
  have b:=mT h.small h.each;have m:=h.small
  have k:((l.map mkS).map (·.data.toList))=l:=by
   rw[List.map_map]
   conv=>rhs;rw[←List.map_id l]
   apply List.map_congr_left;intro x _;exact aG x
  have:=Go.Proofs.Tryz.strings_Join g d c (l.map mkS) ⟨#[32]⟩ w (fun j x i=>by
   rw[oN] at i;obtain⟨y,p,o⟩:=Option.map_eq_some_iff.1 i;rw[←o]
   exact n j y p) (by omega) (by rw[se];unfold ao at m;omega) (by rw[se];exact h.cap) (by rw[k,wC];exact aN b (by omega))
  rw[k,wC,se] at this;exact this
section
variable {N:Int}
def bO:Nat:=140737488289792
theorem n9 (w:World)(base p:Nat)(s:TX)(vs:List ByteArray)(h:aK base w p s)(i:vs.length<=8)(c:∀x∈vs,x.size<=bO):Calls Tryz.prog 34 #[.pointer (some ⟨p,0,none⟩),.slice (some ⟨w.heap.size,0,none⟩) vs.length vs.length] (w.alloc (.cells (vs.map Value.string).toArray 9)) fun e w'=>e=.returned (.tuple #[])/\aK base w' p ((vs.map bl).foldl TX.put s)/\WM base p w w':=by
 have:=Em (w.alloc (.cells (vs.map Value.string).toArray 9)) base p w.heap.size s (vs.map bl) _ (h.keep ((Ext.refl w).alloc _)) (aq w _ _ rfl) (by
  simp only[dY,List.map_map];apply List.map_congr_left;intro x _;show Value.string x=Value.string (mkS (bl x))
  rw[jw]) (by rw[se];unfold ao;omega) (fun x b=>by
  obtain⟨y,a,rfl⟩:=BP.1 b;rw[←bX]
  exact c y a)
 rw[se] at this;refine this.mono ?_;rintro e w' ⟨g,f,d⟩;exact⟨g,f,(WM.FZ ((Ext.refl w).alloc _)).trans d⟩
theorem cS (w:World)(base p:Nat)(s:TX)(x:ByteArray)(h:aK base w p s)(a:x.size<=bO):Calls Tryz.prog 34 #[.pointer (some ⟨p,0,none⟩),.slice (some ⟨w.heap.size,0,none⟩) 1 1] (w.alloc (.cells #[.string x] 9)) fun e w'=>e=.returned (.tuple #[])/\aK base w' p (s.put (bl x))/\WM base p w w':=
 n9 w base p s [x] h (by simp) (by simpa using a)
theorem rI (w:World)(base p:Nat)(s:TX)(x y:ByteArray)(h:aK base w p s)(b:x.size<=bO)(a:y.size<=bO):Calls Tryz.prog 34 #[.pointer (some ⟨p,0,none⟩),.slice (some ⟨w.heap.size,0,none⟩) 2 2] (w.alloc (.cells #[.string x,.string y] 9)) fun e w'=>e=.returned (.tuple #[])/\aK base w' p ((s.put (bl x)).put (bl y))/\WM base p w w':=
 n9 w base p s [x,y] h (by simp) (by simp[b,a])
theorem uP (w:World)(base p:Nat)(s:TX)(x y z:ByteArray)(h:aK base w p s)(c:x.size<=bO)(b:y.size<=bO)(a:z.size<=bO):Calls Tryz.prog 34 #[.pointer (some ⟨p,0,none⟩),.slice (some ⟨w.heap.size,0,none⟩) 3 3] (w.alloc (.cells #[.string x,.string y,.string z] 9)) fun e w'=>e=.returned (.tuple #[])/\aK base w' p (((s.put (bl x)).put (bl y)).put (bl z))/\WM base p w w':=
 n9 w base p s [x,y,z] h (by simp) (by simp[c,b,a])
theorem El (w:World)(base p:Nat)(s:TX)(x y z u:ByteArray)(h:aK base w p s)(c:x.size<=bO)(b:y.size<=bO)(a:z.size<=bO)(d:u.size<=bO):Calls Tryz.prog 34 #[.pointer (some ⟨p,0,none⟩),.slice (some ⟨w.heap.size,0,none⟩) 4 4] (w.alloc (.cells #[.string x,.string y,.string z,.string u] 9)) fun e w'=>e=.returned (.tuple #[])/\aK base w' p ((((s.put (bl x)).put (bl y)).put (bl z)).put (bl u))/\WM base p w w':=
 n9 w base p s [x,y,z,u] h (by simp) (by simp[c,b,a,d])
structure TX.ok (s:TX)(N:Int):Prop where
 lo:0<=s.deep
 hi:s.deep+N<=1000000000
 mlo:0<=s.most
 mhi:s.most<=1000000000
theorem TX.ok.mono {s:TX}{M:Int}(h:s.ok N)(a:M<=N):s.ok M:=⟨h.lo,by have:=h.hi;omega,h.mlo,h.mhi⟩
theorem TX.ok.sub {s s':TX}{M:Int}(h:s.ok N)(a:Sub s s' M)(b:M<=N):s'.ok N:=
 ⟨by rw[a.deep];exact h.lo,by rw[a.deep];exact h.hi,Int.le_trans h.mlo a.lo,by have e:=a.hi;have d:=h.hi;have c:=h.mhi;omega⟩
theorem TX.ok.put {s:TX}(h:s.ok N)(x:BL):(s.put x).ok N:=h.sub (N:=N) (M:=N) (Sub.put s x) (p8 _)
theorem TX.ok.opn {s:TX}(h:s.ok (N+1))(a:0<=N)(x:BL):(s.opn x).ok N:=
 ⟨by show 0<=s.deep+1;have:=h.lo;omega,by show s.deep+1+N<=_;have:=h.hi;omega,by show 0<=max s.most (s.deep+1);have:=h.mlo;omega,by show max s.most (s.deep+1)<=_;have:=h.mhi;have:=h.hi;omega⟩
theorem je (w:World)(base p:Nat)(s:TX)(x:ByteArray)(h:aK base w p s)(k:0<=s.deep/\s.deep<=1000000000)(f:x.size<=bO):Calls Tryz.prog 209 #[.pointer (some ⟨p,0,none⟩),.string x] w fun e w'=>e=.returned (.tuple #[])/\aK base w' p (s.cls (bl x))/\WM base p w w':=by
 obtain⟨z,y⟩:=k;obtain⟨v,n,g,a⟩:=h;obtain⟨j,u⟩:=blk a.blk;unfold pwC at j;have d:=hY (a.write 1 (.i (s.deep-1)));have m:Hid (aK base (w.setCell ⟨p,1,none⟩ (.i (s.deep-1))) p {s with deep:=s.deep-1}):=hY ⟨v,n,g,a.lo,d.o.2.1,d.o.2.2,a.small,a.same⟩;have LX:=hY f;clear a f;go_enter Tryz.func209,Tryz.ntmps209;go_upto_region 1 with fail;generalize w.setCell _ _=t at*;go_wp2_with (go_at_call 34;refine(cS _ base p _ x m.o LX.o).m2 fun r l q=>?_);exact QzE rfl rfl ⟨rfl,l.o,d.o.1.trans q.o⟩
theorem rK (w:World)(base p:Nat)(s:TX)(x:ByteArray)(h:aK base w p s)(r:s.ok 1)(l:x.size<=bO):Calls Tryz.prog 208 #[.pointer (some ⟨p,0,none⟩),.string x] w fun e w'=>e=.returned (.tuple #[])/\aK base w' p (s.opn (bl x))/\WM base p w w':=by
 obtain⟨H,G,E,D⟩:=r;obtain⟨v,n,k,a⟩:=h;obtain⟨q,C⟩:=blk a.blk;unfold pwC at q;have j:=hY (a.write 1 (.i (s.deep+1)));have d:Hid (PWV base (w.setCell ⟨p,1,none⟩ (.i (s.deep+1))) p {s with deep:=s.deep+1} v n k):=hY ⟨a.lo,j.o.2.1,j.o.2.2,a.small,a.same⟩;have LX:=hY l;clear a l;go_enter Tryz.func208,Tryz.ntmps208;go_upto_region 1 with fail;generalize w.setCell _ _=f at*;obtain⟨m,B⟩:=blk d.o.blk;unfold pwC at m;have g:=hY (d.o.write 2 (.i (max s.most (s.deep+1))));have u:Hid (aK base (f.setCell ⟨p,2,none⟩ (.i (max s.most (s.deep+1)))).drew p {F:=s.F,deep:=s.deep+1,most:=max s.most (s.deep+1)}):=hY (aK.keep (w:=f.setCell ⟨p,2,none⟩ (.i (max s.most (s.deep+1)))) ⟨v,n,k,d.o.lo,g.o.2.1,g.o.2.2,d.o.small,d.o.same⟩ ((Ext.refl _).drew));have z:Hid (WM base p w (f.setCell ⟨p,2,none⟩ (.i (max s.most (s.deep+1)))).drew):=hY ((j.o.1.trans g.o.1).ext ((Ext.refl _).drew))
 go_region
 generalize(f.setCell _ _).drew=w2 at*;go_wp2_with (go_at_call 34;refine(cS _ base p _ x u.o LX.o).m2 fun A t y=>?_);exact QzE rfl rfl ⟨rfl,t.o,z.o.trans y.o⟩
end
end Go.Proofs.Eff
