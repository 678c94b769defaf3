import Derived.Test.YtcimpmhmdnoeiaaGreatDoorQ20
import Derived.Test.YtcimpmhmdnoeiaaGreatDoorQ27
set_option maxRecDepth 100000
set_option maxHeartbeats 40000000
set_option linter.all false
namespace Go.Proofs.Eff
open Go.RowKit
variable {w:World} {base g n q p:Nat}
theorem wH:CI 55 (.agg #[.i 0,.string {data:=#[]},.slice none 0 0]) 3 48:=by unfold CI;kernel_rfl
theorem Fa {xs:List Value}{x y z:Value}(h:w.ownsRow base 55 3 (.slice (some ⟨g,0,none⟩) (n+1) q) (n+1) (xs++[x,y,z]))(a:xs.length=n*3):w.cell? ⟨g,n*3,none⟩=some x/\w.cell? ⟨g,n*3+1,none⟩=some y/\w.cell? ⟨g,n*3+2,none⟩=some z/\∀i,w.frozen? ⟨g,i,none⟩=false:=by
 refine⟨?_,?_,?_,fun i=>h.frozenAt i⟩
 ·rw[h.cellAt (n*3) (by omega),j1 (by omega)];simp[a]
 ·rw[h.cellAt (n*3+1) (by omega),j1 (by omega)];simp[a]
 ·rw[h.cellAt (n*3+2) (by omega),j1 (by omega)];simp[a]
structure Done (base p:Nat)(w:World)(fv gv:Value)(F:List Nat)(s':GS)(ch:List RgS)(w4:World)(g n q:Nat)(x y z:Value):Prop where
 a:aa base p w fv gv F s' ch ((((w4.setCell ⟨g,n*3,none⟩ x).setCell ⟨g,n*3+1,none⟩ y).setCell ⟨g,n*3+2,none⟩ z).setCell ⟨p,3,none⟩ (.slice (some ⟨g,0,none⟩) (n+1) q))
 b:aa base p w fv gv F s' ch ((((w4.setCell ⟨p,3,none⟩ (.slice (some ⟨g,0,none⟩) (n+1) q)).setCell ⟨g,n*3,none⟩ x).setCell ⟨g,n*3+1,none⟩ y).setCell ⟨g,n*3+2,none⟩ z)
theorem Done.FZ {c:World}{f e:Value}{F:List Nat}{s':GS}{i:List RgS}{w4:World}{x y z:Value}(h:Done base p w f e F s' i w4 g n q x y z)(d:Ext c w):Done base p c f e F s' i w4 g n q x y z:=⟨aa.FZ d h.a,aa.FZ d h.b⟩
theorem mY {w4:World}{row:Option Nat}{j:Nat}(h:w.grownBy w4 row)(f:row=some g\/w.heap.size<=g)(u:Value):w.grownBy (w4.setCell ⟨g,j,none⟩ u) row:=by
 obtain⟨n,m,l,d,i⟩:=h;have a:=ae w4 ⟨g,j,none⟩ u;refine⟨a.os.trans n,a.tape.trans m,a.output.trans l,aN d a.size,fun k c b=>?_⟩
 rw[a.block k (bA c d) (by
  simp only[aS,aT,or_false];intro e;subst e;rcases f with e|e
  ·exact b e.symm
  ·omega)]
 exact i k c b
theorem Bv {y x:Value}{s:GS}{z:List RgS}{F:List Nat}{J o A:Value}{xs:List Value}{K:List Nat}{k:Int}{t:BL}{li:List Lit3}{a:Option Addr}{c:Nat}
 (m:CWV base p w y x s z F J o A xs K) (v:s.FU.length=n) (D:dt w (okF base p w F) (.mk k t li) [.i k,.string (mkS t),.slice a li.length c]) {w4:World} {g q:Nat}
 (l:w4.ownsRow base 55 3 (.slice (some ⟨g,0,none⟩) (n+1) q) (n+1) (xs++[.i 0,.string {data:=#[]},.slice none 0 0])) (d:w.grownBy w4 o.ownBlock) (b:o.ownBlock=some g\/w.heap.size<=g):
 Done base p w y x F {s with FU:=s.FU++[.mk k t li]} z w4 g n q (.i k) (.string (mkS t)) (.slice a li.length c):=by
 have E:xs.length=n*3:=by rw[←v];exact m.FU.1
 have C:=(l.stored (n*3) (.i k)).1;have B:=(C.stored (n*3+1) (.string (mkS t))).1;have u:=(B.stored (n*3+2) (.slice a li.length c)).1;have I:=mY (j:=n*3) d b (.i k);have H:=mY (j:=n*3+1) I b (.string (mkS t));have G:=mY (j:=n*3+2) H b (.slice a li.length c)
 have r:(((xs++[Value.int .i64 0,.string {data:=#[]},.slice none 0 0]).set (n*3) (Value.int .i64 k)).set (n*3+1) (Value.string (mkS t))).set (n*3+2) (Value.slice a li.length c)=xs++[.i k,.string (mkS t),.slice a li.length c]:=by
  rw[←E];rw[Do _ _ (gE _),Do _ _ (by omega),Do _ _ (by omega)];simp
 rw[r] at u;subst v;have h:=m.lit u G b D rfl;refine⟨h,?_⟩
 have f:p≠g:=by
  intro e;subst e;rcases b with e|e
  ·exact(m.inF p (by rw[m.foot,e];simp)).2.2 rfl
  ·have:=ab m.blk;omega
 rw[js _ ⟨p,3,none⟩ ⟨g,_,none⟩ _ _ f,js _ ⟨p,3,none⟩ ⟨g,_,none⟩ _ _ f,js _ ⟨p,3,none⟩ ⟨g,_,none⟩ _ _ f];exact h
theorem Dc {m e a:Nat}{xs:List Value}{i:Array Value}(h:w.ownsRow base e m (.slice (some ⟨g,0,none⟩) n q) n xs)(b:w.heap[p]?=some (.cells i a))(d:e≠a):¬g=p/\¬p=g:=by
 obtain⟨_,_,j,f⟩:=aw h;have:g≠p:=ie f b (by intro c;cases c;exact d rfl);exact⟨this,fun e=>this e.symm⟩
theorem pk (base p:Nat)(w:World)(fv gv:Value)(s:GS)(ch:List RgS)(F:List Nat)(h:CW base p w fv gv s ch F)(k:Int)(t:BL)(li:List Lit3)(a:Option Addr)(c:Nat)(hx:dt w (okF base p w F) (.mk k t li) [.i k,.string (mkS t),.slice a li.length c])(hl:s.FU.length<=1000000000):Calls Tryz.prog 166 #[.pointer (some ⟨p,0,none⟩),.agg #[.i k,.string (mkS t),.slice a li.length c]] w fun e w'=>e=.returned (.i ((s.lit (.mk k t li)).2:Int))/\aa base p w fv gv F (s.lit (.mk k t li)).1 ch w':=by
 obtain⟨av,lv,wv,xs,B,z⟩:=h;have r:Hid (Ext w (w.alloc (.cells #[.i k,.string (mkS t),.slice a li.length c] 55))):=(Ext.refl w).alloc _;have I:=aq w (.cells #[.i k,.string (mkS t),.slice a li.length c] 55) _ rfl;have u:Hid (∀W,Ext (w.alloc (.cells #[.i k,.string (mkS t),.slice a li.length c] 55)) W->W.heap[w.heap.size]?=some (.cells #[.i k,.string (mkS t),.slice a li.length c] 55)):=hY (fun W hW=>hW.keep I);have V:=hY z;have LX:=hY hx;obtain⟨ad,cc,rfl,D⟩:=aJ z.FU;have SM:=hY D;have XL:Hid (xs.length=s.FU.length*3):=hY z.FU.1;have N:Hid (¬w.heap.size∈(Value.slice ad s.FU.length cc).ownBlock.toList):=hY (fun hm=>by have:=(z.inF _ (by rw[z.foot];simp only[iF];exact .inl hm)).2.1;omega);obtain⟨G,L⟩:∃G:List Lit3->Option Nat,G=if fg k=true then ei k t else fun _=>none:=⟨_,rfl⟩
 have U:Hid (s.lit (.mk k t li)=match G s.FU with|some i=>(s,i)|none=>({s with FU:=s.FU++[.mk k t li]},s.FU.length)):=hY (by rw[show G s.FU=(if fg k=true then ei k t s.FU else none) by(rw[L];split<;>rfl)];rfl);have G0:Hid (G []=none):=hY (by rw[L];split<;>rfl);have G1:Hid (fg k=false->G s.FU=none):=hY (fun h=>by rw[L,h];rfl);have GS:Hid (fg k=true->∀j x,s.FU[j]?=some x->(G (s.FU.drop j)).map (· +j)=if x.kind=k/\x.text=t then some j else(G (s.FU.drop (j+1))).map (· +(j+1))):=hY (fun h j x Z=>by rw[L,if_pos h];exact tI Z);have DN:=hY (fun W (A:Ext w W) w4 g q=>Bv (w4:=w4) (g:=g) (q:=q) (k:=k) (t:=t) (li:=li) (a:=a) (c:=c) (V.o.ext A) rfl (LX.o.keep (cX A).1 (cX A).2));have K1:Hid (∃K,K=k):=hY ⟨k,rfl⟩;clear z hx D I L;generalize hn:s.FU.length=n at*;have Q:=hY hn;clear hn
 have v:(k=1\/k=3\/k=4)\/(fg k=false/\(k==1)=false/\(k==3)=false/\(k==4)=false):=by
  unfold fg;cases h1:k==1<;>cases h3:k==3<;>cases h4:k==4<;>simp_all
 obtain⟨q1,q2⟩:=blk (u.o _ (Ext.refl _));obtain⟨v1,v2⟩:=blk (V.o.ext r.o).blk;rcases v with v|⟨v,e1,e3,e4⟩
 case' inl=>
  obtain⟨K,hK⟩:=K1.o;have R:=hY hK;clear hK;rcases v with rfl|rfl|rfl
  all_goals
   replace GS:=GS.o rfl
   have GS:=hY GS;rw[←R.o] at GS;go_enter Tryz.func166,Tryz.ntmps166;go_upto_region 1 with fail;generalize w.alloc _=W1 at*;go_wp2_with fail
   go_loopw [18] (fun i wr=>∃j:Nat,j<=n/\i=.i j/\Ext W1 wr/\G s.FU=(G (s.FU.drop j)).map (· +j)) (fun i _=>n-(intOf i).toNat)
   case atStart=>exact⟨0,by omega,rfl,Ext.refl _,by simp⟩
   case' round=>
    obtain⟨j,Z,rfl,A,hF⟩:=hrel;have E:=hY A;have X:=hY hF;clear A hF q1 q2 v1 v2;have d:=hY (V.o.ext (r.o.trans E.o));by_cases hlt:j<n
    case pos=>
     obtain⟨y,Y⟩:∃y,s.FU[j]?=some y:=⟨s.FU[j]'(by rw[Q.o];exact hlt),by simp⟩;obtain⟨ya,yc,e0,e1,e2⟩:=d.o.litsC.at Y;obtain⟨g,rfl,ah,af⟩:=SM.o (by omega);have J:=d.o.FU;rw[Q.o] at J;have c0:=(J.cellAt (j*3) (by omega)).trans e0;have c1:=(J.cellAt (j*3+1) (by omega)).trans e1;have c2:=(J.cellAt (j*3+2) (by omega)).trans e2;have B:=hY (X.o.trans (GS.o j y Y));have f:Hid (Ext wr (wr.alloc (.cells #[.i y.kind,.string (mkS y.text),.slice ya y.list.length yc] 55))):=(Ext.refl wr).alloc _;have WS:Hid (w.heap.size<wr.heap.size):=hY (bA (ab (u.o _ (Ext.refl _))) E.o.size);obtain⟨x1,x2⟩:=blk (u.o _ (E.o.trans f.o));obtain⟨x3,x4⟩:=blk (aq wr (.cells #[.i y.kind,.string (mkS y.text),.slice ya y.list.length yc] 55) _ rfl);clear e0 e1 e2 Y X J;have H:((mkS y.text).toList==(mkS t).toList)=decide (y.text=t):=jx _ _;generalize y.kind=yk at*;generalize y.text=yt at*;generalize y.list.length=yl at*;go_upto_region 8 with fail;generalize wr.alloc _=W3 at*;by_cases hyk:yk=K
     ·by_cases hyt:yt=t
      ·have l:Hid (G s.FU=some j):=hY (by rw[B.o,if_pos ⟨hyk,hyt⟩])
       rw[decide_eq_true hyt] at H;rw[R.o] at hyk;subst hyk hyt;go_wp2_with fail;go_ret;exact⟨by rw[U.o,l.o];rfl,by rw[U.o,l.o];exact⟨F,⟨_,_,_,_,_,V.o.ext ((r.o.trans E.o).trans f.o)⟩,CM.FZ ((r.o.trans E.o).trans f.o)⟩⟩
      ·rw[decide_eq_false hyt] at H
       have l:=hY (B.o.trans (if_neg (fun h=>hyt h.2)));rw[R.o] at hyk;subst hyk;clear hyt B;go_wp2_with fail;go_roundw
       case rel=>exact⟨j+1,by omega,by go_num,E.o.trans f.o,l.o⟩
       case measure=>simp[intOf];omega
     ·have l:=hY (B.o.trans (if_neg (fun h=>hyk h.1)))
      rw[R.o] at hyk;have ac:=beq_eq_false_iff_ne.2 hyk;clear hyk B;go_wp2_with fail;go_roundw
      case rel=>exact⟨j+1,by omega,by go_num,E.o.trans f.o,l.o⟩
      case measure=>simp[intOf];omega
    obtain rfl:n=j:=by omega
    have l:Hid (G s.FU=none):=hY (by rw[X.o,hH (by rw[Q.o];exact gE _),G0.o];rfl);clear X Z hlt;go_upto_region 11 with fail
 case' inr=>
  have l:=hY (G1.o v);have d:=hY (V.o.ext r.o);have E:=hY (Ext.refl (w.alloc (.cells #[.i k,.string (mkS t),.slice a li.length c] 55)));clear v;go_enter Tryz.func166,Tryz.ntmps166;go_upto_region 1 with fail;generalize w.alloc _=wr at*;go_upto_region 11 with fail;clear q1 q2 v1 v2
 all_goals
  obtain⟨t1,t2⟩:=blk d.o.blk;obtain⟨t3,t4⟩:=blk (u.o _ E.o);have O:=hY ((((Ext.refl wr).alloc (.cells #[.i 0,.string {data:=#[]},.slice none 0 0] 55))).drew);have f:=hY (((Ext.refl wr).drew).alloc (.cells #[.i 0,.string {data:=#[]},.slice none 0 0] 55));obtain⟨a1,a2⟩:=blk (O.o.keep d.o.blk);obtain⟨b1,b2⟩:=blk (f.o.keep d.o.blk);obtain⟨a3,a4⟩:=blk (u.o _ (E.o.trans O.o));obtain⟨b3,b4⟩:=blk (u.o _ (E.o.trans f.o));have m:=hY d.o.FU;rw[Q.o] at m;have HB:Hid (base<=wr.heap.size):=hY (aN d.o.lo (FH (ab d.o.blk)));have ae:(n:Int)<(n:Int)+1:=by omega
  have HN:Hid (n<=2000000000):=hY (by omega)
  go_region_law (first
   |((refine aps wH Tryz.underlying31 (ak m.o (by first|exact O.o|exact f.o)) (by first|exact aq wr _ _ rfl|exact aq wr.drew _ _ rfl) HN.o (aN HB.o (by first|exact O.o.size|exact f.o.size)) ⟨rfl,by decide,by decide,rfl,rfl⟩ rfl rfl ?hs ?hx ?_;(case hs=>simp[Act.eval,Act.put]);(case hx=>simp[Act.eval,Act.put]);intro g q w4 OW S AT;have C:=Eo S (show Ext wr _ by first|exact O.o|exact f.o);have P:=hY ((DN.o _ ((r.o.trans E.o).trans C.o) w4 g q OW.o S.o (by rcases AT.o with e|e;exact .inl e;exact .inr (by rw[e];exact gE _))).FZ ((r.o.trans E.o).trans C.o));obtain⟨y1,y2,y3,f1⟩:=Fa OW.o XL.o;obtain⟨u1,u2⟩:=blk ((ag S.o).keep (u.o _ (E.o.trans C.o)) N.o);have M:=hY ((ag S.o).keep (C.o.keep d.o.blk) (dx (C.o.keep d.o.blk) (ak m.o C.o) (by decide)));obtain⟨u3,u4⟩:=blk M.o;obtain⟨n1,n2⟩:=Dc OW.o M.o (by decide)))
   |fail)
  all_goals
   go_wp2_with fail;go_ret;exact⟨by rw[U.o,l.o];first|rfl|go_num,by rw[U.o,l.o];first|exact P.o.a|exact P.o.b⟩
end Go.Proofs.Eff
