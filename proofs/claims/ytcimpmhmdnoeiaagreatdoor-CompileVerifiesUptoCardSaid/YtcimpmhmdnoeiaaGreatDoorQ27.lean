import Derived.Test.YtcimpmhmdnoeiaaGreatDoorQ24
set_option maxRecDepth 100000
set_option maxHeartbeats 4000000
set_option linter.all false
namespace Go.Proofs.Eff
open Go.RowKit
theorem Dg (base p:Nat)(k:World)(A y:Value)(s:GS)(r:Nat)(t:Rg)(its:List It)(c:List RgS)(F:List Nat)(m:CW base p k A y s ((r,t,its)::c) F)(I:its.length<=1000000000)(op a b z:Int)(L:Nat)(j:k.heap[L]?=some (.cells #[.i op,.i a,.i b,.i 0,.i z] 91)):Calls Tryz.prog 124 #[.pointer (some ⟨p,0,none⟩),.slice (some ⟨L,0,none⟩) 1 1] k fun e w'=>e=.returned (.tuple #[])/\aa base p k A y F s ((r,t,its++[.ins op a b z])::c) w':=by
 have H:=hY m;obtain⟨N,M⟩:=blk j;clear m;go_enter Tryz.func124,Tryz.ntmps124;go_wp2_with fail
 go_loopw [8] (fun i wr=>(i=.i 0/\wr=k)\/(i=.i 1/\aa base p k A y F s ((r,t,its++[.ins op a b z])::c) wr)) (fun i _=>1-(intOf i).toNat)
 case atStart=>exact .inl ⟨rfl,rfl⟩
 case round=>
  rcases hrel with⟨rfl,rfl⟩|⟨rfl,K⟩
  ·have n:Hid (Ext wr (wr.alloc (.cells #[.i op,.i a,.i b,.i 0,.i z] 91))):=(Ext.refl wr).alloc _
   have h:=H.o.ext n.o;have f:=aq wr (.cells #[.i op,.i a,.i b,.i 0,.i z] 91) _ rfl;have hB:wr.heap.size<(wr.alloc (.cells #[.i op,.i a,.i b,.i 0,.i z] 91)).heap.size:=ab f;go_upto_region 3 with fail;generalize P:wr.heap.size=B at*;generalize wr.alloc _=w at*;clear N M j;obtain⟨lv,wv,xs,F1,o,nv,ad,cc,ys,J,u,E,V,G⟩:=vE h (.ins op a b z) [.i op,.i a,.i b,.i 0,.i z,.i (-1),.i (-1),.pointer none] (fun W _=>by rw[fV]) rfl;have x:=J.blk;have l:=hY (((Ext.refl w).drew).alloc (.cells #[.i op,.i a,.i b,.i 0,.i z,.i (-1),.i (-1),.pointer none] 144));obtain⟨q1,q2⟩:=blk x;obtain⟨x1,x2⟩:=blk f;obtain⟨x3,x4⟩:=blk (aM f (.cells #[.i op,.i a,.i b,.i 0,.i z,.i (-1),.i (-1),.pointer none] 144));have BK:=hY (l.o.keep f);obtain⟨t1,t2⟩:=blk u;obtain⟨t3,t4⟩:=blk (aM u (.cells #[.i op,.i a,.i b,.i 0,.i z,.i (-1),.i (-1),.pointer none] 144));obtain⟨t5,t6⟩:=blk (aM x (.cells #[.i op,.i a,.i b,.i 0,.i z,.i (-1),.i (-1),.pointer none] 144));have Q:=hY u;have R:=hY x;have U:=hY I;clear J u x I
   go_region_law (first
    |((refine aps kw Tryz.underlying68 (ak E.o l.o) (aq w.drew _ _ rfl) (by have:=U.o;omega) (aN V.o l.o.size) ⟨rfl,by decide,by decide,rfl,rfl⟩ rfl rfl ?hs ?hx ?_;(case hs=>simp[Act.eval]);(case hx=>simp[Act.eval]);intro g q w4 S X AT;obtain⟨D,C⟩:=G.o _ l.o _ _ _ S X AT;obtain⟨u1,u2⟩:=blk (C _ _ _ (by decide) (l.o.keep Q.o));obtain⟨u3,u4⟩:=blk (C _ _ _ (by decide) (l.o.keep R.o));obtain⟨u5,u6⟩:=blk (C _ _ _ (by decide) BK.o);clear C))
    |fail)
   all_goals
    have Z:=hY (show aa base p wr A y F s ((r,t,its++[.ins op a b z])::c) _ from D.o.elim fun Y d=>⟨Y,d.1,(CM.FZ n.o).trans d.2⟩);go_wp2_with fail;go_roundw
    case rel=>exact .inr ⟨by go_num,Z.o⟩
    case measure=>simp[intOf]
  ·have O:=hY K
   clear K N M j;go_wp2_with fail
   (first|refine QzE rfl rfl ?_|refine QzR rfl rfl ?_);exact ⟨rfl,O.o⟩
theorem Ek (base p:Nat)(w:World)(g f:Value)(s:GS)(r:Nat)(d:Rg)(its:List It)(c:List RgS)(F:List Nat)(h:CW base p w g f s ((r,d,its)::c) F)(k:its.length<=1000000000)(op a b z:Int):Calls Tryz.prog 124 #[.pointer (some ⟨p,0,none⟩),.slice (some ⟨w.heap.size,0,none⟩) 1 1] (w.alloc (.cells #[.i op,.i a,.i b,.i 0,.i z] 91)) fun e w'=>e=.returned (.tuple #[])/\aa base p w g f F s ((r,d,its++[.ins op a b z])::c) w':=by
 have j:Ext w (w.alloc (.cells #[.i op,.i a,.i b,.i 0,.i z] 91)):=(Ext.refl w).alloc _;refine(Dg base p _ g f s r d its c F (h.ext j) k op a b z w.heap.size (aq w _ _ rfl)).mono ?_;rintro e w' ⟨n,o,m,l⟩;exact⟨n,o,m,(CM.FZ j).trans l⟩
theorem EZ (base p:Nat)(w:World)(d b:Value)(s:GS)(r:Nat)(a:Rg)(its:List It)(c:List RgS)(F:List Nat)(h:CW base p w d b s ((r,a,its)::c) F)(g:its.length<=1000000000)(op:Int):Calls Tryz.prog 60 #[.pointer (some ⟨p,0,none⟩),.i op] w fun e w'=>e=.returned (.tuple #[])/\aa base p w d b F s ((r,a,its++[.ins op 0 0 0])::c) w':=by
 have P:=hY (Ek base p w d b s r a its c F h g op 0 0 0);clear h;go_enter Tryz.func60,Tryz.ntmps60;go_wp2_with (first|(go_at_call 124;refine P.o.m fun j C=>?_))
 (first|refine QzE rfl rfl ?_|refine QzR rfl rfl ?_);exact ⟨rfl,C.o⟩
theorem tu {O B:List Nat}{g:Nat}(h:(O++B).Nodup)(a:O=[g]\/¬g∈B):([g]++B).Nodup:=by
 rcases a with rfl|b
 ·exact h
 ·rw[nr] at h
  rw[List.singleton_append,D7];exact⟨b,h.2.1⟩
theorem CWV.lit {base p:Nat}{w:World}{O N:Value}{s:GS}{S:List RgS}{F:List Nat}{P n I:Value}{xs:List Value}{u:List Nat}
 (h:CWV base p w O N s S F P n I xs u)
 {w':World} {g q:Nat} {x:Lit3} {H:List Value} (m:w'.ownsRow base 55 3 (.slice (some ⟨g,0,none⟩) (s.FU.length+1) q) (s.FU.length+1) (xs++H)) (o:w.grownBy w' n.ownBlock) (r:n.ownBlock=some g\/w.heap.size<=g) (U:dt w (okF base p w F) x H) (M:H.length=3):
 aa base p w O N F {s with FU:=s.FU++[x]} S (w'.setCell ⟨p,3,none⟩ (.slice (some ⟨g,0,none⟩) (s.FU.length+1) q)):=by
 have c:=ag o;have b:=ae w' ⟨p,3,none⟩ (.slice (some ⟨g,0,none⟩) (s.FU.length+1) q);have hnd:=h.nodup;rw[h.foot] at hnd
 have K:g<w'.heap.size/\base<=g:=by
  rcases m.2 with⟨t,_⟩|⟨g',cc,X,a1,Z,Y,_⟩
  ·cases t
  ·cases a1;exact⟨ab Y,Z⟩
 obtain⟨B,L⟩:=K;have V:p<w.heap.size:=ab h.blk;have y:¬p∈F:=fun d=>(h.inF p d).2.2 rfl;have l:∀k,k∈n.ownBlock.toList->k∈F:=fun k j=>by rw[h.foot];simp[j]
 have J:w'.heap[p]?=some (.cells #[O,N,P,n,.i (s.FO:Int),I,.bool s.many] 64):=c.keep h.blk (fun d=>y (l p d))
 have A:g≠p:=by
  rcases r with e|e
  ·intro W;subst W;exact y (l g (by rw[e];simp))
  ·omega
 have j:∀k,k<w.heap.size->¬k∈n.ownBlock.toList->k≠p->(w'.setCell ⟨p,3,none⟩ (.slice (some ⟨g,0,none⟩) (s.FU.length+1) q)).heap[k]?=w.heap[k]?:=fun k G t M=>by
  rw[b.block k (bA G c.size) (by simp[M])];exact c.block k G t
 have Q:Mod (p::F) w (w'.setCell ⟨p,3,none⟩ (.slice (some ⟨g,0,none⟩) (s.FU.length+1) q)):=⟨b.os.trans c.os,b.tape.trans c.tape,b.output.trans c.output,aN c.size b.size,fun k G t=>by
  simp only[aS,not_or] at t
  exact j k G (fun d=>t.2 (l k d)) t.1⟩
 have v:w.heap.size<=(w'.setCell ⟨p,3,none⟩ (.slice (some ⟨g,0,none⟩) (s.FU.length+1) q)).heap.size:=Q.size
 have f:∀k∈[g]++u,k∈F\/w.heap.size<=k:=fun k j=>by
  rw[h.foot];simp only[List.singleton_append,aS,iF] at j ⊢;rcases j with rfl|j
  ·rcases r with e|e
   ·exact .inl (.inl (by rw[e];simp))
   ·exact .inr e
  ·exact .inl (.inr j)
 have D:jp (okF base p w F) w (w'.setCell ⟨p,3,none⟩ (.slice (some ⟨g,0,none⟩) (s.FU.length+1) q)):=fun k a=>j k a.2.1 (fun d=>a.2.2.2 (l k d)) a.2.2.1
 have E:∀k,okF base p w F k->okF base p (w'.setCell ⟨p,3,none⟩ (.slice (some ⟨g,0,none⟩) (s.FU.length+1) q)) ([g]++u) k:=fun k a=>⟨a.1,bA a.2.1 v,a.2.2.1,fun d=>by
  rcases f k d with e|e
  ·exact a.2.2.2 e
  ·have:=a.2.1;omega⟩
 have C:∀k∈u,k<w.heap.size/\¬k∈n.ownBlock.toList/\k≠p:=fun k z=>by
  have R:=h.inF k (by rw[h.foot];simp[z]);exact⟨R.2.1,fun d=>(nr.1 hnd).2.2 k d k z rfl,R.2.2⟩
 refine⟨[g]++u,⟨P,.slice (some ⟨g,0,none⟩) (s.FU.length+1) q,I,xs++H,u,h.lo,?_,rfl,?_,?_,?_,fp.snoc (h.litsC.keep D E) (U.keep D E) M,h.chain.keep D E (fun k a=>j k (C k a).1 (C k a).2.1 (C k a).2.2),h.F9.keep D E⟩,Q,f⟩
 ·rw[be J]
  simp
 ·refine tu hnd ?_
  rcases r with e|e
  ·exact .inl (by rw[e];rfl)
  ·exact .inr (fun d=>by have:=(C g d).1;omega)
 ·intro k a
  rcases f k a with e|e
  ·exact⟨(h.inF k e).1,bA (h.inF k e).2.1 v,(h.inF k e).2.2⟩
  ·simp only[List.singleton_append,aS] at a
   rcases a with rfl|a
   ·exact⟨L,bA B b.size,A⟩
   ·have:=(C k a).1;omega
 ·show(World.setCell _ _ _).ownsRow base 55 3 _ (s.FU++[x]).length _
  rw[show(s.FU++[x]).length=s.FU.length+1 by simp]
  exact j4 m (fun k a=>by
   simp only[Value.ownBlock,dO] at a;subst a
   exact b.block _ B (by simp[A]))
end Go.Proofs.Eff
