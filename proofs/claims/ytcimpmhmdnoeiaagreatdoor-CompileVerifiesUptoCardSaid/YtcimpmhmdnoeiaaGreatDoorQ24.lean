import Derived.Test.YtcimpmhmdnoeiaaGreatDoorQ19
set_option maxRecDepth 100000
set_option maxHeartbeats 4000000
set_option linter.all false
namespace Go.Proofs.Eff
open Go.RowKit
theorem kw:CI 144 (.agg #[.i 0,.i 0,.i 0,.i 0,.i 0,.i 0,.i 0,.pointer none]) 8 64:=by unfold CI;kernel_rfl
theorem CWV.head {base p:Nat}{w:World}{m l:Value}{s:GS}{r:Nat}{a:Rg}{its:List It}{c:List RgS}{F:List Nat}{e k j:Value}{xs:List Value}{g:List Nat}
 (h:CWV base p w m l s ((r,a,its)::c) F e k j xs g):e=.pointer (some ⟨r,0,none⟩)/\∃o nv b d f,g=r::(b.ownBlock.toList++f)/\w.heap[r]?=some (.cells #[o,.i (c.length:Int),nv,.i (a.2:Int),b] 70)/\fL w (okF base p w F) nv a.1/\w.ownsRow base 144 8 b its.length d/\nz w (okF base p w F) its d/\dX w base (okF base p w F) c o f:=h.chain
theorem vE {base p:Nat}{w:World}{C B:Value}{s:GS}{r:Nat}{u:Rg}{its:List It}{c:List RgS}{F:List Nat}(h:CW base p w C B s ((r,u,its)::c) F)(x:It)(j:List Value)(K:∀W,Ext w W->fV W (okF base p W F) x j)(Q:j.length=8):
 ∃y v xs G o nv ad l t,CWV base p w C B s ((r,u,its)::c) F (.pointer (some ⟨r,0,none⟩)) y v xs G/\w.heap[r]?=some (.cells #[o,.i (c.length:Int),nv,.i (u.2:Int),.slice ad its.length l] 70)/\Hid (w.ownsRow base 144 8 (.slice ad its.length l) its.length t)/\Hid (base<=w.heap.size)/\
  Hid (∀W,Ext w W->∀w' g q,Hid (w'.ownsRow base 144 8 (.slice (some ⟨g,0,none⟩) (its.length+1) q) (its.length+1) (t++j))->Hid (W.grownBy w' (Value.slice ad its.length l).ownBlock)->Hid ((Value.slice ad its.length l).ownBlock=some g\/g=W.heap.size)->
   Hid (aa base p w C B F s ((r,u,its++[x])::c) (w'.setCell ⟨r,4,none⟩ (.slice (some ⟨g,0,none⟩) (its.length+1) q)))/\∀(b:Nat) (j:Array Value) (T:TypeId),T≠144->W.heap[b]?=some (.cells j T)->w'.heap[b]?=some (.cells j T)):=by
 obtain⟨av,y,v,xs,G,d⟩:=h;obtain⟨rfl,o,nv,X,t,F2,n,H,z,a,m,A⟩:=d.head;obtain⟨ad,l,rfl,_⟩:=aJ a;refine⟨y,v,xs,G,o,nv,ad,l,t,d,H,hY a,hY (aN d.lo (FH (ab d.blk))),hY fun W f w' g q L I O=>⟨hY ?_,fun b Z T P J=>?_⟩⟩
 ·obtain⟨E,D⟩:=cX (base:=base) (p:=p) (F:=F) f
  obtain⟨V,S,R⟩:=(d.ext f).item n (f.keep H) (z.keep E D) (m.keep E D) (A.keep E D (fun k N=>f.block (d.inF k (by rw[d.foot,n];simp[N])).2.1)) rfl L.o I.o (by rcases O.o with e|e;exact .inl e;exact .inr (by rw[e];exact gE _)) (K W f) Q;exact⟨V,S,(CM.FZ f).trans R⟩
 ·refine(ag I.o).keep J (fun M=>?_)
  obtain⟨_,U,Y,e⟩:=au (ak a f) M;rw[J] at e;injection e with e;injection e with _ e _;exact P e
theorem Ba (base p:Nat)(w:World)(x u:Value)(s:GS)(r:Nat)(m:Rg)(its:List It)(c:List RgS)(F:List Nat)(h:CW base p w x u s ((r,m,its)::c) F)(n:its.length<=1000000000)(l:Nat):Calls Tryz.prog 266 #[.pointer (some ⟨p,0,none⟩),.i (l:Int)] w fun e w'=>e=.returned (.tuple #[])/\aa base p w x u F s ((r,m,its++[.lab l])::c) w':=by
 obtain⟨Z,J,I,F1,o,nv,ad,cc,H,t,b,f,C,j⟩:=vE h (.lab l) [.i 0,.i 0,.i 0,.i 0,.i 0,.i (-1),.i (l:Int),.pointer none] (fun W _=>by rw[fV]) rfl;have d:=t.blk;have a:=hY (((Ext.refl w).drew).alloc (.cells #[.i 0,.i 0,.i 0,.i 0,.i 0,.i (-1),.i (l:Int),.pointer none] 144));obtain⟨Y,X⟩:=blk d;obtain⟨V,U⟩:=blk b;obtain⟨S,R⟩:=blk (aM b (.cells #[.i 0,.i 0,.i 0,.i 0,.i 0,.i (-1),.i (l:Int),.pointer none] 144));obtain⟨Q,P⟩:=blk (aM d (.cells #[.i 0,.i 0,.i 0,.i 0,.i 0,.i (-1),.i (l:Int),.pointer none] 144));have y:=hY b;have z:=hY d;have B:=hY n;clear t b d n;go_enter Tryz.func266,Tryz.ntmps266
 go_region_law (first
  |((refine aps kw Tryz.underlying68 (ak f.o a.o) (aq w.drew _ _ rfl) (by have:=B.o;omega) (aN C.o a.o.size) ⟨rfl,by decide,by decide,rfl,rfl⟩ rfl rfl ?hs ?hx ?_;(case hs=>simp[Act.eval]);(case hx=>simp[Act.eval]);intro g q K A E G;obtain⟨D,k⟩:=j.o _ a.o _ _ _ A E G;obtain⟨O,N⟩:=blk (k _ _ _ (by decide) (a.o.keep y.o));obtain⟨M,L⟩:=blk (k _ _ _ (by decide) (a.o.keep z.o));clear k))
  |fail)
 all_goals
  (first|refine QzE rfl rfl ?_|refine QzR rfl rfl ?_);exact ⟨rfl,D.o⟩
theorem Bl (base p:Nat)(w:World)(x u:Value)(s:GS)(r:Nat)(m:Rg)(its:List It)(c:List RgS)(F:List Nat)(h:CW base p w x u s ((r,m,its)::c) F)(n:its.length<=1000000000)(op:Int)(l:Nat):Calls Tryz.prog 265 #[.pointer (some ⟨p,0,none⟩),.i op,.i (l:Int)] w fun e w'=>e=.returned (.tuple #[])/\aa base p w x u F s ((r,m,its++[.jmp op l])::c) w':=by
 obtain⟨Z,J,I,F1,o,nv,ad,cc,H,t,b,f,C,j⟩:=vE h (.jmp op l) [.i op,.i 0,.i 0,.i 0,.i 0,.i (l:Int),.i (-1),.pointer none] (fun W _=>by rw[fV]) rfl;have d:=t.blk;have a:=hY (((Ext.refl w).drew).alloc (.cells #[.i op,.i 0,.i 0,.i 0,.i 0,.i (l:Int),.i (-1),.pointer none] 144));obtain⟨Y,X⟩:=blk d;obtain⟨V,U⟩:=blk b;obtain⟨S,R⟩:=blk (aM b (.cells #[.i op,.i 0,.i 0,.i 0,.i 0,.i (l:Int),.i (-1),.pointer none] 144));obtain⟨Q,P⟩:=blk (aM d (.cells #[.i op,.i 0,.i 0,.i 0,.i 0,.i (l:Int),.i (-1),.pointer none] 144));have y:=hY b;have z:=hY d;have B:=hY n;clear t b d n;go_enter Tryz.func265,Tryz.ntmps265
 go_region_law (first
  |((refine aps kw Tryz.underlying68 (ak f.o a.o) (aq w.drew _ _ rfl) (by have:=B.o;omega) (aN C.o a.o.size) ⟨rfl,by decide,by decide,rfl,rfl⟩ rfl rfl ?hs ?hx ?_;(case hs=>simp[Act.eval]);(case hx=>simp[Act.eval]);intro g q K A E G;obtain⟨D,k⟩:=j.o _ a.o _ _ _ A E G;obtain⟨O,N⟩:=blk (k _ _ _ (by decide) (a.o.keep y.o));obtain⟨M,L⟩:=blk (k _ _ _ (by decide) (a.o.keep z.o));clear k))
  |fail)
 all_goals
  (first|refine QzE rfl rfl ?_|refine QzR rfl rfl ?_);exact ⟨rfl,D.o⟩
end Go.Proofs.Eff
