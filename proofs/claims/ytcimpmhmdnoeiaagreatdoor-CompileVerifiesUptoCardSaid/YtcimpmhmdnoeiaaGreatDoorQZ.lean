/- Proved of the given program: what Compile wrote Verify lets pass, as deep as was told, with the scope and the kinds of the literals, for every tree in every scope; the condition: what is read has a bulk of at most 1048576. -/
import Derived.Test.YtcimpmhmdnoeiaaGreatDoorQ25
import Derived.Test.YtcimpmhmdnoeiaaGreatDoorQ51
import Derived.Test.YtcimpmhmdnoeiaaGreatDoorCards
import Derived.Test.YtcimpmhmdnoeiaaGreatDoorTie
set_option linter.all false
set_option maxRecDepth 100000
namespace Go.Proofs.Eff
open Go.ChangeShapes Go.WideShapes Go.ChangeAt Go.RowKit Go
section
variable {H:Type} {enc:TypeId×Value->H}
theorem kZ {W W':World}{b:Nat->Bool}:∀{c:List TypeId} {vs:List Value} {ds:List (DataW H)} {ps:List MemPlace},(∀t,t∈c->Tryz.prog.readableRec t=true/\t<Tryz.prog.types.size)->DataW.TrodAll enc Tryz.prog W 0 (fun _=>true) true c vs ds ps->(∀p∈ps,W.sameAt W' p)->(∀p∈ps,b p.block=true)->DataW.TrodAll enc Tryz.prog W' 0 b true c vs ds ps
 |[],[],[],_,_,h,_,_=>h
 |t::c,v::vs,d::ds,_,hT,⟨p,q,h1,h2,e⟩,hs,hsp=>⟨p,q,WideElems.Trod_stays zi (hT t (by simp)).1 (hT t (by simp)).2 h1 (fun x a=>hs x (by rw[e];exact List.mem_append_left _ a)) (fun x a=>hsp x (by rw[e];exact List.mem_append_left _ a)),
   kZ (fun t f=>hT t (aS.2 (Or.inr f))) h2 (fun x a=>hs x (by rw[e];exact FE _ a)) (fun x a=>hsp x (by rw[e];exact FE _ a)),e⟩
theorem zh {f:Func}{s:ChangeSpec}{apart fresh b:Bool}{W W':World}{c:Array Value}{ds gs:List (DataW H)}{a:List MemPlace}
 (k:DataW.Whole enc Tryz.prog f.params.toList s.vars apart W c.toList ds gs a) (l:s.vars=[]) (o:f.resultTypes=#[4]) (i:∀t,t∈f.params.toList->Tryz.prog.readableRec t=true/\t<Tryz.prog.types.size)
 (d:s.fn H (ds++gs)={results:=[.lit (.bool true)],args:=ds}) (n:Ext W W'):s.post enc Tryz.prog f apart fresh b false W c (.bool true) W':=by
 have j:=k;have e:∀p∈a,p.block<W.heap.size:=fun p r=>k.lt p r;obtain⟨p,q,u,m,rfl,_,_⟩:=k;rw[l] at m;obtain⟨rfl,rfl⟩:=trodVars_none m;refine⟨ds,[],p++[],[],p,[],j,?_,?_,?_,Below.frame n _,fun h=>by cases h⟩
 ·rw[d,o];exact trodAll_mk1 (shut_bool Tryz.underlying4 true)
 ·rw[d]
  exact kZ i u (fun x g=>Below.same n (e x (by simp[g]))) (fun x g=>by simpa using e x (by simp[g]))
 ·rw[d,l];rfl
theorem lI {a:Assume}{C:Checked}{os:Os}{f:FuncId}{o:Func}{s:OpenSpec}{k:(H:Type)->List (DataW H)->Bool}(J:s.cond=some k){F:Stop.Interp}{g:List PathCond}{apart fresh d n:Bool}{X:World->Array Value->Prop}
 (L:∀(w w':World) (args:Array Value),w.heap=w'.heap->X w args->X w' args)
 (own:ownKnob C.prog.godebug=none) (m:os.Started) (p:C.prog.inits.idxOf? f=none) (A:C.prog.funcs[f]?=some o)
 (l:∃(w:World) (b:Tape) (i:Input),w.os=os/\(w.forCall b i).Shaped C.prog/\i.vars=[]/\Input.okWide C.prog (w.forCall b i) .any w.heap.size f i/\
   ((s.pre enc C.prog o g apart (w.forCall b i).memory i.args/\X (w.forCall b i).memory i.args)/\sizedMet enc C.prog o s apart (w.forCall b i).memory i.args)/\a.holds C.prog (lone (Frame.enter C.prog f i.args .normal) [] (w.forCall b i)))
 (h:∀(W:World) (base:Nat) (args:Array Value) (ds gs:List (DataW H)) (c:List MemPlace),
   (∀(j:Nat) t v,o.params[j]?=some t->args[j]?=some v->Value.okWide C.prog W .any base t v)->W.ShapedOpen C.prog->
   DataW.Whole enc C.prog o.params.toList s.vars apart W args.toList ds gs c->k H (ds++gs)=true->X W args->
   Calls C.prog f args W fun e W'=>∃v,e=.returned v/\(s.at F).post enc C.prog o apart fresh d n W args v W'):
 ReturnsInHanded a C os f .any (fun w args=>(s.pre enc C.prog o g apart w args/\X w args)/\sizedMet enc C.prog o s apart w args) ((s.at F).post enc C.prog o apart fresh d n):=by
 refine returnsInHanded_of_calls own m p l ?_;intro w b i _ x _ y r _;obtain⟨_,_,_,B,u,_,_,_,_,q⟩:=y;obtain rfl:B=o:=ol (u.symm.trans A);obtain⟨⟨I,D⟩,_⟩:=r;obtain⟨ds,gs,c,E,_,z⟩:=(OpenSpec.pre_some J g apart _ _).1 I;refine(h (w.forCall b i) w.heap.size i.args ds gs c q x (DataW.Whole.of_heap (w':=w.forCall b i) (by rfl) E) z (L _ _ _ (by rfl) D)).mono fun e W' ⟨v,K,G⟩=>?_;subst K;exact ChangeSpec.post_blind G
end
end Go.Proofs.Eff
namespace Go.Proofs.YtcimpmhmdnoeiaaGreatDoor
open Go Go.Proofs.Eff Go.ChangeShapes Go.WideShapes Go.ChangeAt Go.RowKit
theorem jK (r:Os)(c:r.Started)(H:Type)(b:TypeId×Value->H)(F:Stop.Interp):
 ReturnsInHanded {} Tryz.checked r 5 .any (fun w a=>((Rows.OpenSpec.upto Rows.compileVerifiesSpec).pre b Tryz.prog Tryz.f5 [] false w a/\laidMetH Tryz.prog rj w)/\sizedMet b Tryz.prog Tryz.f5 (Rows.OpenSpec.upto Rows.compileVerifiesSpec) false w a)
  (((Rows.OpenSpec.upto Rows.compileVerifiesSpec).at F).post b Tryz.prog Tryz.f5 false true false false):=by
 refine lI (C:=Tryz.checked) (k:=Rows.uptoSmall) rfl (X:=fun w _=>laidMetH Tryz.prog rj w) (fun _ _ _ hh h=>h.of_heap hh) own c (by kernel_rfl) Tryz.func5
  ⟨World.laidAll Tryz.prog r rj,fun _ _=>0,⟨#[],#[.agg #[.i 0,.string ⟨#[]⟩,.slice none 0 0,.slice none 0 0,.slice none 0 0,.i 0,.i 0],.agg #[.slice none 0 0,.slice none 0 0]],[]⟩,World.laidAll_os _ _ _,World.shaped_of_ZipB (by kernel_rfl) (by kernel_rfl),rfl,(Input.okWide_of_okWideB (by kernel_rfl)).2,
   ⟨⟨(OpenSpec.pre_some (k:=Rows.uptoSmall) rfl [] false _ _).2 ⟨[.agg [.lit (.int .i64 0),.lit (.string []),.nil,.nil,.nil,.lit (.int .i64 0),.lit (.int .i64 0)],.agg [.nil,.nil]],[],[],DataW.Whole_of_whole (fuel:=8) (x:=([.agg [.lit (.int .i64 0),.lit (.string []),.nil,.nil,.nil,.lit (.int .i64 0),.lit (.int .i64 0)],.agg [.nil,.nil]],[],[])) (by kernel_rfl),by kernel_rfl,by kernel_rfl⟩,zD r _⟩,sizedMet_of_sizedB (fuel:=8) (by kernel_rfl)⟩,by
   simp only[Assume.holds]
   exact⟨by simp,by simp,by simp,by simp,by simp,by simp⟩⟩ ?_
 intro W base a ds gs s g y S hk hL;have f:∀(j:Nat) t v,Tryz.f5.params[j]?=some t->a[j]?=some v->Value.okWide Tryz.prog W .any base t v:=g;have B:=S;obtain⟨p,q,I,hV,rfl,ac,hnd⟩:=S;have U:DataW.TrodAll b Tryz.prog W 0 (fun _=>true) true Tryz.f5.params.toList a.toList ds p:=I;rw[Tryz.params5] at U f;obtain⟨v0,v1,d0,M,O,p1,rfl,rfl,_,⟨P,h0⟩,⟨n1,h1⟩⟩:=trodAll_two U;obtain⟨rfl,rfl⟩:=trodVars_none hV
 have A:Rows.uptoBulk d0<=1048576/\Rows.uptoBulk M<=1048576:=by
  simp only[Rows.uptoSmall,Rows.uptoBulkAll,kq,lE,decide_eq_true_eq] at hk;omega
 obtain⟨⟨c0⟩,rfl,ab⟩:=okWide_struct v7 (f 0 26 v0 rfl rfl);obtain⟨⟨Z⟩,rfl,aa⟩:=okWide_struct vZ (f 1 28 v1 rfl rfl);have K:DataW.trod b Tryz.prog W 0 (fun _=>true) true P 26 c0=some (d0,O):=h0;have J:DataW.trod b Tryz.prog W 0 (fun _=>true) true n1 28 Z=some (M,p1):=h1;obtain⟨t,hT,z⟩:=xm 1048576 P c0 (d0,O) A.1 (gE _) K;obtain⟨a1,k1,a2,k2,a3,k3,rfl,hP⟩:=hT.parts;obtain⟨m,ys,n,l,o,Q⟩:=qS vZ AZ J zK;obtain⟨u0,y0,Y,s0,t0⟩:=Q 0 23 rfl (iI 23 (by simp));obtain⟨u1,y1,V,N,t1⟩:=Q 1 23 rfl (iI 23 (by simp));simp only[gi,hG] at n l
 match Z,n with
 |[w0,w1],_=>
 match ys,l with
 |[z0,z1],_=>
 simp at Y V s0 N;subst Y V s0 N;simp only[AC,FJ,Rows.uptoBulkAll] at o;have R:Rows.uptoBulk M=Rows.uptoBulk z0.1+(Rows.uptoBulk z1.1+0)+1:=o;obtain⟨fa,fc,fs,rfl,E,ae⟩:=jt t0 (by omega);obtain⟨ga,gc,L,rfl,D,ad⟩:=jt t1 (by omega);have d:=Aa y hL;refine(Fe fs L t W W.heap.size (gE _) d _ _ ⟨fa,fc,rfl,E⟩ ⟨ga,gc,rfl,D⟩ a1 k1 a2 k2 a3 k3 hP (by unfold ao;have h9:T.nms t<=Rows.uptoBulk d0:=z;omega) (by omega) (fun W' G=>DH W' (d.ext G))).mono fun e W' ⟨he,G⟩=>?_;subst he;refine⟨_,rfl,zh B rfl (by kernel_rfl) ?_ rfl G⟩;intro t u;rw[Tryz.params5] at u;simp only[aS,aT,or_false] at u;rcases u with rfl|rfl
 ·exact⟨by kernel_rfl,of_decide_eq_true (by kernel_rfl)⟩
 ·exact⟨by kernel_rfl,of_decide_eq_true (by kernel_rfl)⟩
theorem kr:Rows.CompileVerifiesUptoSaid:=
 OpenClaim.holds_of_cond 5 Tryz.f5 rfl rfl rfl rfl rfl rfl rfl ⟨rfl,rfl,rfl,rfl,rfl⟩ rfl rfl rfl rfl rfl (by kernel_rfl) Tryz.func5 (by kernel_rfl)
  (of_decide_eq_true (by kernel_rfl)) (by unfold Func.isWrapper;first|(rw[if_pos (by decide+kernel)];kernel_rfl)|(rw[if_neg (by decide+kernel)];exact⟨rfl,rfl⟩))
  (fun c a H b _ F=>jK c a H b F)
theorem compileVerifies_holds:Rows.CompileVerifiesUptoCardSaid:=
 Claim7.holds_tied_plain_at .later [] [.data,.data,.data,.data,.sentinel,.sentinel,.pinned] true (true,"836a4b7c7d3583a58bd2250500180ae5cdf505b1e85b058d0683a94a06e5395e") true
  kr (fun _ h=>by cases h) (by kernel_rfl) (fun _ h=>by cases h) compileVerifiesUpto_row_tie rfl ⟨rfl,rfl⟩ (by kernel_rfl) rfl
  (fun f e c b=>by
    obtain rfl:f=5:=ol ((show Tryz.prog.funcNamed "effigy/effigylaw13.CompileVerifies"=some 5 by kernel_rfl).symm.trans c) |>.symm;obtain rfl:e=Tryz.f5:=(ol (Tryz.func5.symm.trans b)).symm
    exact⟨by kernel_rfl,fun j t a=>by
     rw[Tryz.params5] at a
     have d:t=26\/t=28:=by
      rcases j with _|_|j
      ·left;simpa using a.symm
      ·right;simpa using a.symm
      ·simp at a
     rcases d with rfl|rfl
     ·exact(show Tryz.prog.wantsStandIn 26=false by kernel_rfl)
     ·exact(show Tryz.prog.wantsStandIn 28=false by kernel_rfl)⟩)
  (by kernel_rfl)
end Go.Proofs.YtcimpmhmdnoeiaaGreatDoor
