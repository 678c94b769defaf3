import Derived.Test.YtcimpmhmdnoeiaaGreatDoorQ08
set_option maxRecDepth 100000
set_option linter.all false
namespace Go.Proofs.Eff
section
def cv (fs gs:List BL)(skip a:Int)(v b:T)(bs:List T)(c:List Rg)(s:GS):GS×List It:=
 let x:=ah fs gs v c s
 let y:=bV fs gs b c {x.1 with FO:=x.1.FO+2}
 let z:=match bs with
  |[]=>(y.1,[It.ins a 0 0 0])
  |b2::_=>if a=0 then bV fs gs b2 c y.1 else(y.1,[It.ins a 0 0 0])
 (z.1,x.2++[.jmp skip x.1.FO]++y.2++(if al b.FN then [] else [.jmp 18 (x.1.FO+1)])++[.lab x.1.FO]++z.2++[.lab (x.1.FO+1)])
def ez (fs gs:List BL)(a:Int)(v:T)(as:List T)(c:List Rg)(s:GS):GS×List It:=
 let x:=bV fs gs v c {s with FO:=s.FO+2}
 match as with
 |[]=>(x.1,[.lab (s.FO+1)]++x.2++[.jmp a s.FO]++[.jmp 18 (s.FO+1)]++[It.lab s.FO,It.ins 2 0 0 0])
 |b::_=>
  let y:=bV fs gs b c x.1
  (y.1,[.lab (s.FO+1)]++x.2++[.jmp a s.FO]++y.2++(if al b.FN then [] else [.ins 14 0 0 0,.jmp 18 (s.FO+1)])++[It.lab s.FO,It.ins 2 0 0 0])
def vm (fs gs:List BL)(n:BL)(v:T)(as:List T)(c:List Rg)(s:GS):GS×List It:=
 match aO n with
 |some (false,skip,other)=>if cP n (v::as) then(match as with|[]=>(s,[])|b::bs=>cv fs gs skip other v b bs c s) else fe fs gs n v as c s
 |some (true,leave,_)=>if cP n (v::as) then ez fs gs leave v as c s else fe fs gs n v as c s
 |none=>fe fs gs n v as c s
section
variable (fs gs:List BL) (n:BL) (ns ts:List BL) (l:List T) (p pl:Int) (c:List Rg) (s:GS)
theorem oD (t:T)(h:s.F9.isSome=true):ah fs gs t c s=(s,[]):=by
 obtain⟨k,n,b,a,l,p,pl⟩:=t;rw[ah.eq_def fs gs (T.mk k n b a l p pl) c s];dsimp only;rw[if_pos h]
theorem fh {s:GS}(h:s.F9=none):¬s.F9.isSome=true:=by rw[h];decide
theorem Ak (h:s.F9=none):ah fs gs (.mk 8 n ns ts l p pl) c s=dG fs gs n pl false c s:=by
 rw[ah.eq_def fs gs (T.mk 8 n ns ts l p pl) c s];dsimp only;rw[if_neg (fh h),if_pos rfl]
theorem Aj (h:s.F9=none)(a:dC n=true):ah fs gs (.mk 9 n ns ts l p pl) c s=(s,[.ins 7 0 0 (ej n)]):=by
 rw[ah.eq_def fs gs (T.mk 9 n ns ts l p pl) c s];dsimp only;rw[if_neg (fh h),if_neg (by decide),if_pos ⟨rfl,a⟩]
theorem lu (k:Int)(h:s.F9=none)(a:(k=9/\dC n=false)\/(10<=k/\k<=13)):ah fs gs (.mk k n ns ts l p pl) c s=((s.lit (aH (.mk k n ns ts l 0 0))).1,[.ins 6 (s.lit (aH (.mk k n ns ts l 0 0))).2 0 0]):=by
 rw[ah.eq_def fs gs (T.mk k n ns ts l p pl) c s];dsimp only;rw[if_neg (fh h),if_neg (by omega),if_neg (by rintro⟨e,f⟩;rcases a with a|a;rw[a.2] at f;cases f;omega),if_pos (by omega)]
theorem yx (h:s.F9=none):ah fs gs (.mk 14 n ns ts l p pl) c s=((aW fs gs l c s).1.or (decide (255<l.length)),(aW fs gs l c s).2++[.ins 25 l.length 0 0]):=by
 rw[ah.eq_def fs gs (T.mk 14 n ns ts l p pl) c s];dsimp only;rw[if_neg (fh h),if_neg (by decide),if_neg (by rintro⟨e,_⟩;cases e),if_neg (by decide),if_pos rfl]
theorem CQ (h:s.F9=none):ah fs gs (.mk 2 n ns ts l p pl) c s=((bN fs gs l true ((ns++ts,ns.length)::c) (aA ns ts pl c s)).1,[.blk ns.length (ns++ts).length ((bN fs gs l true ((ns++ts,ns.length)::c) (aA ns ts pl c s)).2++(if al l then [] else [It.ins 23 0 0 0]))]):=by
 rw[ah.eq_def fs gs (T.mk 2 n ns ts l p pl) c s];dsimp only;rw[if_neg (fh h),if_neg (by decide),if_neg (by rintro⟨e,_⟩;cases e),if_neg (by decide),if_neg (by decide),if_pos rfl]
theorem CN (v:T)(r:List T)(h:s.F9=none):ah fs gs (.mk 4 n ns ts (v::r) p pl) c s=if(ah fs gs v c s).1.F9.isSome then ah fs gs v c s else((dG fs gs n pl true c (ah fs gs v c s).1).1,(ah fs gs v c s).2++(dG fs gs n pl true c (ah fs gs v c s).1).2):=by
 rw[ah.eq_def fs gs (T.mk 4 n ns ts (v::r) p pl) c s];dsimp only;rw[if_neg (fh h),if_neg (by decide),if_neg (by rintro⟨e,_⟩;cases e),if_neg (by decide),if_neg (by decide),if_neg (by decide),if_pos rfl]
theorem wN (v:T)(as:List T)(h:s.F9=none):ah fs gs (.mk 5 n ns ts (v::as) p pl) c s=vm fs gs n v as c s:=by
 rw[ah.eq_def fs gs (T.mk 5 n ns ts (v::as) p pl) c s];dsimp only;rw[if_neg (fh h),if_neg (by decide),if_neg (by rintro⟨e,_⟩;cases e),if_neg (by decide),if_neg (by decide),if_neg (by decide),if_neg (by decide),if_pos rfl];unfold vm;rcases aO n with _|⟨b,j,o⟩
 ·rfl
 ·cases b
  ·cases as<;>rfl
  ·cases as<;>rfl
theorem CJ (v:T)(ms:List T)(h:s.F9=none):ah fs gs (.mk 6 n ns ts (v::ms) p pl) c s=((cV fs gs (cY v) ms c (bg fs gs v c s).1).1,(bg fs gs v c s).2++(cV fs gs (cY v) ms c (bg fs gs v c s).1).2):=by
 rw[ah.eq_def fs gs (T.mk 6 n ns ts (v::ms) p pl) c s];dsimp only;rw[if_neg (fh h),if_neg (by decide),if_neg (by rintro⟨e,_⟩;cases e),if_neg (by decide),if_neg (by decide),if_neg (by decide),if_neg (by decide),if_neg (by decide),if_pos rfl]
theorem mE (k:Int)(a:k=4\/k=5\/k=6):ah fs gs (.mk k n ns ts [] p pl) c s=(s,[]):=by
 rw[ah.eq_def fs gs (T.mk k n ns ts [] p pl) c s];dsimp only;rcases a with rfl|rfl|rfl<;>simp
theorem vY (k:Int)(a:k≠8)(e:¬(9<=k/\k<=14))(b:k≠2)(d:¬(4<=k/\k<=6)):ah fs gs (.mk k n ns ts l p pl) c s=(s,[]):=by
 rw[ah.eq_def fs gs (T.mk k n ns ts l p pl) c s];dsimp only;by_cases h:s.F9.isSome=true
 ·rw[if_pos h]
 ·rw[if_neg h,if_neg a,if_neg (by omega),if_neg (by omega),if_neg (by omega),if_neg b,if_neg (by omega),if_neg (by omega),if_neg (by omega)]
end
structure Gw (s:GS)(x:GS×List It)(N:Nat):Prop where
 lab0:s.FO<=x.1.FO
 lab:x.1.FO<=s.FO+N
 lit0:s.FU.length<=x.1.FU.length
 lit:x.1.FU.length<=s.FU.length+N
 its:x.2.length<=N
theorem Gw.mono {s:GS}{x:GS×List It}{N M:Nat}(h:Gw s x N)(a:N<=M):Gw s x M:=
 ⟨h.lab0,by have:=h.lab;omega,h.lit0,by have:=h.lit;omega,by have:=h.its;omega⟩
theorem Gw.seq {s:GS}{x y:GS×List It}{a b:Nat}(h:Gw s x a)(k:Gw x.1 y b):Gw s (y.1,x.2++y.2) (a+b):=
 ⟨aN h.lab0 k.lab0,by have:=h.lab;have:=k.lab;show y.1.FO<=_;omega,aN h.lit0 k.lit0,by have:=h.lit;have:=k.lit;show y.1.FU.length<=_;omega,by have:=h.its;have:=k.its;show(x.2++y.2).length<=_;simp;omega⟩
theorem Gw.put (s:GS)(l:List It):Gw s (s,l) l.length:=⟨gE _,Nat.le_add_right _ _,gE _,Nat.le_add_right _ _,gE _⟩
theorem Gw.app {s:GS}{x:GS×List It}{a:Nat}(h:Gw s x a)(l:List It):Gw s (x.1,x.2++l) (a+l.length):=h.seq (Gw.put x.1 l)
theorem Gw.pre {s:GS}{x:GS×List It}{a:Nat}(h:Gw s x a)(l:List It):Gw s (x.1,l++x.2) (l.length+a):=(Gw.put s l).seq h
theorem fR (s:GS)(pl e:Int):(s.fail pl e).FO=s.FO:=by unfold GS.fail;split<;>rfl
theorem gD (s:GS)(pl e:Int):(s.fail pl e).FU=s.FU:=by unfold GS.fail;split<;>rfl
theorem Gw.quiet {s s':GS}(b:s'.FO=s.FO)(a:s'.FU=s.FU)(l:List It):Gw s (s',l) l.length:=
 ⟨by show _<=s'.FO;omega,by show s'.FO<=_;omega,by show _<=s'.FU.length;rw[a];exact gE _,by show s'.FU.length<=_;rw[a];omega,gE _⟩
theorem pq (s:GS)(l:Lit3):(s.lit l).1.FO=s.FO:=by unfold GS.lit;split<;>rfl
theorem wA (s:GS)(l:Lit3):s.FU.length<=(s.lit l).1.FU.length/\(s.lit l).1.FU.length<=s.FU.length+1:=by
 unfold GS.lit
 split
 ·exact⟨gE _,by show s.FU.length<=_;omega⟩
 ·constructor<;>simp
theorem Gw.litI (s:GS)(l:Lit3)(x:It):Gw s ((s.lit l).1,[x]) 1:=
 ⟨by show _<=(s.lit l).1.FO;rw[pq];exact gE _,by show(s.lit l).1.FO<=_;rw[pq];omega,(wA s l).1,(wA s l).2,gE _⟩
theorem xI (FR:Int)(c:List Rg)(l cD:List BL)(s:GS):(aA.go FR c cD l s).FO=s.FO/\(aA.go FR c cD l s).FU=s.FU:=by
 induction l generalizing cD s with
 |nil=>exact⟨rfl,rfl⟩
 |cons x r ih=>
  simp only[aA.go];obtain⟨b,a⟩:=ih (cD++[x]) (if cD.contains x||(aF x c).isSome then s.fail FR 132 else s);rw[b,a]
  split
  ·exact⟨fR _ _ _,gD _ _ _⟩
  ·exact⟨rfl,rfl⟩
theorem gu (b a:List BL)(FR:Int)(c:List Rg)(s:GS):(aA b a FR c s).FO=s.FO/\(aA b a FR c s).FU=s.FU:=by
 unfold aA;exact xI FR c (b++a) [] s
variable (fs gs:List BL)
theorem vX (n:BL)(FR:Int)(set:Bool)(c:List Rg)(s:GS):Gw s (dG fs gs n FR set c s) 1:=by
 unfold dG
 split
 ·exact Gw.put s _
 ·split
  ·exact(Gw.quiet (fR _ _ _) (gD _ _ _) []).mono (by simp)
  ·split
   ·refine Gw.quiet ?_ ?_ _
    ·split
     ·exact fR _ _ _
     ·rfl
    ·split
     ·exact gD _ _ _
     ·rfl
   ·split
    ·exact Gw.quiet (s:=s) (s':=s.or _) rfl rfl _
    ·split
     ·exact Gw.litI s _ _
     ·exact(Gw.quiet (fR _ _ _) (gD _ _ _) []).mono (by simp)
def PGw (t:T):Prop:=∀c s,Gw s (ah fs gs t c s) (4*T.nd t-1)
theorem qs {l:List T}(h:∀x∈l,PGw fs gs x)(c:List Rg)(s:GS):Gw s (aW fs gs l c s) (4*T.ndL l):=by
 induction l generalizing s with
 |nil=>rw[aW];exact(Gw.put s []).mono (oS _)
 |cons v r ih=>
  rw[aW,T.ndL];exact((h v (by simp) c s).seq (ih (fun x a=>h x (by simp[a])) _)).mono (by omega)
theorem rG {v:T}(h:PGw fs gs v)(c:List Rg)(s:GS):Gw s (bg fs gs v c s) (4*T.nd v-1):=by
 obtain⟨k,n,b,a,l,p,pl⟩:=v;rw[bg]
 split
 ·refine(Gw.put s _).mono ?_
  have:=bG (T.mk k n b a l p pl);simp only[gi,hG];omega
 ·exact h c s
theorem uU (n:BL)(a:Bool){as:List T}(h:∀x∈as,PGw fs gs x)(k:Nat)(c:List Rg)(s:GS):Gw s (eE fs gs n a as k c s) (4*T.ndL as+1):=by
 rw[eE];have b:=qs fs gs h c s;have e:=Gw.litI ((aW fs gs as c s).1.or (decide (15<k))) (.mk 3 n []) (.ins (if a then 17 else 16) (((aW fs gs as c s).1.or (decide (15<k))).lit (.mk 3 n [])).2 k 0);have d:Gw s ((aW fs gs as c s).1.or (decide (15<k)),(aW fs gs as c s).2) (4*T.ndL as):=⟨b.lab0,b.lab,b.lit0,b.lit,b.its⟩;exact d.seq e
theorem Av (n:BL){v:T}{as:List T}(a:PGw fs gs v)(h:∀x∈as,PGw fs gs x)(c:List Rg)(s:GS):Gw s (fe fs gs n v as c s) (4*T.nd v+4*T.ndL as):=by
 rw[fe];refine((rG fs gs a c s).seq (uU fs gs n (cY v) h as.length c _)).mono ?_;have:=bG v;omega
theorem BW (a:Bool){ms:List T}(h:∀m∈ms,∀x∈m.FN,PGw fs gs x)(c:List Rg)(s:GS):Gw s (cV fs gs a ms c s) (4*T.ndL ms):=by
 induction ms generalizing s with
 |nil=>rw[cV];exact(Gw.put s []).mono (oS _)
 |cons m r ih=>
  obtain⟨k,n,f,e,l,p,pl⟩:=m;rw[cV,T.ndL,T.nd];have d:=uU fs gs n a (as:=l) (h (.mk k n f e l p pl) (by simp)) l.length c s;have b:=ih (fun x g=>h x (by simp[g])) (eE fs gs n a l l.length c s).1;cases r with
  |nil=>exact(d.seq b).mono (by omega)
  |cons m2 r2=>
   have i:=(d.pre [.ins 15 0 0 0]).app [.ins 14 0 0 0];exact(i.seq b).mono (by simp only[gi,hG];omega)
def PSw (t:T):Prop:=∀c s,Gw s (bp fs gs t c s) (4*T.nd t-1)
theorem rA {t:T}(a:∀x∈t.FN,PGw fs gs x)(h:PGw fs gs t):PSw fs gs t:=by
 obtain⟨k,n,e,d,l,p,pl⟩:=t;intro c s;unfold bp
 split
 ·cases l with
  |nil=>exact(Gw.put s []).mono (oS _)
  |cons v r=>
   have b:=(a v (by simp[T.FN]) c s).app [.ins 21 0 0 0];refine b.mono ?_;have:=bG v;rw[T.nd,T.ndL];simp only[gi,hG];omega
 ·exact h c s
theorem uL {l:List T}(h:∀x∈l,PSw fs gs x)(first:Bool)(c:List Rg)(s:GS):Gw s (bN fs gs l first c s) (4*T.ndL l+(if first then 1 else 0)):=by
 induction l generalizing first s with
 |nil=>
  rw[bN];cases first
  ·exact(Gw.put s []).mono (oS _)
  ·exact(Gw.put s _).mono (by simp)
 |cons v r ih=>
  rw[bN,T.ndL];have a:=(h v (by simp) c s).seq (ih (fun x b=>h x (by simp[b])) false (bp fs gs v c s).1);have:=bG v;cases first
  ·have d:=a.pre [.ins 14 0 0 0]
   refine Gw.mono (N:=1+(4*T.nd v-1+(4*T.ndL r+if false=true then 1 else 0))) ?_ ?_
   ·simpa using d
   ·simp;omega
  ·refine Gw.mono (N:=4*T.nd v-1+(4*T.ndL r+if false=true then 1 else 0)) ?_ ?_
   ·simpa using a
   ·simp;omega
theorem mw {t:T}(h:∀x∈t.FN,PSw fs gs x)(c:List Rg)(s:GS):Gw s (bV fs gs t c s) (4*T.nd t-7):=by
 obtain⟨k,n,b,a,l,p,pl⟩:=t;rw[bV,T.nd];exact(uL fs gs (l:=l) h true c s).mono (by simp;omega)
theorem x9 (skip a:Int){v b:T}{bs:List T}(p:PGw fs gs v)(r:∀y∈b.FN,PSw fs gs y)(j:∀x∈bs,∀y∈x.FN,PSw fs gs y)(c:List Rg)(s:GS):Gw s (cv fs gs skip a v b bs c s) (4*(2+(T.nd v+(T.nd b+T.ndL bs)))-1):=by
 unfold cv;dsimp only;have d:=p c s
 have o:Gw s ({(ah fs gs v c s).1 with FO:=(ah fs gs v c s).1.FO+2},(ah fs gs v c s).2) (4*T.nd v+1):=by
  have:=bG v;exact⟨by have:=d.lab0;show _<=_+2;omega,by have:=d.lab;show _+2<=_;omega,d.lit0,by have:=d.lit;show(ah fs gs v c s).1.FU.length<=_;omega,by have:=d.its;show(ah fs gs v c s).2.length<=_;omega⟩
 have i:=mw fs gs (t:=b) r c {(ah fs gs v c s).1 with FO:=(ah fs gs v c s).1.FO+2};have q:=bG b
 have step:∀{z:GS×List It} {N:Nat},Gw (bV fs gs b c {(ah fs gs v c s).1 with FO:=(ah fs gs v c s).1.FO+2}).1 z N->N<=4*T.ndL bs+1->∀(f e:List It),f.length<=1->e.length<=1->∀(h g:It),Gw s (z.1,(ah fs gs v c s).2++f++(bV fs gs b c {(ah fs gs v c s).1 with FO:=(ah fs gs v c s).1.FO+2}).2++e++[h]++z.2++[g]) (4*(2+(T.nd v+(T.nd b+T.ndL bs)))-1):=by
  intro z N n A f e w u h g;have m:=o.app f;have l:=(m.seq i).app e;have k:=((l.app [h]).seq n).app [g];refine k.mono ?_;simp only[gi,hG];omega
 cases bs with
 |nil=>exact step (Gw.put _ _) (by simp[T.ndL]) _ _ (by simp) (by split<;>simp) _ _
 |cons b2 b3=>
  dsimp only
  split
  ·exact step (mw fs gs (t:=b2) (fun y i=>j b2 (by simp) y i) c _) (by rw[T.ndL];omega) _ _ (by simp) (by split<;>simp) _ _
  ·exact step (Gw.put _ _) (by simp) _ _ (by simp) (by split<;>simp) _ _
theorem Bc (a:Int){v:T}{as:List T}(e:∀y∈v.FN,PSw fs gs y)(h:∀x∈as,∀y∈x.FN,PSw fs gs y)(c:List Rg)(s:GS):Gw s (ez fs gs a v as c s) (4*(2+(T.nd v+T.ndL as))-1):=by
 unfold ez;dsimp only;have i:Gw s ({s with FO:=s.FO+2},([]:List It)) 2:=⟨by show _<=_+2;omega,by show _+2<=_;omega,gE _,by show s.FU.length<=_;omega,by simp⟩;have e:=mw fs gs (t:=v) e c {s with FO:=s.FO+2};have:=bG v;cases as with
 |nil=>
  dsimp only;have q:=((((i.app [It.lab (s.FO+1)]).seq e).app [It.jmp a s.FO]).app [It.jmp 18 (s.FO+1)]).app [It.lab s.FO,It.ins 2 0 0 0];refine Gw.mono (N:=2+[It.lab (s.FO+1)].length+(4*T.nd v-7)+[It.jmp a s.FO].length+[It.jmp 18 (s.FO+1)].length+[It.lab s.FO,It.ins 2 0 0 0].length) q ?_;simp only[gi,hG,T.ndL];omega
 |cons b bs=>
  dsimp only;have m:=mw fs gs (t:=b) (fun y k=>h b (by simp) y k) c (bV fs gs v c {s with FO:=s.FO+2}).1;have:=bG b
  have f:∀(j d:List It) (l:j.length<=2) (g:d.length=1),Gw s ((bV fs gs b c (bV fs gs v c {s with FO:=s.FO+2}).1).1,[It.lab (s.FO+1)]++(bV fs gs v c {s with FO:=s.FO+2}).2++d++(bV fs gs b c (bV fs gs v c {s with FO:=s.FO+2}).1).2++j++[It.lab s.FO,It.ins 2 0 0 0]) (4*(2+(T.nd v+(T.nd b+T.ndL bs)))-1):=by
   intro j d l g;have q:=(((((i.app [It.lab (s.FO+1)]).seq e).app d).seq m).app j).app [It.lab s.FO,It.ins 2 0 0 0];refine Gw.mono (N:=2+[It.lab (s.FO+1)].length+(4*T.nd v-7)+d.length+(4*T.nd b-7)+j.length+[It.lab s.FO,It.ins 2 0 0 0].length) q ?_;simp only[gi,hG];omega
  rw[T.ndL];exact f _ _ (by split<;>simp) (by simp)
theorem yu (N:Nat):∀t:T,T.nd t<=N->PGw fs gs t:=by
 induction N with
 |zero=>intro t h;have:=bG t;omega
 |succ N ih=>
  intro t O c s;obtain⟨k,n,i,o,l,p,pl⟩:=t;have d:∀x∈l,PGw fs gs x:=fun x a=>ih x (by have:=aD (x:=.mk k n i o l p pl) a;omega);have j:∀x∈l,∀y∈x.FN,PGw fs gs y:=fun x a y A=>ih y (by have:=aD (x:=.mk k n i o l p pl) a;have:=aD A;omega);have B:∀x∈l,PSw fs gs x:=fun x a=>rA fs gs (j x a) (d x a);have g:∀x∈l,∀y∈x.FN,PSw fs gs y:=fun x a y A=>rA fs gs (fun z H=>ih z (by have:=aD (x:=.mk k n i o l p pl) a;have:=aD A;have:=aD H;omega)) (j x a y A);rw[T.nd];have nop:Gw s (s,([]:List It)) (4*(2+T.ndL l)-1):=(Gw.put s []).mono (oS _);cases hs:s.F9 with
  |some q=>rw[oD fs gs c s _ (by rw[hs];rfl)];exact nop
  |none=>
   by_cases k8:k=8
   ·subst k8;rw[Ak fs gs _ _ _ _ _ _ _ _ hs];exact(vX fs gs n pl false c s).mono (by omega)
   ·by_cases k9:k=9/\dC n=true
    ·obtain⟨rfl,C⟩:=k9
     rw[Aj fs gs _ _ _ _ _ _ _ _ hs C];exact(Gw.put s _).mono (by simp;omega)
    ·by_cases kl:9<=k/\k<=13
     ·rw[lu fs gs _ _ _ _ _ _ _ _ k hs (by
       by_cases e:k=9
       ·refine .inl ⟨e,?_⟩
        cases C:dC n
        ·rfl
        ·exact absurd ⟨e,C⟩ k9
       ·exact .inr (by omega))]
      exact(Gw.litI s _ _).mono (by omega)
     ·by_cases k14:k=14
      ·subst k14
       rw[yx fs gs _ _ _ _ _ _ _ _ hs];have f:=qs fs gs d c s;have J:Gw s ((aW fs gs l c s).1.or (decide (255<l.length)),(aW fs gs l c s).2) (4*T.ndL l):=⟨f.lab0,f.lab,f.lit0,f.lit,f.its⟩;exact(J.app _).mono (by simp;omega)
      ·by_cases k2:k=2
       ·subst k2
        rw[CQ fs gs _ _ _ _ _ _ _ _ hs];have f:=uL fs gs B true ((i++o,i.length)::c) (aA i o pl c s);obtain⟨M,L⟩:=gu i o pl c s;have G:=f.lab0;have F:=f.lab;have E:=f.lit0;have D:=f.lit;rw[M] at G F;rw[L] at E D;simp only[if_true] at F D;refine⟨G,?_,E,?_,?_⟩
        ·show(bN fs gs l true ((i++o,i.length)::c) (aA i o pl c s)).1.FO<=_;omega
        ·show(bN fs gs l true ((i++o,i.length)::c) (aA i o pl c s)).1.FU.length<=_;omega
        ·simp only[gi,hG];omega
       ·by_cases k4:k=4
        ·subst k4
         cases l with
         |nil=>rw[mE fs gs _ _ _ _ _ _ _ 4 (by decide)];exact nop
         |cons v r=>
          rw[CN fs gs _ _ _ _ _ _ _ v r hs];have f:=d v (by simp) c s;have:=bG v;rw[T.ndL]
          split
          ·exact f.mono (by omega)
          ·exact(f.seq (vX fs gs n pl true c _)).mono (by omega)
        ·by_cases k5:k=5
         ·subst k5
          cases l with
          |nil=>rw[mE fs gs _ _ _ _ _ _ _ 5 (by decide)];exact nop
          |cons v as=>
           rw[wN fs gs _ _ _ _ _ _ _ v as hs];have u:=Av fs gs n (d v (by simp)) (as:=as) (fun x a=>d x (by simp[a])) c s;rw[T.ndL];have w:Gw s (fe fs gs n v as c s) (4*(2+(T.nd v+T.ndL as))-1):=u.mono (by omega);unfold vm
           split
           ·split
            ·cases as with
             |nil=>exact(Gw.put s []).mono (oS _)
             |cons b bs=>exact x9 fs gs _ _ (d v (by simp)) (g b (by simp)) (fun x a=>g x (by simp[a])) c s
            ·exact w
           ·split
            ·exact Bc fs gs _ (g v (by simp)) (fun x a=>g x (by simp[a])) c s
            ·exact w
           ·exact w
         ·by_cases k6:k=6
          ·subst k6
           cases l with
           |nil=>rw[mE fs gs _ _ _ _ _ _ _ 6 (by decide)];exact nop
           |cons v ms=>
            rw[CJ fs gs _ _ _ _ _ _ _ v ms hs];have f:=rG fs gs (d v (by simp)) c s;have K:=BW fs gs (cY v) (ms:=ms) (fun m I x a=>j m (by simp[I]) x a) c (bg fs gs v c s).1;rw[T.ndL];have:=bG v;exact(f.seq K).mono (by omega)
          ·rw[vY fs gs _ _ _ _ _ _ _ _ k k8 (by omega) k2 (by omega)];exact nop
theorem dL (t:T)(c:List Rg)(s:GS):Gw s (ah fs gs t c s) (4*T.nd t-1):=yu fs gs _ t (gE _) c s
theorem gB (t:T)(c:List Rg)(s:GS):Gw s (bp fs gs t c s) (4*T.nd t-1):=rA fs gs (fun x _=>dL fs gs x) (dL fs gs t) c s
theorem iU (v:T)(c:List Rg)(s:GS):Gw s (bg fs gs v c s) (4*T.nd v-1):=rG fs gs (dL fs gs v) c s
theorem tA (n:BL)(a:Bool)(as:List T)(k:Nat)(c:List Rg)(s:GS):Gw s (eE fs gs n a as k c s) (4*T.ndL as+1):=uU fs gs n a (fun x _=>dL fs gs x) k c s
theorem iR (l:List T)(first:Bool)(c:List Rg)(s:GS):Gw s (bN fs gs l first c s) (4*T.ndL l+(if first then 1 else 0)):=uL fs gs (fun x _=>gB fs gs x) first c s
theorem yh (t:T)(c:List Rg)(s:GS):Gw s (bV fs gs t c s) (4*T.nd t-7):=mw fs gs (fun x _=>gB fs gs x) c s
end
section
def qb (d:Nat)(FU:List Lit3)(c:List Nat)(op a b:Int):Prop:=
 (op=6->∃i:Nat,a=i/\i<FU.length)/\
 (op=16\/op=17->(∃(i:Nat) (x:Lit3),a=i/\FU[i]?=some x/\x.kind=3)/\b<=15)/\
 (op=10\/op=13->∃(i:Nat) (x:Lit3),a=i/\FU[i]?=some x/\x.kind=4)/\
 (op=8\/op=11->a<d)/\
 (op=9\/op=12->∃(i m:Nat),a=i/\c[i]?=some m/\b<m)/\
 (op=23->2<=c.length)
mutual
def il (d:Nat)(FU:List Lit3)(c:List Nat):It->Prop
 |.lab _=>True
 |.jmp _ _=>True
 |.ins op a b _=>qb d FU c op a b
 |.blk a b body=>a<=b/\c.length<=15/\df d FU (b::c) body
def df (a:Nat)(FU:List Lit3)(c:List Nat):List It->Prop
 |[]=>True
 |i::r=>il a FU c i/\df a FU c r
end
theorem iO (d:Nat)(FU:List Lit3)(c:List Nat){op:Int}(a b:Int)(h:op≠6/\op≠16/\op≠17/\op≠10/\op≠13/\op≠8/\op≠11/\op≠9/\op≠12/\op≠23):qb d FU c op a b:=by
 obtain⟨o,n,m,l,k,j,i,g,f,p⟩:=h;exact⟨fun e=>absurd e o,fun e=>e.elim (absurd · n) (absurd · m),fun e=>e.elim (absurd · l) (absurd · k),fun e=>e.elim (absurd · j) (absurd · i),fun e=>e.elim (absurd · g) (absurd · f),fun e=>absurd e p⟩
theorem qb.grow {k:Nat}{FU:List Lit3}{c:List Nat}{op a b:Int}(h:qb k FU c op a b)(r:List Lit3):qb k (FU++r) c op a b:=by
 obtain⟨p,o,n,m⟩:=h
 have d:∀(i:Nat) (x:Lit3),FU[i]?=some x->(FU++r)[i]?=some x:=fun i x l=>by
  rw[md (aC.1 l).1];exact l
 refine⟨fun e=>?_,fun e=>?_,fun e=>?_,m⟩
 ·obtain⟨i,f,g⟩:=p e
  exact⟨i,f,by rw[bY];omega⟩
 ·obtain⟨⟨i,x,f,g,j⟩,q⟩:=o e
  exact⟨⟨i,x,f,d i x g,j⟩,q⟩
 ·obtain⟨i,x,f,g,j⟩:=n e
  exact⟨i,x,f,d i x g,j⟩
mutual
theorem wO (d:Nat)(FU r:List Lit3)(c:List Nat):(i:It)->il d FU c i->il d (FU++r) c i
 |.lab _,_=>by rw[il];trivial
 |.jmp _ _,_=>by rw[il];trivial
 |.ins op a b _,h=>by rw[il] at h ⊢;exact h.grow r
 |.blk a b body,h=>by
  rw[il] at h ⊢;exact⟨h.1,h.2.1,mF d FU r (b::c) body h.2.2⟩
theorem mF (a:Nat)(FU r:List Lit3)(c:List Nat):(l:List It)->df a FU c l->df a (FU++r) c l
 |[],_=>by rw[df];trivial
 |i::l,h=>by
  rw[df] at h ⊢;exact⟨wO a FU r c i h.1,mF a FU r c l h.2⟩
end
theorem nC (d:Nat)(FU:List Lit3)(c:List Nat)(a b:List It):df d FU c (a++b)↔df d FU c a/\df d FU c b:=by
 induction a with
 |nil=>simp[df]
 |cons i r ih=>simp only[kq,df,ih,and_assoc]
def chN (c:List Rg):List Nat:=c.map (·.1.length)
structure Us (nf:Nat)(c:List Rg)(s:GS)(x:GS×List It):Prop where
 pre:∃r,x.1.FU=s.FU++r
 mny:x.1.many=false->s.many=false
 wr:x.1.F9=none->s.F9=none
 use:x.1.F9=none->x.1.many=false->df nf x.1.FU (chN c) x.2
theorem Us.seq {a:Nat}{c:List Rg}{s:GS}{x y:GS×List It}(h:Us a c s x)(k:Us a c x.1 y):Us a c s (y.1,x.2++y.2):=by
 obtain⟨g,i⟩:=h.pre;obtain⟨f,e⟩:=k.pre;refine⟨⟨g++f,by show y.1.FU=_;rw[e,i,gz]⟩,fun d=>h.mny (k.mny d),fun b=>h.wr (k.wr b),fun b d=>(nC _ _ _ _ _).2 ⟨?_,k.use b d⟩⟩;show df a y.1.FU (chN c) x.2
 rw[e];exact mF _ _ _ _ _ (h.use (k.wr b) (k.mny d))
theorem Us.put {a:Nat}{c:List Rg}(s:GS)(l:List It)(h:s.F9=none->s.many=false->df a s.FU (chN c) l):Us a c s (s,l):=⟨⟨[],by simp⟩,id,id,h⟩
theorem Us.app {a:Nat}{c:List Rg}{s:GS}{x:GS×List It}(h:Us a c s x)(l:List It)(b:x.1.F9=none->x.1.many=false->df a x.1.FU (chN c) l):Us a c s (x.1,x.2++l):=h.seq (Us.put x.1 l b)
theorem Us.preI {a:Nat}{c:List Rg}{s:GS}{x:GS×List It}(h:Us a c s x)(l:List It)(b:s.F9=none->s.many=false->df a s.FU (chN c) l):Us a c s (x.1,l++x.2):=(Us.put s l b).seq h
theorem lL (s:GS)(pl e:Int):(s.fail pl e).F9≠none:=by
 unfold GS.fail;cases h:s.F9 with
 |none=>simp[h]
 |some q=>simp[h]
theorem xO (s:GS)(pl e:Int):(s.fail pl e).many=s.many:=by unfold GS.fail;split<;>rfl
theorem Us.failed {a:Nat}{c:List Rg}(s:GS)(pl e:Int)(l:List It):Us a c s (s.fail pl e,l):=
 ⟨⟨[],by show(s.fail pl e).FU=_;rw[gD];simp⟩,fun h=>by have b:(s.fail pl e).many=false:=h;rwa [xO] at b,fun h=>absurd h (lL s pl e),fun h=>absurd h (lL s pl e)⟩
theorem Us.orI {d:Nat}{c:List Rg}{s:GS}{x:GS×List It}(h:Us d c s x)(b:Bool):Us d c s (x.1.or b,x.2):=
 ⟨h.pre,fun a=>h.mny (by simp only[GS.or,sm] at a;exact a.1),h.wr,fun e a=>h.use e (by simp only[GS.or,sm] at a;exact a.1)⟩
theorem Us.FO {a:Nat}{c:List Rg}{s:GS}{x:GS×List It}(h:Us a c s x)(n:Nat):Us a c s ({x.1 with FO:=n},x.2):=⟨h.pre,h.mny,h.wr,h.use⟩
theorem xr {k:Int}{t:BL}{l:List Lit3}{i:Nat}(h:ei k t l=some i):∃x,l[i]?=some x/\x.kind=k:=by
 induction l generalizing i with
 |nil=>simp[ei] at h
 |cons y r ih=>
  simp only[ei] at h
  split at h
  ·rename_i hc
   cases h;exact⟨y,rfl,hc.1⟩
  ·cases hx:ei k t r with
   |none=>rw[hx] at h;simp at h
   |some j=>
    rw[hx] at h;simp only[Ac,dO] at h;subst h;obtain⟨x,b,a⟩:=ih hx;exact⟨x,by simpa using b,a⟩
theorem Dl (s:GS)(l:Lit3):∃x,(s.lit l).1.FU[(s.lit l).2]?=some x/\x.kind=l.kind:=by
 unfold GS.lit
 split
 ·rename_i i hi
  split at hi
  ·exact xr hi
  ·cases hi
 ·exact⟨l,by simp,rfl⟩
theorem Us.litI {a:Nat}{c:List Rg}(s:GS)(l:Lit3)(op b z:Int)(h:∀(FU:List Lit3) (i:Nat) (x:Lit3),FU[i]?=some x->x.kind=l.kind->s.many=false->qb a FU (chN c) op i b):Us a c s ((s.lit l).1,[.ins op (s.lit l).2 b z]):=by
 obtain⟨x,j,g⟩:=Dl s l;have d:(s.lit l).1.many=s.many:=by unfold GS.lit;split<;>rfl
 have f:(s.lit l).1.F9=s.F9:=by unfold GS.lit;split<;>rfl
 refine⟨?_,fun e=>by rw[←d];exact e,fun e=>by rw[←f];exact e,fun _ e=>?_⟩
 ·unfold GS.lit;split
  ·exact⟨[],by simp⟩
  ·exact⟨[l],rfl⟩
 ·simp only[df,il,and_true]
  exact h _ _ x j g (by rw[←d];exact e)
theorem uz {n:BL}{c:List Rg}{o i:Nat}{a:Bool}(h:aF n c=some (o,i,a)):∃m,(chN c)[o]?=some m/\i<m:=by
 induction c generalizing o with
 |nil=>simp[aF] at h
 |cons r c ih=>
  simp only[aF] at h
  split at h
  ·rename_i j hj
   simp only[dO,A4] at h;obtain⟨rfl,rfl,_⟩:=h;exact⟨r.1.length,rfl,gW hj⟩
  ·cases hx:aF n c with
   |none=>rw[hx] at h;simp at h
   |some p=>
    obtain⟨e,f,g⟩:=p;rw[hx] at h;simp only[Ac,dO,A4] at h;obtain⟨rfl,rfl,rfl⟩:=h;obtain⟨m,d,b⟩:=ih hx;exact⟨m,by simpa [chN] using d,b⟩
variable (fs gs:List BL)
theorem jR (d:Nat)(FU:List Lit3)(c:List Nat){op:Int}(a b z:Int)(h:op≠6/\op≠16/\op≠17/\op≠10/\op≠13/\op≠8/\op≠11/\op≠9/\op≠12/\op≠23):df d FU c [.ins op a b z]:=by
 simp only[df,il,and_true];exact iO d FU c a b h
theorem vW (n:BL)(FR:Int)(set:Bool)(c:List Rg)(s:GS):Us fs.length c s (dG fs gs n FR set c s):=by
 unfold dG
 split
 ·rename_i hf
  refine Us.put s _ (fun _ _=>jR _ _ _ _ _ _ ?_);rcases nL hf.2 with h|h|h|h|h<;>rw[h]<;>decide
 ·split
  ·exact Us.failed s _ _ _
  ·split
   ·rename_i o i a hw
    obtain⟨m,b,d⟩:=uz hw
    split
    ·exact Us.failed s _ _ _
    ·refine Us.put s _ (fun _ _=>?_)
     simp only[df,il,and_true];refine⟨fun e=>?_,fun e=>?_,fun e=>?_,fun e=>?_,fun _=>⟨o,m,rfl,b,by omega⟩,fun e=>?_⟩<;>(cases set<;>simp at e)
   ·split
    ·rename_i i hi
     have f:=gW hi;refine(Us.put s _ (fun _ _=>?_)).orI (decide (255<i));simp only[df,il,and_true];refine⟨fun e=>?_,fun e=>?_,fun e=>?_,fun _=>by omega,fun e=>?_,fun e=>?_⟩<;>(cases set<;>simp at e)
    ·split
     ·refine Us.litI s _ _ _ _ (fun FU i x b d _=>?_)
      refine⟨fun e=>?_,fun e=>?_,fun _=>⟨i,x,rfl,b,d⟩,fun e=>?_,fun e=>?_,fun e=>?_⟩<;>(cases set<;>simp at e)
     ·exact Us.failed s _ _ _
def PUs (t:T):Prop:=∀c,c≠[]->∀s,Us fs.length c s (ah fs gs t c s)
theorem qr {l:List T}(h:∀x∈l,PUs fs gs x)(c:List Rg)(b:c≠[])(s:GS):Us fs.length c s (aW fs gs l c s):=by
 induction l generalizing s with
 |nil=>rw[aW];exact Us.put s [] (fun _ _=>trivial)
 |cons v r ih=>
  rw[aW];exact(h v (by simp) c b s).seq (ih (fun x a=>h x (by simp[a])) _)
theorem wm {v:T}(h:PUs fs gs v)(c:List Rg)(a:c≠[])(s:GS):Us fs.length c s (bg fs gs v c s):=by
 obtain⟨k,n,d,b,l,p,pl⟩:=v;rw[bg]
 split
 ·exact Us.put s _ (fun _ _=>jR _ _ _ _ _ _ (by decide))
 ·exact h c a s
theorem y8 (n:BL)(a:Bool){as:List T}(h:∀x∈as,PUs fs gs x)(k:Nat)(c:List Rg)(j:c≠[])(s:GS):Us fs.length c s (eE fs gs n a as k c s):=by
 rw[eE];have l:=(qr fs gs h c j s).orI (decide (15<k));refine l.seq (Us.litI _ _ _ _ _ (fun FU i x g f b=>?_))
 have d:(aW fs gs as c s).1.many=false/\¬15<k:=by
  simp only[GS.or,sm,decide_eq_false_iff_not] at b;exact b
 refine⟨fun e=>?_,fun _=>⟨⟨i,x,rfl,g,f⟩,by omega⟩,fun e=>?_,fun e=>?_,fun e=>?_,fun e=>?_⟩<;>(cases a<;>simp at e)
theorem Au (n:BL){v:T}{as:List T}(b:PUs fs gs v)(h:∀x∈as,PUs fs gs x)(c:List Rg)(a:c≠[])(s:GS):Us fs.length c s (fe fs gs n v as c s):=by
 rw[fe];exact(wm fs gs b c a s).seq (y8 fs gs n (cY v) h as.length c a _)
theorem BU (a:Bool){ms:List T}(h:∀m∈ms,∀x∈m.FN,PUs fs gs x)(c:List Rg)(i:c≠[])(s:GS):Us fs.length c s (cV fs gs a ms c s):=by
 induction ms generalizing s with
 |nil=>rw[cV];exact Us.put s [] (fun _ _=>trivial)
 |cons m r ih=>
  obtain⟨k,n,f,e,l,p,pl⟩:=m;rw[cV];have d:=y8 fs gs n a (as:=l) (h (.mk k n f e l p pl) (by simp)) l.length c i s;have b:=ih (fun x g=>h x (by simp[g])) (eE fs gs n a l l.length c s).1;cases r with
  |nil=>exact d.seq b
  |cons m2 r2=>
   have j:=(d.preI [.ins 15 0 0 0] (fun _ _=>jR _ _ _ _ _ _ (by decide))).app [.ins 14 0 0 0] (fun _ _=>jR _ _ _ _ _ _ (by decide));exact j.seq b
def PSs (t:T):Prop:=∀c,c≠[]->∀s,Us fs.length c s (bp fs gs t c s)
theorem rz {t:T}(b:∀x∈t.FN,PUs fs gs x)(h:PUs fs gs t):PSs fs gs t:=by
 obtain⟨k,n,e,d,l,p,pl⟩:=t;intro c a s;unfold bp
 split
 ·cases l with
  |nil=>exact Us.put s [] (fun _ _=>trivial)
  |cons v r=>exact(b v (by simp[T.FN]) c a s).app [.ins 21 0 0 0] (fun _ _=>jR _ _ _ _ _ _ (by decide))
 ·exact h c a s
theorem yJ {l:List T}(h:∀x∈l,PSs fs gs x)(first:Bool)(c:List Rg)(d:c≠[])(s:GS):Us fs.length c s (bN fs gs l first c s):=by
 induction l generalizing first s with
 |nil=>
  rw[bN];cases first
  ·exact Us.put s [] (fun _ _=>trivial)
  ·exact Us.put s _ (fun _ _=>jR _ _ _ _ _ _ (by decide))
 |cons v r ih=>
  rw[bN];have a:=(h v (by simp) c d s).seq (ih (fun x b=>h x (by simp[b])) false (bp fs gs v c s).1);cases first
  ·have e:=a.preI [.ins 14 0 0 0] (fun _ _=>jR _ _ _ _ _ _ (by decide))
   simpa using e
  ·simpa using a
theorem oo {t:T}(h:∀x∈t.FN,PSs fs gs x)(c:List Rg)(a:c≠[])(s:GS):Us fs.length c s (bV fs gs t c s):=by
 obtain⟨k,n,d,b,l,p,pl⟩:=t;rw[bV];exact yJ fs gs (l:=l) h true c a s
theorem Bf (a:Nat)(FU:List Lit3)(c:List Nat)(g:Nat):df a FU c [.lab g]:=by simp[df,il]
theorem xy (a:Nat)(FU:List Lit3)(c:List Nat)(op:Int)(g:Nat):df a FU c [.jmp op g]:=by simp[df,il]
theorem x8 (skip a:Int)(A:a=0\/a=2\/a=3\/a=4){v b:T}{bs:List T}(w:PUs fs gs v)(B:∀y∈b.FN,PSs fs gs y)(k:∀x∈bs,∀y∈x.FN,PSs fs gs y)(c:List Rg)(j:c≠[])(s:GS):Us fs.length c s (cv fs gs skip a v b bs c s):=by
 unfold cv;dsimp only;have C:=(w c j s).FO ((ah fs gs v c s).1.FO+2);have i:=oo fs gs (t:=b) B c j {(ah fs gs v c s).1 with FO:=(ah fs gs v c s).1.FO+2};have e:∀FU:List Lit3,df fs.length FU (chN c) [It.ins a 0 0 0]:=fun FU=>jR _ _ _ _ _ _ (by rcases A with rfl|rfl|rfl|rfl<;>decide)
 have step:∀{z:GS×List It},Us fs.length c (bV fs gs b c {(ah fs gs v c s).1 with FO:=(ah fs gs v c s).1.FO+2}).1 z->∀(h f:List It),(∀FU,df fs.length FU (chN c) h)->(∀FU,df fs.length FU (chN c) f)->∀(m l:Nat),Us fs.length c s (z.1,(ah fs gs v c s).2++h++(bV fs gs b c {(ah fs gs v c s).1 with FO:=(ah fs gs v c s).1.FO+2}).2++f++[.lab m]++z.2++[.lab l]):=by
  intro z u h f q p m l;have o:=C.app h (fun _ _=>q _);have n:=(o.seq i).app f (fun _ _=>p _);exact((n.app [.lab m] (fun _ _=>Bf _ _ _ _)).seq u).app [.lab l] (fun _ _=>Bf _ _ _ _)
 have d:∀(r:Bool) (g:Nat) (FU:List Lit3),df fs.length FU (chN c) (if r=true then [] else [It.jmp 18 g]):=fun r g FU=>by cases r<;>simp[df,il]
 cases bs with
 |nil=>exact step (Us.put _ _ (fun _ _=>e _)) _ _ (fun _=>xy _ _ _ _ _) (d _ _) _ _
 |cons b2 b3=>
  dsimp only
  split
  ·exact step (oo fs gs (t:=b2) (fun y i=>k b2 (by simp) y i) c j _) _ _ (fun _=>xy _ _ _ _ _) (d _ _) _ _
  ·exact step (Us.put _ _ (fun _ _=>e _)) _ _ (fun _=>xy _ _ _ _ _) (d _ _) _ _
theorem Bb (a:Int){v:T}{as:List T}(e:∀y∈v.FN,PSs fs gs y)(g:∀x∈as,∀y∈x.FN,PSs fs gs y)(c:List Rg)(k:c≠[])(s:GS):Us fs.length c s (ez fs gs a v as c s):=by
 unfold ez;dsimp only;have h:Us fs.length c s ({s with FO:=s.FO+2},([]:List It)):=(Us.put s [] (fun _ _=>trivial)).FO (s.FO+2);have e:=oo fs gs (t:=v) e c k {s with FO:=s.FO+2}
 have d:∀FU:List Lit3,df fs.length FU (chN c) [It.lab s.FO,It.ins 2 0 0 0]:=fun FU=>by
  simp only[df,il,and_true,true_and];exact iO _ _ _ _ _ (by decide)
 cases as with
 |nil=>
  dsimp only;have q:=((((h.app [It.lab (s.FO+1)] (fun _ _=>Bf _ _ _ _)).seq e).app [It.jmp a s.FO] (fun _ _=>xy _ _ _ _ _)).app [It.jmp 18 (s.FO+1)] (fun _ _=>xy _ _ _ _ _)).app [It.lab s.FO,It.ins 2 0 0 0] (fun _ _=>d _);exact q
 |cons b bs=>
  dsimp only;have m:=oo fs gs (t:=b) (fun y l=>g b (by simp) y l) c k (bV fs gs v c {s with FO:=s.FO+2}).1
  have f:∀(j:List It) (i:∀FU,df fs.length FU (chN c) j),Us fs.length c s ((bV fs gs b c (bV fs gs v c {s with FO:=s.FO+2}).1).1,[It.lab (s.FO+1)]++(bV fs gs v c {s with FO:=s.FO+2}).2++[It.jmp a s.FO]++(bV fs gs b c (bV fs gs v c {s with FO:=s.FO+2}).1).2++j++[It.lab s.FO,It.ins 2 0 0 0]):=by
   intro j i;exact(((((h.app [It.lab (s.FO+1)] (fun _ _=>Bf _ _ _ _)).seq e).app [It.jmp a s.FO] (fun _ _=>xy _ _ _ _ _)).seq m).app j (fun _ _=>i _)).app [It.lab s.FO,It.ins 2 0 0 0] (fun _ _=>d _)
  refine f _ (fun FU=>?_)
  split
  ·trivial
  ·simp only[df,il,and_true];exact iO _ _ _ _ _ (by decide)
theorem Et (FR:Int)(c:List Rg)(l cD:List BL)(s:GS)(h:(aA.go FR c cD l s).F9=none):s.F9=none:=by
 induction l generalizing cD s with
 |nil=>exact h
 |cons x r ih=>
  simp only[aA.go] at h;have a:=ih _ _ h
  split at a
  ·exact absurd a (lL _ _ _)
  ·exact a
theorem zA {b a:List BL}{FR:Int}{c:List Rg}{s:GS}(h:(aA b a FR c s).F9=none):s.F9=none:=by
 unfold aA at h;exact Et FR c (b++a) [] s h
theorem sF (N:Nat):∀t:T,T.nd t<=N->PUs fs gs t:=by
 induction N with
 |zero=>intro t h;have:=bG t;omega
 |succ N ih=>
  intro t L c o s;obtain⟨k,n,u,A,l,p,pl⟩:=t;have d:∀x∈l,PUs fs gs x:=fun x a=>ih x (by have:=aD (x:=.mk k n u A l p pl) a;omega);have g:∀x∈l,∀y∈x.FN,PUs fs gs y:=fun x a y C=>ih y (by have:=aD (x:=.mk k n u A l p pl) a;have:=aD C;omega);have E:∀x∈l,PSs fs gs x:=fun x a=>rz fs gs (g x a) (d x a);have f:∀x∈l,∀y∈x.FN,PSs fs gs y:=fun x a y C=>rz fs gs (fun z H=>ih z (by have:=aD (x:=.mk k n u A l p pl) a;have:=aD C;have:=aD H;omega)) (g x a y C);have nop:Us fs.length c s (s,([]:List It)):=Us.put s [] (fun _ _=>trivial);cases hs:s.F9 with
  |some q=>rw[oD fs gs c s _ (by rw[hs];rfl)];exact nop
  |none=>
   by_cases k8:k=8
   ·subst k8;rw[Ak fs gs _ _ _ _ _ _ _ _ hs];exact vW fs gs n pl false c s
   ·by_cases k9:k=9/\dC n=true
    ·obtain⟨rfl,F⟩:=k9
     rw[Aj fs gs _ _ _ _ _ _ _ _ hs F];exact Us.put s _ (fun _ _=>jR _ _ _ _ _ _ (by decide))
    ·by_cases kl:9<=k/\k<=13
     ·rw[lu fs gs _ _ _ _ _ _ _ _ k hs (by
       by_cases e:k=9
       ·refine .inl ⟨e,?_⟩
        cases F:dC n
        ·rfl
        ·exact absurd ⟨e,F⟩ k9
       ·exact .inr (by omega))]
      refine Us.litI s _ _ _ _ (fun FU i x j G _=>?_);exact⟨fun _=>⟨i,rfl,(aC.1 j).1⟩,fun e=>by simp at e,fun e=>by simp at e,fun e=>by simp at e,fun e=>by simp at e,fun e=>by simp at e⟩
     ·by_cases k14:k=14
      ·subst k14
       rw[yx fs gs _ _ _ _ _ _ _ _ hs];exact((qr fs gs d c o s).orI _).app _ (fun _ _=>jR _ _ _ _ _ _ (by decide))
      ·by_cases k2:k=2
       ·subst k2
        rw[CQ fs gs _ _ _ _ _ _ _ _ hs];have j:=yJ fs gs E true ((u++A,u.length)::c) (by simp) (aA u A pl c s);obtain⟨M,K⟩:=gu u A pl c s;refine⟨by rw[←K];exact j.pre,fun B=>(fF (j.mny B)).1,fun D=>zA (j.wr D),fun D B=>?_⟩;have G:=j.use D B;obtain⟨_,_,_,J⟩:=fF (j.mny B);simp only[df,il,and_true];refine⟨by rw[bY];omega,by simpa [chN] using J,(nC _ _ _ _ _).2 ⟨?_,?_⟩⟩
        ·simpa [chN] using G
        ·split
         ·trivial
         ·simp only[df,il,and_true]
          have I:1<=c.length:=by cases c with|nil=>exact absurd rfl o|cons _ _=>simp
          exact⟨fun e=>by simp at e,fun e=>by simp at e,fun e=>by simp at e,fun e=>by simp at e,fun e=>by simp at e,fun _=>by simp[chN];omega⟩
       ·by_cases k4:k=4
        ·subst k4
         cases l with
         |nil=>rw[mE fs gs _ _ _ _ _ _ _ 4 (by decide)];exact nop
         |cons v r=>
          rw[CN fs gs _ _ _ _ _ _ _ v r hs];have j:=d v (by simp) c o s
          split
          ·exact j
          ·exact j.seq (vW fs gs n pl true c _)
        ·by_cases k5:k=5
         ·subst k5
          cases l with
          |nil=>rw[mE fs gs _ _ _ _ _ _ _ 5 (by decide)];exact nop
          |cons v as=>
           rw[wN fs gs _ _ _ _ _ _ _ v as hs];have w:=Au fs gs n (d v (by simp)) (as:=as) (fun x a=>d x (by simp[a])) c o s;unfold vm
           split
           ·rename_i skip other hk
            split
            ·cases as with
             |nil=>exact nop
             |cons b bs=>
              refine x8 fs gs _ _ ?_ (d v (by simp)) (f b (by simp)) (fun x a=>f x (by simp[a])) c o s;have:=(tQ hk).2;by_cases h0:other=0
              ·exact .inl h0
              ·exact .inr (this h0)
            ·exact w
           ·split
            ·exact Bb fs gs _ (f v (by simp)) (fun x a=>f x (by simp[a])) c o s
            ·exact w
           ·exact w
         ·by_cases k6:k=6
          ·subst k6
           cases l with
           |nil=>rw[mE fs gs _ _ _ _ _ _ _ 6 (by decide)];exact nop
           |cons v ms=>
            rw[CJ fs gs _ _ _ _ _ _ _ v ms hs];exact(wm fs gs (d v (by simp)) c o s).seq (BU fs gs (cY v) (ms:=ms) (fun m B x a=>g m (by simp[B]) x a) c o (bg fs gs v c s).1)
          ·rw[vY fs gs _ _ _ _ _ _ _ _ k k8 (by omega) k2 (by omega)];exact nop
theorem yD (t:T):PSs fs gs t:=rz fs gs (fun x _=>sF fs gs _ x (gE _)) (sF fs gs _ t (gE _))
theorem A9 (l:List T)(c:List Rg)(a:c≠[])(s:GS):Us fs.length c s (bP fs gs l c s):=by
 induction l generalizing s with
 |nil=>rw[bP];exact Us.put s [] (fun _ _=>trivial)
 |cons v r ih=>
  rw[bP];have b:=(yD fs gs v c a s);refine(b.app (if v.kind=3 then [] else [.ins 14 0 0 0]) (fun _ _=>?_)).seq (ih _)
  split
  ·trivial
  ·exact jR _ _ _ _ _ _ (by decide)
theorem Cl (t:T)(a:(bi fs gs t).1.F9=none)(b:(bi fs gs t).1.many=false):df fs.length (bi fs gs t).1.FU [(t.FP++t.FQ).length] (bi fs gs t).2:=by
 have d:=A9 fs gs t.FN (ki t) (by simp[ki]) (aA t.FP t.FQ t.FR [] s0)
 have c:=d.app (if al t.FN then [] else [It.ins 22 0 0 0]) (fun _ _=>by
  split
  ·trivial
  ·exact jR _ _ _ _ _ _ (by decide))
 exact c.use a b
end
mutual
def bB (c:List It->Int)(pos:Nat->Int)(base p:Int):It->List (Int×aL)
 |.lab _=>[]
 |.ins op a b to=>[(base+p,⟨op,a,b,0,to⟩)]
 |.jmp op g=>[(base+p,⟨op,0,0,0,pos g-(p+3)⟩)]
 |.blk a b body=>(base+p,⟨24,a,b,c body,szL body⟩)::aE c (aj body) (base+p+6) 0 body
def aE (a:List It->Int)(pos:Nat->Int)(base p:Int):List It->List (Int×aL)
 |[]=>[]
 |i::r=>bB a pos base p i++aE a pos base (p+szI i) r
end
def oK (x:Int×aL):Int×aL:=(x.1,if x.2.op=24 then {x.2 with c:=127} else x.2)
mutual
theorem Am (e:List It->Int)(pos:Nat->Int)(base p:Int):(i:It)->lJ i->(bB e pos base p i).map oK=jb pos base p i
 |.lab _,_=>by simp[bB,jb]
 |.ins op a b to,h=>by
  have d:cE op a b to:=h;simp[bB,jb,oK,d.2.2.1]
 |.jmp op g,h=>by
  have d:op=18\/op=19\/op=20:=h;have c:op≠24:=by omega
  simp[bB,jb,oK,c]
 |.blk a b body,h=>by
  simp only[bB,jb,AC,nY e (aj body) (base+p+6) 0 body h.2.2];simp[oK]
theorem nY (a:List It->Int)(pos:Nat->Int)(base p:Int):(l:List It)->dg l->(aE a pos base p l).map oK=fm pos base p l
 |[],_=>by simp[aE,fm]
 |i::r,h=>by
  simp only[aE,fm,An,Am a pos base p i h.1,nY a pos base (p+szI i) r h.2]
end
theorem rX (c:List It->Int)(pos:Nat->Int)(base p:Int)(a b:List It):aE c pos base p (a++b)=aE c pos base p a++aE c pos base (p+szL a) b:=by
 induction a generalizing p with
 |nil=>simp[aE,szL]
 |cons i r ih=>simp only[kq,aE,szL,ih,gz];congr 3;omega
mutual
theorem Bx (h:List It->Int)(pos:Nat->Int)(base p:Int):(i:It)->lJ i->mz pos p i=false->∀(n:Nat) (rest:List Int) (r:List (Int×aL)),jd n (base+p+szI i) rest=some r->jd (n+(bB h pos base p i).length) (base+p) (eH h pos p i++rest)=some (bB h pos base p i++r)
 |.lab _,_,_,n,rest,r,hr=>by simpa [bB,eH,szI] using hr
 |.ins op a b to,hf,_,n,rest,r,hr=>by
  have o:cE op a b to:=hf;obtain⟨l,k,j,s⟩:=qQ o rest;have q:szI (.ins op a b to)=(ja op a b to).length:=(iu op a b to).symm;simp only[bB,eH,gi,hG,kq,lE];refine nj l j k s (fun e=>?_) (by rw[q] at hr;exact hr);have:=lR (i:=.ins op a b to) rfl;rw[q,e] at this;simp at this
 |.jmp op g,hf,hb,n,rest,r,hr=>by
  have f:lK (pos g-(p+3))=false:=hb;simp only[lK,sm,decide_eq_false_iff_not] at f;obtain⟨l,k,j⟩:=xC (op:=op) hf (to:=pos g-(p+3)) (by omega) (by omega) rest;simp only[bB,eH,gi,hG,kq,lE];exact nj (x:=op::toB (pos g-(p+3))) l rfl k j (by simp) hr
 |.blk a b d,hf,hb,n,rest,r,hr=>by
  have f:(lK (szL d)||eM (aj d) 0 d)=false:=hb;simp only[lK,sm,decide_eq_false_iff_not] at f;obtain⟨v,u,t⟩:a<=15/\b<=63/\dg d:=hf
  have m:jd n (base+p+6+0+szL d) rest=some r:=by
   have e:base+p+6+0+(szL d:Int)=base+p+(szI (.blk a b d):Int):=by simp only[szI];omega
   rw[e];exact hr
  have ih:=rZ h (aj d) (base+p+6) 0 d t f.2 n rest r m;obtain⟨l,k,j⟩:=xD (a:=a) (b:=b) (c:=h d) (to:=szL d) (by omega) (by omega) (by omega) (by omega) (by omega) (by omega) (bD h (aj d) 0 d++rest);simp only[bB,eH,gi,kq,gz] at ih ⊢;rw[←Nat.add_assoc];rw[Int.add_zero] at ih;exact nj (x:=[24,b8 a,b8 b,h d]++toB (szL d)) (rest:=bD h (aj d) 0 d++rest) (by simpa using l) rfl k j (by simp) ih
theorem rZ (b:List It->Int)(pos:Nat->Int)(base p:Int):(l:List It)->dg l->eM pos p l=false->∀(n:Nat) (rest:List Int) (r:List (Int×aL)),jd n (base+p+szL l) rest=some r->jd (n+(aE b pos base p l).length) (base+p) (bD b pos p l++rest)=some (aE b pos base p l++r)
 |[],_,_,n,rest,r,hr=>by simpa [aE,bD,szL] using hr
 |i::l,hf,hb,n,rest,r,hr=>by
  have a:(mz pos p i||eM pos (p+szI i) l)=false:=hb;simp only[sm] at a
  have c:jd n (base+(p+szI i)+szL l) rest=some r:=by
   have e:base+(p+(szI i:Int))+(szL l:Int)=base+p+(szL (i::l):Int):=by simp only[szL];omega
   rw[e];exact hr
  have d:=rZ b pos base (p+szI i) l hf.2 a.2 n rest r c;have g:base+(p+(szI i:Int))=base+p+szI i:=by omega
  rw[g] at d;have f:=Bx b pos base p i hf.1 a.1 _ _ _ d;simp only[aE,bD,gz,bY];rw[←Nat.add_assoc,Nat.add_right_comm];exact f
end
theorem xY (a:List It->Int){l:List It}(b:dg l)(c:eM (aj l) 0 l=false):jd (aE a (aj l) 0 0 l).length 0 (bD a (aj l) 0 l)=some (aE a (aj l) 0 0 l):=by
 have h:=rZ a (aj l) 0 0 l b c 0 [] [] (by simp[jd]);simpa using h
mutual
def fZ:It->Nat
 |.lab _=>0
 |.ins _ _ _ _=>1
 |.jmp _ _=>1
 |.blk _ _ body=>1+bj body
def bj:List It->Nat
 |[]=>0
 |i::r=>fZ i+bj r
end
mutual
theorem vw (c:List It->Int)(pos:Nat->Int)(base p:Int):(i:It)->(bB c pos base p i).length=fZ i
 |.lab _=>by simp[bB,fZ]
 |.ins _ _ _ _=>by simp[bB,fZ]
 |.jmp _ _=>by simp[bB,fZ]
 |.blk a b body=>by simp only[bB,fZ,gi,gC c (aj body) (base+p+6) 0 body];omega
theorem gC (a:List It->Int)(pos:Nat->Int)(base p:Int):(l:List It)->(aE a pos base p l).length=bj l
 |[]=>by simp[aE,bj]
 |i::r=>by simp only[aE,bj,bY,vw a pos base p i,gC a pos base (p+szI i) r]
end
def stp:Nat->List It->List Nat
 |_,[]=>[]
 |k,.lab _::r=>stp k r
 |k,.ins _ _ _ _::r=>k::stp (k+1) r
 |k,.jmp _ _::r=>k::stp (k+1) r
 |k,.blk _ _ body::r=>k::stp (k+1+bj body) r
structure Sk where
 outer:Int
 deep:Int
 FQ:Int
 fin:Int
structure VS where
 sk:List Sk
 st:List (List Nat)
 gh:List (List It×Int×Nat)
 r:Nat
 of:List Nat
 bd:List Int
inductive Ch (sk:List Sk) (p:Int):Nat->Nat->Nat->Prop
 |refl (r:Nat):Ch sk p r r 0
 |pop {r r' q n:Nat} {g:Sk}:sk[r]?=some g->g.fin=p->g.outer=(r':Int)->Ch sk p r' q n->Ch sk p r q (n+1)
theorem bH {α:Type}{l:List α}{i:Nat}{x:α}(h:l[i]?=some x)(m:List α):(l++m)[i]?=some x:=by
 rw[md (aC.1 h).1];exact h
theorem Ch.trans {sk:List Sk}{p:Int}{r q a n m:Nat}(h:Ch sk p r q n)(k:Ch sk p q a m):Ch sk p r a (n+m):=by
 induction h with
 |refl r=>rw[nl];exact k
 |pop h1 h2 h3 _ ih=>rw[Nat.add_right_comm];exact .pop h1 h2 h3 (ih k)
inductive Chn (sk:List Sk):Nat->List Nat->Prop
 |one {r m:Nat} {g:Sk}:sk[r]?=some g->g.FQ=(m:Int)->g.deep=0->Chn sk r [m]
 |more {r r' m m':Nat} {g:Sk} {c:List Nat}:sk[r]?=some g->g.FQ=(m:Int)->g.deep=((c.length+1:Nat):Int)->g.outer=(r':Int)->Chn sk r' (m'::c)->Chn sk r (m::m'::c)
theorem Chn.app {sk:List Sk}{r:Nat}{c:List Nat}(h:Chn sk r c)(m:List Sk):Chn (sk++m) r c:=by
 induction h with
 |one h1 h2 h3=>exact .one (bH h1 m) h2 h3
 |more h1 h2 h3 h4 _ ih=>exact .more (bH h1 m) h2 h3 h4 ih
structure Stp (atP:Int->Prop)(nf:Nat)(FU:List Lit3)(s:VS)(i:Nat)(p:Int)(x:aL)(s':VS):Prop where
 ex:∃(q n:Nat) (g:Sk) (l:List Nat) (c:List Nat),Ch s.sk p s.r q n/\s.sk[q]?=some g/\s.st[q]?=some l/\g.fin≠p/\Chn s.sk q c/\qb nf FU c x.op x.a x.b/\
  ((x.op≠24/\s'=⟨s.sk,s.st.set q (l++[i]),s.gh,q,s.of++[q],s.bd++[-1]⟩)\/
   (x.op=24/\0<=x.a/\x.a<=15/\x.a<=x.b/\x.b<=63/\0<=x.c/\x.c<=127/\c.length<=15/\1<=x.to/\p+6+x.to<=g.fin/\atP (p+6+x.to)/\
     ∃h,s'=⟨s.sk++[⟨(q:Int),g.deep+1,x.b,p+6+x.to⟩],s.st.set q (l++[i])++[[]],s.gh++[h],s.sk.length,s.of++[q],s.bd++[(s.sk.length:Int)]⟩))
inductive jN (atP:Int->Prop) (nf:Nat) (FU:List Lit3):Nat->VS->List (Int×aL)->VS->Prop
 |nil (k:Nat) (s:VS):jN atP nf FU k s [] s
 |cons {k:Nat} {s s1 s2:VS} {p:Int} {x:aL} {r:List (Int×aL)}:Stp atP nf FU s k p x s1->jN atP nf FU (k+1) s1 r s2->jN atP nf FU k s ((p,x)::r) s2
theorem jN.app {c:Int->Prop}{d:Nat}{FU:List Lit3}{k:Nat}{s s1 f:VS}{a b:List (Int×aL)}(h:jN c d FU k s a s1)(g:jN c d FU (k+a.length) s1 b f):jN c d FU k s (a++b) f:=by
 induction h with
 |nil k s=>simpa using g
 |@cons k s s1 s3 p x r h1 _ ih=>
  refine .cons h1 (ih ?_);have e:k+1+r.length=k+((p,x)::r).length:=by simp only[gi];omega
  rw[e];exact g
structure io (cf:List It->Int)(FL:List (Int×aL))(s:VS)(j:Nat)(l:List It)(base:Int)(k:Nat):Prop where
 gh:s.gh[j]?=some (l,base,k)
 reg:cB l
 good:cM l
 fit:dg l
 at_:∃pre post,pre.length=k/\FL=pre++aE cf (aj l) base 0 l++post
 st:s.st[j]?=some (stp k l)
 of:∀i∈stp k l,s.of[i]?=some j
structure EK (cf:List It->Int)(FL:List (Int×aL))(n0 k0 k1:Nat)(s:VS):Prop where
 reg:∀j,n0<=j->j<s.sk.length->∃l base k,io cf FL s j l base k
 blk:∀i p x,k0<=i->i<k1->FL[i]?=some (p,x)->x.op=24->∃(j:Nat) (l:List It) (base:Int) (k:Nat),s.bd[i]?=some (j:Int)/\s.gh[j]?=some (l,base,k)/\x.c=cf l
theorem qL {i:It}{r:List It}(h:ax (i::r)=true):r=[]\/ax r=true:=by
 cases r with
 |nil=>exact .inl rfl
 |cons y r=>exact .inr (by simpa [ax] using h)
theorem tY (d:List It->Int)(pos:Nat->Int)(base p:Int)(l:List It)(h:ax l=true):∃x r,aE d pos base p l=(base+p,x)::r:=by
 induction l generalizing p with
 |nil=>simp[ax] at h
 |cons i r ih=>
  cases i with
  |lab g=>
   rcases qL h with rfl|c
   ·simp[ax] at h
   ·obtain⟨x,m,e⟩:=ih p c
    refine⟨x,m,?_⟩;simp only[aE,bB,szI,lE];simpa using e
  |ins op a b to=>exact⟨_,_,by simp only[aE,bB,kq];rfl⟩
  |jmp op g=>exact⟨_,_,by simp only[aE,bB,kq];rfl⟩
  |blk a b body=>exact⟨_,_,by simp only[aE,bB,kq];rfl⟩
mutual
def un (c:List It->Int):It->Prop
 |.blk a b body=>a<=b/\0<=c body/\c body<=127/\sn c body
 |_=>True
def sn (a:List It->Int):List It->Prop
 |[]=>True
 |i::r=>un a i/\sn a r
end
theorem Chn.deep {sk:List Sk}{q:Nat}{c:List Nat}(h:Chn sk q c){g:Sk}(a:sk[q]?=some g):g.deep+1=c.length:=by
 cases h with
 |one h1 h2 h3=>rw[a] at h1;cases h1;rw[h3];rfl
 |more h1 h2 h3 h4 _=>rw[a] at h1;cases h1;rw[h3];simp
theorem Chn.ne {sk:List Sk}{q:Nat}{c:List Nat}(h:Chn sk q c):∃m a,c=m::a:=by
 cases h with
 |one h1 h2 h3=>exact⟨_,_,rfl⟩
 |more h1 h2 h3 h4 _=>exact⟨_,_,rfl⟩
structure mC (q:Nat)(s s':VS):Prop where
 sk:∃m,s'.sk=s.sk++m
 gh:∃m,s'.gh=s.gh++m
 of:∃m,s'.of=s.of++m
 bd:∃m,s'.bd=s.bd++m
 st:∀j,j<s.sk.length->j≠q->s'.st[j]?=s.st[j]?
theorem mC.refl (q:Nat)(s:VS):mC q s s:=⟨⟨[],by simp⟩,⟨[],by simp⟩,⟨[],by simp⟩,⟨[],by simp⟩,fun _ _ _=>rfl⟩
theorem mC.len {q:Nat}{s s':VS}(h:mC q s s'):s.sk.length<=s'.sk.length:=by
 obtain⟨m,e⟩:=h.sk;rw[e,bY];omega
theorem mC.trans {q:Nat}{a b c:VS}(h:mC q a b)(k:mC q b c):mC q a c:=by
 have B:=h.len;obtain⟨⟨o,A⟩,⟨n,z⟩,⟨m,y⟩,⟨l,x⟩,s⟩:=h;obtain⟨⟨i,w⟩,⟨g,v⟩,⟨f,u⟩,⟨e,t⟩,p⟩:=k;exact⟨⟨o++i,by rw[w,A,gz]⟩,⟨n++g,by rw[v,z,gz]⟩,⟨m++f,by rw[u,y,gz]⟩,⟨l++e,by rw[t,x,gz]⟩,fun j r d=>(p j (by omega) d).trans (s j r d)⟩
theorem io.keep {a:List It->Int}{FL:List (Int×aL)}{s s':VS}{j:Nat}{l:List It}{base:Int}{k:Nat}(h:io a FL s j l base k){q:Nat}(g:mC q s s')(c:j<s.sk.length)(b:j≠q):io a FL s' j l base k:=by
 obtain⟨n,f⟩:=g.gh;obtain⟨m,e⟩:=g.of;exact⟨by rw[f];exact bH h.gh _,h.reg,h.good,h.fit,h.at_,by rw[g.st j c b];exact h.st,fun i d=>by rw[e];exact bH (h.of i d) _⟩
structure pV (s:VS)(k:Nat):Prop where
 st:s.st.length=s.sk.length
 gh:s.gh.length=s.sk.length
 of:s.of.length=k
 bd:s.bd.length=k
structure Ran (cf:List It->Int)(FL:List (Int×aL))(atP:Int->Prop)(nf:Nat)(FU:List Lit3)(s:VS)(k q:Nat)(st0:List Nat)(P:Int)(fl:List (Int×aL))(l:List It)(s':VS):Prop where
 run:jN atP nf FU k s fl s'
 lens:pV s' (k+bj l)
 grow:mC q s s'
 st:s'.st[q]?=some (st0++stp k l)
 of:∀i∈stp k l,s'.of[i]?=some q
 ch:∃n,Ch s'.sk P s'.r q n
 came:EK cf FL s.sk.length k (k+bj l) s'
 own:∀i,k<=i->i<k+bj l->i∈stp k l\/∃(j:Nat) (l':List It) (base':Int) (k':Nat),s.sk.length<=j/\j<s'.sk.length/\io cf FL s' j l' base' k'/\i∈stp k' l'
theorem lG {α:Type}{l:List α}{i:Nat}{x:α}(h:l[i]?=some x):i<l.length:=(aC.1 h).1
theorem Ran.cons {H:List It->Int}{FL:List (Int×aL)}{z:Int->Prop}{B:Nat}{FU:List Lit3}{s:VS}{k q n:Nat}{d:List Nat}{p P:Int}{y:aL}{G:List (Int×aL)}{i:It}{r:List It}{s':VS}{g:Sk}{c:List Nat}
 (M:pV s k) (E:FL[k]?=some (p,y)) (D:Ch s.sk p s.r q n) (N:s.sk[q]?=some g) (t:s.st[q]?=some d) (u:g.fin≠p) (O:Chn s.sk q c) (J:qb B FU c y.op y.a y.b) (v:y.op≠24) (C:fZ i=1) (l:stp k (i::r)=k::stp (k+1) r)
 (h:Ran H FL z B FU ⟨s.sk,s.st.set q (d++[k]),s.gh,q,s.of++[q],s.bd++[-1]⟩ (k+1) q (d++[k]) P G r s'):Ran H FL z B FU s k q d P ((p,y)::G) (i::r) s':=by
 have f:k+bj (i::r)=k+1+bj r:=by simp only[bj,C];omega
 have K:=lG t
 have R:mC q s ⟨s.sk,s.st.set q (d++[k]),s.gh,q,s.of++[q],s.bd++[-1]⟩:=⟨⟨[],by simp⟩,⟨[],by simp⟩,⟨_,rfl⟩,⟨_,rfl⟩,fun j _ L=>by
  show(s.st.set q (d++[k]))[j]?=_
  rw[lT (fun e=>L e.symm)]⟩
 refine⟨.cons ⟨q,n,g,d,c,D,N,t,u,O,J,.inl ⟨v,rfl⟩⟩ h.run,by rw[f];exact h.lens,R.trans h.grow,?_,fun j A=>?_,h.ch,⟨h.came.reg,fun j I x Q w o F=>?_⟩,fun j Q w=>?_⟩
 ·rw[h.st,l,gz];rfl
 ·rw[l] at A
  rcases aS.1 A with rfl|A
  ·obtain⟨m,e⟩:=h.grow.of
   rw[e];exact bH (by simp[←M.of]) _
  ·exact h.of j A
 ·by_cases hjk:j=k
  ·subst hjk
   rw[E] at o;cases o;exact absurd F v
  ·rw[f] at w
   exact h.came.blk j I x (by omega) w o F
 ·rw[f] at w
  rw[l];by_cases hjk:j=k
  ·exact .inl (by simp[hjk])
  ·rcases h.own j (by omega) w with o|o
   ·exact .inl (by simp[o])
   ·exact .inr o
theorem EM (f:List It->Int)(FL:List (Int×aL))(Z:Int->Prop)(nf:Nat)(FU:List Lit3)(bi:∀y∈FL,Z y.1)(N:Nat):∀(l:List It),sizeOf l<N->∀(pos:Nat->Int) (base p:Int) (pre k:List (Int×aL)) (s:VS) (q n:Nat) (g:Sk) (t c:List Nat),
 FL=pre++aE f pos base p l++k->dg l->cM l->df nf FU c l->sn f l->(l=[]\/ax l=true)->pV s pre.length->Ch s.sk (base+p) s.r q n->s.sk[q]?=some g->g.fin=base+p+szL l->s.st[q]?=some t->Chn s.sk q c->
 ∃s',Ran f FL Z nf FU s pre.length q t (base+p+szL l) (aE f pos base p l) l s':=by
 induction N with
 |zero=>intro l h;omega
 |succ N ih=>
  intro l hN pos base p pre k s q n g t c am hf S hu X bf F ab hg A M hc;cases l with
  |nil=>
   refine⟨s,⟨by rw[aE];exact .nil _ _,by simpa [bj] using F,mC.refl q s,by simpa [stp] using M,fun i hi=>by simp[stp] at hi,⟨n,by simpa [szL] using ab⟩,⟨fun j h1 G=>by omega,fun i p x h1 G=>by simp[bj] at G;omega⟩,fun i h1 G=>by simp[bj] at G;omega⟩⟩
  |cons i r=>
   have ad:ax (i::r)=true:=by rcases bf with h|h;cases h;exact h
   have af:=qL ad;rw[dg] at hf;rw[cM] at S;rw[df] at hu;rw[sn] at X;have al:sizeOf r<N:=by simp at hN;omega
   have av:=lG M
   have H:∀(y:aL),bB f pos base p i=[(base+p,y)]->y.op≠24->qb nf FU c y.op y.a y.b->fZ i=1->stp pre.length (i::r)=pre.length::stp (pre.length+1) r->1<=szI i->∃s',Ran f FL Z nf FU s pre.length q t (base+p+szL (i::r)) (aE f pos base p (i::r)) (i::r) s':=by
    intro y hy bk a6 bg a7 bt
    have m:FL=(pre++[(base+p,y)])++aE f pos base (p+szI i) r++k:=by
     rw[am,aE,hy];simp
    have hk:FL[pre.length]?=some (base+p,y):=by
     rw[m,gz,gz,j1 (gE _),Fs];rfl
    have v:szL (i::r)=szI i+szL r:=rfl
    obtain⟨s',o⟩:=ih r al pos base (p+szI i) (pre++[(base+p,y)]) k ⟨s.sk,s.st.set q (t++[pre.length]),s.gh,q,s.of++[q],s.bd++[-1]⟩ q 0 g (t++[pre.length]) c m hf.2 S.2 hu.2 X.2 af
     ⟨by simp[F.st],F.gh,by simp[F.of],by simp[F.bd]⟩ (.refl q) hg (by rw[A,v];omega) (by simp[D5,av]) hc
    refine⟨s',?_⟩;have e1:base+(p+(szI i:Int))+(szL r:Int)=base+p+(szL (i::r):Int):=by rw[v];omega
    rw[e1,bY,ta] at o;rw[aE,hy];exact Ran.cons F hk ab hg M (by rw[A,v];omega) hc a6 bk bg a7 o
   cases i with
   |lab x=>
    have m:FL=pre++aE f pos base p r++k:=by
     rw[am,aE,bB];simp[szI]
    have v:szL (.lab x::r)=szL r:=by simp[szL,szI]
    obtain⟨s',o⟩:=ih r al pos base p pre k s q n g t c m hf.2 S.2 hu.2 X.2 af F ab hg (by rw[A,v]) M hc;refine⟨s',?_⟩;have e2:aE f pos base p (.lab x::r)=aE f pos base p r:=by rw[aE,bB];simp[szI]
    have e3:bj (.lab x::r)=bj r:=by simp[bj,fZ]
    have e4:stp pre.length (.lab x::r)=stp pre.length r:=by rw[stp]
    rw[e2,v];exact⟨o.run,by rw[e3];exact o.lens,o.grow,by rw[e4];exact o.st,by rw[e4];exact o.of,o.ch,by rw[e3];exact o.came,by rw[e3,e4];exact o.own⟩
   |ins op a b to=>
    have ay:cE op a b to:=hf.1;have ap:=hu.1;rw[il] at ap;exact H ⟨op,a,b,0,to⟩ (by rw[bB]) ay.2.2.1 ap rfl (by rw[stp]) (lR rfl)
   |jmp op x=>
    have ay:op=18\/op=19\/op=20:=hf.1;refine H ⟨op,0,0,0,pos x-(p+3)⟩ (by rw[bB]) (by show op≠24;omega) (iO nf FU c 0 0 (by show op≠6/\op≠16/\op≠17/\op≠10/\op≠13/\op≠8/\op≠11/\op≠9/\op≠12/\op≠23;omega)) rfl (by rw[stp]) (lR rfl)
   |blk a b d=>
    have au:ax r=true:=by
     rcases af with rfl|h
     ·simp[ax] at ad
     ·exact h
    have ak:a<=15/\b<=63/\dg d:=hf.1;have U:cB d/\cM d:=S.1;have ao:=hu.1;rw[il] at ao;have a1:=X.1;rw[un] at a1;obtain⟨ua,uc,ul⟩:=ao;obtain⟨_,c0,c1,cl⟩:=a1;have V:=hc.deep hg;obtain⟨x1,r1,a5⟩:=tY f (aj d) (base+p+6) 0 d U.1.last
    have bo:1<=szL d:=by
     have hb:=vv (aj d) (base+p+6) 0 d;have e:=gC f (aj d) (base+p+6) 0 d
     have e2:(fm (aj d) (base+p+6) 0 d).length=(aE f (aj d) (base+p+6) 0 d).length:=by
      rw[←nY f (aj d) (base+p+6) 0 d ak.2.2,se]
     rw[a5] at e2;simp only[gi] at e2;omega
    have B:szI (.blk a b d)=6+szL d:=rfl;have v:szL (.blk a b d::r)=6+szL d+szL r:=rfl
    have m:FL=(pre++[(base+p,⟨24,a,b,f d,szL d⟩)])++aE f (aj d) (base+p+6) 0 d++(aE f pos base (p+szI (.blk a b d)) r++k):=by
     rw[am,aE,bB];simp
    have hk:FL[pre.length]?=some (base+p,⟨24,a,b,f d,szL d⟩):=by
     rw[m,gz,gz,j1 (gE _),Fs];rfl
    obtain⟨x2,r2,a4⟩:=tY f pos base (p+szI (.blk a b d)) r au
    have aa:Z (base+p+6+szL d):=by
     have:=bi (base+(p+szI (.blk a b d)),x2) (by rw[m,a4];simp);have e:base+(p+(szI (.blk a b d):Int))=base+p+6+szL d:=by rw[B];omega
     rw[e] at this;exact this
    have ah:s.sk.length=s.st.length:=F.st.symm;obtain⟨m',c',a0⟩:=hc.ne;obtain⟨s1,u⟩:∃s1:VS,s1=⟨s.sk++[⟨(q:Int),g.deep+1,(b:Int),base+p+6+szL d⟩],s.st.set q (t++[pre.length])++[[]],s.gh++[(d,base+p+6,pre.length+1)],s.sk.length,s.of++[q],s.bd++[(s.sk.length:Int)]⟩:=⟨_,rfl⟩;have O:s1.sk[s.sk.length]?=some ⟨(q:Int),g.deep+1,(b:Int),base+p+6+szL d⟩:=by rw[u];simp
    have ba:q<s.sk.length:=lG hg
    obtain⟨I,o⟩:=ih d (by simp only[List.cons.sizeOf_spec,It.blk.sizeOf_spec] at hN;omega) (aj d) (base+p+6) 0 (pre++[(base+p,⟨24,a,b,f d,szL d⟩)]) (aE f pos base (p+szI (.blk a b d)) r++k) s1 s.sk.length 0 ⟨(q:Int),g.deep+1,(b:Int),base+p+6+szL d⟩ [] (b::c) m ak.2.2 U.2 ul cl (.inr U.1.last)
     (by rw[u];exact⟨by simp[F.st],by simp[F.gh],by simp[F.of],by simp[F.bd]⟩) (by rw[u];exact .refl _) O (by show base+p+6+_=_;omega) (by rw[u];simp[←ah])
     (by
       rw[a0];rw[a0] at hc V;refine .more O rfl ?_ rfl (by rw[u];exact hc.app _);show g.deep+1=_
       rw[V];rfl)
    have E:(pre++[(base+p,(⟨24,a,b,f d,szL d⟩:aL))]).length=pre.length+1:=by simp
    rw[E] at o
    have g1:mC q s s1:=by
     rw[u];refine⟨⟨_,rfl⟩,⟨_,rfl⟩,⟨_,rfl⟩,⟨_,rfl⟩,fun j J ai=>?_⟩;show(s.st.set q (t++[pre.length])++[[]])[j]?=_
     rw[md (by rw[As];omega),lT (fun e=>ai e.symm)]
    have bp:s1.sk.length=s.sk.length+1:=by rw[u];simp
    have a9:q≠s.sk.length:=by omega
    have g2:mC q s I:=by
     obtain⟨⟨m1,e1⟩,⟨m2,e2⟩,⟨m3,e3⟩,⟨m4,e4⟩,h5⟩:=g1;obtain⟨⟨n1,f1⟩,⟨n2,f2⟩,⟨n3,f3⟩,⟨n4,f4⟩,k5⟩:=o.grow;exact⟨⟨m1++n1,by rw[f1,e1,gz]⟩,⟨m2++n2,by rw[f2,e2,gz]⟩,⟨m3++n3,by rw[f3,e3,gz]⟩,⟨m4++n4,by rw[f4,e4,gz]⟩,fun j J ai=>(k5 j (by omega) (by omega)).trans (h5 j J ai)⟩
    have aq:I.st[q]?=some (t++[pre.length]):=by
     rw[o.grow.st q (by omega) a9,u];show(s.st.set q (t++[pre.length])++[[]])[q]?=_
     rw[md (by rw[As];omega)];simp[D5,av]
    obtain⟨n2,ae⟩:=o.ch;obtain⟨mk,be⟩:=o.grow.sk;obtain⟨bs,ac⟩:=g2.sk;have aw:I.sk[q]?=some g:=by rw[ac];exact bH hg _
    have hP:base+p+6+0+(szL d:Int)=base+(p+(szI (.blk a b d):Int)):=by rw[B];omega
    have az:Ch I.sk (base+(p+(szI (.blk a b d):Int))) I.r q (n2+1):=by
     rw[hP] at ae;refine ae.trans (.pop (g:=⟨(q:Int),g.deep+1,(b:Int),base+p+6+szL d⟩) (by rw[be];exact bH O _) ?_ rfl (.refl q));show base+p+6+(szL d:Int)=_
     rw[B];omega
    have P:(aE f (aj d) (base+p+6) 0 d).length=bj d:=gC _ _ _ _ _
    have a2:FL=(pre++[(base+p,⟨24,a,b,f d,szL d⟩)]++aE f (aj d) (base+p+6) 0 d)++aE f pos base (p+szI (.blk a b d)) r++k:=by
     rw[m];simp
    have Q:(pre++[(base+p,(⟨24,a,b,f d,szL d⟩:aL))]++aE f (aj d) (base+p+6) 0 d).length=pre.length+1+bj d:=by
     rw[bY,P,E]
    have bh:Chn I.sk q c:=by rw[ac];exact hc.app _
    obtain⟨s3,z⟩:=ih r al pos base (p+szI (.blk a b d)) _ k I q (n2+1) g (t++[pre.length]) c a2 hf.2 S.2 hu.2 X.2 (.inr au) (by rw[Q];exact o.lens) az aw (by rw[A,v,B];omega) aq bh;rw[Q] at z;have e1:base+(p+(szI (.blk a b d):Int))+(szL r:Int)=base+p+(szL (.blk a b d::r):Int):=by rw[v,B];omega
    rw[e1] at z;have W:pre.length+bj (.blk a b d::r)=pre.length+1+bj d+bj r:=by simp only[bj,fZ];omega
    have L:stp pre.length (.blk a b d::r)=pre.length::stp (pre.length+1+bj d) r:=by rw[stp]
    have ag:s.sk.length<I.sk.length:=by have:=o.grow.len;omega
    obtain⟨bq,bb⟩:=z.grow.of;obtain⟨br,bc⟩:=o.grow.of
    have K:io f FL I s.sk.length d (base+p+6) (pre.length+1):=by
     refine⟨?_,U.1,U.2,ak.2.2,⟨_,_,E,m⟩,by simpa using o.st,o.of⟩;obtain⟨mm,e⟩:=o.grow.gh;rw[e];refine bH ?_ _;rw[u];simp[←F.gh]
    have Y:EK f FL s.sk.length pre.length (pre.length+1+bj d) I:=by
     refine⟨fun j h1 G=>?_,fun i p' x h1 G z h4=>?_⟩
     ·by_cases J:j=s.sk.length
      ·subst J;exact⟨_,_,_,K⟩
      ·exact o.came.reg j (by omega) G
     ·by_cases hi:i=pre.length
      ·subst hi
       rw[hk] at z;cases z;refine⟨s.sk.length,d,base+p+6,pre.length+1,?_,K.gh,rfl⟩;obtain⟨mm,e⟩:=o.grow.bd;rw[e];refine bH ?_ _;rw[u];simp[←F.bd]
      ·exact o.came.blk i p' x (by omega) G z h4
    refine⟨s3,?_⟩
    have ar:jN Z nf FU pre.length s (aE f pos base p (.blk a b d::r)) s3:=by
     rw[aE,bB,kq];refine .cons (s1:=s1) ⟨q,n,g,t,c,ab,hg,M,by rw[A,v];omega,hc,iO nf FU c _ _ (by show(24:Int)≠6/\(24:Int)≠16/\(24:Int)≠17/\(24:Int)≠10/\(24:Int)≠13/\(24:Int)≠8/\(24:Int)≠11/\(24:Int)≠9/\(24:Int)≠12/\(24:Int)≠23;decide),.inr ⟨rfl,by show(0:Int)<=a;omega,by show(a:Int)<=15;omega,by show(a:Int)<=b;omega,by show(b:Int)<=63;omega,c0,c1,uc,by show 1<=(szL d:Int);omega,by show base+p+6+(szL d:Int)<=g.fin;rw[A,v];omega,aa,_,u⟩⟩ ?_;refine jN.app o.run ?_;rw[P];exact z.run
    refine⟨ar,by rw[W];exact z.lens,g2.trans z.grow,?_,fun j J=>?_,z.ch,?_,fun i h1 G=>?_⟩
    ·rw[z.st,L,gz];rfl
    ·rw[L] at J
     rcases aS.1 J with rfl|J
     ·rw[bb]
      refine bH ?_ _;rw[bc];refine bH ?_ _;rw[u];simp[←F.of]
     ·exact z.of j J
    ·rw[W]
     by_cases hqq:q<s.sk.length
     ·refine⟨fun j h1 G=>?_,fun i p' x h1 G a3 h4=>?_⟩
      ·by_cases J:j<I.sk.length
       ·obtain⟨C,w,D,a8⟩:=Y.reg j h1 J
        exact⟨C,w,D,a8.keep z.grow J (by omega)⟩
       ·exact z.came.reg j (by omega) G
      ·by_cases hi:i<pre.length+1+bj d
       ·obtain⟨j,C,w,D,bn,bm,bl⟩:=Y.blk i p' x h1 hi a3 h4
        obtain⟨m1,f1⟩:=z.grow.gh;obtain⟨m2,f2⟩:=z.grow.bd;exact⟨j,C,w,D,by rw[f2];exact bH bn _,by rw[f1];exact bH bm _,bl⟩
       ·exact z.came.blk i p' x (by omega) G a3 h4
     ·exact absurd ba hqq
    ·rw[W] at G
     rw[L];by_cases hik:i=pre.length
     ·exact .inl (by simp[hik])
     ·by_cases hib:i<pre.length+1+bj d
      ·right
       have R:∀j C b' D,s.sk.length<=j->j<I.sk.length->io f FL I j C b' D->i∈stp D C->∃(j:Nat) (C:List It) (w:Int) (D:Nat),s.sk.length<=j/\j<s3.sk.length/\io f FL s3 j C w D/\i∈stp D C:=fun j C b' D q1 q2 q3 q4=>⟨j,C,b',D,q1,bA q2 z.grow.len,q3.keep z.grow q2 (by omega),q4⟩;rcases o.own i (by omega) hib with q|⟨j,C,b',D,q1,q2,q3,q4⟩
       ·exact R s.sk.length d _ _ (gE _) ag K q
       ·exact R j C b' D (by omega) q2 q3 q4
      ·rcases z.own i (by omega) G with q|⟨j,C,b',D,q1,q2,q3,q4⟩
       ·exact .inl (by simp[q])
       ·exact .inr ⟨j,C,b',D,by omega,q2,q3,q4⟩
section
variable {l:List It} {k:Nat} {base:Int}
def j9 (c:List It->Int)(pos:Nat->Int)(p:Int):It->aL
 |.lab _=>⟨0,0,0,0,0⟩
 |.ins op a b to=>⟨op,a,b,0,to⟩
 |.jmp op g=>⟨op,0,0,0,pos g-(p+3)⟩
 |.blk a b body=>⟨24,a,b,c body,szL body⟩
theorem ku (a b:List It):bj (a++b)=bj a+bj b:=by
 induction a with
 |nil=>simp[bj]
 |cons i r ih=>simp only[kq,bj,ih];omega
theorem we {i:Nat}:i∈stp k l↔∃(q:Nat) (x:It),l[q]?=some x/\ay x=false/\i=k+bj (l.take q):=by
 have step:∀(x:It) (r:List It) (k i:Nat) (c:Nat),ay x=false->fZ x=c->(i∈stp (k+c) r↔∃(q:Nat) (y:It),r[q]?=some y/\ay y=false/\i=k+c+bj (r.take q))->((i=k\/i∈stp (k+c) r)↔∃(q:Nat) (y:It),(x::r)[q]?=some y/\ay y=false/\i=k+bj ((x::r).take q)):=by
  intro x r k i c m j ih;constructor
  ·rintro(rfl|h)
   ·exact⟨0,x,rfl,m,by simp[bj]⟩
   ·obtain⟨q,y,d,e,f⟩:=ih.1 h
    exact⟨q+1,y,by simpa using d,e,by simp only[ty,bj,j];omega⟩
  ·rintro⟨q,y,d,e,f⟩
   cases q with
   |zero=>left;simpa [bj] using f
   |succ q=>
    right;refine ih.2 ⟨q,y,by simpa using d,e,?_⟩;simp only[ty,bj,j] at f;omega
 induction l generalizing k with
 |nil=>simp[stp]
 |cons x r ih=>
  cases x with
  |lab g=>
   rw[stp];refine Iff.trans (ih (k:=k)) ?_;constructor
   ·rintro⟨q,y,d,e,f⟩
    exact⟨q+1,y,by simpa using d,e,by simp only[ty,bj,fZ];omega⟩
   ·rintro⟨q,y,d,e,f⟩
    cases q with
    |zero=>
     simp only[iN,dO] at d;subst d;simp[ay] at e
    |succ q=>
     refine⟨q,y,by simpa using d,e,?_⟩;simp only[ty,bj,fZ] at f;omega
  |ins op a b to=>rw[stp,aS];exact step (.ins op a b to) r k i 1 rfl rfl ih
  |jmp op g=>rw[stp,aS];exact step (.jmp op g) r k i 1 rfl rfl ih
  |blk a b body=>
   rw[stp,aS];have:=step (.blk a b body) r k i (1+bj body) rfl rfl (by rw[←Nat.add_assoc];exact ih);rw[←Nat.add_assoc] at this;exact this
theorem tW (c:List It->Int)(pos:Nat->Int)(base p:Int){x:It}(h:ay x=false):∃r,bB c pos base p x=(base+p,j9 c pos p x)::r:=by
 cases x with
 |lab l=>simp[ay] at h
 |ins op a b to=>exact⟨[],by simp[bB,j9]⟩
 |jmp op g=>exact⟨[],by simp[bB,j9]⟩
 |blk a b body=>exact⟨aE c (aj body) (base+p+6) 0 body,by simp only[bB,j9]⟩
theorem zQ {a:List It->Int}{FL pre b:List (Int×aL)}{pos:Nat->Int}(h:pre.length=k)(j:FL=pre++aE a pos base 0 l++b){q:Nat}{x:It}(d:l[q]?=some x)(f:ay x=false):FL[k+bj (l.take q)]?=some (base+plc l q,j9 a pos (plc l q) x):=by
 obtain⟨m,_⟩:=cN d;obtain⟨r,i⟩:=tW a pos base (0+szL (l.take q)) f
 have e:aE a pos base 0 l=aE a pos base 0 (l.take q)++((base+(0+(szL (l.take q):Int)),j9 a pos (0+szL (l.take q)) x)::r++aE a pos base (0+szL (l.take q)+szI x) (l.drop (q+1))):=by
  have c:aE a pos base 0 (l.take q++x::l.drop (q+1))=aE a pos base 0 (l.take q)++((base+(0+(szL (l.take q):Int)),j9 a pos (0+szL (l.take q)) x)::r++aE a pos base (0+szL (l.take q)+szI x) (l.drop (q+1))):=by
   rw[rX,aE,i]
  rw[←m] at c;exact c
 have g:(aE a pos base 0 (l.take q)).length=bj (l.take q):=gC _ _ _ _ _;rw[j,e,←h];unfold plc;simp only[Int.zero_add];rw[gz,j1 (by omega),Nat.add_sub_cancel_left,gz,j1 (by omega),g,Fs];rfl
theorem xd (h:ax l=true){q:Nat}(i:q<l.length):∃(c:Nat) (x:It),q<=c/\l[c]?=some x/\ay x=false/\bj (l.take c)=bj (l.take q)/\plc l c=plc l q:=by
 have e:∀(n q:Nat),l.length-q<=n->q<l.length->∃(c:Nat) (x:It),q<=c/\l[c]?=some x/\ay x=false/\bj (l.take c)=bj (l.take q)/\plc l c=plc l q:=by
  intro n
  induction n with
  |zero=>intro q o g;omega
  |succ n ih=>
   intro q o g;have d:l[q]?=some l[q]:=by simp[g]
   cases hl:ay l[q] with
   |false=>exact⟨q,l[q],gE _,d,hl,rfl,rfl⟩
   |true=>
    by_cases hlast:q+1=l.length
    ·obtain⟨v,a,b,u,j,_⟩:=iY h d hlast
     rw[j] at hl;simp[ay] at hl
    ·obtain⟨c,x,w,t,s,r,p⟩:=ih (q+1) (by omega) (by omega)
     have k:=fO d
     have f:szI l[q]=0/\fZ l[q]=0:=by
      cases hli:l[q]<;>simp[hli,ay] at hl
      exact⟨rfl,rfl⟩
     have m:bj (l.take (q+1))=bj (l.take q):=by
      rw[(cN d).2,ku];simp[bj,f.2]
     refine⟨c,x,by omega,t,s,r.trans m,p.trans ?_⟩;rw[f.1] at k;omega
 exact e _ q (gE _) i
theorem io.jump {K:List It->Int}{FL:List (Int×aL)}{s:VS}{j:Nat}(h:io K FL s j l base k){i:Nat}(N:i∈stp k l){p:Int}{x:aL}(v:FL[i]?=some (p,x))(H:18<=x.op)(G:x.op<=20):∃(t:Nat) (r:aL),FL[t]?=some (p+3+x.to,r)/\s.of[t]?=some j/\t∈stp k l:=by
 obtain⟨pre,C,E,F⟩:=h.at_;obtain⟨q,y,u,m,rfl⟩:=we.1 N;rw[zQ E F u m] at v;simp only[dO,A4] at v;obtain⟨rfl,rfl⟩:=v;have A:=kf h.fit u;cases y with
 |lab g=>simp[ay] at m
 |ins op a b to=>
  have O:cE op a b to:=A;obtain⟨_,_,_,S,R,Q,_⟩:=O;simp only[j9] at H G;omega
 |blk a b body=>simp only[j9] at H G;omega
 |jmp op g=>
  have M:g∈az l:=h.reg.goals g (CA.2 ⟨_,eQ u,by simp[fj]⟩);obtain⟨z,L,c⟩:=CA.1 M;obtain⟨D,o,rfl⟩:=Ft L
  have n:l[D]?=some (.lab g):=by
   cases hyy:l[D] with
   |lab x=>
    rw[hyy] at c;simp only[dZ,AS] at c;subst c;simp[o,hyy]
   |ins op a b z=>rw[hyy] at c;simp[dZ] at c
   |jmp op g=>rw[hyy] at c;simp[dZ] at c
   |blk a b body=>rw[hyy] at c;simp[dZ] at c
  obtain⟨f,r,_,J,I,U,P⟩:=xd h.reg.last o;have w:=rJ h.reg.nodup n;have B:=zQ E F J I;have d:k+bj (l.take f)∈stp k l:=we.2 ⟨f,r,J,I,rfl⟩;refine⟨k+bj (l.take f),j9 K (aj l) (plc l f) r,?_,h.of _ d,d⟩;rw[B];simp only[j9];have e:base+plc l f=base+plc l q+3+(aj l g-(plc l q+3)):=by rw[P,w];omega
  rw[e]
theorem io.last {E:List It->Int}{FL:List (Int×aL)}{s:VS}{j:Nat}(h:io E FL s j l base k):∃(i:Nat) (p:Int) (x:aL),(stp k l).getLast?=some i/\FL[i]?=some (p,x)/\cG x.op=true:=by
 obtain⟨pre,w,C,D⟩:=h.at_
 have t:∀(m:List It) (c:Nat),ax m=true->(stp c m).getLast?=some (c+bj (m.take (m.length-1))):=by
  intro m
  induction m with
  |nil=>intro c o;simp[ax] at o
  |cons y r ih=>
   intro c o;cases r with
   |nil=>
    cases y<;>simp[ax] at o
    simp[stp,bj]
   |cons z r=>
    have q:ax (z::r)=true:=by simpa [ax] using o
    have e:(y::z::r).take ((y::z::r).length-1)=y::(z::r).take ((z::r).length-1):=by simp
    rw[e,bj];cases y with
    |lab g=>
     rw[stp,ih c q];simp[fZ]
    |ins op a b B=>
     rw[stp,List.getLast?_cons,ih (c+1) q];simp only[fZ,At]
     congr 1;omega
    |jmp op g=>
     rw[stp,List.getLast?_cons,ih (c+1) q];simp only[fZ,At]
     congr 1;omega
    |blk a b body=>
     rw[stp,List.getLast?_cons,ih (c+1+bj body) q];simp only[fZ,At]
     congr 1;omega
 have u:l≠[]:=fun e=>by have:=h.reg.last;rw[e] at this;simp[ax] at this
 have n:0<l.length:=zb.2 u;have A:l[l.length-1]?=some l[l.length-1]:=by simp[n]
 obtain⟨op,a,b,B,f,d⟩:=iY h.reg.last A (by omega);have v:=zQ C D A (by rw[f];rfl);refine⟨_,_,_,t l k h.reg.last,v,?_⟩;rw[f];exact d
end
theorem y9 {l:List It}(h:cB l):0<=ai l:=by
 obtain⟨m,a⟩:=j8 h;rw[iV a];exact a.nneg
mutual
theorem Ew (e:Nat)(FU:List Lit3)(pos:Nat->Int)(p:Int)(c:List Nat):(i:It)->okI pos p i->Cu i->il e FU c i->un ai i
 |.lab _,_,_,_=>by rw[un];trivial;all_goals simp
 |.ins _ _ _ _,_,_,_=>by rw[un];trivial;all_goals simp
 |.jmp _ _,_,_,_=>by rw[un];trivial;all_goals simp
 |.blk a b body,h1,h2,h3=>by
  rw[okI] at h1;rw[il] at h3;have d:cB body/\cM body:=h2;rw[un];exact⟨h3.1,y9 d.1,h1.2.2,wI e FU (aj body) 0 (b::c) body h1.1 d.2 h3.2.2⟩
theorem wI (a:Nat)(FU:List Lit3)(pos:Nat->Int)(p:Int)(c:List Nat):(l:List It)->okL pos p l->cM l->df a FU c l->sn ai l
 |[],_,_,_=>by rw[sn];trivial
 |i::r,h1,h2,h3=>by
  rw[okL] at h1;rw[cM] at h2;rw[df] at h3;rw[sn];exact⟨Ew a FU pos p c i h1.1 h2.1 h3.1,wI a FU pos (p+szI i) c r h1.2 h2.2 h3.2⟩
end
def vs0 (FQ:Nat)(l:List It):VS:=⟨[⟨-1,0,(FQ:Int),(szL l:Int)⟩],[[]],[(l,0,0)],0,[],[]⟩
def atL (FL:List (Int×aL))(e p:Int):Prop:=(∃x,(p,x)∈FL)\/p=e
theorem uI {a:Nat}{FU:List Lit3}{FQ:Nat}{l:List It}(f:cB l)(d:cM l)(g:dg l)(c:df a FU [FQ] l)(b:okL (aj l) 0 l):
 ∃s',Ran ai (aE ai (aj l) 0 0 l) (atL (aE ai (aj l) 0 0 l) (szL l)) a FU (vs0 FQ l) 0 0 [] (szL l) (aE ai (aj l) 0 0 l) l s':=by
 have h:=EM ai (aE ai (aj l) 0 0 l) (atL (aE ai (aj l) 0 0 l) (szL l)) a FU (fun y e=>.inl ⟨y.2,e⟩) _ l (sx _) (aj l) 0 0 [] [] (vs0 FQ l) 0 0 ⟨-1,0,(FQ:Int),(szL l:Int)⟩ [] [FQ]
  (by simp) g d c (wI a FU (aj l) 0 [FQ] l b d c) (.inr f.last) ⟨rfl,rfl,rfl,rfl⟩ (.refl 0) rfl (by simp) rfl (.one rfl rfl rfl)
 simpa using h
theorem uJ {g:Nat}{FU:List Lit3}{FQ:Nat}{l:List It}(k:cB l)(o:cM l)(p:dg l){f:Int->Prop}{s':VS}(h:Ran ai (aE ai (aj l) 0 0 l) f g FU (vs0 FQ l) 0 0 [] (szL l) (aE ai (aj l) 0 0 l) l s'):
 (∀j,j<s'.sk.length->∃b a c,io ai (aE ai (aj l) 0 0 l) s' j b a c)/\io ai (aE ai (aj l) 0 0 l) s' 0 l 0 0/\(∀i,i<bj l->∃(j:Nat) (b:List It) (a:Int) (c:Nat),io ai (aE ai (aj l) 0 0 l) s' j b a c/\i∈stp c b):=by
 have d:io ai (aE ai (aj l) 0 0 l) s' 0 l 0 0:=by
  obtain⟨m,e⟩:=h.grow.gh;refine⟨by rw[e];rfl,k,o,p,⟨[],[],rfl,by simp⟩,by simpa using h.st,h.of⟩
 refine⟨fun j n=>?_,d,fun i u=>?_⟩
 ·by_cases h0:j=0
  ·subst h0;exact⟨_,_,_,d⟩
  ·exact h.came.reg j (by show 1<=j;omega) n
 ·rcases h.own i (oS _) (by omega) with s|⟨j,b,t,c,_,_,r,q⟩
  ·exact⟨0,l,0,0,d,s⟩
  ·exact⟨j,b,t,c,r,q⟩
section
variable {l:List It} {q:Nat} {x:It}
def rk:List It->Nat->Nat
 |_,0=>0
 |[],_=>0
 |x::r,q+1=>(if ay x=true then 0 else 1)+rk r q
theorem uF (d:l[q]?=some x)(f:ay x=false)(k:Nat):(stp k l)[rk l q]?=some (k+bj (l.take q)):=by
 induction l generalizing q k with
 |nil=>simp at d
 |cons y r ih=>
  cases q with
  |zero=>
   simp only[iN,dO] at d;subst d;cases y<;>simp[ay] at f<;>simp[rk,stp,bj]
  |succ q=>
   have c:r[q]?=some x:=by simpa using d
   cases y with
   |lab g=>
    have e:rk (.lab g::r) (q+1)=rk r q:=by simp[rk,ay]
    rw[e,stp,ih c];simp only[ty,bj,fZ]
    congr 1;omega
   |ins op a b to=>
    rw[show rk (.ins op a b to::r) (q+1)=rk r q+1 by simp[rk,ay,Nat.add_comm],stp,og,ih c];simp only[ty,bj,fZ]
    congr 1;omega
   |jmp op g=>
    rw[show rk (.jmp op g::r) (q+1)=rk r q+1 by simp[rk,ay,Nat.add_comm],stp,og,ih c];simp only[ty,bj,fZ]
    congr 1;omega
   |blk a b body=>
    rw[show rk (.blk a b body::r) (q+1)=rk r q+1 by simp[rk,ay,Nat.add_comm],stp,og,ih c];simp only[ty,bj,fZ]
    congr 1;omega
theorem eN (a:l[q]?=some x):rk l (q+1)=rk l q+(if ay x=true then 0 else 1):=by
 induction l generalizing q with
 |nil=>simp at a
 |cons y r ih=>
  cases q with
  |zero=>
   simp only[iN,dO] at a;subst a;cases r<;>simp[rk]
  |succ q=>
   rw[rk,rk,ih (by simpa using a),Nat.add_assoc]
theorem oQ (h:ax l=true)(j:q<l.length):∃(c:Nat) (x:It),q<=c/\l[c]?=some x/\ay x=false/\bj (l.take c)=bj (l.take q)/\plc l c=plc l q/\rk l c=rk l q:=by
 have e:∀(n q:Nat),l.length-q<=n->q<l.length->∃(c:Nat) (x:It),q<=c/\l[c]?=some x/\ay x=false/\bj (l.take c)=bj (l.take q)/\plc l c=plc l q/\rk l c=rk l q:=by
  intro n
  induction n with
  |zero=>intro q p i;omega
  |succ n ih=>
   intro q p i;have d:l[q]?=some l[q]:=by simp[i]
   cases hl:ay l[q] with
   |false=>exact⟨q,l[q],gE _,d,hl,rfl,rfl,rfl⟩
   |true=>
    by_cases hlast:q+1=l.length
    ·obtain⟨y,a,b,w,k,_⟩:=iY h d hlast
     rw[k] at hl;simp[ay] at hl
    ·obtain⟨c,x,z,v,u,t,s,r⟩:=ih (q+1) (by omega) (by omega)
     have m:=fO d;have g:=eN d;rw[if_pos hl] at g
     have f:szI l[q]=0/\fZ l[q]=0:=by
      cases hli:l[q]<;>simp[hli,ay] at hl
      exact⟨rfl,rfl⟩
     have o:bj (l.take (q+1))=bj (l.take q):=by
      rw[(cN d).2,ku];simp[bj,f.2]
     refine⟨c,x,by omega,v,u,t.trans o,s.trans ?_,r.trans g⟩;rw[f.1] at m;omega
 exact e _ q (gE _) j
theorem yB (h:ax l=true)(d:l[q]?=some x)(r:ay x=false)(g:cG (opI x)=false)(k:Nat):∃(c:Nat) (e:It),(stp k l)[rk l q+1]?=some (k+bj (l.take c))/\l[c]?=some e/\ay e=false/\plc l c=plc l q+szI x/\bj (l.take c)=bj (l.take q)+fZ x:=by
 have f:q+1<l.length:=by
  rcases Nat.lt_or_ge (q+1) l.length with n|n
  ·exact n
  ·have A:=(aC.1 d).1
   obtain⟨z,a,b,y,rfl,m⟩:=iY h d (by omega);simp only[opI] at g;rw[g] at m;cases m
 obtain⟨c,e,_,p,o,w,v,u⟩:=oQ h f;have s:=fO d;have j:=eN d;rw[r] at j
 have t:bj (l.take (q+1))=bj (l.take q)+fZ x:=by
  rw[(cN d).2,ku];simp[bj]
 have i:=uF p o k;rw[u,j] at i;exact⟨c,e,by simpa using i,p,o,v.trans s,w.trans t⟩
end
section
variable {l:List It} {i:Nat}
def mi (l:List It):List It:=l.filter fun x=>!ay x
theorem rP {q:Nat}{x:It}(a:l[q]?=some x)(c:ay x=false):(mi l)[rk l q]?=some x:=by
 induction l generalizing q with
 |nil=>simp at a
 |cons y r ih=>
  cases q with
  |zero=>
   simp only[iN,dO] at a;subst a;simp[mi,c,rk]
  |succ q=>
   have b:r[q]?=some x:=by simpa using a
   have h:=ih b;cases hy:ay y with
   |true=>
    have e:rk (y::r) (q+1)=rk r q:=by simp[rk,hy]
    rw[e];simpa [mi,hy] using h
   |false=>
    have e:rk (y::r) (q+1)=rk r q+1:=by simp[rk,hy,Nat.add_comm]
    rw[e];simpa [mi,hy] using h
theorem wj (h:i<l.length):rk l i<=rk l (i+1):=by
 have a:l[i]?=some l[i]:=by simp[h]
 rw[eN a];omega
theorem yO {j:Nat}(a:i<=j)(h:j<=l.length):rk l i<=rk l j:=by
 induction j with
 |zero=>have:i=0:=by omega
        subst this;exact gE _
 |succ j ih=>
  rcases Nat.lt_or_ge i (j+1) with b|b
  ·exact aN (ih (by omega) (by omega)) (wj (by omega))
  ·have:i=j+1:=by omega
   subst this;exact gE _
theorem yP {A:Nat->Int}(f:Ann l A){j:Nat}(e:i<=j)(h:j<l.length)(n:rk l i=rk l j):A i=A j:=by
 induction j with
 |zero=>have:i=0:=by omega
        subst this;rfl
 |succ j ih=>
  rcases Nat.lt_or_ge i (j+1) with m|m
  ·have p:rk l i<=rk l j:=yO (by omega) (by omega)
   have o:rk l j<=rk l (j+1):=wj (by omega);have b:l[j]?=some l[j]:=by simp[show j<l.length by omega]
   have k:=ih (by omega) (by omega) (by omega);have d:=eN b;cases hl:ay l[j] with
   |false=>rw[hl] at d;simp at d;omega
   |true=>
    have c:=f.next j _ b (by cases a:l[j]<;>simp[a,ay] at hl;rfl)
    have g:bL l[j] (A j)=A j:=by
     cases a:l[j]<;>simp[a,ay] at hl
     simp[bL,bJ,bZ]
    rw[g] at c;exact k.trans c.symm
  ·have:i=j+1:=by omega
   subst this;rfl
def iE (l:List It):Gr where
 R r d:=∃i,bQ l i d/\rk l i=r
 E r d r' d':=∃i x,bQ l i d/\l[i]?=some x/\ay x=false/\rk l i=r/\((cG (opI x)=false/\r'=rk l (i+1)/\d'=bL x d)\/(∃a g j,x=.jmp a g/\l[j]?=some (.lab g)/\r'=rk l j/\d'=bL x d))
 real _:=True
 aft r d:=match(mi l)[r]? with
  |some x=>bL x d
  |none=>d
 over _:=False
 k0:=0
theorem ip (h:cB l):(iE l).OK:=by
 obtain⟨A,c⟩:=h.ann;refine⟨⟨0,.start,by cases l<;>rfl⟩,?_,?_,?_,?_⟩
 ·rintro r d z y _ ⟨i,x,f,b,k,rfl,⟨a,rfl,rfl⟩|⟨p,g,j,rfl,m,rfl,rfl⟩⟩
  ·exact⟨i+1,.next f b a,rfl⟩
  ·exact⟨j,.goal f b m,rfl⟩
 ·rintro r d y ⟨i,a,rfl⟩ ⟨j,m,t⟩
  rw[(a.ann c).1,(m.ann c).1];have v:=a.lt h.last;have u:=m.lt h.last;rcases Nat.le_total i j with o|o
  ·exact yP c o u t.symm
  ·exact(yP c o v t).symm
 ·rintro r d ⟨i,a,rfl⟩
  exact(a.ann c).2
 ·intro P w q r d f
  obtain⟨i,n,rfl⟩:=f
  induction n with
  |start=>have:rk l 0=0:=by cases l<;>rfl
          rw[this];exact w
  |@next i d x hh b he ih=>
   cases k:ay x with
   |true=>
    have s:=eN b;rw[k] at s;have e:rk l (i+1)=rk l i:=by simpa using s
    rw[e];have:bL x d=d:=by cases x<;>simp[ay] at k;simp[bL,bJ,bZ]
    rw[this];exact ih
   |false=>exact q _ d _ _ ⟨i,hh,rfl⟩ ih ⟨i,x,hh,b,k,rfl,.inl ⟨he,rfl,rfl⟩⟩
  |@goal i j d p g hh n hj ih=>exact q _ d _ _ ⟨i,hh,rfl⟩ ih ⟨i,_,hh,n,rfl,rfl,.inr ⟨p,g,j,rfl,hj,rfl,rfl⟩⟩
theorem yN (h:cB l){r:Nat}{d:Int}(t:(iE l).R r d):∃q x,bQ l q d/\l[q]?=some x/\ay x=false/\rk l q=r/\(mi l)[r]?=some x:=by
 obtain⟨A,a,rfl⟩:=t;obtain⟨j,x,z,y,w,_⟩:=Ay h.last (base:=0) (pre:=[]) _ (gE _) a
 have g:∀(n:Nat) {i:Nat} {d:Int},l.length-i<=n->bQ l i d->∃q x,bQ l q d/\l[q]?=some x/\ay x=false/\rk l q=rk l i:=by
  intro n
  induction n with
  |zero=>intro i d u b;have:=b.lt h.last;omega
  |succ n ih=>
   intro i d u b;have m:=b.lt h.last;have k:l[i]?=some l[i]:=by simp[m]
   cases hlab:ay l[i] with
   |false=>exact⟨i,_,b,k,hlab,rfl⟩
   |true=>
    have s:bL l[i] d=d/\cG (opI l[i])=false:=by
     cases hli:l[i]<;>simp[hli,ay] at hlab
     exact⟨by simp[bL,bJ,bZ],rfl⟩
    have v:bQ l (i+1) d:=by
     have:=bQ.next b k s.2
     rwa [s.1] at this
    obtain⟨q,x,o,f,e,c⟩:=ih (by omega) v;have p:=eN k;rw[hlab] at p;exact⟨q,x,o,f,e,c.trans (by simpa using p)⟩
 obtain⟨q,x,o,f,e,c⟩:=g _ (gE _) a;exact⟨q,x,o,f,e,c,by rw[←c];exact rP f e⟩
theorem Dfs.put {G:Gr}(o:G.OK){n:Nat}{D:List Int}{W:Nat->Prop}{M:Int}{F:Prop}{g:Nat->Prop}(h:Dfs G n D W M F g){r:Nat}{e:Int}(c:G.R r e)(m:0<=e)(i:r<n)(a:G.real r):
 (D[r]?=some (-1)/\Dfs G n (D.set r e) (fun k=>W k\/k=r) (max M e) F g/\cD (D.set r e) r)\/(D[r]?=some e/\Dfs G n D W (max M e) F g/\cD D r):=by
 have l:r<D.length:=by rw[h.len];exact i
 have b:D[r]?=some D[r]:=by simp[l]
 have j:=h.most c a (M':=max M e) (by omega) (by omega);rcases h.sound r _ b with f|⟨f,q⟩
 ·left
  obtain⟨d,p⟩:=j.hand (W':=fun k=>W k\/k=r) c m i (.inr trivial) (fun k=>Iff.rfl);exact⟨by rw[b,f],d,p⟩
 ·right
  have d:=o.one r _ _ q c;exact⟨by rw[b,d],j,D[r],b,f⟩
theorem Dfs.rkMost (h:cB l){n:Nat}{D:List Int}{W:Nat->Prop}{M:Int}{F:Prop}(a:Dfs (iE l) n D W M F (fun _=>False))(p:∀k,¬W k):ai l=M:=by
 have s:¬F:=fun o=>by obtain⟨_,_,_,_,j⟩:=a.fault o;exact j
 have k:=a.over (ip h) p s;refine iV ⟨fun i d x g f m=>?_,?_,a.nneg⟩
 ·have:=k (rk l i) d ⟨i,g,rfl⟩ trivial
  have e:(iE l).aft (rk l i) d=bL x d:=by simp[iE,rP f m]
  rw[e] at this;exact this.2
 ·rcases a.hit with b|⟨r,d,b,_,c⟩
  ·exact .inl b
  ·obtain⟨q,x,w,v,u,y,t⟩:=yN h b
   have e:(iE l).aft r d=bL x d:=by simp[iE,t]
   rw[e] at c;exact .inr ⟨q,d,x,w,v,u,c⟩
end
section
variable {n r k q:Nat} {D:List Int} {M:Int} {Wb:List Bool} {l:List It} {x:It}
theorem Dfs.congr {G:Gr}{W W':Nat->Prop}{F:Prop}{a:Nat->Prop}(h:Dfs G n D W M F a)(b:∀k,W k↔W' k):Dfs G n D W' M F a:=by
 have:W=W':=funext fun k=>propext (b k);rw[←this];exact h
def wts (Wb:List Bool)(k:Nat):Prop:=Wb[k]?=some true
theorem vV (a:r<Wb.length)(k:Nat):wts (Wb.set r true) k↔(wts Wb k\/k=r):=by
 unfold wts;by_cases e:r=k
 ·subst e;simp[a]
 ·rw[lT e]
  constructor
  ·exact .inl
  ·rintro(h|h)
   ·exact h
   ·exact absurd h.symm e
theorem z8 (k:Nat):wts (Wb.set r false) k->wts Wb k/\k≠r:=by
 unfold wts;intro h;by_cases e:r=k
 ·subst e
  rw[D5] at h;simp at h
 ·rw[lT e] at h
  exact⟨h,fun a=>e a.symm⟩
def jX:List Bool->Nat
 |[]=>0
 |b::r=>(if b=true then 1 else 0)+jX r
theorem wP :jX (Wb.set k true)<=jX Wb+1:=by
 induction Wb generalizing k with
 |nil=>simp[jX]
 |cons b r ih=>
  cases k with
  |zero=>simp only[ou,jX];split<;>omega
  |succ k=>have:=ih (k:=k);simp only[oF,jX];omega
theorem wQ (h:Wb[k]?=some true):jX (Wb.set k false)+1=jX Wb:=by
 induction Wb generalizing k with
 |nil=>simp at h
 |cons b r ih=>
  cases k with
  |zero=>
   simp only[iN,dO] at h;subst h;simp only[ou,jX];simp;omega
  |succ k=>
   have:=ih (k:=k) (by simpa using h);simp only[oF,jX];omega
def oT (D:List Int)(r:Nat)(e:Int):List Int:=if D.getD r 0<0 then D.set r e else D
def xe (D:List Int)(Wb:List Bool)(r:Nat):List Bool:=if D.getD r 0<0 then Wb.set r true else Wb
structure Vx (l:List It)(n:Nat)(D:List Int)(Wb:List Bool)(M:Int)(ex:Nat->Prop):Prop where
 dfs:Dfs (iE l) n D (wts Wb) M False ex
 wl:Wb.length=n
 le:∀(k:Nat) (d:Int),D[k]?=some d->d<=M
def mud (D:List Int)(Wb:List Bool):Nat:=2*eC D+jX Wb
theorem Vx.put (j:cB l){s:Nat->Prop}(h:Vx l n D Wb M s){e:Int}(t:(iE l).R r e)(m:0<=e)(i:r<n):
 (∃d0,D[r]?=some d0/\((d0<0/\oT D r e=D.set r e/\xe D Wb r=Wb.set r true)\/(d0=e/\¬d0<0/\oT D r e=D/\xe D Wb r=Wb)))/\Vx l n (oT D r e) (xe D Wb r) (max M e) s/\cD (oT D r e) r/\mud (oT D r e) (xe D Wb r)<=mud D Wb/\∀k,cD D k->cD (oT D r e) k:=by
 have q:D[r]?=some (D.getD r 0):=by
  have j:r<D.length:=by rw[h.dfs.len];exact i
  rw[u7,iD j];rfl
 rcases h.dfs.put (ip j) t m i trivial with⟨f,p,o⟩|⟨f,p,o⟩
 ·have u:D.getD r 0= -1:=by rw[q] at f;exact ol f
  have a:D.getD r 0<0:=by omega
  have b:oT D r e=D.set r e:=if_pos a;have g:xe D Wb r=Wb.set r true:=if_pos a;refine⟨⟨-1,f,.inl ⟨by omega,b,g⟩⟩,?_,by rw[b];exact o,?_,fun k c=>by rw[b];exact j3 m k c⟩
  ·rw[b,g]
   refine⟨p.congr (fun k=>(vV (by rw[h.wl];exact i) k).symm),by rw[As];exact h.wl,fun k d c=>?_⟩;by_cases hkr:r=k
   ·subst hkr
    rw[pn (by rw[h.dfs.len];exact i)] at c;cases c;omega
   ·rw[lT hkr] at c
    have:=h.le k d c;omega
  ·rw[b,g]
   unfold mud;have w:=oZ m a;have v:=wP (Wb:=Wb) (k:=r);omega
 ·have u:D.getD r 0=e:=by rw[q] at f;exact ol f
  have a:¬D.getD r 0<0:=by omega
  have b:oT D r e=D:=if_neg a;have g:xe D Wb r=Wb:=if_neg a;refine⟨⟨e,f,.inr ⟨rfl,by omega,b,g⟩⟩,?_,by rw[b];exact o,by rw[b,g];exact gE _,fun k c=>by rw[b];exact c⟩;rw[b,g];exact⟨p,h.wl,fun k d c=>by have:=h.le k d c;omega⟩
theorem Vx.none (a:cB l)(h:Vx l n D Wb M (fun _=>False))(b:∀k,¬wts Wb k):ai l=M:=h.dfs.rkMost a b
theorem Dd {i:Nat}{y:It}(e:l[q]?=some x)(c:ay x=false)(d:l[i]?=some y)(b:ay y=false)(h:rk l q=rk l i):q=i:=by
 have g:=eN e;have f:=eN d;rw[c] at g;rw[b] at f;simp at g f;have m:=(aC.1 e).1;have k:=(aC.1 d).1;rcases Nat.lt_trichotomy q i with a|a|a
 ·have:=yO (l:=l) (i:=q+1) (j:=i) a (by omega);omega
 ·exact a
 ·have:=yO (l:=l) (i:=i+1) (j:=q) a (by omega);omega
theorem Vx.top (b:cB l){w:Nat->Prop}(h:Vx l n D Wb M w)(t:wts Wb k):∃d q x,D[k]?=some d/\0<=d/\d<=ai l/\bL x d<=ai l/\bQ l q d/\l[q]?=some x/\ay x=false/\rk l q=k/\0<=bJ x/\bJ x<=d/\(iE l).R k d:=by
 obtain⟨d,o,c⟩:=h.dfs.wait k t;rcases h.dfs.sound k d o with e|⟨_,e⟩
 ·omega
 obtain⟨q,x,i,g,f,v,_⟩:=yN b e;obtain⟨A,p⟩:=b.ann;obtain⟨m,j⟩:=j8 b;have a:=iV j;have s:=j.ge q d x i g f;have r:=p.take q x g;have u:=(i.ann p).1;exact⟨d,q,x,o,c,by rw[a];exact s.1,by rw[a];exact s.2,i,g,f,v,r.1,by rw[u];exact r.2 f,e⟩
theorem Vx.pop (h:Vx l n D Wb M (fun _=>False))(c:wts Wb k){d e:Int}(b:(iE l).R k d)(g:e=(iE l).aft k d):Vx l n D (Wb.set k false) (max M e) (fun i=>i=k)/\mud D (Wb.set k false)+1=mud D Wb:=by
 have j:Dfs (iE l) n D (wts (Wb.set k false)) M False (fun i=>i=k):=h.dfs.pop (i:=k) (W':=wts (Wb.set k false)) (fun i a=>by
  by_cases e:i=k
  ·exact .inl e
  ·right
   unfold wts at a ⊢
   rw[lT (fun m=>e m.symm)];exact a) (fun i a=>(z8 i a).1)
 refine⟨⟨j.most b trivial (by omega) (by subst g;rcases Int.le_total M ((iE l).aft k d) with f|f;exact .inr (.inr (by omega));exact .inl (by omega)),by rw[As];exact h.wl,fun i d a=>by have:=h.le i d a;omega⟩,?_⟩;unfold mud;have:=wQ c;omega
theorem zS (b:l[q]?=some x)(a:ay x=false)(d:Int):(iE l).aft (rk l q) d=bL x d:=by simp[iE,rP b a]
theorem Vx.close (r:cB l){d:Int}(h:Vx l n D Wb M (fun i=>i=k))(p:bQ l q d)(b:l[q]?=some x)(a:ay x=false)(c:rk l q=k)(t:D[k]?=some d)
 (A:cG (opI x)=false->cD D (k+1)) (z:∀op g j,x=.jmp op g->l[j]?=some (.lab g)->cD D (rk l j)) (u:bL x d<=M):Vx l n D Wb M (fun _=>False):=by
 refine⟨h.dfs.close (ip r) (i:=k) (d:=d) ⟨q,p,c⟩ (.inr ⟨fun _=>⟨fun s=>s,h.le k d t,by rw[←c,zS b a];exact u⟩,?_⟩),h.wl,h.le⟩;rintro F H ⟨i,y,G,f,C,B,w⟩;have e:=Dd b a f C (c.trans B.symm);subst e;rw[b] at f;cases f;rcases w with⟨m,rfl,_⟩|⟨op,g,j,m,E,rfl,_⟩
 ·have o:=eN b
  rw[a] at o;have v:rk l (q+1)=k+1:=by rw[o,c];simp
  rw[v];exact A m
 ·exact z op g j m E
theorem Vx.begin (g:cB l)(n:Nat)(c:0<n):Vx l n ((List.replicate n (-1)).set 0 0) ((List.replicate n false).set 0 true) 0 (fun _=>False):=by
 refine⟨?_,by simp,?_⟩
 ·refine Dfs.begin (ip g) (by simp) (by show((List.replicate n (-1:Int)).set 0 0)[0]?=some 0;rw[pn (by simpa using c)]) (fun k d a f=>?_) (fun k=>?_)
  ·have b:¬0=k:=fun e=>f e.symm
   rw[lT b,vt] at a
   split at a
   ·exact(ol a).symm
   ·cases a
  ·rw[vV (by simpa using c)]
   constructor
   ·rintro(h|h)
    ·unfold wts at h
     rw[vt] at h
     split at h<;>simp at h
    ·exact h
   ·exact .inr
 ·intro k d a
  by_cases e:0=k
  ·subst e
   rw[pn (by simpa using c)] at a;cases a;exact p8 0
  ·rw[lT e,vt] at a
   split at a
   ·cases a;decide
   ·cases a
structure vT (FL:List (Int×aL))(st:List Nat)(l:List It)(k q:Nat)(x:It)(i:Nat)(p:Int)(y:aL):Prop where
 num:st[k]?=some i
 at_:FL[i]?=some (p,y)
 op:y.op=opI x
 take:aU y.op y.a y.b=bJ x
 leave:bI y.op=bZ x
 next:cG (opI x)=false->∃i2,st[k+1]?=some i2
 jump:∀op g,x=.jmp op g->∃(jl i':Nat) (x':aL),l[jl]?=some (.lab g)/\FL[i']?=some (p+3+y.to,x')/\st[rk l jl]?=some i'/\(y.op=18\/y.op=19\/y.op=20)
 nojump:(∀op g,x≠.jmp op g)->¬y.op=18/\¬y.op=19/\¬y.op=20
theorem io.stepAt {FL:List (Int×aL)}{s:VS}{j:Nat}{base:Int}{i:Nat}(h:io ai FL s j l base i)(k:l[q]?=some x)(c:ay x=false):vT FL (stp i l) l (rk l q) q x (i+bj (l.take q)) (base+plc l q) (j9 ai (aj l) (plc l q) x):=by
 obtain⟨pre,B,C,D⟩:=h.at_;have o:=kf h.fit k;refine⟨uF k c i,zQ C D k c,?_,?_,?_,fun w=>?_,?_,?_⟩
 ·cases x<;>simp[ay] at c<;>rfl
 ·cases x with
  |lab g=>simp[ay] at c
  |ins f a b to=>rfl
  |jmp f g=>rfl
  |blk a b body=>simp[j9,bJ,aU]
 ·cases x with
  |lab g=>simp[ay] at c
  |ins f a b to=>rfl
  |jmp f g=>rfl
  |blk a b body=>simp[j9,bZ,bI]
 ·obtain⟨p,A,N,_⟩:=yB h.reg.last k c w i
  exact⟨_,N⟩
 ·rintro f g rfl
  have H:g∈az l:=h.reg.goals g (CA.2 ⟨_,eQ k,by simp[fj]⟩);obtain⟨z,G,d⟩:=CA.1 H;obtain⟨r,n,rfl⟩:=Ft G
  have m:l[r]?=some (.lab g):=by
   cases hyy:l[r] with
   |lab x=>
    rw[hyy] at d;simp only[dZ,AS] at d;subst d;simp[n,hyy]
   |ins f a b z=>rw[hyy] at d;simp[dZ] at d
   |jmp f g=>rw[hyy] at d;simp[dZ] at d
   |blk a b body=>rw[hyy] at d;simp[dZ] at d
  obtain⟨p,A,_,F,E,O,M,L⟩:=oQ h.reg.last n;have t:=rJ h.reg.nodup m;have y:=zQ C D F E;refine⟨r,i+bj (l.take p),j9 ai (aj l) (plc l p) A,m,?_,by rw[←L];exact uF F E i,?_⟩
  ·rw[y]
   simp only[j9];have e:base+plc l p=base+plc l q+3+(aj l g-(plc l q+3)):=by rw[M,t];omega
   rw[e]
  ·have v:f=18\/f=19\/f=20:=o
   exact v
 ·intro u
  cases x with
  |lab g=>simp[ay] at c
  |ins f a b to=>
   have v:cE f a b to:=o;obtain⟨_,_,_,K,J,I,_⟩:=v;exact⟨K,J,I⟩
  |blk a b body=>simp[j9]
  |jmp f g=>exact absurd rfl (u f g)
end
def mH:T:=.mk 8 [115,101,108,102] [] [] [] 0 6
def gJ:T:=.mk 9 [51] [] [] [] 0 16
def nD:T:=.mk 5 [98,97,114,58] [] [] [mH,gJ] 0 11
def uE:T:=.mk 3 [] [] [] [nD] 0 4
def eB:T:=.mk 1 [102,111,111] [] [] [uE] 0 0
def kV:List It:=[.ins 1 0 0 0,.ins 7 0 0 3,.ins 16 0 1 0,.ins 21 0 0 0]
theorem uY:eB.method=true:=by
 have d:bo [98,97,114,58]=1:=by simp[bo,aI,cJ,vl,bS];try decide
 have c:bo [102,111,111]=0:=by decide
 have b:aI [115,101,108,102]=true:=by decide
 have a:dz [51]=true:=by decide
 simp[T.method,eB,uE,nD,mH,gJ,T.kind,T.name,T.FP,T.FQ,T.FN,T.FY,bM,dN,T.stmts,T.stmt,T.exprs,T.expr,d,c,b,a]
theorem yq:bi [] [] eB=(⟨[.mk 3 [98,97,114,58] []],0,none,false⟩,kV):=by
 have a:ah [] [] mH [([],0)] s0=(s0,[.ins 1 0 0 0]):=by
  unfold mH;rw[Ak _ _ _ _ _ _ _ _ _ _ rfl];rfl
 have e:ah [] [] gJ [([],0)] s0=(s0,[.ins 7 0 0 3]):=by
  unfold gJ;rw[Aj _ _ _ _ _ _ _ _ _ _ rfl (by decide)];rfl
 have c:bg [] [] mH [([],0)] s0=(s0,[.ins 1 0 0 0]):=by
  rw[←a];unfold mH;rw[bg.eq_def];dsimp only;rw[if_neg (by decide)]
 have b:ah [] [] nD [([],0)] s0=(⟨[.mk 3 [98,97,114,58] []],0,none,false⟩,[.ins 1 0 0 0,.ins 7 0 0 3,.ins 16 0 1 0]):=by
  unfold nD;rw[wN _ _ _ _ _ _ _ _ _ _ _ rfl];show fe [] [] _ _ _ _ _=_
  rw[fe.eq_def];dsimp only;rw[c,eE.eq_def];dsimp only;rw[aW.eq_def];dsimp only;rw[e,aW.eq_def];rfl
 have d:aA [] [] 0 [] s0=s0:=rfl;unfold bi;simp only[eB,T.FN,T.FP,T.FQ,T.FR,ki,lE,hG,d];rw[bP,bP];dsimp only;unfold uE;rw[bp.eq_def];dsimp only;rw[if_pos rfl,b];rfl
theorem o9:ai kV=2:=by
 have c:∀i d,bQ kV i d->(i=0/\d=0)\/(i=1/\d=1)\/(i=2/\d=2)\/(i=3/\d=1)\/4<=i:=by
  intro i d h
  induction h with
  |start=>omega
  |next e a f ih=>
   rcases ih with⟨rfl,rfl⟩|⟨rfl,rfl⟩|⟨rfl,rfl⟩|⟨rfl,rfl⟩|b
   ·simp[kV] at a;subst a;right;left;exact⟨rfl,rfl⟩
   ·simp[kV] at a;subst a;right;right;left;exact⟨rfl,rfl⟩
   ·simp[kV] at a;subst a;right;right;right;left;exact⟨rfl,rfl⟩
   ·omega
   ·omega
  |goal e a f ih=>
   exfalso;have b:=(eQ a);simp[kV] at b
 refine iV ⟨?_,?_,by omega⟩
 ·intro i d x e a f
  rcases c i d e with⟨rfl,rfl⟩|⟨rfl,rfl⟩|⟨rfl,rfl⟩|⟨rfl,rfl⟩|b
  ·simp[kV] at a;subst a;decide
  ·simp[kV] at a;subst a;decide
  ·simp[kV] at a;subst a;decide
  ·simp[kV] at a;subst a;decide
  ·rw[Eq (by simpa [kV] using b)] at a;cases a
 ·right
  refine⟨1,1,.ins 7 0 0 3,?_,rfl,rfl,Or.inr (by decide)⟩;exact bQ.next (i:=0) (d:=0) (x:=.ins 1 0 0 0) bQ.start rfl rfl
theorem xT:bD ai (aj kV) 0 kV=[1,7,0,3,16,0,1,21]:=by
 simp[kV,bD,eH,ja];try decide
end Go.Proofs.Eff
