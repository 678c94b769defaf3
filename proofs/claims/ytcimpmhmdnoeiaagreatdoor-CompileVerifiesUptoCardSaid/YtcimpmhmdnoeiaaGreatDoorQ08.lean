import Derived.Test.YtcimpmhmdnoeiaaGreatDoorQ05
set_option maxRecDepth 100000
set_option linter.all false
namespace Go.Proofs.Eff
def aU (op a b:Int):Int:=if op=11\/op=12\/op=13 then 1 else if op=14\/op=19\/op=20\/op=21\/op=23 then 1 else if op=18\/op=22 then 0 else if op=15 then 1 else if op=16\/op=17 then b+1 else if op=25 then a else 0
def bI (op:Int):Int:=if op=14\/op=19\/op=20\/op=21\/op=23\/op=18\/op=22 then 0 else if op=15 then 2 else 1
def cG (op:Int):Bool:=op==18||op==21||op==22||op==23
def fj:It->List Nat
 |.jmp _ g=>[g]
 |_=>[]
def br (l:List It):List Nat:=l.flatMap fj
inductive Dep (ld:Nat->Int):Int->List It->Int->Prop
 |nil (d:Int):Dep ld d [] d
 |lab {l:Nat} {r:List It} {e:Int}:Dep ld (ld l) r e->Dep ld (ld l) (.lab l::r) e
 |ins {d e:Int} {op a b to:Int} {r:List It}:cG op=false->0<=aU op a b->aU op a b<=d->Dep ld (d-aU op a b+bI op) r e->Dep ld d (.ins op a b to::r) e
 |fin {d d' e:Int} {op a b to:Int} {r:List It}:cG op=true->0<=aU op a b->aU op a b<=d->Dep ld d' r e->Dep ld d (.ins op a b to::r) e
 |go {d d' e:Int} {g:Nat} {r:List It}:ld g=d->0<=d->Dep ld d' r e->Dep ld d (.jmp 18 g::r) e
 |jmp {d e:Int} {op:Int} {g:Nat} {r:List It}:op=19\/op=20->1<=d->ld g=d-1->Dep ld (d-1) r e->Dep ld d (.jmp op g::r) e
 |blk {d e:Int} {a b:Nat} {body:List It} {r:List It}:0<=d->Dep ld (d+1) r e->Dep ld d (.blk a b body::r) e
theorem Dep.app {g:Nat->Int}{d e f:Int}{a b:List It}(h:Dep g d a e)(c:Dep g e b f):Dep g d (a++b) f:=by
 induction h with
 |nil d=>exact c
 |lab _ ih=>exact .lab (ih c)
 |ins h1 h0 h3 _ ih=>exact .ins h1 h0 h3 (ih c)
 |fin h1 h0 h3 _ ih=>exact .fin h1 h0 h3 (ih c)
 |go h1 h0 _ ih=>exact .go h1 h0 (ih c)
 |jmp h1 h3 h4 _ ih=>exact .jmp h1 h3 h4 (ih c)
 |blk h0 _ ih=>exact .blk h0 (ih c)
theorem Dep.congr {i c:Nat->Int}{d e:Int}{l:List It}(h:Dep i d l e)(f:∀g∈az l,i g=c g)(b:∀g∈br l,i g=c g):Dep c d l e:=by
 induction h with
 |nil d=>exact .nil d
 |@lab l r e _ ih=>
  have a:=f l (by simp[az,dZ]);rw[a];refine .lab ?_;rw[←a];exact ih (fun g h=>f g (by simp only[az,oR,iF] at h ⊢;exact .inr h)) (fun g h=>b g (by simp only[br,oR,iF] at h ⊢;exact .inr h))
 |ins a h0 h3 _ ih=>exact .ins a h0 h3 (ih (fun g h=>f g (by simp only[az,oR,iF] at h ⊢;exact .inr h)) (fun g h=>b g (by simp only[br,oR,iF] at h ⊢;exact .inr h)))
 |fin a h0 h3 _ ih=>exact .fin a h0 h3 (ih (fun g h=>f g (by simp only[az,oR,iF] at h ⊢;exact .inr h)) (fun g h=>b g (by simp only[br,oR,iF] at h ⊢;exact .inr h)))
 |@go d d' e g r a h0 _ ih=>exact .go ((b g (by simp[br,fj])).symm.trans a) h0 (ih (fun g h=>f g (by simp only[az,oR,iF] at h ⊢;exact .inr h)) (fun g h=>b g (by simp only[br,oR,iF] at h ⊢;exact .inr h)))
 |@jmp d e op g r a h3 h4 _ ih=>exact .jmp a h3 ((b g (by simp[br,fj])).symm.trans h4) (ih (fun g h=>f g (by simp only[az,oR,iF] at h ⊢;exact .inr h)) (fun g h=>b g (by simp only[br,oR,iF] at h ⊢;exact .inr h)))
 |blk h0 _ ih=>exact .blk h0 (ih (fun g h=>f g (by simp only[az,oR,iF] at h ⊢;exact .inr h)) (fun g h=>b g (by simp only[br,oR,iF] at h ⊢;exact .inr h)))
def ax:List It->Bool
 |[]=>false
 |[.ins op _ _ _]=>cG op
 |[_]=>false
 |_::r=>ax r
structure cB (l:List It):Prop where
 dep:∃ld e,Dep ld 0 l e
 nodup:(az l).Nodup
 goals:∀g∈br l,g∈az l
 last:ax l=true
def cE (op a b to:Int):Prop:=1<=op/\op<=25/\op≠24/\op≠18/\op≠19/\op≠20/\(if fP op=true then 0<=a/\a<=255/\b=0/\to=0 else if eD op=true then 0<=a/\a<=255/\0<=b/\b<=255/\to=0 else if op=7 then a=0/\b=0/\ -32768<=to/\to<=32767 else a=0/\b=0/\to=0)
mutual
def Cu:It->Prop
 |.blk _ _ body=>cB body/\cM body
 |_=>True
def cM:List It->Prop
 |[]=>True
 |i::r=>Cu i/\cM r
end
mutual
def lJ:It->Prop
 |.ins op a b to=>cE op a b to
 |.jmp op _=>op=18\/op=19\/op=20
 |.blk a b body=>a<=15/\b<=63/\dg body
 |.lab _=>True
def dg:List It->Prop
 |[]=>True
 |i::r=>lJ i/\dg r
end
theorem dn (a b:List It):cM (a++b)↔cM a/\cM b:=by
 induction a with
 |nil=>simp[cM]
 |cons i r ih=>simp only[kq,cM,ih,and_assoc]
theorem dJ (a b:List It):dg (a++b)↔dg a/\dg b:=by
 induction a with
 |nil=>simp[dg]
 |cons i r ih=>simp only[kq,dg,ih,and_assoc]
theorem dA (a b:List It):br (a++b)=br a++br b:=by simp[br]
structure Fj (s:GS)(x:GS×List It)(need delta:Int):Prop where
 goals:∀g∈br x.2,g∈az x.2
 dep:∀d,need<=d->∃ld,Dep ld d x.2 (d+delta)
 good:cM x.2
 fit:x.1.many=false->x.1.FU.length<=255->dg x.2
def Sim2 (C:Prop)(f:GS->GS×List It)(need a:Int):Prop:=∀s,s.F9=none->(s.many=false->C)->(f s).1.F9=none->Fj s (f s) need a
structure Fl (s:GS)(x:GS×List It):Prop where
 grow:s.FU.length<=x.1.FU.length
 mono:s.FO<=x.1.FO
 labs:∀l∈az x.2,s.FO<=l/\l<x.1.FO
 nodup:(az x.2).Nodup
 many:x.1.many=false->s.many=false
theorem Sim.left {f:GS->GS×List It}{g:DS->DS×List Int}(h:Sim f g){s:GS}(d:s.F9=none)(c:(f s).1.F9=none):Fl s (f s):=by
 have a:=(h.seg s {FU:=s.FU,err:=0,FR:=0,many:=true} ⟨d,rfl,rfl,fun _=>rfl⟩).2 c;obtain⟨m,e,_⟩:=a.laid;refine⟨a.grow,a.mono,a.labs,a.nodup,fun b=>?_⟩;rw[e] at b;simp only[sm] at b;exact b.1
theorem Sim.first {f b:GS->GS×List It}{d:DS->DS×List Int}(c:Sim b d){s:GS}(a:(b (f s).1).1.F9=none):(f s).1.F9=none:=by
 cases hx:(f s).1.F9 with
 |none=>rfl
 |some q=>rw[c.pg _ q hx] at a;cases a
theorem Sim2.seqC {f j:GS->GS×List It}{g H:DS->DS×List Int}(h:Sim f g)(y:Sim j H){n1 l u q n k:Int}(C B:Prop)(G:∀s,(s.many=false->C)->(f s).1.F9=none->s.F9=none->(f s).1.many=false->B)(i:Sim2 C f n1 l)(E:Sim2 B j u q)(O:n1<=n)(N:u<=n+l)(M:k=l+q):Sim2 C (fun s=>((j (f s).1).1,(f s).2++(j (f s).1).2)) n k:=by
 intro s t x r;have e:(f s).1.F9=none:=Sim.first (f:=f) y r;have a:=i s t x e;have b:=E _ e (G s x e t) r;have D:=h.left t e;have p:=y.left e r;refine⟨fun g c=>?_,fun d L=>?_,(dn _ _).2 ⟨a.good,b.good⟩,fun v w=>(dJ _ _).2 ⟨a.fit (p.many v) ?_,b.fit v w⟩⟩
 ·simp only[dA,bC,iF] at c ⊢
  rcases c with c|c
  ·exact .inl (a.goals g c)
  ·exact .inr (b.goals g c)
 ·obtain⟨o,K⟩:=a.dep d (by omega)
  obtain⟨m,J⟩:=b.dep (d+l) (by omega);refine⟨fun g=>if g<(f s).1.FO then o g else m g,?_⟩;have A:∀g∈az (f s).2,o g=(fun g=>if g<(f s).1.FO then o g else m g) g:=fun g c=>by simp[(D.labs g c).2]
  have z:∀g∈az (j (f s).1).2,m g=(fun g=>if g<(f s).1.FO then o g else m g) g:=fun g c=>by
   have:=(p.labs g c).1;simp[Nat.not_lt.2 this]
  have I:d+k=d+l+q:=by omega
  rw[I];exact(K.congr A (fun g c=>A g (a.goals g c))).app (J.congr z (fun g c=>z g (b.goals g c)))
 ·have:=p.grow
  have F:(j (f s).1).1.FU.length<=255:=w;omega
theorem Sim2.seq {f a:GS->GS×List It}{g q:DS->DS×List Int}(h:Sim f g)(p:Sim a q){n1 b c d n k:Int}{C:Prop}(i:Sim2 C f n1 b)(e:Sim2 C a c d)(u:n1<=n)(t:c<=n+b)(r:k=b+d):Sim2 C (fun s=>((a (f s).1).1,(f s).2++(a (f s).1).2)) n k:=
 Sim2.seqC h p C C (fun _ o j l m=>o ((h.left l j).many m)) i e u t r
theorem Sim2.of_eq {C:Prop}{f a:GS->GS×List It}{n k:Int}(h:Sim2 C f n k)(e:∀s,a s=f s):Sim2 C a n k:=by rw[funext e];exact h
theorem Sim2.emit {C:Prop}(m:Bool){l:List It}{n k:Int}(e:br l=[])(g:∀d,n<=d->∃c,Dep c d l (d+k))(b:cM l)(f:m=false->C->dg l):Sim2 C (fun s=>(s.or m,l)) n k:=by
 intro s j h i;refine⟨by simp[e],g,b,fun a _=>?_⟩;simp only[GS.or,sm] at a;exact f a.2 (h a.1)
theorem Sim2.put {C:Prop}{l:List It}{n k:Int}(c:br l=[])(f:∀d,n<=d->∃b,Dep b d l (d+k))(a:cM l)(e:C->dg l):Sim2 C (fun s=>(s,l)) n k:=by
 have:=Sim2.emit (C:=C) false c f a (fun _=>e);simp only[GS.or_false] at this;exact this
theorem om {op a b to n k:Int}(e:cG op=false)(f:0<=aU op a b)(i:aU op a b<=n)(h:k=bI op-aU op a b):∀d,n<=d->∃c,Dep c d [.ins op a b to] (d+k):=by
 intro d g;refine⟨fun _=>0,.ins e f (by omega) ?_⟩;have:d+k=d-aU op a b+bI op:=by omega
 rw[this];exact .nil _
theorem Sim2.one {C:Prop}{op a b to n k:Int}(g:cG op=false)(h:0<=aU op a b)(f:aU op a b<=n)(e:k=bI op-aU op a b)(d:C->cE op a b to):Sim2 C (fun s=>(s,[.ins op a b to])) n k:=
 Sim2.put rfl (om g h f e) ⟨trivial,trivial⟩ (fun c=>⟨d c,trivial⟩)
theorem Sim2.oneOr {C:Prop}(m:Bool){op a b to n k:Int}(g:cG op=false)(i:0<=aU op a b)(f:aU op a b<=n)(e:k=bI op-aU op a b)(d:m=false->C->cE op a b to):Sim2 C (fun s=>(s.or m,[.ins op a b to])) n k:=
 Sim2.emit m rfl (om g i f e) ⟨trivial,trivial⟩ (fun h c=>⟨d h c,trivial⟩)
theorem Sim2.lit {C:Prop}(l:Lit3){op b n k:Int}(o:cG op=false)(p:∀i:Nat,0<=aU op i b)(m:∀i:Nat,aU op i b<=n)(g:∀i:Nat,k=bI op-aU op i b)(f:∀i:Nat,i<=255->cE op i b 0):Sim2 C (fun s=>((s.lit l).1,[.ins op (s.lit l).2 b 0])) n k:=by
 intro s u v q;refine⟨by simp[br,fj],om o (p _) (m _) (g _),⟨trivial,trivial⟩,fun _ e=>⟨f _ ?_,trivial⟩⟩
 have d:∀(k:Int) (t:BL) (c:List Lit3) (i:Nat),ei k t c=some i->i<c.length:=by
  intro k t c
  induction c with
  |nil=>intro i h;simp[ei] at h
  |cons x r ih=>
   intro i h;simp only[ei] at h
   split at h
   ·cases h;simp
   ·cases hx:ei k t r with
    |none=>rw[hx] at h;simp at h
    |some j=>
     rw[hx] at h;simp only[Ac,dO] at h;subst h;have:=ih j hx;simp;omega
 have a:(s.lit l).1.FU.length<=255:=e
 revert a
 show(s.lit l).1.FU.length<=255->(s.lit l).2<=255
 unfold GS.lit
 split
 ·rename_i i hi
  intro a
  split at hi
  ·have:=d _ _ _ _ hi
   have w:s.FU.length<=255:=a;show i<=255
   omega
  ·cases hi
 ·intro a
  simp only[bY,gi,hG] at a;show s.FU.length<=255
  omega
theorem Sim2.quiet {C:Prop}{f:GS->GS}{n:Int}:Sim2 C (fun s=>(f s,[])) n 0:=fun s _ _ _=>⟨by simp[br],fun d _=>⟨fun _=>0,by rw[Int.add_zero];exact .nil d⟩,trivial,fun _ _=>trivial⟩
theorem Sim2.never {C:Prop}{f:GS->GS×List It}{n k:Int}(h:∀s,s.F9=none->(f s).1.F9≠none):Sim2 C f n k:=fun s b _ a=>absurd a (h s b)
section
variable {C:Prop} {r:Bool}
theorem dh {a b:List It}(e:b≠[]):ax (a++b)=ax b:=by
 induction a with
 |nil=>rfl
 |cons i r ih=>
  have d:r++b≠[]:=by simp[e]
  obtain⟨x,y,c⟩:=List.exists_cons_of_ne_nil d;rw[kq,c];rw[c] at ih;show ax (i::x::y)=_
  rw[←ih];cases i<;>rfl
theorem Dep.any {f:Nat->Int}{d e:Int}{l:List It}(h:Dep f d l e)(c:ax l=true)(j:Int):Dep f d l j:=by
 induction h with
 |nil d=>simp[ax] at c
 |@lab l r e h ih=>
  cases r with
  |nil=>simp[ax] at c
  |cons i r=>exact .lab (ih c)
 |@ins d e op a b to r h1 h0 h3 h ih=>
  cases r with
  |nil=>simp[ax,h1] at c
  |cons i r=>exact .ins h1 h0 h3 (ih c)
 |@fin d d' e op a b to r h1 h0 h3 h ih=>
  cases r with
  |nil=>exact .fin h1 h0 h3 (.nil j)
  |cons i r=>exact .fin h1 h0 h3 (ih c)
 |@go d d' e g r h1 h0 h ih=>
  cases r with
  |nil=>simp[ax] at c
  |cons i r=>exact .go h1 h0 (ih c)
 |@jmp d e op g r h1 h3 h4 h ih=>
  cases r with
  |nil=>simp[ax] at c
  |cons i r=>exact .jmp h1 h3 h4 (ih c)
 |@blk d e a b body r h0 h ih=>
  cases r with
  |nil=>simp[ax] at c
  |cons i r=>exact .blk h0 (ih c)
theorem Sim2.blk {f:GS->GS×List It}{g:DS->DS×List Int}(h:Sim f g)(i:Sim2 C f 0 1)(a b:Nat){n:Int}(u:0<=n)(t:r=true->∀s,s.F9=none->(f s).1.F9=none->ax (f s).2=true)
 (j:∀s,(f s).1.F9=none->(f s).1.many=false->a<=15/\b<=63):Sim2 C (fun s=>((f s).1,[.blk a b ((f s).2++(if r then [] else [It.ins 23 0 0 0]))])) n 1:=by
 intro s o w e;have k:=i s o w e;have l:=h.left o e;refine⟨by simp[br,fj],fun d m=>⟨fun _=>0,.blk (Int.le_trans u m) (.nil _)⟩,⟨⟨?_,?_⟩,trivial⟩,fun p v=>⟨⟨(j s e p).1,(j s e p).2,?_⟩,trivial⟩⟩
 ·obtain⟨q,m⟩:=k.dep 0 (by omega)
  cases r with
  |false=>
   simp only[iS,if_false];refine⟨⟨q,0,m.app (.fin rfl (by decide) (by decide) (.nil 0))⟩,by rw[bC];simpa [az,dZ] using l.nodup,fun g c=>?_,by rw[dh (by simp)];rfl⟩;rw[dA] at c;rw[bC];simp only[br,iF] at c;rcases c with c|c
   ·exact List.mem_append_left _ (k.goals g c)
   ·simp[fj] at c
  |true=>
   simp only[if_true,kn];exact⟨⟨q,_,m⟩,l.nodup,k.goals,t rfl s o e⟩
 ·rw[dn]
  refine⟨k.good,?_⟩;cases r
  ·exact⟨trivial,trivial⟩
  ·exact trivial
 ·rw[dJ]
  refine⟨k.fit p v,?_⟩;cases r
  ·exact⟨by simp[lJ,cE,fP,eD],trivial⟩
  ·exact trivial
theorem Sim2.choice {i n:GS->GS×List It}{Z Y:DS->DS×List Int}(X:Sim i Z)(D:Sim n Y)(S:Sim2 C i 0 1)(R:Sim2 C n 0 1){skip:Int}(m:skip=19\/skip=20)(V:r=true->∀s,s.F9=none->(i s).1.F9=none->ax (i s).2=true):
 Sim2 C (fun s=>((n (i (addL s 2)).1).1,[.jmp skip s.FO]++(i (addL s 2)).2++(if r then [] else [.jmp 18 (s.FO+1)])++[.lab s.FO]++(n (i (addL s 2)).1).2++[.lab (s.FO+1)])) 1 0:=by
 intro s v G o;dsimp only at o ⊢;have e:(i (addL s 2)).1.F9=none:=Sim.first (f:=fun s=>i (addL s 2)) D o;have u:=X.left (s:=addL s 2) v e;have a:=S (addL s 2) v G e;have b:=R _ e (fun h=>G (u.many h)) o;have t:=D.left e o;have j:r=true->ax (i (addL s 2)).2=true:=fun h=>V h _ v e;generalize hy:i (addL s 2)=y at*;generalize U:n y.1=z at*;have w:az (if r=true then [] else [It.jmp 18 (s.FO+1)])=[]:=by cases r<;>rfl
 have k:az ([It.jmp skip s.FO]++y.2++(if r=true then [] else [.jmp 18 (s.FO+1)])++[.lab s.FO]++z.2++[.lab (s.FO+1)])=az y.2++([s.FO]++(az z.2++[s.FO+1])):=by
  simp only[bC,w,mq,gz,lE];rfl
 have q:=u.labs;have Q:=t.labs;have mm:s.FO+2<=y.1.FO:=u.mono
 replace q:∀l∈az y.2,s.FO+2<=l/\l<y.1.FO:=q
 refine⟨fun g c=>?_,fun d hd=>?_,?_,fun E F=>?_⟩
 ·show g∈az (_:List It)
  rw[k];simp only[dA,iF] at c;simp only[iF,aS,aT,or_false];rcases c with((((c|c)|c)|c)|c)|c
  ·simp[br,fj] at c;exact .inr (.inl c)
  ·exact .inl (a.goals g c)
  ·cases r
   ·simp[br,fj] at c;exact .inr (.inr (.inr c))
   ·simp[br] at c
  ·simp[br,fj] at c
  ·exact .inr (.inr (.inl (b.goals g c)))
  ·simp[br,fj] at c
 ·obtain⟨B,d1⟩:=a.dep (d-1) (by omega)
  obtain⟨A,d2⟩:=b.dep (d-1) (by omega)
  let ld:Nat->Int:=fun g=>if g=s.FO then d-1 else if g=s.FO+1 then d else if g<y.1.FO then B g else A g
  have L:∀g∈az y.2,B g=ld g:=fun g c=>by
   have H:=q g c;show _=if _ then _ else _
   rw[if_neg (by omega),if_neg (by omega),if_pos H.2]
  have K:∀g∈az z.2,A g=ld g:=fun g c=>by
   have H:=Q g c;show _=if _ then _ else _
   rw[if_neg (by omega),if_neg (by omega),if_neg (by omega)]
  have J:ld s.FO=d-1:=if_pos rfl;have I:ld (s.FO+1)=d:=by show(if _ then _ else _)=_;rw[if_neg (by omega),if_pos rfl]
  have p:Dep ld (d-1) y.2 (d-1+1):=d1.congr L (fun g c=>L g (a.goals g c));have x:Dep ld (d-1) z.2 (d-1+1):=d2.congr K (fun g c=>K g (b.goals g c));have e3:d-1+1=d:=by omega
  rw[e3] at p x;have P:Dep ld d [.jmp skip s.FO] (d-1):=.jmp m (by omega) J (.nil _)
  have O:Dep ld (d-1) (y.2++(if r=true then [] else [.jmp 18 (s.FO+1)])) (d-1):=by
   cases r with
   |false=>exact p.app (.go I (by omega) (.nil _))
   |true=>rw[if_pos rfl,kn];exact p.any (j rfl) _
  have N:Dep ld (d-1) [.lab s.FO] (d-1):=by rw[←J];exact .lab (.nil _)
  have M:Dep ld d [.lab (s.FO+1)] d:=by
   have:Dep ld (ld (s.FO+1)) [.lab (s.FO+1)] (ld (s.FO+1)):=.lab (.nil _)
   rwa [I] at this
  refine⟨ld,?_⟩;rw[Int.add_zero];have:=((((P.app O).app N).app x).app M);simpa only[gz] using this
 ·simp only[dn]
  refine⟨⟨⟨⟨⟨⟨trivial,trivial⟩,a.good⟩,?_⟩,⟨trivial,trivial⟩⟩,b.good⟩,⟨trivial,trivial⟩⟩;cases r
  ·exact⟨trivial,trivial⟩
  ·exact trivial
 ·simp only[dJ]
  have c:=t.grow;have W:z.1.FU.length<=255:=F;refine⟨⟨⟨⟨⟨⟨?_,trivial⟩,a.fit (t.many E) (by omega)⟩,?_⟩,⟨trivial,trivial⟩⟩,b.fit E F⟩,⟨trivial,trivial⟩⟩
  ·rcases m with h|h
   ·exact .inr (.inl h)
   ·exact .inr (.inr h)
  ·cases r
   ·exact⟨.inl rfl,trivial⟩
   ·exact trivial
theorem Sim2.loop {k m:GS->GS×List It}{gv gb:DS->DS×List Int}(hv:Sim k gv)(L:Sim m gb)(Z:Sim2 C k 0 1){A:Int}(ib:Sim2 C m 0 A){e:Int}(q:e=19\/e=20)(hr:r=true->∀s,s.F9=none->(m s).1.F9=none->ax (m s).2=true)
 {pop:List It} (hp:∀i d,0<=d->Dep i (d+A) pop d) (pl:az pop=[]) (R:br pop=[]) (u:cM pop) (S:dg pop):
 Sim2 C (fun s=>((m (k (addL s 2)).1).1,[.lab (s.FO+1)]++(k (addL s 2)).2++[.jmp e s.FO]++(m (k (addL s 2)).1).2++(if r then [] else pop++[.jmp 18 (s.FO+1)])++[.lab s.FO,.ins 2 0 0 0])) 0 1:=by
 intro s H K p;dsimp only at p ⊢;have j:(k (addL s 2)).1.F9=none:=Sim.first (f:=fun s=>k (addL s 2)) L p;have x:=hv.left (s:=addL s 2) H j;have a:=Z (addL s 2) H K j;have b:=ib _ j (fun h=>K (x.many h)) p;have w:=L.left j p;have n:r=true->ax (m (k (addL s 2)).1).2=true:=fun h=>hr h _ j p;generalize hy:k (addL s 2)=y at*;generalize aa:m y.1=z at*
 have B:az (if r=true then [] else pop++[It.jmp 18 (s.FO+1)])=[]:=by
  cases r
  ·simp only[iS,if_false,bC,pl];rfl
  ·rfl
 have o:az ([It.lab (s.FO+1)]++y.2++[.jmp e s.FO]++z.2++(if r=true then [] else pop++[.jmp 18 (s.FO+1)])++[.lab s.FO,.ins 2 0 0 0])=[s.FO+1]++(az y.2++(az z.2++[s.FO])):=by
  simp only[bC,B,mq,gz,lE];rfl
 have v:=x.labs;have Y:=w.labs;have mm:s.FO+2<=y.1.FO:=x.mono
 replace v:∀l∈az y.2,s.FO+2<=l/\l<y.1.FO:=v
 refine⟨fun g c=>?_,fun d t=>?_,?_,fun I J=>?_⟩
 ·show g∈az (_:List It)
  rw[o];simp only[dA,iF] at c;simp only[iF,aS,aT,or_false];rcases c with((((c|c)|c)|c)|c)|c
  ·simp[br,fj] at c
  ·exact .inr (.inl (a.goals g c))
  ·simp[br,fj] at c;exact .inr (.inr (.inr c))
  ·exact .inr (.inr (.inl (b.goals g c)))
  ·cases r
   ·simp only[iS,if_false,dA,R,lE] at c
    simp[br,fj] at c;exact .inl c
   ·simp[br] at c
  ·simp[br,fj] at c
 ·obtain⟨G,d1⟩:=a.dep d t
  obtain⟨F,d2⟩:=b.dep d t
  let i:Nat->Int:=fun g=>if g=s.FO then d else if g=s.FO+1 then d else if g<y.1.FO then G g else F g
  have P:∀g∈az y.2,G g=i g:=fun g c=>by
   have M:=v g c;show _=if _ then _ else _
   rw[if_neg (by omega),if_neg (by omega),if_pos M.2]
  have O:∀g∈az z.2,F g=i g:=fun g c=>by
   have M:=Y g c;show _=if _ then _ else _
   rw[if_neg (by omega),if_neg (by omega),if_neg (by omega)]
  have D:i s.FO=d:=if_pos rfl;have N:i (s.FO+1)=d:=by show(if _ then _ else _)=_;rw[if_neg (by omega),if_pos rfl]
  have Q:Dep i d y.2 (d+1):=d1.congr P (fun g c=>P g (a.goals g c));have E:Dep i d z.2 (d+A):=d2.congr O (fun g c=>O g (b.goals g c))
  have X:Dep i d [.lab (s.FO+1)] d:=by
   have:Dep i (i (s.FO+1)) [.lab (s.FO+1)] (i (s.FO+1)):=.lab (.nil _)
   rwa [N] at this
  have W:Dep i (d+1) [.jmp e s.FO] d:=.jmp q (by omega) (by omega) (by rw[show d+1-1=d by omega];exact .nil _)
  have V:Dep i d (z.2++(if r=true then [] else pop++[.jmp 18 (s.FO+1)])) d:=by
   cases r with
   |false=>exact E.app ((hp i d t).app (.go N t (.nil _)))
   |true=>rw[if_pos rfl,kn];exact E.any (n rfl) _
  have U:Dep i d [.lab s.FO,.ins 2 0 0 0] (d+1):=by
   have:Dep i (i s.FO) [.lab s.FO,.ins 2 0 0 0] (d+1):=.lab (.ins rfl (by decide) (by rw[D];exact t) (by
    rw[D];have:d-aU 2 0 0+bI 2=d+1:=by show d-0+1=d+1;omega
    rw[this];exact .nil _))
   rwa [D] at this
  refine⟨i,?_⟩;have:=((((X.app Q).app W).app V).app U);simpa only[gz] using this
 ·simp only[dn]
  refine⟨⟨⟨⟨⟨⟨trivial,trivial⟩,a.good⟩,⟨trivial,trivial⟩⟩,b.good⟩,?_⟩,⟨trivial,trivial,trivial⟩⟩;cases r
  ·simp only[iS,if_false,dn];exact⟨u,trivial,trivial⟩
  ·exact trivial
 ·simp only[dJ]
  have c:=w.grow;have ab:z.1.FU.length<=255:=J;refine⟨⟨⟨⟨⟨⟨trivial,trivial⟩,a.fit (w.many I) (by omega)⟩,⟨?_,trivial⟩⟩,b.fit I J⟩,?_⟩,⟨trivial,by simp[lJ,cE,fP,eD],trivial⟩⟩
  ·rcases q with h|h
   ·exact .inr (.inl h)
   ·exact .inr (.inr h)
  ·cases r
   ·simp only[iS,if_false,dJ];exact⟨S,.inl rfl,trivial⟩
   ·exact trivial
end
section
variable (fs gs:List BL)
def dK (c:List Rg):Prop:=c.length<=16/\∀r∈c,r.1.length<=63
def PG (t:T):Prop:=∀c,Sim2 (dK c) (ah fs gs t c) 0 1
def PH (t:T):Prop:=∀c,Sim2 (dK c) (bp fs gs t c) 0 1
theorem gW {n:BL}{l:List BL}{i:Nat}(h:cA n l=some i):i<l.length:=by
 induction l generalizing i with
 |nil=>simp[cA] at h
 |cons x r ih=>
  simp only[cA] at h
  split at h
  ·cases h;simp
  ·cases hx:cA n r with
   |none=>rw[hx] at h;simp at h
   |some j=>
    rw[hx] at h;simp only[Ac,dO] at h;subst h;have:=ih hx;simp;omega
theorem uy {n:BL}{c:List Rg}{o i:Nat}{a:Bool}(h:aF n c=some (o,i,a))(b:∀r∈c,r.1.length<=63):o<c.length/\i<63:=by
 induction c generalizing o with
 |nil=>simp[aF] at h
 |cons x r ih=>
  simp only[aF] at h;cases hx:cA n x.1 with
  |some j=>
   rw[hx] at h;simp only[dO,A4] at h;obtain⟨rfl,rfl,_⟩:=h;have:=gW hx;have:=b x (by simp);simp;omega
  |none=>
   rw[hx] at h;cases hy:aF n r with
   |none=>rw[hy] at h;simp at h
   |some y=>
    rw[hy] at h;obtain⟨e,f,g⟩:=y;simp only[Ac,dO,A4] at h;obtain⟨rfl,rfl,rfl⟩:=h;have:=ih hy (fun r d=>b r (by simp[d]));simp;omega
theorem xL {op:Int}(h:fP op=true)(a:1<=op/\op<=25/\op≠24/\op≠18/\op≠19/\op≠20){i:Nat}(b:i<=255):cE op i 0 0:=by
 unfold cE;rw[if_pos h];omega
theorem wF {op:Int}(h:fP op=false)(b:eD op=true)(a:1<=op/\op<=25/\op≠24/\op≠18/\op≠19/\op≠20){i j:Nat}(d:i<=255)(c:j<=255):cE op i j 0:=by
 unfold cE;rw[if_neg (by rw[h];decide),if_pos b];omega
theorem pC {op:Int}(h:fP op=false)(c:eD op=false)(b:op≠7)(a:1<=op/\op<=25/\op≠24/\op≠18/\op≠19/\op≠20):cE op 0 0 0:=by
 unfold cE;rw[if_neg (by rw[h];decide),if_neg (by rw[c];decide),if_neg b];omega
theorem nL {n:BL}(h:bn n≠0):bn n=1\/bn n=2\/bn n=3\/bn n=4\/bn n=5:=by
 rcases nK n with a|a
 ·exact absurd a h
 ·omega
theorem sC (n:BL)(FR:Int)(set:Bool)(c:List Rg){need:Int}(d:(if set then 1 else 0)<=need):Sim2 (dK c) (dG fs gs n FR set c) need (if set then 0 else 1):=by
 unfold dG;by_cases h1:(!set)=true/\bn n≠0
 ·obtain⟨k,m⟩:=h1
  have l:set=false:=by simpa using k
  subst l;refine(Sim2.one (op:=bn n) (a:=0) (b:=0) (to:=0) ?_ ?_ ?_ ?_ (fun _=>?_)).of_eq (fun s=>by simp[m])
  all_goals
   rcases nL m with h|h|h|h|h<;>rw[h]<;>first|decide|exact d|exact pC rfl rfl (by decide) (by decide)
 ·by_cases h2:(!set)=true/\n=bm
  ·exact(Sim2.never (f:=fun s=>(s.fail FR 130,[])) (fun s k=>by simp[GS.fail,k])).of_eq (fun s=>by rw[if_neg h1,if_pos h2])
  ·cases hw:aF n c with
   |some x=>
    obtain⟨g,i,q⟩:=x;have e:dK c->g<=255/\i<=255:=fun j=>by have:=uy hw j.2;have:=j.1;omega
    cases set with
    |false=>exact(Sim2.one (op:=9) (a:=g) (b:=i) (to:=0) rfl (by simp[aU]) d (by simp[aU,bI]) (fun j=>wF rfl rfl (by decide) (e j).1 (e j).2)).of_eq (fun s=>by simp only[if_neg h1,if_neg h2];rfl)
    |true=>
     cases q with
     |false=>exact(Sim2.one (op:=12) (a:=g) (b:=i) (to:=0) rfl (by simp[aU]) d (by simp[aU,bI]) (fun j=>wF rfl rfl (by decide) (e j).1 (e j).2)).of_eq (fun s=>by simp only[if_neg h1,if_neg h2];rfl)
     |true=>exact(Sim2.never (f:=fun s=>(s.fail FR 133,[.ins 12 g i 0])) (fun s k=>by simp[GS.fail,k])).of_eq (fun s=>by simp only[if_neg h1,if_neg h2];rfl)
   |none=>
    cases hf:cA n fs with
    |some i=>
     cases set with
     |false=>exact(Sim2.oneOr (decide (255<i)) (op:=8) (a:=i) (b:=0) (to:=0) rfl (by simp[aU]) d (by simp[aU,bI]) (fun o _=>xL rfl (by decide) (by simp at o;omega))).of_eq (fun s=>by simp only[if_neg h1,if_neg h2];rfl)
     |true=>exact(Sim2.oneOr (decide (255<i)) (op:=11) (a:=i) (b:=0) (to:=0) rfl (by simp[aU]) d (by simp[aU,bI]) (fun o _=>xL rfl (by decide) (by simp at o;omega))).of_eq (fun s=>by simp only[if_neg h1,if_neg h2];rfl)
    |none=>
     by_cases hg:gs.contains n=true
     ·cases set with
      |false=>exact(Sim2.lit (.mk 4 n []) (op:=10) (b:=0) rfl (by simp[aU]) (fun _=>d) (fun _=>by simp[aU,bI]) (fun i p=>xL rfl (by decide) p)).of_eq (fun s=>by simp only[if_neg h1,if_neg h2,hg];rfl)
      |true=>exact(Sim2.lit (.mk 4 n []) (op:=13) (b:=0) rfl (by simp[aU]) (fun _=>d) (fun _=>by simp[aU,bI]) (fun i p=>xL rfl (by decide) p)).of_eq (fun s=>by simp only[if_neg h1,if_neg h2,hg];rfl)
     ·exact(Sim2.never (f:=fun s=>(s.fail FR 130,[])) (fun s k=>by simp[GS.fail,k])).of_eq (fun s=>by simp only[if_neg h1,if_neg h2,hg];rfl)
theorem nB {l:List T}(h:∀x∈l,PV fs gs x)(b:∀x∈l,PG fs gs x)(c:List Rg):Sim2 (dK c) (aW fs gs l c) 0 l.length:=by
 induction l with
 |nil=>exact(Sim2.quiet (f:=fun s=>s)).of_eq (fun s=>by simp[aW])
 |cons v r ih=>
  refine(Sim2.seq (h v (by simp) c) (gH fs gs (fun x a=>h x (by simp[a])) c) (b v (by simp) c) (ih (fun x a=>h x (by simp[a])) (fun x a=>b x (by simp[a]))) (p8 0) (by omega) ?_).of_eq (fun s=>by simp[aW]);simp;omega
theorem qH {v:T}(d:PG fs gs v)(c:List Rg):Sim2 (dK c) (bg fs gs v c) 0 1:=by
 obtain⟨k,n,f,e,l,p,pl⟩:=v;by_cases hk:k=8/\n=bm
 ·exact(Sim2.one (op:=1) (a:=0) (b:=0) (to:=0) rfl (by decide) (by decide) (by decide) (fun _=>pC rfl rfl (by decide) (by decide))).of_eq (fun s=>by rw[bg,if_pos hk])
 ·exact(d c).of_eq (fun s=>by rw[bg,if_neg hk])
theorem Db (b:Bool):Sim (fun s=>(s.or b,[])) (fun d=>(d.or b,[])):=Sim.emit (l:=[]) (bs:=[]) b rfl
theorem Sim2.orLit {C:Prop}(m:Bool)(l:Lit3){op b n k:Int}(d:cG op=false)(e:∀i:Nat,0<=aU op i b)(c:∀i:Nat,aU op i b<=n)(a:∀i:Nat,k=bI op-aU op i b)(g:m=false->∀i:Nat,i<=255->cE op i b 0):Sim2 C (fun s=>(((s.or m).lit l).1,[.ins op ((s.or m).lit l).2 b 0])) n k:=by
 cases m with
 |false=>
  refine(Sim2.lit l d e c a (g rfl)).of_eq (fun s=>?_);rw[GS.or_false]
 |true=>
  intro s j o h;refine⟨by simp[br,fj],om d (e _) (c _) (a _),⟨trivial,trivial⟩,fun f _=>?_⟩;exfalso
  revert f
  show((s.or true).lit l).1.many=false->False
  unfold GS.lit
  split<;>simp[GS.or]
theorem tB (n:BL)(a:Bool){as:List T}(h:∀x∈as,PV fs gs x)(j:∀x∈as,PG fs gs x)(c:List Rg){need:Int}(k:1<=need):Sim2 (dK c) (eE fs gs n a as as.length c) need 0:=by
 have g:Sim2 (dK c) (fun s=>(((s.or (decide (15<as.length))).lit (.mk 3 n [])).1,[.ins (if a then 17 else 16) ((s.or (decide (15<as.length))).lit (.mk 3 n [])).2 as.length 0])) (as.length+1) (-(as.length:Int)):=by
  refine Sim2.orLit _ _ (by cases a<;>rfl) (fun i=>?_) (fun i=>?_) (fun i=>?_) (fun f i b=>?_)
  ·cases a<;>simp[aU]<;>omega
  ·cases a<;>simp[aU]
  ·cases a<;>simp[aU,bI]<;>omega
  ·simp only[decide_eq_false_iff_not] at f
   cases a
   ·exact wF rfl rfl (by decide) b (by omega)
   ·exact wF rfl rfl (by decide) b (by omega)
 have e:Sim (fun s=>(((s.or (decide (15<as.length))).lit (.mk 3 n [])).1,[.ins (if a then 17 else 16) ((s.or (decide (15<as.length))).lit (.mk 3 n [])).2 as.length 0])) (fun d=>(((d.or (decide (15<as.length))).lit (.mk 3 n [])).1,[if a then 17 else 16,b8 ((d.or (decide (15<as.length))).lit (.mk 3 n [])).2,b8 as.length])):=
  ((Db (decide (15<as.length))).seq (Sim.lit (.mk 3 n []) (mk:=fun i=>[.ins (if a then 17 else 16) i as.length 0]) (bs:=fun i=>[if a then 17 else 16,b8 i,b8 as.length]) (fun _=>by cases a<;>rfl))).of_eq (fun s=>by simp) (fun d=>by simp)
 exact(Sim2.seq (gH fs gs h c) e (nB fs gs h j c) g (by omega) (by omega) (by omega)).of_eq (fun s=>by rw[eE])
theorem wX (n:BL){v:T}{as:List T}(b:PV fs gs v)(h:∀x∈as,PV fs gs x)(a:PG fs gs v)(d:∀x∈as,PG fs gs x)(c:List Rg):Sim2 (dK c) (fe fs gs n v as c) 0 1:=
 (Sim2.seq (l6 fs gs b c) (ob fs gs n (cY v) h as.length c) (qH fs gs a c) (tB fs gs n (cY v) h d c (p8 1)) (p8 0) (by omega) (by omega)).of_eq (fun s=>by rw[fe])
theorem ye (a:Bool){ms:List T}(h:∀m∈ms,∀x∈m.FN,PV fs gs x)(v:∀m∈ms,∀x∈m.FN,PG fs gs x)(c:List Rg):Sim2 (dK c) (cV fs gs a ms c) 1 0:=by
 induction ms with
 |nil=>exact(Sim2.quiet (f:=fun s=>s)).of_eq (fun s=>by rw[cV])
 |cons m r ih=>
  obtain⟨k,n,j,g,l,p,pl⟩:=m;have e:=ob fs gs n a (as:=l) (h (.mk k n j g l p pl) (by simp)) l.length c;have u:∀b:Int,1<=b->Sim2 (dK c) (eE fs gs n a l l.length c) b 0:=fun b A=>tB fs gs n a (as:=l) (h (.mk k n j g l p pl) (by simp)) (v (.mk k n j g l p pl) (by simp)) c A;have t:=ih (fun x d=>h x (by simp[d])) (fun x d=>v x (by simp[d]));have o:=pN fs gs a (ms:=r) (fun x d=>h x (by simp[d])) c;cases r with
  |nil=>exact(Sim2.seq e o (u 1 (p8 1)) t (p8 1) (by omega) (by omega)).of_eq (fun s=>by simp[cV])
  |cons m2 r2=>
   have C:Sim2 (dK c) (fun s=>(s,[It.ins 15 0 0 0])) 1 1:=Sim2.one rfl (by decide) (by decide) (by decide) (fun _=>pC rfl rfl (by decide) (by decide));have B:Sim2 (dK c) (fun s=>(s,[It.ins 14 0 0 0])) 2 (-1):=Sim2.one rfl (by decide) (by decide) (by decide) (fun _=>pC rfl rfl (by decide) (by decide));have i:=Sim.put (l:=[.ins 15 0 0 0]) (bs:=[15]) rfl;have q:=Sim.put (l:=[.ins 14 0 0 0]) (bs:=[14]) rfl;have z:=Sim2.seq i e C (u 2 (by decide)) (n:=1) (k:=1) (by omega) (by omega) (by omega);have y:=Sim2.seq (i.seq e) q z B (n:=1) (k:=0) (by omega) (by omega) (by omega);have w:=Sim2.seq ((i.seq e).seq q) o y t (n:=1) (k:=0) (by omega) (by omega) (by omega);exact w.of_eq (fun s=>by rw[cV];simp)
theorem sX {l:List T}(h:∀x∈l,PS fs gs x)(i:∀x∈l,PH fs gs x)(first:Bool)(c:List Rg):Sim2 (dK c) (bN fs gs l first c) (if first then 0 else 1) (if first then 1 else 0):=by
 induction l generalizing first with
 |nil=>
  cases first
  ·exact(Sim2.quiet (f:=fun s=>s)).of_eq (fun s=>by rw[bN];rfl)
  ·exact(Sim2.one (op:=2) (a:=0) (b:=0) (to:=0) rfl (by decide) (by decide) (by decide) (fun _=>pC rfl rfl (by decide) (by decide))).of_eq (fun s=>by rw[bN];rfl)
 |cons v r ih=>
  have e:=h v (by simp) c;have g:=n6 fs gs (l:=r) (fun x d=>h x (by simp[d])) false c;have m:=ih (fun x d=>h x (by simp[d])) (fun x d=>i x (by simp[d])) false;have j:=Sim2.seq e g (i v (by simp) c) m (n:=0) (k:=1) (p8 0) (by simp) (by simp);cases first
  ·have o:Sim2 (dK c) (fun s=>(s,[It.ins 14 0 0 0])) 1 (-1):=Sim2.one rfl (by decide) (by decide) (by decide) (fun _=>pC rfl rfl (by decide) (by decide))
   exact(Sim2.seq (Sim.put (l:=[.ins 14 0 0 0]) (bs:=[14]) rfl) (e.seq g) o j (n:=1) (k:=0) (by omega) (by omega) (by omega)).of_eq (fun s=>by rw[bN];simp)
  ·exact j.of_eq (fun s=>by rw[bN];simp)
theorem ji {t:T}(h:∀x∈t.FN,PS fs gs x)(a:∀x∈t.FN,PH fs gs x)(c:List Rg):Sim2 (dK c) (bV fs gs t c) 0 1:=by
 obtain⟨k,n,d,b,l,p,pl⟩:=t;exact(sX fs gs h a true c).of_eq (fun s=>by rw[bV];rfl)
theorem qx {t:T}(g:t.kind=3->∃v,t.FN=[v]/\PV fs gs v/\PG fs gs v)(h:t.kind≠3->PG fs gs t):PH fs gs t:=by
 obtain⟨k,n,j,i,l,p,pl⟩:=t;intro c;by_cases hk:k=3
 ·obtain⟨v,f,e,b⟩:=g hk
  have a:l=[v]:=f;subst a;have d:Sim2 (dK c) (fun s=>(s,[It.ins 21 0 0 0])) 1 0:=Sim2.put rfl (fun d m=>⟨fun _=>0,.fin rfl (by decide) (by have:aU 21 0 0=1:=rfl;omega) (.nil _)⟩) ⟨trivial,trivial⟩ (fun _=>⟨pC rfl rfl (by decide) (by decide),trivial⟩);exact(Sim2.seq (e c) (Sim.put (l:=[.ins 21 0 0 0]) (bs:=[21]) rfl) (b c) d (n:=0) (k:=1) (by omega) (by omega) (by omega)).of_eq (fun s=>by rw[bp];simp[hk])
 ·exact(h hk c).of_eq (fun s=>by unfold bp;rw[if_neg hk])
theorem sW {l:List T}(h:T.stmts l=true)(b:al l=true)(first:Bool)(c:List Rg)(s:GS):ax (bN fs gs l first c s).2=true:=by
 induction l generalizing first s with
 |nil=>simp[al] at b
 |cons v r ih=>
  simp only[T.stmts,gT] at h;rw[bN];cases r with
  |nil=>
   have j:v.kind=3:=by simpa [al] using b
   obtain⟨w,m,_⟩:=(eb h.1.1).1 j;obtain⟨k,n,t,q,l,p,pl⟩:=v;have o:l=[w]:=m;have f:k=3:=j;subst o;rw[bp,bN];simp only[f,if_true,iS,if_false,kn];rw[←gz,dh (by simp)];rfl
  |cons i r2=>
   have a:al (i::r2)=true:=by simpa [al] using b
   have g:=ih h.2 a false (bp fs gs v c s).1;have d:(bN fs gs (i::r2) false c (bp fs gs v c s).1).2≠[]:=fun e=>by rw[e] at g;simp[ax] at g
   show ax (_++_++_)=true
   rw[dh d];exact g
end
section
variable (fs gs:List BL)
theorem Bo (FR:Int)(c:List Rg)(l cD:List BL)(s:GS):(aA.go FR c cD l s).many=s.many:=by
 induction l generalizing cD s with
 |nil=>rfl
 |cons x r ih=>
  simp only[aA.go];rw[ih]
  split
  ·unfold GS.fail;split<;>rfl
  ·rfl
theorem fF {a b:List BL}{FR:Int}{c:List Rg}{s:GS}(h:(aA a b FR c s).many=false):s.many=false/\a.length<=15/\(a++b).length<=63/\c.length<=15:=by
 simp only[aA,GS.or,Bo,sm,decide_eq_false_iff_not] at h;refine⟨h.1,?_,?_,?_⟩<;>omega
theorem tQ {n:BL}{a:Bool}{j o:Int}(h:aO n=some (a,j,o)):(j=19\/j=20)/\(o≠0->o=2\/o=3\/o=4):=by
 unfold aO at h
 repeat' split at h
 all_goals first
  |(simp only[dO,A4] at h
    obtain⟨rfl,rfl,rfl⟩:=h
    decide)
  |(cases h;done)
theorem uB (N:Nat):∀t:T,sizeOf t<N->t.expr=true->PG fs gs t:=by
 induction N with
 |zero=>intro t h;omega
 |succ N ih=>
  intro t hN A c;obtain⟨k,n,g,z,l,p,pl⟩:=t;have bd:sizeOf l+1<=N:=by simp only[T.mk.sizeOf_spec] at hN;omega
  have F:∀t:T,t.expr=true->PV fs gs t:=fun t h=>qt fs gs (sizeOf t+1) t (sx _) h;have R:T.exprs l=true->∀x∈l,PG fs gs x:=fun h x u=>ih x (by have:=ef u;omega) (fE h x u);have L:T.exprs l=true->∀x∈l,PV fs gs x:=fun h x u=>F x (fE h x u)
  have aa:∀m:List T,T.stmts m=true->∀x∈m,PS fs gs x:=fun m h x u=>by
   obtain⟨E,Q⟩:=eb (gA h x u);refine oL fs gs (fun D y hy=>?_) (fun D=>F x (Q D));obtain⟨v,P,B⟩:=E D;rw[P] at hy;simp only[aS,aT,or_false] at hy;subst hy;exact F y B
  have af:∀m:List T,sizeOf m<=N->T.stmts m=true->∀x∈m,PH fs gs x:=fun m J h x u=>by
   obtain⟨E,Q⟩:=eb (gA h x u);have bc:=ef u;refine qx fs gs (fun D=>?_) (fun D=>ih x (by omega) (Q D));obtain⟨v,P,B⟩:=E D;have:sizeOf v<sizeOf x:=jv (by rw[P];simp);exact⟨v,P,F v B,ih v (by omega) B⟩
  have e:∀{f},Sim2 (dK c) f 0 1->(∀s:GS,s.F9=none->ah fs gs (.mk k n g z l p pl) c s=f s)->Sim2 (dK c) (ah fs gs (.mk k n g z l p pl) c) 0 1:=by
   intro f h Z s w hc I;rw[Z s w] at I ⊢;exact h s w hc I
  rw[T.expr] at A;by_cases k2:k=2
  ·rw[if_pos k2] at A
   simp only[gT] at A;have r1:=n6 fs gs (aa l A.2) true ((g++z,g.length)::c);have r2:=sX fs gs (aa l A.2) (af l (by omega) A.2) true ((g++z,g.length)::c);have Z:=nh g z pl c;have e2:Sim2 (dK c) (fun s=>(aA g z pl c s,[])) 0 0:=Sim2.quiet
   have Q:=Sim2.seqC Z r1 (dK c) (dK ((g++z,g.length)::c)) (fun s hc I w J=>by
    obtain⟨q1,q2,q3,q4⟩:=fF J;have a1:=hc q1;refine⟨by simp;omega,fun r G=>?_⟩;rcases aS.1 G with rfl|G
    ·exact q3
    ·exact a1.2 r G) e2 r2 (n:=0) (k:=1) (by omega) (by simp) (by simp)
   have h3:=Sim2.blk (Z.seq r1) Q g.length (g++z).length (r:=al l) (n:=0) (p8 0) (fun G s w I=>sW fs gs A.2 G true _ _) (fun s I J=>by
    have au:(aA g z pl c s).F9=none:=Sim.first (f:=fun s=>(aA g z pl c s,[])) r1 I;have:=(r1.left au I).many J;have:=fF this
    omega)
   refine e h3 (fun s w=>?_);rw[ah.eq_def fs gs (T.mk k n g z l p pl) c s];dsimp only;rw[w];simp[k2]
  ·rw[if_neg k2] at A
   have H:(g.isEmpty&&z.isEmpty&&p==0)=true:=by
    cases u:(g.isEmpty&&z.isEmpty&&p==0)
    ·rw[u] at A;simp at A
    ·rfl
   simp only[H,Bool.not_true,iS,if_false] at A;by_cases k4:k=4
   ·simp only[k4,if_true,gT,beq_iff_eq] at A
    obtain⟨v,rfl⟩:=p9.1 A.1.2;have Q:=Sim2.seq (L A.2 v (by simp) c) (lN fs gs n pl c) (R A.2 v (by simp) c) (sC fs gs n pl true c (need:=1) (by simp)) (n:=0) (k:=1) (by omega) (by omega) (by simp);intro s w hc I;cases u:(ah fs gs v c s).1.F9 with
    |none=>
     have Z:ah fs gs (.mk k n g z [v] p pl) c s=((dG fs gs n pl true c (ah fs gs v c s).1).1,(ah fs gs v c s).2++(dG fs gs n pl true c (ah fs gs v c s).1).2):=by rw[ah.eq_def fs gs (T.mk k n g z [v] p pl) c s];dsimp only;simp[k4,w,u]
     rw[Z] at I ⊢;exact Q s w hc I
    |some q=>
     have Z:ah fs gs (.mk k n g z [v] p pl) c s=ah fs gs v c s:=by rw[ah.eq_def fs gs (T.mk k n g z [v] p pl) c s];dsimp only;simp[k4,w,u]
     rw[Z,u] at I;cases I
   ·rw[if_neg k4] at A
    by_cases k8:k=8
    ·refine e (sC fs gs n pl false c (need:=0) (by simp)) (fun s w=>?_)
     rw[ah.eq_def fs gs (T.mk k n g z l p pl) c s];dsimp only;rw[w];simp[k8]
    ·by_cases k9:k=9/\dC n
     ·refine e (Sim2.one (op:=7) (a:=0) (b:=0) (to:=ej n) rfl (by decide) (by decide) (by decide) (fun _=>?_)) (fun s w=>?_)
      ·have hf:=k9.2
       simp only[dC,gT,decide_eq_true_eq] at hf;simp only[cE,fP,eD];simp;omega
      ·rw[ah.eq_def fs gs (T.mk k n g z l p pl) c s];dsimp only;rw[w];simp only[nE,iS,if_false,if_neg k8,if_pos k9]
     ·by_cases kl:9<=k/\k<=13
      ·refine e (Sim2.lit (aH (.mk k n g z l 0 0)) (op:=6) (b:=0) rfl (by simp[aU]) (fun _=>by simp[aU]) (fun _=>by simp[aU,bI]) (fun i hi=>xL rfl (by decide) hi)) (fun s w=>?_)
       rw[ah.eq_def fs gs (T.mk k n g z l p pl) c s];dsimp only;rw[w];simp only[nE,iS,if_false,if_neg k8,if_neg k9,if_pos kl]
      ·by_cases k14:k=14
       ·have ac:T.exprs l=true:=by
         simp[k14] at A;exact A.2
        have d1:Sim2 (dK c) (fun s=>(s.or (decide (255<l.length)),[It.ins 25 l.length 0 0])) l.length (1-l.length):=Sim2.oneOr (decide (255<l.length)) rfl (by simp[aU]) (by simp[aU]) (by simp[aU,bI]) (fun J _=>xL rfl (by decide) (by simp at J;omega));refine e (Sim2.seq (gH fs gs (L ac) c) (Sim.emit (l:=[.ins 25 l.length 0 0]) (bs:=[25,b8 l.length]) (decide (255<l.length)) rfl) (nB fs gs (L ac) (R ac) c) d1 (n:=0) (k:=1) (by omega) (by omega) (by omega)) (fun s w=>?_);rw[ah.eq_def fs gs (T.mk k n g z l p pl) c s];dsimp only;rw[w];simp only[nE,iS,if_false,if_neg k8,if_neg k9,if_neg kl,if_pos k14]
       ·have aq:k=5\/k=6:=by
         by_cases k5:k=5
         ·exact .inl k5
         ·by_cases k6:k=6
          ·exact .inr k6
          ·have a5:¬(k=10\/k=11):=by omega
           have h9:k≠9:=by omega
           have a4:k≠12:=by omega
           have a3:k≠13:=by omega
           simp[k5,k6,k8,h9,a5,a4,a3,k14] at A
        rcases aq with rfl|rfl
        ·simp only[if_true,gT,decide_eq_true_eq,beq_iff_eq] at A
         obtain⟨⟨be,C⟩,K⟩:=A;cases l with
         |nil=>simp at C;omega
         |cons v as=>
          have P:=L K v (by simp);have a2:∀x∈as,PV fs gs x:=fun x u=>L K x (by simp[u]);have B:=R K v (by simp);have ap:∀x∈as,PG fs gs x:=fun x u=>R K x (by simp[u]);have ab:=wX fs gs n P a2 B ap c
          have W:aO n=none\/cP n (v::as)=false->Sim2 (dK c) (ah fs gs (.mk 5 n g z (v::as) p pl) c) 0 1:=by
           intro a0;refine e ab (fun s w=>?_);rw[ah.eq_def fs gs (T.mk 5 n g z (v::as) p pl) c s];dsimp only;rw[w];simp only[nE,iS,if_false,if_neg k8,if_neg k9,if_neg kl,if_neg k14,if_neg k2,if_neg k4,if_true];rcases a0 with h|h
           ·rw[h]
           ·rcases u:aO n with _|⟨lp,j,o⟩
            ·rfl
            ·cases lp<;>simp[h]
          cases hinl:cP n (v::as) with
          |false=>exact W (.inr hinl)
          |true=>
           rcases D:aO n with _|⟨lp,j,o⟩
           ·exact W (.inl D)
           ·obtain⟨a8,a7,a6⟩:=mV D
            obtain⟨hj,ay⟩:=tQ D
            have aw:∀x∈as,aY x=true:=by
             have E:=hinl;unfold cP at E;simp only[gT,pf] at E;intro x u;refine E.1 x ?_
             split
             ·simp[u]
             ·simpa using u
            have Y:∀x:T,sizeOf x<=N->aY x=true->x.expr=true->(∀y∈x.FN,PS fs gs y)/\(∀y∈x.FN,PH fs gs y)/\(al x.FN=true->∀s,ax (bV fs gs x c s).2=true):=by
             intro x ar u A;obtain⟨k',n',bb,a9,l',p',ba⟩:=x;simp only[aY,gT,beq_iff_eq,T.kind] at u;rw[T.expr,if_pos u.1.1] at A;simp only[gT] at A;exact⟨aa l' A.2,af l' (by simp only[T.mk.sizeOf_spec] at ar;omega) A.2,fun G s=>by rw[bV];exact sW fs gs A.2 G true c s⟩
            have X:=fE K;have V:∀x∈(v::as),sizeOf x<=N:=fun x u=>by have:=ef u;omega
            have S:∀b∈as,(∀y∈b.FN,PS fs gs y)/\(∀y∈b.FN,PH fs gs y)/\(al b.FN=true->∀s,ax (bV fs gs b c s).2=true):=fun b H=>Y b (V b (by simp[H])) (aw b H) (X b (by simp[H]));cases lp with
            |false=>
             by_cases ho:o=0
             ·have hl:=a8 rfl ho
              rw[hl] at C
              obtain⟨b,b2,rfl⟩:∃b b2,as=[b,b2]:=by
               match as,C with
               |[b,b2],_=>exact⟨b,b2,rfl⟩
               |[],h=>simp at h
               |[_],h=>simp at h
               |_::_::_::_,h=>simp at h;omega
              obtain⟨U,p2,p3⟩:=S b (by simp);obtain⟨q1,q2,q3⟩:=S b2 (by simp);have H:=eL fs gs U c;have ao:=eL fs gs q1 c;have ch:=Sim2.choice H ao (ji fs gs U p2 c) (ji fs gs q1 q2 c) hj (r:=al b.FN) (fun G s _ _=>p3 G s);refine e (Sim2.seq (P c) (Sim.choice H ao j (al b.FN)) (B c) ch (n:=0) (k:=1) (by omega) (by omega) (by omega)) (fun s w=>?_);rw[ah.eq_def fs gs (T.mk 5 n g z (v::[b,b2]) p pl) c s];dsimp only;rw[w];simp only[nE,iS,if_false,if_neg k8,if_neg k9,if_neg kl,if_neg k14,if_neg k2,if_neg k4,if_true,D,hinl,ho,fT,gz]
             ·obtain⟨hl,ak⟩:=a7 rfl ho
              rw[hl] at C
              obtain⟨b,rfl⟩:∃b,as=[b]:=by
               match as,C with
               |[b],_=>exact⟨b,rfl⟩
               |[],h=>simp at h
               |_::_::_,h=>simp at h;omega
              obtain⟨U,p2,p3⟩:=S b (by simp);have H:=eL fs gs U c
              have az:Sim2 (dK c) (fun s=>(s,[It.ins o 0 0 0])) 0 1:=by
               rcases ay ho with rfl|rfl|rfl<;>exact Sim2.one rfl (by decide) (by decide) (by decide) (fun _=>pC rfl rfl (by decide) (by decide))
              have ch:=Sim2.choice H (Sim.put ak) (ji fs gs U p2 c) az hj (r:=al b.FN) (fun G s _ _=>p3 G s);refine e (Sim2.seq (P c) (Sim.choice H (Sim.put ak) j (al b.FN)) (B c) ch (n:=0) (k:=1) (by omega) (by omega) (by omega)) (fun s w=>?_);rw[ah.eq_def fs gs (T.mk 5 n g z (v::[b]) p pl) c s];dsimp only;rw[w];simp only[nE,iS,if_false,if_neg k8,if_neg k9,if_neg kl,if_neg k14,if_neg k2,if_neg k4,if_true,D,hinl,fT,gz]
            |true=>
             obtain⟨hl,ag⟩:=a6 rfl
             have av:aY v=true:=by
              have E:=hinl;unfold cP at E;rw[ag] at E;simp only[if_true,gT,pf] at E;exact E.1 v (by simp)
             obtain⟨v1,v2,_⟩:=Y v (V v (by simp)) av (X v (by simp));have ae:=eL fs gs v1 c;have ad:=ji fs gs v1 v2 c
             have O:as.length=0\/as.length=1:=by
              simp only[gi] at C;omega
             rcases O with O|O
             ·obtain rfl:=List.length_eq_zero_iff.1 O
              refine e (Sim2.loop ae Sim.nop ad (Sim2.quiet (f:=fun s=>s)) hj (r:=false) (fun h=>by cases h) (pop:=[]) (fun ld d _=>by rw[Int.add_zero];exact .nil d) rfl rfl trivial trivial) (fun s w=>?_);rw[ah.eq_def fs gs (T.mk 5 n g z [v] p pl) c s];dsimp only;rw[w];simp only[nE,iS,if_false,if_neg k8,if_neg k9,if_neg kl,if_neg k14,if_neg k2,if_neg k4,if_true,D,hinl,fT,gz,lE,w]
             ·obtain⟨b,rfl⟩:=p9.1 O
              obtain⟨U,p2,p3⟩:=S b (by simp);have H:=eL fs gs U c
              refine e (Sim2.loop ae H ad (ji fs gs U p2 c) hj (r:=al b.FN) (fun G s _ _=>p3 G s) (pop:=[.ins 14 0 0 0]) (fun ld d hd=>.ins rfl (by decide) (by have:aU 14 0 0=1:=rfl;omega) (by
               have:d+1-aU 14 0 0+bI 14=d:=by show d+1-1+0=d;omega
               rw[this];exact .nil d)) rfl rfl ⟨trivial,trivial⟩ ⟨pC rfl rfl (by decide) (by decide),trivial⟩) (fun s w=>?_)
              rw[ah.eq_def fs gs (T.mk 5 n g z (v::[b]) p pl) c s];dsimp only;rw[w];simp only[nE,iS,if_false,if_neg k8,if_neg k9,if_neg kl,if_neg k14,if_neg k2,if_neg k4,if_true,D,hinl,fT,gz,kq,lE,w]
        ·have am:List.isEmpty n=true/\3<=l.length/\T.casc l=true:=by
          simp at A;obtain⟨⟨E,Q⟩,h3⟩:=A;exact⟨by rw[E];rfl,Q,h3⟩
         cases l with
         |nil=>simp at am
         |cons v ms=>
          have M:=am.2.2;simp only[T.casc,gT] at M;have P:=F v M.1;have B:PG fs gs v:=ih v (by have:=ef (l:=v::ms) (x:=v) (by simp);omega) M.1;have aj:∀m∈ms,∀x∈m.FN,PV fs gs x:=fun m J x u=>F x (o7 M.2 m J x u)
          have ai:∀m∈ms,∀x∈m.FN,PG fs gs x:=fun m J x u=>ih x (by
           have E:=ef (l:=v::ms) (x:=m) (by simp[J]);have Q:=jv u
           omega) (o7 M.2 m J x u)
          refine e (Sim2.seq (l6 fs gs P c) (pN fs gs (cY v) aj c) (qH fs gs B c) (ye fs gs (cY v) aj ai c) (n:=0) (k:=1) (by omega) (by omega) (by omega)) (fun s w=>?_);rw[ah.eq_def fs gs (T.mk 6 n g z (v::ms) p pl) c s];dsimp only;rw[w];simp only[nE,iS,if_false,if_neg k8,if_neg k9,if_neg kl,if_neg k14,if_neg k2,if_neg k4,show¬((6:Int)=5) by decide,if_true]
end
section
section
variable (fs gs:List BL)
def bP:List T->List Rg->GS->GS×List It
 |[],_,s=>(s,[])
 |x::r,c,s=>
  let a:=bp fs gs x c s
  let b:=bP r c a.1
  (b.1,a.2++(if x.kind=3 then [] else [It.ins 14 0 0 0])++b.2)
def tE:List T->List Rg->DS->DS×List Int
 |[],_,s=>(s,[])
 |x::r,c,s=>
  let a:=qz fs gs x c s
  let b:=tE r c a.1
  (b.1,a.2++(if x.kind=3 then [] else [14])++b.2)
theorem tD {l:List T}(h:∀x∈l,PS fs gs x)(c:List Rg):Sim (bP fs gs l c) (tE fs gs l c):=by
 induction l with
 |nil=>exact Sim.nop.of_eq (fun s=>rfl) (fun d=>rfl)
 |cons v r ih=>
  have b:=(((h v (by simp) c).seq (Sim.put (l:=if v.kind=3 then [] else [It.ins 14 0 0 0]) (bs:=if v.kind=3 then [] else [14]) (by split<;>rfl)))).seq (ih fun x a=>h x (by simp[a]));exact b.of_eq (fun s=>rfl) (fun d=>rfl)
theorem xp {l:List T}(i:T.stmts l=true)(h:∀x∈l,PS fs gs x)(Q:∀x∈l,PH fs gs x)(c:List Rg)(s:GS)(N:s.F9=none)(P:s.many=false->dK c)(D:(bP fs gs l c s).1.F9=none):
 (∀g∈br (bP fs gs l c s).2,g∈az (bP fs gs l c s).2)/\(∃X e,Dep X 0 (bP fs gs l c s).2 e/\(al l=false->e=0))/\cM (bP fs gs l c s).2/\((bP fs gs l c s).1.many=false->(bP fs gs l c s).1.FU.length<=255->dg (bP fs gs l c s).2)/\(al l=true->ax (bP fs gs l c s).2=true):=by
 induction l generalizing s with
 |nil=>exact⟨by simp[bP,br],⟨fun _=>0,0,.nil 0,fun _=>rfl⟩,trivial,fun _ _=>trivial,fun h=>by simp[al] at h⟩
 |cons v r ih=>
  simp only[T.stmts,gT] at i;have W:=h v (by simp) c;have L:=tD fs gs (l:=r) (fun x q=>h x (by simp[q])) c;have d:(bp fs gs v c s).1.F9=none:=Sim.first (f:=bp fs gs v c) L D;have a:=Q v (by simp) c s N P d;have M:=W.left N d;have B:=L.left d D;obtain⟨V,⟨y,Z,b2,J⟩,b3,b4,b5⟩:=ih i.2 (fun x q=>h x (by simp[q])) (fun x q=>Q x (by simp[q])) _ d (fun z=>P (M.many z)) D
  have t:v.kind=3->r=[]:=fun j=>by
   have:=i.1.2;simp only[j,Bool.or_eq_true,bne_iff_ne,ne_eq,not_true_eq_false,List.isEmpty_iff,false_or] at this;exact this
  have u:br (if v.kind=3 then [] else [It.ins 14 0 0 0])=[]:=by split<;>rfl
  have m:az (if v.kind=3 then [] else [It.ins 14 0 0 0])=[]:=by split<;>rfl
  simp only[bP];refine⟨fun g b=>?_,?_,?_,fun z A=>?_,fun O=>?_⟩
  ·simp only[dA,bC,u,m,kn,iF] at b ⊢
   rcases b with b|b
   ·exact .inl (a.goals g b)
   ·exact .inr (V g b)
  ·obtain⟨o,R⟩:=a.dep 0 (by omega)
   by_cases j:v.kind=3
   ·have E:=t j
    subst E;refine⟨o,_,by rw[if_pos j];simpa [bP] using R,fun H=>?_⟩;simp[al,j] at H
   ·refine⟨fun g=>if g<(bp fs gs v c s).1.FO then o g else y g,Z,?_,fun H=>J ?_⟩
    ·have U:∀g∈az (bp fs gs v c s).2,o g=(fun g=>if g<(bp fs gs v c s).1.FO then o g else y g) g:=fun g b=>by simp[(M.labs g b).2]
     have S:∀g∈az (bP fs gs r c (bp fs gs v c s).1).2,y g=(fun g=>if g<(bp fs gs v c s).1.FO then o g else y g) g:=fun g b=>by
      have:=(B.labs g b).1;simp[Nat.not_lt.2 this]
     rw[if_neg j];refine((R.congr U (fun g b=>U g (a.goals g b))).app (?_:Dep _ (0+1) [It.ins 14 0 0 0] 0)).app (b2.congr S (fun g b=>S g (V g b)));exact .ins rfl (by decide) (by decide) (.nil _)
    ·cases r with
     |nil=>rfl
     |cons K r2=>simpa [al] using H
  ·rw[dn,dn]
   refine⟨⟨a.good,?_⟩,b3⟩
   split
   ·exact trivial
   ·exact⟨trivial,trivial⟩
  ·have b:=B.grow
   have Y:(bP fs gs r c (bp fs gs v c s).1).1.FU.length<=255:=A;rw[dJ,dJ];refine⟨⟨a.fit (B.many z) (by omega),?_⟩,b4 z A⟩
   split
   ·exact trivial
   ·exact⟨pC rfl rfl (by decide) (by decide),trivial⟩
  ·cases r with
   |nil=>
    have j:v.kind=3:=by simpa [al] using O
    obtain⟨w,C,_⟩:=(eb i.1.1).1 j;obtain⟨k,n,ns,ts,l,p,pl⟩:=v;have A:l=[w]:=C;have G:k=3:=j;subst A;subst G;rw[bp];simp only[bP,if_true,T.kind,kn];rw[dh (by simp)];rfl
   |cons K r2=>
    have I:=b5 (by simpa [al] using O);have F:(bP fs gs (K::r2) c (bp fs gs v c s).1).2≠[]:=fun e=>by rw[e] at I;simp[ax] at I
    rw[dh F];exact I
end
def s0:GS:=⟨[],0,none,false⟩
def d0:DS:=⟨[],0,0,false⟩
def ki (t:T):List Rg:=[(t.FP++t.FQ,t.FP.length)]
def bi (fs gs:List BL)(t:T):GS×List It:=
 let x:=bP fs gs t.FN (ki t) (aA t.FP t.FQ t.FR [] s0)
 (x.1,x.2++(if al t.FN then [] else [It.ins 22 0 0 0]))
def mB (fs gs:List BL)(t:T):DS×List Int:=
 let x:=tE fs gs t.FN (ki t) (eI t.FP t.FQ t.FR [] d0)
 (x.1,x.2++(if al t.FN then [] else [22]))
def T.method (t:T):Bool:=t.kind==1&&(bo t.name==t.FP.length)&&decide (0<=t.FY)&&decide (t.FY<=255)&&bM t.FP&&bM t.FQ&&T.stmts t.FN
structure Fp (fs gs:List BL)(t:T):Prop where
 err:vU (bi fs gs t).1.F9 (mB fs gs t).1.err (mB fs gs t).1.FR
 FU:(bi fs gs t).1.F9=none->(bi fs gs t).1.FU=(mB fs gs t).1.FU
 enc:(bi fs gs t).1.F9=none->bD (fun _=>127) (aj (bi fs gs t).2) 0 (bi fs gs t).2=(mB fs gs t).2
 many:(bi fs gs t).1.F9=none->(mB fs gs t).1.many=((bi fs gs t).1.many||eM (aj (bi fs gs t).2) 0 (bi fs gs t).2||decide (255<(bi fs gs t).1.FU.length))
 reg:(bi fs gs t).1.F9=none->cB (bi fs gs t).2
 good:(bi fs gs t).1.F9=none->cM (bi fs gs t).2
 fit:(bi fs gs t).1.F9=none->(bi fs gs t).1.many=false->(bi fs gs t).1.FU.length<=255->dg (bi fs gs t).2
 args:(bi fs gs t).1.F9=none->(bi fs gs t).1.many=false->t.FP.length<=15/\(t.FP++t.FQ).length<=63
theorem Ex (fs gs:List BL){t:T}(J:t.method=true):Fp fs gs t:=by
 have l:T.stmts t.FN=true:=by
  unfold T.method at J;simp only[gT] at J;exact J.2
 have i:∀t:T,t.expr=true->PV fs gs t:=fun t h=>qt fs gs (sizeOf t+1) t (sx _) h;have B:∀t:T,t.expr=true->PG fs gs t:=fun t h=>uB fs gs (sizeOf t+1) t (sx _) h
 have u:∀x∈t.FN,PS fs gs x:=fun x G=>by
  obtain⟨A,z⟩:=eb (gA l x G);refine oL fs gs (fun n y F=>?_) (fun n=>i x (z n));obtain⟨v,I,b⟩:=A n;rw[I] at F;simp only[aS,aT,or_false] at F;subst F;exact i y b
 have L:∀x∈t.FN,PH fs gs x:=fun x G=>by
  obtain⟨A,z⟩:=eb (gA l x G);refine qx fs gs (fun n=>?_) (fun n=>B x (z n));obtain⟨v,I,b⟩:=A n;exact⟨v,I,i v b,B v b⟩
 have C:=tD fs gs u (ki t)
 have U:Sim (fun s=>(aA t.FP t.FQ t.FR [] s,[])) (fun d=>(eI t.FP t.FQ t.FR [] d,[])):=
  (nh t.FP t.FQ t.FR []).of_eq (fun s=>rfl) (fun d=>by simp[DS.or])
 have S:Sim (fun s=>(s,if al t.FN then [] else [It.ins 22 0 0 0])) (fun d=>(d,if al t.FN then [] else [22])):=Sim.put (by cases al t.FN<;>rfl);have V:=(U.seq C).seq S;have eg:bi fs gs t=((fun s=>((fun s=>(s,if al t.FN then [] else [It.ins 22 0 0 0])) (bP fs gs t.FN (ki t) (aA t.FP t.FQ t.FR [] s)).1).1 |> fun x=>(x,([]++(bP fs gs t.FN (ki t) (aA t.FP t.FQ t.FR [] s)).2)++(if al t.FN then [] else [It.ins 22 0 0 0]))) s0):=rfl;have ed:mB fs gs t=((tE fs gs t.FN (ki t) (eI t.FP t.FQ t.FR [] d0)).1,([]++(tE fs gs t.FN (ki t) (eI t.FP t.FQ t.FR [] d0)).2)++(if al t.FN then [] else [22])):=rfl;have W:Rel s0 d0:=⟨rfl,rfl,rfl,fun h=>by simp[d0] at h⟩;obtain⟨A,z⟩:=V.seg s0 d0 W;have N:vU (bi fs gs t).1.F9 (mB fs gs t).1.err (mB fs gs t).1.FR:=A;have o:(bi fs gs t).1.F9=none->nO s0 d0 (bi fs gs t) (mB fs gs t):=z
 have q:(bi fs gs t).1.F9=none->bD (fun _=>127) (aj (bi fs gs t).2) 0 (bi fs gs t).2=(mB fs gs t).2/\(mB fs gs t).1.many=((bi fs gs t).1.many||eM (aj (bi fs gs t).2) 0 (bi fs gs t).2||decide (255<(bi fs gs t).1.FU.length)):=fun a=>by
  have k:=o a;obtain⟨m,m1,Z⟩:=k.laid;obtain⟨Y,X⟩:=Z _ 0 (gr k.nodup);refine⟨Y,?_⟩;rw[X,m1];rfl
 have j:(bi fs gs t).1.F9=none->_:=fun a=>xp fs gs l u L (ki t) (aA t.FP t.FQ t.FR [] s0) (Sim.first (f:=fun s=>(aA t.FP t.FQ t.FR [] s,[])) (s:=s0) C a) (fun w=>by
  obtain⟨_,O,E,_⟩:=fF w;refine⟨by simp[ki],fun r p=>?_⟩;simp only[ki,aS,aT,or_false] at p;subst p
  exact E) a
 refine⟨N,fun a=>(o a).FU,fun a=>(q a).1,fun a=>(q a).2,fun a=>?_,fun a=>?_,fun a w K=>?_,fun a w=>?_⟩
 ·obtain⟨k1,⟨D,e,R,k3⟩,Q,P,k6⟩:=j a
  have K:az (if al t.FN=true then [] else [It.ins 22 0 0 0])=[]:=by split<;>rfl
  have hg:br (if al t.FN=true then [] else [It.ins 22 0 0 0])=[]:=by split<;>rfl
  refine⟨?_,(o a).nodup,fun g M=>?_,?_⟩
  ·show∃D e,Dep D 0 (_++(if al t.FN=true then [] else [It.ins 22 0 0 0])) e
   cases p:al t.FN with
   |true=>exact⟨D,e,by rw[if_pos rfl,kn];exact R⟩
   |false=>
    have he:=k3 p;subst he;refine⟨D,0,R.app ?_⟩;rw[if_neg (by decide)];exact .fin rfl (by decide) (by decide) (.nil 0)
  ·have c:g∈br ((bP fs gs t.FN (ki t) (aA t.FP t.FQ t.FR [] s0)).2++(if al t.FN=true then [] else [It.ins 22 0 0 0])):=M
   show g∈az ((bP fs gs t.FN (ki t) (aA t.FP t.FQ t.FR [] s0)).2++(if al t.FN=true then [] else [It.ins 22 0 0 0]))
   rw[dA,hg,kn] at c;rw[bC,K,kn];exact k1 g c
  ·show ax (_++(if al t.FN=true then [] else [It.ins 22 0 0 0]))=true
   cases p:al t.FN with
   |true=>rw[if_pos rfl,kn];exact k6 p
   |false=>rw[if_neg (by decide),dh (by simp)];rfl
 ·obtain⟨_,_,Q,_,_⟩:=j a
  show cM (_++_)
  rw[dn];refine⟨Q,?_⟩
  split
  ·exact trivial
  ·exact⟨trivial,trivial⟩
 ·obtain⟨_,_,_,P,_⟩:=j a
  show dg (_++_)
  rw[dJ];refine⟨P w K,?_⟩
  split
  ·exact trivial
  ·exact⟨pC rfl rfl (by decide) (by decide),trivial⟩
 ·have H:(aA t.FP t.FQ t.FR [] s0).F9=none:=Sim.first (f:=fun s=>(aA t.FP t.FQ t.FR [] s,[])) (s:=s0) C a
  have:=(C.left (s:=aA t.FP t.FQ t.FR [] s0) H a).many w;obtain⟨_,O,E,_⟩:=fF this;exact⟨O,E⟩
end
section
variable {l:List It}
def opI:It->Int
 |.lab _=>0
 |.ins op _ _ _=>op
 |.jmp op _=>op
 |.blk _ _ _=>24
def bJ:It->Int
 |.lab _=>0
 |.ins op a b _=>aU op a b
 |.jmp op _=>aU op 0 0
 |.blk _ _ _=>0
def bZ:It->Int
 |.lab _=>0
 |.ins op _ _ _=>bI op
 |.jmp op _=>bI op
 |.blk _ _ _=>1
def ay:It->Bool
 |.lab _=>true
 |_=>false
def bL (i:It)(d:Int):Int:=d-bJ i+bZ i
inductive bQ (l:List It):Nat->Int->Prop
 |start:bQ l 0 0
 |next {i:Nat} {d:Int} {x:It}:bQ l i d->l[i]?=some x->cG (opI x)=false->bQ l (i+1) (bL x d)
 |goal {i j:Nat} {d:Int} {op:Int} {g:Nat}:bQ l i d->l[i]?=some (.jmp op g)->l[j]?=some (.lab g)->bQ l j (bL (.jmp op g) d)
structure iJ (l:List It)(m:Int):Prop where
 ge:∀i d x,bQ l i d->l[i]?=some x->ay x=false->d<=m/\bL x d<=m
 hit:m=0\/∃i d x,bQ l i d/\l[i]?=some x/\ay x=false/\(m=d\/m=bL x d)
 nneg:0<=m
theorem iJ.unique {m m':Int}(h:iJ l m)(b:iJ l m'):m=m':=by
 have a:∀{m m'},iJ l m->iJ l m'->m<=m':=by
  intro m m' h b;rcases h.hit with c|⟨i,d,x,c,f,e,g⟩
  ·rw[c];exact b.nneg
  ·have:=b.ge i d x c f e
   omega
 exact Int.le_antisymm (a h b) (a b h)
open Classical in
noncomputable def ai (l:List It):Int:=if h:∃m,iJ l m then h.choose else 0
theorem iV {m:Int}(h:iJ l m):ai l=m:=by
 have a:∃m,iJ l m:=⟨m,h⟩;unfold ai;rw[dif_pos a];exact a.choose_spec.unique h
structure Ann (l:List It)(A:Nat->Int):Prop where
 start:A 0=0
 take:∀i x,l[i]?=some x->0<=bJ x/\(ay x=false->bJ x<=A i)
 next:∀i x,l[i]?=some x->cG (opI x)=false->A (i+1)=bL x (A i)
 goal:∀i j op g,l[i]?=some (.jmp op g)->l[j]?=some (.lab g)->A j=bL (.jmp op g) (A i)
theorem Bw {k:Nat->Int}{d e:Int}(h:Dep k d l e):∃A:Nat->Int,A 0=d/\(∀i g,l[i]?=some (.lab g)->A i=k g)/\(∀i x,l[i]?=some x->0<=bJ x/\(ay x=false->bJ x<=A i))/\(∀i x,l[i]?=some x->cG (opI x)=false->A (i+1)=bL x (A i))/\(∀i op g,l[i]?=some (.jmp op g)->k g=bL (.jmp op g) (A i)):=by
 have step:∀{d q:Int} {x:It} {r:List It} {A:Nat->Int},A 0=q->(∀i g,r[i]?=some (.lab g)->A i=k g)/\(∀i x,r[i]?=some x->0<=bJ x/\(ay x=false->bJ x<=A i))/\(∀i x,r[i]?=some x->cG (opI x)=false->A (i+1)=bL x (A i))/\(∀i op g,r[i]?=some (.jmp op g)->k g=bL (.jmp op g) (A i))->
  (∀g,x=.lab g->d=k g)->0<=bJ x->(ay x=false->bJ x<=d)->(cG (opI x)=false->q=bL x d)->(∀op g,x=.jmp op g->k g=bL (.jmp op g) d)->
  ∃A:Nat->Int,A 0=d/\(∀i g,(x::r)[i]?=some (.lab g)->A i=k g)/\(∀i y,(x::r)[i]?=some y->0<=bJ y/\(ay y=false->bJ y<=A i))/\(∀i y,(x::r)[i]?=some y->cG (opI y)=false->A (i+1)=bL y (A i))/\(∀i op g,(x::r)[i]?=some (.jmp op g)->k g=bL (.jmp op g) (A i)):=by
  intro d q x r A f h m E o t D;obtain⟨B,z,w,v⟩:=h;refine⟨fun i=>match i with|0=>d|n+1=>A n,rfl,fun i g c=>?_,fun i y c=>?_,fun i y c p=>?_,fun i op g c=>?_⟩
  ·cases i with
   |zero=>simp only[iN,dO] at c;exact m g c
   |succ n=>exact B n g (by simpa using c)
  ·cases i with
   |zero=>simp only[iN,dO] at c;subst c;exact⟨E,o⟩
   |succ n=>exact z n y (by simpa using c)
  ·cases i with
   |zero=>simp only[iN,dO] at c;subst c;exact f.trans (t p)
   |succ n=>exact w n y (by simpa using c) p
  ·cases i with
   |zero=>simp only[iN,dO] at c;exact D op g c
   |succ n=>exact v n op g (by simpa using c)
 induction h with
 |nil d=>exact⟨fun _=>d,rfl,by simp,by simp,by simp,by simp⟩
 |@lab l r e h ih=>
  obtain⟨A,f,h⟩:=ih;exact step f h (fun g j=>by cases j;rfl) (by simp[bJ]) (fun h=>by simp[ay] at h) (fun _=>by simp[bL,bJ,bZ]) (fun op g h=>by cases h)
 |@ins d e op a b to r m h0 o h ih=>
  obtain⟨A,f,h⟩:=ih;exact step f h (fun g j=>by cases j) h0 (fun _=>o) (fun _=>rfl) (fun op g h=>by cases h)
 |@fin d q e op a b to r m h0 o h ih=>
  obtain⟨A,f,h⟩:=ih;exact step f h (fun g j=>by cases j) h0 (fun _=>o) (fun p=>by simp[opI,m] at p) (fun op g h=>by cases h)
 |@go d q e g r m h0 h ih=>
  obtain⟨A,f,h⟩:=ih;exact step f h (fun g j=>by cases j) (by simp[bJ,aU]) (fun _=>by simpa [bJ,aU] using h0) (fun p=>by simp[opI,cG] at p) (fun op g h=>by cases h;simp[bL,bJ,bZ,aU,bI,m])
 |@jmp d e op g r m o t h ih=>
  obtain⟨A,f,h⟩:=ih;have s:aU op 0 0=1:=by rcases m with rfl|rfl<;>rfl
  have u:bI op=0:=by rcases m with rfl|rfl<;>rfl
  exact step f h (fun g j=>by cases j) (by simp[bJ,s]) (fun _=>by simp only[bJ,s];exact o) (fun _=>by simp[bL,bJ,bZ,s,u]) (fun C F h=>by cases h;simp[bL,bJ,bZ,s,u,t])
 |@blk d e a b body r h0 h ih=>
  obtain⟨A,f,h⟩:=ih;exact step f h (fun g j=>by cases j) (by simp[bJ]) (fun _=>h0) (fun _=>by simp[bL,bJ,bZ]) (fun op g h=>by cases h)
theorem cB.ann (h:cB l):∃A,Ann l A:=by
 obtain⟨p,e,d⟩:=h.dep;obtain⟨A,o,n,m,k,f⟩:=Bw d;exact⟨A,o,m,k,fun i j a g c b=>(n j g b).trans (f i a g c)⟩
end
section
variable {n i:Nat} {D:List Int} {W:Nat->Prop} {M d:Int} {F:Prop}
structure Gr where
 R:Nat->Int->Prop
 E:Nat->Int->Nat->Int->Prop
 real:Nat->Prop
 aft:Nat->Int->Int
 over:Int->Prop
 k0:Nat
structure Gr.OK (G:Gr):Prop where
 start:G.R G.k0 0
 step:∀k d k' d',G.R k d->G.E k d k' d'->G.R k' d'
 one:∀k d d',G.R k d->G.R k d'->d=d'
 nneg:∀k d,G.R k d->0<=d
 ind:∀P:Nat->Int->Prop,P G.k0 0->(∀k d k' d',G.R k d->P k d->G.E k d k' d'->P k' d')->∀k d,G.R k d->P k d
def cD (D:List Int)(k:Nat):Prop:=∃d,D[k]?=some d/\0<=d
def zY (G:Gr)(D:List Int)(M:Int)(F:Prop)(k:Nat)(d:Int):Prop:=
 (G.real k/\G.over (G.aft k d)/\F)\/((G.real k->¬G.over (G.aft k d)/\d<=M/\G.aft k d<=M)/\∀a b,G.E k d a b->cD D a)
structure Dfs (G:Gr)(n:Nat)(D:List Int)(W:Nat->Prop)(M:Int)(F:Prop)(ex:Nat->Prop):Prop where
 len:D.length=n
 sound:∀k d,D[k]?=some d->d= -1\/(0<=d/\G.R k d)
 start:cD D G.k0
 wait:∀k,W k->cD D k
 done:∀k d,D[k]?=some d->0<=d->¬W k->¬ex k->zY G D M F k d
 hit:M=0\/∃k d,G.R k d/\G.real k/\(M=d\/M=G.aft k d)
 fault:F->∃k d,G.R k d/\G.real k/\G.over (G.aft k d)
 nneg:0<=M
theorem Dfs.begin {G:Gr}(h:G.OK)(g:D.length=n)(b:D[G.k0]?=some 0)(e:∀k d,D[k]?=some d->k≠G.k0->d= -1)(c:∀k,W k↔k=G.k0):Dfs G n D W 0 False (fun _=>False):=by
 refine⟨g,fun k d a=>?_,⟨0,b,p8 0⟩,fun k a=>?_,fun k d a i f _=>?_,.inl rfl,False.elim,p8 0⟩
 ·by_cases hkk:k=G.k0
  ·subst hkk
   rw[b] at a;cases a;exact .inr ⟨p8 0,h.start⟩
  ·exact .inl (e k d a hkk)
 ·rw[(c k).1 a];exact⟨0,b,p8 0⟩
 ·by_cases hkk:k=G.k0
  ·exact absurd ((c k).2 hkk) f
  ·have:=e k d a hkk
   omega
theorem Dfs.pop {G:Gr}{W':Nat->Prop}(h:Dfs G n D W M F (fun _=>False))(j:∀k,W k->k=i\/W' k)(c:∀k,W' k->W k):Dfs G n D W' M F (fun k=>k=i):=
 ⟨h.len,h.sound,h.start,fun k a=>h.wait k (c k a),fun k d a g f e=>h.done k d a g (fun b=>(j k b).elim e f) (fun b=>b),h.hit,h.fault,h.nneg⟩
theorem zY.mono {G:Gr}{i:List Int}{M':Int}{g:Prop}{k:Nat}(h:zY G D M F k d)(m:∀k,cD D k->cD i k)(f:M<=M')(l:F->g):zY G i M' g k d:=by
 rcases h with⟨a,c,n⟩|⟨a,c⟩
 ·exact .inl ⟨a,c,l n⟩
 ·exact .inr ⟨fun b=>⟨(a b).1,Int.le_trans (a b).2.1 f,Int.le_trans (a b).2.2 f⟩,fun e o j=>m e (c e o j)⟩
theorem Dfs.most {G:Gr}{M':Int}{e:Nat->Prop}(h:Dfs G n D W M F e)(j:G.R i d)(a:G.real i)(c:M<=M')(b:M'=M\/M'=d\/M'=G.aft i d):Dfs G n D W M' F e:=by
 refine⟨h.len,h.sound,h.start,h.wait,fun k d l m g f=>(h.done k d l m g f).mono (fun _ h=>h) c id,?_,h.fault,Int.le_trans h.nneg c⟩;rcases b with b|b
 ·rw[b];exact h.hit
 ·exact .inr ⟨i,d,j,a,b⟩
theorem j3 {j:Nat}{e:Int}(b:0<=e)(k:Nat)(h:cD D k):cD (D.set j e) k:=by
 obtain⟨d,a,c⟩:=h;by_cases hk:j=k
 ·subst hk
  have:j<D.length:=(aC.1 a).1;exact⟨e,by simp[D5,this],b⟩
 ·exact⟨d,by rw[lT hk];exact a,c⟩
theorem Dfs.hand {G:Gr}{W':Nat->Prop}{j:Nat}{e:Int}{g:Nat->Prop}(h:Dfs G n D W M F g)(r:G.R j e)(f:0<=e)(l:j<n)(s:¬g j\/True)(m:∀k,W' k↔W k\/k=j):Dfs G n (D.set j e) W' M F g/\cD (D.set j e) j:=by
 have i:cD (D.set j e) j:=⟨e,by simp[D5,h.len,l],f⟩;refine⟨⟨by rw[As];exact h.len,fun k d a=>?_,j3 f _ h.start,fun k a=>?_,fun k d a t q p=>?_,h.hit,h.fault,h.nneg⟩,i⟩
 ·by_cases b:j=k
  ·subst b
   simp only[D5,h.len,l,if_true,dO] at a;subst a;exact .inr ⟨f,r⟩
  ·rw[lT b] at a
   exact h.sound k d a
 ·rcases(m k).1 a with a|rfl
  ·exact j3 f _ (h.wait k a)
  ·exact i
 ·have o:¬(W k\/k=j):=fun c=>q ((m k).2 c)
  have b:j≠k:=fun c=>o (.inr c.symm);rw[lT b] at a;exact(h.done k d a t (fun c=>o (.inl c)) p).mono (fun k c=>j3 f k c) (p8 M) id
theorem Dfs.close {G:Gr}(l:G.OK)(h:Dfs G n D W M F (fun k=>k=i))(f:G.R i d)(g:zY G D M F i d):Dfs G n D W M F (fun _=>False):=by
 refine⟨h.len,h.sound,h.start,h.wait,fun k a b j e _=>?_,h.hit,h.fault,h.nneg⟩;by_cases hki:k=i
 ·subst hki
  rcases h.sound k a b with c|⟨_,c⟩
  ·omega
  ·rw[l.one k a d c f];exact g
 ·exact h.done k a b j e hki
theorem Dfs.over {G:Gr}(l:G.OK)(h:Dfs G n D W M F (fun _=>False))(o:∀k,¬W k)(p:¬F):∀k d,G.R k d->G.real k->¬G.over (G.aft k d)/\d<=M/\G.aft k d<=M:=by
 have i:∀k d,G.R k d->cD D k:=by
  refine l.ind (fun k _=>cD D k) h.start (fun k d q t g r s=>?_);obtain⟨e,f,m⟩:=r;rcases h.sound k e f with c|⟨_,c⟩
  ·omega
  ·have:=l.one k e d c g
   subst this;rcases h.done k e f m (o k) (fun j=>j) with⟨_,_,b⟩|⟨_,b⟩
   ·exact absurd b p
   ·exact b q t s
 intro k d g a;obtain⟨e,f,m⟩:=i k d g;rcases h.sound k e f with c|⟨_,c⟩
 ·omega
 ·have:=l.one k e d c g
  subst this;rcases h.done k e f m (o k) (fun j=>j) with⟨_,_,b⟩|⟨b,_⟩
  ·exact absurd b p
  ·exact b a
def mU (l:List It):Gr where
 R:=bQ l
 E k d k' d':=∃x,l[k]?=some x/\((cG (opI x)=false/\k'=k+1/\d'=bL x d)\/(∃a g,x=.jmp a g/\l[k']?=some (.lab g)/\d'=bL x d))
 real k:=∃x,l[k]?=some x/\ay x=false
 aft k d:=match l[k]? with
  |some x=>bL x d
  |none=>d
 over _:=False
 k0:=0
theorem bQ.ann {l:List It}{A:Nat->Int}(c:Ann l A)(h:bQ l i d):d=A i/\0<=d:=by
 have f:∀x:It,0<=bZ x:=fun x=>by
  cases x<;>simp only[bZ,bI]<;>(try split)<;>(try split)<;>omega
 have e:∀i x,l[i]?=some x->0<=A i->0<=bL x (A i):=fun i x b a=>by
  have k:=c.take i x b;have m:=f x;unfold bL;cases hl:ay x with
  |true=>
   cases x<;>simp[ay] at hl
   simp[bJ,bZ];exact a
  |false=>have:=k.2 hl;omega
 induction h with
 |start=>exact⟨c.start.symm,p8 0⟩
 |@next i d x h b he ih=>
  obtain⟨rfl,a⟩:=ih;exact⟨(c.next i x b he).symm,e i x b a⟩
 |@goal i j d op g h hi hj ih=>
  obtain⟨rfl,a⟩:=ih;exact⟨(c.goal i j op g hi hj).symm,e i _ hi a⟩
theorem oe {l:List It}{A:Nat->Int}(b:Ann l A):(mU l).OK where
 start:=.start
 step k d k' d' hr he:=by
  obtain⟨x,a,⟨f,rfl,rfl⟩|⟨c,g,rfl,e,rfl⟩⟩:=he
  ·exact .next hr a f
  ·exact .goal hr a e
 one k d d' h h':=(h.ann b).1.trans (h'.ann b).1.symm
 nneg k d h:=(h.ann b).2
 ind P h0 hs k d h:=by
  induction h with
  |start=>exact h0
  |@next i d x h a he ih=>exact hs i d _ _ h ih ⟨x,a,.inl ⟨he,rfl,rfl⟩⟩
  |@goal i j d c g h hi hj ih=>exact hs i d _ _ h ih ⟨_,hi,.inr ⟨c,g,rfl,hj,rfl⟩⟩
theorem Dfs.isMost {l:List It}{A:Nat->Int}(q:Ann l A)(h:Dfs (mU l) n D W M F (fun _=>False))(o:∀k,¬W k):iJ l M:=by
 have p:¬F:=fun m=>by obtain⟨_,_,_,_,g⟩:=h.fault m;exact g
 have k:=h.over (oe q) o p;refine⟨fun i d x f b j=>?_,?_,h.nneg⟩
 ·have:=k i d f ⟨x,b,j⟩
  simp only[mU,b] at this;exact this.2
 ·rcases h.hit with a|⟨i,d,a,⟨x,e,r⟩,c⟩
  ·exact .inl a
  ·simp only[mU,e] at c
   exact .inr ⟨i,d,x,a,e,r,c⟩
end
structure aL where
 op:Int
 a:Int
 b:Int
 c:Int
 to:Int
mutual
def jb (pos:Nat->Int)(base p:Int):It->List (Int×aL)
 |.lab _=>[]
 |.ins op a b to=>[(base+p,⟨op,a,b,0,to⟩)]
 |.jmp op g=>[(base+p,⟨op,0,0,0,pos g-(p+3)⟩)]
 |.blk a b body=>(base+p,⟨24,a,b,127,szL body⟩)::fm (aj body) (base+p+6) 0 body
def fm (pos:Nat->Int)(base p:Int):List It->List (Int×aL)
 |[]=>[]
 |i::r=>jb pos base p i++fm pos base (p+szI i) r
end
theorem rV (pos:Nat->Int)(base p:Int)(a b:List It):fm pos base p (a++b)=fm pos base p a++fm pos base (p+szL a) b:=by
 induction a generalizing p with
 |nil=>simp[fm,szL]
 |cons i r ih=>simp only[kq,fm,szL,ih,gz];congr 3;omega
theorem lR {i:It}(h:ay i=false):1<=szI i:=by
 cases i with
 |lab l=>simp[ay] at h
 |ins op a b to=>simp only[szI];split<;>(try split)<;>(try split)<;>omega
 |jmp op g=>simp[szI]
 |blk a b body=>simp only[szI];omega
mutual
theorem tV (pos:Nat->Int)(base p:Int):(i:It)->(jb pos base p i).Pairwise (fun x y=>x.1<y.1)/\∀x∈jb pos base p i,base+p<=x.1/\x.1<base+p+szI i
 |.lab _=>by simp[jb]
 |.ins op a b to=>by
  have:=lR (i:=.ins op a b to) rfl;simp only[jb,By,aT,false_imp_iff,implies_true,List.Pairwise.nil,and_self,true_and,aS,or_false];rintro x rfl;simp only;omega
 |.jmp op g=>by
  simp only[jb,szI,By,aT,false_imp_iff,implies_true,List.Pairwise.nil,and_self,true_and,aS,or_false];rintro x rfl;simp only;omega
 |.blk a b body=>by
  obtain⟨e,d⟩:=iw (aj body) (base+p+6) 0 body;simp only[jb,szI,By,aS];refine⟨⟨fun x c=>?_,e⟩,?_⟩
  ·have:=d x c;show base+p<x.1;omega
  ·rintro x (rfl|c)
   ·simp only;omega
   ·have:=d x c;omega
theorem iw (pos:Nat->Int)(base p:Int):(l:List It)->(fm pos base p l).Pairwise (fun x y=>x.1<y.1)/\∀x∈fm pos base p l,base+p<=x.1/\x.1<base+p+szL l
 |[]=>by simp[fm]
 |i::r=>by
  obtain⟨f,c⟩:=tV pos base p i;obtain⟨e,b⟩:=iw pos base (p+szI i) r;simp only[fm,szL,List.pairwise_append,iF];refine⟨⟨f,e,fun x a y d=>?_⟩,?_⟩
  ·have:=c x a;have:=b y d;omega
  ·rintro x (a|a)
   ·have:=c x a;omega
   ·have:=b x a;omega
end
def kap (l:List It)(base:Int)(pre:List (Int×aL))(i:Nat):Nat:=pre.length+(fm (aj l) base 0 (l.take i)).length
def plc (l:List It)(i:Nat):Int:=szL (l.take i)
theorem cN {l:List It}{i:Nat}{x:It}(h:l[i]?=some x):l=l.take i++x::l.drop (i+1)/\l.take (i+1)=l.take i++[x]:=by
 obtain⟨b,a⟩:=aC.1 h;refine⟨?_,by rw[tO,h];rfl⟩;rw[←a]
 conv=>lhs;rw[←List.take_append_drop i l]
 rw[hI b]
theorem Bj {l:List It}{base:Int}{pre:List (Int×aL)}{i:Nat}{x:It}(a:l[i]?=some x)(b:ay x=true):kap l base pre (i+1)=kap l base pre i:=by
 unfold kap;rw[(cN a).2,rV];cases x<;>simp[ay] at b
 simp[fm,jb]
theorem fO {l:List It}{i:Nat}{x:It}(a:l[i]?=some x):plc l (i+1)=plc l i+szI x:=by
 unfold plc;rw[(cN a).2,cC];simp[szL]
theorem iY {l:List It}(h:ax l=true){i:Nat}{x:It}(c:l[i]?=some x)(d:i+1=l.length):∃op a b to,x=.ins op a b to/\cG op=true:=by
 induction l generalizing i with
 |nil=>simp[ax] at h
 |cons y r ih=>
  cases r with
  |nil=>
   have:i=0:=by simp at d;omega
   subst this;simp only[iN,dO] at c;subst c;cases y<;>simp[ax] at h
   exact⟨_,_,_,_,rfl,h⟩
  |cons z r=>
   cases i with
   |zero=>simp at d
   |succ i=>
    refine ih (by simpa [ax] using h) (i:=i) (by simpa using c) (by simpa using d)
theorem bQ.lt {l:List It}(c:ax l=true){i:Nat}{d:Int}(h:bQ l i d):i<l.length:=by
 induction h with
 |start=>cases l with
  |nil=>simp[ax] at c
  |cons x r=>simp
 |@next i d x h hx he ih=>
  rcases Nat.lt_or_ge (i+1) l.length with f|f
  ·exact f
  ·obtain⟨k,a,b,m,rfl,e⟩:=iY c hx (by omega)
   simp only[opI] at he;rw[he] at e;cases e
 |@goal i j d k g h hi hj ih=>exact(aC.1 hj).1
def opN (op:Int):Nat:=if fP op=true then 1 else if eD op=true then 2 else if op=24 then 3 else 0
def fQ (op:Int):Bool:=op==7||op==18||op==19||op==20||op==24
def bf (op:Int):Nat:=1+opN op+(if fQ op then 2 else 0)
def cH (op:Int):Bool:=decide (1<=op)&&decide (op<=25)
def sM (x y:Int):Int:=if 32768<=x*256+y then x*256+y-65536 else x*256+y
def gm (b:List Int):aL:=
 let op:=b.getD 0 0
 let n:=opN op
 ⟨op,if 0<n then b.getD 1 0 else 0,if 1<n then b.getD 2 0 else 0,if 2<n then b.getD 3 0 else 0,if fQ op then sM (b.getD (n+1) 0) (b.getD (n+2) 0) else 0⟩
def jd:Nat->Int->List Int->Option (List (Int×aL))
 |0,_,b=>if b=[] then some [] else none
 |n+1,p,b=>if b=[] then some [] else if cH (b.getD 0 0)=false\/b.length<bf (b.getD 0 0) then none
  else(jd n (p+bf (b.getD 0 0)) (b.drop (bf (b.getD 0 0)))).map ((p,gm b)::·)
theorem oI {to:Int}(b: -32768<=to)(a:to<=32767):sM (b8 (Int.tdiv (to+65536) 256)) (b8 (to+65536))=to:=by
 unfold sM b8;rw[Int.tdiv_eq_ediv_of_nonneg (by omega)]
 split<;>omega
theorem jm {n:Int}(a:0<=n)(h:n<=255):b8 n=n:=by unfold b8;omega
theorem qQ {op a b to:Int}(h:cE op a b to)(rest:List Int):gm (ja op a b to++rest)=⟨op,a,b,0,to⟩/\bf op=(ja op a b to).length/\(ja op a b to++rest).getD 0 0=op/\cH op=true:=by
 obtain⟨u,t,p,s,r,q,d⟩:=h;have f:(op==24)=false:=by simp[p]
 have j:(op==18)=false:=by simp[s]
 have i:(op==19)=false:=by simp[r]
 have g:(op==20)=false:=by simp[q]
 have e:cH op=true:=by simp[cH,u,t]
 cases ka:fP op with
 |true=>
  rw[ka] at d;simp only[if_true] at d
  have c:(op==7)=false:=by
   cases hq:(op==7)
   ·rfl
   ·rw[beq_iff_eq] at hq;subst hq;simp[fP] at ka
  obtain⟨o,n,rfl,rfl⟩:=d;simp[gm,ja,opN,bf,fQ,ka,c,f,j,i,g,e,jm o n]
 |false=>
  cases kab:eD op with
  |true=>
   rw[ka,kab] at d;simp only[iS,if_false,if_true] at d
   have c:(op==7)=false:=by
    cases hq:(op==7)
    ·rfl
    ·rw[beq_iff_eq] at hq;subst hq;simp[eD] at kab
   obtain⟨o,n,m,l,rfl⟩:=d;simp[gm,ja,opN,bf,fQ,ka,kab,c,f,j,i,g,e,jm o n,jm m l]
  |false=>
   rw[ka,kab] at d;simp only[iS,if_false] at d;by_cases c:op=7
   ·subst c
    simp only[if_true] at d;obtain⟨rfl,rfl,m,l⟩:=d;have:=oI m l;simp[gm,ja,opN,bf,fQ,ka,kab,toB,this,cH]
   ·rw[if_neg c] at d
    have k:(op==7)=false:=by simp[c]
    obtain⟨rfl,rfl,rfl⟩:=d;simp[gm,ja,opN,bf,fQ,ka,kab,c,k,p,f,j,i,g,e]
theorem xC {op to:Int}(h:op=18\/op=19\/op=20)(c: -32768<=to)(b:to<=32767)(rest:List Int):gm (op::toB to++rest)=⟨op,0,0,0,to⟩/\bf op=3/\cH op=true:=by
 have a:=oI c b;rcases h with rfl|rfl|rfl<;>simp[gm,opN,bf,fQ,fP,eD,toB,a,cH]
theorem xD {a b c to:Int}(h:0<=a)(e:a<=255)(g:0<=b)(d:b<=255)(j: -32768<=to)(i:to<=32767)(rest:List Int):gm ([24,b8 a,b8 b,c]++toB to++rest)=⟨24,a,b,c,to⟩/\bf 24=6/\cH 24=true:=by
 have f:=oI j i;simp[gm,opN,bf,fQ,fP,eD,toB,f,cH,jm h e,jm g d]
theorem nj {n:Nat}{p:Int}{x rest:List Int}{i:aL}{r:List (Int×aL)}(g:gm (x++rest)=i)(a:(x++rest).getD 0 0=i.op)(e:bf i.op=x.length)(b:cH i.op=true)(d:x≠[])(f:jd n (p+x.length) rest=some r):jd (n+1) p (x++rest)=some ((p,i)::r):=by
 have c:x++rest≠[]:=by simp[d]
 rw[jd,if_neg c,a,e,b,if_neg (by simp),g];have:(x++rest).drop x.length=rest:=by simp
 rw[this,f];rfl
theorem vv (pos:Nat->Int)(base p:Int)(l:List It):(fm pos base p l).length<=szL l:=by
 obtain⟨g,f⟩:=iw pos base p l
 have b:∀(n:Nat) (a:Int) (L:List (Int×aL)),L.Pairwise (fun x y=>x.1<y.1)->(∀x∈L,a<=x.1/\x.1<a+n)->L.length<=n:=by
  intro n a L
  induction L generalizing n a with
  |nil=>intro _ _;simp
  |cons x r ih=>
   intro c e;simp only[By] at c;have h:=e x (by simp)
   have:=ih (n-(x.1+1-a).toNat) (x.1+1) c.2 (fun y d=>by
    have j:=c.1 y d;have i:=e y (by simp[d])
    omega)
   simp only[gi];omega
 exact b _ (base+p) _ g f
theorem kf {l:List It}(h:dg l){i:Nat}{x:It}(a:l[i]?=some x):lJ x:=by
 induction l generalizing i with
 |nil=>simp at a
 |cons y r ih=>
  cases i with
  |zero=>simp only[iN,dO] at a;subst a;exact h.1
  |succ i=>exact ih h.2 (by simpa using a)
theorem Ay {l:List It}(e:ax l=true){base:Int}{pre:List (Int×aL)}(n:Nat):∀{i:Nat} {d:Int},l.length-i<=n->bQ l i d->∃j x,bQ l j d/\l[j]?=some x/\ay x=false/\kap l base pre j=kap l base pre i/\plc l j=plc l i:=by
 induction n with
 |zero=>intro i d p h;have:=h.lt e;omega
 |succ n ih=>
  intro i d p h;have b:=h.lt e;have a:l[i]?=some l[i]:=by simp[b]
  cases hlab:ay l[i] with
  |false=>exact⟨i,_,h,a,hlab,rfl,rfl⟩
  |true=>
   have c:bL l[i] d=d/\szI l[i]=0/\cG (opI l[i])=false:=by
    cases hli:l[i]<;>simp[hli,ay] at hlab
    refine⟨by simp[bL,bJ,bZ],by simp[szI],rfl⟩
   have q:bQ l (i+1) d:=by
    have:=bQ.next h a c.2.2
    rwa [c.1] at this
   obtain⟨j,x,o,m,k,g,f⟩:=ih (by omega) q;refine⟨j,x,o,m,k,g.trans (Bj a hlab),f.trans ?_⟩;have:=fO a;rw[c.2.1] at this;omega
theorem rJ {l:List It}(h:(az l).Nodup){j g:Nat}(b:l[j]?=some (.lab g)):aj l g=plc l j:=by
 refine gr h (g,plc l j) ?_;obtain⟨c,_⟩:=cN b;have a:dy 0 (l.take j++It.lab g::l.drop (j+1))=dy 0 (l.take j)++dy (0+szL (l.take j)) (It.lab g::l.drop (j+1)):=iH _ _ _;rw[←c] at a;rw[a];refine FE _ ?_;simp only[dy,dZ,AC,FJ,kq,lE,aS];left;simp[plc]
mutual
def qZ (base p:Int):It->List (Int×List It)
 |.blk _ _ body=>(base+p,body)::up (base+p+6) 0 body
 |_=>[]
def up (base p:Int):List It->List (Int×List It)
 |[]=>[]
 |i::r=>qZ base p i++up base (p+szI i) r
end
mutual
def okI (pos:Nat->Int)(p:Int):It->Prop
 |.jmp _ g=> -32767<=pos g-(p+3)/\pos g-(p+3)<=32767
 |.blk _ _ body=>okL (aj body) 0 body/\szL body<=32767/\ai body<=127
 |_=>True
def okL (pos:Nat->Int)(p:Int):List It->Prop
 |[]=>True
 |i::r=>okI pos p i/\okL pos (p+szI i) r
end
theorem xx {p:Int}{l:List It}{x:Nat×Int}(h:x∈dy p l):p<=x.2:=by
 induction l generalizing p with
 |nil=>simp[dy] at h
 |cons i r ih=>
  simp only[dy,iF,BP] at h;rcases h with⟨a,_,rfl⟩|h
  ·exact p8 p
  ·have:=ih h;omega
theorem oX (l:List It)(g:Nat):0<=aj l g:=by
 unfold aj
 split
 ·rename_i x hx
  exact xx (List.mem_of_find?_eq_some hx)
 ·exact p8 0
mutual
theorem AY (pos:Nat->Int)(c:∀g,0<=pos g)(base p:Int):(i:It)->0<=p->p+szI i<=32767->(okI pos p i↔mz pos p i=false/\∀q∈qZ base p i,ai q.2<=127)
 |.lab _,_,_=>by simp[okI,mz,qZ]
 |.ins op a b to,_,_=>by simp[okI,mz,qZ]
 |.jmp op g,h0,h1=>by
  have:=c g;simp only[szI] at h1;simp only[okI,mz,qZ,lK,sm,decide_eq_false_iff_not,aT,false_imp_iff,implies_true,and_true];omega
 |.blk a b body,h0,h1=>by
  simp only[szI] at h1;have ih:=rL (aj body) (oX body) (base+p+6) 0 body (p8 0) (by omega);simp only[okI,mz,qZ,ih,lK,sm,decide_eq_false_iff_not,aS,forall_eq_or_imp];constructor
  ·rintro⟨⟨f,e⟩,h,d⟩;exact⟨⟨⟨by omega,by omega⟩,f⟩,d,e⟩
  ·rintro⟨⟨⟨_,_⟩,f⟩,d,e⟩;exact⟨⟨f,e⟩,by omega,d⟩
theorem rL (pos:Nat->Int)(a:∀g,0<=pos g)(base p:Int):(l:List It)->0<=p->p+szL l<=32767->(okL pos p l↔eM pos p l=false/\∀q∈up base p l,ai q.2<=127)
 |[],_,_=>by simp[okL,eM,up]
 |i::r,h0,h1=>by
  simp only[szL] at h1;have j:=AY pos a base p i h0 (by omega);have h:=rL pos a base (p+szI i) r (by omega) (by omega);simp only[okL,eM,up,j,h,sm,iF];constructor
  ·rintro⟨⟨e,c⟩,d,f⟩;exact⟨⟨e,d⟩,fun q b=>b.elim (c q) (f q)⟩
  ·rintro⟨⟨e,d⟩,c⟩;exact⟨⟨e,fun q b=>c q (.inl b)⟩,d,fun q b=>c q (.inr b)⟩
end
theorem j8 {l:List It}(h:cB l):∃m,iJ l m:=by
 obtain⟨A,u⟩:=h.ann
 have q:∀n,∃m:Int,0<=m/\(∀i d x,i<n->bQ l i d->l[i]?=some x->ay x=false->d<=m/\bL x d<=m)/\(m=0\/∃i d x,bQ l i d/\l[i]?=some x/\ay x=false/\(m=d\/m=bL x d)):=by
  intro n
  induction n with
  |zero=>exact⟨0,p8 0,fun i d x t=>by omega,.inl rfl⟩
  |succ n ih=>
   obtain⟨m,s,p,o⟩:=ih;by_cases e:∃d x,bQ l n d/\l[n]?=some x/\ay x=false
   ·obtain⟨d,x,e,f,r⟩:=e
    have v:m<=max m (max d (bL x d)):=by omega
    refine⟨max m (max d (bL x d)),by omega,fun i j k t b a c=>?_,?_⟩
    ·by_cases hin:i=n
     ·subst hin
      rw[f] at a;cases a;have:j=d:=by rw[(b.ann u).1,(e.ann u).1]
      subst this;omega
     ·have:=p i j k (by omega) b a c
      omega
    ·have g:max m (max d (bL x d))=m\/max m (max d (bL x d))=d\/max m (max d (bL x d))=bL x d:=by omega
     rcases g with g|g
     ·rw[g];exact o
     ·exact .inr ⟨n,d,x,e,f,r,g⟩
   ·refine⟨m,s,fun i j k t b a c=>?_,o⟩
    by_cases hin:i=n
    ·subst hin;exact absurd ⟨j,k,b,a,c⟩ e
    ·exact p i j k (by omega) b a c
 obtain⟨m,s,p,o⟩:=q l.length;exact⟨m,fun i d x e f r=>p i d x (aC.1 f).1 e f r,o,s⟩
structure Res where
 sel:BL
 args:Int
 FQ:Int
 stack:Int
 FY:Int
 FU:List Lit3
 code:List Int
 FR:Int
 err:Int
def gX (FR a:Int):Res:=⟨[],0,0,0,0,[],[],FR,a⟩
open Classical in
noncomputable def l7 (fs gs:List BL)(t:T):Res:=
 match(bi fs gs t).1.F9 with
 |some q=>gX q.1 q.2
 |none=>
  if(bi fs gs t).1.many=true\/255<(bi fs gs t).1.FU.length then gX 0 131
  else if¬okL (aj (bi fs gs t).2) 0 (bi fs gs t).2\/32767<szL (bi fs gs t).2\/127<ai (bi fs gs t).2 then gX 0 131
  else⟨t.name,t.FP.length,(t.FP++t.FQ).length,ai (bi fs gs t).2,t.FY,(bi fs gs t).1.FU,bD ai (aj (bi fs gs t).2) 0 (bi fs gs t).2,0,0⟩
section
variable {its:List It} {i k:Nat} {M e:Int} {D:List Int}
theorem tK (h:(az its).Nodup){j g:Nat}(b:its[i]?=some (.lab g))(a:its[j]?=some (.lab g)):i=j:=by
 induction its generalizing i j with
 |nil=>simp at b
 |cons x r ih=>
  have e:az (x::r)=dZ x++az r:=rfl;rw[e,nr] at h;obtain⟨_,l,d⟩:=h
  have mem:∀{k:Nat},r[k]?=some (.lab g)->g∈az r:=fun {k} c=>by
   obtain⟨f,c⟩:=aC.1 c;exact CA.2 ⟨.lab g,by rw[←c];exact List.getElem_mem f,by simp[dZ]⟩
  cases i with
  |zero=>
   simp only[iN,dO] at b;cases j with
   |zero=>rfl
   |succ j=>
    simp only[og] at a;exact absurd rfl (d g (by simp[b,dZ]) g (mem a))
  |succ i=>
   simp only[og] at b;cases j with
   |zero=>
    simp only[iN,dO] at a;exact absurd rfl (d g (by simp[a,dZ]) g (mem b))
   |succ j=>
    simp only[og] at a;rw[ih l b a]
def hnd (s:List Int×List Nat)(k:Nat)(e:Int):List Int×List Nat:=if s.1.getD k 0<0 then(s.1.set k e,s.2++[k]) else s
theorem Dfs.hnd {G:Gr}{n:Nat}{s:List Int×List Nat}{F:Prop}{f:Nat->Prop}(h:Dfs G n s.1 (· ∈s.2) M F f)(g:G.R k e)(d:0<=e)(c:k<n):Dfs G n (hnd s k e).1 (· ∈(hnd s k e).2) M F f/\cD (hnd s k e).1 k/\∀j,cD s.1 j->cD (hnd s k e).1 j:=by
 unfold Eff.hnd;have b:k<s.1.length:=by rw[h.len];exact c
 split
 ·have:=h.hand (W':=(· ∈s.2++[k])) g d c (.inr trivial) (fun j=>by simp)
  exact⟨this.1,this.2,fun j a=>j3 d j a⟩
 ·rename_i hn
  refine⟨h,⟨s.1[k],by simp[b],?_⟩,fun j a=>a⟩;simpa [u7,b] using hn
def eC:List Int->Nat
 |[]=>0
 |d::r=>(if d<0 then 1 else 0)+eC r
theorem oZ (b:0<=e)(a:D.getD k 0<0):eC (D.set k e)+1=eC D:=by
 induction D generalizing k with
 |nil=>simp at a
 |cons d r ih=>
  cases k with
  |zero=>
   simp only[List.getD_cons_zero] at a;simp only[ou,eC,if_pos a,if_neg (show¬e<0 by omega)];omega
  |succ k=>
   simp only[List.getD_cons_succ] at a;have:=ih a;simp only[oF,eC];omega
theorem ww (D:List Int):eC D<=D.length:=by
 induction D with
 |nil=>simp[eC]
 |cons d r ih=>simp only[eC,gi];split<;>omega
theorem Bn (s:List Int×List Nat)(k:Nat)(e:Int):(hnd s k e).1.length=s.1.length:=by
 unfold hnd;split<;>simp
def Bnd (D:List Int):Prop:=∀(k:Nat) (d:Int),D[k]?=some d->d<=2*((D.length:Int)-eC D)
theorem mj {s:List Int×List Nat}(a:0<=e):2*eC (hnd s k e).1+(hnd s k e).2.length<=2*eC s.1+s.2.length:=by
 unfold hnd
 split
 ·rename_i h
  have:=oZ a h;simp only[bY,ta];omega
 ·exact gE _
theorem Bnd.hnd {s:List Int×List Nat}(h:Bnd s.1){b:Int}(g:0<=e)(l:e<=b+2)(c:b<=2*((s.1.length:Int)-eC s.1)):Bnd (hnd s k e).1/\b<=2*(((Eff.hnd s k e).1.length:Int)-eC (Eff.hnd s k e).1):=by
 unfold Eff.hnd
 split
 ·rename_i hk
  have i:=oZ g hk;refine⟨fun j d a=>?_,by simp only[As];omega⟩;simp only[As];by_cases hjk:k=j
  ·subst hjk
   have f:k<s.1.length:=by
    have:=(aC.1 a).1;simpa using this
   simp only[D5,f,if_true,dO] at a;omega
  ·rw[lT hjk] at a
   have:=h j d a;omega
 ·exact⟨h,c⟩
theorem xw (op:Int):0<=bI op/\bI op<=2:=by
 unfold bI;split
 ·omega
 ·split<;>omega
theorem mS (x:It):0<=bZ x/\bZ x<=2:=by
 cases x<;>simp only[bZ]<;>first|exact xw _|omega
structure kX (its:List It)(s:List Int×List Nat)(M:Int):Prop where
 dfs:Dfs (mU its) (its.length+1) s.1 (· ∈s.2) M False (fun _=>False)
 bnd:Bnd s.1
theorem kX.begin (c:cB its):kX its ((List.replicate (its.length+1) (-1:Int)).set 0 0,[0]) 0:=by
 obtain⟨A,e⟩:=c.ann;refine⟨Dfs.begin (oe e) (by simp) (by simp[mU]) (fun k d a b=>?_) (fun k=>by simp[mU]),fun k d a=>?_⟩
 ·have:(0:Nat)≠k:=fun h=>b h.symm
  simp only[lT this,vt] at a
  split at a
  ·simpa using a.symm
  ·cases a
 ·have f:=ww ((List.replicate (its.length+1) (-1:Int)).set 0 0)
  dsimp only at a ⊢;by_cases hk0:0=k
  ·subst hk0
   simp at a;omega
  ·simp only[lT hk0,vt] at a
   split at a
   ·simp at a;omega
   ·cases a
theorem kX.top (m:cB its){s:List Nat}(h:kX its (D,s++[i]) M):∃d x,its[i]?=some x/\D[i]?=some d/\0<=d/\d<=2*(its.length+1)/\bQ its i d/\0<=bJ x/\(ay x=false->bJ x<=d)/\(cG (opI x)=false->i+1<its.length)/\(∀(op:Int) (g:Nat),x=It.jmp op g->∃j:Nat,its[j]?=some (.lab g)):=by
 obtain⟨A,q⟩:=m.ann;obtain⟨d,o,G⟩:=h.dfs.wait i (by simp);rcases h.dfs.sound i d o with r|⟨_,r⟩
 ·omega
 have k:bQ its i d:=r;have e:=k.lt m.last;have n:its[i]?=some its[i]:=by simp[e]
 have E:=(k.ann q).1;have p:=q.take i _ n;refine⟨d,its[i],n,o,G,?_,k,p.1,fun w=>by rw[E];exact p.2 w,fun C=>(bQ.next k n C).lt m.last,fun op g B=>?_⟩
 ·have F:=h.bnd i d o
  have f:=h.dfs.len;simp only at F f;omega
 ·have u:g∈az its:=m.goals g (CA.2 ⟨_,List.getElem_mem e,by rw[B];simp[fj]⟩)
  obtain⟨y,t,c⟩:=CA.1 u;obtain⟨j,v,rfl⟩:=Ft t;refine⟨j,?_⟩;cases hyy:its[j] with
  |lab l=>
   rw[hyy] at c;simp only[dZ,AS] at c;subst c;simp[v,hyy]
  |ins op a b z=>rw[hyy] at c;simp[dZ] at c
  |jmp op g=>rw[hyy] at c;simp[dZ] at c
  |blk a b body=>rw[hyy] at c;simp[dZ] at c
theorem kX.lab (p:cB its){c:List Nat}(h:kX its (D,c++[i]) M){d:Int}{g:Nat}(l:its[i]?=some (.lab g))(q:D[i]?=some d)(n:0<=d)(o:bQ its i d)(z:i+1<its.length):kX its (hnd (D,c) (i+1) d) M/\2*eC (hnd (D,c) (i+1) d).1+(hnd (D,c) (i+1) d).2.length<2*eC D+(c++[i]).length:=by
 obtain⟨A,r⟩:=p.ann;have v:=h.dfs.pop (W':=(· ∈c)) (i:=i) (fun k f=>by simp at f;rcases f with f|f;exact .inr f;exact .inl f) (fun k f=>by simp[f])
 have m:bQ its (i+1) d:=by
  have:=bQ.next o l rfl;simpa [bL,bJ,bZ] using this
 obtain⟨u,t,B⟩:=Dfs.hnd (s:=(D,c)) v (k:=i+1) (e:=d) m n (by omega);refine⟨⟨u.close (oe r) o (.inr ⟨?_,?_⟩),(h.bnd.hnd (s:=(D,c)) (b:=d) n (by omega) (h.bnd i d q)).1⟩,?_⟩
 ·rintro⟨x,a,j⟩
  rw[l] at a;cases a;simp[ay] at j
 ·rintro y E ⟨x,a,⟨_,rfl,rfl⟩|⟨w,C,rfl,_⟩⟩
  ·exact t
  ·rw[l] at a;cases a
 ·have:=mj (s:=(D,c)) (k:=i+1) n
  simp only[bY,ta] at*;omega
theorem kX.ins (B:cB its){f:List Nat}(h:kX its (D,f++[i]) M){d:Int}{x:It}(m:its[i]?=some x)(t:ay x=false)(U:D[i]?=some d)(h0:0<=d)(q:bQ its i d)(aa:0<=bJ x)(ht:bJ x<=d)(s1:List Int×List Nat)(H:(cG (opI x)=true/\s1=(D,f))\/(cG (opI x)=false/\s1=hnd (D,f) (i+1) (bL x d)))(a:List Int×List Nat)(G:((∀(op:Int) (g:Nat),x≠It.jmp op g)/\a=s1)\/(∃(op:Int) (g j:Nat),x=It.jmp op g/\its[j]?=some (.lab g)/\a=hnd s1 j (bL x d))):kX its a (max (max M d) (bL x d))/\2*eC a.1+a.2.length<2*eC D+(f++[i]).length:=by
 obtain⟨A,hA⟩:=B.ann;have ab:=mS x;have b:0<=bL x d:=by unfold bL;omega
 have u:bL x d<=d+2:=by unfold bL;omega
 have o:(mU its).aft i d=bL x d:=by simp[mU,m]
 have h1:=h.dfs.pop (W':=(· ∈f)) (i:=i) (fun k n=>by simp at n;rcases n with n|n;exact .inr n;exact .inl n) (fun k n=>by simp[n]);have c:(mU its).real i:=⟨x,m,t⟩;have V:=(h1.most q c (M':=max M d) (by omega) (by omega)).most q c (M':=max (max M d) (bL x d)) (by omega) (by rw[o];omega);have r:=h.dfs.len;simp only at r
 have p:Dfs (mU its) (its.length+1) s1.1 (· ∈s1.2) (max (max M d) (bL x d)) False (fun k=>k=i)/\(cG (opI x)=false->cD s1.1 (i+1))/\(Bnd s1.1/\d<=2*((s1.1.length:Int)-eC s1.1))/\2*eC s1.1+s1.2.length<=2*eC D+f.length:=by
  rcases H with⟨w,rfl⟩|⟨w,rfl⟩
  ·exact⟨V,fun S=>(by rw[w] at S;cases S),⟨h.bnd,h.bnd i d U⟩,gE _⟩
  ·have e:bQ its (i+1) (bL x d):=bQ.next q m w
   obtain⟨K,J,C⟩:=Dfs.hnd (s:=(D,f)) V e b (Nat.lt_succ_of_lt (e.lt B.last));exact⟨K,fun _=>J,h.bnd.hnd (s:=(D,f)) b u (h.bnd i d U),mj b⟩
 obtain⟨Q,P,⟨O,F⟩,N⟩:=p
 have v:∀(a:List Int×List Nat),Dfs (mU its) (its.length+1) a.1 (· ∈a.2) (max (max M d) (bL x d)) False (fun k=>k=i)->(∀z L,(mU its).E i d z L->cD a.1 z)->Bnd a.1->2*eC a.1+a.2.length<=2*eC D+f.length->kX its a (max (max M d) (bL x d))/\2*eC a.1+a.2.length<2*eC D+(f++[i]).length:=by
  intro a Y X W q4;refine⟨⟨Y.close (oe hA) q (.inr ⟨fun _=>⟨fun hh=>hh,by omega,by rw[o];omega⟩,X⟩),W⟩,?_⟩;simp only[bY,ta];omega
 rcases G with⟨w,rfl⟩|⟨op,g,j,rfl,R,rfl⟩
 ·refine v _ Q ?_ O N
  rintro z L ⟨y,l,⟨C,rfl,rfl⟩|⟨op,g,rfl,_,_⟩⟩
  ·rw[m] at l;cases l;exact P C
  ·rw[m] at l;cases l;exact absurd rfl (w op g)
 ·have e:bQ its j (bL (.jmp op g) d):=bQ.goal q m R
  obtain⟨K,J,C⟩:=Dfs.hnd Q e b (Nat.lt_succ_of_lt (e.lt B.last));refine v _ K ?_ (O.hnd b u F).1 (aN (mj b) N);rintro z L ⟨y,l,⟨h6,rfl,rfl⟩|⟨Z,g',rfl,I,_⟩⟩
  ·rw[m] at l;cases l;exact C _ (P h6)
  ·rw[m] at l;cases l
   rw[tK B.nodup I R];exact J
theorem kX.end (a:cB its)(h:kX its (D,[]) M):ai its=M:=by
 obtain⟨A,c⟩:=a.ann;exact iV (h.dfs.isMost c (fun k b=>by simp at b))
end
end Go.Proofs.Eff
