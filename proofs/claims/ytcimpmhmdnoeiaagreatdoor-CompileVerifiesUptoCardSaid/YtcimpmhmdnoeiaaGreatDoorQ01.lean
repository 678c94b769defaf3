import Derived.Test.YtcimpmhmdnoeiaaGreatDoorQ00
set_option maxRecDepth 100000
set_option linter.all false
namespace Go.Proofs.Eff
abbrev BL:=List UInt8
def ew (b:UInt8):Bool:=(97<=b&&b<=122)||(65<=b&&b<=90)||b==95
def cU (b:UInt8):Bool:=48<=b&&b<=57
def nV (b:UInt8):Bool:=[43,45,42,47,92,60,62,61,126,64,37,38,63,33,44].contains b
def aI:BL->Bool
 |[]=>false
 |c::r=>ew c&&r.all fun b=>ew b||cU b
def cJ (l:BL):Bool:=l==[124]||(!l.isEmpty&&l.all nV)
def aQ (a:BL):BL->List BL×BL
 |[]=>([],a)
 |b::r=>if b=58 then let x:=aQ [] r;((a++[b])::x.1,x.2) else aQ (a++[b]) r
def bS (l:BL):List BL:=(aQ [] l).1
def yS (l:BL):BL:=(aQ [] l).2
def vl (l:BL):Bool:=!(bS l).isEmpty&&(bS l).all (fun p=>aI p.dropLast)&&(yS l).isEmpty
def bo (l:BL):Int:=if aI l then 0 else if cJ l then 1 else if vl l then(bS l).length else-1
def eS (l:BL):Bool:=[[115,101,108,102],[115,117,112,101,114],[110,105,108],[116,114,117,101],[102,97,108,115,101],[116,104,105,115,67,111,110,116,101,120,116]].contains l
def dN (cD:List BL):List BL->Bool
 |[]=>true
 |x::r=>aI x&&!eS x&&!cD.contains x&&dN (cD++[x]) r
def bM (l:List BL):Bool:=dN [] l
def bE (l:BL):Bool:=!l.isEmpty&&l.length<=1000&&(l.length<=1||l.head? !=some 48)&&l.all cU
def dz (l:BL):Bool:=match l with
 |45::r=>bE r&&r !=[48]
 |l=>bE l
def ee (l:BL):Nat:=l.foldl (fun v b=>10*v+(b.toNat-48)) 0
def eP (l:BL):Bool:=l.head? !=some 45&&decide (ee l<=255)
inductive T where
 |mk (kind:Int) (name:BL) (FP FQ:List BL) (FN:List T) (FY FR:Int)
namespace T
def kind:T->Int|mk k _ _ _ _ _ _=>k
def name:T->BL|mk _ n _ _ _ _ _=>n
def FP:T->List BL|mk _ _ n _ _ _ _=>n
def FQ:T->List BL|mk _ _ _ n _ _ _=>n
def FN:T->List T|mk _ _ _ _ n _ _=>n
def FY:T->Int|mk _ _ _ _ _ n _=>n
def FR:T->Int|mk _ _ _ _ _ _ n=>n
mutual
def expr:T->Bool
 |mk k n ns ts l p pl=>
  if k=2 then n.isEmpty&&p==0&&bM ns&&bM ts&&stmts l
  else if !(ns.isEmpty&&ts.isEmpty&&p==0) then false
  else if k=4 then aI n&&!eS n&&(l.length==1)&&exprs l
  else if k=5 then decide (0<=bo n)&&((l.length:Int)==bo n+1)&&exprs l
  else if k=6 then n.isEmpty&&decide (3<=l.length)&&casc l
  else if k=8 then aI n&&l.isEmpty
  else if k=9 then dz n&&l.isEmpty
  else if k=10\/k=11 then l.isEmpty
  else if k=12 then n.isEmpty&&FU l
  else if k=13 then n.isEmpty&&byts l
  else if k=14 then n.isEmpty&&exprs l
  else false
def exprs:List T->Bool
 |[]=>true
 |x::r=>expr x&&exprs r
def casc:List T->Bool
 |[]=>true
 |x::r=>expr x&&msgs r
def msgs:List T->Bool
 |[]=>true
 |x::r=>msg x&&msgs r
def msg:T->Bool
 |mk k n ns ts l p pl=>k==7&&(ns.isEmpty&&ts.isEmpty&&p==0)&&((l.length:Int)==bo n)&&exprs l
def FU:List T->Bool
 |[]=>true
 |x::r=>litOk x&&FU r
def litOk:T->Bool
 |mk k n ns ts l p pl=>
  if k=8 then(n==[116,114,117,101]||n==[102,97,108,115,101]||n==[110,105,108])&&(ns.isEmpty&&ts.isEmpty&&p==0)&&l.isEmpty
  else if 9<=k/\k<=11 then(ns.isEmpty&&ts.isEmpty&&p==0)&&(k !=9||dz n)&&l.isEmpty
  else if k=12 then(ns.isEmpty&&ts.isEmpty&&p==0)&&n.isEmpty&&FU l
  else if k=13 then(ns.isEmpty&&ts.isEmpty&&p==0)&&n.isEmpty&&byts l
  else false
def byts:List T->Bool
 |[]=>true
 |x::r=>byt x&&byts r
def byt:T->Bool
 |mk k n ns ts l p pl=>k==9&&(ns.isEmpty&&ts.isEmpty&&p==0)&&dz n&&l.isEmpty&&eP n
def stmts:List T->Bool
 |[]=>true
 |x::r=>stmt x&&(x.kind !=3||r.isEmpty)&&stmts r
def stmt:T->Bool
 |mk k n ns ts l p pl=>if k=3 then(ns.isEmpty&&ts.isEmpty&&p==0)&&n.isEmpty&&(l.length==1)&&exprs l else expr (mk k n ns ts l p pl)
end
end T
structure TX where
 F:BL
 deep:Int
 most:Int
def TX.put (s:TX)(x:BL):TX:={s with F:=s.F++x}
def TX.opn (s:TX)(x:BL):TX:={F:=s.F++x,deep:=s.deep+1,most:=max s.most (s.deep+1)}
def TX.cls (s:TX)(x:BL):TX:={s with F:=s.F++x,deep:=s.deep-1}
def j7 (b:UInt8):BL:=if b=39 then [39,39] else [b]
def j6 (s:BL):BL:=[39]++s.flatMap j7++[39]
def jY (b:UInt8):Bool:=ew b||cU b||b==58
def lS:BL->Bool
 |[]=>false
 |c::r=>ew c&&(c::r).all jY
def wT (s:BL):BL:=if lS s||cJ s then s else j6 s
def cI (s:BL):Int:=if aI s then 0 else if cJ s then 1 else 2
def dQ (t:T):Int:=if t.kind=4\/t.kind=6 then 4 else if t.kind=5 then 1+cI t.name else 0
def fA (a:BL):List BL->BL
 |[]=>[]
 |[x]=>x
 |x::y::r=>x++a++fA a (y::r)
def TX.btw (s:TX)(first:Bool)(x:BL):TX:=if first then s else s.put x
def cq (f:TX->TX)(a most:Int)(s:TX):TX:=if a<=most then f s else(f (s.opn [40])).cls [41]
def fo:List BL->Bool->TX->TX
 |[],_,s=>s
 |x::r,first,s=>fo r false ((s.btw first [32]).put ([58]++x))
def dm (b a:List BL)(s:TX):TX×BL:=
 let x:TX×BL:=if b=[] then(s,[]) else((fo b true s).put [32,124],[32])
 if a=[] then x else(((((x.1.put x.2).put [124,32]).put (fA [32] a)).put [32,124]),[32])
mutual
def aP:T->TX->TX
 |.mk k n ns ts l _ _,s=>
  if k=4 then
   match l with
   |[]=>s
   |v::_=>aP v ((s.put n).put [32,58,61,32])
  else if k=5 then
   match l with
   |[]=>s
   |v::as=>mg n as ((cq (aP v) (dQ v) (min (cI n+1) 2) s).put [32])
  else if k=6 then
   match l with
   |[]=>s
   |v::ms=>jh ms true ((cq (aP v) (dQ v) (min (cI (match ms with|[]=>[]|m::_=>m.name)+1) 2) s).put [32])
  else if k=8\/k=9 then s.put n
  else if k=10 then s.put (j6 n)
  else if k=11 then(s.put [35]).put (wT n)
  else if k=12 then(eT [32] l true (s.opn [35,40])).cls [41]
  else if k=13 then(eT [32] l true (s.opn [35,91])).cls [93]
  else if k=14 then(eT [46,32] l true (s.opn [123])).cls [125]
  else if k=2 then(cF (dm ns ts (s.opn [91])).2 l true (dm ns ts (s.opn [91])).1).cls [93]
  else s
 termination_by t=>(SizeOf.sizeOf t,0)
def mg (n:BL):List T->TX->TX
 |as,s=>
  if cI n=0 then s.put n
  else if cI n=1 then
   match as with
   |[]=>s
   |a::_=>cq (aP a) (dQ a) 1 ((s.put n).put [32])
  else kwP (bS n) as true s
 termination_by as=>(SizeOf.sizeOf as,1)
def kwP:List BL->List T->Bool->TX->TX
 |p::ps,a::as,first,s=>kwP ps as false (cq (aP a) (dQ a) 2 (((s.btw first [32]).put p).put [32]))
 |_,_,_,s=>s
 termination_by _ as=>(SizeOf.sizeOf as,0)
def jh:List T->Bool->TX->TX
 |[],_,s=>s
 |.mk _ n _ _ l _ _::r,first,s=>jh r false (mg n l (s.btw first [59,32]))
 termination_by l=>(SizeOf.sizeOf l,0)
def eT (a:BL):List T->Bool->TX->TX
 |[],_,s=>s
 |x::r,first,s=>eT a r false (aP x (s.btw first a))
 termination_by l=>(SizeOf.sizeOf l,0)
def cF (a:BL):List T->Bool->TX->TX
 |[],_,s=>s
 |x::r,first,s=>cF a r false (ce x (s.put (if first then a else [46,32])))
 termination_by l=>(SizeOf.sizeOf l,0)
def ce:T->TX->TX
 |.mk k n ns ts l p pl,s=>
  if k=3 then
   match l with
   |[]=>s
   |v::_=>aP v (s.put [94,32])
  else aP (.mk k n ns ts l p pl) s
 termination_by t=>(SizeOf.sizeOf t,1)
end
def dV:List T->TX->TX
 |[],s=>s
 |x::r,s=>dV r ((if r=[] then ce x (s.put [9]) else(ce x (s.put [9])).put [46]).put [10])
def gO:List BL->List BL->Bool->TX->TX
 |p::ps,a::as,first,s=>gO ps as false ((((s.btw first [32]).put p).put [32]).put a)
 |_,_,_,s=>s
def ff (n:BL)(b:List BL)(s:TX):TX:=
 (if aI n then s.put n else if cJ n then(match b with|[]=>s|a::_=>((s.put n).put [32]).put a) else gO (bS n) b true s).put [10]
structure Sub (s s':TX)(N:Int):Prop where
 deep:s'.deep=s.deep
 lo:s.most<=s'.most
 hi:s'.most<=max s.most (s.deep+N)
theorem Sub.refl (s:TX){N:Int}:Sub s s N:=⟨rfl,p8 _,by omega⟩
theorem Sub.put (s:TX)(x:BL){N:Int}:Sub s (s.put x) N:=⟨rfl,p8 _,by show s.most<=_;omega⟩
theorem Sub.btw (s:TX)(b:Bool)(x:BL){N:Int}:Sub s (s.btw b x) N:=by unfold TX.btw;split;exact Sub.refl s;exact Sub.put s x
theorem Sub.trans {a b c:TX}{N:Int}(h:Sub a b N)(k:Sub b c N):Sub a c N:=
 ⟨k.deep.trans h.deep,Int.le_trans h.lo k.lo,by have e:=h.hi;have d:=k.hi;rw[h.deep] at d;omega⟩
theorem Sub.mono {a b:TX}{N M:Int}(h:Sub a b N)(c:N<=M):Sub a b M:=⟨h.deep,h.lo,by have:=h.hi;omega⟩
theorem Sub.brk {s s':TX}{x:BL}{N:Int}(d:0<=N)(h:Sub (s.opn x) s' N)(y:BL):Sub s (s'.cls y) (N+1):=by
 have c:=h.deep;have b:=h.lo;have a:=h.hi;simp only[TX.opn] at c b a;exact⟨by show s'.deep-1=s.deep;omega,by show s.most<=s'.most;omega,by show s'.most<=_;omega⟩
theorem eO {f:TX->TX}{N:Int}(a:0<=N)(h:∀s,Sub s (f s) N)(r m:Int)(s:TX):Sub s (cq f r m s) (N+1):=by
 unfold cq
 split
 ·exact(h s).mono (by omega)
 ·exact(h _).brk a _
theorem ym (l:List BL)(first:Bool)(s:TX){N:Int}:Sub s (fo l first s) N:=by
 induction l generalizing first s with
 |nil=>exact Sub.refl s
 |cons x r ih=>exact((Sub.btw s first [32]).trans (Sub.put _ _)).trans (ih _ _)
theorem mX (a c:List BL)(s:TX){N:Int}:Sub s (dm a c s).1 N:=by
 have b:∀x:TX×BL,x=(if a=[] then(s,[]) else((fo a true s).put [32,124],[32]))->Sub s x.1 N:=by
  rintro x rfl
  split
  ·exact Sub.refl s
  ·exact(ym a true s).trans (Sub.put _ _)
 unfold dm;simp only
 split
 ·exact b _ rfl
 ·exact((((b _ rfl).trans (Sub.put _ _)).trans (Sub.put _ _)).trans (Sub.put _ _)).trans (Sub.put _ _)
theorem Bh {N:Int}(c:0<=N)(ps:List BL)(as:List T)(h:∀x∈as,∀s,Sub s (aP x s) N)(first:Bool)(s:TX):Sub s (kwP ps as first s) (N+1):=by
 induction as generalizing ps first s with
 |nil=>cases ps<;>(rw[kwP];exact Sub.refl s;nofun)
 |cons a as ih=>
  cases ps with
  |nil=>rw[kwP];exact Sub.refl s;nofun
  |cons p ps=>
   rw[kwP];exact(((Sub.btw s first [32]).trans (Sub.put _ _)).trans (Sub.put _ _)).trans ((eO c (h a (by simp)) _ _ _).trans (ih ps (fun x b=>h x (by simp[b])) _ _))
theorem o8 {N:Int}(a:0<=N)(n:BL)(as:List T)(h:∀x∈as,∀s,Sub s (aP x s) N)(s:TX):Sub s (mg n as s) (N+1):=by
 rw[mg.eq_def];dsimp only
 split
 ·exact Sub.put _ _
 ·split
  ·split
   ·exact Sub.refl s
   ·exact((Sub.put s n).trans (Sub.put _ _)).trans (eO a (h _ (by simp)) _ _ _)
  ·exact Bh a _ _ h _ _
theorem yf {N:Int}(e:0<=N)(l:List T)(h:∀m∈l,∀x∈m.FN,∀s,Sub s (aP x s) N)(first:Bool)(s:TX):Sub s (jh l first s) (N+1):=by
 induction l generalizing first s with
 |nil=>rw[jh];exact Sub.refl s
 |cons m r ih=>
  obtain⟨k,n,b,a,l,p,pl⟩:=m;rw[jh];exact((Sub.btw s first _).trans (o8 e n l (fun x c=>h (.mk k n b a l p pl) (by simp) x c) _)).trans (ih (fun m d=>h m (by simp[d])) _ _)
theorem xu {N:Int}(a:BL)(l:List T)(h:∀x∈l,∀s,Sub s (aP x s) N)(first:Bool)(s:TX):Sub s (eT a l first s) N:=by
 induction l generalizing first s with
 |nil=>rw[eT];exact Sub.refl s
 |cons x r ih=>
  rw[eT];exact((Sub.btw s first _).trans (h x (by simp) _)).trans (ih (fun m b=>h m (by simp[b])) _ _)
theorem qy {N:Int}(x:T)(h:∀s,Sub s (aP x s) N)(a:∀y∈x.FN,∀s,Sub s (aP y s) N)(s:TX):Sub s (ce x s) N:=by
 obtain⟨k,n,c,b,l,p,pl⟩:=x;rw[ce.eq_def];dsimp only
 split
 ·split
  ·exact Sub.refl s
  ·exact(Sub.put s _).trans (a _ (by simp[T.FN]) _)
 ·exact h s
theorem vP {N:Int}(a:BL)(l:List T)(h:∀x∈l,∀s,Sub s (ce x s) N)(first:Bool)(s:TX):Sub s (cF a l first s) N:=by
 induction l generalizing first s with
 |nil=>rw[cF];exact Sub.refl s
 |cons x r ih=>
  rw[cF];exact((Sub.put s _).trans (h x (by simp) _)).trans (ih (fun m b=>h m (by simp[b])) _ _)
mutual
def T.nd:T->Nat
 |.mk _ _ _ _ l _ _=>2+T.ndL l
def T.ndL:List T->Nat
 |[]=>0
 |x::r=>T.nd x+T.ndL r
end
theorem Ct {y:T}{l:List T}(h:y∈l):T.nd y<=T.ndL l:=by
 induction l with
 |nil=>cases h
 |cons x r ih=>
  rw[T.ndL];rcases aS.1 h with rfl|h
  ·omega
  ·have:=ih h;omega
theorem bG (t:T):2<=T.nd t:=by obtain⟨k,n,b,a,l,p,pl⟩:=t;rw[T.nd];omega
theorem aD {x y:T}(h:y∈x.FN):T.nd y+2<=T.nd x:=by
 obtain⟨k,n,b,a,l,p,pl⟩:=x;have:=Ct (show y∈l from h);rw[T.nd];omega
theorem xP (n:Nat):∀(t:T),T.nd t<=n->∀s,Sub s (aP t s) (T.nd t:Nat):=by
 induction n with
 |zero=>
  intro t h;have:=bG t;omega
 |succ n ih=>
  intro t C s
  have c:∀y∈t.FN,∀s,Sub s (aP y s) ((T.nd t:Nat)-2:Int):=fun y g s=>by
   have w:=aD g;exact(ih y (by omega) s).mono (by omega)
  have b:∀y∈t.FN,∀z∈y.FN,∀s,Sub s (aP z s) ((T.nd t:Nat)-2:Int):=fun y g z e s=>by
   have w:=aD g;have F:=aD e;exact(ih z (by omega) s).mono (by omega)
  have e:(2:Int)<=(T.nd t:Nat)\/t.FN=[]:=by
   cases hn:t.FN with
   |nil=>exact .inr rfl
   |cons y r=>have:=aD (x:=t) (y:=y) (by rw[hn];simp);left;omega
  have w:(1:Int)<=(T.nd t:Nat):=by
   have:=bG t;omega
  generalize E:(T.nd t:Nat)=N at*;clear C ih E;obtain⟨k,B,u,o,l,p,pl⟩:=t;simp only[T.FN] at c b e;have d:l≠[]->(0:Int)<=(N:Int)-2:=fun i=>by rcases e with h|h;omega;exact absurd h i
  rw[aP.eq_def];dsimp only
  split
  ·split
   ·exact Sub.refl s
   ·exact((Sub.put s _).trans (Sub.put _ _)).trans ((c _ (by simp) _).mono (by omega))
  ·split
   ·split
    ·exact Sub.refl s
    ·rename_i v as
     exact(((eO (d (by simp)) (c v (by simp)) _ _ _).trans (Sub.put _ _)).trans (o8 (d (by simp)) B as (fun x f=>c x (by simp[f])) _)).mono (by omega)
   ·split
    ·split
     ·exact Sub.refl s
     ·rename_i v ms
      exact(((eO (d (by simp)) (c v (by simp)) _ _ _).trans (Sub.put _ _)).trans (yf (d (by simp)) ms (fun m D=>b m (by simp[D])) _ _)).mono (by omega)
    ·split
     ·exact Sub.put _ _
     ·split
      ·exact Sub.put _ _
      ·split
       ·exact(Sub.put s _).trans (Sub.put _ _)
       ·have j:∀a q A,Sub s ((eT a l true (s.opn q)).cls A) N:=fun a q A=>by
         cases l with
         |nil=>rw[eT];exact(Sub.brk (N:=0) (by omega) (Sub.refl _) _).mono (by omega)
         |cons v r=>exact(Sub.brk (d (by simp)) (xu a _ c true _) _).mono (by omega)
        split
        ·exact j _ _ _
        ·split
         ·exact j _ _ _
         ·split
          ·exact j _ _ _
          ·split
           ·cases l with
            |nil=>
             rw[cF];exact(Sub.brk (N:=0) (by omega) (mX u o _) _).mono (by omega)
            |cons v r=>exact(Sub.brk (d (by simp)) ((mX u o _).trans (vP _ _ (fun x f=>qy x (c x f) (b x f)) true _)) _).mono (by omega)
           ·exact Sub.refl s
theorem eU (t:T)(s:TX):Sub s (aP t s) (T.nd t:Nat):=xP _ t (gE _) s
mutual
def gj:T->Int->Int
 |.mk _ _ _ _ l _ _,L=>du l 1 L
def du:List T->Int->Int->Int
 |[],k,_=>k
 |x::r,k,L=>if L<k then k else du r (k+gj x (L-k)) L
end
mutual
theorem jZ:(t:T)->(L:Int)->0<=L->1<=gj t L/\gj t L<=L+1
 |.mk _ _ _ _ l _ _,L,h=>by
  rw[gj];exact qB l 1 L h (by omega) (by omega)
theorem qB:(l:List T)->(k L:Int)->0<=L->1<=k->k<=L+1->1<=du l k L/\du l k L<=L+1
 |[],k,L,h,h1,h2=>by rw[du];exact⟨h1,h2⟩
 |x::r,k,L,h,h1,h2=>by
  rw[du]
  split
  ·exact⟨h1,h2⟩
  ·have:=jZ x (L-k) (by omega)
   exact qB r _ L h (by omega) (by omega)
end
theorem wV (l:List T)(k L:Int)(a:0<=L)(c:1<=k)(b:k<=L+1):k<=du l k L:=by
 induction l generalizing k with
 |nil=>rw[du];omega
 |cons x r ih=>
  rw[du]
  split
  ·omega
  ·have:=jZ x (L-k) (by omega)
   have:=ih (k+gj x (L-k)) (by omega) (by omega);omega
mutual
theorem sT:(t:T)->(L:Int)->0<=L->gj t L<=L->(T.nd t:Int)=2*gj t L
 |.mk _ _ _ _ l _ _,L,h,hs=>by
  rw[gj] at hs ⊢;rw[T.nd];have:=qA l 1 L h (by omega) (by omega) hs
  push_cast
  omega
theorem qA:(l:List T)->(k L:Int)->0<=L->1<=k->k<=L+1->du l k L<=L->(T.ndL l:Int)=2*(du l k L-k)
 |[],k,L,h,h1,h2,hs=>by rw[du,T.ndL];omega
 |x::r,k,L,h,h1,h2,hs=>by
  rw[du] at hs ⊢;rw[T.ndL]
  split at hs
  ·omega
  ·rename_i hk
   rw[if_neg hk];have c:=jZ x (L-k) (by omega);have d:=wV r (k+gj x (L-k)) L h (by omega) (by omega);have b:=sT x (L-k) (by omega) (by omega);have a:=qA r (k+gj x (L-k)) L h (by omega) (by omega) hs
   push_cast
   omega
end
end Go.Proofs.Eff
