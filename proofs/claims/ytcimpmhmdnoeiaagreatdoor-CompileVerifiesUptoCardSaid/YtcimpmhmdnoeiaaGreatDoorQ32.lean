import Derived.Test.YtcimpmhmdnoeiaaGreatDoorQ23
import Derived.Test.YtcimpmhmdnoeiaaGreatDoorQ26
import Derived.Test.YtcimpmhmdnoeiaaGreatDoorQ31
set_option maxRecDepth 100000
set_option linter.all false
namespace Go.Proofs.Eff
open Go.RowKit
section
variable {L:List Value} {i base g c j:Nat} {v:Value} {w w':World} {X:List (List Int)} {xs:List Int} {α:Type}
def pX (L:List Value):Prop:=∀(i j:Nat) (u v:Value) (b:Nat),L[i]?=some u->L[j]?=some v->u.ownBlock=some b->v.ownBlock=some b->i=j
theorem pX.set (h:pX L){v':Value}(p:L[i]?=some v)(q:v'.ownBlock=v.ownBlock\/∃g,v'.ownBlock=some g/\∀x∈L,x.ownBlock≠some g):pX (L.set i v'):=by
 intro a b u x k s r d c
 have f:∀(j:Nat) (y:Value),(L.set i v')[j]?=some y->((j=i/\y=v')\/(j≠i/\L[j]?=some y)):=by
  intro j y l;by_cases e:j=i
  ·subst e
   rw[pn (aC.1 p).1] at l;exact .inl ⟨rfl,by cases l;rfl⟩
  ·rw[lT (Ne.symm e)] at l
   exact .inr ⟨e,l⟩
 rcases f a u s with⟨rfl,rfl⟩|⟨w,n⟩<;>rcases f b x r with⟨rfl,rfl⟩|⟨t,m⟩
 ·rfl
 ·rcases q with e|⟨g,e,o⟩
  ·exact absurd (h _ b v x k p m (by rw[←e];exact d) c).symm t
  ·rw[e] at d;cases d;exact absurd c (o x (eQ m))
 ·rcases q with e|⟨g,e,o⟩
  ·exact absurd (h a _ u v k n p d (by rw[←e];exact c)) w
  ·rw[e] at c;cases c;exact absurd d (o u (eQ n))
 ·exact h a b u x k n m d c
theorem pX.snoc (h:pX L)(l:v.ownBlock=none):pX (L++[v]):=by
 intro a b u x k n m i g
 have c:∀(j:Nat) (y:Value),(L++[v])[j]?=some y->y.ownBlock=some k->L[j]?=some y:=by
  intro j y d f;by_cases e:j<L.length
  ·rw[md e] at d;exact d
  ·rw[j1 (by omega)] at d
   have:=eQ d;simp only[aS,aT,or_false] at this;subst this;rw[l] at f;cases f
 exact h a b u x k (c a u n i) (c b x m g) i g
structure IR (base:Nat)(w:World)(L:List Value)(X:List (List Int)):Prop where
 len:L.length=X.length
 own:∀(i:Nat) (v:Value) (xs:List Int),L[i]?=some v->X[i]?=some xs->w.ownsRow base 3 1 v xs.length (xs.map bz)
 apart:pX L
theorem IR.nth (h:IR base w L X)(b:X[i]?=some xs):∃ad c,L[i]?=some (.slice ad xs.length c)/\w.ownsRow base 3 1 (.slice ad xs.length c) xs.length (xs.map bz):=by
 have d:=(aC.1 b).1;rw[←h.len] at d;have e:L[i]?=some L[i]:=iD d;have a:=h.own i _ xs e b;obtain⟨ad,c,f,-⟩:=aJ a;rw[f] at e a;exact⟨ad,c,e,a⟩
theorem IR.mem (h:IR base w L X)(g:v∈L){b:Nat}(l:v.ownBlock=some b):base<=b/\b<w.heap.size/\∃c a,w.heap[b]?=some (.cells c 3 a):=by
 obtain⟨i,e⟩:=List.mem_iff_getElem?.1 g;have d:=(aC.1 e).1;rw[h.len] at d;have j:=h.own i v _ e (iD d);obtain⟨m,c,a,f⟩:=au j (k:=b) (by rw[l];simp);exact⟨m,ab f,c,a,f⟩
theorem IR.keep (h:IR base w L X){S:List Nat}(l:Mod S w w')(n:∀b∈S,b<base\/∀d c,w.heap[b]?≠some (.cells d 3 c)):IR base w' L X:=
 ⟨h.len,fun i v j f k=>l.row (h.own i v j f k) (fun g m a=>by
  obtain⟨q,p,d,c,o⟩:=h.mem (eQ f) m;rcases n g a with e|e
  ·omega
  ·exact e d c o),h.apart⟩
theorem IR.ext (h:IR base w L X)(a:Ext w w'):IR base w' L X:=h.keep (a.mod []) (by simp)
theorem IR.grow (h:IR base w L X){v':Value}{x:Int}(f:L[i]?=some v)(o:X[i]?=some xs)(p:Mod v.ownBlock.toList w w')(b:w'.ownsRow base 3 1 v' (xs.length+1) (xs.map bz++[bz x]))(l:v'.ownBlock=v.ownBlock\/∃g,v'.ownBlock=some g/\w.heap.size<=g):
 IR base w' (L.set i v') (X.set i (xs++[x])):=by
 refine⟨by simp[h.len],?_,h.apart.set f ?_⟩
 ·intro j u n c a
  by_cases e:j=i
  ·subst e
   rw[pn (aC.1 f).1] at c;rw[pn (aC.1 o).1] at a;cases c;cases a;simpa using b
  ·rw[lT (Ne.symm e)] at c a
   refine p.row (h.own j u n c a) (fun g m k=>?_);have:v.ownBlock=some g:=by simpa using k
   exact e (h.apart j i u v g c f m this)
 ·rcases l with e|⟨g,e,m⟩
  ·exact .inl e
  ·exact .inr ⟨g,e,fun y a d=>by have:=(h.mem a d).2.1;omega⟩
theorem IR.snoc (h:IR base w L X):IR base w (L++[.slice none 0 0]) (X++[[]]):=by
 refine⟨by simp[h.len],?_,h.apart.snoc rfl⟩;intro j u f b a;by_cases e:j<L.length
 ·rw[md e] at b
  rw[md (by rw[←h.len];exact e)] at a;exact h.own j u f b a
 ·rw[j1 (by omega)] at b
  rw[j1 (by rw[←h.len];omega)] at a;have d:=eQ b;have c:=eQ a;simp only[aS,aT,or_false] at d c;subst d;subst c;exact kK _ _ _
theorem IR.put (h:IR base w L X)(l:L[i]?=some (.slice (some ⟨g,0,none⟩) xs.length c))(m:X[i]?=some xs)(j:Nat)(x:Int):IR base (w.setCell ⟨g,j,none⟩ (bz x)) L (X.set i (xs.set j x)):=by
 refine⟨by simp[h.len],?_,h.apart⟩;intro k u n f d;by_cases e:k=i
 ·subst e
  rw[l] at f;rw[pn (aC.1 m).1] at d;cases f;cases d;have:=n7 (h.own _ _ _ l m) j (bz x);simpa [List.map_set] using this
 ·rw[lT (Ne.symm e)] at d
  refine(ae w ⟨g,j,none⟩ (bz x)).row (h.own k u n f d) (fun b o a=>?_);simp only[aS,aT,or_false] at a;subst a;exact e (h.apart k i u _ _ f l o rfl)
theorem IR.cell (h:IR base w L X){x:Int}(l:X[i]?=some xs)(f:xs[j]?=some x):∃g c,L[i]?=some (.slice (some ⟨g,0,none⟩) xs.length c)/\j<xs.length/\base<=g/\g<w.heap.size/\w.cell? ⟨g,j,none⟩=some (.i x)/\∀k,w.frozen? ⟨g,k,none⟩=false:=by
 obtain⟨o,c,m,a⟩:=h.nth l;have b:=(aC.1 f).1
 obtain⟨g,rfl⟩:∃g,o=some ⟨g,0,none⟩:=by
  rcases a.2 with⟨e,d⟩|⟨g,p,n,e,_⟩
  ·simp at d;rw[d] at b;simp at b
  ·cases e;exact⟨g,rfl⟩
 refine⟨g,c,m,b,(aw a).1,gM a,?_,dj a⟩;rw[aX a j b];simp[f,bz]
theorem jF (f:α->List Value)(n:Nat)(b:∀a,(f a).length=n)(L:List α)(j k:Nat)(c:k<n):(L.flatMap f)[j*n+k]?=(L[j]?).bind (fun a=>(f a)[k]?):=by
 induction L generalizing j with
 |nil=>simp
 |cons a r ih=>
  rw[oR];cases j with
  |zero=>
   rw[np,nl,md (by rw[b];exact c)];simp
  |succ j=>
   have e:(j+1)*n+k=n+(j*n+k):=by rw[Nat.succ_mul];omega
   rw[e,j1 (by rw[b];omega),b,Nat.add_sub_cancel_left,ih];simp
theorem tT (f:α->List Value)(n:Nat)(d:∀a,(f a).length=n)(L:List α)(j k:Nat)(i:k<n)(a g:α)(c:L[j]?=some a)(v:Value)(h:(f a).set k v=f g):(L.flatMap f).set (j*n+k) v=(L.set j g).flatMap f:=by
 induction L generalizing j with
 |nil=>simp at c
 |cons b r ih=>
  rw[oR];cases j with
  |zero=>
   simp only[iN,dO] at c;subst c;rw[np,nl,List.set_append_left _ _ (by rw[d];exact i),h];simp
  |succ j=>
   have e:(j+1)*n+k=n+(j*n+k):=by rw[Nat.succ_mul];omega
   rw[e,Do _ _ (by rw[d];omega),d,Nat.add_sub_cancel_left,ih j (by simpa using c)];simp
theorem tU (f:α->List Value)(n:Nat)(b:∀a,(f a).length=n)(L:List α):(L.flatMap f).length=L.length*n:=by
 induction L with
 |nil=>simp
 |cons a r ih=>simp only[oR,bY,ih,b,gi,Nat.succ_mul];omega
structure RE where
 sk:Sk
 sv:Value
 most:Int
def reC (r:RE):List Value:=[.i r.sk.outer,.i r.sk.deep,.i r.sk.FQ,.i r.sk.fin,r.sv,.i r.most]
theorem gq (r:RE):(reC r).length=6:=rfl
structure RR (base:Nat)(w:World)(rv:Value)(R:List RE):Prop where
 own:w.ownsRow base 137 6 rv R.length (R.flatMap reC)
theorem RR.keep {f:Value}{R:List RE}(h:RR base w f R){S:List Nat}(i:Mod S w w')(l:∀b∈S,b<base\/∀d c,w.heap[b]?≠some (.cells d 137 c)):RR base w' f R:=
 ⟨i.row h.own (fun g j a=>by
  obtain⟨n,d,c,m⟩:=au h.own (k:=g) (by rw[j];simp);rcases l g a with e|e
  ·omega
  ·exact e d c m)⟩
theorem RR.ext {a:Value}{R:List RE}(h:RR base w a R)(b:Ext w w'):RR base w' a R:=h.keep (b.mod []) (by simp)
theorem RR.slice {d:Value}{R:List RE}(h:RR base w d R)(j:R≠[]):∃g c,d=.slice (some ⟨g,0,none⟩) R.length c/\base<=g/\g<w.heap.size/\∃l,w.heap[g]?=some (.cells l 137):=by
 have i:=h.own;rcases i.2 with⟨f,b⟩|⟨g,m,k,f,b,e,_⟩
 ·exfalso
  cases R with
  |nil=>exact j rfl
  |cons a r=>simp[reC] at b
 ·exact⟨g,m,f,b,ab e,_,e⟩
theorem RR.at {R:List RE}(h:RR base w (.slice (some ⟨g,0,none⟩) R.length c) R){r:RE}(b:R[j]?=some r):
 w.cell? ⟨g,j*6,none⟩=some (.i r.sk.outer)/\w.cell? ⟨g,j*6+1,none⟩=some (.i r.sk.deep)/\w.cell? ⟨g,j*6+2,none⟩=some (.i r.sk.FQ)/\w.cell? ⟨g,j*6+3,none⟩=some (.i r.sk.fin)/\w.cell? ⟨g,j*6+4,none⟩=some r.sv/\w.cell? ⟨g,j*6+5,none⟩=some (.i r.most):=by
 have e:=(aC.1 b).1
 have a:∀k,k<6->w.cell? ⟨g,j*6+k,none⟩=(reC r)[k]?:=fun k d=>by
  rw[h.own.cellAt (j*6+k) (by omega),jF reC 6 gq R j k d,b];rfl
 exact⟨a 0 (by decide),a 1 (by decide),a 2 (by decide),a 3 (by decide),a 4 (by decide),a 5 (by decide)⟩
theorem RR.skAt {R:List RE}(h:RR base w (.slice (some ⟨g,0,none⟩) R.length c) R):DT w g 0 (R.map RE.sk):=by
 intro j s a;rw[oN] at a;cases hr:R[j]? with
 |none=>rw[hr] at a;cases a
 |some r=>
  rw[hr] at a;cases a;obtain⟨f,e,d,b,_⟩:=h.at hr;simp only[nl];exact⟨f,e,d,b⟩
theorem RR.setSv {R:List RE}(h:RR base w (.slice (some ⟨g,0,none⟩) R.length c) R){r:RE}(a:R[j]?=some r)(v:Value):RR base (w.setCell ⟨g,j*6+4,none⟩ v) (.slice (some ⟨g,0,none⟩) R.length c) (R.set j {r with sv:=v}):=by
 have:=(h.own.stored (j*6+4) v).1;rw[tT reC 6 gq R j 4 (by decide) r {r with sv:=v} a v rfl] at this;exact⟨by rw[As];exact this⟩
end
structure kE (ps:List Int)(e:Int)(n j:Nat)(AL:aZ):Prop where
 at_:∀(i:Nat) (p:Int),i<j->ps[i]?=some p->im AL p=some (kU i)
 fin:im AL e=some (kU n)
theorem kE.zero (ps:List Int)(e:Int)(n:Nat):kE ps e n 0 [(e,kU n)]:=⟨fun i p h=>by omega,by simp[im]⟩
theorem kE.next {ps:List Int}{e:Int}{n j:Nat}{c:aZ}(h:kE ps e n j c)(f:ps.Pairwise (· <·))(g:∀p∈ps,p<e){p:Int}(b:ps[j]?=some p):kE ps e n (j+1) (mA c p (kU j)):=by
 have d:=g p (eQ b);refine⟨fun i q r a=>?_,?_⟩
 ·rw[kS]
  by_cases hij:i=j
  ·subst hij;rw[b] at a;cases a;simp
  ·obtain⟨o,m⟩:=aC.1 a
   obtain⟨l,k⟩:=aC.1 b;have:=(List.pairwise_iff_getElem.1 f) i j o l (by omega);rw[m,k] at this;rw[if_neg (by omega)];exact h.at_ i q (by omega) a
 ·rw[kS,if_neg (by omega)]
  exact h.fin
theorem kE.hit {ps:List Int}{e:Int}{n:Nat}{a:aZ}(h:kE ps e n ps.length a){FL:List (Int×aL)}(f:ps=FL.map (·.1)){p:Int}(c:atL FL e p):∃k:Nat,im a p=some (kU k):=by
 rcases c with⟨x,b⟩|rfl
 ·obtain⟨i,d⟩:=List.mem_iff_getElem?.1 b
  have:ps[i]?=some p:=by rw[f,oN,d];rfl
  exact⟨i,h.at_ i p (aC.1 this).1 this⟩
 ·exact⟨n,h.fin⟩
theorem xg {l:List It}(d:dg l)(a:List It->Int):((aE a (aj l) 0 0 l).map (·.1)).Pairwise (· <·)/\∀p∈(aE a (aj l) 0 0 l).map (·.1),0<=p/\p<(szL l:Int):=by
 have h:=nY a (aj l) 0 0 l d
 have e:(aE a (aj l) 0 0 l).map (·.1)=(fm (aj l) 0 0 l).map (·.1):=by
  rw[←h,List.map_map];rfl
 obtain⟨g,f⟩:=iw (aj l) 0 0 l;rw[e];refine⟨List.pairwise_map.2 g,fun p c=>?_⟩;obtain⟨x,b,rfl⟩:=BP.1 c;have:=f x b;omega
end Go.Proofs.Eff
