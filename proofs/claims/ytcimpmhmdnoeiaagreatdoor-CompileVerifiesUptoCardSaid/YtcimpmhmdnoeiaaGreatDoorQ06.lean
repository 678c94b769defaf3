import Derived.Test.YtcimpmhmdnoeiaaGreatDoorQ03
set_option maxRecDepth 100000
set_option linter.all false
namespace Go.Proofs.Eff
open Go.RowKit
section
def CI (e:TypeId)(z:Value)(size bytes:Nat):Prop:=(Tryz.prog.info? e).map (fun i=>(i.zero,i.size,i.bytes))=some (some z,size,bytes)
def ApN (z:Value)(size a:Nat)(b:Array Value):Prop:=z.cells.size=size/\0<size/\a<=1000/\b.toList.length=1*size/\b.toList.all Value.oneCell'=true
theorem oq {n a:Nat}(h:n<=2000000000)(b:a<=1000):n+1<=maxLen/\(n+1)*a<=140737488355328:=
 ⟨by unfold maxLen;omega,aN (Nat.mul_le_mul (show n+1<=2000000001 by omega) b) (by decide)⟩
section
variable {w:World} {ops:Array Oper} {rest:List Oper} {o:Oper} {a:Act} {Q:Exit->Act->World->Prop} {s x:Operand} {t e:TypeId} {base size bytes n B:Nat} {z v:Value} {xs:List Value} {cs:Array Value} {fr:Nat×Nat}
theorem Eo {a w w':World}{row:Option Nat}(_:Hid (w.grownBy w' row))(h:Ext a w):Hid (Ext a w):=hY h
theorem apd (N:CI e z size bytes)(F:Tryz.prog.underlying t=some (.slice e))(own:w.ownsRow base e size v n xs)(l:w.heap[B]?=some (.cells cs e fr))(j:n<=2000000000)(I:base<=w.heap.size)(C:ApN z size bytes cs)
 (i:o.guard=none) (H:o.op=.call {callee:=.builtin .append,args:=#[s,x],argTypes:=#[t,t]}) (G:a.eval s=v) (D:a.eval x=.slice (some ⟨B,0,none⟩) 1 1)
 (h:∀g f d,Hid (d.ownsRow base e size (.slice (some ⟨g,0,none⟩) (n+1) f) (n+1) (xs++cs.toList))->Hid (w.grownBy d v.ownBlock)->Hid (v.ownBlock=some g\/g=w.heap.size)->wpList Tryz.prog ops Q rest (a.put o.dst (.slice (some ⟨g,0,none⟩) (n+1) f)) d):wpList Tryz.prog ops Q (o::rest) a w:=by
 obtain⟨A,y,r,p,m⟩:=info_parts N;obtain⟨M,L,k,K,J⟩:=C;exact wpList_append_lies _ i s x t H base e A z size bytes F y r p m M L v n xs G own ⟨B,0,none⟩ 1 1 cs.toList D K (World.news_of_block l) (fun u E=>pf.1 J u E) (by decide) (oq j k).1 (oq j k).2 I _ rfl fun g q d a b c _=>h g q d (hY a) (hY b) (hY c)
theorem aps {K:Act->World->Prop}{E:Prop}(P:CI e z size bytes)(G:Tryz.prog.underlying t=some (.slice e))(own:w.ownsRow base e size v n xs)(l:w.heap[B]?=some (.cells cs e fr))(j:n<=2000000000)(J:base<=w.heap.size)(C:ApN z size bytes cs)
 (i:o.guard=none) (I:o.op=.call {callee:=.builtin .append,args:=#[s,x],argTypes:=#[t,t]}) (H:a.eval s=v) (D:a.eval x=.slice (some ⟨B,0,none⟩) 1 1)
 (h:∀g f d,Hid (d.ownsRow base e size (.slice (some ⟨g,0,none⟩) (n+1) f) (n+1) (xs++cs.toList))->Hid (w.grownBy d v.ownBlock)->Hid (v.ownBlock=some g\/g=w.heap.size)->K (a.put o.dst (.slice (some ⟨g,0,none⟩) (n+1) f)) d):if Region.wanted o (yielded ops a.tmps)=true then Oper.wp Tryz.prog o a w K Q else E:=by
 obtain⟨A,y,r,p,m⟩:=info_parts P;obtain⟨O,N,k,M,L⟩:=C;exact step_append_lies _ i s x t I base e A z size bytes G y r p m O N v n xs H own ⟨B,0,none⟩ 1 1 cs.toList D M (World.news_of_block l) (fun u F=>pf.1 L u F) (by decide) (oq j k).1 (oq j k).2 J _ rfl fun g q d a b c _=>h g q d (hY a) (hY b) (hY c)
end
end
section
variable {P:Program} {S:World->Prop} {fuel:Nat} {b:Array Bool} {a:Act} {w:World} {o:Oper}
theorem wo (a:Act)(d:Option Nat)(v:Value):a.put d v={tmps:=(a.put d v).tmps,defers:=a.defers}:=by cases d<;>rfl
def nZ (c:Region.Mode)(b:Array Oper):List Nat->Array Bool->Act->Bool
 |[],_,_=>true
 |i::r,listed,a=>match b[i]? with
  |none=>false
  |some o=>Region.free c b listed i&&(Region.ready c b listed).contains i&&!Region.wanted o (yielded b a.tmps)&&nZ c b r (listed.setIfInBounds i true) (a.put o.dst undef)
def mJ (b:Array Oper):List Nat->Act->Act
 |[],a=>a
 |i::r,a=>mJ b r (a.put ((b[i]?).bind (·.dst)) undef)
def mI:List Nat->Array Bool->Array Bool
 |[],l=>l
 |i::r,l=>mI r (l.setIfInBounds i true)
theorem Da {g:Region.Mode}{d:Array Oper}{Q:Exit->Act->World->Prop}(f:List Nat)(j:Region.noSelect d=true)
 (e:nZ g d f b a=true) (hQ:∀c (a:Act) t w,Q (.panic c) {tmps:=t,defers:=a.defers} w->Q (.panic c) a w) (k:S w) (h:wpAnyH P g d Q S fuel (mI f b) (mJ d f a) w):wpAnyH P g d Q S (fuel+f.length) b a w:=by
 induction f generalizing b a with
 |nil=>exact h
 |cons i r ih=>
  rw[nZ] at e;cases ho:d[i]? with
  |none=>rw[ho] at e;cases e
  |some o=>
   rw[ho] at e;simp only[gT,Bool.not_eq_true'] at e;obtain⟨⟨⟨p,n⟩,m⟩,l⟩:=e;rw[mI,mJ,ho] at h;exact wpAnyH_take (i:=i) (v:=undef) ho j p n (fun c a w h=>hQ c a _ w (wo _ _ _ ▸ h)) (Or.inr ⟨m,rfl⟩) k (ih l h)
theorem sk {f:Region.Mode}{d:Array Oper}{Q:Exit->Act->World->Prop}(e:List Nat){g:Array Bool}{i:Act}(n:S w)(h:wpAnyH P f d Q S fuel g i w)(j:Region.noSelect d=true:=by kernel_rfl)
 (l:nZ f d e b a=true:=by kernel_rfl) (hQ:∀c (a:Act) t w,Q (.panic c) {tmps:=t,defers:=a.defers} w->Q (.panic c) a w:=by exact fun _ _ _ _ h=>h) (k:mI e b=g:=by((try simp only[mJ,mI,FA,iN,og,Option.bind_some,Act.put,nb,ou,oF]);rfl)) (m:mJ d e a=i:=by((try simp only[mJ,mI,FA,iN,og,Option.bind_some,Act.put,nb,ou,oF]);rfl)):wpAnyH P f d Q S (fuel+e.length) b a w:=
 Da e j l hQ n (by rw[k,m];exact h)
def uC (d:Region.Mode)(c:Array Oper)(o:Oper)(i:Nat)(b:Array Bool)(a:Act):Bool:=
 Region.noSelect c&&Region.free d c b i&&(Region.ready d c b).contains i&&Region.wanted o (yielded c a.tmps)
theorem Ec {e:Region.Mode}{d:Array Oper}{Q:Exit->Act->World->Prop}(i:Nat){v:Value}(j:d.toList[i]?=some o)
 (f:uC e d o i b a=true) (hQ:∀c (a:Act) t w,Q (.panic c) {tmps:=t,defers:=a.defers} w->Q (.panic c) a w) (k:S w) (g:∀w,S w->(execOp a.eval o).run P w=.ok (.value v) w)
 (h:wpAnyH P e d Q S fuel (b.setIfInBounds i true) (a.put o.dst v) w):wpAnyH P e d Q S (fuel+1) b a w:=by
 simp only[uC,gT] at f;obtain⟨⟨⟨p,n⟩,m⟩,l⟩:=f;exact wpAnyH_take (i:=i) (by rw[←C2];exact j) p n m (fun c a w h=>hQ c a _ w (wo _ _ _ ▸ h)) (Or.inl ⟨l,g⟩) k h
theorem tk {e:Region.Mode}{d:Array Oper}{Q:Exit->Act->World->Prop}(i:Nat){v:Value}{g:Array Bool}{j:Act}(q:S w)
 (h:wpAnyH P e d Q S fuel g j w) (l:d.toList[i]?=some o:=by rfl) (n:uC e d o i b a=true:=by kernel_rfl) (hQ:∀c (a:Act) t w,Q (.panic c) {tmps:=t,defers:=a.defers} w->Q (.panic c) a w:=by exact fun _ _ _ _ h=>h)
 (k:∀w,S w->(execOp a.eval o).run P w=.ok (.value v) w:=by(intro w f;(try dsimp only at f);go_simp;(try with_reducible rfl))) (m:b.setIfInBounds i true=g:=by((try simp only[nb,ou,oF]);rfl)) (p:a.put o.dst v=j:=by((try simp only[Act.put,nb,ou,oF]);rfl)):wpAnyH P e d Q S (fuel+1) b a w:=
 Ec i l n hQ q k (by rw[m,p];exact h)
theorem kz {d:Region.Mode}{c:Array Oper}{Q:Exit->Act->World->Prop}(i:Nat)(g:c.toList[i]?=some o)
 (f:Region.ready d c b=[i])
 (h:∀e:Act->World->Prop,Shut (∀a w,S w->(S w->wpAnyH P d c Q S fuel (b.setIfInBounds i true) a w)->e a w)->if Region.wanted o (yielded c a.tmps)=true then Oper.wp P o a w e Q else e (a.put o.dst undef) w):wpAnyH P d c Q S (fuel+1) b a w:=
 wpAnyH_ready f (by simp) (AllReadyH.cons (by rw[←C2];exact g) h AllReadyH.nil)
end
theorem vR {p q:UInt8->Bool}(h:∀n:Fin 256,p (UInt8.ofNat n.val)=q (UInt8.ofNat n.val))(x:UInt8):p x=q x:=by
 have:=h ⟨x.toNat,x.toNat_lt⟩;simpa using this
theorem gZ (x:UInt8):decide (fu x.toNat=2)=ew x:=vR (p:=fun x=>decide (fu x.toNat=2)) (q:=ew) (by decide) x
theorem nk (x:UInt8):decide (fu x.toNat=3)=cU x:=vR (p:=fun x=>decide (fu x.toNat=3)) (q:=cU) (by decide) x
theorem BA (x:UInt8):decide (fu x.toNat=4)=nV x:=vR (p:=fun x=>decide (fu x.toNat=4)) (q:=nV) (by decide) x
abbrev bl (s:ByteArray):BL:=s.data.toList
theorem bX (s:ByteArray):s.size=(bl s).length:=by show s.data.size=_;simp
theorem ey (s:ByteArray):s.toList=bl s:=ByteArray.toList_eq ..
theorem f9 (s:ByteArray)(k:Nat)(h:k<s.size):(bl s)[k]?=some s[k]:=by
 show s.data.toList[k]?=some s.data[k]
 rw[C2,Array.getElem?_eq_getElem]
theorem my {s:ByteArray}{k:Nat}(h:k<s.size):(bl s).drop k=s[k]::(bl s).drop (k+1):=by
 have a:k<(bl s).length:=by rw[←bX];exact h
 rw[hI a]
 congr 1
def mkS (l:BL):ByteArray:=⟨l.toArray⟩
theorem aG (l:BL):bl (mkS l)=l:=by simp[bl,mkS]
theorem aR (l:BL):(mkS l).size=l.length:=by rw[bX,aG]
theorem jw (s:ByteArray):mkS (bl s)=s:=by cases s;simp[mkS,bl]
theorem kL (l:BL):(mkS l).toList.isEmpty=l.isEmpty:=by rw[ey,aG]
theorem jx (a b:BL):((mkS a).toList==(mkS b).toList)=decide (a=b):=by
 rw[ey,ey,aG,aG];exact rW.2 (by simp)
def ao:Nat:=1048576
def I64 (n:Int):Prop:= -9223372036854775808<=n/\n<9223372036854775808
structure bT (w:World)(top:Nat)(a:Option Addr)(c:Nat)(l:List BL):Prop where
 cap:l.length<=c
 nil0:a=none->c=0
 row:l≠[]->∃g off,a=some ⟨g,off,none⟩/\g<top/\∀j x,l[j]?=some x->w.cell? ⟨g,off+j,none⟩=some (.string (mkS x))
 big:c<=maxLen
 small:l.length<=ao
 each:∀x∈l,x.length<=ao
theorem bT.keep {w w':World}{top c:Nat}{a:Option Addr}{l:List BL}(h:bT w top a c l)(f:∀k,k<top->w'.heap[k]?=w.heap[k]?):bT w' top a c l:=
 ⟨h.cap,h.nil0,fun e=>by
  obtain⟨g,b,n,d,m⟩:=h.row e;refine⟨g,b,n,d,fun j x i=>?_⟩;rw[←m j x i]
  exact World.cell?_of_block (a:=⟨g,b+j,none⟩) (f _ d),h.big,h.small,h.each⟩
mutual
def TAt (w:World)(top:Nat):T->List Value->Prop
 |.mk k n ns ts l p pl,cs=>∃h e f d c b,cs=[.i k,.string (mkS n),.slice h ns.length e,.slice f ts.length d,.slice c l.length b,.i p,.i pl]/\bT w top h e ns/\bT w top f d ts
  /\(l.length<=b/\(c=none->b=0)/\b<=maxLen/\l.length<=ao)/\(l≠[]->∃g a,c=some ⟨g,a,none⟩/\g<top/\LAt w top g a l)/\n.length<=ao/\I64 k/\I64 p/\I64 pl
def LAt (w:World)(top g:Nat):Nat->List T->Prop
 |_,[]=>True
 |off,t::r=>(∃a,a.length=7/\(∀i,i<7->w.cell? ⟨g,off+i,none⟩=a[i]?)/\TAt w top t a)/\LAt w top g (off+7) r
end
theorem LAt.at {w:World}{top g a:Nat}{l:List T}(h:LAt w top g a l){j:Nat}{x:T}(c:l[j]?=some x):∃b,b.length=7/\(∀i,i<7->w.cell? ⟨g,a+j*7+i,none⟩=b[i]?)/\TAt w top x b:=by
 induction l generalizing a j with
 |nil=>simp at c
 |cons t r ih=>
  rw[LAt] at h;cases j with
  |zero=>
   simp only[iN,dO] at c;subst c;simpa using h.1
  |succ j=>
   obtain⟨b,k,f,e⟩:=ih h.2 (by simpa using c);refine⟨b,k,fun i d=>?_,e⟩;rw[←f i d]
   congr 2
   omega
mutual
theorem TAt.keep {w w':World}{top:Nat}(b:∀k,k<top->w'.heap[k]?=w.heap[k]?):(t:T)->(c:List Value)->TAt w top t c->TAt w' top t c
 |.mk k n ns ts l p pl,c,h=>by
  rw[TAt] at h ⊢;obtain⟨A,x,z,v,y,u,q,o,m,j,i,f⟩:=h;refine⟨A,x,z,v,y,u,q,o.keep b,m.keep b,j,fun e=>?_,f⟩;obtain⟨g,a,s,d,r⟩:=i e;exact⟨g,a,s,d,LAt.keep b d l a r⟩
theorem LAt.keep {w w':World}{top g:Nat}(c:∀k,k<top->w'.heap[k]?=w.heap[k]?)(d:g<top):(l:List T)->(b:Nat)->LAt w top g b l->LAt w' top g b l
 |[],_,_=>by rw[LAt];trivial
 |t::r,b,h=>by
  rw[LAt] at h ⊢;obtain⟨⟨e,o,n,m⟩,j⟩:=h;refine⟨⟨e,o,fun i f=>?_,TAt.keep c t e m⟩,LAt.keep c d r (b+7) j⟩;rw[←n i f];exact World.cell?_of_block (a:=⟨g,b+i,none⟩) (c _ d)
end
structure NAt (w:World)(top:Nat)(a:Option Addr)(c:Nat)(l:List T):Prop where
 cap:l.length<=c
 nil0:a=none->c=0
 big:c<=maxLen
 small:l.length<=ao
 row:l≠[]->∃g off,a=some ⟨g,off,none⟩/\g<top/\∀j x,l[j]?=some x->∃cs,cs.length=7/\(∀i,i<7->w.cell? ⟨g,off+j*7+i,none⟩=cs[i]?)/\TAt w top x cs
theorem NAt.keep {w w':World}{top c:Nat}{a:Option Addr}{l:List T}(h:NAt w top a c l)(d:∀k,k<top->w'.heap[k]?=w.heap[k]?):NAt w' top a c l:=
 ⟨h.cap,h.nil0,h.big,h.small,fun m=>by
  obtain⟨g,b,t,e,s⟩:=h.row m;refine⟨g,b,t,e,fun j x n=>?_⟩;obtain⟨f,r,q,p⟩:=s j x n;refine⟨f,r,fun i o=>?_,TAt.keep d x f p⟩;rw[←q i o]
  exact World.cell?_of_block (a:=⟨g,_,none⟩) (d _ e)⟩
def TV (w:World)(top:Nat)(v:Value)(t:T):Prop:=∃a:List Value,v=.agg a.toArray/\TAt w top t a
structure bK (w:World)(top:Nat)(t:T)(a1:Option Addr)(c1:Nat)(a2:Option Addr)(c2:Nat)(a3:Option Addr)(c3:Nat):Prop where
 FP:bT w top a1 c1 t.FP
 FQ:bT w top a2 c2 t.FQ
 FN:NAt w top a3 c3 t.FN
 name:t.name.length<=ao
 kind:I64 t.kind
 FY:I64 t.FY
 FR:I64 t.FR
def Cs (t:T)(f:Option Addr)(c:Nat)(e:Option Addr)(b:Nat)(d:Option Addr)(a:Nat):List Value:=
 [.i t.kind,.string (mkS t.name),.slice f t.FP.length c,.slice e t.FQ.length b,.slice d t.FN.length a,.i t.FY,.i t.FR]
theorem TAt.parts {w:World}{top:Nat}{t:T}{q:List Value}(h:TAt w top t q):∃f c e b d a,q=Cs t f c e b d a/\bK w top t f c e b d a:=by
 obtain⟨k,n,K,J,l,p,pl⟩:=t;rw[TAt] at h;obtain⟨f,c,e,b,d,a,F,E,D,⟨C,B,A,z⟩,y,v,u,o,m⟩:=h;refine⟨f,c,e,b,d,a,F,E,D,⟨C,B,A,z,fun r=>?_⟩,v,u,o,m⟩;obtain⟨g,i,I,H,G⟩:=y r;exact⟨g,i,I,H,fun j x s=>G.at s⟩
theorem bK.keep {w w':World}{top:Nat}{t:T}{g:Option Addr}{d:Nat}{f:Option Addr}{c:Nat}{e:Option Addr}{b:Nat}(h:bK w top t g d f c e b)(a:∀k,k<top->w'.heap[k]?=w.heap[k]?):bK w' top t g d f c e b:=
 ⟨h.FP.keep a,h.FQ.keep a,h.FN.keep a,h.name,h.kind,h.FY,h.FR⟩
theorem am {w w':World}{top:Nat}(h:Ext w w')(a:top<=w.heap.size):∀k,k<top->w'.heap[k]?=w.heap[k]?:=fun k b=>h.block (by omega)
theorem NAt.at {w:World}{top c:Nat}{a:Option Addr}{l:List T}(h:NAt w top a c l){j:Nat}{x:T}(p:l[j]?=some x):∃g b o k n f m d,a=some ⟨g,b,none⟩/\g<top/\(∀i,i<7->w.cell? ⟨g,b+j*7+i,none⟩=(Cs x o k n f m d)[i]?)/\bK w top x o k n f m d:=by
 obtain⟨g,b,v,u,t⟩:=h.row (by intro e;rw[e] at p;simp at p);obtain⟨y,_,s,r⟩:=t j x p;obtain⟨o,k,n,f,m,d,rfl,q⟩:=r.parts;exact⟨g,b,o,k,n,f,m,d,v,u,s,q⟩
theorem NAt.drop {w:World}{top c:Nat}{a:Option Addr}{l:List T}(h:NAt w top a c l){lo:Nat}(y:lo<=l.length):NAt w top (if c=lo then a else a.map (·.add (lo*7))) (c-lo) (l.drop lo):=by
 have v:=h.cap;refine⟨by simp;omega,fun e=>?_,by have:=h.big;omega,by have:=h.small;simp;omega,fun m=>?_⟩
 ·split at e
  ·have:=h.nil0 e;omega
  ·cases a with
   |none=>have:=h.nil0 rfl;omega
   |some ad=>simp at e
 ·have b:lo<l.length:=by
   rcases Nat.lt_or_ge lo l.length with f|f
   ·exact f
   ·exact absurd (hH f) m
  obtain⟨g,d,t,s,r⟩:=h.row (by intro e;rw[e] at b;simp at b);subst t;rw[if_neg (by omega)];refine⟨g,d+lo*7,by simp[Addr.add_lit],s,fun j x k=>?_⟩;obtain⟨u,q,p,o⟩:=r (lo+j) x (by rw[List.getElem?_drop] at k;exact k);refine⟨u,q,fun i n=>?_,o⟩;rw[←p i n]
  congr 2
  omega
end Go.Proofs.Eff
