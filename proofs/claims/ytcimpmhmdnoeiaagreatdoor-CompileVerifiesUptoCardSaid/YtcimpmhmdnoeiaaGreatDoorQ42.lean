import Derived.Test.YtcimpmhmdnoeiaaGreatDoorQ41
set_option maxRecDepth 100000
set_option maxHeartbeats 2000000
set_option linter.all false
namespace Go.Proofs.Eff
open Go.RowKit
theorem vn {x v:T}{b:List T}(c:x.FN=v::b)(h:ft x=true):(∀y∈b,aY y=true)/\(de.isPrefixOf x.name=true->aY v=true):=by
 unfold ft at h;rw[c,oj] at h;simp only[gT,pf] at h;refine⟨fun y a=>?_,fun d=>?_⟩
 ·refine h.1 y ?_
  split
  ·exact sb _ a
  ·exact a
 ·refine h.1 v ?_
  rw[if_pos d];simp
theorem vi {x:T}(c:x.kind=5)(a:T.expr x=true):∃v b,x.FN=v::b/\(b.length:Int)=bo x.name/\∀y∈v::b,T.expr y=true:=by
 obtain⟨k,n,e,d,l,p,pl⟩:=x;obtain rfl:k=5:=c;rw[iy,if_neg (by decide)] at a
 split at a
 ·cases a
 ·rw[if_neg (by decide),if_pos rfl] at a
  simp only[gT,beq_iff_eq,pf,decide_eq_true_eq] at a;rcases l with _|⟨y,r⟩
  ·simp at a;omega
  ·exact⟨y,r,rfl,by have:=a.1.2;simp only[gi] at this;show(r.length:Int)=bo n;omega,a.2⟩
theorem Af (fs gs:List BL)(x:T)(n:x.kind=5)(he:T.expr x=true)(IH:∀y,T.nd y<T.nd x->T.expr y=true->eY fs gs y):lP fs gs x:=by
 obtain⟨v,f,g,e,h⟩:=vi n he;have i:∀y∈v::f,eY fs gs y:=fun y k=>IH y (by have:=aD (x:=x) (y:=y) (by rw[g];exact k);omega) (h y k);have Q:∀y∈v::f,aY y=true->∀z∈y.FN,eA fs gs z:=fun y k P=>ry fs gs (tj P (h y k)) (T.nd x) (by have:=aD (x:=x) (y:=y) (by rw[g];exact k);have:=bF y;omega) IH;have A:=i v (by simp);have O:∀y∈f,eY fs gs y:=fun y k=>i y (sb _ k);cases hik:aO x.name with
 |none=>
  intro base top p w I H s r u d c F N K M J L t B E i C G D;by_cases h1:t=1
  ·exact pZ fs gs x v f n g A O hik (.inl hik) base top p w I H s r u d c F N K M J L t h1 B E i C G D
  ·exact qa fs gs x v f n g A O hik (.inl hik) base top p w I H s r u d c F N K M J L t h1 B E i C G D
 |some q=>
  obtain⟨V,j,o⟩:=q;obtain⟨R,X,W⟩:=mV hik
  have a:de.isPrefixOf x.name=false->f≠[]:=by
   rintro P rfl;cases V with
   |true=>rw[(W rfl).2] at P;cases P
   |false=>
    by_cases m:o=0
    ·have:=R rfl m;simp only[hG] at e;omega
    ·have:=(X rfl m).1;simp only[hG] at e;omega
  cases hib:ft x with
  |false=>
   intro base top p w I H s r u d c F N K M J L t B E i C G D;by_cases h1:t=1
   ·exact oA fs gs x v f n g A O ⟨_,_,_,hik⟩ hib a (.inr hib) base top p w I H s r u d c F N K M J L t h1 B E i C G D
   ·exact oB fs gs x v f n g A O ⟨_,_,_,hik⟩ hib a (.inr hib) base top p w I H s r u d c F N K M J L t h1 B E i C G D
  |true=>
   obtain⟨l,S⟩:=vn g hib;cases V with
   |true=>exact rx fs gs x v f j o hik g (Q v (by simp) (S (W rfl).2)) (fun b Y=>Q b (sb _ Y) (l b Y)) n hib a
   |false=>
    rcases f with _|⟨b,Z⟩
    ·exfalso
     by_cases m:o=0
     ·have:=R rfl m;simp only[hG] at e;omega
     ·have:=(X rfl m).1;simp only[hG] at e;omega
    ·refine oC fs gs x v b Z j o hik g A (Q b (by simp) (l b (by simp))) (fun m=>?_) n hib a
     rcases Z with _|⟨U,r3⟩
     ·have:=R rfl m;simp only[hG,gi] at e;omega
     ·exact⟨U,r3,rfl,Q U (by simp) (l U (by simp))⟩
theorem sK (fs gs:List BL)(x:T)(a:T.expr x=true)(i:∀y,T.nd y<T.nd x->T.expr y=true->eY fs gs y):lP fs gs x:=by
 have s:∀y∈x.FN,T.expr y=true->eY fs gs y:=fun y d=>i y (by have:=aD d;omega);rcases qU a with b|b|b|b|b|b|b|b|b|b|b
 ·refine Ah fs gs x b (ry fs gs ?_ (T.nd x) (by have:=bF x;omega) i)
  obtain⟨k,n,o,j,l,p,pl⟩:=x;obtain rfl:k=2:=b;rw[iy,if_pos rfl] at a;simp only[gT] at a;exact a.2
 ·obtain⟨v,t,e⟩:∃v,x.FN=[v]/\T.expr v=true:=by
   obtain⟨k,n,o,j,l,p,pl⟩:=x;obtain rfl:k=4:=b;rw[iy,if_neg (by decide)] at a
   split at a
   ·cases a
   ·rw[if_pos rfl] at a
    simp only[gT,beq_iff_eq] at a;obtain⟨y,rfl⟩:=p9.1 a.1.2;exact⟨y,rfl,by simpa using a.2⟩
  exact Ag fs gs x v b t (s v (by rw[t];simp) e)
 ·exact Af fs gs x b a i
 ·obtain⟨v,g,f,q,e,r⟩:∃v g f,x.FN=v::g::f/\T.expr v=true/\∀m∈g::f,∀y∈m.FN,T.expr y=true:=by
   obtain⟨k,n,o,j,l,p,pl⟩:=x;obtain rfl:k=6:=b;rw[iy,if_neg (by decide)] at a
   split at a
   ·cases a
   ·rw[if_neg (by decide),if_neg (by decide),if_pos rfl] at a
    simp only[gT,decide_eq_true_eq] at a;rcases l with _|⟨y,_|⟨g,f⟩⟩
    ·simp at a
    ·simp at a
    ·have h:=a.2
     rw[si] at h;simp only[gT,pf] at h;refine⟨y,g,f,rfl,h.1,fun m r z B=>?_⟩;have c:=h.2 m r;obtain⟨mk,D,A,u,E,C,w⟩:=m;rw[uV] at c;simp only[gT,beq_iff_eq,pf] at c;exact c.2 z B
  exact Ae fs gs x b v g f q (s v (by rw[q];simp) e) (fun m c y d=>i y (by have:=aD (x:=x) (y:=m) (by rw[q];exact sb _ c);have:=aD d;omega) (r m c y d))
 ·exact Ad fs gs x b
 ·cases hf:dC x.name with
  |true=>exact wL fs gs x b a hf
  |false=>exact uA fs gs x b a hf
 ·exact sJ fs gs x b a
 ·exact sI fs gs x b a
 ·exact sH fs gs x b a
 ·exact sG fs gs x b a
 ·refine yv fs gs x b (fun y d=>s y d ?_)
  obtain⟨k,n,o,j,l,p,pl⟩:=x;obtain rfl:k=14:=b;rw[iy,if_neg (by decide)] at a
  split at a
  ·cases a
  ·simp only[show¬((14:Int)=4) by decide,show¬((14:Int)=5) by decide,show¬((14:Int)=6) by decide,show¬((14:Int)=8) by decide,show¬((14:Int)=9) by decide,show¬((14:Int)=10) by decide,show¬((14:Int)=11) by decide,show¬((14:Int)=12) by decide,show¬((14:Int)=13) by decide,if_false,if_true,or_self,gT,pf] at a
   exact a.2 y d
theorem qu (fs gs:List BL):∀(N:Nat) (x:T),T.nd x<=N->T.expr x=true->eY fs gs x
 |0,x,h,_=>by
  have:=bG x;omega
 |N+1,x,h,he=>by
  intro base top p w i g s r d a c F o l n k m j e f q u t;cases hw:s.F9 with
  |none=>exact sK fs gs x he (fun y v b=>qu fs gs N y (by omega) b) base top p w i g s r d a c F o l n k m j hw e f q u t
  |some z=>exact sE fs gs x base top p w i g s r d a c F o l n k m j (by rw[hw];rfl) e f
theorem yw (fs gs:List BL)(x:T)(a:T.expr x=true):eY fs gs x:=qu fs gs _ x (gE _) a
theorem Ao (fs gs:List BL){l:List T}(h:T.stmts l=true):∀y∈l,eA fs gs y:=ry fs gs h (T.ndL l+1) (by omega) (fun y _ a=>yw fs gs y a)
def EC (base:Nat)(v:Value)(w:World)(xs:List Value)(e:Ending)(w':World):Prop:=∃a,e=.returned a/\w'.ownsRow base 5 1 a xs.length xs/\Mod v.ownBlock.toList w w'/\(a.ownBlock=v.ownBlock\/∃b,a.ownBlock=some b/\w.heap.size<=b)
def u8L (l:List Int):List Value:=l.map fun b=>.int .u8 (b8 b)
def uw (base:Nat)(v:Value)(w:World)(xs:List Value)(bs:List Int)(j:Nat)(v':Value)(w':World):Prop:=w'.ownsRow base 5 1 v' (xs.length+j) (xs++u8L (bs.take j))/\Mod v.ownBlock.toList w w'/\(v'.ownBlock=v.ownBlock\/∃b,v'.ownBlock=some b/\w.heap.size<=b)
theorem uw.next {base:Nat}{v:Value}{w:World}{xs:List Value}{bs:List Int}{j:Nat}{v' f:Value}{w' g:World}{b:Int}(h:uw base v w xs bs j v' w')(l:bs[j]?=some b)(o:g.ownsRow base 5 1 f (xs.length+j+1) ((xs++u8L (bs.take j))++[.int .u8 (b % 256)]))(n:(w'.alloc (.cells #[.int .u8 (b % 256)] 5)).grownBy g v'.ownBlock)(d:f.ownBlock=v'.ownBlock\/∃k,f.ownBlock=some k/\w'.heap.size<=k):uw base v w xs bs (j+1) f g:=by
 obtain⟨q,i,a⟩:=h;refine⟨?_,?_,?_⟩
 ·have e:xs++u8L (bs.take (j+1))=(xs++u8L (bs.take j))++[.int .u8 (b % 256)]:=by
   rw[tO,l,AN];unfold u8L;rw[An,gz];rfl
  rw[e];exact o
 ·refine eF (i.ext ((Ext.refl w').alloc _)) (ag n) (fun x c=>?_)
  rcases a with a|⟨k,a,p⟩
  ·rw[a] at c;exact .inl c
  ·rw[a] at c
   simp only[AN,aS,aT,or_false] at c;subst c;exact .inr p
 ·rcases d with d|⟨k,d,m⟩
  ·rw[d];exact a
  ·exact .inr ⟨k,d,aN i.size m⟩
theorem Dn (base:Nat)(w:World)(v:Value)(xs:List Value)(bs:List Int)(B:w.ownsRow base 5 1 v xs.length xs)(K:base<=w.heap.size)(J:xs.length+bs.length<=1048576)(q:Nat)(g:w.heap[q]?=some (.cells (bs.map (Value.int .i64)).toArray 3)):
 Calls Tryz.prog 174 #[v,.slice (some ⟨q,0,none⟩) bs.length bs.length] w (EC base v w (xs++u8L bs)):=by
 have Z:=hY g;have X:Hid (uw base v w xs bs 0 v w):=hY ⟨by simpa [u8L] using B,Mod.refl _ _,.inl rfl⟩
 have f:¬q∈v.ownBlock.toList:=by
  intro d;rcases B.2 with⟨C,_⟩|⟨g',N,U,C,_,S,_⟩
  ·rw[C] at d;simp[Value.ownBlock] at d
  ·rw[C] at d
   simp only[Value.ownBlock,AN,aS,aT,or_false] at d;subst d;rw[S] at g;simp only[dO,Obj.cells.injEq] at g;exact absurd g.2.1 (by decide)
 have V:Hid (∀x,Mod v.ownBlock.toList w x->∀i,x.cell? ⟨q,i,none⟩=(bs.map (Value.int .i64))[i]?):=hY (fun x h i=>by rw[(blk (h.keep Z.o f)).1];simp);have F:=hY K;have Y:=hY J;have R:bs.length<=1048576:=by omega
 clear B g J K f;obtain⟨P,Q,A,z,y⟩:=info_parts sh;generalize d:bs.length=m at*;have HM:=hY d;clear d;go_enter Tryz.func174,Tryz.ntmps174;go_upto_region 2 with fail
 go_loopw [9,0] (fun i t wr=>∃j:Nat,j<=m/\i=.i (j:Int)/\uw base v w xs bs j t wr) (fun i _ _=>m-(intOf i).toNat)
 case atStart=>exact⟨0,by omega,rfl,X.o⟩
 case round=>
  obtain⟨j,hj,rfl,M⟩:=hrel;have L:=hY M;clear M;by_cases hlt:j<m
  ·obtain⟨b,e⟩:∃b,bs[j]?=some b:=⟨bs[j]'(by rw[HM.o];exact hlt),by simp⟩
   have qc:wr.cell? ⟨q,j,none⟩=some (.i b):=by rw[V.o _ L.o.2.1];simp[e]
   have BJ:=hY e;have O:Hid (Ext wr (wr.alloc (.cells #[.int .u8 (b % 256)] 5))):=hY ((Ext.refl wr).alloc _);have D:=hY (ak L.o.1 O.o);have s:=hY (World.news_of_block (aq wr (.cells #[.int .u8 (b % 256)] 5) _ rfl));have p:Hid (∀u∈([.int .u8 (b % 256)]:List Value),u.oneCell'=true):=hY (by intro u I;simp only[aS,aT,or_false] at I;rw[I];rfl);have G:Hid (base<=(wr.alloc (.cells #[.int .u8 (b % 256)] 5)).heap.size):=hY (aN F.o (aN L.o.2.1.size O.o.size));have r:Hid ((xs.length+j+1)*1<=140737488355328/\xs.length+j+1<=maxLen):=hY (by have:=Y.o;exact⟨by omega,by unfold maxLen;omega⟩);have E:Hid ((wr.alloc (.cells #[.int .u8 (b % 256)] 5)).heap.size=wr.heap.size+1):=hY (by show(wr.heap.push _).size=_;exact tc ..);clear e;go_wp2_with (at_builtin;refine wpList_append_lies _ rfl (.tmp 13) (.tmp 16) 32 rfl base 5 P _ 1 1 Tryz.underlying32 Q A z y rfl (by decide) _ (xs.length+j) (xs++u8L (bs.take j)) rfl D.o ⟨wr.heap.size,0,none⟩ 1 1 [.int .u8 (b % 256)] rfl rfl s.o p.o (by decide) r.o.2 r.o.1 G.o _ rfl ?_;intro g6 q6 w7 c a n k;have W:=hY c;have GR:=hY a;have AT:=hY n;clear c a n k);go_roundw
   case rel=>exact⟨j+1,by omega,by go_num,L.o.next BJ.o W.o GR.o (AT.o.elim (fun h=>.inl h.symm) (fun h=>.inr ⟨_,rfl,by rw[h,E.o];exact Fy _⟩))⟩
   case measure=>simp[intOf];omega
  ·have l:j=m:=by omega
   have H:=hY (show EC base v w (xs++u8L bs) (.returned _) wr from⟨_,rfl,by
    have h:=L.o.1;rw[l,←HM.o,Fz] at h;rw[bY,show(u8L bs).length=bs.length by simp[u8L]]
    exact h,L.o.2⟩)
   clear l;go_wp2_with fail;go_ret;exact H.o
section
variable {base:Nat} {v v':Value} {w w':World} {xs:List Value}
def gg (base:Nat)(v:Value)(w:World)(xs:List Value)(v':Value)(w':World):Prop:=w'.ownsRow base 5 1 v' xs.length xs/\Mod v.ownBlock.toList w w'/\(v'.ownBlock=v.ownBlock\/∃b,v'.ownBlock=some b/\w.heap.size<=b)
theorem gg.refl (h:w.ownsRow base 5 1 v xs.length xs):gg base v w xs v w:=⟨h,Mod.refl _ _,.inl rfl⟩
theorem gg.ext {a:World}(h:gg base v w xs v' w')(b:Ext w' a):gg base v w xs v' a:=⟨ak h.1 b,h.2.1.ext b,h.2.2⟩
theorem gg.FZ {a:World}(c:Ext w a)(h:gg base v a xs v' w'):gg base v w xs v' w':=⟨h.1,(c.mod _).trans h.2.1,h.2.2.elim .inl (fun⟨b,h1,h2⟩=>.inr ⟨b,h1,aN c.size h2⟩)⟩
theorem gg.trans {j i:Value}{f e:World}{d:List Value}(h:gg base v w xs j f)(k:gg base j f d i e):gg base v w d i e:=by
 refine⟨k.1,eF h.2.1 k.2.1 (fun x a=>?_),?_⟩
 ·rcases h.2.2 with g|⟨b,g,c⟩
  ·rw[g] at a;exact .inl a
  ·rw[g] at a
   simp only[AN,aS,aT,or_false] at a;subst a;exact .inr c
 ·rcases k.2.2 with g|⟨b,g,c⟩
  ·rw[g];exact h.2.2
  ·exact .inr ⟨b,g,aN h.2.1.size c⟩
theorem gg.keep {g:List Value}{n:Nat}(h:gg base v w xs v' w')(i:w.ownsRow base 5 1 v n g){b:Nat}{e:Array Value}{T:TypeId}(c:w.heap[b]?=some (.cells e T))(j:T≠5):w'.heap[b]?=some (.cells e T):=by
 refine h.2.1.keep c (fun a=>?_);rcases i.2 with⟨d,_⟩|⟨m,f,l,d,_,k,_⟩
 ·rw[d] at a;simp[Value.ownBlock] at a
 ·rw[d] at a
  simp only[Value.ownBlock,AN,aS,aT,or_false] at a;subst a;rw[k] at c;simp only[dO,Obj.cells.injEq] at c;exact j c.2.1.symm
theorem tJ {b:Value}{a:World}(d:gg base v w xs b a)(bs:List Int)(g:base<=w.heap.size)(f:xs.length+bs.length<=1048576):Calls Tryz.prog 174 #[b,.slice (some ⟨a.heap.size,0,none⟩) bs.length bs.length] (a.alloc (.cells (bs.map (Value.int .i64)).toArray 3)) fun e w'=>∃v',e=.returned v'/\gg base v w (xs++u8L bs) v' w':=by
 have h:Ext a (a.alloc (.cells (bs.map (Value.int .i64)).toArray 3)):=(Ext.refl a).alloc _;have c:=d.ext h;refine(Dn base _ b xs bs c.1 (aN g c.2.1.size) f a.heap.size (aq a _ _ rfl)).mono ?_;rintro e w' ⟨v',l,k,j,i⟩;exact⟨v',l,c.trans ⟨k,j,i⟩⟩
end
end Go.Proofs.Eff
