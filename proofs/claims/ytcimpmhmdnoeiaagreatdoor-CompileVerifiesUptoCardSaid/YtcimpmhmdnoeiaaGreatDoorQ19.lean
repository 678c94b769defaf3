import Derived.Test.YtcimpmhmdnoeiaaGreatDoorQ18
set_option maxRecDepth 100000
set_option maxHeartbeats 2000000
set_option linter.all false
namespace Go.Proofs.Eff
open Go.RowKit
theorem BT (t:T)(hnd:T.nd t<=100000000)(w:World)(top:Nat)(a:top<=w.heap.size)(m:fJ w)(j:Option Addr)(f:Nat)(h:Option Addr)(d:Nat)(g:Option Addr)(c:Nat)(n:bK w top t j f h d g c):
 Calls Tryz.prog 17 #[.agg (af t.kind t.name t.FP.length t.FQ.length t.FN.length t.FY t.FR j f h d g c)] w fun e w'=>e=.returned (.i (dM t).2)/\Ext w w':=by
 have l:=xal w t j f h d g c;have PR:=hY (AH t hnd _ top (aN a l.o.size) (m.ext l.o) j f h d g c (n.keep (am l.o a)));obtain⟨u,_⟩:=bt w (aB t.kind t.name t.FP.length t.FQ.length t.FN.length t.FY t.FR j f h d g c) 26 _ (Ext.refl _);clear n m a hnd;generalize(dM t).2=r at*;generalize(dM t).1=b at*;generalize t.kind=k at*;generalize t.name=x at*;generalize t.FP.length=A at*;generalize t.FQ.length=z at*;generalize t.FN.length=y at*;generalize t.FY=v at*;generalize t.FR=pl at*;go_enter Tryz.func17,Tryz.ntmps17;go_upto_region 1 with fail;generalize w.alloc _=B at*;go_wp2_with (first|(go_at_call 14;refine PR.o.m fun s q=>?_));go_ret;exact⟨rfl,l.o.trans q.o⟩
def ur (x:T):Prop:=∀(w:World) (top:Nat) (L:Int) (g:Option Addr) (c:Nat) (f:Option Addr) (b:Nat) (d:Option Addr) (a:Nat),top<=w.heap.size->0<=L->L<=1000000->bK w top x g c f b d a->
 Calls Tryz.prog 6 #[.agg (af x.kind x.name x.FP.length x.FQ.length x.FN.length x.FY x.FR g c f b d a),.i L] w fun e h=>e=.returned (.i (gj x L))/\Ext w h
theorem sU {l:List T}{j:Nat}{x:T}(a:l[j]?=some x)(k L:Int):du (l.drop j) k L=if L<k then k else du (l.drop (j+1)) (k+gj x (L-k)) L:=by
 obtain⟨b,c⟩:=aC.1 a;rw[hI b,c,du]
theorem yH (x:T)(u:∀y∈x.FN,ur y):ur x:=by
 intro w top L O I N H t s c ae ad v;obtain⟨k,n,r,p,l,q,pl⟩:=x
 replace u:∀y∈l,ur y:=u
 have EX:Hid (Ext w (w.alloc (.cells (af k n r.length p.length l.length q pl O I N H t s) 26))):=(Ext.refl w).alloc _;obtain⟨X,_⟩:=bt w (aB k n r.length p.length l.length q pl O I N H t s) 26 _ (Ext.refl _);have ac:l.length<=1048576:=v.FN.small;have NN:Hid (NAt w top t s l):=hY v.FN;have HI:=hY u;have P:=hY c;have V:Hid (gj (.mk k n r p l q pl) L=du l 1 L):=hY (by rw[gj]);clear v u c;show Calls Tryz.prog 6 #[.agg (af k n r.length p.length l.length q pl O I N H t s),.i L] w _
 go_enter Tryz.func6,Tryz.ntmps6;go_upto_region 1 with fail;generalize w.alloc _=W1 at*;go_upto_region 3 with fail
 go_loopw [5,11] (fun Z i wr=>∃(j:Nat) (a:Int),j<=l.length/\i=.i j/\Z=.i a/\1<=a/\a<=L+1/\Ext w wr/\du l 1 L=du (l.drop j) a L) (fun _ i _=>l.length-(intOf i).toNat)
 case atStart=>exact⟨0,1,by omega,rfl,rfl,by omega,by omega,EX.o,rfl⟩
 case round=>
  obtain⟨j,a,hj,rfl,rfl,h1,h2,U,S⟩:=hrel;have F:=hY S;have E:=hY U;clear U S X;by_cases hlt:j<l.length
  ·obtain⟨y,h⟩:∃y,l[j]?=some y:=⟨l[j],by simp⟩
   have A:=HI.o y (eQ h);obtain⟨g,Y,M,G,K,D,J,B,rfl,Q,hS,d⟩:=(NN.o.keep (am E.o P.o)).seven h;have f:=hY (F.o.trans (sU h a L));have b:=xal wr y M G K D J B;have KB:=hY (bt wr (aB y.kind y.name y.FP.length y.FQ.length y.FN.length y.FY y.FR M G K D J B) 26);obtain⟨q2,_⟩:=KB.o _ (Ext.refl _);obtain⟨e0,e1,e2,e3,e4,e5,e6⟩:=hS;by_cases hk:L<a
   ·rw[if_pos hk] at f
    clear A d h Q F;go_upto_region 5 with fail;generalize wr.alloc _=W3 at*;go_wp2_with fail;go_ret;exact⟨by rw[V.o,f.o];rfl,E.o.trans b.o⟩
   ·rw[if_neg hk] at f
    have W:=hY (jZ y (L-a) (by omega));have C:=hY (A _ top (L-a) M G K D J B (aN (aN P.o E.o.size) b.o.size) (by omega) (by omega) (d.keep (am b.o (aN P.o E.o.size))));clear A d h Q F;generalize gj y (L-a)=z at*;obtain⟨ab,aa⟩:=W.o;clear W;go_upto_region 5 with fail;generalize wr.alloc _=W3 at*;go_wp2_with (first|(go_at_call 6;refine C.o.m fun w4 E4=>?_));go_roundw
    case rel=>exact⟨j+1,a+z,by omega,by go_num,by go_num,by omega,by omega,(E.o.trans b.o).trans E4.o,f.o⟩
    case measure=>simp[intOf];omega
  ·have R:l.drop j=[]:=hH (by omega)
   have f:Hid (du l 1 L=a):=by
    have:=F.o;rw[R,du] at this;exact this
   clear R;go_wp2_with fail;go_ret;exact⟨by rw[V.o,f.o];rfl,E.o⟩
theorem qC:∀(n:Nat) (x:T),T.nd x<=n->ur x
 |0,x,h=>by have:=bG x;omega
 |n+1,x,h=>yH x (fun y a=>qC n y (by have:=aD a;omega))
theorem Ef (x:T):ur x:=qC _ x (gE _)
def fL (w:World)(ok:Nat->Prop)(v:Value)(l:List BL):Prop:=∃a c,v=.slice a l.length c/\l.length<=c/\c<=maxLen/\(a=none->c=0)/\l.length<=ao/\(∀x∈l,x.length<=ao)/\(l≠[]->∃g,a=some ⟨g,0,none⟩/\ok g/\∀j x,l[j]?=some x->w.cell? ⟨g,j,none⟩=some (.string (mkS x)))
mutual
def dt (w:World)(ok:Nat->Prop):Lit3->List Value->Prop
 |.mk k t l,cs=>∃a c,cs=[.i k,.string (mkS t),.slice a l.length c]/\l.length<=c/\c<=maxLen/\(a=none->c=0)/\l.length<=ao/\t.length<=ao/\(l≠[]->∃g,a=some ⟨g,0,none⟩/\ok g/\gf w ok g 0 l)
def gf (w:World)(ok:Nat->Prop)(g:Nat):Nat->List Lit3->Prop
 |_,[]=>True
 |off,x::r=>(∃a,a.length=3/\(∀i,i<3->w.cell? ⟨g,off+i,none⟩=a[i]?)/\dt w ok x a)/\gf w ok g (off+3) r
end
mutual
def fV (w:World)(ok:Nat->Prop):It->List Value->Prop
 |.lab l,cs=>cs=[.i 0,.i 0,.i 0,.i 0,.i 0,.i (-1),.i (l:Int),.pointer none]
 |.ins op a b z,cs=>cs=[.i op,.i a,.i b,.i 0,.i z,.i (-1),.i (-1),.pointer none]
 |.jmp op g,cs=>cs=[.i op,.i 0,.i 0,.i 0,.i 0,.i (g:Int),.i (-1),.pointer none]
 |.blk a b body,cs=>∃r o d nv f e c,cs=[.i 24,.i (a:Int),.i (b:Int),.i 0,.i 0,.i (-1),.i (-1),.pointer (some ⟨r,0,none⟩)]/\ok r/\w.heap[r]?=some (.cells #[o,d,nv,f,.slice e body.length c] 70)/\body.length<=c/\(c<=maxLen/\body.length<=2000000000)/\(body≠[]->∃g,e=some ⟨g,0,none⟩/\ok g/\fU w ok g 0 body)
def fU (w:World)(ok:Nat->Prop)(g:Nat):Nat->List It->Prop
 |_,[]=>True
 |off,x::r=>(∃a,a.length=8/\(∀i,i<8->w.cell? ⟨g,off+i,none⟩=a[i]?)/\fV w ok x a)/\fU w ok g (off+8) r
end
def jp (ok:Nat->Prop)(w w':World):Prop:=∀k,ok k->w'.heap[k]?=w.heap[k]?
theorem jp.cell {ok:Nat->Prop}{w w':World}(h:jp ok w w'){g i:Nat}(b:ok g):w'.cell? ⟨g,i,none⟩=w.cell? ⟨g,i,none⟩:=World.cell?_of_block (a:=⟨g,i,none⟩) (h g b)
theorem fL.keep {w w':World}{ok ok':Nat->Prop}(h:jp ok w w')(e:∀k,ok k->ok' k){v:Value}{l:List BL}(d:fL w ok v l):fL w' ok' v l:=by
 obtain⟨a,c,s,r,q,p,n,m,o⟩:=d;refine⟨a,c,s,r,q,p,n,m,fun f=>?_⟩;obtain⟨g,u,b,t⟩:=o f;exact⟨g,u,e g b,fun j x i=>by rw[h.cell b];exact t j x i⟩
theorem fL.strs {w:World}{ok:Nat->Prop}{v:Value}{l:List BL}(d:fL w ok v l)(b:∀k,ok k->k<w.heap.size):∃a c,v=.slice a l.length c/\bT w w.heap.size a c l:=by
 obtain⟨a,c,q,p,o,n,i,h,m⟩:=d;refine⟨a,c,q,p,n,fun e=>?_,o,i,h⟩;obtain⟨g,t,s,r⟩:=m e;exact⟨g,0,t,b g s,fun j x f=>by rw[nl];exact r j x f⟩
mutual
theorem dt.keep {w w':World}{ok ok':Nat->Prop}(h:jp ok w w')(d:∀k,ok k->ok' k):(x:Lit3)->(b:List Value)->dt w ok x b->dt w' ok' x b
 |.mk k t l,b,hx=>by
  rw[dt] at hx ⊢;obtain⟨a,c,q,p,o,n,m,j,i⟩:=hx;refine⟨a,c,q,p,o,n,m,j,fun f=>?_⟩;obtain⟨g,s,e,r⟩:=i f;exact⟨g,s,d g e,gf.keep h d e 0 l r⟩
theorem gf.keep {w w':World}{ok ok':Nat->Prop}(h:jp ok w w')(b:∀k,ok k->ok' k){g:Nat}(c:ok g):(a:Nat)->(l:List Lit3)->gf w ok g a l->gf w' ok' g a l
 |_,[],_=>by rw[gf];trivial
 |a,x::r,hx=>by
  rw[gf] at hx ⊢;obtain⟨⟨d,n,m,j⟩,f⟩:=hx;exact⟨⟨d,n,fun i e=>by rw[h.cell c];exact m i e,dt.keep h b x d j⟩,gf.keep h b c (a+3) r f⟩
end
mutual
theorem fV.keep {w w':World}{ok ok':Nat->Prop}(h:jp ok w w')(f:∀k,ok k->ok' k):(x:It)->(e:List Value)->fV w ok x e->fV w' ok' x e
 |.lab l,e,hx=>by rw[fV] at hx ⊢;exact hx
 |.ins op a b z,e,hx=>by rw[fV] at hx ⊢;exact hx
 |.jmp op g,e,hx=>by rw[fV] at hx ⊢;exact hx
 |.blk a b body,e,hx=>by
  rw[fV] at hx ⊢;obtain⟨r,o,d,nv,A,m,c,u,i,t,s,q,p⟩:=hx;refine⟨r,o,d,nv,A,m,c,u,f r i,by rw[h r i];exact t,s,q,fun n=>?_⟩;obtain⟨g,y,j,v⟩:=p n;exact⟨g,y,f g j,fU.keep h f j 0 body v⟩
theorem fU.keep {w w':World}{ok ok':Nat->Prop}(h:jp ok w w')(b:∀k,ok k->ok' k){g:Nat}(c:ok g):(a:Nat)->(l:List It)->fU w ok g a l->fU w' ok' g a l
 |_,[],_=>by rw[fU];trivial
 |a,x::r,hx=>by
  rw[fU] at hx ⊢;obtain⟨⟨d,n,m,j⟩,f⟩:=hx;exact⟨⟨d,n,fun i e=>by rw[h.cell c];exact m i e,fV.keep h b x d j⟩,fU.keep h b c (a+8) r f⟩
end
def nz (w:World)(ok:Nat->Prop):List It->List Value->Prop
 |[],cs=>cs=[]
 |x::r,cs=>∃a b,cs=a++b/\a.length=8/\fV w ok x a/\nz w ok r b
def fp (w:World)(ok:Nat->Prop):List Lit3->List Value->Prop
 |[],cs=>cs=[]
 |x::r,cs=>∃a b,cs=a++b/\a.length=3/\dt w ok x a/\fp w ok r b
theorem nz.keep {w w':World}{ok ok':Nat->Prop}(h:jp ok w w')(c:∀k,ok k->ok' k){l:List It}{a:List Value}(b:nz w ok l a):nz w' ok' l a:=by
 induction l generalizing a with
 |nil=>exact b
 |cons x r ih=>
  obtain⟨j,i,g,f,e,d⟩:=b;exact⟨j,i,g,f,e.keep h c,ih d⟩
theorem fp.keep {w w':World}{ok ok':Nat->Prop}(h:jp ok w w')(c:∀k,ok k->ok' k){l:List Lit3}{a:List Value}(b:fp w ok l a):fp w' ok' l a:=by
 induction l generalizing a with
 |nil=>exact b
 |cons x r ih=>
  obtain⟨j,i,g,f,e,d⟩:=b;exact⟨j,i,g,f,e.keep h c,ih d⟩
theorem nz.snoc {w:World}{ok:Nat->Prop}{l:List It}{b:List Value}{x:It}{a:List Value}(h:nz w ok l b)(c:fV w ok x a)(d:a.length=8):nz w ok (l++[x]) (b++a):=by
 induction l generalizing b with
 |nil=>
  rw[nz] at h;subst h;exact⟨a,[],by simp,d,c,rfl⟩
 |cons y r ih=>
  obtain⟨k,j,i,g,f,e⟩:=h;exact⟨k,j++a,by rw[i,gz],g,f,ih e⟩
theorem fp.snoc {w:World}{ok:Nat->Prop}{l:List Lit3}{b:List Value}{x:Lit3}{a:List Value}(h:fp w ok l b)(c:dt w ok x a)(d:a.length=3):fp w ok (l++[x]) (b++a):=by
 induction l generalizing b with
 |nil=>
  rw[fp] at h;subst h;exact⟨a,[],by simp,d,c,rfl⟩
 |cons y r ih=>
  obtain⟨k,j,i,g,f,e⟩:=h;exact⟨k,j++a,by rw[i,gz],g,f,ih e⟩
section
variable {p base:Nat} {F:List Nat} {w w':World} {s:GS}
abbrev RgS:=Nat×Rg×List It
def rgs (c:List RgS):List Rg:=c.map (·.2.1)
def dX (w:World)(base:Nat)(ok:Nat->Prop):List RgS->Value->List Nat->Prop
 |[],v,F=>v=.pointer none/\F=[]
 |(r,rg,its)::c,v,F=>v=.pointer (some ⟨r,0,none⟩)/\∃o nv a xs b,F=r::(a.ownBlock.toList++b)/\w.heap[r]?=some (.cells #[o,.i (c.length:Int),nv,.i (rg.2:Int),a] 70)/\fL w ok nv rg.1/\w.ownsRow base 144 8 a its.length xs/\nz w ok its xs/\dX w base ok c o b
def okF (base p:Nat)(w:World)(F:List Nat)(k:Nat):Prop:=base<=k/\k<w.heap.size/\k≠p/\¬k∈F
def dW (w:World)(ok:Nat->Prop)(v:Value):Option (Int×Int)->Prop
 |none=>v=.pointer none
 |some (pl,e)=>∃g,v=.pointer (some ⟨g,0,none⟩)/\ok g/\w.heap[g]?=some (.cells #[.i pl,.i e] 67)
structure CWV (base p:Nat)(w:World)(fv gv:Value)(s:GS)(ch:List RgS)(F:List Nat)(av lv wv:Value)(xs:List Value)(F1:List Nat):Prop where
 lo:base<=p
 blk:w.heap[p]?=some (.cells #[fv,gv,av,lv,.i (s.FO:Int),wv,.bool s.many] 64)
 foot:F=lv.ownBlock.toList++F1
 nodup:F.Nodup
 inF:∀k∈F,base<=k/\k<w.heap.size/\k≠p
 FU:w.ownsRow base 55 3 lv s.FU.length xs
 litsC:fp w (okF base p w F) s.FU xs
 chain:dX w base (okF base p w F) ch av F1
 F9:dW w (okF base p w F) wv s.F9
def CW (base p:Nat)(w:World)(e d:Value)(s:GS)(f:List RgS)(F:List Nat):Prop:=∃g c b a h,CWV base p w e d s f F g c b a h
structure CM (p:Nat)(F F':List Nat)(w w':World):Prop where
 mod:Mod (p::F) w w'
 sub:∀k∈F',k∈F\/w.heap.size<=k
theorem CM.refl (p:Nat)(F:List Nat)(w:World):CM p F F w w:=⟨Mod.refl _ _,fun _ h=>.inl h⟩
theorem CM.FZ (h:Ext w w'):CM p F F w w':=⟨h.mod _,fun _ h=>.inl h⟩
theorem CM.trans {l e:List Nat}{a b c:World}(h:CM p F l a b)(k:CM p l e b c):CM p F e a c:=
 ⟨⟨k.mod.os.trans h.mod.os,k.mod.tape.trans h.mod.tape,k.mod.output.trans h.mod.output,aN h.mod.size k.mod.size,fun i f g=>by
   rw[k.mod.block i (bA f h.mod.size) (fun j=>by
    rcases aS.1 j with rfl|j
    ·exact g (by simp)
    ·rcases h.sub i j with d|d
     ·exact g (by simp[d])
     ·omega)]
   exact h.mod.block i f g⟩,fun i f=>by
   rcases k.sub i f with d|d
   ·exact h.sub i d
   ·exact .inr (aN h.mod.size d)⟩
theorem CM.keep {d:List Nat}(h:CM p F d w w'){k:Nat}{o:Obj}(b:w.heap[k]?=some o)(a:k≠p)(c:¬k∈F):w'.heap[k]?=some o:=h.mod.keep b (by simp[a,c])
theorem CM.fresh {b:List Nat}(h:CM p F b w w'){k:Nat}(e:k<w.heap.size)(d:¬k∈F):¬k∈b:=fun c=>by
 rcases h.sub k c with a|a
 ·exact d a
 ·omega
theorem cX (h:Ext w w'):jp (okF base p w F) w w'/\∀k,okF base p w F k->okF base p w' F k:=
 ⟨fun k a=>h.block a.2.1,fun k a=>⟨a.1,bA a.2.1 h.size,a.2.2⟩⟩
theorem dX.keep {ok ok':Nat->Prop}(h:jp ok w w')(e:∀k,ok k->ok' k){c:List RgS}{v:Value}(a:∀k∈F,w'.heap[k]?=w.heap[k]?)(f:dX w base ok c v F):dX w' base ok' c v F:=by
 induction c generalizing v F with
 |nil=>exact f
 |cons x c ih=>
  obtain⟨r,H,l⟩:=x;obtain⟨z,o,nv,m,j,G,y,u,t,s,q,p⟩:=f;subst y;refine⟨z,o,nv,m,j,G,rfl,by rw[a r (by simp)];exact u,t.keep h e,?_,q.keep h e,ih (fun k n=>a k (by simp[n])) p⟩;obtain⟨A,b⟩:=s;refine⟨A,?_⟩;rcases b with b|⟨g,B,d,i,E,D,C⟩
  ·exact .inl b
  ·exact .inr ⟨g,B,d,i,E,by rw[a g (by rw[i];simp[Value.ownBlock])];exact D,C⟩
theorem dW.keep {ok ok':Nat->Prop}(h:jp ok w w')(c:∀k,ok k->ok' k){v:Value}{o:Option (Int×Int)}(a:dW w ok v o):dW w' ok' v o:=by
 cases o with
 |none=>exact a
 |some x=>
  obtain⟨pl,e⟩:=x;obtain⟨g,f,b,d⟩:=a;exact⟨g,f,c g b,by rw[h g b];exact d⟩
theorem CWV.ext {f e:Value}{g:List RgS}{i d c:Value}{xs:List Value}{j:List Nat}(h:CWV base p w f e s g F i d c xs j)(a:Ext w w'):CWV base p w' f e s g F i d c xs j:=
 ⟨h.lo,a.keep h.blk,h.foot,h.nodup,fun k b=>⟨(h.inF k b).1,bA (h.inF k b).2.1 a.size,(h.inF k b).2.2⟩,ak h.FU a,h.litsC.keep (cX a).1 (cX a).2,h.chain.keep (cX a).1 (cX a).2 (fun k b=>a.block (h.inF k (by rw[h.foot];simp[b])).2.1),h.F9.keep (cX a).1 (cX a).2⟩
theorem CW.ext {b a:Value}{c:List RgS}(h:CW base p w b a s c F)(g:Ext w w'):CW base p w' b a s c F:=by
 obtain⟨i,f,e,d,j,h⟩:=h;exact⟨i,f,e,d,j,h.ext g⟩
theorem CWV.own {f e:Value}{s':GS}{n:List RgS}{j d q:Value}{xs:List Value}{o:List Nat}(h:CWV base p w f e s n F j d q xs o)(c:Mod [p] w w')(m:s'.FU=s.FU)(wv':Value)(u:w'.heap[p]?=some (.cells #[f,e,j,d,.i (s'.FO:Int),wv',.bool s'.many] 64))(r:dW w' (okF base p w' F) wv' s'.F9):CWV base p w' f e s' n F j d wv' xs o:=by
 have l:jp (okF base p w F) w w':=fun k a=>c.block k a.2.1 (by simp[a.2.2.1]);have b:∀k,okF base p w F k->okF base p w' F k:=fun k a=>⟨a.1,bA a.2.1 c.size,a.2.2⟩;have v:∀k∈F,w'.heap[k]?=w.heap[k]?:=fun k a=>c.block k (h.inF k a).2.1 (by simp[(h.inF k a).2.2]);refine⟨h.lo,u,h.foot,h.nodup,fun k a=>⟨(h.inF k a).1,bA (h.inF k a).2.1 c.size,(h.inF k a).2.2⟩,?_,?_,h.chain.keep l b (fun k a=>v k (by rw[h.foot];simp[a])),r⟩
 ·rw[m]
  exact c.row h.FU (fun g t=>by
   have:=h.inF g (by rw[h.foot,t];simp)
   simp[this.2.2])
 ·rw[m]
  exact h.litsC.keep l b
end
def aa (base p:Nat)(w:World)(d c:Value)(F:List Nat)(s':GS)(a:List RgS)(w':World):Prop:=∃b,CW base p w' d c s' a b/\CM p F b w w'
theorem zj (base p:Nat)(w:World)(m l:Value)(s:GS)(n:List RgS)(F:List Nat)(h:CW base p w m l s n F)(C:s.FO<=1000000000):Calls Tryz.prog 264 #[.pointer (some ⟨p,0,none⟩)] w fun e w'=>e=.returned (.i (s.FO:Int))/\aa base p w m l F {s with FO:=s.FO+1} n w':=by
 obtain⟨u,r,f,q,v,c⟩:=h;obtain⟨B,A⟩:=blk c.blk;have d:=be (i:=4) c.blk (.i ((s.FO:Int)+1));have b:=ae w ⟨p,4,none⟩ (.i ((s.FO:Int)+1))
 have V:=hY (c.own (s':={s with FO:=s.FO+1}) b rfl f (by
  rw[d]
  simp) (c.F9.keep (fun k a=>b.block k a.2.1 (by simp[a.2.2.1])) (fun k a=>⟨a.1,bA a.2.1 b.size,a.2.2⟩)))
 have M:=hY (b.mono (S':=p::F) (by simp));obtain⟨z,y⟩:=blk d;clear c d b;generalize t:(s.FO:Int)=g at*;have j:0<=g/\g<=1000000000:=by omega
 go_enter Tryz.func264,Tryz.ntmps264;go_upto_region 2 with fail;generalize w.setCell _ _=x at*;go_wp2_with fail;go_ret;refine⟨by simp,F,⟨u,r,f,q,v,V.o⟩,M.o,fun k a=>.inl a⟩
theorem Dx (base p:Nat)(w:World)(A z:Value)(s:GS)(B:List RgS)(F:List Nat)(h:CW base p w A z s B F)(pl e:Int):Calls Tryz.prog 58 #[.pointer (some ⟨p,0,none⟩),.i pl,.i e] w fun E w'=>E=.returned (.tuple #[])/\aa base p w A z F (s.fail pl e) B w':=by
 obtain⟨t,l,C,j,u,b⟩:=h;obtain⟨J,I⟩:=blk b.blk;cases hw:s.F9 with
 |some x=>
  obtain⟨D,K⟩:=x;have a:=b.F9;rw[hw] at a;obtain⟨g,rfl,_,_⟩:=a;have S:Hid (s.fail pl e=s):=hY (by unfold GS.fail;rw[hw];rfl);have V:=hY b;clear b hw;go_enter Tryz.func58,Tryz.ntmps58;go_wp2_with fail
  (first|refine QzE rfl rfl ?_|refine QzR rfl rfl ?_);exact ⟨rfl,F,⟨t,l,_,j,u,by rw[S.o];exact V.o⟩,CM.refl _ _ _⟩
 |none=>
  have a:=b.F9;rw[hw] at a;have m:C=.pointer none:=a;subst m;have r:Ext w (w.alloc (.cells #[.i pl,.i e] 67)):=(Ext.refl w).alloc _;have c:=b.ext r;have y:=be (i:=5) c.blk (.pointer (some ⟨w.heap.size,0,none⟩));have f:=ae (w.alloc (.cells #[.i pl,.i e] 67)) ⟨p,5,none⟩ (.pointer (some ⟨w.heap.size,0,none⟩));have n:p<w.heap.size:=ab b.blk;have d:w.heap.size<(w.alloc (.cells #[.i pl,.i e] 67)).heap.size:=ab (aq w _ _ rfl)
  have V:=hY (c.own (s':=s.fail pl e) f (by unfold GS.fail;rw[hw];rfl) (.pointer (some ⟨w.heap.size,0,none⟩)) (by
   rw[y];unfold GS.fail;rw[hw];simp) (by
   unfold GS.fail;rw[hw];refine⟨w.heap.size,rfl,⟨by have:=b.lo;omega,bA d f.size,by omega,fun q=>by have:=(b.inF _ q).2.1;omega⟩,?_⟩
   exact f.keep (aq w _ _ rfl) (by simp;omega)))
  have M:=hY ((r.mod (p::F)).trans (f.mono (S':=p::F) (by simp)));obtain⟨H,G⟩:=blk c.blk;clear b c y f r d n hw a;go_enter Tryz.func58,Tryz.ntmps58;go_wp2_with fail;exact QzE rfl rfl ⟨rfl,F,⟨t,l,_,j,u,V.o⟩,M.o,fun k q=>.inl q⟩
theorem j4 {w w':World}{base e size n:Nat}{v:Value}{xs:List Value}(h:w.ownsRow base e size v n xs)(d:∀g,v.ownBlock=some g->w'.heap[g]?=w.heap[g]?):w'.ownsRow base e size v n xs:=by
 obtain⟨f,a⟩:=h;refine⟨f,?_⟩;rcases a with a|⟨g,i,b,c,l,k,j⟩
 ·exact .inl a
 ·exact .inr ⟨g,i,b,c,l,by rw[d g (by rw[c];rfl)];exact k,j⟩
theorem uS {A O B:List Nat}{r g:Nat}(h:(A++r::(O++B)).Nodup)(k:O=[g]\/(¬g∈A/\g≠r/\¬g∈B)):(A++r::(g::B)).Nodup:=by
 rcases k with rfl|⟨o,n,m⟩
 ·exact h
 ·rw[nr] at h ⊢
  obtain⟨l,f,i⟩:=h;rw[D7,nr] at f;refine⟨l,?_,?_⟩
  ·rw[D7,D7]
   refine⟨?_,m,f.2.2.1⟩;simp only[aS,not_or];exact⟨fun e=>n e.symm,fun j=>f.1 (by simp[j])⟩
  ·intro a d b c
   rcases aS.1 c with rfl|c
   ·exact i a d b (by simp)
   ·rcases aS.1 c with rfl|c
    ·intro e;subst e;exact o d
    ·exact i a d b (by simp[c])
theorem CWV.item {base p:Nat}{w:World}{fv gv:Value}{s:GS}{r:Nat}{J:Rg}{its:List It}{c:List RgS}{F:List Nat}{av G wv:Value}{xs:List Value}{F1:List Nat}
 (h:CWV base p w fv gv s ((r,J,its)::c) F av G wv xs F1) {o nv u:Value} {V:List Value} {A:List Nat}
 (n:F1=r::(u.ownBlock.toList++A)) (hr:w.heap[r]?=some (.cells #[o,.i (c.length:Int),nv,.i (J.2:Int),u] 70)) (Y:fL w (okF base p w F) nv J.1) (O:nz w (okF base p w F) its V) (af:dX w base (okF base p w F) c o A) (ah:av=.pointer (some ⟨r,0,none⟩))
 {w':World} {g q:Nat} {x:It} {U:List Value} (y:w'.ownsRow base 144 8 (.slice (some ⟨g,0,none⟩) (its.length+1) q) (its.length+1) (V++U)) (D:w.grownBy w' u.ownBlock) (E:u.ownBlock=some g\/w.heap.size<=g) (hx:fV w (okF base p w F) x U) (h8:U.length=8):
 aa base p w fv gv F s ((r,J,its++[x])::c) (w'.setCell ⟨r,4,none⟩ (.slice (some ⟨g,0,none⟩) (its.length+1) q)):=by
 have j:=ag D;have f:=ae w' ⟨r,4,none⟩ (.slice (some ⟨g,0,none⟩) (its.length+1) q);have hnd:=h.nodup;rw[h.foot,n] at hnd
 have Z:g<w'.heap.size/\base<=g/\∃cs,w'.heap[g]?=some (.cells cs 144):=by
  rcases y.2 with⟨t,_⟩|⟨g',cc,aj,a1,a2,a3,_⟩
  ·cases t
  ·cases a1;exact⟨ab a3,a2,_,a3⟩
 obtain⟨Q,ad,ai,P⟩:=Z;have v:r∈F:=by rw[h.foot,n];simp
 have W:=h.inF r v;have l:∀k,k∈u.ownBlock.toList->k∈F:=fun k d=>by rw[h.foot,n];simp only[iF,aS];exact .inr (.inr (.inl d))
 have L:¬r∈u.ownBlock.toList:=by
  intro d;have:=(nr.1 hnd).2.1;rw[D7] at this;exact this.1 (by simp[d])
 have M:w'.heap[r]?=some (.cells #[o,.i (c.length:Int),nv,.i (J.2:Int),u] 70):=j.keep hr L;have z:g≠r:=by intro e;subst e;rw[M] at P;cases P
 have d:∀k,k<w.heap.size->¬k∈u.ownBlock.toList->k≠r->(w'.setCell ⟨r,4,none⟩ (.slice (some ⟨g,0,none⟩) (its.length+1) q)).heap[k]?=w.heap[k]?:=fun k S t h3=>by
  rw[f.block k (bA S j.size) (by simp[h3])];exact j.block k S t
 have hm:Mod (p::F) w (w'.setCell ⟨r,4,none⟩ (.slice (some ⟨g,0,none⟩) (its.length+1) q)):=⟨f.os.trans j.os,f.tape.trans j.tape,f.output.trans j.output,aN j.size f.size,fun k S t=>by
  simp only[aS,not_or] at t
  exact d k S (fun b=>t.2 (l k b)) (fun e=>t.2 (by rw[e];exact v))⟩
 have K:w.heap.size<=(w'.setCell ⟨r,4,none⟩ (.slice (some ⟨g,0,none⟩) (its.length+1) q)).heap.size:=hm.size
 have m:∀k∈G.ownBlock.toList++(r::(g::A)),k∈F\/w.heap.size<=k:=fun k d=>by
  rw[h.foot,n];simp only[iF,aS] at d ⊢;rcases d with d|rfl|rfl|d
  ·exact .inl (.inl d)
  ·exact .inl (.inr (.inl rfl))
  ·rcases E with e|e
   ·exact .inl (.inr (.inr (.inl (by rw[e];simp))))
   ·exact .inr e
  ·exact .inl (.inr (.inr (.inr d)))
 have X:p<w.heap.size:=ab h.blk;have B:¬p∈F:=fun b=>(h.inF p b).2.2 rfl
 have ac:g≠p:=by
  rcases E with e|e
  ·intro e2;subst e2;exact B (l g (by rw[e];simp))
  ·omega
 have H:jp (okF base p w F) w (w'.setCell ⟨r,4,none⟩ (.slice (some ⟨g,0,none⟩) (its.length+1) q)):=fun k a=>d k a.2.1 (fun b=>a.2.2.2 (l k b)) (fun e=>a.2.2.2 (by rw[e];exact v))
 have I:∀k,okF base p w F k->okF base p (w'.setCell ⟨r,4,none⟩ (.slice (some ⟨g,0,none⟩) (its.length+1) q)) (G.ownBlock.toList++(r::(g::A))) k:=fun k a=>⟨a.1,bA a.2.1 K,a.2.2.1,fun b=>by
  rcases m k b with e|e
  ·exact a.2.2.2 e
  ·have:=a.2.1;omega⟩
 have hA:∀k∈G.ownBlock.toList,k<w.heap.size/\¬k∈u.ownBlock.toList/\k≠r:=fun k N=>by
  have hd:=(nr.1 hnd).2.2 k N;exact⟨(h.inF k (by rw[h.foot];simp[N])).2.1,fun b=>hd k (by simp[b]) rfl,fun e=>hd r (by simp) e⟩
 have R:∀k∈A,k<w.heap.size/\¬k∈u.ownBlock.toList/\k≠r:=fun k C=>by
  have t:=(nr.1 hnd).2.1;rw[D7,nr] at t;exact⟨(h.inF k (by rw[h.foot,n];simp[C])).2.1,fun b=>t.2.2.2 k b k C rfl,fun e=>t.1 (by rw[←e];simp[C])⟩
 refine⟨G.ownBlock.toList++(r::(g::A)),⟨av,G,wv,xs,r::(g::A),h.lo,?_,rfl,?_,?_,?_,?_,?_,h.F9.keep H I⟩,hm,m⟩
 ·rw[d p X (fun b=>B (l p b)) (fun e=>B (by rw[e];exact v))]
  exact h.blk
 ·refine uS hnd ?_
  rcases E with e|e
  ·exact .inl (by rw[e];rfl)
  ·exact .inr ⟨fun b=>by have:=(hA g b).1;omega,z,fun b=>by have:=(R g b).1;omega⟩
 ·intro k a
  rcases m k a with e|e
  ·exact⟨(h.inF k e).1,bA (h.inF k e).2.1 K,(h.inF k e).2.2⟩
  ·simp only[iF,aS] at a
   rcases a with a|rfl|rfl|a
   ·have:=(hA k a).1;omega
   ·have:=W.2.1;omega
   ·exact⟨ad,bA Q f.size,ac⟩
   ·have:=(R k a).1;omega
 ·exact j4 h.FU (fun k a=>by
   have:=hA k (by rw[a];simp)
   exact d k this.1 this.2.1 this.2.2)
 ·exact h.litsC.keep H I
 ·refine⟨ah,o,nv,.slice (some ⟨g,0,none⟩) (its.length+1) q,V++U,A,rfl,?_,Y.keep H I,?_,nz.snoc (O.keep H I) (hx.keep H I) h8,af.keep H I (fun k a=>d k (R k a).1 (R k a).2.1 (R k a).2.2)⟩
  ·rw[be M]
   simp
  ·rw[show(its++[x]).length=its.length+1 by simp]
   exact j4 y (fun k a=>by
    simp only[Value.ownBlock,dO] at a;subst a
    exact f.block _ Q (by simp[z]))
end Go.Proofs.Eff
