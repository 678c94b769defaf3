import Derived.Test.YtcimpmhmdnoeiaaGreatDoorQ09
set_option maxRecDepth 100000
set_option maxHeartbeats 1000000
set_option linter.all false
namespace Go.Proofs.Eff
open Go.RowKit
def dY (vs:List BL):List Value:=vs.map fun x=>Value.string (mkS x)
theorem bT.own {w:World}{g top:Nat}{vs:List BL}{c:Array Value}(h:w.heap[g]?=some (.cells c 9 (0,0)))(a:c.toList=dY vs)(d:g<top)(b:vs.length<=ao)(f:∀x∈vs,x.length<=ao):bT w top (some ⟨g,0,none⟩) vs.length vs:=
 ⟨gE _,nofun,fun _=>⟨g,0,rfl,d,fun j x e=>by
  rw[(blk h).1,←C2,a,dY,oN,nl,e];rfl⟩,by unfold ao at b;unfold maxLen;omega,b,f⟩
theorem bT.take {w:World}{top c:Nat}{a:Option Addr}{l:List BL}(h:bT w top a c l)(k:Nat):bT w top a c (l.take k):=
 ⟨by have:=h.cap;simp;omega,h.nil0,fun f=>by
  obtain⟨g,d,o,n,m⟩:=h.row (by intro e;rw[e] at f;simp at f)
  exact⟨g,d,o,n,fun j x b=>m j x (by rw[List.getElem?_take] at b;split at b;exact b;cases b)⟩,h.big,by have:=h.small;simp;omega,fun x i=>h.each x (List.mem_of_mem_take i)⟩
theorem s9 (s:BL):([[115,101,108,102],[115,117,112,101,114],[110,105,108],[116,114,117,101],[102,97,108,115,101],[116,104,105,115,67,111,110,116,101,120,116]]:List BL).contains s=eS s:=rfl
theorem iq (w:World)(s:BL):Calls Tryz.prog 108 #[.string (mkS s)] w fun e w'=>e=.returned (.bool (eS s))/\Ext w w':=by
 have a:Hid (Ext w (w.alloc (.cells (dY [[115,101,108,102],[115,117,112,101,114],[110,105,108],[116,114,117,101],[102,97,108,115,101],[116,104,105,115,67,111,110,116,101,120,116]]).toArray 9))):=(Ext.refl w).alloc _;have C:=hY (eW (w.alloc (.cells (dY [[115,101,108,102],[115,117,112,101,114],[110,105,108],[116,114,117,101],[102,97,108,115,101],[116,104,105,115,67,111,110,116,101,120,116]]).toArray 9)) _ _ _ _ (bT.own (vs:=[[115,101,108,102],[115,117,112,101,114],[110,105,108],[116,114,117,101],[102,97,108,115,101],[116,104,105,115,67,111,110,116,101,120,116]]) (aq w _ _ rfl) rfl (sx _) (by decide) (by decide)) s);rw[s9] at C;go_enter Tryz.func108,Tryz.ntmps108;go_wp2_with (go_at_call 109;refine C.o.mono ?_;rintro e b ⟨rfl,rfl⟩);go_ret;exact⟨rfl,a.o⟩
theorem x5 (s:BL)(l:List BL)(k:Nat)(b:l[k]?=some s):dN (l.take k) (l.drop k)=(aI s&&!eS s&&!(l.take k).contains s&&dN (l.take (k+1)) (l.drop (k+1))):=by
 obtain⟨a,c⟩:=aC.1 b;rw[hI a,c,dN];have:l.take (k+1)=l.take k++[s]:=by rw[tO,b];rfl
 rw[this]
theorem jI (w:World)(top c:Nat)(a:Option Addr)(l:List BL)(h:bT w top a c l)(m:top<=w.heap.size):Calls Tryz.prog 96 #[.slice a l.length c] w fun e w'=>e=.returned (.bool (bM l))/\Ext w w':=by
 have O:l.length<=1048576:=h.small;have G:l.length<=c:=h.cap;have s:=h.big;unfold maxLen at s;have H:=hY h;have T:=hY m;clear h m;go_enter Tryz.func96,Tryz.ntmps96;go_wp2_with fail
 go_loopw [7] (fun i wr=>∃k:Nat,k<=l.length/\i=.i k/\Ext w wr/\bM l=dN (l.take k) (l.drop k)) (fun i _=>l.length-(intOf i).toNat)
 case atStart=>exact⟨0,by omega,rfl,Ext.refl _,rfl⟩
 case round=>
  obtain⟨k,S,rfl,L,J⟩:=hrel;have F:=hY J;have E:=hY L;clear J L;by_cases hlt:k<l.length
  ·obtain⟨x,q⟩:∃x,l[k]?=some x:=⟨l[k],by simp⟩
   obtain⟨g,y,rfl,P,I⟩:=H.o.cell (by intro e;rw[e] at q;simp at q);have r:=(I k x q);have D:wr.cell? ⟨g,y+k,none⟩=some (.string (mkS x)):=by rw[←r];exact E.o.cell (by have:=T.o;exact bA P this)
   have n:=hY (x5 x l k q);have X:Hid ((mkS x).size<=1048576):=by rw[aR];exact hY (H.o.each x (eQ q))
   have N:=hY (iZ wr (mkS x) X.o);rw[aG] at N;have K:=hY (fun(W:World) (Q:Ext wr W)=>(H.o.keep (am (E.o.trans Q) T.o)).take k);have A:(l.take k).length=k:=by simp;omega
   have KL:=hY A;clear I q r A;cases h1:aI x with
   |false=>
    rw[h1] at N;go_wp2_with (go_at_call 98;refine N.o.m fun v j=>?_);go_ret;exact⟨by rw[F.o,n.o,h1];rfl,E.o.trans j.o⟩
   |true=>
    rw[h1] at N;cases h2:eS x with
    |true=>
     go_wp2_with (first|(go_at_call 98;refine N.o.m fun v j=>?_)|(go_at_call 108;refine(iq _ _).m fun u p=>?_));go_ret;exact⟨by rw[F.o,n.o,h1,h2];rfl,(E.o.trans j.o).trans p.o⟩
    |false=>
     obtain⟨R,t⟩:∃b,b=(l.take k).contains x:=⟨_,rfl⟩;have z:=hY t;clear t;rw[←z.o] at n;cases R with
     |true=>
      go_wp2_with (first|(go_at_call 98;refine N.o.m fun v j=>?_)|(go_at_call 108;refine(iq _ _).m fun u p=>?_)|(go_at_call 109;have C:=eW _ _ _ _ _ (K.o u (j.o.trans p.o)) x;rw[KL.o,←z.o] at C;refine C.mono ?_;rintro e M ⟨rfl,rfl⟩));go_ret;exact⟨by rw[F.o,n.o,h1,h2];rfl,(E.o.trans j.o).trans p.o⟩
     |false=>
      go_wp2_with (first|(go_at_call 98;refine N.o.m fun v j=>?_)|(go_at_call 108;refine(iq _ _).m fun u p=>?_)|(go_at_call 109;have C:=eW _ _ _ _ _ (K.o u (j.o.trans p.o)) x;rw[KL.o,←z.o] at C;refine C.mono ?_;rintro e M ⟨rfl,rfl⟩));go_roundw
      case rel=>exact⟨k+1,by omega,by go_num,(E.o.trans j.o).trans p.o,by rw[F.o,n.o,h1,h2];rfl⟩
      case measure=>simp[intOf];omega
  ·have B:l.drop k=[]:=hH (by omega)
   have n:Hid (bM l=true):=by
    have:=F.o;rw[B] at this;exact this
   clear B
   go_wp2
   go_ret;exact⟨by rw[n.o];rfl,E.o⟩
def arF (a:BL)(n:Int):BL->Int
 |[]=>if n=0\/a≠[] then-1 else n
 |b::r=>if b=58 then(if aI a then arF [] (n+1) r else-1) else arF (a++[b]) n r
theorem DM (a:BL)(n:Int)(d:0<=n)(l:BL):arF a n l=if((aQ a l).1.all fun p=>aI p.dropLast)=true/\(aQ a l).2=[]/\(n≠0\/(aQ a l).1≠[]) then n+(aQ a l).1.length else-1:=by
 induction l generalizing a n with
 |nil=>
  simp only[arF,aQ,List.all_nil,hG,ne_eq,not_true_eq_false,or_false];by_cases h:n=0\/¬a=[]
  ·rw[if_pos h,if_neg]
   rintro⟨_,f,e⟩;rcases h with h|h
   ·exact e h
   ·exact h f
  ·rw[if_neg h,if_pos]
   ·simp
   ·simp only[not_or,Classical.not_not] at h
    exact⟨trivial,h.2,h.1⟩
 |cons b r ih=>
  rw[arF,aQ];by_cases h:b=58
  ·rw[if_pos h,if_pos h]
   by_cases hc:aI a=true
   ·rw[if_pos hc,ih [] (n+1) (by omega)]
    simp only[x0,List.dropLast_concat,hc,Bool.true_and,gi];have:n+1≠0:=by omega
    simp only[this,ne_eq,not_false_eq_true,true_or,and_true,List.cons_ne_nil,or_true]
    split
    ·push_cast;omega
    ·rfl
   ·have c:aI a=false:=by simpa using hc
    rw[if_neg hc,if_neg];simp[c]
  ·rw[if_neg h,if_neg h,ih _ _ d]
theorem rc (l:BL):bo l=if aI l then 0 else if cJ l then 1 else arF [] 0 l:=by
 unfold bo
 split
 ·rfl
 ·split
  ·rfl
  ·rw[DM _ _ (by omega)]
   unfold vl bS yS;by_cases h1:(aQ [] l).1=[]
   ·simp[h1]
   ·by_cases h2:((aQ [] l).1.all fun p=>aI p.dropLast)=true
    ·by_cases h3:(aQ [] l).2=[]
     ·simp[h1,h2,h3]
     ·simp[h1,h2,h3]
    ·have a:((aQ [] l).1.all fun p=>aI p.dropLast)=false:=by simpa using h2
     rw[if_neg (by rw[a];simp),if_neg (by rw[a];simp)]
theorem lM (s:ByteArray)(g k:Nat):bl (s.extract g k)=((bl s).drop g).take (k-g):=by
 unfold bl;rw[ByteArray.data_extract];simp[Array.toList_extract,List.extract_eq_take_drop]
theorem jO (s:ByteArray)(g k:Nat):(s.extract g k).size<=s.size:=by
 rw[bX,bX,lM];simp;omega
theorem ss (w:World)(s:ByteArray)(E:s.size<=1048576):Calls Tryz.prog 95 #[.string s] w fun e w'=>e=.returned (.i (bo (bl s)))/\Ext w w':=by
 rw[rc];have N:=hY (iZ w s E);cases h1:aI (bl s) with
 |true=>
  rw[h1] at N;go_enter Tryz.func95,Tryz.ntmps95;go_wp2_with (go_at_call 98;refine N.o.m fun v r=>?_);go_ret;exact⟨rfl,r.o⟩
 |false=>
  rw[h1] at N;have B:=hY (fun W=>jA W s E);cases h2:cJ (bl s) with
  |true=>
   rw[h2] at B;go_enter Tryz.func95,Tryz.ntmps95;go_wp2_with (first|(go_at_call 98;refine N.o.m fun v r=>?_)|(go_at_call 99;refine(B.o v).m fun l z=>?_));go_ret;exact⟨rfl,r.o.trans z.o⟩
  |false=>
   rw[h2] at B;go_enter Tryz.func95,Tryz.ntmps95;go_upto_region 6 with(first|(go_at_call 98;refine N.o.m fun v r=>?_)|(go_at_call 99;refine(B.o v).m fun l z=>?_));go_upto_region 7 with(rw[ep s l]);have y:=hY ((r.o.trans z.o).trans (dD s l));have I:=hY (fun(W:World) (d:Ext (Lib.bytesWorld l 5 s) W) (j:Nat) (h:j<s.size)=>(d.cell (p:=⟨l.heap.size,j,none⟩) (by rw[Lib.bytesWorld_size];exact sx _)).trans (fH s l j h));clear r z N B;generalize Lib.bytesWorld l 5 s=K at*;generalize grownCap l s.size 0 5=V at*
   go_loopw [3,4,14] (fun n f i wr=>∃k g:Nat,∃m:Int,k<=s.size/\g<=k/\0<=m/\m<=k/\n=.i m/\f=.i g/\i=.i k/\Ext K wr/\arF [] 0 (bl s)=arF (((bl s).drop g).take (k-g)) m ((bl s).drop k)) (fun _ _ i _=>s.size-(intOf i).toNat)
   case atStart=>exact⟨0,0,0,by omega,by omega,by omega,by omega,rfl,rfl,rfl,Ext.refl _,rfl⟩
   case round=>
    obtain⟨k,g,m,S,U,R,L,rfl,rfl,rfl,d,H⟩:=hrel;have F:=hY H;have q:=hY d;clear H d;by_cases hlt:k<s.size
    ·have M:=I.o wr q.o k hlt
     have u:=my hlt
     have c:Hid (arF [] 0 (bl s)=if s[k]=58 then(if aI (((bl s).drop g).take (k-g)) then arF [] (m+1) ((bl s).drop (k+1)) else-1) else arF (((bl s).drop g).take (k-g)++[s[k]]) m ((bl s).drop (k+1))):=by
      have:=F.o;rw[u,arF] at this;exact this
     have C:Hid (((bl s).drop g).take (k-g)++[s[k]]=((bl s).drop g).take (k+1-g)):=by
      have P:k+1-g=(k-g)+1:=by omega
      have O:((bl s).drop g)[k-g]?=some s[k]:=by
       rw[List.getElem?_drop,←f9 s k hlt]
       congr 1
       omega
      refine hY ?_;rw[P,tO,O];rfl
     clear u;by_cases hb:s[k]=58
     ·rw[hb] at M
      rw[if_pos hb] at c;have N:=hY (iZ wr (s.extract g k) (by have:=jO s g k;omega));rw[lM] at N;clear hb C;cases h3:aI (((bl s).drop g).take (k-g)) with
      |true=>
       rw[h3] at N c;clear h3;go_wp2_with (go_at_call 98;refine N.o.m fun J D=>?_);go_roundw
       case rel=>exact⟨k+1,k+1,m+1,by omega,by omega,by omega,by omega,by go_num,by go_num,by go_num,q.o.trans D.o,by rw[c.o];simp⟩
       case measure=>simp[intOf];omega
      |false=>
       rw[h3] at N c;clear h3;go_wp2_with (go_at_call 98;refine N.o.m fun J D=>?_);go_ret;exact⟨by rw[c.o];rfl,(y.o.trans q.o).trans D.o⟩
     ·rw[if_neg hb,C.o] at c
      generalize s[k]=x at*
      have Q:((x.toNat:Int)!=58)=true:=by
       simp only[bne_iff_ne,ne_eq];intro e
       exact hb (UInt8.toNat_inj.1 (by have:x.toNat=58:=by omega
                                       exact this))
      clear hb C;go_wp2_with fail;go_roundw
      case rel=>exact⟨k+1,g,m,by omega,by omega,by omega,by omega,rfl,rfl,by go_num,q.o,c.o⟩
      case measure=>simp[intOf];omega
    ·have t:k=s.size:=by omega
     have u:(bl s).drop k=[]:=hH (by rw[←bX];omega);have G:(((bl s).drop g).take (k-g)).length=k-g:=by rw[List.length_take,List.length_drop,←bX];omega
     have c:Hid (arF [] 0 (bl s)=if m=0\/g≠k then-1 else m):=by
      have:=F.o;rw[u,arF] at this;refine hY (this.trans ?_)
      have e:(((bl s).drop g).take (k-g)≠[])↔g≠k:=by
       rw[←zb,G];omega
      simp only[e]
     clear u G F I;by_cases hm0:m=0
     ·subst hm0
      go_wp2_with fail;go_ret;exact⟨by rw[c.o];simp,y.o.trans q.o⟩
     ·by_cases hgk:g=k
      ·subst hgk
       have A:((g:Int)!=(s.size:Int))=false:=by simp[t]
       clear t;go_wp2_with fail;go_ret;exact⟨by rw[c.o];simp[hm0],y.o.trans q.o⟩
      ·have A:((g:Int)!=(s.size:Int))=true:=by simp;omega
       go_wp2_with fail;go_ret;exact⟨by rw[c.o];simp[hgk],y.o.trans q.o⟩
structure us (w:World)(g o:Nat)(x:T)(a1:Option Addr)(c1:Nat)(a2:Option Addr)(c2:Nat)(a3:Option Addr)(c3:Nat):Prop where
 k0:w.cell? ⟨g,o,none⟩=some (.i x.kind)
 k1:w.cell? ⟨g,o+1,none⟩=some (.string (mkS x.name))
 k2:w.cell? ⟨g,o+2,none⟩=some (.slice a1 x.FP.length c1)
 k3:w.cell? ⟨g,o+3,none⟩=some (.slice a2 x.FQ.length c2)
 k4:w.cell? ⟨g,o+4,none⟩=some (.slice a3 x.FN.length c3)
 k5:w.cell? ⟨g,o+5,none⟩=some (.i x.FY)
 k6:w.cell? ⟨g,o+6,none⟩=some (.i x.FR)
theorem NAt.seven {w:World}{top c:Nat}{a:Option Addr}{l:List T}(h:NAt w top a c l){j:Nat}{x:T}(o:l[j]?=some x):∃g b n i m f k e,a=some ⟨g,b,none⟩/\g<top/\us w g (b+j*7) x n i m f k e/\bK w top x n i m f k e:=by
 obtain⟨g,b,n,i,m,f,k,e,r,q,d,p⟩:=h.at o;exact⟨g,b,n,i,m,f,k,e,r,q,⟨d 0 (by omega),d 1 (by omega),d 2 (by omega),d 3 (by omega),d 4 (by omega),d 5 (by omega),d 6 (by omega)⟩,p⟩
theorem us.keep {w w':World}{g o:Nat}{x:T}{k:Option Addr}{e:Nat}{j:Option Addr}{d:Nat}{f:Option Addr}{c:Nat}(h:us w g o x k e j d f c)(l:w'.heap[g]?=w.heap[g]?):us w' g o x k e j d f c:=by
 have b:∀i,w'.cell? ⟨g,i,none⟩=w.cell? ⟨g,i,none⟩:=fun i=>World.cell?_of_block (a:=⟨g,i,none⟩) l;exact⟨by rw[b];exact h.k0,by rw[b];exact h.k1,by rw[b];exact h.k2,by rw[b];exact h.k3,by rw[b];exact h.k4,by rw[b];exact h.k5,by rw[b];exact h.k6⟩
def jT (n:FuncId)(a:Array Value)(q:T->Bool)(x:T)(w:World)(top:Nat):Prop:=∀W h d g c f b,Ext w W->bK W top x h d g c f b->Calls Tryz.prog n (#[.agg #[.i x.kind,.string (mkS x.name),.slice h x.FP.length d,.slice g x.FQ.length c,.slice f x.FN.length b,.i x.FY,.i x.FR]]++a) W fun e j=>e=.returned (.bool (q x))/\Ext W j
def kg (q:T->Bool):Nat->List T->Int
 |_,[]=> -1
 |k,x::r=>if q x=true then k else kg q (k+1) r
theorem xM (q:T->Bool)(k:Nat)(l:List T):decide (0<=kg q k l)=l.any q:=by
 induction l generalizing k with
 |nil=>rfl
 |cons x r ih=>
  rw[kg,List.any_cons,←ih (k+1)];cases q x with
  |true=>simp
  |false=>simp
theorem zq (w:World)(top c:Nat)(a:Option Addr)(l:List T)(h:NAt w top a c l)(d:top<=w.heap.size)(q:T->Bool)(p:Nat)(n:∀x∈l,jT 241 #[.pointer (some ⟨p,0,none⟩)] q x w top):Calls Tryz.prog 270 #[.slice a l.length c,.func (Fn.func 241) #[] #[.pointer (some ⟨p,0,none⟩)]] w fun e w'=>e=.returned (.i (kg q 0 l))/\Ext w w':=by
 have z:l.length<=1048576:=h.small;have H:=hY h;have M:=hY d;have N:=hY n;clear h d n;go_enter Tryz.func270,Tryz.ntmps270;go_wp2_with fail
 go_loopw [8] (fun i wr=>∃k:Nat,k<=l.length/\i=.i k/\Ext w wr/\kg q 0 l=kg q k (l.drop k)) (fun i _=>l.length-(intOf i).toNat)
 case atStart=>exact⟨0,by omega,rfl,Ext.refl _,rfl⟩
 case round=>
  obtain⟨k,W,rfl,u,t⟩:=hrel;have E:=hY u;have F:=hY t;clear u t;by_cases hlt:k<l.length
  ·obtain⟨x,j⟩:∃x,l[k]?=some x:=⟨l[k],by simp⟩
   obtain⟨g,y,L,I,K,G,J,D,rfl,A,B,s⟩:=(H.o.keep (am E.o M.o)).seven j
   have f:Hid (kg q 0 l=if q x=true then(k:Int) else kg q (k+1) (l.drop (k+1))):=by
    have:=F.o;rw[hI hlt,kg] at this;have e:l[k]=x:=by simpa [hlt] using j
    rw[e] at this;exact this
   have C:=hY (N.o x (eQ j) wr L I K G J D E.o s);obtain⟨V,U,S,R,Q,P,O⟩:=B;clear j s A F;cases hqx:q x with
   |true=>
    rw[hqx] at C f;go_wp2_with (go_at_call 241;refine C.o.m fun v m=>?_);go_ret;exact⟨by rw[f.o];rfl,E.o.trans m.o⟩
   |false=>
    rw[hqx] at C f;go_wp2_with (go_at_call 241;refine C.o.m fun v m=>?_);go_roundw
    case rel=>exact⟨k+1,by omega,by go_num,E.o.trans m.o,by rw[f.o];rfl⟩
    case measure=>simp[intOf];omega
  ·have r:l.drop k=[]:=hH (by omega)
   have f:Hid (kg q 0 l= -1):=by
    have:=F.o;rw[r] at this;exact this
   clear r
   go_wp2
   go_ret;exact⟨by rw[f.o];rfl,E.o⟩
theorem ug (w:World)(top c:Nat)(a:Option Addr)(l:List T)(h:NAt w top a c l)(b:top<=w.heap.size)(q:T->Bool)(p:Nat)(f:∀x∈l,jT 241 #[.pointer (some ⟨p,0,none⟩)] q x w top):Calls Tryz.prog 240 #[.slice a l.length c,.func (Fn.func 241) #[] #[.pointer (some ⟨p,0,none⟩)]] w fun e w'=>e=.returned (.bool (l.any q))/\Ext w w':=by
 have M:=hY (xM q 0 l);have C:=hY (zq w top c a l h b q p f);clear h f b;generalize kg q 0 l=z at*;go_enter Tryz.func240,Tryz.ntmps240;go_wp2_with (go_at_call 270;refine C.o.m fun i g=>?_);go_ret;exact⟨by rw[←M.o];rfl,g.o⟩
abbrev Ce (x:T)(f:Option Addr)(c:Nat)(e:Option Addr)(b:Nat)(d:Option Addr)(a:Nat):Obj:=.cells #[.i x.kind,.string (mkS x.name),.slice f x.FP.length c,.slice e x.FQ.length b,.slice d x.FN.length a,.i x.FY,.i x.FR] 26 (0,0)
theorem boxed (W:World)(x:T)(g:Option Addr)(d:Nat)(f:Option Addr)(c:Nat)(e:Option Addr)(b:Nat):us (W.alloc (Ce x g d f c e b)) W.heap.size 0 x g d f c e b:=by
 obtain⟨a,h⟩:=blk (aq W (Ce x g d f c e b) _ rfl);exact⟨a 0,a 1,a 2,a 3,a 4,a 5,a 6⟩
theorem Cm (q:T->Bool)(l:List T):l.all q=!(l.any fun x=>!q x):=by
 induction l with
 |nil=>rfl
 |cons x r ih=>rw[x0,List.any_cons,ih];cases q x<;>rfl
theorem DQ (w:World)(top p:Nat)(f:FuncId)(t:f=141\/f=192\/f=194\/f=195)(q:T->Bool)(x:T)(g:top<=w.heap.size)(v:w.cell? ⟨p,0,none⟩=some (.func (.func f) #[] #[]))(h:p<w.heap.size)(y:jT f #[] q x w top):jT 241 #[.pointer (some ⟨p,0,none⟩)] (fun x=>!q x) x w top:=by
 intro W r l n k m j s z;have c:Hid (Ext W (W.alloc (Ce x r l n k m j))):=(Ext.refl W).alloc _;have B:=boxed W x r l n k m j
 have A:(W.alloc (Ce x r l n k m j)).cell? ⟨p,0,none⟩=some (.func (.func f) #[] #[]):=by
  rw[←v,←s.cell (p:=⟨p,0,none⟩) h];exact c.o.cell (p:=⟨p,0,none⟩) (bA h s.size)
 have C:=hY (y _ r l n k m j (s.trans c.o) (z.keep (am c.o (aN g s.size))));obtain⟨J,I,H,G,F,E,D⟩:=B;clear y z v;show Calls Tryz.prog 241 #[.agg #[.i x.kind,.string (mkS x.name),.slice r x.FP.length l,.slice n x.FQ.length k,.slice m x.FN.length j,.i x.FY,.i x.FR],.pointer (some ⟨p,0,none⟩)] W _
 rcases t with rfl|rfl|rfl|rfl
 ·go_enter Tryz.func241,Tryz.ntmps241
  go_upto_region 1 with fail;generalize W.alloc _=u at*;cases hq:q x with
  |true=>
   rw[hq] at C;go_wp2_with (go_at_call 141;refine C.o.m fun d b=>?_);go_ret;exact⟨by first|rfl|(rw[hq];rfl),c.o.trans b.o⟩
  |false=>
   rw[hq] at C;go_wp2_with (go_at_call 141;refine C.o.m fun d b=>?_);go_ret;exact⟨by first|rfl|(rw[hq];rfl),c.o.trans b.o⟩
 ·go_enter Tryz.func241,Tryz.ntmps241
  go_upto_region 1 with fail;generalize W.alloc _=u at*;cases hq:q x with
  |true=>
   rw[hq] at C;go_wp2_with (go_at_call 192;refine C.o.m fun d b=>?_);go_ret;exact⟨by first|rfl|(rw[hq];rfl),c.o.trans b.o⟩
  |false=>
   rw[hq] at C;go_wp2_with (go_at_call 192;refine C.o.m fun d b=>?_);go_ret;exact⟨by first|rfl|(rw[hq];rfl),c.o.trans b.o⟩
 ·go_enter Tryz.func241,Tryz.ntmps241
  go_upto_region 1 with fail;generalize W.alloc _=u at*;cases hq:q x with
  |true=>
   rw[hq] at C;go_wp2_with (go_at_call 194;refine C.o.m fun d b=>?_);go_ret;exact⟨by first|rfl|(rw[hq];rfl),c.o.trans b.o⟩
  |false=>
   rw[hq] at C;go_wp2_with (go_at_call 194;refine C.o.m fun d b=>?_);go_ret;exact⟨by first|rfl|(rw[hq];rfl),c.o.trans b.o⟩
 ·go_enter Tryz.func241,Tryz.ntmps241
  go_upto_region 1 with fail;generalize W.alloc _=u at*;cases hq:q x with
  |true=>
   rw[hq] at C;go_wp2_with (go_at_call 195;refine C.o.m fun d b=>?_);go_ret;exact⟨by first|rfl|(rw[hq];rfl),c.o.trans b.o⟩
  |false=>
   rw[hq] at C;go_wp2_with (go_at_call 195;refine C.o.m fun d b=>?_);go_ret;exact⟨by first|rfl|(rw[hq];rfl),c.o.trans b.o⟩
theorem nw (w:World)(top c:Nat)(a:Option Addr)(l:List T)(h:NAt w top a c l)(b:top<=w.heap.size)(f:FuncId)(i:f=141\/f=192\/f=194\/f=195)(q:T->Bool)(j:∀x∈l,jT f #[] q x w top):Calls Tryz.prog 191 #[.slice a l.length c,.func (.func f) #[] #[]] w fun e w'=>e=.returned (.bool (l.all q))/\Ext w w':=by
 have g:Hid (Ext w (w.alloc (.cells #[.func (.func f) #[] #[]] 42))):=(Ext.refl w).alloc _
 have A:Hid (∀x∈l,jT 241 #[.pointer (some ⟨w.heap.size,0,none⟩)] (fun x=>!q x) x (w.alloc (.cells #[.func (.func f) #[] #[]] 42)) top):=fun x k=>
  DQ _ top _ f i q x (aN b g.o.size) ((blk (aq w (.cells #[.func (.func f) #[] #[]] 42) _ rfl)).1 0) (ab (aq w _ _ rfl)) (fun W v s u r t p m n=>j x k W v s u r t p (g.o.trans m) n)
 have C:=hY (ug _ top c a l (h.keep (am g.o b)) (aN b g.o.size) _ _ A.o)
 have M:Hid (l.all q=!(l.any fun x=>!q x)):=by
  exact hY (Cm q l)
 clear h j b A;generalize(l.any fun x=>!q x)=z at*;go_enter Tryz.func191,Tryz.ntmps191;go_wp2_with (go_at_call 240;refine C.o.m fun B y=>?_);go_ret;exact⟨by rw[M.o];rfl,g.o.trans y.o⟩
def dT:BL->Bool
 |[]=>bE []
 |[x]=>bE [x]
 |x::y::r=>if x=45 then decide (x::y::r≠[45,48])&&dT (y::r)&&decide (y≠45) else bE (x::y::r)
theorem xz (l:BL):dT l=dz l:=by
 rcases l with _|⟨x,_|⟨y,r⟩⟩
 ·rfl
 ·rw[dT]
  by_cases h:x=45
  ·subst h;rfl
  ·unfold dz
   split
   ·rename_i heq
    simp only[DO] at heq;exact absurd heq.1 h
   ·rfl
 ·rw[dT]
  by_cases h:x=45
  ·subst h
   rw[if_pos rfl];show _=(bE (y::r)&&(y::r !=[48]))
   by_cases hy:y=45
   ·subst hy
    have:bE (45::r)=false:=by simp[bE,cU]
    rw[this];simp
   ·have e:dT (y::r)=bE (y::r):=by
     cases r with
     |nil=>rfl
     |cons z t=>rw[dT,if_neg hy]
    rw[e];cases bE (y::r) with
    |false=>simp
    |true=>cases r with
     |nil=>by_cases hy8:y=48<;>simp[hy8,hy]
     |cons z t=>simp[hy]
  ·rw[if_neg h]
   unfold dz
   split
   ·rename_i heq
    simp only[DO] at heq;exact absurd heq.1 h
   ·rfl
theorem cO (s:ByteArray)(l:BL):(s.toList==l)=decide (bl s=l):=by
 rw[ey,rW];simp
theorem oE (x n:UInt8):((x.toNat:Int)==(n.toNat:Int))=decide (x=n):=by
 rw[rW];simp only[beq_iff_eq,decide_eq_true_eq];exact⟨fun h=>UInt8.toNat_inj.1 (Int.ofNat_inj.1 h),fun h=>by rw[h]⟩
theorem qX (w:World)(s:ByteArray)(S:s.size<=1048576)(H:∀h:1<s.size,s[0]≠45):Calls Tryz.prog 193 #[.string s] w fun e w'=>e=.returned (.bool (bE (bl s)))/\Ext w w':=by
 have a:=bX s;by_cases h0:s.size=0
 ·have e:bl s=[]:=ls (by omega)
  have O:(s.toList==[])=true:=by rw[cO,e];rfl
  have A:s.toList.isEmpty=true:=by rw[ey,e];rfl
  have R:=hY e;clear e a;go_enter Tryz.func193,Tryz.ntmps193;go_wp2_with fail;go_ret;exact⟨by rw[R.o];rfl,Ext.refl _⟩
 ·obtain⟨c,r,b⟩:∃c r,bl s=c::r:=by
   cases h:bl s with
   |nil=>rw[h] at a;exact absurd a h0
   |cons c r=>exact⟨c,r,rfl⟩
  have B:0<s.size:=by omega
  have u:s[0]=c:=by
   have:=f9 s 0 B;rw[b] at this;simpa using this.symm
  have A:s.toList.isEmpty=false:=by rw[ey,b];rfl
  have O:(s.toList==[])=false:=by rw[cO,b];simp
  have R:=hY b;have L:=hY a
  have g:1<s.size->((s[0].toNat:Int)==45)=false:=fun h=>by
   have:=oE s[0] 45;rw[decide_eq_false (H h)] at this;exact this
  have n:((s[0].toNat:Int)==48)=decide (c=48):=by rw[←u];exact oE s[0] 48
  clear H b a u;by_cases h1000:1000<s.size
  ·have q:=g (by omega)
   have D:Hid (bE (bl s)=false):=by
    have:=L.o;unfold bE;have:decide ((bl s).length<=1000)=false:=decide_eq_false (by omega);rw[this];refine hY ?_;simp
   clear g n;go_enter Tryz.func193,Tryz.ntmps193;go_wp2_with fail;go_ret;exact⟨by rw[D.o];rfl,Ext.refl _⟩
  ·by_cases h48:1<s.size/\c=48
   ·obtain⟨f,rfl⟩:=h48
    have q:=g f
    have D:Hid (bE (bl s)=false):=by
     have:=L.o;unfold bE;rw[R.o] at this ⊢;have C:decide ((48::r:BL).length<=1)=false:=decide_eq_false (by omega);refine hY ?_;simp only[C,List.head?_cons,bne_self_eq_false,Bool.or_self,Bool.and_false,Bool.false_and]
    have z:((s[0].toNat:Int)==48)=true:=by rw[n];simp
    clear g n;go_enter Tryz.func193,Tryz.ntmps193;go_wp2_with fail;go_ret;exact⟨by rw[D.o];rfl,Ext.refl _⟩
   ·have D:Hid (bE (bl s)=(bl s).all cU):=by
     have:=L.o;unfold bE;have C:decide ((bl s).length<=1000)=true:=decide_eq_true (by omega)
     have P:(decide ((bl s).length<=1)||((bl s).head? !=some 48))=true:=by
      by_cases f:(bl s).length<=1
      ·rw[decide_eq_true f];rfl
      ·have:c≠48:=fun e=>h48 ⟨by omega,e⟩
       rw[R.o];simp[this]
     rw[C,P,R.o];exact hY (by simp)
    have y:s.size=1\/(1<s.size/\((s[0].toNat:Int)==45)=false/\((s[0].toNat:Int)==48)=false):=by
     by_cases f:1<s.size
     ·exact .inr ⟨f,g f,by rw[n];exact decide_eq_false (fun e=>h48 ⟨f,e⟩)⟩
     ·exact .inl (by omega)
    clear g n h48;rcases y with f|⟨f,q,z⟩
    all_goals
     go_enter Tryz.func193,Tryz.ntmps193;go_upto_region 6 with(rw[ep s w]);have J:=hY (dD s w);have Q:=hY (fun(W:World) (d:Ext (Lib.bytesWorld w 5 s) W) (j:Nat) (h:j<s.size)=>(d.cell (p:=⟨w.heap.size,j,none⟩) (by rw[Lib.bytesWorld_size];exact sx _)).trans (fH s w j h));generalize Lib.bytesWorld w 5 s=M at*;generalize grownCap w s.size 0 5=V at*
     go_loopw [45] (fun i wr=>∃k:Nat,k<=s.size/\i=.i k/\Ext M wr/\((bl s).all cU=((bl s).drop k).all cU)) (fun i _=>s.size-(intOf i).toNat)
     case atStart=>exact⟨0,by omega,rfl,Ext.refl _,rfl⟩
     case round=>
      obtain⟨k,N,rfl,d,I⟩:=hrel;have F:=hY I;have v:=hY d;clear I d;by_cases hlt:k<s.size
      ·have t:=my hlt
       have m:Hid ((bl s).all cU=(cU s[k]&&((bl s).drop (k+1)).all cU)):=by
        have:=F.o;rw[t,x0] at this;exact this
       have U:=Q.o wr v.o k hlt;have l:=nk s[k];clear t;cases hb1:cU s[k] with
       |true=>
        rw[hb1] at l m;generalize s[k]=x at*;have E:fu (x.toNat:Int)=3:=by simpa using l
        clear l hb1;go_wp2_with (go_at_call 143;refine(dS _ _).m fun K d=>?_;have G:=hY (v.o.trans d.o));go_roundw
        case rel=>exact⟨k+1,by omega,by go_num,G.o,by rw[m.o];simp⟩
        case measure=>simp[intOf];omega
       |false=>
        rw[hb1] at l m;generalize s[k]=x at*;have E:(fu (x.toNat:Int)!=3)=true:=by simpa using l
        clear l hb1;go_wp2_with (go_at_call 143;refine(dS _ _).m fun K d=>?_;have G:=hY (v.o.trans d.o));go_ret;exact⟨by rw[D.o,m.o];rfl,J.o.trans G.o⟩
      ·have t:(bl s).drop k=[]:=hH (by rw[←bX];omega)
       have m:Hid ((bl s).all cU=true):=by
        have:=F.o;rw[t] at this;exact this
       clear t
       go_wp2
       go_ret;exact⟨by rw[D.o,m.o];rfl,J.o.trans v.o⟩
theorem Cf (s:ByteArray):bl (s.extract 1 s.size)=(bl s).drop 1:=by
 rw[lM];apply Fu;rw[List.length_drop,←bX];omega
theorem xA (n:Nat):∀(w:World) (s:ByteArray) (t:s.size<=1048576) (B:s.size<=n),Calls Tryz.prog 193 #[.string s] w fun e w'=>e=.returned (.bool (dT (bl s)))/\Ext w w':=by
 induction n with
 |zero=>
  intro w s t B;have e:bl s=[]:=ls (by rw[←bX];omega);refine(qX w s t (fun h=>by omega)).mono ?_;rintro E w' ⟨rfl,h⟩;exact⟨by rw[e];rfl,h⟩
 |succ n ih=>
  intro w s t B;by_cases hA:∃h:1<s.size,s[0]=45
  ·obtain⟨D,k⟩:=hA
   obtain⟨y,r,f⟩:∃y r,bl s=45::y::r:=by
    have i:=bX s;have g:=f9 s 0 (by omega);rw[k] at g;rcases hb:bl s with _|⟨a,_|⟨y,r⟩⟩
    ·rw[hb] at g;simp at g
    ·rw[hb] at i;simp at i;omega
    ·rw[hb] at g
     simp only[iN,dO] at g;exact⟨y,r,by rw[g]⟩
   have p:s[1]=y:=by
    have:=f9 s 1 D;rw[f] at this;simpa using this.symm
   have v:bl (s.extract 1 s.size)=y::r:=by rw[Cf,f];rfl
   have m:(s.extract 1 s.size).size<=n:=by
    have:=bX (s.extract 1 s.size);have i:=bX s;rw[v] at this;rw[f] at i;simp only[gi] at this i;omega
   have R:=hY (ih w (s.extract 1 s.size) (by have:=jO s 1 s.size;omega) m);rw[v] at R;have H:((s[0].toNat:Int)==45)=true:=(oE s[0] 45).trans (by simpa using k);have d:(s.toList==[45,48])=decide (bl s=[45,48]):=cO s [45,48]
   have G:Hid (dT (bl s)=(decide (bl s≠[45,48])&&dT (y::r)&&decide (y≠45))):=by
    rw[f,dT,if_pos rfl];exact hY rfl
   have b:((s[1].toNat:Int)==45)=decide (y=45):=by rw[←p];exact oE s[1] 45
   clear k f p v m ih;by_cases hz:bl s=[45,48]
   ·have j:(s.toList==[45,48])=true:=d.trans (decide_eq_true hz)
    have F:Hid (dT (bl s)=false):=by rw[G.o,hz];exact hY rfl
    clear d hz G b;go_enter Tryz.func193,Tryz.ntmps193;go_wp2_with fail;go_ret;exact⟨by rw[F.o];rfl,Ext.refl _⟩
   ·have j:(s.toList==[45,48])=false:=d.trans (decide_eq_false hz)
    have l:Hid (dT (bl s)=(dT (y::r)&&decide (y≠45))):=by rw[G.o,decide_eq_true hz];exact hY (by simp)
    clear d hz G;cases hr:dT (y::r) with
    |false=>
     rw[hr] at R l;clear hr b;go_enter Tryz.func193,Tryz.ntmps193;go_wp2_with (go_at_call 193;refine R.o.m fun A q=>?_);go_ret;exact⟨by rw[l.o];rfl,q.o⟩
    |true=>
     rw[hr] at R l;clear hr;by_cases hy:y=45
     ·have u:((s[1].toNat:Int)!=45)=false:=by simp only[bne,b,decide_eq_true hy];rfl
      have z:Hid (dT (bl s)=false):=by rw[l.o,hy];exact hY rfl
      clear b hy l;go_enter Tryz.func193,Tryz.ntmps193;go_wp2_with (go_at_call 193;refine R.o.m fun A q=>?_);go_ret;exact⟨by rw[z.o];rfl,q.o⟩
     ·have u:((s[1].toNat:Int)!=45)=true:=by simp only[bne,b,decide_eq_false hy];rfl
      have z:Hid (dT (bl s)=true):=by rw[l.o];exact hY (by simp[hy])
      clear b hy l;go_enter Tryz.func193,Tryz.ntmps193;go_wp2_with (go_at_call 193;refine R.o.m fun A q=>?_);go_ret;exact⟨by rw[z.o];rfl,q.o⟩
  ·have C:∀h:1<s.size,s[0]≠45:=fun h e=>hA ⟨h,e⟩
   refine(qX w s t C).mono ?_;rintro E w' ⟨rfl,h⟩;refine⟨?_,h⟩
   have:dT (bl s)=bE (bl s):=by
    have i:=bX s;rcases hb:bl s with _|⟨x,_|⟨y,r⟩⟩
    ·rfl
    ·rfl
    ·rw[hb] at i
     simp only[gi] at i;have g:=f9 s 0 (by omega);rw[hb] at g;simp only[iN,dO] at g;rw[dT,if_neg];rw[g];exact C (by omega)
   rw[this]
theorem zm (w:World)(s:ByteArray)(a:s.size<=1048576):Calls Tryz.prog 193 #[.string s] w fun e w'=>e=.returned (.bool (dz (bl s)))/\Ext w w':=by
 rw[←xz];exact xA s.size w s a (gE _)
theorem vB (l:List T):T.exprs l=l.all T.expr:=by
 induction l with
 |nil=>rw[T.exprs];rfl
 |cons x r ih=>rw[T.exprs,x0,ih]
theorem eV {α:Type}(l:List α):l.isEmpty=(l.length==0):=by cases l<;>rfl
theorem uV (k:Int)(n:BL)(b a:List BL)(l:List T)(p pl:Int):T.msg (.mk k n b a l p pl)=(k==7&&(b.length==0&&a.length==0&&p==0)&&decide (0<=bo n)&&((l.length:Int)==bo n)&&l.all T.expr):=by
 rw[T.msg,vB,eV,eV];by_cases h:(l.length:Int)=bo n
 ·have:decide (0<=bo n)=true:=decide_eq_true (by omega)
  rw[this,Bool.and_true]
 ·have:((l.length:Int)==bo n)=false:=by simpa using h
  rw[this];simp
def jq (x:T)(w:World)(top:Nat):Prop:=jT 141 #[] T.expr x w top
abbrev aB (k:Int)(n:BL)(n1 b a:Nat)(p pl:Int)(h:Option Addr)(e:Nat)(g:Option Addr)(d:Nat)(f:Option Addr)(c:Nat):List Value:=[.i k,.string (mkS n),.slice h n1 e,.slice g b d,.slice f a c,.i p,.i pl]
abbrev af (k:Int)(n:BL)(n1 b a:Nat)(p pl:Int)(h:Option Addr)(e:Nat)(g:Option Addr)(d:Nat)(f:Option Addr)(c:Nat):Array Value:=(aB k n n1 b a p pl h e g d f c).toArray
theorem xal (w:World)(x:T)(f:Option Addr)(c:Nat)(e:Option Addr)(b:Nat)(d:Option Addr)(a:Nat):Hid (Ext w (w.alloc (.cells (af x.kind x.name x.FP.length x.FQ.length x.FN.length x.FY x.FR f c e b d a) 26))):=(Ext.refl w).alloc _
theorem bt (W:World)(a:List Value)(T:TypeId):∀W',Ext (W.alloc (.cells a.toArray T)) W'->(∀i,W'.cell? ⟨W.heap.size,i,none⟩=a[i]?)/\Ext (W.alloc (.cells a.toArray T)) W':=fun W' b=>⟨fun i=>by rw[(blk (b.keep (aq W _ _ rfl))).1];simp,b⟩
theorem va (w:World)(top:Nat)(g:top<=w.heap.size)(x:T)(Y:∀y∈x.FN,jq y w top):jT 192 #[] T.msg x w top:=by
 intro W C u v t r q O H;obtain⟨k,n,m,j,l,p,pl⟩:=x;rw[uV];have aa:l.length<=1048576:=H.FN.small;have N:(mkS n).size<=1048576:=by rw[aR];exact H.name
 have h:Hid (Ext W (W.alloc (.cells (af k n m.length j.length l.length p pl C u v t r q) 26))):=(Ext.refl W).alloc _;have A:=hY (fun J=>ss J (mkS n) N);rw[aG] at A;have U:=hY (fun J (Q:Ext (W.alloc (.cells (af k n m.length j.length l.length p pl C u v t r q) 26)) J)=>nw J top q r l (H.FN.keep (am (h.o.trans Q) (aN g O.size))) (aN g (aN O.size (h.o.trans Q).size)) 141 (.inl rfl) T.expr (fun y Z V b1 d1 b2 d2 b3 d3 hV P=>Y y Z V b1 d1 b2 d2 b3 d3 ((O.trans (h.o.trans Q)).trans hV) P));have s:=hY (bt W (aB k n m.length j.length l.length p pl C u v t r q) 26);clear H Y;obtain⟨q1,_⟩:=s.o _ (Ext.refl _);show Calls Tryz.prog 192 #[.agg (af k n m.length j.length l.length p pl C u v t r q)] W _
 by_cases h7:k=7
 ·subst h7
  go_enter Tryz.func192,Tryz.ntmps192;go_upto_region 1 with fail;generalize W.alloc _=f at*;have B:=hY (fun W=>sq W 7 p pl (mkS n) C v r m.length j.length l.length u t q);have F:=hY (rfl:l.all T.expr=l.all T.expr);generalize D:bo n=z at*;generalize E:(m.length==0&&j.length==0&&p==0)=b at*;have L:=hY D;have M:=hY E;clear D E F;refine wp_region_held_drew (S:=(fun X=>(∀i,X.cell? ⟨W.heap.size,i,none⟩=([.i 7,.string (mkS n),.slice C m.length u,.slice v j.length t,.slice r l.length q,.i p,.i pl]:List Value)[i]?)/\Ext f X)) (by kernel_rfl) ?_ (fun a=>?_)
  ·with_reducible (refine s.o _ ?_;(repeat' (first|refine Ext.drew ?_|exact Ext.refl _|refine Ext.trans ?_ c|exact(‹_/\Ext f _›).2)))
  refine tk 0 a ?_;refine tk 1 a ?_;refine tk 2 a ?_;refine tk 3 a ?_;refine tk 4 a ?_;cases b
  ·(refine kz 5 rfl (by kernel_rfl) (fun K d=>?_);go_simp;(refine(B.o _).mono ?_;rintro e G ⟨rfl,c⟩);(try go_wp2_with fail);refine d.o _ _ ?_ (fun a=>?_);(focus(with_reducible (refine s.o _ ?_;(repeat' (first|refine Ext.drew ?_|exact Ext.refl _|refine Ext.trans ?_ c|exact(‹_/\Ext f _›).2)));done));clear d K)
   try simp only[Act.put,nb,ou,oF]
   refine tk 6 a ?_;refine tk 7 a ?_;refine sk [8,9,10,11] (fuel:=16) a ?_;refine tk 12 a ?_;refine tk 13 a ?_;refine sk [14,15,16,17,18,19,20] (fuel:=7) a ?_;refine tk 21 a ?_;refine tk 22 a ?_;refine sk [23,24,25] (fuel:=2) a ?_;refine tk 26 a ?_;refine tk 27 a ?_;refine wpAnyH_done (by kernel_rfl) ?_ _;go_wp2_with fail;go_ret;refine⟨?_,h.o.trans (‹_/\Ext f _›).2⟩;rw[M.o,L.o];first|rfl|(simp[I];done)|(simp[h1,h2];done)
  ·(refine kz 5 rfl (by kernel_rfl) (fun K d=>?_);go_simp;(refine(B.o _).mono ?_;rintro e G ⟨rfl,c⟩);(try go_wp2_with fail);refine d.o _ _ ?_ (fun a=>?_);(focus(with_reducible (refine s.o _ ?_;(repeat' (first|refine Ext.drew ?_|exact Ext.refl _|refine Ext.trans ?_ c|exact(‹_/\Ext f _›).2)));done));clear d K)
   try simp only[Act.put,nb,ou,oF]
   refine tk 6 a ?_;refine tk 7 a ?_;refine tk 8 a ?_;refine tk 9 a ?_;(refine kz 10 rfl (by kernel_rfl) (fun K d=>?_);go_simp;(refine(A.o _).mono ?_;rintro e G ⟨rfl,c⟩);(try go_wp2_with fail);refine d.o _ _ ?_ (fun a=>?_);(focus(with_reducible (refine s.o _ ?_;(repeat' (first|refine Ext.drew ?_|exact Ext.refl _|refine Ext.trans ?_ c|exact(‹_/\Ext f _›).2)));done));clear d K)
   try simp only[Act.put,nb,ou,oF]
   by_cases h1:0<=z
   ·refine tk 11 a ?_
    refine tk 12 a ?_;refine tk 13 a ?_;refine tk 14 a ?_;refine tk 15 a ?_;refine tk 16 a ?_;refine tk 17 a ?_;refine tk 18 a ?_;(refine kz 19 rfl (by kernel_rfl) (fun K d=>?_);go_simp;(refine(A.o _).mono ?_;rintro e G ⟨rfl,c⟩);(try go_wp2_with fail);refine d.o _ _ ?_ (fun a=>?_);(focus(with_reducible (refine s.o _ ?_;(repeat' (first|refine Ext.drew ?_|exact Ext.refl _|refine Ext.trans ?_ c|exact(‹_/\Ext f _›).2)));done));clear d K)
    try simp only[Act.put,nb,ou,oF]
    cases h2:((l.length:Int)==z)
    ·refine tk 20 a ?_
     refine tk 21 a ?_;refine tk 22 a ?_;refine sk [23,24,25] (fuel:=2) a ?_;refine tk 26 a ?_;refine tk 27 a ?_;refine wpAnyH_done (by kernel_rfl) ?_ _;go_wp2_with fail;go_ret;refine⟨?_,h.o.trans (‹_/\Ext f _›).2⟩;rw[M.o,L.o];first|rfl|(simp[I];done)|(simp[h1,h2];done)
    ·refine tk 20 a ?_
     refine tk 21 a ?_;refine tk 22 a ?_;refine tk 23 a ?_;refine tk 24 a ?_;(refine kz 25 rfl (by kernel_rfl) (fun K d=>?_);go_simp;(refine(U.o _ (‹_/\Ext f _›).2).mono ?_;rintro e G ⟨rfl,c⟩);(try go_wp2_with fail);refine d.o _ _ ?_ (fun a=>?_);(focus(with_reducible (refine s.o _ ?_;(repeat' (first|refine Ext.drew ?_|exact Ext.refl _|refine Ext.trans ?_ c|exact(‹_/\Ext f _›).2)));done));clear d K)
     try simp only[Act.put,nb,ou,oF]
     refine tk 26 a ?_;refine tk 27 a ?_;refine wpAnyH_done (by kernel_rfl) ?_ _;go_wp2_with fail;go_ret;refine⟨?_,h.o.trans (‹_/\Ext f _›).2⟩;rw[M.o,L.o];first|rfl|(simp[I];done)|(simp[h1,h2];done)
   ·have I:decide (0<=z)=false:=decide_eq_false h1
    refine tk 11 a ?_;refine tk 12 a ?_;refine tk 13 a ?_;refine sk [14,15,16,17,18,19,20] (fuel:=7) a ?_;refine tk 21 a ?_;refine tk 22 a ?_;refine sk [23,24,25] (fuel:=2) a ?_;refine tk 26 a ?_;refine tk 27 a ?_;refine wpAnyH_done (by kernel_rfl) ?_ _;go_wp2_with fail;go_ret;refine⟨?_,h.o.trans (‹_/\Ext f _›).2⟩;rw[M.o,L.o];first|rfl|(simp[I];done)|(simp[h1,h2];done)
 ·have R:((k:Int)==7)=false:=by simpa using h7
  go_enter Tryz.func192,Tryz.ntmps192;go_upto_region 1 with fail;generalize W.alloc _=f at*;go_quiet (fail);go_wp2_with fail;go_ret;exact⟨by rw[R];rfl,h.o.trans ((Ext.refl _).drewN _)⟩
end Go.Proofs.Eff
