import Derived.Test.YtcimpmhmdnoeiaaGreatDoorQ35
import Derived.Test.YtcimpmhmdnoeiaaGreatDoorQ42
set_option maxRecDepth 100000
set_option maxHeartbeats 40000000
set_option linter.all false
namespace Go.Proofs.Eff
open Go.RowKit
theorem wB {base:Nat}{v c:Value}{w a:World}{xs:List Value}(d:gg base v w xs c a)(b:Int)(f:base<=w.heap.size)(g:xs.length<=1000000):Calls Tryz.prog 174 #[c,.slice (some ⟨a.heap.size,0,none⟩) 1 1] (a.alloc (.cells #[.i b] 3)) fun e w'=>∃v',e=.returned v'/\gg base v w (xs++u8L [b]) v' w':=tJ d [b] f (by simp only[gi,hG];omega)
theorem Be {base:Nat}{v d:Value}{w a:World}{xs:List Value}(f:gg base v w xs d a)(b c:Int)(g:base<=w.heap.size)(h:xs.length<=1000000):Calls Tryz.prog 174 #[d,.slice (some ⟨a.heap.size,0,none⟩) 2 2] (a.alloc (.cells #[.i b,.i c] 3)) fun e w'=>∃v',e=.returned v'/\gg base v w (xs++u8L [b,c]) v' w':=tJ f [b,c] g (by simp only[gi,hG];omega)
theorem Al (l:List Int):(u8L l).length=l.length:=by simp[u8L]
theorem v8 (xs:List Value)(l m:List Int):(xs++u8L l)++u8L m=xs++u8L (l++m):=by simp[u8L]
def dq (k op a b c z:Int):List Int:=if k=0 then [op] else if k=1 then [op,a] else if k=3 then [op,a,b] else if k=8 then [op,z / 256,z] else [op,a,b,c,z / 256,z]
def uN (k a b c z j:Int):List Int:=(if j<1/\k≠0/\k≠8 then [a] else [])++(if j<2/\(k=3\/k=15) then [b] else [])++(if j<3/\k=15 then [c] else [])++(if k=8\/k=15 then [z / 256,z] else [])
theorem xR (base:Nat)(w:World)(v:Value)(xs:List Value)(G:w.ownsRow base 5 1 v xs.length xs)(H:base<=w.heap.size)(R:xs.length<=900000)(F:BL)(k E D:Int)(I:Bool)(op a b c z:Int)(s:KOK k):Calls Tryz.prog 127 #[v,.agg #[.string (mkS F),.i k,.i E,.i D,.bool I],.agg #[.i op,.i a,.i b,.i c,.i z]] w fun e w'=>∃v',e=.returned v'/\gg base v w (xs++u8L (dq k op a b c z)) v' w':=by
 obtain⟨q,C,B⟩:=Eb w #[.string (mkS F),.i k,.i E,.i D,.bool I] #[.i op,.i a,.i b,.i c,.i z] 196 91;have f:=hY (ak G q.o);have V:=hY (gg.refl f.o);have A:=hY (aN H q.o.size);have W:Hid (xs.length<=1000000):=hY (by omega);obtain⟨Q,P,O⟩:=pB a b c;have L:Hid ([op]++uN k a b c z 0=dq k op a b c z/\(dq k op a b c z).length<=6):=hY (by rcases s with rfl|rfl|rfl|rfl|rfl<;>simp[uN,dq]);have X:Hid (∀(l:List Int) j,l++uN k a b c z j=dq k op a b c z->(xs++u8L l).length<=1000000):=hY (fun l j h=>by have h:=congrArg List.length h;have:=L.o.2;rw[bY] at h ⊢;rw[Al];omega);have Y:=hY s;clear G H R s;obtain⟨p,n⟩:=blk C.o;obtain⟨m,g⟩:=blk B.o;go_enter Tryz.func127,Tryz.ntmps127;go_upto_region 1 with fail;generalize(w.alloc _).alloc _=W1 at*;go_upto_region 2 with(go_at_call 174;refine(wB V.o op A.o W.o).mono ?_;rintro e Z ⟨v1,rfl,d⟩;have x:=hY d;clear d);clear p n m g;obtain⟨p,n⟩:=blk (x.o.keep f.o C.o (by decide));obtain⟨m,g⟩:=blk (x.o.keep f.o B.o (by decide));go_upto_region 3 with fail;clear p n m g
 go_loopw [21,0] (fun i t wr=>∃j l,i=.i j/\gg base v W1 (xs++u8L l) t wr/\l++uN k a b c z j=dq k op a b c z/\(j=0\/j=1\/j=2\/j=3)) (fun i _ _=>3-(intOf i).toNat)
 case atStart=>exact⟨0,[op],rfl,x.o,L.o.1,.inl rfl⟩
 case round=>
  obtain⟨j,l,rfl,d,r,U⟩:=hrel;obtain⟨p,n⟩:=blk (d.keep f.o C.o (by decide));obtain⟨m,g⟩:=blk (d.keep f.o B.o (by decide));have S:=hY d;have y:=hY r;have K:=hY (X.o l _ r);clear d r;rcases Y.o with rfl|rfl|rfl|rfl|rfl<;>rcases U with rfl|rfl|rfl|rfl
  all_goals
   first
   |(go_upto_region 5 with fail
     go_quiet (fail);have J:=hY (S.o.ext ((Ext.refl _).drewN nq));go_wp2_with (go_at_call 174;refine(wB J.o _ A.o K.o).mono ?_;rintro e M ⟨N,rfl,d⟩;rw[v8] at d;have u:=hY d;clear d);go_roundw
     case rel=>first|exact⟨_,_,rfl,u.o,by rw[←y.o];simp[uN],by decide⟩|exact⟨_,_,rfl,J.o,by rw[←y.o];simp[uN],by decide⟩
     case measure=>decide)
   |(go_wp2_with (go_at_call 174;refine(Be S.o _ _ A.o K.o).mono ?_;rintro e M ⟨N,rfl,d⟩;rw[v8] at d;have u:=hY d;clear d)
     go_ret;rw[←y.o]
     first|exact⟨_,rfl,gg.FZ q.o u.o⟩|exact⟨_,rfl,gg.FZ q.o (by simpa [uN] using S.o)⟩)
theorem sL {z:Int}(h: -65536<=z):[b8 (z / 256),b8 z]=toB z:=by
 unfold toB b8;have a:Int.tdiv (z+65536) 256=(z+65536) / 256:=Int.tdiv_eq_ediv_of_nonneg (by omega);rw[a,show(z+65536) / 256 % 256=z / 256 % 256 by omega,show(z+65536) % 256=z % 256 by omega]
theorem qW {op:Int}(h:cH op=true)(d:op≠24)(a b c z:Int)(e: -65536<=z):(dq (opR op).2.1 op a b c z).map b8=if fQ op=true then op::toB z else ja op a b z:=by
 have f:=sL e;rcases lF h with rfl|rfl|rfl|rfl|rfl|rfl|rfl|rfl|rfl|rfl|rfl|rfl|rfl|rfl|rfl|rfl|rfl|rfl|rfl|rfl|rfl|rfl|rfl|rfl|rfl<;>first|rfl|exact absurd rfl d|(rw[←f];rfl)
theorem xS {a b c z:Int}(d: -65536<=z):(dq (opR 24).2.1 24 a b c z).map b8=24::b8 a::b8 b::b8 c::toB z:=by
 rw[←sL d];rfl
theorem A7 {w w':World}(h:Mod [] w w'):Ext w w':=qR (w:=w) (w':=w') ⟨h.os,h.tape,h.output,h.size,fun k a _=>h.block k a (by simp)⟩
theorem pF (w:World)(op a b c z:Int)(h:cH op=true)(O:nW (opR op).2.1 a b c z)(q:Nat)(x:w.heap[q]?=some (.cells #[.i op,.i a,.i b,.i c,.i z] 91)):Calls Tryz.prog 62 #[.slice (some ⟨q,0,none⟩) 1 1] w fun e w'=>∃v',e=.returned (.tuple #[v',.i 0])/\Ext w w'/\w'.ownsRow w.heap.size 5 1 v' (dq (opR op).2.1 op a b c z).length (u8L (dq (opR op).2.1 op a b c z)):=by
 obtain⟨y,Z⟩:=mL h
 have n: -1000<=op/\op<=1000:=by
  simp only[cH,gT,decide_eq_true_eq] at h;omega
 have hl:(dq (opR op).2.1 op a b c z).length<=32767/\0<=(dq (opR op).2.1 op a b c z).length:=by
  unfold dq
  repeat' split
  all_goals simp
 have A:=hY (fun W=>mQ W op n.1 n.2);rw[h] at A;generalize opR op=r at*;obtain⟨l,k,j,f,m⟩:=r
 replace A:Hid (∀W,Calls Tryz.prog 118 #[.i op] W fun e w'=>e=.returned (.tuple #[.agg #[.string (mkS l),.i k,.i j,.i f,.bool m],.bool true])/\Ext W w'):=A
 have FT:=hY (fun W=>Bt W l k j f m op a b c z y O);have EN:=hY (fun W v hv n=>xR w.heap.size W v [] hv n (by simp) l k j f m op a b c z y);have BQ:=hY x;obtain⟨M,L⟩:=blk x;clear y Z h n O x;show Calls Tryz.prog 62 #[.slice (some ⟨q,0,none⟩) 1 1] w fun e w'=>∃v',e=.returned (.tuple #[v',.i 0])/\Ext w w'/\w'.ownsRow w.heap.size 5 1 v' (dq k op a b c z).length (u8L (dq k op a b c z))
 have HL:=hY hl;go_enter Tryz.func62,Tryz.ntmps62;go_upto_region 3 with fail;have BX:Hid (Ext w (w.alloc (.cells #[.i op,.i a,.i b,.i c,.i z] 91))):=hY ((Ext.refl w).alloc _);have H:=hY (aq w (.cells #[.i op,.i a,.i b,.i c,.i z] 91) _ rfl)
 go_loopw [11,4] (fun i t wr=>(i=.i 0/\t=.slice none 0 0/\w=wr)\/(i=.i 1/\∃v',t=v'/\Ext w wr/\wr.ownsRow w.heap.size 5 1 v' (dq k op a b c z).length (u8L (dq k op a b c z)))) (fun i _ _=>1-(intOf i).toNat)
 case atStart=>exact .inl ⟨rfl,rfl,rfl⟩
 case round=>
  rcases hrel with⟨rfl,rfl,rfl⟩|⟨rfl,hL⟩
  ·go_upto_region 5 with fail
   generalize C:w.alloc _=W1 at*;clear C M L;obtain⟨s,p⟩:=blk H.o;go_upto_region 6 with(go_at_call 118;refine(A.o W1).m fun I d=>?_;have E2:=hY ((BX.o.trans d.o).alloc (.cells #[.string (mkS l),.i k,.i j,.i f,.bool m] 196));have R:=hY (d.o.alloc (.cells #[.string (mkS l),.i k,.i j,.i f,.bool m] 196));have V:=hY (aq I (.cells #[.string (mkS l),.i k,.i j,.i f,.bool m] 196) _ rfl));generalize B:I.alloc _=W2 at*;clear B s p;obtain⟨s,p⟩:=blk (R.o.keep H.o);obtain⟨K,J⟩:=blk V.o;go_upto_region 10 with(go_at_call 126;refine(FT.o W2).m fun X G=>?_);clear s p K J;obtain⟨s,p⟩:=blk (G.o.keep (R.o.keep H.o));obtain⟨K,J⟩:=blk (G.o.keep V.o);have U:=hY (E2.o.trans G.o);go_wp2_with (go_at_call 127;refine(EN.o X (.slice none 0 0) ⟨by simp,.inl ⟨rfl,rfl⟩⟩ U.o.size).mono ?_;rintro e w4 ⟨Y,rfl,P⟩;have S:=hY P;clear P);go_roundw
   case rel=>exact .inr ⟨rfl,Y,rfl,U.o.trans (A7 S.o.2.1),by have h:=S.o.1;simpa [u8L] using h⟩
   case measure=>simp[intOf]
  ·obtain⟨v',rfl,d,D⟩:=hL
   obtain⟨F,u,rfl⟩:∃F u,u4=(.slice F (dq k op a b c z).length u:Value):=by
    rcases D.2 with⟨E,h2⟩|⟨g,u,ac,E,_⟩
    ·exact⟨none,0,by rw[h2];exact E⟩
    ·exact⟨_,_,E⟩
   have HH:=hY (And.intro d D);clear d D M L;have ab:=HL.o.1;generalize Q:(dq k op a b c z).length=N at*;have HN:=hY Q;clear Q;have aa:¬(32767:Int)<(N:Int):=by omega
   go_wp2_with fail
   go_ret2
   exact⟨.slice F N u,rfl,by rw[HN.o];exact HH.o⟩
section
variable {x:It} {pos:Nat->Int} {p:Int}
noncomputable def dE:It->List Int
 |.blk _ _ body=>bD ai (aj body) 0 body
 |_=>[]
noncomputable def itC:It->Int
 |.blk _ _ body=>ai body
 |_=>0
def pt (pos:Nat->Int)(p:Int):It->Int
 |.ins _ _ _ z=>z
 |.jmp _ g=>pos g-(p+3)
 |.blk _ _ body=>szL body
 |.lab _=>0
theorem x6 (x:It)(h:ay x=false)(e:lJ x):szI x=bf (opI x)+(dE x).length:=by
 cases x with
 |lab l=>simp[ay] at h
 |ins op a b z=>
  have c:cE op a b z:=e;have d:=(qQ c []).2.1;have f:=iu op a b z;simp only[opI,dE,hG,ks];omega
 |jmp op g=>
  have c:op=18\/op=19\/op=20:=e;have d:bf op=3:=by rcases c with rfl|rfl|rfl<;>decide
  simp[szI,opI,dE,d]
 |blk a b body=>
  have d:bf 24=6:=rfl;simp only[szI,opI,dE,d,bu]
theorem Cw (x:Int):b8 (b8 x)=b8 x:=by unfold b8;omega
theorem CR (l:List Int):u8L (l.map b8)=u8L l:=by
 unfold u8L;rw[List.map_map]
 congr 1
 funext x
 simp only[Function.comp_apply,Cw]
theorem gI (a b:List Int):u8L (a++b)=u8L a++u8L b:=by simp[u8L]
theorem ju (h:ay x=false)(a:lJ x):cH (opI x)=true:=by
 have:=qN a h;simp[cH,this.1,this.2.1]
theorem yY (h:ay x=false)(f:lJ x)(e:okI pos p x): -32768<=pt pos p x/\pt pos p x<=32767:=by
 cases x with
 |lab l=>simp[ay] at h
 |ins op a b z=>
  obtain⟨o,n,m,k,j,i,d⟩:cE op a b z:=f;show-32768<=z/\z<=32767
  split at d
  ·omega
  ·split at d
   ·omega
   ·split at d<;>omega
 |jmp op g=>
  rw[okI] at e;show-32768<=pos g-(p+3)/\pos g-(p+3)<=32767
  omega
 |blk a b c=>
  rw[okI] at e;show-32768<=(szL c:Int)/\(szL c:Int)<=32767
  omega
theorem mr (h:ay x=false)(j:lJ x)(q:okI pos p x):u8L (eH ai pos p x)=u8L (dq (opR (opI x)).2.1 (opI x) (itA x) (itB x) (itC x) (pt pos p x))++u8L (dE x):=by
 have o:=yY h j q;have i:=ju h j;rw[←CR (dq _ _ _ _ _ _)];cases x with
 |lab l=>simp[ay] at h
 |ins op a b z=>
  obtain⟨y,w,r,v,u,t,s⟩:cE op a b z:=j;have k: -65536<=z:=by have: -32768<=z:=o.1;omega
  have e:=qW (op:=op) i r a b 0 z k;show u8L (ja op a b z)=u8L ((dq (opR op).2.1 op a b 0 z).map b8)++u8L []
  rw[e];by_cases f:fQ op=true
  ·rw[if_pos f]
   have:op=7:=by simp[fQ] at f;omega
   subst this;rw[show ja 7 a b z=7::toB z from rfl];simp[u8L]
  ·rw[if_neg f];simp[u8L]
 |jmp op g=>
  have m:op=18\/op=19\/op=20:=j;have n:op≠24:=by omega
  have k: -65536<=pos g-(p+3):=by have: -32768<=pos g-(p+3):=o.1;omega
  have e:=qW (op:=op) i n 0 0 0 (pos g-(p+3)) k;have f:fQ op=true:=by rcases m with rfl|rfl|rfl<;>rfl
  rw[if_pos f] at e;show u8L (eH ai pos p (.jmp op g))=u8L ((dq (opR op).2.1 op 0 0 0 (pos g-(p+3))).map b8)++u8L []
  rw[e,eH];simp[u8L]
 |blk a b d=>
  have e:=xS (a:=(a:Int)) (b:=(b:Int)) (c:=ai d) (z:=(szL d:Int)) (by omega);show u8L (eH ai pos p (.blk a b d))=u8L ((dq (opR 24).2.1 24 a b (ai d) (szL d)).map b8)++u8L (bD ai (aj d) 0 d)
  rw[e,eH];simp only[u8L,An,AC,FJ,kq,lE,gz,Cw]
theorem ng (h:ay x=false)(c:lJ x)(i:okI pos p x)(j:0<=itC x):nW (opR (opI x)).2.1 (itA x) (itB x) (itC x) (pt pos p x):=by
 have f:=yY h c i;cases x with
 |lab l=>simp[ay] at h
 |ins op a b z=>
  have d:cH op=true:=ju (x:=.ins op a b z) h c;obtain⟨s,r,q,o,n,m,k⟩:cE op a b z:=c;simp only[opI,itA,itB,itC,pt];rcases lF d with rfl|rfl|rfl|rfl|rfl|rfl|rfl|rfl|rfl|rfl|rfl|rfl|rfl|rfl|rfl|rfl|rfl|rfl|rfl|rfl|rfl|rfl|rfl|rfl|rfl<;>first|exact absurd rfl q|exact absurd rfl o|exact absurd rfl n|exact absurd rfl m|(simp[fP,eD] at k;(first|(change nW 0 _ _ _ _)|(change nW 1 _ _ _ _)|(change nW 3 _ _ _ _)|(change nW 8 _ _ _ _));simp[nW];omega)
 |jmp op g=>
  have e:op=18\/op=19\/op=20:=c;simp only[opI,itA,itB,itC,pt] at f ⊢;rcases e with rfl|rfl|rfl<;>(change nW 8 _ _ _ _;simp[nW];omega)
 |blk a b body=>
  obtain⟨v,u,t⟩:a<=15/\b<=63/\dg body:=c;rw[okI] at i;simp only[opI,itA,itB,itC,pt] at f j ⊢
  change nW 15 _ _ _ _
  simp[nW];omega
theorem yX {l:List It}:okL pos p l↔∀(j:Nat) (x:It),l[j]?=some x->okI pos (p+plc l j) x:=by
 induction l generalizing p with
 |nil=>simp[okL]
 |cons i r ih=>
  rw[okL,ih];constructor
  ·rintro⟨c,b⟩ j x a
   cases j with
   |zero=>
    simp only[iN,dO] at a;subst a;simpa [plc,szL] using c
   |succ j=>
    have:=b j x (by simpa using a);have e:p+(szI i:Int)+plc r j=p+plc (i::r) (j+1):=by unfold plc;simp only[ty,szL];omega
    rw[←e];exact this
  ·intro h
   refine⟨by simpa [plc,szL] using h 0 i rfl,fun j x a=>?_⟩;have:=h (j+1) x (by simpa using a);have e:p+(szI i:Int)+plc r j=p+plc (i::r) (j+1):=by unfold plc;simp only[ty,szL];omega
   rw[e];exact this
theorem jc {a:List It->Int}{l:List It}{j:Nat}(h:l[j]?=some x):bD a pos 0 (l.take (j+1))=bD a pos 0 (l.take j)++eH a pos (plc l j) x:=by
 rw[(cN h).2,eo];simp[bD,plc]
theorem uW {l:List It}(h:cB l):0<=ai l:=by
 obtain⟨m,a⟩:=j8 h;rw[iV a];exact a.nneg
end
end Go.Proofs.Eff
