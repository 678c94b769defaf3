import Derived.Test.YtcimpmhmdnoeiaaGreatDoorQ43
set_option maxRecDepth 100000
set_option maxHeartbeats 8000000
set_option linter.all false
namespace Go.Proofs.Eff
open Go.RowKit
section
variable {w w':World} {base j:Nat} {its:List It}
theorem BM:(Tryz.prog.info? 32).map (fun i=>(i.zero,i.size,i.bytes))=some (some (.slice none 0 0),1,24):=by kernel_rfl
theorem iQ {P:Program}{b:Array Oper}{o:Oper}{a:Act}{K:Act->World->Prop}{Q:Exit->Act->World->Prop}{E:Prop}(d:o.guard=none)(s x:Operand)(t:TypeId)
 (p:o.op=.call {callee:=.builtin .append,args:=#[s,x],argTypes:=#[t,t]})
 (base:Nat) (e:TypeId) (i:TypeInfo) (size:Nat) (k:P.underlying t=some (.slice e)) (q:P.info? e=some i)
 (v:Value) (n:Nat) (f:List Value) (l:a.eval s=v) (c:w.ownsRow base e size v n f) (g:a.eval x=.slice none 0 0)
 (h:K (a.put o.dst v) w):if Region.wanted o (yielded b a.tmps)=true then Oper.wp P o a w K Q else E:=by
 have j:Region.wanted o (yielded b a.tmps)=true:=by simp[Region.wanted,d]
 rw[if_pos j];have m:=run_append_owned_none (P:=P) (w:=w) base t o.type e i size k q v n f c;unfold Oper.wp execOp;simp only[p,resolve,invoke,builtin,Sem.run_bind,Sem.run_pure,Result.andThen_ok,List.map_toArray,AC,FJ,l,g,m];exact h
theorem qF {n:Nat}{v:Value}{xs:List Value}{S:List Nat}(h:w.ownsRow base 5 1 v n xs)(f:Mod S w w')(j:∀b∈S,∀d c,w.heap[b]?≠some (.cells d 5 c)):w'.ownsRow base 5 1 v n xs:=
 f.row h (fun g i a=>by
  obtain⟨_,d,c,e⟩:=au h (k:=g) (by rw[i];simp)
  exact j g a d c e)
def Rows (w:World)(base:Nat)(its:List It)(j:Nat)(vs:List Value):Prop:=vs.length=j/\∀(i:Nat) (x:It),i<j->its[i]?=some x->∃e c,vs[i]?=some (.slice e (dE x).length c)/\w.ownsRow base 5 1 (.slice e (dE x).length c) (dE x).length (u8L (dE x))/\((∀a b d,x≠.blk a b d)->e=none/\c=0)
theorem Rows.keep {vs:List Value}{S:List Nat}(h:Rows w base its j vs)(d:Mod S w w')(f:∀b∈S,∀n m,w.heap[b]?≠some (.cells n 5 m)):Rows w' base its j vs:=
 ⟨h.1,fun i x e a=>by
  obtain⟨o,c,l,k,g⟩:=h.2 i x e a
  exact⟨o,c,l,qF k d f,g⟩⟩
theorem Rows.ext {vs:List Value}(h:Rows w base its j vs)(a:Ext w w'):Rows w' base its j vs:=h.keep (a.mod []) (by simp)
theorem Rows.snoc {vs:List Value}(h:Rows w base its j vs){x:It}(g:its[j]?=some x){ad:Option Addr}{c:Nat}(k:w.ownsRow base 5 1 (.slice ad (dE x).length c) (dE x).length (u8L (dE x)))(l:(∀a b d,x≠.blk a b d)->ad=none/\c=0):Rows w base its (j+1) (vs++[.slice ad (dE x).length c]):=by
 refine⟨by simp[h.1],fun i y p e=>?_⟩;by_cases hij:i=j
 ·subst hij
  rw[g] at e;cases e;refine⟨ad,c,?_,k,l⟩;rw[j1 (by rw[h.1];exact gE _),h.1,Fs];rfl
 ·obtain⟨f,o,n,m⟩:=h.2 i y (by omega) e
  exact⟨f,o,by rw[md (by rw[h.1];omega)];exact n,m⟩
theorem Rows.nil (w:World)(base:Nat)(its:List It):Rows w base its 0 []:=⟨rfl,fun i x a=>by omega⟩
theorem qM {l:List It}(h:ax l=true):1<=szL l:=by
 induction l with
 |nil=>simp[ax] at h
 |cons i r ih=>
  cases r with
  |nil=>
   cases i with
   |lab g=>simp[ax] at h
   |ins op a b z=>
    have:=lR (i:=.ins op a b z) rfl;simp only[szL];omega
   |jmp op g=>simp[ax] at h
   |blk a b body=>simp[ax] at h
  |cons y r=>
   have:=ih (by simpa [ax] using h);simp only[szL] at*;omega
theorem uQ {pos:Nat->Int}(j:Nat)(o:j<=its.length)(p:dg its)(h:∀(i:Nat) (a b:Nat) (c:List It),i<j->its[i]?=some (.blk a b c)->szL c<=32767):0<=plc its j/\plc its j<=32773*(j:Int):=by
 induction j with
 |zero=>simp[plc,szL]
 |succ j ih=>
  obtain⟨m,k⟩:=ih (by omega) (fun i a b c f=>h i a b c (by omega));have d:its[j]?=some its[j]:=by simp[show j<its.length by omega]
  have e:=fO d
  have n:szI its[j]<=32773:=by
   cases f:its[j] with
   |lab l=>simp[szI]
   |ins op a b z=>simp only[szI];split<;>(try split)<;>(try split)<;>omega
   |jmp op g=>simp[szI]
   |blk a b c=>
    have:=h j a b c (by omega) (by rw[d,f]);simp only[szI];omega
  omega
end
section
variable {its:List It} {w w':World} {j b base n:Nat} {x:It} {l:aZ} {vs:List Value}
def kD (its:List It)(w:World)(e:Ending)(w':World):Prop:=Ext w w'/\((okL (aj its) 0 its/\∃a c,e=.returned (.tuple #[.slice a (szL its) c,.bool true])/\w'.ownsRow w.heap.size 5 1 (.slice a (szL its) c) (szL its) (u8L (bD ai (aj its) 0 its)))\/(¬okL (aj its) 0 its/\e=.returned (.tuple #[.slice none 0 0,.bool false])))
def sB (its:List It):Prop:=∀(w:World) (r:Nat),iB w (fun k=>k<w.heap.size) r its->Calls Tryz.prog 20 #[.pointer (some ⟨r,0,none⟩)] w (kD its w)
theorem kD.no (d:Ext w w')(a:its[j]?=some x)(b:¬okI (aj its) (plc its j) x){e:Ending}(c:e=.returned (.tuple #[.slice none 0 0,.bool false])):kD its w e w':=
 ⟨d,.inr ⟨fun h=>b (by have:=yX.1 h j x a;simpa using this),c⟩⟩
structure L1 (its:List It)(mb base:Nat)(W1:World)(j:Nat)(l:aZ)(vs:List Value)(lv:Value)(wr:World):Prop where
 m:cQ wr mb .i64 l
 labs:fK its j (plc its) l
 row:wr.ownsRow base 32 1 lv j vs
 rows:Rows wr base its j vs
 ok:∀(i:Nat) (a b:Nat) (body:List It),i<j->its[i]?=some (.blk a b body)->okL (aj body) 0 body/\szL body<=32767/\ai body<=127
 mod:Mod [mb] W1 wr
theorem L1.ext {d wr:World}{c:Value}(h:L1 its b base d j l vs c wr)(a:Ext wr w'):L1 its b base d j l vs c w':=
 ⟨h.m.keep a,h.labs,ak h.row a,h.rows.ext a,h.ok,h.mod.ext a⟩
theorem L1.low {c:Nat}{b e wr:World}{f:Value}(h:L1 its c base e j l vs f wr)(a:Ext b e)(g:b.heap.size<=c):Ext b wr:=
 ⟨h.mod.os.trans a.os,h.mod.tape.trans a.tape,h.mod.output.trans a.output,aN a.size h.mod.size,fun k d=>by rw[h.mod.block k (bA d a.size) (by simp;omega)];exact a.block d⟩
theorem qJ (op:Int):bf op<=6:=by
 unfold bf opN
 repeat' split
 all_goals omega
theorem me {e f:Nat}{v:Value}{xs:List Value}(h:w.ownsRow b e f v n xs)(i:base<=b):w.ownsRow base e f v n xs:=by
 obtain⟨j,a⟩:=h;refine⟨j,?_⟩;rcases a with a|⟨g,c,d,m,l,k⟩
 ·exact .inl a
 ·exact .inr ⟨g,c,d,m,aN i l,k⟩
theorem rU {l:List It}(h:cM l){a:Nat}{c:List It}(d:l[j]?=some (.blk a b c)):cB c/\cM c:=by
 induction l generalizing j with
 |nil=>simp at d
 |cons y r ih=>
  rw[cM] at h;cases j with
  |zero=>
   simp only[iN,dO] at d;subst d;exact h.1
  |succ j=>exact ih h.2 (by simpa using d)
theorem pG (k op a b c z:Int):0<(dq k op a b c z).length:=by
 unfold dq
 repeat' split
 all_goals simp
theorem rY (k op a b c z:Int):(dq k op a b c z).length<=6:=by
 unfold dq
 repeat' split
 all_goals simp
theorem pH {pos:Nat->Int}{p:Int}(h:ay x=false)(d:lJ x)(c:okI pos p x):szI x=(dq (opR (opI x)).2.1 (opI x) (itA x) (itB x) (itC x) (pt pos p x)).length+(dE x).length:=by
 have e:=congrArg List.length (mr h d c);simp only[u8L,se,bY] at e;rw[←e];cases x with
 |lab l=>simp[ay] at h
 |ins op a b z=>rw[eH];exact(iu op a b z).symm
 |jmp op g=>rfl
 |blk a b body=>
  simp only[eH,szI,bY,bu];rfl
theorem y7 {c g:Nat}{xs:List Value}(h:w.ownsRow b 5 1 (.slice (some ⟨g,0,none⟩) n c) n xs)(e:xs.length=n):∀(k:Nat) (u:Value),xs[k]?=some u->w.cell? ((⟨g,0,none⟩:Addr).add k)=some u:=fun k u d=>by
 rw[show(⟨g,0,none⟩:Addr).add k=⟨g,k,none⟩ by unfold Addr.add;split<;>simp_all];have a:=(aC.1 d).1;rw[e] at a;rw[aX h k a];exact d
theorem L1.grown {s:Nat}{r t i p:World}{g:Option Addr}(h:L1 its n base r j l vs (.slice g j s) t)(v:r.heap.size<=base)(z:n<base)(q:Ext t i)(d:i.grownBy p (Value.slice g j s).ownBlock):cQ p n .i64 l/\Rows p base its j vs/\Mod [n] r p:=by
 have c:=ag d;have f:∀b∈(Value.slice g j s).ownBlock.toList,base<=b/\∃x w,t.heap[b]?=some (.cells x 32 w):=fun b v=>au h.row v;refine⟨(h.m.keep q).mod c (fun o=>by have:=(f _ o).1;omega),(h.rows.ext q).keep c (fun b o x w e=>?_),?_⟩
 ·obtain⟨_,C,A,B⟩:=f b o
  rw[q.keep B] at e;cases e
 ·have a:Mod [n] r i:=h.mod.ext q
  exact⟨c.os.trans a.os,c.tape.trans a.tape,c.output.trans a.output,aN a.size c.size,fun k u y=>by
   rw[c.block k (bA u a.size) (fun o=>by have:=(f _ o).1;omega)]
   exact a.block k u y⟩
theorem L1.box {q p:Nat}{v i e k:World}{d:Option Addr}(h:L1 its q base v j l vs (.slice d j p) i)(a:e.grownBy k (Value.slice d j p).ownBlock)(s:Ext i e){o:Array Value}{f:TypeId}{m:Nat×Nat}(c:i.heap[b]?=some (.cells o f m))(g:f≠32):k.heap[b]?=some (.cells o f m):=by
 refine(ag a).keep (s.keep c) (fun r=>?_);obtain⟨_,u,t,n⟩:=au h.row r;rw[c] at n;cases n;exact g rfl
theorem fq.keep {ok ok':Nat->Prop}(h:jp ok w w')(e:∀k,ok k->ok' k){d:Value}(c:fq w ok x d):fq w' ok' x d:=by
 cases x with
 |blk a b body=>obtain⟨r,i,f⟩:=c;exact⟨r,i,f.keep h e⟩
 |lab l=>exact c
 |ins op a b z=>exact c
 |jmp op g=>exact c
theorem zM (its:List It)(hl:cB its)(R:cM its)(hf:dg its)(IH:∀a b d,It.blk a b d∈its->sB d):sB its:=by
 intro w r hR;have dp:Hid (∀W,Ext w W->iB W (fun k=>k<w.heap.size) r its):=hY (fun W hE=>hR.keep (fun k t=>hE.block t) (fun k t=>t));have RL:=hY hl;have FT:=hY hf;have GD:=hY R;have fv:=hY IH;clear hl hf hR R IH;obtain⟨o,dd,nv,ar,it,c,cw,-,e9,dc,-⟩:=(dp.o w (Ext.refl w)).at;have RB:=hY cw;have E1:Hid (Ext w (w.alloc (.map #[] 0))):=hY ((Ext.refl w).alloc _);have M1:=hY (cQ.new w _ rfl .i64);have i1:=run_makeMap (P:=Tryz.prog) 127 w;obtain⟨i0,hi,bj,bi,bh⟩:=info_parts BM;have em:Hid ((w.alloc (.map #[] 0)).heap.size=w.heap.size+1):=hY (by show(w.heap.push _).size=_;exact tc ..);go_enter Tryz.func20,Tryz.ntmps20;go_upto_region 3 with fail;generalize w.alloc _=W1 at*;clear i1 cw;obtain⟨q3,q4⟩:=blk (E1.o.keep RB.o);go_upto_region 5 with fail;clear q3 q4
 go_loopw [4,6,23] (fun lv ap i wr=>∃(j:Nat) (l:aZ) (vs:List Value),j<=its.length/\i=.i j/\ap=.i (plc its j)/\L1 its w.heap.size (w.heap.size+1) W1 j l vs lv wr) (fun _ _ i _=>its.length-(intOf i).toNat)
 case atStart=>exact⟨0,[],[],by omega,rfl,rfl,M1.o,fK.zero _ _ _,kK _ _ _,Rows.nil _ _ _,fun i _ _ _ h=>by omega,Mod.refl _ _⟩
 case round=>
  obtain⟨j,l,vs,hj,rfl,rfl,hL⟩:=hrel;have EW:=hL.low E1.o (gE _);have ct:=hY EW;have LH:=hY hL;obtain⟨ek,c4,rfl,-⟩:=aJ hL.row;have cm:=uQ (pos:=aj its) j hj FT.o (fun i a b d h1 F=>(hL.ok i a b d h1 F).2.1);obtain⟨b0,bz⟩:=cm;clear hL;by_cases C:j<its.length
  ·obtain⟨x,hx⟩:∃x,its[j]?=some x:=⟨its[j],by simp[C]⟩
   obtain⟨o',fh,ew,fi,ex,c',bl,-,-,-,U⟩:=(dp.o wr EW).at;rw[EW.keep RB.o] at bl;simp only[dO,Obj.cells.injEq,Array.mk.injEq,DO,and_true,true_and,Value.slice.injEq] at bl;obtain⟨rfl,rfl,rfl,rfl,rfl,rfl⟩:=bl;obtain⟨g2,ev,pv,hit,-,⟨e0,e1,e2,e3,e4,e5,e6,e7⟩,S⟩:=U j x hx;obtain⟨pp,rfl⟩:=S.ptr;have a0:=hY S;clear S U EW;have D:=hY hx;clear hx;subst hit;have E3:Hid (Ext wr (wr.alloc (.cells (mh (opI x) (itA x) (itB x) (itZ x) (itG x) (itL x) (.pointer pp)).toArray 144))):=hY ((Ext.refl wr).alloc _);have B3:=hY (aq wr (.cells (mh (opI x) (itA x) (itB x) (itZ x) (itG x) (itL x) (.pointer pp)).toArray 144) _ rfl);go_upto_region 7 with fail;generalize wr.heap.size=bx at*;generalize dk:wr.alloc _=W3 at*;clear dk e0 e1 e2 e3 e4 e5 e6 e7;have L3:=hY (LH.o.ext E3.o);have EB:Hid (Ext W3 (W3.alloc (.cells #[.slice none 0 0] 32))):=hY ((Ext.refl W3).alloc _);have ac:=hY (World.news_of_block (aq W3 (.cells #[.slice none 0 0] 32) _ rfl));have c6:Hid (∀u∈([.slice none 0 0]:List Value),u.oneCell'=true):=hY (by intro u hu;simp only[aS,aT,or_false] at hu;rw[hu];rfl);have ah:Hid ((j+1)*24<=140737488355328/\j+1<=maxLen):=hY ⟨by omega,by unfold maxLen;omega⟩;have a4:Hid (w.heap.size+1<=(W3.alloc (.cells #[.slice none 0 0] 32)).heap.size):=hY (aN (by have:=LH.o.m.lt;omega) (aN E3.o.size EB.o.size));go_upto_region 8 with(at_builtin;refine wpList_append_lies _ rfl (.tmp 27) (.tmp 28) 142 rfl (w.heap.size+1) 32 i0 _ 1 24 Tryz.underlying142 hi bj bi bh rfl (by decide) (.slice ek j c4) j vs rfl (ak L3.o.row EB.o) ⟨W3.heap.size,0,none⟩ 1 1 [.slice none 0 0] rfl rfl ac.o c6.o (by decide) ah.o.2 ah.o.1 a4.o _ rfl ?_;intro g7 q7 w7 E n U C;have OW:=hY E;have GR:=hY n;clear E n U C);have L7:=hY (L3.o.grown (by rw[em.o];exact gE _) (sx _) EB.o GR.o);have BX:=hY (L3.o.box GR.o EB.o B3.o (by decide));have ca:=hY OW.o;clear OW GR L3 E3 B3 EB ac c6 ah a4;have bs:Hid (Ext w w7):=hY ⟨L7.o.2.2.os.trans E1.o.os,L7.o.2.2.tape.trans E1.o.tape,L7.o.2.2.output.trans E1.o.output,aN E1.o.size L7.o.2.2.size,fun k t=>by rw[L7.o.2.2.block k (bA t E1.o.size) (by simp;omega)];exact E1.o.block t⟩;have cj:Hid (fq w7 (fun k=>k<w.heap.size) x (.pointer pp)):=hY (a0.o.keep (fun k t=>(bs.o.block t).trans (ct.o.block t).symm) (fun k t=>t));clear a0;obtain⟨q1,q2⟩:=blk BX.o;cases hlab:ay x with
   |true=>
    obtain⟨lb,rfl⟩:∃l,x=.lab l:=by cases x<;>simp[ay] at hlab;exact⟨_,rfl⟩
    have b9:itL (.lab lb)=(lb:Int):=rfl;rw[b9] at q1;clear b9;obtain⟨w8,i8,m8,d8⟩:=di (P:=Tryz.prog) w7 Tryz.underlying127 Tryz.underlying3 L7.o.1 (lb:Int) (.i (plc its j));have PE:Hid (plc its (j+1)=plc its j):=hY (by rw[fO D.o];simp[szI])
    have LN:Hid (L1 its w.heap.size (w.heap.size+1) W1 (j+1) (mA l (lb:Int) (.i (plc its j))) (vs++[.slice none 0 0]) (.slice (some ⟨g7,0,none⟩) (j+1) q7) w8):=hY (by
     refine⟨m8,LH.o.labs.lab RL.o.nodup D.o,d8.row ca.o (fun g R=>?_),(L7.o.2.1.keep d8 (fun b hb cs fz e=>?_)).snoc D.o (kK _ _ _) (fun _=>⟨rfl,rfl⟩),fun i a b d h1 F=>?_,L7.o.2.2.trans d8⟩
     ·have:=(au ca.o (k:=g) (by rw[R];simp)).1
      simp;omega
     ·obtain rfl:b=w.heap.size:=by simpa using hb
      obtain⟨es,cl,hm,_⟩:=L7.o.1;rw[hm] at e;cases e
     ·by_cases hij:i=j
      ·subst hij;rw[D.o] at F;cases F
      ·exact LH.o.ok i a b d (by omega) F)
    clear m8 d8;go_wp2_with fail;go_roundw
    case rel=>exact⟨j+1,_,_,by omega,by go_num,by rw[PE.o],LN.o⟩
    case measure=>simp[intOf];omega
   |false=>
    have NL:Hid (∀g,its[j]?≠some (.lab g)):=hY (fun g h=>by rw[D.o] at h;cases h;simp[ay] at hlab);have b8:itL x= -1:=by cases x<;>simp[ay] at hlab<;>rfl
    rw[b8] at q1;clear b8;have SZ:=hY (uK w7 (opI x) (ju hlab (kf FT.o D.o)));have bw:=qJ (opI x);by_cases hB:∃a b d,x=.blk a b d
    ·obtain⟨M,L,d,rfl⟩:=hB
     have d2:bf (opI (.blk M L d))=6:=rfl;obtain⟨am,bv⟩:=rU GD.o D.o;obtain⟨_,_,b5⟩:M<=15/\L<=63/\dg d:=kf FT.o D.o;obtain⟨r2,da,b7⟩:=cj.o;cases da;have cp:=fv.o M L d (eQ D.o);have RA:=hY (fun W (hE:Ext w7 W)=>b7.keep (ok':=fun k=>k<W.heap.size) (fun k t=>hE.block (bA t bs.o.size)) (fun k t=>bA t (aN bs.o.size hE.size)));have cc:=hY (fun W (hE:Ext w7 W)=>uX d am b5 W r2 (RA.o W hE));have PE:Hid (plc its (j+1)=plc its j+6+(szL d:Int)):=hY (by rw[fO D.o];simp only[szI];omega);have dt:Hid (okI (aj its) (plc its j) (.blk M L d)↔okL (aj d) 0 d/\szL d<=32767/\ai d<=127):=hY (by rw[okI]);have VL:Hid (vs.length=j):=hY LH.o.rows.1;have fd:w.heap.size+1<=g7:=(aw ca.o).1;clear b5 b7 hlab am bv;rw[d2] at SZ bw;generalize hN:szL d=N at*;have HN:=hY hN;by_cases af:okL (aj d) 0 d
     ·have IB:Hid (∀W,Ext w7 W->Calls Tryz.prog 20 #[.pointer (some ⟨r2,0,none⟩)] W fun e w'=>Ext W w'/\∃ad c,e=.returned (.tuple #[.slice ad N c,.bool true])/\w'.ownsRow W.heap.size 5 1 (.slice ad N c) N (u8L (bD ai (aj d) 0 d))):=hY (fun W hE=>(cp W r2 (RA.o W hE)).mono (by
       rintro e w' ⟨h1,⟨_,ad,c,F,h3⟩|⟨F,_⟩⟩
       ·rw[hN] at F h3;exact⟨h1,ad,c,F,h3⟩
       ·exact absurd af F))
      clear cp hN RA;have bq:=hY af;clear af;by_cases a7:N<=32767
      ·by_cases a1:ai d<=127
       ·have HM:=hY (And.intro bq.o (And.intro a7 a1))
        have er:Hid (okL (aj d) 0 d/\N<=32767/\ai d<=127):=HM;have ea:¬(127:Int)<ai d:=by omega
        have de:¬(32767:Int)<(N:Int):=by omega
        clear a1 a7;go_upto_region 15 with(first|(go_at_call 61;refine SZ.o.m fun w8 I=>?_;obtain⟨t1,t2⟩:=blk (I.o.keep BX.o);have bt:=hY (IB.o w8 I.o);clear q1 q2)|(go_at_call 20;refine bt.o.mono ?_;rintro e X ⟨G,Z,c9,rfl,O⟩;have E9:=hY G;have R9:=hY O;obtain⟨t3,t4⟩:=blk (E9.o.keep (I.o.keep BX.o));clear G O t1 t2)|(go_at_call 21;refine(cc.o X (I.o.trans E9.o)).m fun bg cu=>?_));have EA:=hY ((I.o.trans E9.o).trans cu.o);have cq:=hY (ak ca.o EA.o)
        have hc:bg.cell? ⟨g7,j,none⟩=some (.slice none 0 0):=by
         rw[aX cq.o j (by omega),j1 (by rw[VL.o];exact gE _),VL.o,Fs];rfl
        have fe:=dj cq.o j
        have LN:Hid (L1 its w.heap.size (w.heap.size+1) W1 (j+1) l (vs++[.slice Z N c9]) (.slice (some ⟨g7,0,none⟩) (j+1) q7) (bg.setCell ⟨g7,j,none⟩ (.slice Z N c9))):=hY (by
         have a6:=ae bg ⟨g7,j,none⟩ (.slice Z N c9)
         have c1:∀b∈[g7],∀cs fz,bg.heap[b]?≠some (.cells cs 5 fz):=fun b hb cs fz e=>by
          simp only[AS] at hb;subst hb;obtain⟨f3,ef,_⟩:=mM cq.o;rw[ef] at e;cases e
         have d4:=n7 cq.o j (.slice Z N c9)
         have d3:(vs++[Value.slice none 0 0]).set j (.slice Z N c9)=vs++[.slice Z N c9]:=by
          rw[Do _ _ (by rw[VL.o];exact gE _),VL.o,Fs];rfl
         rw[d3] at d4;have ab:(dE (.blk M L d)).length=N:=by rw[←HN.o];exact bu _ _ _ _
         have aa:bg.ownsRow (w.heap.size+1) 5 1 (.slice Z N c9) N (u8L (bD ai (aj d) 0 d)):=me (ak R9.o cu.o) (by have:=bs.o.size;have:=I.o.size;have:=L7.o.1.lt;omega);refine⟨(L7.o.1.keep EA.o).mod a6 (by simp;omega),LH.o.labs.skip (fun g h=>NL.o g h),d4,?_,fun i a b dm h1 F=>?_,⟨a6.os.trans (L7.o.2.2.ext EA.o).os,a6.tape.trans (L7.o.2.2.ext EA.o).tape,a6.output.trans (L7.o.2.2.ext EA.o).output,aN (L7.o.2.2.ext EA.o).size a6.size,fun k t hn=>(a6.block k (bA t (L7.o.2.2.ext EA.o).size) ?_).trans ((L7.o.2.2.ext EA.o).block k t hn)⟩⟩
         ·have h:=((L7.o.2.1.ext EA.o).keep a6 c1).snoc D.o (ad:=Z) (c:=c9) (by rw[ab];exact qF aa a6 c1) (fun h=>absurd rfl (h _ _ _))
          rw[ab] at h;exact h
         ·by_cases hij:i=j
          ·subst hij;rw[D.o] at F;cases F;rw[HN.o];exact er.o
          ·exact LH.o.ok i a b dm (by omega) F
         ·intro hh
          have h1:=em.o;have F:k=g7:=AS.1 hh
          omega)
        have ey:wrap64 (j:Int)=(j:Int):=IntWalk.wrap64_in _ (by omega);have dv:=hY (And.intro b0 (And.intro bz (And.intro C dc)));clear b0 bz C ea de bw fd dc e9 hj;go_upto_region 16 with fail;generalize bg.setCell ⟨g7,j,none⟩ (.slice Z N c9)=fy at*;clear hc fe t3 t4 ey;obtain⟨b0,bz,C,dc⟩:=dv.o;have f2:(N:Int)<=32767:=by have:=er.o.2.1;omega
        go_wp2_with fail;go_roundw
        case rel=>exact⟨j+1,l,_,by omega,by go_num,by rw[PE.o],LN.o⟩
        case measure=>simp[intOf];omega
       ·have a3:Hid (¬okI (aj its) (plc its j) (.blk M L d)):=hY (fun h=>a1 (dt.o.1 h).2.2)
        generalize ai d=mb at*;have ea:(127:Int)<mb:=by omega
        have de:¬(32767:Int)<(N:Int):=by omega
        clear a1 a7;go_wp2_with (first|(go_at_call 61;refine SZ.o.m fun w8 I=>?_;obtain⟨t1,t2⟩:=blk (I.o.keep BX.o);have bt:=hY (IB.o w8 I.o);clear q1 q2)|(go_at_call 20;refine bt.o.mono ?_;rintro e X ⟨G,Z,c9,rfl,O⟩;have E9:=hY G;have R9:=hY O;obtain⟨t3,t4⟩:=blk (E9.o.keep (I.o.keep BX.o));clear G O t1 t2)|(go_at_call 21;refine(cc.o X (I.o.trans E9.o)).m fun bg cu=>?_))
        go_ret2
        exact kD.no (((bs.o.trans I.o).trans E9.o).trans cu.o) D.o a3.o rfl
      ·have a3:Hid (¬okI (aj its) (plc its j) (.blk M L d)):=hY (fun h=>a7 (dt.o.1 h).2.1)
       have de:(32767:Int)<(N:Int):=by omega
       clear a7;go_wp2_with (first|(go_at_call 61;refine SZ.o.m fun w8 I=>?_;obtain⟨t1,t2⟩:=blk (I.o.keep BX.o);have bt:=hY (IB.o w8 I.o);clear q1 q2)|(go_at_call 20;refine bt.o.mono ?_;rintro e X ⟨G,Z,c9,rfl,O⟩;have E9:=hY G;have R9:=hY O;obtain⟨t3,t4⟩:=blk (E9.o.keep (I.o.keep BX.o));clear G O t1 t2))
       go_ret2
       exact kD.no ((bs.o.trans I.o).trans E9.o) D.o a3.o rfl
     ·have a3:Hid (¬okI (aj its) (plc its j) (.blk M L d)):=hY (fun h=>af (dt.o.1 h).1)
      have IB:Hid (∀W,Ext w7 W->Calls Tryz.prog 20 #[.pointer (some ⟨r2,0,none⟩)] W fun e w'=>Ext W w'/\e=.returned (.tuple #[.slice none 0 0,.bool false])):=hY (fun W hE=>(cp W r2 (RA.o W hE)).mono (by
       rintro e w' ⟨h1,⟨F,_⟩|⟨_,F⟩⟩
       ·exact absurd F af
       ·exact⟨h1,F⟩))
      clear cp af hN RA cc;go_wp2_with (first|(go_at_call 61;refine SZ.o.m fun w8 I=>?_;obtain⟨t1,t2⟩:=blk (I.o.keep BX.o);have bt:=hY (IB.o w8 I.o);clear q1 q2)|(go_at_call 20;refine bt.o.mono ?_;rintro e X ⟨G,rfl⟩;have E9:=hY G;clear G))
      go_ret2
      exact kD.no ((bs.o.trans I.o).trans E9.o) D.o a3.o rfl
    ·have cn:∀a b d,x≠.blk a b d:=fun a b d e=>hB ⟨a,b,d,e⟩
     clear hB
     have b3:pp=none:=by
      have hb:=cj.o;cases x with
      |blk a b d=>exact absurd rfl (cn a b d)
      |lab g=>simpa [fq] using hb
      |ins s a b z=>simpa [fq] using hb
      |jmp s g=>simpa [fq] using hb
     subst b3
     have dh:dE x=[]:=by
      cases x with
      |blk a b d=>exact absurd rfl (cn a b d)
      |lab g=>rfl
      |ins s a b z=>rfl
      |jmp s g=>rfl
     have PE:Hid (plc its (j+1)=plc its j+(bf (opI x):Int)):=hY (by
      rw[fO D.o,x6 x hlab (kf FT.o D.o),dh];simp)
     have CB:=hY dh;clear dh hlab;have ft:Hid (∀a b d,x≠.blk a b d):=hY cn;clear cn;go_wp2_with (go_at_call 61;refine SZ.o.m fun w8 I=>?_;obtain⟨t1,t2⟩:=blk (I.o.keep BX.o);clear q1 q2);go_roundw
     case rel=>
      refine⟨j+1,l,vs++[.slice none 0 0],by omega,by go_num,by rw[PE.o],?_⟩;refine⟨L7.o.1.keep I.o,LH.o.labs.skip (fun g h=>NL.o g h),ak ca.o I.o,?_,fun i a b d h1 F=>?_,L7.o.2.2.ext I.o⟩
      ·have h:=(L7.o.2.1.ext I.o).snoc D.o (ad:=none) (c:=0) (by rw[CB.o];exact kK _ _ _) (fun _=>⟨rfl,rfl⟩)
       rw[CB.o] at h;exact h
      ·by_cases hij:i=j
       ·subst hij;rw[D.o] at F;cases F;exact absurd rfl (ft.o _ _ _)
       ·exact LH.o.ok i a b d (by omega) F
     case measure=>simp[intOf];omega
  ·have df:j=its.length:=by omega
   subst df;have f4:=LH;generalize wr=W2 at*
   obtain⟨g4,rfl⟩:∃g,ek=some ⟨g,0,none⟩:=by
    obtain⟨ad,c,he,hh⟩:=aJ LH.o.row
    obtain⟨g,R,_⟩:=hh (by
     cases hq:its with
     |nil=>have:=RL.o.last;rw[hq] at this;simp[ax] at this
     |cons a b=>simp)
    cases he;exact⟨g,R⟩
   clear hj C b0 bz hi bj bi bh;obtain⟨i5,hi,bj,bi,bh⟩:=info_parts sh;obtain⟨q3,q4⟩:=blk (ct.o.keep RB.o);go_upto_region 20 with fail;clear q3 q4
   go_loopw [11,81] (fun ov i wr=>∃(j:Nat) (ad:Option Addr) (c:Nat),j<=its.length/\i=.i j/\ov=.slice ad (szL (its.take j)) c/\wr.ownsRow W2.heap.size 5 1 (.slice ad (szL (its.take j)) c) (szL (its.take j)) (u8L (bD ai (aj its) 0 (its.take j)))/\Ext W2 wr/\(∀(i:Nat) (s:Int) (g:Nat),i<j->its[i]?=some (.jmp s g)->okI (aj its) (plc its i) (.jmp s g))) (fun _ i _=>its.length-(intOf i).toNat)
   case atStart=>exact⟨0,none,0,by omega,rfl,by simp[szL],by simpa [szL,bD,u8L] using kK W2 W2.heap.size 5,Ext.refl _,fun i _ _ h=>by omega⟩
   case round=>
    obtain⟨j,ad,co,hj,rfl,rfl,cv,dl,ec⟩:=hrel;have OW:=hY cv;have E2:=hY dl;have JM:=hY ec;have al:=hY (ct.o.trans dl);have cm:=uQ (pos:=aj its) j hj FT.o (fun i a b d h1 F=>(LH.o.ok i a b d (by omega) F).2.1);have bo:Hid (plc its j=(szL (its.take j):Int)):=hY rfl;rw[bo.o] at cm;obtain⟨b0,bz⟩:=cm;clear cv dl ec;generalize cy:szL (its.take j)=f at*;have bp:=hY cy;clear cy;by_cases C:j<its.length
    ·obtain⟨x,hx⟩:∃x,its[j]?=some x:=⟨its[j],by simp[C]⟩
     obtain⟨o',fh,ew,fi,ex,c',bl,-,-,-,U⟩:=(dp.o wr al.o).at;rw[al.o.keep RB.o] at bl;simp only[dO,Obj.cells.injEq,Array.mk.injEq,DO,and_true,true_and,Value.slice.injEq] at bl;obtain⟨rfl,rfl,rfl,rfl,rfl,rfl⟩:=bl;obtain⟨g2,ev,pv,hit,-,⟨e0,e1,e2,e3,e4,e5,e6,e7⟩,S⟩:=U j x hx;obtain⟨pp,rfl⟩:=S.ptr;have a0:=hY S;clear S U;have D:=hY hx;clear hx;subst hit;have E3:Hid (Ext wr (wr.alloc (.cells (mh (opI x) (itA x) (itB x) (itZ x) (itG x) (itL x) (.pointer pp)).toArray 144))):=hY ((Ext.refl wr).alloc _);have B3:=hY (aq wr (.cells (mh (opI x) (itA x) (itB x) (itZ x) (itG x) (itL x) (.pointer pp)).toArray 144) _ rfl);have f8:Hid (w.heap.size<=wr.heap.size/\W2.heap.size<=wr.heap.size):=hY ⟨al.o.size,E2.o.size⟩;go_upto_region 22 with fail;generalize eg:wr.heap.size=bx at*;have cr:=hY eg;clear eg;generalize dk:wr.alloc _=W3 at*;clear dk e0 e1 e2 e3 e4 e5 e6 e7;have O3:=hY (ak OW.o E3.o);have f7:=hY (al.o.trans E3.o);have eu:=hY (E2.o.trans E3.o);obtain⟨q1,q2⟩:=blk B3.o;cases hlab:ay x with
     |true=>
      obtain⟨lb,rfl⟩:∃l,x=.lab l:=by cases x<;>simp[ay] at hlab;exact⟨_,rfl⟩
      have b9:itL (.lab lb)=(lb:Int):=rfl;rw[b9] at q1;clear b9;have hT:Hid (szL (its.take (j+1))=f/\bD ai (aj its) 0 (its.take (j+1))=bD ai (aj its) 0 (its.take j)):=hY ⟨by rw[(cN D.o).2,cC,bp.o];simp[szL,szI],by rw[jc D.o];simp[eH]⟩;go_wp2_with fail;go_roundw
      case rel=>exact⟨j+1,ad,co,by omega,by go_num,by rw[hT.o.1],by rw[hT.o.1,hT.o.2];exact O3.o,eu.o,fun i s g h1 F=>by
       by_cases hij:i=j
       ·subst hij;rw[D.o] at F;cases F
       ·exact JM.o i s g (by omega) F⟩
      case measure=>simp[intOf];omega
     |false=>
      have K:=kf FT.o D.o;have b8:itL x= -1:=by cases x<;>simp[ay] at hlab<;>rfl
      rw[b8] at q1;clear b8;have f5:=hY hlab;have SZ:=hY (uK W3 (opI x) (ju hlab K));have bw:=qJ (opI x);cases x with
      |lab g=>simp[ay] at hlab
      |ins s a b z=>
       have FK:=hY (ng (pos:=aj its) (p:=plc its j) hlab K (by simp[okI]) (p8 0));have EI:=hY (mr (pos:=aj its) (p:=plc its j) hlab K (by simp[okI]));have a5:=hY (ju hlab K);have b3:pp=none:=by simpa [fq] using a0.o
       subst b3;have a2:=hY (pH (pos:=aj its) (p:=plc its j) hlab K (by simp[okI]));simp only[opI,itA,itB,itC,pt,itG,itZ,itL] at FK EI a5 q1 SZ bw a2 B3;clear hlab K;go_upto_region 30 with(first|(go_at_call 61;refine SZ.o.m fun w8 I=>?_;have B8:=hY (I.o.keep B3.o);obtain⟨t1,t2⟩:=blk B8.o;clear q1 q2));have ch:=hY (E2.o.trans (E3.o.trans I.o));have et:=hY (al.o.trans (E3.o.trans I.o));have OX:=hY (ak OW.o (E3.o.trans I.o));have E5:Hid (Ext w8 (w8.alloc (.cells #[.i s,.i a,.i b,.i 0,.i z] 91))):=hY ((Ext.refl _).alloc _);have EN:=hY (pF _ s a b 0 z a5.o FK.o w8.heap.size (aq w8 (.cells #[.i s,.i a,.i b,.i 0,.i z] 91) _ rfl));have PM:=hY (pG (opR s).2.1 s a b 0 z);have UL:Hid ((u8L (dq (opR s).2.1 s a b 0 z)).length=(dq (opR s).2.1 s a b 0 z).length):=hY (by simp[u8L]);have P6:=hY (rY (opR s).2.1 s a b 0 z);have UO:Hid (∀u∈u8L (dq (opR s).2.1 s a b 0 z),u.oneCell'=true):=hY (by intro u hu;unfold u8L at hu;simp only[BP] at hu;obtain⟨_,_,rfl⟩:=hu;rfl);generalize u8L (dq (opR s).2.1 s a b 0 z)=A at*;generalize b4:(dq (opR s).2.1 s a b 0 z).length=m9 at*;clear b4;go_upto_region 33 with(go_at_call 62;refine EN.o.mono ?_;rintro e X ⟨v9,rfl,G,aa⟩;obtain⟨Z,c9,rfl,h9⟩:=aJ aa;obtain⟨g9,rfl,-⟩:=h9 PM.o;have E9:=hY (E5.o.trans G);have R9:=hY aa;clear G aa h9 t1 t2);clear E5 EN;have v:=hY (ch.o.trans E9.o);have O9:=hY (ak OX.o E9.o);have L9:=hY (LH.o.ext v.o);obtain⟨ck,vc,J,av,bk⟩:=L9.o.rows.2 j _ C D.o
       have ac:Hid (∀(k:Nat) (u:Value),A[k]?=some u->X.cell? ((⟨g9,0,none⟩:Addr).add k)=some u):=hY (fun k u t=>by
        rw[show(⟨g9,0,none⟩:Addr).add k=⟨g9,k,none⟩ by unfold Addr.add;split<;>simp_all];have a8:=(aC.1 t).1;rw[UL.o] at a8
        rw[aX R9.o k a8];exact t)
       have ce:Hid (A.length=m9*1):=hY (by rw[UL.o];omega);have a4:Hid (W2.heap.size<=X.heap.size):=hY v.o.size;have ah:Hid (f+m9<=maxLen/\(f+m9)*1<=140737488355328):=hY ⟨by have:=P6.o;unfold maxLen;omega,by have:=P6.o;omega⟩;have cg:Hid (∀H,X.drew.grownBy H (Value.slice ad f co).ownBlock->Ext W2 H):=hY (fun H R=>⟨(ag R).os.trans v.o.os,(ag R).tape.trans v.o.tape,(ag R).output.trans v.o.output,aN v.o.size (ag R).size,fun k t=>((ag R).block k (bA t v.o.size) (fun hm=>by have:=(au O9.o hm).1;omega)).trans (v.o.block t)⟩)
       have cd:Hid (∀H,X.drew.grownBy H (Value.slice ad f co).ownBlock->H.ownsRow (w.heap.size+1) 32 1 (.slice (some ⟨g4,0,none⟩) its.length c4) its.length vs):=hY (fun H R=>(ag R).row (a:=X.drew) L9.o.row (fun g bm Q=>by
        obtain⟨_,cs,fz,e⟩:=au O9.o Q;obtain⟨_,ej,ei,e'⟩:=au L9.o.row (k:=g) (by rw[bm];simp);rw[e] at e'
        cases e'))
       obtain⟨rfl,rfl⟩:ck=none/\vc=0:=bk (fun _ _ _ h=>by cases h)
       replace J:vs[j]?=some (.slice none 0 0):=J
       have ab:X.cell? ⟨g4,j,none⟩=some (.slice none 0 0):=by rw[aX L9.o.row j C];exact J
       have b6:=dj L9.o.row j;have dx:=hY J;clear J av bk
       go_region_law (first
        |((refine step_append_lies _ rfl _ _ _ rfl W2.heap.size 5 i5 (.int .u8 0) 1 1 Tryz.underlying32 hi bj bi bh rfl (by decide) (.slice ad f co) f (u8L (bD ai (aj its) 0 (its.take j))) ?hs O9.o ⟨g9,0,none⟩ m9 c9 A ?hx ce.o ?hnews ?h1 PM.o ah.o.1 ah.o.2 ?hb _ rfl ?_;(case hs=>simp[Act.eval,Act.put]);(case hx=>simp[Act.eval,Act.put]);(case hnews=>exact ac.o);(case h1=>exact UO.o);(case hb=>exact a4.o);intro g q H E n U Y;have bd:=hY E;have b2:=hY n;have bc:=hY (cd.o H n);clear E n U Y;have c2:H.cell? ⟨g4,j,none⟩=some (.slice none 0 0):=(by rw[aX bc.o j C];exact dx.o);have c3:=dj bc.o j))
        |((refine iQ rfl _ _ _ rfl W2.heap.size 5 i5 1 Tryz.underlying32 hi (.slice (some ⟨g,0,none⟩) (f+m9) q) _ _ ?hs bd.o ?hx ?_;(case hs=>simp[Act.eval,Act.put]);(case hx=>simp[Act.eval,Act.put])))
        |fail)
       all_goals
        clear ab b6
        have RN:Hid (szL (its.take (j+1))=f+m9/\u8L (bD ai (aj its) 0 (its.take (j+1)))=u8L (bD ai (aj its) 0 (its.take j))++A):=hY ⟨by
         rw[(cN D.o).2,cC,bp.o];simp only[szL,a2.o,dE,hG,ks],by
         first|rw[jc D.o,gI,EI.o]|rw[jc D.o,gI,bo.o,EI.o]
         simp[dE,u8L]⟩
        have RF:=bd.o;rw[←RN.o.1,←RN.o.2] at RF;have cb:=hY RF;have EF:=hY (cg.o H b2.o);clear RF;go_wp2_with fail;go_roundw
        case rel=>exact⟨j+1,some ⟨g,0,none⟩,q,by omega,by go_num,by rw[RN.o.1],cb.o,EF.o,fun i s g h1 F=>by
         by_cases hij:i=j
         ·subst hij;rw[D.o] at F;cases F
         ·exact JM.o i s g (by omega) F⟩
        case measure=>simp[intOf];omega
      |jmp s g=>
       have b3:pp=none:=by simpa [fq] using a0.o
       subst b3;have d9:s=18\/s=19\/s=20:=K;have h3:bf s=3:=by rcases d9 with rfl|rfl|rfl<;>rfl
       have a5:=hY (ju hlab K);have a2:Hid (szI (.jmp s g)=3):=hY rfl;have dy:=hY (fun t=>ng (pos:=aj its) (p:=plc its j) hlab K t (p8 0));have dz:=hY (fun t=>mr (pos:=aj its) (p:=plc its j) hlab K t);have dn:=hY (fun t=>pH (pos:=aj its) (p:=plc its j) hlab K t);have ds:Hid (okI (aj its) (f:Int) (.jmp s g)↔ -32767<=aj its g-((f:Int)+3)/\aj its g-((f:Int)+3)<=32767):=hY (by rw[okI])
       obtain⟨jg,ed,b1⟩:∃jg,jg<its.length/\its[jg]?=some (.lab g):=by
        have hm:g∈az its:=RL.o.goals g (CA.2 ⟨_,eQ D.o,by simp[fj]⟩);obtain⟨y,hy,Q⟩:=CA.1 hm;obtain⟨k,t,rfl⟩:=Ft hy;refine⟨k,t,?_⟩;cases hyy:its[k] with
        |lab l=>
         rw[hyy] at Q;simp only[dZ,AS] at Q;subst Q;simp[t,hyy]
        |ins s a b z=>rw[hyy] at Q;simp[dZ] at Q
        |jmp s g=>rw[hyy] at Q;simp[dZ] at Q
        |blk a b d=>rw[hyy] at Q;simp[dZ] at Q
       have db:=rJ RL.o.nodup b1;have d7:=uQ (pos:=aj its) jg (by omega) FT.o (fun i a b d h1 F=>(LH.o.ok i a b d (by omega) F).2.1);rw[←db] at d7;have AG:Hid (im l (g:Int)=some (.i (aj its g))):=hY (by rw[db];exact LH.o.labs jg g ed b1);obtain⟨d6,d5⟩:=d7;have cx:aj its g<=65546000000000:=by omega
       have HZ:Hid (∀w:World,(zeroValue 3).run Tryz.prog w=.ok (.i 0) w):=hY (fun _=>rfl);simp only[opI,itA,itB,itC,pt,itG,itZ,itL] at dy dz dn a5 q1 SZ B3;rw[bo.o] at dy dz dn;rw[h3] at SZ;clear hlab K db b1 ed h3 d5 bw;generalize aj its g=pg at*;go_upto_region 25 with(first|(go_at_call 61;refine SZ.o.m fun w8 I=>?_;have B8:=hY (I.o.keep B3.o);obtain⟨t1,t2⟩:=blk B8.o;clear q1 q2));have LK:=dw (P:=Tryz.prog) w8 Tryz.underlying127 Tryz.underlying3 ((LH.o.ext (eu.o.trans I.o)).m) (.i 0) HZ.o (g:Int);rw[AG.o,At] at LK;have KE:Hid (Ext wr (w8.setCell ⟨bx,4,none⟩ (.i (pg-((f:Int)+3))))):=hY ((E3.o.trans I.o).setCell (by rw[cr.o];exact gE _) _);have B9:=hY (be (i:=4) B8.o (.i (pg-((f:Int)+3))));go_upto_region 26 with fail;generalize w8.setCell ⟨bx,4,none⟩ (.i (pg-((f:Int)+3)))=wz at*;clear LK t1 t2;have f6:=hY cx;clear d6 cx
       replace B9:Hid (wz.heap[bx]?=some (.cells #[.i s,.i 0,.i 0,.i 0,.i (pg-((f:Int)+3)),.i (g:Int),.i (-1),.pointer none] 144)):=B9
       generalize e8:pg-((f:Int)+3)=tz at*;clear e8;obtain⟨t1,t2⟩:=blk B9.o;by_cases c5:32767<tz
       ·have a3:Hid (¬okI (aj its) (plc its j) (.jmp s g)):=hY (fun h=>by rw[bo.o] at h;have:=(ds.o.1 h).2;omega)
        go_wp2_with fail
        go_ret2
        exact kD.no (al.o.trans KE.o) D.o a3.o rfl
       ·by_cases cz:tz< -32767
        ·have a3:Hid (¬okI (aj its) (plc its j) (.jmp s g)):=hY (fun h=>by rw[bo.o] at h;have:=(ds.o.1 h).1;omega)
         go_wp2_with fail
         go_ret2
         exact kD.no (al.o.trans KE.o) D.o a3.o rfl
        ·have bq:=hY (ds.o.2 ⟨by omega,by omega⟩)
         have FK:=hY (dy.o bq.o);have EI:=hY (dz.o bq.o)
         replace a2:=hY (dn.o bq.o)
         go_upto_region 30 with fail;have fu:=hY (And.intro c5 cz);clear c5 cz;have ch:=hY (E2.o.trans KE.o);have et:=hY (al.o.trans KE.o);have OX:=hY (ak OW.o KE.o);have E5:Hid (Ext wz (wz.alloc (.cells #[.i s,.i 0,.i 0,.i 0,.i tz] 91))):=hY ((Ext.refl _).alloc _);have EN:=hY (pF _ s 0 0 0 tz a5.o FK.o wz.heap.size (aq wz (.cells #[.i s,.i 0,.i 0,.i 0,.i tz] 91) _ rfl));have PM:=hY (pG (opR s).2.1 s 0 0 0 tz);have UL:Hid ((u8L (dq (opR s).2.1 s 0 0 0 tz)).length=(dq (opR s).2.1 s 0 0 0 tz).length):=hY (by simp[u8L]);have P6:=hY (rY (opR s).2.1 s 0 0 0 tz);have UO:Hid (∀u∈u8L (dq (opR s).2.1 s 0 0 0 tz),u.oneCell'=true):=hY (by intro u hu;unfold u8L at hu;simp only[BP] at hu;obtain⟨_,_,rfl⟩:=hu;rfl);generalize u8L (dq (opR s).2.1 s 0 0 0 tz)=A at*;generalize b4:(dq (opR s).2.1 s 0 0 0 tz).length=m9 at*;clear b4;go_upto_region 33 with(go_at_call 62;refine EN.o.mono ?_;rintro e X ⟨v9,rfl,G,aa⟩;obtain⟨Z,c9,rfl,h9⟩:=aJ aa;obtain⟨g9,rfl,-⟩:=h9 PM.o;have E9:=hY (E5.o.trans G);have R9:=hY aa;clear G aa h9 t1 t2);clear E5 EN;have v:=hY (ch.o.trans E9.o);have O9:=hY (ak OX.o E9.o);have L9:=hY (LH.o.ext v.o);obtain⟨ck,vc,J,av,bk⟩:=L9.o.rows.2 j _ C D.o
         have ac:Hid (∀(k:Nat) (u:Value),A[k]?=some u->X.cell? ((⟨g9,0,none⟩:Addr).add k)=some u):=hY (fun k u t=>by
          rw[show(⟨g9,0,none⟩:Addr).add k=⟨g9,k,none⟩ by unfold Addr.add;split<;>simp_all];have a8:=(aC.1 t).1;rw[UL.o] at a8
          rw[aX R9.o k a8];exact t)
         have ce:Hid (A.length=m9*1):=hY (by rw[UL.o];omega);have a4:Hid (W2.heap.size<=X.heap.size):=hY v.o.size;have ah:Hid (f+m9<=maxLen/\(f+m9)*1<=140737488355328):=hY ⟨by have:=P6.o;unfold maxLen;omega,by have:=P6.o;omega⟩;have cg:Hid (∀H,X.drew.grownBy H (Value.slice ad f co).ownBlock->Ext W2 H):=hY (fun H R=>⟨(ag R).os.trans v.o.os,(ag R).tape.trans v.o.tape,(ag R).output.trans v.o.output,aN v.o.size (ag R).size,fun k t=>((ag R).block k (bA t v.o.size) (fun hm=>by have:=(au O9.o hm).1;omega)).trans (v.o.block t)⟩)
         have cd:Hid (∀H,X.drew.grownBy H (Value.slice ad f co).ownBlock->H.ownsRow (w.heap.size+1) 32 1 (.slice (some ⟨g4,0,none⟩) its.length c4) its.length vs):=hY (fun H R=>(ag R).row (a:=X.drew) L9.o.row (fun g bm Q=>by
          obtain⟨_,cs,fz,e⟩:=au O9.o Q;obtain⟨_,ej,ei,e'⟩:=au L9.o.row (k:=g) (by rw[bm];simp);rw[e] at e'
          cases e'))
         obtain⟨rfl,rfl⟩:ck=none/\vc=0:=bk (fun _ _ _ h=>by cases h)
         replace J:vs[j]?=some (.slice none 0 0):=J
         have ab:X.cell? ⟨g4,j,none⟩=some (.slice none 0 0):=by rw[aX L9.o.row j C];exact J
         have b6:=dj L9.o.row j;have dx:=hY J;clear J av bk
         go_region_law (first
          |((refine step_append_lies _ rfl _ _ _ rfl W2.heap.size 5 i5 (.int .u8 0) 1 1 Tryz.underlying32 hi bj bi bh rfl (by decide) (.slice ad f co) f (u8L (bD ai (aj its) 0 (its.take j))) ?hs O9.o ⟨g9,0,none⟩ m9 c9 A ?hx ce.o ?hnews ?h1 PM.o ah.o.1 ah.o.2 ?hb _ rfl ?_;(case hs=>simp[Act.eval,Act.put]);(case hx=>simp[Act.eval,Act.put]);(case hnews=>exact ac.o);(case h1=>exact UO.o);(case hb=>exact a4.o);intro g q H E n U Y;have bd:=hY E;have b2:=hY n;have bc:=hY (cd.o H n);clear E n U Y;have c2:H.cell? ⟨g4,j,none⟩=some (.slice none 0 0):=(by rw[aX bc.o j C];exact dx.o);have c3:=dj bc.o j))
          |((refine iQ rfl _ _ _ rfl W2.heap.size 5 i5 1 Tryz.underlying32 hi (.slice (some ⟨g,0,none⟩) (f+m9) q) _ _ ?hs bd.o ?hx ?_;(case hs=>simp[Act.eval,Act.put]);(case hx=>simp[Act.eval,Act.put])))
          |fail)
         all_goals
          clear ab b6
          have RN:Hid (szL (its.take (j+1))=f+m9/\u8L (bD ai (aj its) 0 (its.take (j+1)))=u8L (bD ai (aj its) 0 (its.take j))++A):=hY ⟨by
           rw[(cN D.o).2,cC,bp.o];simp only[szL,a2.o,dE,hG,ks],by
           first|rw[jc D.o,gI,EI.o]|rw[jc D.o,gI,bo.o,EI.o]
           simp[dE,u8L]⟩
          have RF:=bd.o;rw[←RN.o.1,←RN.o.2] at RF;have cb:=hY RF;have EF:=hY (cg.o H b2.o);clear RF;go_wp2_with fail;go_roundw
          case rel=>exact⟨j+1,some ⟨g,0,none⟩,q,by omega,by go_num,by rw[RN.o.1],cb.o,EF.o,fun i s g h1 F=>by
           by_cases hij:i=j
           ·subst hij;rw[D.o] at F;cases F;rw[bo.o];exact bq.o
           ·exact JM.o i s g (by omega) F⟩
          case measure=>simp[intOf];omega
      |blk M L d=>
       obtain⟨r2,da,b7⟩:=a0.o;cases da;obtain⟨am,bv⟩:=rU GD.o D.o;have ee:M<=15/\L<=63/\dg d:=K;obtain⟨fa,fb,b5⟩:=ee;have cc:=hY (fun W (hE:Ext wr W)=>uX d am b5 W r2 (b7.keep (ok':=fun k=>k<W.heap.size) (fun k t=>hE.block (bA t al.o.size)) (fun k t=>bA t (aN al.o.size hE.size))));have af:okI (aj its) (plc its j) (.blk M L d):=by rw[okI];exact LH.o.ok j M L d C D.o
       have bq:=hY af;have a5:=hY (ju (x:=.blk M L d) hlab K);have FK:=hY (ng (pos:=aj its) (p:=plc its j) (x:=.blk M L d) hlab K af (uW am));have EI:=hY (mr (pos:=aj its) (p:=plc its j) (x:=.blk M L d) hlab K af);have a2:=hY (pH (pos:=aj its) (p:=plc its j) (x:=.blk M L d) hlab K af);have ab:(dE (.blk M L d)).length=szL d:=bu _ _ _ _;have f1:=qM am.last;have f0:=(LH.o.ok j M L d C D.o).2.1;have h6:bf (opI (.blk M L d))=6:=rfl;rw[h6] at SZ;rw[ab] at a2;simp only[opI,itA,itB,itC,pt,itG,itZ,itL] at FK EI a2 a5 q1 SZ B3;obtain⟨d0,ao,J,av,-⟩:=LH.o.rows.2 j _ C D.o;rw[ab] at J av
       obtain⟨gv,rfl,-⟩:∃g,d0=some ⟨g,0,none⟩/\True:=by
        obtain⟨ad,c,he,hh⟩:=aJ av;obtain⟨g,R,_⟩:=hh (by omega);cases he;exact⟨g,R,trivial⟩
       have HV:=hY (And.intro J av);clear J av am bv b5 b7 af hlab K fa fb h6 bw;generalize hN:szL d=N at*;have HN:=hY hN;have fw:=hY ab;clear hN ab;go_upto_region 29 with(first|(go_at_call 61;refine SZ.o.m fun w8 I=>?_;have B8:=hY (I.o.keep B3.o);obtain⟨t1,t2⟩:=blk B8.o;clear q1 q2));have ci:=hY (E3.o.trans I.o)
       have du:Hid (∀V,Ext w8 V->V.cell? ⟨g4,j,none⟩=some (.slice (some ⟨gv,0,none⟩) N ao)/\V.frozen? ⟨g4,j,none⟩=false):=hY (fun V hE=>by
        have hr:=ak LH.o.row ((E2.o.trans ci.o).trans hE)
        exact⟨by rw[aX hr j C];exact HV.o.1,dj hr j⟩)
       have c0:g4≠bx:=by
        have h1:=gM (ak LH.o.row E2.o);have F:=cr.o;omega
       have KE:Hid (∀V,Ext w8 V->V.cell? ⟨g4,j,none⟩=some (.slice (some ⟨gv,0,none⟩) N ao)/\V.cell? ⟨bx,7,none⟩=some (.pointer (some ⟨r2,0,none⟩))):=hY (fun V hE=>⟨(du.o V hE).1,by rw[(blk (hE.keep B8.o)).1];rfl⟩);obtain⟨fg,ff⟩:=du.o w8 (Ext.refl _)
       have ep:Hid (∀V,Ext w8 V->∀u,(V.setCell ⟨bx,3,none⟩ u).cell? ⟨g4,j,none⟩=some (.slice (some ⟨gv,0,none⟩) N ao)/\(V.setCell ⟨bx,3,none⟩ u).cell? ⟨bx,7,none⟩=some (.pointer (some ⟨r2,0,none⟩))):=hY (fun V hE u=>by
        have t:=KE.o V hE;have Y:g4<V.heap.size:=by have h1:=gM (ak LH.o.row ((E2.o.trans ci.o).trans hE));exact h1
        refine⟨?_,by rw[(blk (be (hE.keep B8.o) u)).1];rfl⟩;rw[World.cell?_of_block (a:=⟨g4,j,none⟩) ((ae V ⟨bx,3,none⟩ u).block g4 Y (by simpa using c0))]
        exact t.1)
       have eo:Hid (∀V,Ext w8 V->∀u u',((V.setCell ⟨bx,3,none⟩ u).setCell ⟨bx,4,none⟩ u').cell? ⟨g4,j,none⟩=some (.slice (some ⟨gv,0,none⟩) N ao)/\((V.setCell ⟨bx,3,none⟩ u).setCell ⟨bx,4,none⟩ u').cell? ⟨bx,7,none⟩=some (.pointer (some ⟨r2,0,none⟩))):=hY (fun V hE u u'=>by
        have t:=ep.o V hE u;have Y:g4<(V.setCell ⟨bx,3,none⟩ u).heap.size:=by have h1:=gM (ak LH.o.row ((E2.o.trans ci.o).trans hE));exact bA h1 (ae V ⟨bx,3,none⟩ u).size
        refine⟨?_,by rw[(blk (be (be (hE.keep B8.o) u) u')).1];rfl⟩;rw[World.cell?_of_block (a:=⟨g4,j,none⟩) ((ae (V.setCell ⟨bx,3,none⟩ u) ⟨bx,4,none⟩ u').block g4 Y (by simpa using c0))]
        exact t.1)
       go_region_held3 (fun V=>V.cell? ⟨g4,j,none⟩=some (.slice (some ⟨gv,0,none⟩) N ao)/\V.cell? ⟨bx,7,none⟩=some (.pointer (some ⟨r2,0,none⟩)))
        (with_reducible (first|exact eo.o _ ((Ext.refl _).drew.trans bn.o) _ _|exact ep.o _ ((Ext.refl _).drew.trans bn.o) _|exact KE.o _ (Ext.refl _).drew|exact KE.o _ ((Ext.refl _).drew.trans bn.o)))
        (first|((go_at_call 21;refine(cc.o _ (ci.o.trans (Ext.refl _).drew)).m fun wa bn=>?_;obtain⟨p1,p2⟩:=blk (bn.o.keep B8.o);obtain⟨p3,p4⟩:=du.o wa ((Ext.refl _).drew.trans bn.o))))
       all_goals
        have KX:Hid (Ext wr ((wa.setCell ⟨bx,3,none⟩ (.i (ai d))).setCell ⟨bx,4,none⟩ (.i (N:Int)))):=hY (((ci.o.trans ((Ext.refl _).drew.trans bn.o)).setCell (by rw[cr.o];exact gE _) _).setCell (by rw[cr.o];exact gE _) _);have eh:=be (i:=4) (be (i:=3) (bn.o.keep B8.o) (.i (ai d))) (.i (N:Int));have B9:Hid (((wa.setCell ⟨bx,3,none⟩ (.i (ai d))).setCell ⟨bx,4,none⟩ (.i (N:Int))).heap[bx]?=some (.cells #[.i 24,.i (M:Int),.i (L:Int),.i (ai d),.i (N:Int),.i (-1),.i (-1),.pointer (some ⟨r2,0,none⟩)] 144)):=eh;clear eh fg ff p1 p2 p3 p4;go_upto_region 30 with fail;generalize(wa.setCell ⟨bx,3,none⟩ (.i (ai d))).setCell ⟨bx,4,none⟩ (.i (N:Int))=wz at*;obtain⟨t1,t2⟩:=blk B9.o;have ch:=hY (E2.o.trans KX.o);have et:=hY (al.o.trans KX.o);have OX:=hY (ak OW.o KX.o);have E5:Hid (Ext wz (wz.alloc (.cells #[.i 24,.i (M:Int),.i (L:Int),.i (ai d),.i (N:Int)] 91))):=hY ((Ext.refl _).alloc _);have EN:=hY (pF _ 24 (M:Int) (L:Int) (ai d) (N:Int) a5.o FK.o wz.heap.size (aq wz (.cells #[.i 24,.i (M:Int),.i (L:Int),.i (ai d),.i (N:Int)] 91) _ rfl));have PM:=hY (pG (opR 24).2.1 24 (M:Int) (L:Int) (ai d) (N:Int));have UL:Hid ((u8L (dq (opR 24).2.1 24 (M:Int) (L:Int) (ai d) (N:Int))).length=(dq (opR 24).2.1 24 (M:Int) (L:Int) (ai d) (N:Int)).length):=hY (by simp[u8L]);have P6:=hY (rY (opR 24).2.1 24 (M:Int) (L:Int) (ai d) (N:Int));have UO:Hid (∀u∈u8L (dq (opR 24).2.1 24 (M:Int) (L:Int) (ai d) (N:Int)),u.oneCell'=true):=hY (by intro u hu;unfold u8L at hu;simp only[BP] at hu;obtain⟨_,_,rfl⟩:=hu;rfl);generalize u8L (dq (opR 24).2.1 24 (M:Int) (L:Int) (ai d) (N:Int))=A at*;generalize b4:(dq (opR 24).2.1 24 (M:Int) (L:Int) (ai d) (N:Int)).length=m9 at*;clear b4;go_upto_region 33 with(go_at_call 62;refine EN.o.mono ?_;rintro e X ⟨v9,rfl,G,aa⟩;obtain⟨Z,c9,rfl,h9⟩:=aJ aa;obtain⟨g9,rfl,-⟩:=h9 PM.o;have E9:=hY (E5.o.trans G);have R9:=hY aa;clear G aa h9 t1 t2);clear E5 EN;have v:=hY (ch.o.trans E9.o);have O9:=hY (ak OX.o E9.o);have L9:=hY (LH.o.ext v.o);obtain⟨ck,vc,J,av,bk⟩:=L9.o.rows.2 j _ C D.o
        have ac:Hid (∀(k:Nat) (u:Value),A[k]?=some u->X.cell? ((⟨g9,0,none⟩:Addr).add k)=some u):=hY (fun k u t=>by
         rw[show(⟨g9,0,none⟩:Addr).add k=⟨g9,k,none⟩ by unfold Addr.add;split<;>simp_all];have a8:=(aC.1 t).1;rw[UL.o] at a8
         rw[aX R9.o k a8];exact t)
        have ce:Hid (A.length=m9*1):=hY (by rw[UL.o];omega);have a4:Hid (W2.heap.size<=X.heap.size):=hY v.o.size;have ah:Hid (f+m9<=maxLen/\(f+m9)*1<=140737488355328):=hY ⟨by have:=P6.o;unfold maxLen;omega,by have:=P6.o;omega⟩;have cg:Hid (∀H,X.drew.grownBy H (Value.slice ad f co).ownBlock->Ext W2 H):=hY (fun H R=>⟨(ag R).os.trans v.o.os,(ag R).tape.trans v.o.tape,(ag R).output.trans v.o.output,aN v.o.size (ag R).size,fun k t=>((ag R).block k (bA t v.o.size) (fun hm=>by have:=(au O9.o hm).1;omega)).trans (v.o.block t)⟩)
        have cd:Hid (∀H,X.drew.grownBy H (Value.slice ad f co).ownBlock->H.ownsRow (w.heap.size+1) 32 1 (.slice (some ⟨g4,0,none⟩) its.length c4) its.length vs):=hY (fun H R=>(ag R).row (a:=X.drew) L9.o.row (fun g bm Q=>by
         obtain⟨_,cs,fz,e⟩:=au O9.o Q;obtain⟨_,ej,ei,e'⟩:=au L9.o.row (k:=g) (by rw[bm];simp);rw[e] at e'
         cases e'))
        have ez:=HV.o.1;have d1:=J;have ab:X.cell? ⟨g4,j,none⟩=some (.slice (some ⟨gv,0,none⟩) N ao):=by rw[aX L9.o.row j C];exact HV.o.1
        have b6:=dj L9.o.row j;clear J av bk d1 ez;have fm:Hid (X.ownsRow (w.heap.size+1) 5 1 (.slice (some ⟨gv,0,none⟩) N ao) N (u8L (dE (.blk M L d)))):=hY (ak HV.o.2 v.o);have fx:Hid (gv<W2.heap.size):=hY (gM HV.o.2)
        have fn:Hid (∀H,X.drew.grownBy H (Value.slice ad f co).ownBlock->H.ownsRow (w.heap.size+1) 5 1 (.slice (some ⟨gv,0,none⟩) N ao) N (u8L (dE (.blk M L d)))):=hY (fun H R=>(ag R).row (a:=X.drew) fm.o (fun g bm Q=>by
         have h1:=(au O9.o Q).1;simp only[Value.ownBlock,dO] at bm;have:=fx.o
         omega))
        have el:Hid ((u8L (dE (.blk M L d))).length=N):=hY (by rw[←fw.o];simp[u8L]);have fk:Hid (∀u∈u8L (dE (.blk M L d)),u.oneCell'=true):=hY (by intro u hu;unfold u8L at hu;simp only[BP] at hu;obtain⟨_,_,rfl⟩:=hu;rfl);have N1:Hid (0<N):=hY (by omega);have c7:Hid (f+m9+N<=maxLen/\(f+m9+N)*1<=140737488355328):=hY ⟨by have:=P6.o;unfold maxLen;omega,by have:=P6.o;omega⟩;have fo:Hid (u8L (bD ai (aj its) 0 (its.take (j+1)))=u8L (bD ai (aj its) 0 (its.take j))++A++u8L (dE (.blk M L d))):=hY (by rw[jc D.o,gI,EI.o,gz]);have en:Hid (szL (its.take (j+1))=f+m9+N):=hY (by rw[(cN D.o).2,cC,bp.o];simp only[szL,a2.o];omega);generalize u8L (dE (.blk M L d))=c8 at*
        go_region_law (first
         |((refine step_append_lies _ rfl _ _ _ rfl W2.heap.size 5 i5 (.int .u8 0) 1 1 Tryz.underlying32 hi bj bi bh rfl (by decide) (.slice ad f co) f (u8L (bD ai (aj its) 0 (its.take j))) ?hs O9.o ⟨g9,0,none⟩ m9 c9 A ?hx ce.o ?hnews ?h1 PM.o ah.o.1 ah.o.2 ?hb _ rfl ?_;(case hs=>simp[Act.eval,Act.put]);(case hx=>simp[Act.eval,Act.put]);(case hnews=>exact ac.o);(case h1=>exact UO.o);(case hb=>exact a4.o);intro g q H E n U Y;have bd:=hY E;have b2:=hY n;have bc:=hY (cd.o H n);have fl:=hY (fn.o H n);clear E n U Y;have c2:H.cell? ⟨g4,j,none⟩=some (.slice (some ⟨gv,0,none⟩) N ao):=(by rw[aX bc.o j C];exact HV.o.1);have c3:=dj bc.o j))
         |((refine step_append_lies _ rfl _ _ _ rfl W2.heap.size 5 i5 (.int .u8 0) 1 1 Tryz.underlying32 hi bj bi bh rfl (by decide) (.slice (some ⟨g,0,none⟩) (f+m9) q) (f+m9) (u8L (bD ai (aj its) 0 (its.take j))++A) ?hs bd.o ⟨gv,0,none⟩ N ao c8 ?hx ?hl ?hnews ?h1 N1.o c7.o.1 c7.o.2 ?hb _ rfl ?_;(case hs=>simp[Act.eval,Act.put]);(case hx=>simp[Act.eval,Act.put]);(case hl=>rw[el.o];omega);(case hnews=>exact(y7 fl.o el.o));(case h1=>exact fk.o);(case hb=>exact aN a4.o (ag b2.o).size);intro g5 q5 w5 E n U eb;have fr:=hY E;have cf:=hY n;clear E n U eb))
         |fail)
        all_goals
         clear ab b6;have RF:=fr.o;rw[←fo.o,←en.o] at RF;have cb:=hY RF;have fc:=(aw bd.o).1;have br:=cg.o H b2.o;have EF:Hid (Ext W2 w5):=hY ⟨(ag cf.o).os.trans br.os,(ag cf.o).tape.trans br.tape,(ag cf.o).output.trans br.output,aN br.size (ag cf.o).size,fun k t=>((ag cf.o).block k (bA t br.size) (fun hm=>by simp only[Value.ownBlock,AN,AS] at hm;have bv:W2.heap.size<=g:=fc;omega)).trans (br.block t)⟩;clear br;clear RF;go_wp2_with fail;go_roundw
         case rel=>exact⟨j+1,some ⟨g5,0,none⟩,q5,by omega,by go_num,by rw[en.o],cb.o,EF.o,fun i s g h1 F=>by
          by_cases hij:i=j
          ·subst hij;rw[D.o] at F;cases F
          ·exact JM.o i s g (by omega) F⟩
         case measure=>simp[intOf];omega
    ·have df:j=its.length:=by omega
     subst df;rw[Fz] at bp
     have fs:Hid (okL (aj its) 0 its):=hY (yX.2 (fun j x hx=>by
      have b1:=(aC.1 hx).1;rw[Int.zero_add];cases x with
      |lab g=>simp[okI]
      |ins s a b z=>simp[okI]
      |jmp s g=>exact JM.o j s g b1 hx
      |blk a b d=>rw[okI];exact LH.o.ok j a b d b1 hx))
     have dr:=OW.o;rw[Fz] at dr;have fp:=hY dr;clear dr b0 bz hj;go_wp2_with fail
     go_ret2
     exact⟨al.o,.inl ⟨fs.o,ad,co,by rw[bp.o];rfl,by rw[bp.o];exact me fp.o ct.o.size⟩⟩
end
theorem yg (N:Nat):∀its:List It,SizeOf.sizeOf its<N->cB its->cM its->dg its->sB its:=by
 induction N with
 |zero=>intro its h;omega
 |succ N ih=>
  intro its q i f g;refine zM its i f g (fun a b c e=>?_);obtain⟨j,k,l⟩:=Ft e;have d:its[j]?=some (.blk a b c):=by rw[←l];simp[k]
  obtain⟨p,o⟩:=rU f d;have n:a<=15/\b<=63/\dg c:=kf g d;refine ih c ?_ p o n.2.2;have m:=List.sizeOf_lt_of_mem e;simp only[It.blk.sizeOf_spec] at m;omega
theorem Ca {its:List It}(a:cB its)(b:cM its)(c:dg its):sB its:=yg _ its (sx _) a b c
end Go.Proofs.Eff
