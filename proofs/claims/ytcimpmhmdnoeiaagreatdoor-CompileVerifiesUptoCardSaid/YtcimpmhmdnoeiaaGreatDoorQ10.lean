import Derived.Test.YtcimpmhmdnoeiaaGreatDoorQ06
import Derived.Test.YtcimpmhmdnoeiaaGreatDoorQ07
set_option maxRecDepth 100000
set_option maxHeartbeats 4000000
set_option linter.all false
namespace Go.Proofs.Eff
open Go.RowKit
section
def jU (J:Nat->Act->World->Prop)(Q:Exit->Act->World->Prop):Exit->Act->World->Prop
 |.goto l,a,w=>J l a w
 |e,a,w=>Q e a w
section
variable {P:Program} {a:Act} {w:World} {Q:Exit->Act->World->Prop}
theorem nQ {c:Code}(rest:Nat->Code)(J:Nat->Act->World->Prop)(μ:Nat->Act->World->Nat)(C:∀l a w,J l a w->findLabel c l=some (rest l))
 (first:c.wp P (jU J Q) a w)
 (p:∀l a w,J l a w->(rest l).wp P (jU (fun m r w'=>J m r w'/\μ m r w'<μ l a w) Q) a w):(Code.scope c).wp P Q a w:=by
 intro b k s;have A:∀l a w,J l a w->gotoIn l (.inScope c::k)=some (.code (rest l)::.inScope c::k):=fun l a w h=>by simp[gotoIn,C l a w h]
 have u:∀n l a w,μ l a w=n->J l a w->∃e r w',Q e r w'/\Arrives P (lone (b.at a (.code (rest l)::.inScope c::k)) s w) b k s e r w':=by
  intro n
  induction n using Nat.strongRecOn with
  |_ n ih=>
   intro l a w E D;obtain⟨e,j,i,g,d⟩:=p l a w D b (.inScope c::k) s;cases e with
   |normal=>exact⟨.normal,j,i,g,Steps.trans d (.one step_inScope)⟩
   |exit id=>exact⟨.exit id,j,i,g,fun v x=>d v (by simp[exitTo,x])⟩
   |goto m=>
    obtain⟨q,B⟩:=g;obtain⟨y,z,t,o,f⟩:=ih _ (by omega) m j i rfl q;exact⟨y,z,t,o,.of_steps (d _ (A m _ _ q)) f⟩
   |ret=>exact⟨_,j,i,g,d⟩
   |panic ch=>exact⟨_,j,i,g,d⟩
   |outgrown=>exact⟨_,j,i,g,d⟩
 obtain⟨e,j,i,g,d⟩:=first b (.inScope c::k) s;cases e with
 |normal=>exact⟨.normal,j,i,g,.head step_scope (Steps.trans d (.one step_inScope))⟩
 |exit id=>exact⟨.exit id,j,i,g,fun v x=>.head step_scope (d v (by simp[exitTo,x]))⟩
 |goto m=>
  obtain⟨y,z,t,o,f⟩:=u _ m j i rfl g;exact⟨y,z,t,o,.of_steps (.head step_scope (d _ (A m _ _ g))) f⟩
 |ret=>exact⟨_,j,i,g,.of_steps (.one step_scope) d⟩
 |panic ch=>exact⟨_,j,i,g,.of_steps (.one step_scope) d⟩
 |outgrown=>exact⟨_,j,i,g,.of_steps (.one step_scope) d⟩
end
def jr:Code->Code
 |.seq .skip x=>x
 |c=>c
theorem wK {P:Program}{a:Act}{w:World}{Q:Exit->Act->World->Prop}{c:Code}(h:(jr c).wp P Q a w):c.wp P Q a w:=by
 unfold jr at h
 split at h
 ·exact wp_seq (wp_skip h)
 ·exact h
theorem gG {P:Program}{a:Act}{w:World}{Q:Exit->Act->World->Prop}{c:Code}(J:Nat->Act->World->Prop)(μ:Nat->Act->World->Nat)(s:∀l a w,J l a w->(findLabel c l).isSome=true)
 (j:∀l a w,J l a w->(∀b d w',J b d w'->μ b d w'<μ l a w->(jr ((findLabel c b).getD .skip)).wp P (jU (fun g i f=>J g i f/\μ g i f<μ l a w) Q) d w')->
   (jr ((findLabel c l).getD .skip)).wp P (jU (fun b d w'=>J b d w'/\μ b d w'<μ l a w) Q) a w)
 (first:(∀l a w,J l a w->(jr ((findLabel c l).getD .skip)).wp P (jU J Q) a w)->c.wp P (jU J Q) a w):(Code.scope c).wp P Q a w:=by
 have m:∀n l a w,μ l a w=n->J l a w->(jr ((findLabel c l).getD .skip)).wp P (jU (fun b d w'=>J b d w'/\μ b d w'<μ l a w) Q) a w:=by
  intro n
  induction n using Nat.strongRecOn with
  |_ n ih=>
   intro l a w t k;refine j l a w k fun b d w' p o=>wp_mono (ih _ (by omega) b d w' rfl p) fun e i f h=>?_;cases e with
   |goto g=>exact⟨h.1,Nat.lt_trans h.2 o⟩
   |normal=>exact h
   |exit id=>exact h
   |ret=>exact h
   |panic ch=>exact h
   |outgrown=>exact h
 refine nQ (fun l=>(findLabel c l).getD .skip) J μ (fun l a w h=>by
  have q:=s l a w h;cases h2:findLabel c l with
  |none=>rw[h2] at q;cases q
  |some r=>rfl) (first fun l a w k=>wp_mono (m _ l a w rfl k) fun e i f h=>?_) (fun l a w k=>wK (m _ l a w rfl k))
 cases e with
 |goto g=>exact h.1
 |normal=>exact h
 |exit id=>exact h
 |ret=>exact h
 |panic ch=>exact h
 |outgrown=>exact h
theorem EL (l:List Value)(n:Nat)(h:l.length=n):l=(List.range n).map fun k=>l.getD k undef:=by
 apply List.ext_getElem
 ·simp[h]
 ·intro i a b
  simp[List.getD,iD a]
theorem rn {J:Nat->Act->World->Prop}{Q:Exit->Act->World->Prop}{a:Act}{w:World}:jU J Q .ret a w=Q .ret a w:=rfl
def gK (u:Nat->Value):List (Nat×Value)->Nat->Value
 |[],i=>u i
 |(k,v)::r,i=>if i=k then v else gK u r i
def frL (u:Nat->Value)(a:List (Nat×Value)):Nat->Nat->List Value
 |_,0=>[]
 |i,n+1=>gK u a i::frL u a (i+1) n
theorem yG {u:Nat->Value}{a:List (Nat×Value)}{i:Nat}(h:∀x∈a,u x.1=x.2):gK u a i=u i:=by
 induction a with
 |nil=>rfl
 |cons x r ih=>
  obtain⟨k,v⟩:=x;rw[gK,ih (fun y b=>h y (sb _ b))]
  split
  ·subst i;exact(h (k,v) (by simp)).symm
  ·rfl
theorem Bq {u:Nat->Value}{a:List (Nat×Value)}(n:Nat):∀i j,j<n->(frL u a i n)[j]?=some (gK u a (i+j)):=by
 induction n with
 |zero=>intro i j h;omega
 |succ n ih=>
  intro i j h;cases j with
  |zero=>rfl
  |succ j=>rw[frL,og,ih (i+1) j (by omega),show i+1+j=i+(j+1) by omega]
theorem Bp {u:Nat->Value}{a:List (Nat×Value)}(n:Nat):∀i,(frL u a i n).length=n:=by
 induction n with
 |zero=>intro i;rfl
 |succ n ih=>intro i;rw[frL,gi,ih]
theorem jE {a:Act}{n:Nat}{c:List (Nat×Value)}(b:a.defers=[])(e:a.tmps.size=n)(k:∀x∈c,a.tmps[x.1]?=some x.2):∃u:Nat->Value,a={tmps:=(frL u c 0 n).toArray,defers:=[]}:=by
 obtain⟨⟨l⟩,d⟩:=a;have b:d=[]:=b;subst b;have e:l.length=n:=e;refine⟨fun i=>(l[i]?).getD undef,?_⟩;refine congrArg (fun x:List Value=>({tmps:=x.toArray,defers:=[]}:Act)) ?_;refine List.ext_getElem? fun j=>?_;by_cases h:j<n
 ·rw[Bq n 0 j h,yG (fun x g=>by have f:=k x g;simp at f;simp[f]),nl,iD (by omega)];rfl
 ·rw[Eq (by omega),Eq (by rw[Bp];omega)]
end
theorem kK (w:World)(base:Nat)(e:TypeId):w.ownsRow base e 1 (.slice none 0 0) 0 []:=⟨rfl,.inl ⟨rfl,rfl⟩⟩
theorem dU {d:Func}{p u x:Tmp}{c:TypeId}(h:d.results=#[.cell p c,.tmp u,.tmp x])(b:Array Value)(P:Program)(w:World):
 (results d b).run P w=
   ((asAddr (b.getD p undef)).run P w).andThen fun a f=>((loadVar c a).run P f).andThen fun v e=>.ok (.tuple #[v,b.getD u undef,b.getD x undef]) e:=by
 simp only[results,h];simp[Sem.run_bind,Result.andThen]
theorem cz {S:List Nat}{w a b:World}(c:Ext w a)(d:Mod S a b)(f:∀k∈S,w.heap.size<=k):Ext w b:=
 ⟨d.os.trans c.os,d.tape.trans c.tape,d.output.trans c.output,aN c.size d.size,fun k e=>by rw[d.block k (bA e c.size) (fun h=>by have:=f k h;omega)];exact c.block e⟩
def gx:Nat->Code->Code
 |0,c=>c
 |n+1,.seq _ b=>gx n b
 |_+1,c=>c
section
variable {w:World} {base n e:Nat} {v:Value} {xs:List Value}
theorem aJ {size:Nat}{e:TypeId}(h:w.ownsRow base e size v n xs):∃ad c,v=.slice ad n c/\(0<n->∃g,ad=some ⟨g,0,none⟩/\base<=g/\g<w.heap.size):=by
 rcases h.2 with⟨b,a⟩|⟨g,c,f,b,a,d,_⟩
 ·exact⟨none,0,by rw[b,a],fun h=>by omega⟩
 ·exact⟨_,_,b,fun _=>⟨g,rfl,a,ab d⟩⟩
theorem au {size:Nat}(h:w.ownsRow base e size v n xs){k:Nat}(a:k∈v.ownBlock.toList):base<=k/\∃l i,w.heap[k]?=some (.cells l e i):=by
 rcases h.2 with⟨b,_⟩|⟨g,c,j,b,f,d,_⟩
 ·rw[b] at a;simp[Value.ownBlock] at a
 ·rw[b] at a
  simp only[Value.ownBlock,AN,aS,aT,or_false] at a;subst a;exact⟨f,_,_,d⟩
theorem cZ {b:Nat}{f:Array Value}{T:TypeId}(h:w.heap[b]?=some (.cells f T)){E:TypeId}(d:T≠E):∀a c,w.heap[b]?≠some (.cells a E c):=fun a c e=>by
 rw[h] at e;injection e with e;injection e with _ e _;exact d e
theorem kJ {s:Nat}(h:w.ownsRow base e s v n xs){E:TypeId}(g:e≠E):∀b∈v.ownBlock.toList,b<base\/∀d c,w.heap[b]?≠some (.cells d E c):=fun b f=>.inr fun d c q=>by
 obtain⟨_,j,i,a⟩:=au h f;rw[q] at a;injection a with a;injection a with _ a _;exact g a.symm
theorem dx {c s:Nat}{j:Array Value}{T:TypeId}(f:w.heap[c]?=some (.cells j T))(h:w.ownsRow base e s v n xs)(i:T≠e):¬c∈v.ownBlock.toList:=fun g=>by
 obtain⟨_,b,a,d⟩:=au h g;exact cZ f i b a d
theorem eF {S S':List Nat}{a b c:World}(h:Mod S a b)(k:Mod S' b c)(g:∀x∈S',x∈S\/a.heap.size<=x):Mod S a c:=
 ⟨k.os.trans h.os,k.tape.trans h.tape,k.output.trans h.output,aN h.size k.size,fun i e d=>(k.block i (bA e h.size) (fun j=>by
  rcases g i j with f|f
  ·exact d f
  ·omega)).trans (h.block i e d)⟩
end
abbrev xv (s:ByteArray)(a:Int)(tk:Value):Array Value:=#[.string s,.i a,tk]
def eK (b:BL)(i:Nat):Int:=match b[i]? with
 |some x=>fu x.toNat
 |none=>0
def lk (b:BL)(i:Nat)(c:Int):Bool:=match b[i]? with
 |some x=>decide ((x.toNat:Int)=c)
 |none=>false
theorem jf (w:World)(pl i:Nat)(s:ByteArray)(b:Int)(tk:Value)(c:w.heap[pl]?=some (.cells (xv s b tk) 222))(l:s.size<=65536)(m:i<=70000):Calls Tryz.prog 210 #[.pointer (some ⟨pl,0,none⟩),.i (i:Int)] w fun e w'=>e=.returned (.i (eK (bl s) i))/\Ext w w':=by
 obtain⟨k,j⟩:=blk c;clear c;by_cases h:i<s.size
 ·have a:eK (bl s) i=fu s[i].toNat:=by unfold eK;rw[f9 s i h]
  rw[a];clear a;go_enter Tryz.func210,Tryz.ntmps210;go_wp2_with (go_at_call 143;refine(dS _ _).m fun g f=>?_);go_ret;exact⟨rfl,f.o⟩
 ·have a:eK (bl s) i=0:=by unfold eK;rw[Eq (by rw[←bX];omega)]
  rw[a];clear a;go_enter Tryz.func210,Tryz.ntmps210;go_wp2_with fail;go_ret;exact⟨rfl,Ext.refl _⟩
theorem wD (w:World)(pl i:Nat)(s:ByteArray)(b c:Int)(tk:Value)(d:w.heap[pl]?=some (.cells (xv s b tk) 222))(j:s.size<=65536)(k:i<=70000):Calls Tryz.prog 212 #[.pointer (some ⟨pl,0,none⟩),.i (i:Int),.int .u8 c] w fun e w'=>e=.returned (.bool (lk (bl s) i c))/\Ext w w':=by
 obtain⟨g,f⟩:=blk d;clear d;by_cases h:i<s.size
 ·have a:lk (bl s) i c=decide ((s[i].toNat:Int)=c):=by unfold lk;rw[f9 s i h]
  rw[a];clear a;go_enter Tryz.func212,Tryz.ntmps212;go_wp2_with fail;go_ret;exact⟨rfl,Ext.refl _⟩
 ·have a:lk (bl s) i c=false:=by unfold lk;rw[Eq (by rw[←bX];omega)]
  rw[a];clear a;go_enter Tryz.func212,Tryz.ntmps212;go_wp2_with fail;go_ret;exact⟨rfl,Ext.refl _⟩
theorem zp (w:World)(g n s:Nat)(cl:List Int)(x:Int)(z:g<w.heap.size)(f:cl.length=n)(q:n<=1000)(l:∀j v,cl[j]?=some v->w.cell? ⟨g,j,none⟩=some (.i v)):Calls Tryz.prog 277 #[.slice (some ⟨g,0,none⟩) n s,.i x] w fun e w'=>(∃r:Int,e=.returned (.i r)/\ -1<=r/\r<=1000/\(0<=r↔x∈cl))/\w'=w:=by
 have u:=hY l;have p:=hY f;clear l f;go_enter Tryz.func277,Tryz.ntmps277;go_upto_region 2 with fail
 go_loopw [8] (fun i wr=>∃k:Nat,k<=n/\i=.i (k:Int)/\wr=w/\¬x∈cl.take k) (fun i _=>n-(intOf i).toNat)
 case atStart=>exact⟨0,oS _,rfl,rfl,by simp⟩
 case round=>
  obtain⟨k,y,rfl,rfl,d⟩:=hrel;have m:=hY d;clear d;by_cases hlt:k<n
  ·have a:k<cl.length:=by rw[p.o];exact hlt
   have e:cl[k]?=some cl[k]:=iD a;have b:=u.o k _ e;have c:=hY (show cl.take (k+1)=cl.take k++[cl[k]] by rw[tO,e];rfl);have HM:=hY (List.getElem_mem a);generalize cl[k]=v at*;clear e a;by_cases hv:x=v
   ·go_wp2_with fail
    go_ret;exact⟨⟨k,rfl,by omega,by omega,by rw[hv];exact⟨fun _=>HM.o,fun _=>by omega⟩⟩,rfl⟩
   ·have t:=hY hv
    go_wp2_with fail;go_roundw
    case rel=>exact⟨k+1,by omega,by go_num,(by first|rfl|trivial),by rw[c.o];simp only[iF,AS,not_or];exact⟨m.o,t.o⟩⟩
    case measure=>simp[intOf];omega
  ·have c:=hY (show cl.take k=cl by rw[Fu (by rw[p.o];omega)])
   go_wp2_with fail;go_ret;exact⟨⟨-1,rfl,by omega,by omega,by have:=m.o;rw[c.o] at this;exact⟨fun h=>by omega,fun h=>absurd h this⟩⟩,rfl⟩
theorem Dt (w:World)(g n k:Nat)(cl:List Int)(x:Int)(f:g<w.heap.size)(d:cl.length=n)(a:n<=1000)(h:∀j v,cl[j]?=some v->w.cell? ⟨g,j,none⟩=some (.i v)):Calls Tryz.prog 253 #[.slice (some ⟨g,0,none⟩) n k,.i x] w fun e w'=>e=.returned (.bool (decide (x∈cl)))/\w'=w:=by
 have A:=hY (zp w g n k cl x f d a h);clear f d a h;go_enter Tryz.func253,Tryz.ntmps253;go_wp2_with (go_at_call 277;refine A.o.mono ?_;rintro e m ⟨⟨r,rfl,q,p,c⟩,rfl⟩;have l:=hY c;clear c);go_ret;exact⟨congrArg (fun b=>Ending.returned (Value.bool b)) (by rw[rW];simp only[decide_eq_true_eq];first|exact l.o|(simp;exact l.o)),rfl⟩
def nR (b:BL)(cl:List Int)(i:Nat):Nat:=i+((b.drop i).takeWhile fun x=>decide (fu (x.toNat:Int)∈cl)).length
theorem Aw {b:BL}{cl:List Int}{i:Nat}(a:i<b.length)(h:eK b i∈cl):nR b cl i=nR b cl (i+1):=by
 have c:b.drop i=b[i]::b.drop (i+1):=hI a;have d:eK b i=fu (b[i].toNat:Int):=by unfold eK;rw[iD a]
 unfold nR;rw[c,List.takeWhile_cons,if_pos (by rw[←d];simpa using h)];simp only[gi];omega
theorem sY {b:BL}{cl:List Int}{i:Nat}(h:¬eK b i∈cl\/b.length<=i):nR b cl i=i:=by
 unfold nR;by_cases hi:i<b.length
 ·have a:b.drop i=b[i]::b.drop (i+1):=hI hi
  have c:eK b i=fu (b[i].toNat:Int):=by unfold eK;rw[iD hi]
  rcases h with h|h
  ·rw[a,List.takeWhile_cons,if_neg (by rw[←c];simpa using h)]
   rfl
  ·omega
 ·rw[hH (by omega)];rfl
theorem uM (w:World)(pl i g n z:Nat)(s:ByteArray)(r:Int)(tk:Value)(cl:List Int)(E:w.heap[pl]?=some (.cells (xv s r tk) 222))(B:s.size<=65536)(M:i<=s.size)(D:g<w.heap.size)(L:cl.length=n)(p:n<=1000)(N:∀j v,cl[j]?=some v->w.cell? ⟨g,j,none⟩=some (.i v)):
 Calls Tryz.prog 211 #[.pointer (some ⟨pl,0,none⟩),.i (i:Int),.slice (some ⟨g,0,none⟩) n z] w fun e w'=>e=.returned (.i (nR (bl s) cl i:Int))/\Ext w w':=by
 have G:=hY (fun(W:World) (c:Ext w W) (k:Nat) (q:k<=70000)=>jf W pl k s r tk (c.keep E) B q);have y:=hY (fun(W:World) (c:Ext w W) (x:Int)=>Dt W g n z cl x (bA D c.size) L p (fun j v h=>by rw[c.cell D];exact N j v h));have F:=hY (And.intro E (And.intro B M));clear E B M D L p N;go_enter Tryz.func211,Tryz.ntmps211;go_upto_region 1 with fail
 go_loopw [1] (fun v V=>∃k:Nat,v=.i (k:Int)/\k<=s.size/\Ext w V/\nR (bl s) cl k=nR (bl s) cl i) (fun v _=>s.size-(intOf v).toNat)
 case atStart=>exact⟨i,rfl,F.o.2.2,Ext.refl _,rfl⟩
 case round=>
  obtain⟨k,rfl,q,c,O⟩:=hrel;have l:=hY c;have RR:=hY O;have P:(k:Int)<=65536:=by have:=F.o.2.1;omega
  have H:=hY (G.o wr c k (by omega));have f:=hY (fun(W:World) (c:Ext w W)=>blk (c.keep F.o.1));clear O c;by_cases hin:eK (bl s) k∈cl
  ·have A:Hid (∀W,Ext w W->Calls Tryz.prog 253 #[.slice (some ⟨g,0,none⟩) n z,.i (eK (bl s) k)] W fun e w'=>e=.returned (.bool true)/\w'=W):=hY (fun W c=>by have:=y.o W c (eK (bl s) k);rwa [decide_eq_true hin] at this)
   by_cases hlt:k<s.size
   ·have t:=hY (Aw (cl:=cl) (by rw[←bX];exact hlt) hin)
    have C:(k:Int)<(s.size:Int):=by omega
    have u:=hY hlt;clear hin hlt q;go_wp2_with (first|(go_at_call 210;refine H.o.m fun m a=>?_;have d:=hY (l.o.trans a.o);obtain⟨K,J⟩:=f.o m (l.o.trans a.o))|(go_at_call 253;refine(A.o _ d.o).mono ?_;rintro e I ⟨rfl,rfl⟩));go_roundw
    case rel=>exact⟨k+1,by push_cast;rfl,u.o,d.o,by rw[←t.o];exact RR.o⟩
    case measure=>have:=u.o;simp[intOf];omega
   ·have t:=hY (sY (b:=bl s) (cl:=cl) (i:=k) (.inr (by rw[←bX];omega)))
    have C:¬(k:Int)<(s.size:Int):=by omega
    clear hin hlt q;go_wp2_with (first|(go_at_call 210;refine H.o.m fun m a=>?_;have d:=hY (l.o.trans a.o);obtain⟨K,J⟩:=f.o m (l.o.trans a.o))|(go_at_call 253;refine(A.o _ d.o).mono ?_;rintro e I ⟨rfl,rfl⟩));go_ret;exact⟨by rw[←RR.o,t.o];rfl,d.o⟩
  ·have A:Hid (∀W,Ext w W->Calls Tryz.prog 253 #[.slice (some ⟨g,0,none⟩) n z,.i (eK (bl s) k)] W fun e w'=>e=.returned (.bool false)/\w'=W):=hY (fun W c=>by have:=y.o W c (eK (bl s) k);rwa [decide_eq_false hin] at this)
   have t:=hY (sY (b:=bl s) (cl:=cl) (i:=k) (.inl hin));clear hin q;go_wp2_with (first|(go_at_call 210;refine H.o.m fun m a=>?_;have d:=hY (l.o.trans a.o);obtain⟨K,J⟩:=f.o m (l.o.trans a.o))|(go_at_call 253;refine(A.o _ d.o).mono ?_;rintro e I ⟨rfl,rfl⟩));go_ret;exact⟨by rw[←RR.o,t.o];rfl,d.o⟩
end Go.Proofs.Eff
