import Derived.Test.YtcimpmhmdnoeiaaGreatDoorQ15
set_option maxRecDepth 100000
set_option maxHeartbeats 4000000
set_option linter.all false
namespace Go.Proofs.Eff
open Go.RowKit
section
variable {base p:Nat} {w w':World} {s:TX}
structure Wd (base top p:Nat)(w:World)(s:TX):Prop where
 tb:top<=base
 vb:8<=base
 vars:fJ w
 pw:aK base w p s
theorem Wd.top {top:Nat}(h:Wd base top p w s):top<=w.heap.size:=aN h.tb (FH h.pw.size)
theorem Wd.low {top:Nat}(h:Wd base top p w s)(b:WM base p w w'):∀k,k<top->w'.heap[k]?=w.heap[k]?:=fun k a=>b.low k (bA a h.tb) (bA a h.top)
theorem Wd.step {top:Nat}{s':TX}(h:Wd base top p w s)(c:aK base w' p s')(b:WM base p w w'):Wd base top p w' s':=
 ⟨h.tb,h.vb,h.vars.keep b.size (fun k a=>b.low k (bA a h.vb) (bA a h.vars.big)),c⟩
theorem Wd.ext {top:Nat}(h:Wd base top p w s)(a:Ext w w'):Wd base top p w' s:=h.step (h.pw.keep a) (.FZ a)
theorem Wd.pl {top:Nat}(h:Wd base top p w s):p<w.heap.size:=by
 obtain⟨v,n,b,a⟩:=h.pw;exact ab a.blk
theorem eR (W:World)(c:p<W.heap.size)(a:List Value):∀W',WM base p (W.alloc (.cells a.toArray 26)) W'->∀i,W'.cell? ⟨W.heap.size,i,none⟩=a[i]?:=fun W' b i=>by
 rw[(blk (b.keep W.heap.size _ (aq W _ _ rfl) (by omega) (by intro a d e;cases e))).1];simp
def gn (x:T):Prop:=∀(base top p:Nat) (w:World) (s:TX) (h:Option Addr) (d:Nat) (g:Option Addr) (c:Nat) (f:Option Addr) (b:Nat),Wd base top p w s->s.ok (T.nd x:Nat)->bK w top x h d g c f b->T.expr x=true->
 Calls Tryz.prog 105 #[.pointer (some ⟨p,0,none⟩),.agg (af x.kind x.name x.FP.length x.FQ.length x.FN.length x.FY x.FR h d g c f b)] w fun e a=>e=.returned (.tuple #[])/\aK base a p (aP x s)/\WM base p w a
theorem mD (x:T)(O:gn x)(base top p:Nat)(w:World)(s:TX)(t:Option Addr)(j:Nat)(q:Option Addr)(g:Nat)(l:Option Addr)(d:Nat)(A:Wd base top p w s)(P:s.ok ((T.nd x:Nat)+1))(I:bK w top x t j q g l d)(Q:T.expr x=true)(m:Int):
 Calls Tryz.prog 203 #[.pointer (some ⟨p,0,none⟩),.agg (af x.kind x.name x.FP.length x.FQ.length x.FN.length x.FY x.FR t j q g l d),.i m] w fun e w'=>e=.returned (.tuple #[])/\aK base w' p (cq (aP x) (dQ x) m s)/\WM base p w w':=by
 have S:∀V,Calls Tryz.prog 250 #[.agg (af x.kind x.name x.FP.length x.FQ.length x.FN.length x.FY x.FR t j q g l d)] V fun e w'=>e=.returned (.i (dQ x))/\Ext V w':=fun V=>Az V x.kind x.name x.FP.length x.FQ.length x.FN.length x.FY x.FR t j q g l d I.name;have R:=hY S;have y:=xal w x t j q g l d;have L:Hid (∀X,WM base p (w.alloc (.cells (af x.kind x.name x.FP.length x.FQ.length x.FN.length x.FY x.FR t j q g l d) 26)) X->∀i,X.cell? ⟨w.heap.size,i,none⟩=(aB x.kind x.name x.FP.length x.FQ.length x.FN.length x.FY x.FR t j q g l d)[i]?):=hY (eR w A.pl _);have q1:=L.o _ (WM.refl _ _ _);have Y:Hid (∀V u,WM base p w V->aK base V p u->u.ok (T.nd x:Nat)->Calls Tryz.prog 105 #[.pointer (some ⟨p,0,none⟩),.agg (af x.kind x.name x.FP.length x.FQ.length x.FN.length x.FY x.FR t j q g l d)] V fun e w'=>e=.returned (.tuple #[])/\aK base w' p (aP x u)/\WM base p V w'):=hY (fun V u U H ho=>O base top p V u t j q g l d (A.step H U) ho (I.keep (A.low U)) Q);have G:=hY P;have W:=hY A;have SD:=hY (fun u=>eU x u);have J:Hid ((0:Int)<=(T.nd x:Nat)):=hY (by omega);clear O I Q S P A;generalize(T.nd x:Nat)=N at*;generalize dQ x=r at*;generalize aP x=f at*;generalize x.kind=k at*;generalize x.name=n at*;generalize x.FP.length=n1 at*;generalize x.FQ.length=n2 at*;generalize x.FN.length=n3 at*;generalize x.FY=pr at*;generalize x.FR=pl at*;by_cases h:r<=m
 ·go_enter Tryz.func203,Tryz.ntmps203
  go_upto_region 1 with fail;generalize w.alloc _=W1 at*;go_wp2_with (first|(go_at_call 250;refine(R.o _).m fun w1 a=>?_;have z:=hY a.o;have q2:=L.o _ (WM.FZ a.o))|(go_at_call 105;refine(Y.o _ s (.FZ (y.o.trans z.o)) (W.o.pw.keep (y.o.trans z.o)) (G.o.mono (by omega))).m2 fun Z b c=>?_;have D:=hY (And.intro b.o ((WM.FZ (y.o.trans z.o)).trans c.o))))
  (first|refine QzE rfl rfl ?_|refine QzR rfl rfl ?_);exact ⟨rfl,by unfold cq;rw[if_pos h];exact D.o⟩
 ·go_enter Tryz.func203,Tryz.ntmps203
  go_upto_region 1 with fail;generalize w.alloc _=W1 at*
  go_wp2_with (first
   |(go_at_call 250;refine(R.o _).m fun w1 z=>?_)
   |(go_at_call 208;refine(rK _ base p s _ (W.o.pw.keep (y.o.trans z.o)) (G.o.mono (by have:=J.o;omega)) (by decide)).m2 fun Z P2 c=>?_;have K:=hY ((WM.FZ z.o).trans c.o);have q2:=L.o _ K.o)
   |(go_at_call 105;refine(Y.o _ _ ((WM.FZ y.o).trans K.o) P2.o (G.o.opn J.o _)).m2 fun w3 P3 M3=>?_)
   |(go_at_call 209;refine(je _ base p _ _ P3.o (by rw[(SD.o _).deep];have h1:=G.o.lo;have h2:=G.o.hi;have:=J.o;exact⟨show 0<=s.deep+1 by omega,show s.deep+1<=_ by omega⟩) (by decide)).m2 fun M P4 M4=>?_))
  have D:aK base M p (cq f r m s)/\WM base p w M:=⟨by unfold cq;rw[if_neg (by omega)];exact P4.o,(((WM.FZ y.o).trans K.o).trans M3.o).trans M4.o⟩
  (first|refine QzE rfl rfl ?_|refine QzR rfl rfl ?_);exact ⟨rfl,D⟩
end
theorem nH (x:T)(A:gn x)(base top p:Nat)(w:World)(s:TX)(l:Option Addr)(g:Nat)(j:Option Addr)(d:Nat)(h:Option Addr)(c:Nat)(y:Wd base top p w s)(B:s.ok ((T.nd x:Nat)+1))(F:bK w top x l g j d h c)(E:T.expr x=true)(n:BL)(C:n.length<=ao):
 Calls Tryz.prog 148 #[.pointer (some ⟨p,0,none⟩),.agg (af x.kind x.name x.FP.length x.FQ.length x.FN.length x.FY x.FR l g j d h c),.string (mkS n)] w fun e w'=>e=.returned (.tuple #[])/\aK base w' p ((cq (aP x) (dQ x) (min (cI n+1) 2) s).put [32])/\WM base p w w':=by
 have I:=xal w x l g j d h c;have z:Hid (∀H,WM base p (w.alloc (.cells (af x.kind x.name x.FP.length x.FQ.length x.FN.length x.FY x.FR l g j d h c) 26)) H->∀i,H.cell? ⟨w.heap.size,i,none⟩=(aB x.kind x.name x.FP.length x.FQ.length x.FN.length x.FY x.FR l g j d h c)[i]?):=hY (eR w y.pl _);have X:=z.o _ (WM.refl _ _ _);have Q:=hY (fun V (G:Ext w V) m=>mD x A base top p V s l g j d h c (y.ext G) B (F.keep (y.low (.FZ G))) E m);have R:=hY (fun V=>mN V n C);have P:=hY (j5 n);clear A F E B y C;generalize cq (aP x) (dQ x)=f at*;generalize cI n=r at*;generalize x.kind=k at*;generalize x.name=L at*;generalize x.FP.length=O at*;generalize x.FQ.length=N at*;generalize x.FN.length=M at*;generalize x.FY=K at*;generalize x.FR=pl at*;rcases P.o with rfl|rfl|rfl
 all_goals
  go_enter Tryz.func148,Tryz.ntmps148;go_upto_region 1 with fail;generalize w.alloc _=Y at*
  go_region_held3 (fun w'=>∀i,w'.cell? ⟨w.heap.size,i,none⟩=(aB k L O N M K pl l g j d h c)[i]?)
   (first|exact z.o _ (.FZ ((Ext.refl _).drew))|exact z.o _ (.FZ ((Ext.refl _).drew.trans a))|exact z.o _ ((WM.FZ ((Ext.refl _).drew.trans a)).trans b))
   (first|(go_at_call 204;refine(R.o _).m fun U a=>?_)|(go_at_call 203;refine(Q.o _ (I.o.trans ((Ext.refl _).drew.trans a)) _).m2 fun S q b=>?_))
  have D:=hY (And.intro q ((WM.FZ (I.o.trans ((Ext.refl _).drew.trans a))).trans b));clear q b a;go_wp2_with (go_at_call 34;refine(cS _ base p _ _ D.o.1 (by decide)).m2 fun W t u=>?_;have J:=hY (And.intro t.o (D.o.2.trans u.o)))
  (first|refine QzE rfl rfl ?_|refine QzR rfl rfl ?_);exact ⟨rfl,J.o⟩
theorem EU (W:World)(B:Nat)(i:Array Value)(h:W.heap[B]?=some (.cells i 26))(j:i.size=7)(g f e d c b a:Value):
 (((((((W.setCell ⟨B,0,none⟩ g).setCell ⟨B,1,none⟩ f).setCell ⟨B,2,none⟩ e).setCell ⟨B,3,none⟩ d).setCell ⟨B,4,none⟩ c).setCell ⟨B,5,none⟩ b).setCell ⟨B,6,none⟩ a).heap[B]?=some (.cells #[g,f,e,d,c,b,a] 26)
 /\Mod [B] W (((((((W.setCell ⟨B,0,none⟩ g).setCell ⟨B,1,none⟩ f).setCell ⟨B,2,none⟩ e).setCell ⟨B,3,none⟩ d).setCell ⟨B,4,none⟩ c).setCell ⟨B,5,none⟩ b).setCell ⟨B,6,none⟩ a):=by
 refine⟨?_,((((((ae W ⟨B,0,none⟩ g).trans (ae _ ⟨B,1,none⟩ f)).trans (ae _ ⟨B,2,none⟩ e)).trans (ae _ ⟨B,3,none⟩ d)).trans (ae _ ⟨B,4,none⟩ c)).trans (ae _ ⟨B,5,none⟩ b)).trans (ae _ ⟨B,6,none⟩ a)⟩;rw[be (be (be (be (be (be (be h g) f) e) d) c) b) a];obtain⟨l⟩:=i;rcases l with _|⟨s,_|⟨r,_|⟨q,_|⟨p,_|⟨o,_|⟨n,_|⟨m,_|⟨k,l⟩⟩⟩⟩⟩⟩⟩⟩<;>simp at j
 simp
theorem WM.fresh {base p B:Nat}{w a b:World}(h:WM base p w a)(c:Mod [B] a b)(j:w.heap.size<=B):WM base p w b:=
 ⟨c.os.trans h.os,c.tape.trans h.tape,c.output.trans h.output,aN h.size c.size,fun k i d=>by
  rw[c.block k (bA d h.size) (by simp only[aS,aT,or_false];omega)]
  exact h.low k i d,fun k o e g f=>c.keep (h.keep k o e g f) (by have:=ab e;simp only[aS,aT,or_false];omega)⟩
theorem aK.fresh {base p B:Nat}{a b:World}{s:TX}{i:Array Value}(h:aK base a p s)(f:Mod [B] a b)(d:a.heap[B]?=some (.cells i 26)):aK base b p s:=by
 obtain⟨v,n,g,c⟩:=h
 exact⟨v,n,g,c.lo,f.keep c.blk (by
  simp only[aS,aT,or_false];intro e;subst e;rw[c.blk] at d
  cases d),n8 c.row f d (by decide),c.small,c.same⟩
def vS (x:T):Prop:=(x.kind=3->∃v,x.FN=[v]/\gn v/\T.expr v=true)/\(x.kind≠3->gn x/\T.expr x=true)
theorem dH (x:T)(G:vS x)(base top p:Nat)(w:World)(s:TX)(q:Option Addr)(h:Nat)(m:Option Addr)(g:Nat)(u:Option Addr)(f:Nat)(c:Wd base top p w s)(H:s.ok (T.nd x:Nat))(I:bK w top x q h m g u f):
 Calls Tryz.prog 37 #[.pointer (some ⟨p,0,none⟩),.agg (af x.kind x.name x.FP.length x.FQ.length x.FN.length x.FY x.FR q h m g u f)] w fun e w'=>e=.returned (.tuple #[])/\aK base w' p (ce x s)/\WM base p w w':=by
 have A:=xal w x q h m g u f;have KB:Hid (∀z,WM base p (w.alloc (.cells (af x.kind x.name x.FP.length x.FQ.length x.FN.length x.FY x.FR q h m g u f) 26)) z->∀i,z.cell? ⟨w.heap.size,i,none⟩=(aB x.kind x.name x.FP.length x.FQ.length x.FN.length x.FY x.FR q h m g u f)[i]?):=hY (eR w c.pl _);have q1:=KB.o _ (WM.refl _ _ _);by_cases h3:x.kind=3
 ·obtain⟨y,B,D,C⟩:=G.1 h3
  have ST:Hid (ce x s=aP y (s.put [94,32])):=by
   obtain⟨k,n,ns,ts,l,L,pl⟩:=x;rw[ce.eq_def];dsimp only;rw[if_pos (show k=3 from h3),show l=[y] from B];exact hY rfl
  have S:=I.FN;rw[B] at S q1 KB A;obtain⟨g2,d,b1,X,Z,W,Y,U,rfl,Q,r,a⟩:=S.seven (j:=0) (x:=y) rfl;rw[np,ks] at r;have P:(T.nd y:Nat)+2<=T.nd x:=aD (by rw[B];simp);have HX:Hid (∀V,aK base V p (s.put [94,32])->WM base p w V->Calls Tryz.prog 105 #[.pointer (some ⟨p,0,none⟩),.agg (af y.kind y.name y.FP.length y.FQ.length y.FN.length y.FY y.FR b1 X Z W Y U)] V fun e w'=>e=.returned (.tuple #[])/\aK base w' p (aP y (s.put [94,32]))/\WM base p V w'):=hY (fun V R t=>D base top p V _ b1 X Z W Y U (c.step R t) ((H.mono (by omega)).put _) (a.keep (c.low t)) C);have S2:=hY (fun V (t:WM base p w V)=>r.keep (c.low t _ Q));have P0:=hY (c.pw.keep A.o);have BB:Hid (∀z,WM base p (w.alloc (.cells (af x.kind x.name x.FP.length x.FQ.length [y].length x.FY x.FR q h m g (some ⟨g2,d,none⟩) f) 26)) z->z.heap[w.heap.size]?=some (.cells (af x.kind x.name x.FP.length x.FQ.length [y].length x.FY x.FR q h m g (some ⟨g2,d,none⟩) f) 26)):=hY (fun z t=>t.keep _ _ (aq w _ _ rfl) (by have:=c.pl;omega) (by intro cs fz e;cases e));rw[show x.FN.length=[y].length by rw[B]];clear G I H c D C S r a B P;generalize x.kind=k at*;subst h3;generalize x.name=nm at*;generalize x.FP.length=n1 at*;generalize x.FQ.length=n2 at*;generalize x.FY=L at*;generalize x.FR=pl at*;rw[ST.o];generalize aP y (s.put [94,32])=s2 at*;obtain⟨ky,ny,N,K,ly,py,M⟩:=y;go_enter Tryz.func37,Tryz.ntmps37;go_upto_region 1 with fail;generalize w.alloc _=W1 at*;go_upto_region 4 with(first|(go_at_call 34;refine(cS _ base p _ _ P0.o (by decide)).m2 fun J P2 E=>?_;obtain⟨q2,q3⟩:=blk (BB.o _ E.o);obtain⟨r0,r1,r2,r3,r4,r5,r6⟩:=S2.o _ ((WM.FZ A.o).trans E.o);simp only[T.kind,T.name,T.FP,T.FQ,T.FN,T.FY,T.FR] at r0 r1 r2 r3 r4 r5 r6));obtain⟨m1,O⟩:=EU J w.heap.size _ (BB.o _ E.o) rfl (.i ky) (.string (mkS ny)) (.slice b1 N.length X) (.slice Z K.length W) (.slice Y ly.length U) (.i py) (.i M);have P3:=hY (P2.o.fresh O (BB.o _ E.o));have M3:=hY (((WM.FZ A.o).trans E.o).fresh O (gE _));obtain⟨t1,t2⟩:=blk m1;clear m1 O;generalize(((((((J.setCell _ _).setCell _ _).setCell _ _).setCell _ _).setCell _ _).setCell _ _).setCell _ _)=w3 at*;go_wp2_with (go_at_call 105;refine(HX.o _ P3.o M3.o).m2 fun w4 a b=>?_;have F:=hY (And.intro a.o (M3.o.trans b.o)))
  (first|refine QzE rfl rfl ?_|refine QzR rfl rfl ?_);exact ⟨rfl,F.o⟩
 ·obtain⟨D,C⟩:=G.2 h3
  have ST:Hid (ce x s=aP x s):=by
   obtain⟨k,n,ns,ts,l,L,pl⟩:=x;rw[ce.eq_def];dsimp only;rw[if_neg (show¬k=3 from h3)];exact hY rfl
  have HX:=hY (fun V (hV:Ext w V)=>D base top p V s q h m g u f (c.ext hV) H (I.keep (c.low (.FZ hV))) C);clear G I H c D C;generalize x.kind=k at*;generalize x.name=nm at*;generalize x.FP.length=n1 at*;generalize x.FQ.length=n2 at*;generalize x.FN.length=n3 at*;generalize x.FY=L at*;generalize x.FR=pl at*;have e3:(k==3)=false:=by simpa using h3
  clear h3;go_enter Tryz.func37,Tryz.ntmps37;go_upto_region 1 with fail;generalize w.alloc _=W1 at*;go_wp2_with (go_at_call 105;refine(HX.o _ A.o).m2 fun J a b=>?_;have F:=hY (And.intro a.o ((WM.FZ A.o).trans b.o)));rw[ST.o]
  (first|refine QzE rfl rfl ?_|refine QzR rfl rfl ?_);exact ⟨rfl,F.o⟩
theorem Cd {base p:Nat}(W:World)(c:p<W.heap.size)(a:Array Value):∀W',WM base p (W.alloc (.cells a 26)) W'->W'.heap[W.heap.size]?=some (.cells a 26):=fun W' b=>b.keep _ _ (aq W _ _ rfl) (by omega) (by intro a d e;cases e)
theorem NAt.wd {base top p c:Nat}{w w':World}{s:TX}{a:Option Addr}{l:List T}(h:NAt w top a c l)(b:Wd base top p w s)(d:WM base p w w'):NAt w' top a c l:=h.keep (b.low d)
theorem gP {s s':TX}{N:Int}(h:s.ok N)(b:0<=N)(a:Sub s s' N):s'.ok N:=h.sub a (p8 _)
theorem kM (l:List T)(N:Int)(m:∀x∈l,gn x/\T.expr x=true/\((T.nd x:Nat):Int)<=N)(h0:0<=N)(base top p:Nat)(w:World)(s:TX)(a:Option Addr)(c:Nat)(hW:Wd base top p w s)(X:s.ok (N+1))(hN:NAt w top a c l)(op b cl:ByteArray)(ho:op.size<=16)(aa:b.size<=16)(ac:cl.size<=16):
 Calls Tryz.prog 152 #[.pointer (some ⟨p,0,none⟩),.string op,.string b,.string cl,.slice a l.length c] w fun e w'=>e=.returned (.tuple #[])/\aK base w' p ((eT (bl b) l true (s.opn (bl op))).cls (bl cl))/\WM base p w w':=by
 have ah:l.length<=1048576:=hN.small;have LB:Hid (op.size<=bO/\b.size<=bO/\cl.size<=bO):=hY (by unfold bO;omega);have O:=hY (rK w base p s op hW.pw (X.mono (by omega)) LB.o.1);have SO:Hid ((s.opn (bl op)).ok N):=hY (X.opn h0 _);have HX:=hY m;have HW:=hY hW;have NN:=hY hN;have SD:=hY X;have Z:=hY h0;clear m hW hN X ho aa ac h0;generalize s.opn (bl op)=C at*;go_enter Tryz.func152,Tryz.ntmps152;go_wp2_with (go_at_call 208;refine O.o.m2 fun w1 P1 M1=>?_)
 go_loopw [17] (fun i wr=>∃(k:Nat) (S:TX),k<=l.length/\i=.i k/\aK base wr p S/\WM base p w wr/\Sub C S N/\eT (bl b) l true C=eT (bl b) (l.drop k) (k==0) S) (fun i _=>l.length-(intOf i).toNat)
 case atStart=>exact⟨0,C,by omega,rfl,P1.o,M1.o,Sub.refl _,rfl⟩
 case round=>
  obtain⟨k,S,hk,rfl,hP,Y,hS,hF⟩:=hrel;have F:=hY hF;have P:=hY hP;have M:=hY Y;have SS:=hY hS;clear hF hP Y hS P1 M1;by_cases hlt:k<l.length
  ·obtain⟨x,m⟩:∃x,l[k]?=some x:=⟨l[k],by simp⟩
   obtain⟨D,E,n⟩:=HX.o x (eQ m);have A:=HW.o.step P.o M.o;obtain⟨g,ag,z,t,y,r,u,q,rfl,hg,ad,G⟩:=(NN.o.wd HW.o M.o).seven m
   have B:Hid (eT (bl b) l true C=eT (bl b) (l.drop (k+1)) false (aP x (S.btw (k==0) (bl b)))):=by
    have:=F.o;rw[hI hlt,eT] at this;have e:l[k]=x:=by simpa [hlt] using m
    rw[e] at this;exact this
   have R:Hid (S.ok N):=hY (gP SO.o Z.o SS.o);have BB:=hY (Cd (base:=base) wr A.pl (af x.kind x.name x.FP.length x.FQ.length x.FN.length x.FY x.FR z t y r u q));have U:=xal wr x z t y r u q;have HC:Hid (∀V j,WM base p wr V->aK base V p j->j.ok N->Calls Tryz.prog 105 #[.pointer (some ⟨p,0,none⟩),.agg (af x.kind x.name x.FP.length x.FQ.length x.FN.length x.FY x.FR z t y r u q)] V fun e w'=>e=.returned (.tuple #[])/\aK base w' p (aP x j)/\WM base p V w'):=hY (fun V j L ae ho=>D base top p V j z t y r u q (A.step ae L) (ho.mono n) (G.keep (A.low L)) E);have Q:Hid (∀j,Sub j (aP x j) N):=hY (fun j=>(eU x j).mono n);have PB:=hY (P.o.keep U.o);have ii:(decide ((0:Int)<(k:Int)))=!(k==0):=by cases k<;>simp
   obtain⟨k0,k1,k2,k3,k4,k5,k6⟩:=ad;clear D E n G A m hg F;have BX:Hid (∀W',WM base p (wr.alloc (.cells (af x.kind x.name x.FP.length x.FQ.length x.FN.length x.FY x.FR z t y r u q) 26)) W'->∀i,W'.cell? ⟨wr.heap.size,i,none⟩=(aB x.kind x.name x.FP.length x.FQ.length x.FN.length x.FY x.FR z t y r u q)[i]?):=hY (fun W' Y=>by intro i;rw[(blk (BB.o W' Y)).1];simp);generalize aP x=f at*;by_cases hk0:k=0
   ·subst hk0
    simp only[np,ks] at k0 k1 k2 k3 k4 k5 k6;have q1:=BX.o _ (WM.refl _ _ _);go_upto_region 6 with fail;generalize wr.alloc _=A at*;go_wp2_with (go_at_call 105;refine(HC.o _ S (.FZ U.o) PB.o R.o).m2 fun w4 d h=>?_;have W:=hY (And.intro d.o ((M.o.ext U.o).trans h.o)));go_roundw
    case rel=>exact⟨1,_,by omega,by go_num,W.o.1,W.o.2,SS.o.trans (Q.o S),by rw[B.o];rfl⟩
    case measure=>simp[intOf];omega
   ·have ab:(k==0)=false:=by simpa using hk0
    rw[ab] at B;go_upto_region 5 with fail;generalize wr.alloc _=A at*
    go_wp2_with (first
     |(go_at_call 34;refine(cS _ base p S b PB.o LB.o.2.1).m2 fun w3 P2 M2=>?_;have q2:=BX.o _ M2.o)
     |(go_at_call 105;refine(HC.o _ _ ((WM.FZ U.o).trans M2.o) P2.o (R.o.put _)).m2 fun w4 d h=>?_;have W:=hY (And.intro d.o (((M.o.ext U.o).trans M2.o).trans h.o))))
    go_roundw
    case rel=>exact⟨k+1,_,by omega,by go_num,W.o.1,W.o.2,(SS.o.trans (Sub.put S _)).trans (Q.o _),by rw[B.o];rfl⟩
    case measure=>simp[intOf];omega
  ·have hd:l.drop k=[]:=hH (by omega)
   have B:Hid (eT (bl b) l true C=S):=by
    have:=F.o;rw[hd,eT] at this;exact this
   clear hd;have DE:Hid (0<=S.deep/\S.deep<=1000000000):=hY (by have h1:=gP SO.o Z.o SS.o;have:=Z.o;have h2:=h1.lo;have h3:=h1.hi;omega);go_wp2_with (go_at_call 209;refine(je _ base p S cl P.o DE.o LB.o.2.2).m2 fun w4 H J=>?_;have D4:=hY (And.intro H.o (M.o.trans J.o)))
   (first|refine QzE rfl rfl ?_|refine QzR rfl rfl ?_);exact ⟨rfl,by rw[B.o];exact D4.o⟩
structure Cz (N:Int)(xs:List T):Prop where
 each:∀x∈xs,gn x/\T.expr x=true/\((T.nd x:Nat):Int)<=N
 nn:0<=N
theorem Bg {ps:List BL}{xs:List T}{k:Nat}{q:BL}{x:T}(c:ps[k]?=some q)(a:xs[k]?=some x)(b:Bool)(S:TX):kwP (ps.drop k) (xs.drop k) b S=kwP (ps.drop (k+1)) (xs.drop (k+1)) false (cq (aP x) (dQ x) 2 (((S.btw b [32]).put q).put [32])):=by
 obtain⟨e,g⟩:=aC.1 c;obtain⟨d,f⟩:=aC.1 a;rw[hI e,hI d,kwP,g,f]
theorem ra {n:BL}(a:0<=bo n)(h:cI n=2):bo n=((bS n).length:Int):=by
 unfold cI at h;unfold bo at a ⊢
 split at h
 ·cases h
 ·split at h
  ·cases h
  ·rename_i h1 h2
   rw[if_neg h1,if_neg h2] at a ⊢
   split at a
   ·rename_i h3;rw[if_pos h3]
   ·omega
theorem yj {n:BL}(h:cI n=1):bo n=1:=by
 unfold cI at h;unfold bo
 split at h
 ·cases h
 ·split at h
  ·rename_i h1 h2;rw[if_neg h1,if_pos h2]
  ·cases h
theorem xj (l c:BL):∀q∈(aQ c l).1,q.length<=c.length+l.length:=by
 induction l generalizing c with
 |nil=>intro q a;simp[aQ] at a
 |cons b r ih=>
  intro q a;rw[aQ] at a
  split at a
  ·simp only[aS] at a
   rcases a with rfl|a
   ·simp
   ·have:=ih [] q a;simp at this ⊢;omega
  ·have:=ih (c++[b]) q a
   simp at this ⊢;omega
theorem tm {n q:BL}(h:q∈bS n):q.length<=n.length:=by
 have:=xj n [] q h;simpa using this
theorem A5 (n:BL)(xs:List T)(s:TX):mg n xs s=if cI n=0 then s.put n else if cI n=1 then(match xs with|[]=>s|a::_=>cq (aP a) (dQ a) 1 ((s.put n).put [32])) else kwP (bS n) xs true s:=by
 rw[mg.eq_def];cases xs<;>rfl
theorem Bi (xs:List T)(b:Bool)(s:TX):kwP [] xs b s=s:=by
 rw[kwP.eq_def]
theorem pi (xs:List T)(N:Int)(hA:Cz N xs)(n:BL)(hn:n.length<=ao)(al:(xs.length:Int)=bo n)(base top p:Nat)(w:World)(s:TX)(a:Option Addr)(c:Nat)(hW:Wd base top p w s)(hs:s.ok (N+1))(hN:NAt w top a c xs):
 Calls Tryz.prog 149 #[.pointer (some ⟨p,0,none⟩),.string (mkS n),.slice a xs.length c] w fun e w'=>e=.returned (.tuple #[])/\aK base w' p (mg n xs s)/\WM base p w w':=by
 have aj:=hn;have ar:xs.length<=1048576:=hN.small;have LN:Hid ((mkS n).size<=bO):=hY (by rw[aR];unfold ao at hn;unfold bO;omega);have R:=hY (fun V=>mN V n hn);have am:=hY (fun V (hV:Ext w V)=>nJ V n hn (hW.ext hV).vars);have HX:=hY hA.each;have Z:=hY hA.nn;have I:=hY hW;have NN:=hY hN;have SO:=hY hs;have G:=hY (A5 n xs s);have AR:Hid (cI n=2->xs.length=(bS n).length):=hY (fun h=>by have:=ra (by omega) h;omega);have A1:Hid (cI n=1->xs.length=1):=hY (fun h=>by have:=yj h;omega);have RC:=hY (j5 n);have ad:=hY (aG n);clear hA hn al hW hs hN;generalize cI n=r at*;rcases RC.o with rfl|rfl|rfl
 ·rw[if_pos rfl] at G
  go_enter Tryz.func149,Tryz.ntmps149
  go_wp2_with (first
   |(go_at_call 204;refine(R.o _).m fun w1 E=>?_)
   |(go_at_call 34;refine(cS _ base p s _ (I.o.pw.keep E.o) LN.o).m2 fun w2 b d=>?_;have u:=hY (And.intro b.o ((WM.FZ E.o).trans d.o))))
  rw[ad.o] at u
  (first|refine QzE rfl rfl ?_|refine QzR rfl rfl ?_);exact ⟨rfl,by rw[G.o];exact u.o⟩
 ·rw[if_neg (by decide),if_pos rfl] at G
  obtain⟨x,rfl⟩:∃x,xs=[x]:=p9.1 (A1.o rfl);obtain⟨z,A,H⟩:=HX.o x (by simp);obtain⟨g,ah,a1,c1,a2,c2,a3,c3,rfl,hg,y,B⟩:=NN.o.seven (j:=0) (x:=x) rfl;rw[np,ks] at y;have HC:Hid (∀V m,WM base p w V->aK base V p m->m.ok (N+1)->Calls Tryz.prog 203 #[.pointer (some ⟨p,0,none⟩),.agg (af x.kind x.name x.FP.length x.FQ.length x.FN.length x.FY x.FR a1 c1 a2 c2 a3 c3),.i 1] V fun e w'=>e=.returned (.tuple #[])/\aK base w' p (cq (aP x) (dQ x) 1 m)/\WM base p V w'):=hY (fun V m t L ho=>mD x z base top p V m a1 c1 a2 c2 a3 c3 (I.o.step L t) (ho.mono (by omega)) (B.keep (I.o.low t)) A 1);have S7:=hY (fun V (hM:WM base p w V)=>y.keep (I.o.low hM _ hg));clear z A H B y NN HX;obtain⟨ky,ny,ai,ae,ly,py,ag⟩:=x;go_enter Tryz.func149,Tryz.ntmps149
  go_wp2_with (first
   |(go_at_call 204;refine(R.o _).m fun w1 E=>?_)
   |(go_at_call 34;refine(rI _ base p s _ _ (I.o.pw.keep E.o) LN.o (by decide)).m2 fun w2 J d=>?_;have C:=hY ((WM.FZ E.o).trans d.o);rw[ad.o] at J;obtain⟨r0,r1,r2,Y,X,W,U⟩:=S7.o _ C.o;simp only[T.kind,T.name,T.FP,T.FQ,T.FN,T.FY,T.FR] at r0 r1 r2 Y X W U)
   |(go_at_call 203;refine(HC.o _ _ C.o J.o ((SO.o.put _).put _)).m2 fun w3 b d=>?_;have u:=hY (And.intro b.o (C.o.trans d.o))))
  (first|refine QzE rfl rfl ?_|refine QzR rfl rfl ?_);exact ⟨rfl,by rw[G.o];exact u.o⟩
 ·rw[if_neg (by decide),if_neg (by decide)] at G
  have ap:=AR.o rfl;go_enter Tryz.func149,Tryz.ntmps149
  go_upto_region 2 with(first
   |(go_at_call 204;refine(R.o _).m fun w1 E=>?_)
   |(go_at_call 100;refine(am.o _ E.o).mono ?_;rintro e w2 ⟨g,cg,rfl,ax,aw,hK,aa⟩;have E2:=hY (E.o.trans aa);have K:=hY hK;have GP:Hid (g≠p):=hY (by have h1:=I.o.pl;have h2:=E.o.size;omega);clear hK aa))
  have PL:Hid (∀q∈bS n,(mkS q).size<=bO):=hY (fun q O=>by rw[aR];have:=tm O;unfold ao at aj;unfold bO;omega);have av:(bS n).length<=1048576:=by omega
  have D0:=hY (And.intro (I.o.pw.keep E2.o) (WM.FZ (base:=base) (p:=p) E2.o));generalize au:bS n=D at*
  go_loopw [13] (fun i wr=>∃(k:Nat) (S:TX),k<=D.length/\i=.i k/\aK base wr p S/\WM base p w wr/\qo wr g D/\Sub s S (N+1)/\kwP D xs true s=kwP (D.drop k) (xs.drop k) (k==0) S) (fun i _=>D.length-(intOf i).toNat)
  case atStart=>exact⟨0,s,by omega,rfl,D0.o.1,D0.o.2,K.o,Sub.refl _,rfl⟩
  case round=>
   obtain⟨k,S,hk,rfl,hP,hM,hK,hS,hF⟩:=hrel;have F:=hY hF;have P:=hY hP;have M:=hY hM;have SS:=hY hS;have KK:=hY hK;clear hF hP hM hS hK D0 K E E2;by_cases hlt:k<D.length
   ·obtain⟨q,O⟩:∃q,D[k]?=some q:=⟨D[k],by simp⟩
    obtain⟨x,hx⟩:∃x,xs[k]?=some x:=⟨xs[k]'(by omega),by simp⟩;obtain⟨z,A,H⟩:=HX.o x (eQ hx);have W1:=I.o.step P.o M.o;have kc:=KK.o.cell O;obtain⟨g2,ah,a1,c1,a2,c2,a3,c3,rfl,hg,y,B⟩:=(NN.o.wd I.o M.o).seven hx;have Q:=hY (F.o.trans (Bg O hx (k==0) S));have ac:Hid (S.ok (N+1)):=hY (gP SO.o (by have:=Z.o;omega) SS.o);have HC:Hid (∀V m,WM base p wr V->aK base V p m->m.ok (N+1)->Calls Tryz.prog 203 #[.pointer (some ⟨p,0,none⟩),.agg (af x.kind x.name x.FP.length x.FQ.length x.FN.length x.FY x.FR a1 c1 a2 c2 a3 c3),.i 2] V fun e w'=>e=.returned (.tuple #[])/\aK base w' p (cq (aP x) (dQ x) 2 m)/\WM base p V w'):=hY (fun V m t L ho=>mD x z base top p V m a1 c1 a2 c2 a3 c3 (W1.step L t) (ho.mono (by omega)) (B.keep (W1.low t)) A 2);have ab:Hid (∀m,Sub m (cq (aP x) (dQ x) 2 m) (N+1)):=hY (fun m=>eO Z.o (fun s=>(eU x s).mono H) _ _ m);have S7:=hY (fun V (t:WM base p wr V)=>y.keep (W1.low t _ hg));have PQ:=hY (PL.o q (eQ O));have BQ:=hY (aG q);have aq:k<xs.length:=by omega
    clear z A H B W1 hx O hg y F;generalize cq (aP x) (dQ x) 2=f at*;obtain⟨ky,ny,ai,ae,ly,py,ag⟩:=x;by_cases hk0:k=0
    ·subst hk0
     simp only[np,ks] at S7
     go_wp2_with (first
      |(go_at_call 34;refine(rI _ base p S _ _ P.o PQ.o (by decide)).m2 fun w3 J C=>?_;rw[BQ.o] at J;obtain⟨r0,r1,r2,Y,X,W,U⟩:=S7.o _ C.o;simp only[T.kind,T.name,T.FP,T.FQ,T.FN,T.FY,T.FR] at r0 r1 r2 Y X W U)
      |(go_at_call 203;refine(HC.o _ _ C.o J.o ((ac.o.put _).put _)).m2 fun w4 b d=>?_;have u:=hY (And.intro b.o (C.o.trans d.o))))
     go_roundw
     case rel=>exact⟨1,_,by omega,by go_num,u.o.1,M.o.trans u.o.2,KK.o.keep u.o.2 GP.o,((SS.o.trans (Sub.put S _)).trans (Sub.put _ _)).trans (ab.o _),by rw[Q.o];rfl⟩
     case measure=>simp[intOf];omega
    ·have ak:(k==0)=false:=by simpa using hk0
     rw[ak] at Q
     go_wp2_with (first
      |(go_at_call 34;first
       |(with_reducible refine(cS _ base p S _ P.o (by decide)).m2 fun w3 P1 M1=>?_)
       |(with_reducible refine(rI _ base p _ _ _ P1.o PQ.o (by decide)).m2 fun w5 J d=>?_;have C:=hY (M1.o.trans d.o);rw[BQ.o] at J;obtain⟨r0,r1,r2,Y,X,W,U⟩:=S7.o _ C.o;simp only[T.kind,T.name,T.FP,T.FQ,T.FN,T.FY,T.FR] at r0 r1 r2 Y X W U))
      |(go_at_call 203;refine(HC.o _ _ C.o J.o (((ac.o.put _).put _).put _)).m2 fun w4 b d=>?_;have u:=hY (And.intro b.o (C.o.trans d.o))))
     go_roundw
     case rel=>exact⟨k+1,_,by omega,by go_num,u.o.1,M.o.trans u.o.2,KK.o.keep u.o.2 GP.o,(((SS.o.trans (Sub.put S _)).trans (Sub.put _ _)).trans (Sub.put _ _)).trans (ab.o _),by rw[Q.o];rfl⟩
     case measure=>simp[intOf];omega
   ·have hd:D.drop k=[]:=hH (by omega)
    have Q:Hid (kwP D xs true s=S):=by
     have:=F.o;rw[hd,Bi] at this;exact this
    clear hd;go_wp2_with fail
    (first|refine QzE rfl rfl ?_|refine QzR rfl rfl ?_);exact ⟨rfl,by rw[G.o,Q.o];exact⟨P.o,M.o⟩⟩
theorem fM {y:T}{N:Int}(h:((T.nd y:Nat):Int)<=N)(S:TX):Sub S (ce y S) N:=qy y (fun s=>(eU y s).mono h) (fun z a s=>(eU z s).mono (by have:=aD a;omega)) S
theorem rd {l:List BL}{k:Nat}{x:BL}(a:l[k]?=some x)(b:Bool)(S:TX):fo (l.drop k) b S=fo (l.drop (k+1)) false (((S.btw b [32]).put [58]).put x):=by
 obtain⟨c,d⟩:=aC.1 a;rw[hI c,fo,d]
 congr 1
 simp[TX.put,gz]
theorem jL {a:BL}{l:List T}{k:Nat}{x:T}(c:l[k]?=some x)(b:Bool)(S:TX):cF a (l.drop k) b S=cF a (l.drop (k+1)) false (ce x (S.put (if b then a else [46,32]))):=by
 obtain⟨d,e⟩:=aC.1 c;rw[hI d,cF,e]
theorem uq (x:T)(N:Int)(hx:∀y∈x.FN,vS y/\((T.nd y:Nat):Int)<=N)(h0:0<=N)(base top p:Nat)(w:World)(s:TX)(a1:Option Addr)(c1:Nat)(a2:Option Addr)(c2:Nat)(a3:Option Addr)(c3:Nat)(hW:Wd base top p w s)(hs:s.ok (N+1))(t:bK w top x a1 c1 a2 c2 a3 c3):
 Calls Tryz.prog 153 #[.pointer (some ⟨p,0,none⟩),.agg (af x.kind x.name x.FP.length x.FQ.length x.FN.length x.FY x.FR a1 c1 a2 c2 a3 c3)] w fun e w'=>e=.returned (.tuple #[])/\aK base w' p ((cF (dm x.FP x.FQ (s.opn [91])).2 x.FN true (dm x.FP x.FQ (s.opn [91])).1).cls [93])/\WM base p w w':=by
 have EX:=xal w x a1 c1 a2 c2 a3 c3;have KB:Hid (∀W',WM base p (w.alloc (.cells (af x.kind x.name x.FP.length x.FQ.length x.FN.length x.FY x.FR a1 c1 a2 c2 a3 c3) 26)) W'->∀i,W'.cell? ⟨w.heap.size,i,none⟩=(aB x.kind x.name x.FP.length x.FQ.length x.FN.length x.FY x.FR a1 c1 a2 c2 a3 c3)[i]?):=hY (eR w hW.pl _);have q1:=KB.o _ (WM.refl _ _ _);have O:=hY (rK (w.alloc (.cells (af x.kind x.name x.FP.length x.FQ.length x.FN.length x.FY x.FR a1 c1 a2 c2 a3 c3) 26)) base p s ⟨#[91]⟩ (hW.pw.keep EX.o) (hs.mono (by omega)) (by decide));have SO:Hid ((s.opn [91]).ok N):=hY (hs.opn h0 _);have HX:=hY hx;have HW:=hY hW;have NM:=hY t.FP;have TM:=hY t.FQ;have NN:=hY t.FN;have Z:=hY h0;have av:x.FP.length<=1048576:=t.FP.small;have au:x.FQ.length<=1048576:=t.FQ.small;have ar:x.FN.length<=1048576:=t.FN.small;have JN:Hid ((mkS (fA [32] x.FQ)).size<=bO):=hY (by rw[aR];have:=mT t.FQ.small t.FQ.each;unfold bO;omega);have HS:Hid (Sub (s.opn [91]) (dm x.FP x.FQ (s.opn [91])).1 N):=hY (mX _ _ _);clear hx hW hs t h0;rw[show bl ⟨#[91]⟩=([91]:BL) from rfl] at O;generalize s.opn [91]=m at*;generalize x.FP=n at*;generalize x.FQ=A at*;generalize x.FN=l at*;generalize x.kind=k0 at*;generalize x.name=nm at*;generalize x.FY=pr at*;generalize x.FR=pl at*;have GJ:=hY (aG (fA [32] A));generalize am:n.length=n1 at*;generalize al:A.length=n2 at*;have L1:=hY am;have L2:=hY al;clear am al;by_cases hns:n=[]
 ·obtain rfl:n1=0:=by rw[←L1.o,hns];rfl
  by_cases hts:A=[]
  ·obtain rfl:n2=0:=by rw[←L2.o,hts];rfl
   go_enter Tryz.func153,Tryz.ntmps153;go_upto_region 1 with fail;generalize w.alloc _=W1 at*;go_upto_region 13 with(first|(go_at_call 208;refine O.o.m2 fun w1 P1 M1=>?_;have q2:=KB.o _ M1.o));have PH:=P1;have z:=M1;have G1:Hid ((if n=[] then(m,([]:BL)) else((fo n true m).put [32,124],[32]))=(m,[])):=hY (if_pos hns);have G2:Hid (dm n A m=(m,[])):=hY (by unfold dm;simp only;rw[if_pos hts];exact G1.o);have q3:=KB.o _ z.o;go_upto_region 17 with fail;rw[G2.o] at HS;simp only at HS
   go_loopw [50] (fun i wr=>∃(k:Nat) (S:TX),k<=l.length/\i=.i k/\aK base wr p S/\WM base p W1 wr/\Sub m S N/\cF [] l true (dm n A m).1=cF [] (l.drop k) (k==0) S) (fun i _=>l.length-(intOf i).toNat)
   case atStart=>exact⟨0,_,by omega,rfl,PH.o,z.o,HS.o,by rw[G2.o];rfl⟩
   case round=>
    obtain⟨k,S,hk,rfl,t,L,hS,hF⟩:=hrel;have F:=hY hF;have P:=hY t;have M:=hY L;have SS:=hY hS;clear hF t L hS PH z HS q1 q2 q3;by_cases hlt:k<l.length
    ·obtain⟨y,q⟩:∃y,l[k]?=some y:=⟨l[k],by simp⟩
     obtain⟨C,r⟩:=HX.o y (eQ q);have MW:WM base p w wr:=(WM.FZ EX.o).trans M.o;have W2:=HW.o.step P.o MW;obtain⟨g2,ac,Y,U,X,R,W,Q,rfl,hg,ad,D⟩:=(NN.o.wd HW.o MW).seven q;have j:=hY (F.o.trans (jL q (k==0) S));have ab:Hid (S.ok N):=hY (gP SO.o Z.o SS.o);have d:=xal wr y Y U X R W Q;have HC:Hid (∀V g,WM base p wr V->aK base V p g->g.ok N->Calls Tryz.prog 37 #[.pointer (some ⟨p,0,none⟩),.agg (af y.kind y.name y.FP.length y.FQ.length y.FN.length y.FY y.FR Y U X R W Q)] V fun e w'=>e=.returned (.tuple #[])/\aK base w' p (ce y g)/\WM base p V w'):=hY (fun V g K ae ho=>dH y C base top p V g Y U X R W Q (W2.step ae K) (ho.mono r) (D.keep (W2.low K)));have aa:Hid (∀g,Sub g (ce y g) N):=hY (fun g=>fM r g);have PB:=hY (P.o.keep d.o);have BX:Hid (∀W',WM base p (wr.alloc (.cells (af y.kind y.name y.FP.length y.FQ.length y.FN.length y.FY y.FR Y U X R W Q) 26)) W'->∀i,W'.cell? ⟨wr.heap.size,i,none⟩=(aB y.kind y.name y.FP.length y.FQ.length y.FN.length y.FY y.FR Y U X R W Q)[i]?):=hY (eR wr W2.pl _);obtain⟨e0,e1,e2,e3,e4,e5,e6⟩:=ad;clear C r D W2 q hg F;generalize ce y=f at*;by_cases hk0:k=0
     ·subst hk0
      simp only[np,ks] at e0 e1 e2 e3 e4 e5 e6;go_upto_region 20 with fail;generalize wr.alloc _=W3 at*
      go_wp2_with (first
       |(go_at_call 34;refine(cS _ base p S _ PB.o (by decide)).m2 fun w3 u h=>?_;have q5:=BX.o _ h.o)
       |(go_at_call 37;refine(HC.o _ _ ((WM.FZ d.o).trans h.o) u.o (ab.o.put _)).m2 fun w4 b c=>?_;have D2:=hY (And.intro b.o (((M.o.ext d.o).trans h.o).trans c.o))))
      go_roundw
      case rel=>exact⟨1,_,by omega,by go_num,D2.o.1,D2.o.2,(SS.o.trans (Sub.put S _)).trans (aa.o _),by rw[j.o];rfl⟩
      case measure=>simp[intOf];omega
     ·have B:(k==0)=false:=by simpa using hk0
      rw[B] at j;have ak:((k:Int)==0)=false:=by simpa using hk0
      go_upto_region 21 with fail;generalize wr.alloc _=W3 at*
      go_wp2_with (first
       |(go_at_call 34;refine(cS _ base p S _ PB.o (by decide)).m2 fun w3 u h=>?_;have q5:=BX.o _ h.o)
       |(go_at_call 37;refine(HC.o _ _ ((WM.FZ d.o).trans h.o) u.o (ab.o.put _)).m2 fun w4 b c=>?_;have D2:=hY (And.intro b.o (((M.o.ext d.o).trans h.o).trans c.o))))
      go_roundw
      case rel=>exact⟨k+1,_,by omega,by go_num,D2.o.1,D2.o.2,(SS.o.trans (Sub.put S _)).trans (aa.o _),by rw[j.o];rfl⟩
      case measure=>simp[intOf];omega
    ·have hd:l.drop k=[]:=hH (by omega)
     have j:Hid (cF [] l true (dm n A m).1=S):=by
      have:=F.o;rw[hd,cF] at this;exact this
     clear hd;have DE:Hid (0<=S.deep/\S.deep<=1000000000):=hY (by have h1:=gP SO.o Z.o SS.o;have:=Z.o;have h2:=h1.lo;have h3:=h1.hi;omega);have GP:Hid ((dm n A m).2=[]):=hY (by rw[G2.o]);go_wp2_with (go_at_call 209;refine(je _ base p S _ P.o DE.o (by decide)).m2 fun w4 E H=>?_;have D4:=hY (And.intro E.o (((WM.FZ EX.o).trans M.o).trans H.o)))
     (first|refine QzE rfl rfl ?_|refine QzR rfl rfl ?_);exact ⟨rfl,by rw[GP.o,j.o];exact D4.o⟩
  ·have ap:0<n2:=by rw[←L2.o];exact zb.2 hts
   go_enter Tryz.func153,Tryz.ntmps153;go_upto_region 1 with fail;generalize w.alloc _=W1 at*;go_upto_region 13 with(first|(go_at_call 208;refine O.o.m2 fun w1 P1 M1=>?_;have q2:=KB.o _ M1.o));have PH:=P1;have z:=M1;have G1:Hid ((if n=[] then(m,([]:BL)) else((fo n true m).put [32,124],[32]))=(m,[])):=hY (if_pos hns);have J:=hY (fun V (L:WM base p w V)=>vj V top c2 a2 A (TM.o.keep (HW.o.low L)) (aN HW.o.top L.size));rw[L2.o] at J;have q3:=KB.o _ z.o
   go_upto_region 17 with(first
    |(go_at_call 36;refine(J.o _ ((WM.FZ EX.o).trans z.o)).m fun w6 E6=>?_)
    |(go_at_call 34;refine(El _ base p _ _ _ _ _ (PH.o.keep E6.o) (by decide) (by decide) JN.o (by decide)).m2 fun w7 ai c=>?_;have aj:=hY ((z.o.ext E6.o).trans c.o);clear PH z;have PH:=ai;have z:=aj;clear ai aj;have q4:=KB.o _ z.o))
   rw[GJ.o] at PH;have G2:Hid (dm n A m=((((m.put []).put [124,32]).put (fA [32] A)).put [32,124],[32])):=hY (by unfold dm;simp only;rw[if_neg hts,G1.o]);rw[G2.o] at HS;simp only at HS
   go_loopw [50] (fun i wr=>∃(k:Nat) (S:TX),k<=l.length/\i=.i k/\aK base wr p S/\WM base p W1 wr/\Sub m S N/\cF [32] l true (dm n A m).1=cF [32] (l.drop k) (k==0) S) (fun i _=>l.length-(intOf i).toNat)
   case atStart=>exact⟨0,_,by omega,rfl,PH.o,z.o,HS.o,by rw[G2.o];rfl⟩
   case round=>
    obtain⟨k,S,hk,rfl,t,L,hS,hF⟩:=hrel;have F:=hY hF;have P:=hY t;have M:=hY L;have SS:=hY hS;clear hF t L hS PH z HS q1 q2 q3;by_cases hlt:k<l.length
    ·obtain⟨y,q⟩:∃y,l[k]?=some y:=⟨l[k],by simp⟩
     obtain⟨C,r⟩:=HX.o y (eQ q);have MW:WM base p w wr:=(WM.FZ EX.o).trans M.o;have W2:=HW.o.step P.o MW;obtain⟨g2,ac,Y,U,X,R,W,Q,rfl,hg,ad,D⟩:=(NN.o.wd HW.o MW).seven q;have j:=hY (F.o.trans (jL q (k==0) S));have ab:Hid (S.ok N):=hY (gP SO.o Z.o SS.o);have d:=xal wr y Y U X R W Q;have HC:Hid (∀V g,WM base p wr V->aK base V p g->g.ok N->Calls Tryz.prog 37 #[.pointer (some ⟨p,0,none⟩),.agg (af y.kind y.name y.FP.length y.FQ.length y.FN.length y.FY y.FR Y U X R W Q)] V fun e w'=>e=.returned (.tuple #[])/\aK base w' p (ce y g)/\WM base p V w'):=hY (fun V g K ae ho=>dH y C base top p V g Y U X R W Q (W2.step ae K) (ho.mono r) (D.keep (W2.low K)));have aa:Hid (∀g,Sub g (ce y g) N):=hY (fun g=>fM r g);have PB:=hY (P.o.keep d.o);have BX:Hid (∀W',WM base p (wr.alloc (.cells (af y.kind y.name y.FP.length y.FQ.length y.FN.length y.FY y.FR Y U X R W Q) 26)) W'->∀i,W'.cell? ⟨wr.heap.size,i,none⟩=(aB y.kind y.name y.FP.length y.FQ.length y.FN.length y.FY y.FR Y U X R W Q)[i]?):=hY (eR wr W2.pl _);obtain⟨e0,e1,e2,e3,e4,e5,e6⟩:=ad;clear C r D W2 q hg F;generalize ce y=f at*;by_cases hk0:k=0
     ·subst hk0
      simp only[np,ks] at e0 e1 e2 e3 e4 e5 e6;go_upto_region 20 with fail;generalize wr.alloc _=W3 at*
      go_wp2_with (first
       |(go_at_call 34;refine(cS _ base p S _ PB.o (by decide)).m2 fun w3 u h=>?_;have q5:=BX.o _ h.o)
       |(go_at_call 37;refine(HC.o _ _ ((WM.FZ d.o).trans h.o) u.o (ab.o.put _)).m2 fun w4 b c=>?_;have D2:=hY (And.intro b.o (((M.o.ext d.o).trans h.o).trans c.o))))
      go_roundw
      case rel=>exact⟨1,_,by omega,by go_num,D2.o.1,D2.o.2,(SS.o.trans (Sub.put S _)).trans (aa.o _),by rw[j.o];rfl⟩
      case measure=>simp[intOf];omega
     ·have B:(k==0)=false:=by simpa using hk0
      rw[B] at j;have ak:((k:Int)==0)=false:=by simpa using hk0
      go_upto_region 21 with fail;generalize wr.alloc _=W3 at*
      go_wp2_with (first
       |(go_at_call 34;refine(cS _ base p S _ PB.o (by decide)).m2 fun w3 u h=>?_;have q5:=BX.o _ h.o)
       |(go_at_call 37;refine(HC.o _ _ ((WM.FZ d.o).trans h.o) u.o (ab.o.put _)).m2 fun w4 b c=>?_;have D2:=hY (And.intro b.o (((M.o.ext d.o).trans h.o).trans c.o))))
      go_roundw
      case rel=>exact⟨k+1,_,by omega,by go_num,D2.o.1,D2.o.2,(SS.o.trans (Sub.put S _)).trans (aa.o _),by rw[j.o];rfl⟩
      case measure=>simp[intOf];omega
    ·have hd:l.drop k=[]:=hH (by omega)
     have j:Hid (cF [32] l true (dm n A m).1=S):=by
      have:=F.o;rw[hd,cF] at this;exact this
     clear hd;have DE:Hid (0<=S.deep/\S.deep<=1000000000):=hY (by have h1:=gP SO.o Z.o SS.o;have:=Z.o;have h2:=h1.lo;have h3:=h1.hi;omega);have GP:Hid ((dm n A m).2=[32]):=hY (by rw[G2.o]);go_wp2_with (go_at_call 209;refine(je _ base p S _ P.o DE.o (by decide)).m2 fun w4 E H=>?_;have D4:=hY (And.intro E.o (((WM.FZ EX.o).trans M.o).trans H.o)))
     (first|refine QzE rfl rfl ?_|refine QzR rfl rfl ?_);exact ⟨rfl,by rw[GP.o,j.o];exact D4.o⟩
 ·have aq:0<n1:=by rw[←L1.o];exact zb.2 hns
  by_cases hts:A=[]
  ·obtain rfl:n2=0:=by rw[←L2.o,hts];rfl
   go_enter Tryz.func153,Tryz.ntmps153;go_upto_region 1 with fail;generalize w.alloc _=W1 at*;go_upto_region 5 with(first|(go_at_call 208;refine O.o.m2 fun w1 P1 M1=>?_;have q2:=KB.o _ M1.o))
   go_loopw [18] (fun i wr=>∃(k:Nat) (S:TX),k<=n1/\i=.i k/\aK base wr p S/\WM base p W1 wr/\fo n true m=fo (n.drop k) (k==0) S) (fun i _=>n1-(intOf i).toNat)
   case atStart=>exact⟨0,m,by omega,rfl,P1.o,M1.o,rfl⟩
   case round=>
    obtain⟨k,S,hk,rfl,t,L,hF⟩:=hrel;have F:=hY hF;have P:=hY t;have M:=hY L;clear hF t L P1 M1 q2;by_cases hlt:k<n1
    ·obtain⟨y,q⟩:∃y,n[k]?=some y:=⟨n[k]'(by rw[L1.o];omega),by simp⟩
     obtain⟨g2,ac,rfl,hg,hc⟩:=NM.o.cell (by intro e;rw[e] at q;simp at q);have ag:=hc k y q;have kc:wr.cell? ⟨g2,ac+k,none⟩=some (.string (mkS y)):=by rw[←ag];exact World.cell?_of_block (a:=⟨g2,ac+k,none⟩) (HW.o.low ((WM.FZ EX.o).trans M.o) _ hg)
     have j:=hY (F.o.trans (rd q (k==0) S));have YL:Hid ((mkS y).size<=bO):=hY (by rw[aR];have:=NM.o.each y (eQ q);unfold ao at this;unfold bO;omega);have BY:=hY (aG y);clear q hc ag hg F;by_cases hk0:k=0
     ·subst hk0
      simp only[ks] at kc;go_wp2_with (go_at_call 34;refine(rI _ base p S _ _ P.o (by decide) YL.o).m2 fun w3 u h=>?_;rw[BY.o] at u);go_roundw
      case rel=>exact⟨1,_,by omega,by go_num,u.o,M.o.trans h.o,by rw[j.o];rfl⟩
      case measure=>simp[intOf];omega
     ·have B:(k==0)=false:=by simpa using hk0
      rw[B] at j
      go_wp2_with (go_at_call 34;first
       |(with_reducible refine(cS _ base p S _ P.o (by decide)).m2 fun w3 P5 M5=>?_)
       |(with_reducible refine(rI _ base p _ _ _ P5.o (by decide) YL.o).m2 fun w5 u c=>?_;have h:=hY (M5.o.trans c.o);rw[BY.o] at u))
      go_roundw
      case rel=>exact⟨k+1,_,by omega,by go_num,u.o,M.o.trans h.o,by rw[j.o];rfl⟩
      case measure=>simp[intOf];omega
    ·have hd:n.drop k=[]:=hH (by rw[L1.o];omega)
     have j:Hid (fo n true m=S):=by
      have:=F.o;rw[hd,fo] at this;exact this
     clear hd;have qq:=KB.o _ M.o;go_upto_region 13 with(go_at_call 34;refine(cS _ base p S _ P.o (by decide)).m2 fun w3 PH c=>?_;have z:=hY (M.o.trans c.o);have q2:=KB.o _ z.o);have G1:Hid ((if n=[] then(m,([]:BL)) else((fo n true m).put [32,124],[32]))=(S.put [32,124],[32])):=hY (by rw[if_neg hns,j.o]);rw[show bl ⟨#[32,124]⟩=([32,124]:BL) from rfl] at PH;have G2:Hid (dm n A m=((S.put [32,124]),[32])):=hY (by unfold dm;simp only;rw[if_pos hts];exact G1.o);have q3:=KB.o _ z.o;go_upto_region 17 with fail;rw[G2.o] at HS;simp only at HS
     go_loopw [50] (fun i wr=>∃(k:Nat) (S:TX),k<=l.length/\i=.i k/\aK base wr p S/\WM base p W1 wr/\Sub m S N/\cF [32] l true (dm n A m).1=cF [32] (l.drop k) (k==0) S) (fun i _=>l.length-(intOf i).toNat)
     case atStart=>exact⟨0,_,by omega,rfl,PH.o,z.o,HS.o,by rw[G2.o];rfl⟩
     case round=>
      obtain⟨k,S,hk,rfl,t,L,hS,hF⟩:=hrel;have F:=hY hF;have P:=hY t;have M:=hY L;have SS:=hY hS;clear hF t L hS PH z HS q1 q2 q3;by_cases hlt:k<l.length
      ·obtain⟨y,q⟩:∃y,l[k]?=some y:=⟨l[k],by simp⟩
       obtain⟨C,r⟩:=HX.o y (eQ q);have MW:WM base p w wr:=(WM.FZ EX.o).trans M.o;have W2:=HW.o.step P.o MW;obtain⟨g2,ac,Y,U,X,R,W,Q,rfl,hg,ad,D⟩:=(NN.o.wd HW.o MW).seven q;have j:=hY (F.o.trans (jL q (k==0) S));have ab:Hid (S.ok N):=hY (gP SO.o Z.o SS.o);have d:=xal wr y Y U X R W Q;have HC:Hid (∀V g,WM base p wr V->aK base V p g->g.ok N->Calls Tryz.prog 37 #[.pointer (some ⟨p,0,none⟩),.agg (af y.kind y.name y.FP.length y.FQ.length y.FN.length y.FY y.FR Y U X R W Q)] V fun e w'=>e=.returned (.tuple #[])/\aK base w' p (ce y g)/\WM base p V w'):=hY (fun V g K ae ho=>dH y C base top p V g Y U X R W Q (W2.step ae K) (ho.mono r) (D.keep (W2.low K)));have aa:Hid (∀g,Sub g (ce y g) N):=hY (fun g=>fM r g);have PB:=hY (P.o.keep d.o);have BX:Hid (∀W',WM base p (wr.alloc (.cells (af y.kind y.name y.FP.length y.FQ.length y.FN.length y.FY y.FR Y U X R W Q) 26)) W'->∀i,W'.cell? ⟨wr.heap.size,i,none⟩=(aB y.kind y.name y.FP.length y.FQ.length y.FN.length y.FY y.FR Y U X R W Q)[i]?):=hY (eR wr W2.pl _);obtain⟨e0,e1,e2,e3,e4,e5,e6⟩:=ad;clear C r D W2 q hg F;generalize ce y=f at*;by_cases hk0:k=0
       ·subst hk0
        simp only[np,ks] at e0 e1 e2 e3 e4 e5 e6;go_upto_region 20 with fail;generalize wr.alloc _=W3 at*
        go_wp2_with (first
         |(go_at_call 34;refine(cS _ base p S _ PB.o (by decide)).m2 fun w3 u h=>?_;have q5:=BX.o _ h.o)
         |(go_at_call 37;refine(HC.o _ _ ((WM.FZ d.o).trans h.o) u.o (ab.o.put _)).m2 fun w4 b c=>?_;have D2:=hY (And.intro b.o (((M.o.ext d.o).trans h.o).trans c.o))))
        go_roundw
        case rel=>exact⟨1,_,by omega,by go_num,D2.o.1,D2.o.2,(SS.o.trans (Sub.put S _)).trans (aa.o _),by rw[j.o];rfl⟩
        case measure=>simp[intOf];omega
       ·have B:(k==0)=false:=by simpa using hk0
        rw[B] at j;have ak:((k:Int)==0)=false:=by simpa using hk0
        go_upto_region 21 with fail;generalize wr.alloc _=W3 at*
        go_wp2_with (first
         |(go_at_call 34;refine(cS _ base p S _ PB.o (by decide)).m2 fun w3 u h=>?_;have q5:=BX.o _ h.o)
         |(go_at_call 37;refine(HC.o _ _ ((WM.FZ d.o).trans h.o) u.o (ab.o.put _)).m2 fun w4 b c=>?_;have D2:=hY (And.intro b.o (((M.o.ext d.o).trans h.o).trans c.o))))
        go_roundw
        case rel=>exact⟨k+1,_,by omega,by go_num,D2.o.1,D2.o.2,(SS.o.trans (Sub.put S _)).trans (aa.o _),by rw[j.o];rfl⟩
        case measure=>simp[intOf];omega
      ·have hd:l.drop k=[]:=hH (by omega)
       have j:Hid (cF [32] l true (dm n A m).1=S):=by
        have:=F.o;rw[hd,cF] at this;exact this
       clear hd;have DE:Hid (0<=S.deep/\S.deep<=1000000000):=hY (by have h1:=gP SO.o Z.o SS.o;have:=Z.o;have h2:=h1.lo;have h3:=h1.hi;omega);have GP:Hid ((dm n A m).2=[32]):=hY (by rw[G2.o]);go_wp2_with (go_at_call 209;refine(je _ base p S _ P.o DE.o (by decide)).m2 fun w4 E H=>?_;have D4:=hY (And.intro E.o (((WM.FZ EX.o).trans M.o).trans H.o)))
       (first|refine QzE rfl rfl ?_|refine QzR rfl rfl ?_);exact ⟨rfl,by rw[GP.o,j.o];exact D4.o⟩
  ·have ap:0<n2:=by rw[←L2.o];exact zb.2 hts
   go_enter Tryz.func153,Tryz.ntmps153;go_upto_region 1 with fail;generalize w.alloc _=W1 at*;go_upto_region 5 with(first|(go_at_call 208;refine O.o.m2 fun w1 P1 M1=>?_;have q2:=KB.o _ M1.o))
   go_loopw [18] (fun i wr=>∃(k:Nat) (S:TX),k<=n1/\i=.i k/\aK base wr p S/\WM base p W1 wr/\fo n true m=fo (n.drop k) (k==0) S) (fun i _=>n1-(intOf i).toNat)
   case atStart=>exact⟨0,m,by omega,rfl,P1.o,M1.o,rfl⟩
   case round=>
    obtain⟨k,S,hk,rfl,t,L,hF⟩:=hrel;have F:=hY hF;have P:=hY t;have M:=hY L;clear hF t L P1 M1 q2;by_cases hlt:k<n1
    ·obtain⟨y,q⟩:∃y,n[k]?=some y:=⟨n[k]'(by rw[L1.o];omega),by simp⟩
     obtain⟨g2,ac,rfl,hg,hc⟩:=NM.o.cell (by intro e;rw[e] at q;simp at q);have ag:=hc k y q;have kc:wr.cell? ⟨g2,ac+k,none⟩=some (.string (mkS y)):=by rw[←ag];exact World.cell?_of_block (a:=⟨g2,ac+k,none⟩) (HW.o.low ((WM.FZ EX.o).trans M.o) _ hg)
     have j:=hY (F.o.trans (rd q (k==0) S));have YL:Hid ((mkS y).size<=bO):=hY (by rw[aR];have:=NM.o.each y (eQ q);unfold ao at this;unfold bO;omega);have BY:=hY (aG y);clear q hc ag hg F;by_cases hk0:k=0
     ·subst hk0
      simp only[ks] at kc;go_wp2_with (go_at_call 34;refine(rI _ base p S _ _ P.o (by decide) YL.o).m2 fun w3 u h=>?_;rw[BY.o] at u);go_roundw
      case rel=>exact⟨1,_,by omega,by go_num,u.o,M.o.trans h.o,by rw[j.o];rfl⟩
      case measure=>simp[intOf];omega
     ·have B:(k==0)=false:=by simpa using hk0
      rw[B] at j
      go_wp2_with (go_at_call 34;first
       |(with_reducible refine(cS _ base p S _ P.o (by decide)).m2 fun w3 P5 M5=>?_)
       |(with_reducible refine(rI _ base p _ _ _ P5.o (by decide) YL.o).m2 fun w5 u c=>?_;have h:=hY (M5.o.trans c.o);rw[BY.o] at u))
      go_roundw
      case rel=>exact⟨k+1,_,by omega,by go_num,u.o,M.o.trans h.o,by rw[j.o];rfl⟩
      case measure=>simp[intOf];omega
    ·have hd:n.drop k=[]:=hH (by rw[L1.o];omega)
     have j:Hid (fo n true m=S):=by
      have:=F.o;rw[hd,fo] at this;exact this
     clear hd;have qq:=KB.o _ M.o;go_upto_region 13 with(go_at_call 34;refine(cS _ base p S _ P.o (by decide)).m2 fun w3 PH c=>?_;have z:=hY (M.o.trans c.o);have q2:=KB.o _ z.o);have G1:Hid ((if n=[] then(m,([]:BL)) else((fo n true m).put [32,124],[32]))=(S.put [32,124],[32])):=hY (by rw[if_neg hns,j.o]);rw[show bl ⟨#[32,124]⟩=([32,124]:BL) from rfl] at PH;have J:=hY (fun V (L:WM base p w V)=>vj V top c2 a2 A (TM.o.keep (HW.o.low L)) (aN HW.o.top L.size));rw[L2.o] at J;have q3:=KB.o _ z.o
     go_upto_region 17 with(first
      |(go_at_call 36;refine(J.o _ ((WM.FZ EX.o).trans z.o)).m fun w6 E6=>?_)
      |(go_at_call 34;refine(El _ base p _ _ _ _ _ (PH.o.keep E6.o) (by decide) (by decide) JN.o (by decide)).m2 fun w7 ai c=>?_;have aj:=hY ((z.o.ext E6.o).trans c.o);clear PH z;have PH:=ai;have z:=aj;clear ai aj;have q4:=KB.o _ z.o))
     rw[GJ.o] at PH;have G2:Hid (dm n A m=(((((S.put [32,124]).put [32]).put [124,32]).put (fA [32] A)).put [32,124],[32])):=hY (by unfold dm;simp only;rw[if_neg hts,G1.o]);rw[G2.o] at HS;simp only at HS
     go_loopw [50] (fun i wr=>∃(k:Nat) (S:TX),k<=l.length/\i=.i k/\aK base wr p S/\WM base p W1 wr/\Sub m S N/\cF [32] l true (dm n A m).1=cF [32] (l.drop k) (k==0) S) (fun i _=>l.length-(intOf i).toNat)
     case atStart=>exact⟨0,_,by omega,rfl,PH.o,z.o,HS.o,by rw[G2.o];rfl⟩
     case round=>
      obtain⟨k,S,hk,rfl,t,L,hS,hF⟩:=hrel;have F:=hY hF;have P:=hY t;have M:=hY L;have SS:=hY hS;clear hF t L hS PH z HS q1 q2 q3;by_cases hlt:k<l.length
      ·obtain⟨y,q⟩:∃y,l[k]?=some y:=⟨l[k],by simp⟩
       obtain⟨C,r⟩:=HX.o y (eQ q);have MW:WM base p w wr:=(WM.FZ EX.o).trans M.o;have W2:=HW.o.step P.o MW;obtain⟨g2,ac,Y,U,X,R,W,Q,rfl,hg,ad,D⟩:=(NN.o.wd HW.o MW).seven q;have j:=hY (F.o.trans (jL q (k==0) S));have ab:Hid (S.ok N):=hY (gP SO.o Z.o SS.o);have d:=xal wr y Y U X R W Q;have HC:Hid (∀V g,WM base p wr V->aK base V p g->g.ok N->Calls Tryz.prog 37 #[.pointer (some ⟨p,0,none⟩),.agg (af y.kind y.name y.FP.length y.FQ.length y.FN.length y.FY y.FR Y U X R W Q)] V fun e w'=>e=.returned (.tuple #[])/\aK base w' p (ce y g)/\WM base p V w'):=hY (fun V g K ae ho=>dH y C base top p V g Y U X R W Q (W2.step ae K) (ho.mono r) (D.keep (W2.low K)));have aa:Hid (∀g,Sub g (ce y g) N):=hY (fun g=>fM r g);have PB:=hY (P.o.keep d.o);have BX:Hid (∀W',WM base p (wr.alloc (.cells (af y.kind y.name y.FP.length y.FQ.length y.FN.length y.FY y.FR Y U X R W Q) 26)) W'->∀i,W'.cell? ⟨wr.heap.size,i,none⟩=(aB y.kind y.name y.FP.length y.FQ.length y.FN.length y.FY y.FR Y U X R W Q)[i]?):=hY (eR wr W2.pl _);obtain⟨e0,e1,e2,e3,e4,e5,e6⟩:=ad;clear C r D W2 q hg F;generalize ce y=f at*;by_cases hk0:k=0
       ·subst hk0
        simp only[np,ks] at e0 e1 e2 e3 e4 e5 e6;go_upto_region 20 with fail;generalize wr.alloc _=W3 at*
        go_wp2_with (first
         |(go_at_call 34;refine(cS _ base p S _ PB.o (by decide)).m2 fun w3 u h=>?_;have q5:=BX.o _ h.o)
         |(go_at_call 37;refine(HC.o _ _ ((WM.FZ d.o).trans h.o) u.o (ab.o.put _)).m2 fun w4 b c=>?_;have D2:=hY (And.intro b.o (((M.o.ext d.o).trans h.o).trans c.o))))
        go_roundw
        case rel=>exact⟨1,_,by omega,by go_num,D2.o.1,D2.o.2,(SS.o.trans (Sub.put S _)).trans (aa.o _),by rw[j.o];rfl⟩
        case measure=>simp[intOf];omega
       ·have B:(k==0)=false:=by simpa using hk0
        rw[B] at j;have ak:((k:Int)==0)=false:=by simpa using hk0
        go_upto_region 21 with fail;generalize wr.alloc _=W3 at*
        go_wp2_with (first
         |(go_at_call 34;refine(cS _ base p S _ PB.o (by decide)).m2 fun w3 u h=>?_;have q5:=BX.o _ h.o)
         |(go_at_call 37;refine(HC.o _ _ ((WM.FZ d.o).trans h.o) u.o (ab.o.put _)).m2 fun w4 b c=>?_;have D2:=hY (And.intro b.o (((M.o.ext d.o).trans h.o).trans c.o))))
        go_roundw
        case rel=>exact⟨k+1,_,by omega,by go_num,D2.o.1,D2.o.2,(SS.o.trans (Sub.put S _)).trans (aa.o _),by rw[j.o];rfl⟩
        case measure=>simp[intOf];omega
      ·have hd:l.drop k=[]:=hH (by omega)
       have j:Hid (cF [32] l true (dm n A m).1=S):=by
        have:=F.o;rw[hd,cF] at this;exact this
       clear hd;have DE:Hid (0<=S.deep/\S.deep<=1000000000):=hY (by have h1:=gP SO.o Z.o SS.o;have:=Z.o;have h2:=h1.lo;have h3:=h1.hi;omega);have GP:Hid ((dm n A m).2=[32]):=hY (by rw[G2.o]);go_wp2_with (go_at_call 209;refine(je _ base p S _ P.o DE.o (by decide)).m2 fun w4 E H=>?_;have D4:=hY (And.intro E.o (((WM.FZ EX.o).trans M.o).trans H.o)))
       (first|refine QzE rfl rfl ?_|refine QzR rfl rfl ?_);exact ⟨rfl,by rw[GP.o,j.o];exact D4.o⟩
theorem qU {x:T}(h:T.expr x=true):x.kind=2\/x.kind=4\/x.kind=5\/x.kind=6\/x.kind=8\/x.kind=9\/x.kind=10\/x.kind=11\/x.kind=12\/x.kind=13\/x.kind=14:=by
 obtain⟨k,n,j,i,l,p,pl⟩:=x;show k=2\/k=4\/k=5\/k=6\/k=8\/k=9\/k=10\/k=11\/k=12\/k=13\/k=14
 apply Classical.byContradiction;intro a;simp only[not_or] at a;obtain⟨b,s,r,q,o,m,g,f,e,d,c⟩:=a;rw[iy,if_neg b] at h
 split at h
 ·cases h
 ·rw[if_neg (by omega)] at h
  cases h
theorem sR {l:List T}(h:T.stmts l=true)(e:∀y∈l,gn y)(c:∀y∈l,∀z∈y.FN,gn z):∀y∈l,vS y:=by
 induction l with
 |nil=>intro y a;cases a
 |cons x r ih=>
  rw[T.stmts] at h;simp only[gT] at h;intro y a;rcases aS.1 a with rfl|a
  ·have b:=h.1.1
   obtain⟨k,n,g,f,l,p,pl⟩:=y;rw[wg] at b;constructor
   ·intro d
    rw[if_pos (show k=3 from d)] at b;simp only[gT,beq_iff_eq] at b;obtain⟨v,rfl⟩:=p9.1 b.1.2;exact⟨v,rfl,c (.mk k n g f [v] p pl) (by simp) v (by simp[T.FN]),by simpa using b.2⟩
   ·intro d
    rw[if_neg (show¬k=3 from d)] at b;exact⟨e _ (by simp),b⟩
  ·exact ih h.2 (fun y a=>e y (by simp[a])) (fun y a=>c y (by simp[a])) y a
theorem zg {x:T}(h:T.litOk x=true):T.expr x=true:=by
 obtain⟨k,n,b,a,l,p,pl⟩:=x;rw[tH] at h
 split at h
 ·simp only[gT] at h;exact h.1
 ·split at h
  ·exact h
  ·cases h
theorem zN {x:T}(h:T.byt x=true):T.expr x=true:=by
 obtain⟨k,n,b,a,l,p,pl⟩:=x;rw[zO] at h;simp only[gT] at h;exact h.1.2
theorem yd {l:List T}{k:Nat}{m:T}(a:l[k]?=some m)(b:Bool)(S:TX):jh (l.drop k) b S=jh (l.drop (k+1)) false (mg m.name m.FN (S.btw b [59,32])):=by
 obtain⟨c,d⟩:=aC.1 a;obtain⟨h,n,f,e,g,p,pl⟩:=m;rw[hI c,d,jh];rfl
theorem ql (x:T)(IH:∀y,T.nd y<T.nd x->gn y):gn x:=by
 intro base top p w s a1 Z a2 X a3 A hW hs hP d;have hC:∀y∈x.FN,gn y:=fun y u=>IH y (by have:=aD u;omega);have ay:∀y∈x.FN,∀z∈y.FN,gn z:=fun y u z hz=>IH z (by have:=aD u;have:=aD hz;omega);have hZ:∀y∈x.FN,((T.nd y:Nat):Int)<=(T.nd x:Nat)-2:=fun y u=>by have:=aD u;omega
 have ax:∀y∈x.FN,∀z∈y.FN,((T.nd z:Nat):Int)<=(T.nd x:Nat)-2:=fun y u z hz=>by have:=aD u;have:=aD hz;omega
 have bz:(1:Int)<=(T.nd x:Nat):=by
  have:=bG x;omega
 have hk:=qU d
 have aw:x.FN≠[]->(0:Int)<=(T.nd x:Nat)-2:=by
  intro bk;cases hn:x.FN with
  |nil=>exact absurd hn bk
  |cons y r=>have:=hZ y (by rw[hn];simp);omega
 generalize bq:(T.nd x:Nat)=N at*;clear IH bq;obtain⟨k,n,H,G,l,K,pl⟩:=x
 replace hC:∀y∈l,gn y:=hC
 replace ay:∀y∈l,∀z∈y.FN,gn z:=ay
 replace hZ:∀y∈l,((T.nd y:Nat):Int)<=N-2:=hZ
 replace ax:∀y∈l,∀z∈y.FN,((T.nd z:Nat):Int)<=N-2:=ax
 replace aw:l≠[]->(0:Int)<=N-2:=aw
 replace hk:k=2\/k=4\/k=5\/k=6\/k=8\/k=9\/k=10\/k=11\/k=12\/k=13\/k=14:=hk
 rw[iy] at d;have C:Hid (Ext w (w.alloc (.cells (af k n H.length G.length l.length K pl a1 Z a2 X a3 A) 26))):=(Ext.refl w).alloc _;have KB:Hid (∀W',WM base p (w.alloc (.cells (af k n H.length G.length l.length K pl a1 Z a2 X a3 A) 26)) W'->∀i,W'.cell? ⟨w.heap.size,i,none⟩=(aB k n H.length G.length l.length K pl a1 Z a2 X a3 A)[i]?):=hY (eR w hW.pl _);have q1:=KB.o _ (WM.refl _ _ _);have ag:n.length<=ao:=hP.name;have LN:Hid ((mkS n).size<=bO):=hY (by rw[aR];unfold ao at ag;unfold bO;omega);have a8:l.length<=1048576:=hP.FN.small;have ah:l.length<=A:=hP.FN.cap;have be:=hP.FN.big;unfold maxLen at be;have B:=hY hW;have SO:=hY hs;have PP:=hY hP;have NN:Hid (NAt w top a3 A l):=hY hP.FN;have P0:=hY (hW.pw.keep C.o);have BN:=hY (aG n);have q:=hY (aP.eq_def (.mk k n H G l K pl) s);dsimp only at q;have CH:=hY hC;have au:=hY ay;have CZ:=hY hZ;have a4:=hY ax;have ZP:=hY aw;clear hP hW hs hC ay hZ ax aw;show Calls Tryz.prog 105 #[.pointer (some ⟨p,0,none⟩),.agg (af k n H.length G.length l.length K pl a1 Z a2 X a3 A)] w fun e w'=>e=.returned (.tuple #[])/\aK base w' p (aP (.mk k n H G l K pl) s)/\WM base p w w'
 rcases hk with rfl|rfl|rfl|rfl|rfl|rfl|rfl|rfl|rfl|rfl|rfl
 ·simp only[if_true,gT] at d
  rw[if_neg (by decide),if_neg (by decide),if_neg (by decide),if_neg (by decide),if_neg (by decide),if_neg (by decide),if_neg (by decide),if_neg (by decide),if_neg (by decide),if_pos rfl] at q;have br:=hY (sR d.2 CH.o au.o)
  have BK:Hid (∀V,Ext w V->Calls Tryz.prog 153 #[.pointer (some ⟨p,0,none⟩),.agg (af 2 n H.length G.length l.length K pl a1 Z a2 X a3 A)] V fun e w'=>e=.returned (.tuple #[])/\aK base w' p ((cF (dm H G (s.opn [91])).2 l true (dm H G (s.opn [91])).1).cls [93])/\WM base p V w'):=by
   refine hY (fun V E=>?_);by_cases hl:l=[]
   ·exact uq (.mk 2 n H G l K pl) 0 (fun y u=>by rw[show(T.mk 2 n H G l K pl).FN=l from rfl,hl] at u;cases u) (by omega) base top p V s a1 Z a2 X a3 A (B.o.ext E) (SO.o.mono (by omega)) (PP.o.keep (B.o.low (.FZ E)))
   ·exact uq (.mk 2 n H G l K pl) (N-2) (fun y u=>⟨br.o y u,CZ.o y u⟩) (ZP.o hl) base top p V s a1 Z a2 X a3 A (B.o.ext E) (SO.o.mono (by omega)) (PP.o.keep (B.o.low (.FZ E)))
  go_enter Tryz.func105,Tryz.ntmps105;go_upto_region 1 with fail;generalize w.alloc _=W1 at*;go_wp2_with (go_at_call 153;refine(BK.o _ C.o).m2 fun w9 c b=>?_;have D:=hY (And.intro c.o ((WM.FZ C.o).trans b.o)))
  (first|refine QzE rfl rfl ?_|refine QzR rfl rfl ?_);exact ⟨rfl,by rw[q.o];exact D.o⟩
 ·rw[if_neg (by decide)] at d
  split at d
  ·cases d
  ·rw[if_pos rfl] at d q
   simp only[gT,beq_iff_eq] at d;obtain⟨y,rfl⟩:=p9.1 d.1.2;have aa:T.expr y=true:=by simpa using d.2
   obtain⟨g,a,b1,f1,b2,f2,b3,f3,rfl,ai,L,t⟩:=NN.o.seven (j:=0) (x:=y) rfl;rw[np,ks] at L;have S2:=hY (fun V (U:WM base p w V)=>L.keep (B.o.low U _ ai));have Y:Hid (∀V R,WM base p w V->aK base V p R->R.ok N->Calls Tryz.prog 105 #[.pointer (some ⟨p,0,none⟩),.agg (af y.kind y.name y.FP.length y.FQ.length y.FN.length y.FY y.FR b1 f1 b2 f2 b3 f3)] V fun e w'=>e=.returned (.tuple #[])/\aK base w' p (aP y R)/\WM base p V w'):=hY (fun V R ab am ho=>CH.o y (by simp) base top p V R b1 f1 b2 f2 b3 f3 (B.o.step am ab) (ho.mono (by have:=CZ.o y (by simp);omega)) (t.keep (B.o.low ab)) aa)
   replace q:Hid (aP (.mk 4 n H G [y] K pl) s=aP y ((s.put n).put [32,58,61,32])):=hY q.o
   clear d aa L t CH au CZ a4 ZP PP NN;generalize aP y=fy at*;obtain⟨ky,ny,ae,ac,ly,py,ad⟩:=y;go_enter Tryz.func105,Tryz.ntmps105;go_upto_region 1 with fail;generalize w.alloc _=W1 at*
   go_wp2_with (first
    |(go_at_call 34;refine(rI _ base p s _ _ P0.o LN.o (by decide)).m2 fun w3 P2 J=>?_;have W:=hY ((WM.FZ C.o).trans J.o);have q2:=KB.o _ J.o;rw[BN.o] at P2;obtain⟨O,r1,r2,r3,r4,r5,r6⟩:=S2.o _ W.o;simp only[T.kind,T.name,T.FP,T.FQ,T.FN,T.FY,T.FR] at O r1 r2 r3 r4 r5 r6)
    |(go_at_call 105;refine(Y.o _ _ W.o P2.o ((SO.o.put _).put _)).m2 fun w9 c b=>?_;have D:=hY (And.intro c.o (W.o.trans b.o))))
   (first|refine QzE rfl rfl ?_|refine QzR rfl rfl ?_);exact ⟨rfl,by rw[q.o];exact D.o⟩
 ·rw[if_neg (by decide)] at d
  split at d
  ·cases d
  ·rw[if_neg (by decide),if_pos rfl] at d q
   simp only[gT,beq_iff_eq,pf,decide_eq_true_eq] at d
   obtain⟨y,r,rfl⟩:∃y r,l=y::r:=by
    cases l with
    |nil=>simp at d;omega
    |cons y r=>exact⟨y,r,rfl⟩
   have aa:T.expr y=true:=d.2 y (by simp);have ak:(r.length:Int)=bo n:=by have:=d.1.2;simp only[gi] at this;omega
   have al:=ZP.o (by simp);obtain⟨g,a,b1,f1,b2,f2,b3,f3,rfl,ai,L,t⟩:=NN.o.seven (j:=0) (x:=y) rfl;rw[np,ks] at L;have S2:=hY (fun V (U:WM base p w V)=>L.keep (B.o.low U _ ai));have bd:=fun V hV=>(NN.o.wd (w':=V) B.o hV).drop (lo:=1) (by simp only[gi];omega);have a5:A=1->r.length=0:=by intro h;simp only[gi] at ah;omega
   have RV:Hid (∀V,Ext w V->Calls Tryz.prog 148 #[.pointer (some ⟨p,0,none⟩),.agg (af y.kind y.name y.FP.length y.FQ.length y.FN.length y.FY y.FR b1 f1 b2 f2 b3 f3),.string (mkS n)] V fun e w'=>e=.returned (.tuple #[])/\aK base w' p ((cq (aP y) (dQ y) (min (cI n+1) 2) s).put [32])/\WM base p V w'):=hY (fun V E=>nH y (CH.o y (by simp)) base top p V s b1 f1 b2 f2 b3 f3 (B.o.ext E) (SO.o.mono (by have:=CZ.o y (by simp);omega)) (t.keep (B.o.low (.FZ E))) aa n ag)
   have MS:Hid (∀V R,WM base p w V->aK base V p R->R.ok N->Calls Tryz.prog 149 #[.pointer (some ⟨p,0,none⟩),.string (mkS n),.slice (if A=1 then some ⟨g,a,none⟩ else some ⟨g,a+7,none⟩) r.length (A-1)] V fun e w'=>e=.returned (.tuple #[])/\aK base w' p (mg n r R)/\WM base p V w'):=hY (fun V R ab am ho=>by
    have hd:=bd V ab;simp only[Ac,Addr.add,Fw,List.drop_succ_cons,List.drop_zero] at hd
    exact pi r (N-2) ⟨fun z hz=>⟨CH.o z (by simp[hz]),d.2 z (by simp[hz]),CZ.o z (by simp[hz])⟩,al⟩ n ag ak base top p V R _ _ (B.o.step am ab) (ho.mono (by omega)) hd)
   have a0:Hid (Sub s ((cq (aP y) (dQ y) (min (cI n+1) 2) s).put [32]) N):=hY (((eO al (fun s=>(eU y s).mono (CZ.o y (by simp))) _ _ s).trans (Sub.put _ _)).mono (by omega))
   replace q:Hid (aP (.mk 5 n H G (y::r) K pl) s=mg n r ((cq (aP y) (dQ y) (min (cI n+1) 2) s).put [32])):=hY q.o
   have LR:Hid ((y::r).length=r.length+1):=hY rfl;clear d aa L t CH au CZ a4 ZP PP NN ak bd;generalize(cq (aP y) (dQ y) (min (cI n+1) 2) s).put [32]=s2 at*;have bw:r.length<=1048576:=by simp only[gi] at a8;omega
   simp only[gi] at ah a8 KB q1 C P0;obtain⟨ky,ny,ae,ac,ly,py,ad⟩:=y;show Calls Tryz.prog 105 #[.pointer (some ⟨p,0,none⟩),.agg (af 5 n H.length G.length (r.length+1) K pl a1 Z a2 X (some ⟨g,a,none⟩) A)] w _
   generalize r.length=rl at*;obtain⟨t0,t1,t2,t3,t4,t5,t6⟩:=S2.o _ (.FZ C.o);simp only[T.kind,T.name,T.FP,T.FQ,T.FN,T.FY,T.FR] at t0 t1 t2 t3 t4 t5 t6
   have SK:Hid (∀V,WM base p (w.alloc (.cells (af 5 n H.length G.length (rl+1) K pl a1 Z a2 X (some ⟨g,a,none⟩) A) 26)) V->(∀i,V.cell? ⟨w.heap.size,i,none⟩=(aB 5 n H.length G.length (rl+1) K pl a1 Z a2 X (some ⟨g,a,none⟩) A)[i]?)/\(V.cell? ⟨g,a,none⟩=some (.i ky)/\V.cell? ⟨g,a+1,none⟩=some (.string (mkS ny))/\V.cell? ⟨g,a+2,none⟩=some (.slice b1 ae.length f1)/\V.cell? ⟨g,a+3,none⟩=some (.slice b2 ac.length f2)/\V.cell? ⟨g,a+4,none⟩=some (.slice b3 ly.length f3)/\V.cell? ⟨g,a+5,none⟩=some (.i py)/\V.cell? ⟨g,a+6,none⟩=some (.i ad))):=hY (fun V U=>⟨KB.o V U,by
    obtain⟨t0,t1,t2,t3,t4,t5,t6⟩:=S2.o _ ((WM.FZ C.o).trans U)
    exact⟨t0,t1,t2,t3,t4,t5,t6⟩⟩)
   by_cases hc1:A=1
   ·subst hc1
    rw[if_pos rfl] at MS;obtain rfl:rl=0:=by omega
    go_enter Tryz.func105,Tryz.ntmps105;go_upto_region 6 with fail;generalize w.alloc _=W1 at*
    go_region_held3 (fun V=>(∀i,V.cell? ⟨w.heap.size,i,none⟩=(aB 5 n H.length G.length (0+1) K pl a1 Z a2 X (some ⟨g,a,none⟩) 1)[i]?)/\(V.cell? ⟨g,a,none⟩=some (.i ky)/\V.cell? ⟨g,a+1,none⟩=some (.string (mkS ny))/\V.cell? ⟨g,a+2,none⟩=some (.slice b1 ae.length f1)/\V.cell? ⟨g,a+3,none⟩=some (.slice b2 ac.length f2)/\V.cell? ⟨g,a+4,none⟩=some (.slice b3 ly.length f3)/\V.cell? ⟨g,a+5,none⟩=some (.i py)/\V.cell? ⟨g,a+6,none⟩=some (.i ad)))
     (first|exact SK.o _ (.FZ ((Ext.refl _).drew))|exact SK.o _ ((WM.FZ ((Ext.refl _).drew)).trans b))
     (first|(go_at_call 148;refine(RV.o _ (C.o.trans (Ext.refl _).drew)).m2 fun w9 c b=>?_))
    have P2:=hY c;have W:=hY ((WM.FZ ((Ext.refl W1).drew)).trans b);clear c b;have q3:=KB.o _ W.o;go_upto_region 7 with fail;have aq:=hY (fun V (U:WM base p w9 V)=>KB.o V (W.o.trans U));clear SK q1 t0 t1 t2 t3 t4 t5 t6
    go_region_held3 (fun V=>(∀i,V.cell? ⟨w.heap.size,i,none⟩=(aB 5 n H.length G.length (0+1) K pl a1 Z a2 X (some ⟨g,a,none⟩) 1)[i]?))
     (first|exact aq.o _ (.FZ ((Ext.refl _).drew))|exact aq.o _ ((WM.FZ ((Ext.refl _).drew)).trans b))
     (first|(go_at_call 149;refine(MS.o _ _ (((WM.FZ C.o).trans W.o).ext ((Ext.refl _).drew)) (P2.o.keep ((Ext.refl _).drew)) (SO.o.sub a0.o (p8 _))).m2 fun w8 c b=>?_))
    have D:=hY (And.intro c ((((WM.FZ C.o).trans W.o).ext ((Ext.refl _).drew)).trans b));clear c b;go_wp2_with fail
    (first|refine QzE rfl rfl ?_|refine QzR rfl rfl ?_);exact ⟨rfl,by rw[q.o];exact D.o⟩
   ·rw[if_neg hc1] at MS;obtain⟨hl1,hl2,hl3⟩:(1:Int)<=(rl:Int)+1/\(rl:Int)+1<=(A:Int)/\(1:Int)<=(A:Int):=by omega
    go_enter Tryz.func105,Tryz.ntmps105;go_upto_region 6 with fail;generalize w.alloc _=W1 at*
    go_region_held3 (fun V=>(∀i,V.cell? ⟨w.heap.size,i,none⟩=(aB 5 n H.length G.length (rl+1) K pl a1 Z a2 X (some ⟨g,a,none⟩) A)[i]?)/\(V.cell? ⟨g,a,none⟩=some (.i ky)/\V.cell? ⟨g,a+1,none⟩=some (.string (mkS ny))/\V.cell? ⟨g,a+2,none⟩=some (.slice b1 ae.length f1)/\V.cell? ⟨g,a+3,none⟩=some (.slice b2 ac.length f2)/\V.cell? ⟨g,a+4,none⟩=some (.slice b3 ly.length f3)/\V.cell? ⟨g,a+5,none⟩=some (.i py)/\V.cell? ⟨g,a+6,none⟩=some (.i ad)))
     (first|exact SK.o _ (.FZ ((Ext.refl _).drew))|exact SK.o _ ((WM.FZ ((Ext.refl _).drew)).trans b))
     (first|(go_at_call 148;refine(RV.o _ (C.o.trans (Ext.refl _).drew)).m2 fun w9 c b=>?_))
    have P2:=hY c;have W:=hY ((WM.FZ ((Ext.refl W1).drew)).trans b);clear c b;have q3:=KB.o _ W.o;go_upto_region 7 with fail;have aq:=hY (fun V (U:WM base p w9 V)=>KB.o V (W.o.trans U));clear SK q1 t0 t1 t2 t3 t4 t5 t6
    go_region_held3 (fun V=>(∀i,V.cell? ⟨w.heap.size,i,none⟩=(aB 5 n H.length G.length (rl+1) K pl a1 Z a2 X (some ⟨g,a,none⟩) A)[i]?))
     (first|exact aq.o _ (.FZ ((Ext.refl _).drew))|exact aq.o _ ((WM.FZ ((Ext.refl _).drew)).trans b))
     (first|(go_at_call 149;refine(MS.o _ _ (((WM.FZ C.o).trans W.o).ext ((Ext.refl _).drew)) (P2.o.keep ((Ext.refl _).drew)) (SO.o.sub a0.o (p8 _))).m2 fun w8 c b=>?_))
    have D:=hY (And.intro c ((((WM.FZ C.o).trans W.o).ext ((Ext.refl _).drew)).trans b));clear c b;go_wp2_with fail
    (first|refine QzE rfl rfl ?_|refine QzR rfl rfl ?_);exact ⟨rfl,by rw[q.o];exact D.o⟩
 ·rw[if_neg (by decide)] at d
  split at d
  ·cases d
  ·rw[if_neg (by decide),if_neg (by decide),if_pos rfl] at d q
   simp only[gT,decide_eq_true_eq] at d
   obtain⟨y,I,O,rfl⟩:∃y I O,l=y::I::O:=by
    rcases l with _|⟨y,_|⟨I,O⟩⟩
    ·simp at d
    ·simp at d
    ·exact⟨y,I,O,rfl⟩
   rw[si] at d;simp only[gT,pf] at d;have aa:T.expr y=true:=d.2.1;have bb:=d.2.2;have al:=ZP.o (by simp);obtain⟨g,a,b1,f1,b2,f2,b3,f3,rfl,ai,L,t⟩:=NN.o.seven (j:=0) (x:=y) rfl;rw[np,ks] at L;obtain⟨b0,bj,cd,b6,cc,b5,cb,b4,aj,_,bf,bg⟩:=NN.o.seven (j:=1) (x:=I) rfl;simp only[dO,Addr.mk.injEq,and_true] at aj;obtain⟨rfl,rfl⟩:=aj;have bm:I.name.length<=ao:=bg.name;have S2:=hY (fun V (U:WM base p w V)=>L.keep (B.o.low U _ ai));have SM:=hY (fun V (U:WM base p w V)=>(bf.keep (B.o.low U _ ai)).k1);rw[Fw] at SM;have a5:A≠1:=by intro h;simp only[gi] at ah;omega
   have NR:Hid (∀V,WM base p w V->NAt V top (some ⟨g,a+7,none⟩) (A-1) (I::O)):=hY (fun V hV=>by
    have hd:=(NN.o.wd (w':=V) B.o hV).drop (lo:=1) (by simp only[gi];omega);rw[if_neg a5] at hd;simp only[Ac,Addr.add,Fw,List.drop_succ_cons,List.drop_zero] at hd
    exact hd)
   have RV:Hid (∀V,Ext w V->Calls Tryz.prog 148 #[.pointer (some ⟨p,0,none⟩),.agg (af y.kind y.name y.FP.length y.FQ.length y.FN.length y.FY y.FR b1 f1 b2 f2 b3 f3),.string (mkS I.name)] V fun e w'=>e=.returned (.tuple #[])/\aK base w' p ((cq (aP y) (dQ y) (min (cI I.name+1) 2) s).put [32])/\WM base p V w'):=hY (fun V E=>nH y (CH.o y (by simp)) base top p V s b1 f1 b2 f2 b3 f3 (B.o.ext E) (SO.o.mono (by have:=CZ.o y (by simp);omega)) (t.keep (B.o.low (.FZ E))) aa I.name bm);have a0:Hid (Sub s ((cq (aP y) (dQ y) (min (cI I.name+1) 2) s).put [32]) (N-1)):=hY (((eO al (fun s=>(eU y s).mono (CZ.o y (by simp))) _ _ s).trans (Sub.put _ _)).mono (by omega))
   replace q:Hid (aP (.mk 6 n H G (y::I::O) K pl) s=jh (I::O) true ((cq (aP y) (dQ y) (min (cI I.name+1) 2) s).put [32])):=hY q.o
   have MA:Hid (∀m∈I::O,Cz (N-2) m.FN/\(m.FN.length:Int)=bo m.name):=hY (fun m hm=>by
    have av:=bb m hm;have hc:=au.o m (sb _ hm);have hz:=a4.o m (sb _ hm);obtain⟨mk,mn,bv,bt,ml,mp,bu⟩:=m;rw[uV] at av;simp only[gT,beq_iff_eq,pf] at av
    exact⟨⟨fun z a7=>⟨hc z a7,av.2 z a7,hz z a7⟩,al⟩,av.1.2⟩)
   have LR:Hid ((y::I::O).length=(I::O).length+1):=hY rfl;clear d aa L t CH au CZ a4 ZP PP NN bb bf bg;generalize(cq (aP y) (dQ y) (min (cI I.name+1) 2) s).put [32]=s2 at*;generalize I.name=ba at*;simp only[gi] at ah a8 KB q1 C P0;obtain⟨ky,ny,ae,ac,ly,py,ad⟩:=y;show Calls Tryz.prog 105 #[.pointer (some ⟨p,0,none⟩),.agg (af 6 n H.length G.length (O.length+1+1) K pl a1 Z a2 X (some ⟨g,a,none⟩) A)] w _
   obtain⟨t0,t1,t2,t3,t4,t5,t6⟩:=S2.o _ (.FZ C.o);simp only[T.kind,T.name,T.FP,T.FQ,T.FN,T.FY,T.FR] at t0 t1 t2 t3 t4 t5 t6;have t7:=SM.o _ (.FZ C.o);have RL:Hid ((I::O).length=O.length+1):=hY rfl;generalize bc:O.length=rl at*;have ce:=hY bc;clear bc
   have SK:Hid (∀V,WM base p (w.alloc (.cells (af 6 n H.length G.length (rl+1+1) K pl a1 Z a2 X (some ⟨g,a,none⟩) A) 26)) V->(∀i,V.cell? ⟨w.heap.size,i,none⟩=(aB 6 n H.length G.length (rl+1+1) K pl a1 Z a2 X (some ⟨g,a,none⟩) A)[i]?)/\(V.cell? ⟨g,a,none⟩=some (.i ky)/\V.cell? ⟨g,a+1,none⟩=some (.string (mkS ny))/\V.cell? ⟨g,a+2,none⟩=some (.slice b1 ae.length f1)/\V.cell? ⟨g,a+3,none⟩=some (.slice b2 ac.length f2)/\V.cell? ⟨g,a+4,none⟩=some (.slice b3 ly.length f3)/\V.cell? ⟨g,a+5,none⟩=some (.i py)/\V.cell? ⟨g,a+6,none⟩=some (.i ad))/\V.cell? ⟨g,a+7+1,none⟩=some (.string (mkS ba))):=hY (fun V U=>⟨KB.o V U,by
    obtain⟨t0,t1,t2,t3,t4,t5,t6⟩:=S2.o _ ((WM.FZ C.o).trans U)
    exact⟨t0,t1,t2,t3,t4,t5,t6⟩,SM.o _ ((WM.FZ C.o).trans U)⟩)
   have ca:(0:Int)<(rl:Int)+1+1:=by omega
   have b9:(1:Int)<(rl:Int)+1+1:=by omega
   have b8:(0:Int)<((rl+1+1:Nat):Int):=by omega
   have b7:(1:Int)<((rl+1+1:Nat):Int):=by omega
   go_enter Tryz.func105,Tryz.ntmps105;go_upto_region 9 with fail;generalize w.alloc _=W1 at*
   go_region_held3 (fun V=>(∀i,V.cell? ⟨w.heap.size,i,none⟩=(aB 6 n H.length G.length (rl+1+1) K pl a1 Z a2 X (some ⟨g,a,none⟩) A)[i]?)/\(V.cell? ⟨g,a,none⟩=some (.i ky)/\V.cell? ⟨g,a+1,none⟩=some (.string (mkS ny))/\V.cell? ⟨g,a+2,none⟩=some (.slice b1 ae.length f1)/\V.cell? ⟨g,a+3,none⟩=some (.slice b2 ac.length f2)/\V.cell? ⟨g,a+4,none⟩=some (.slice b3 ly.length f3)/\V.cell? ⟨g,a+5,none⟩=some (.i py)/\V.cell? ⟨g,a+6,none⟩=some (.i ad))/\V.cell? ⟨g,a+7+1,none⟩=some (.string (mkS ba)))
    (first|exact SK.o _ (.FZ ((Ext.refl _).drew))|exact SK.o _ ((WM.FZ ((Ext.refl _).drew)).trans b))
    (first|(go_at_call 148;refine(RV.o _ (C.o.trans (Ext.refl _).drew)).m2 fun w9 c b=>?_))
   have P2:=hY c;have W:=hY ((WM.FZ ((Ext.refl W1).drew)).trans b);clear c b;have q3:=KB.o _ W.o;go_upto_region 11 with fail;have bi:=hY ((WM.FZ C.o).trans W.o);clear t0 t1 t2 t3 t4 t5 t6 t7 SK q1 q3
   go_loopw [55] (fun i wr=>∃(k:Nat) (S:TX),k<=rl+1/\i=.i k/\aK base wr p S/\WM base p w wr/\Sub s S (N-1)/\jh (I::O) true s2=jh ((I::O).drop k) (k==0) S) (fun i _=>rl+1-(intOf i).toNat)
   case atStart=>exact⟨0,s2,by omega,rfl,P2.o,bi.o,a0.o,rfl⟩
   case round=>
    obtain⟨k,S,hk,rfl,hP,U,hS,hF⟩:=hrel;have F:=hY hF;have P:=hY hP;have M:=hY U;have SS:=hY hS;clear hF hP U hS P2 W bi;by_cases hlt:k<rl+1
    ·obtain⟨m,hm⟩:∃m,(I::O)[k]?=some m:=⟨(I::O)[k]'(by rw[RL.o];exact hlt),by simp⟩
     obtain⟨az,ak⟩:=MA.o m (eQ hm);have W2:=B.o.step P.o M.o;obtain⟨g3,bs,e1,d1,e2,d2,e3,d3,aj,bx,bp,a9⟩:=(NR.o wr M.o).seven hm;simp only[dO,Addr.mk.injEq,and_true] at aj;obtain⟨rfl,rfl⟩:=aj;have F2:=hY (F.o.trans (yd hm (k==0) S));have bh:Hid (S.ok N):=hY (SO.o.sub SS.o (by omega));have ar:=xal wr m e1 d1 e2 d2 e3 d3;have HC:Hid (∀V R,WM base p wr V->aK base V p R->R.ok N->Calls Tryz.prog 149 #[.pointer (some ⟨p,0,none⟩),.string (mkS m.name),.slice e3 m.FN.length d3] V fun e w'=>e=.returned (.tuple #[])/\aK base w' p (mg m.name m.FN R)/\WM base p V w'):=hY (fun V R ab am ho=>pi m.FN (N-2) az m.name a9.name ak base top p V R e3 d3 (W2.step am ab) (ho.mono (by omega)) (a9.FN.wd W2 ab));have a6:Hid (∀R,Sub R (mg m.name m.FN R) (N-1)):=hY (fun R=>(o8 az.nn m.name m.FN (fun z hz s=>(eU z s).mono (az.each z hz).2.2) R).mono (by omega));have PB:=hY (P.o.keep ar.o);have BX:Hid (∀W',WM base p (wr.alloc (.cells (af m.kind m.name m.FP.length m.FQ.length m.FN.length m.FY m.FR e1 d1 e2 d2 e3 d3) 26)) W'->∀i,W'.cell? ⟨wr.heap.size,i,none⟩=(aB m.kind m.name m.FP.length m.FQ.length m.FN.length m.FY m.FR e1 d1 e2 d2 e3 d3)[i]?):=hY (eR wr W2.pl _);obtain⟨u0,u1,u2,u3,u4,u5,u6⟩:=bp;clear az ak a9 W2 hm F;generalize mg m.name m.FN=f at*;by_cases hk0:k=0
     ·subst hk0
      simp only[np,ks] at u0 u1 u2 u3 u4 u5 u6;have q5:=BX.o _ (WM.refl _ _ _);go_upto_region 15 with fail;generalize wr.alloc _=W3 at*
      go_wp2_with (first
       |(go_at_call 149;refine(HC.o _ S (.FZ ar.o) PB.o bh.o).m2 fun w4 t J=>?_;have D2:=hY (And.intro t.o ((M.o.ext ar.o).trans J.o))))
      go_roundw
      case rel=>exact⟨1,_,by omega,by go_num,D2.o.1,D2.o.2,SS.o.trans (a6.o _),by rw[F2.o];rfl⟩
      case measure=>simp[intOf]
     ·have bn:(k==0)=false:=by simpa using hk0
      rw[bn] at F2;go_upto_region 14 with fail;generalize wr.alloc _=W3 at*
      go_wp2_with (first
       |(go_at_call 34;refine(cS _ base p S _ PB.o (by decide)).m2 fun w3 P2 W=>?_;have q5:=BX.o _ W.o)
       |(go_at_call 149;refine(HC.o _ _ ((WM.FZ ar.o).trans W.o) P2.o (bh.o.put _)).m2 fun w4 t J=>?_;have D2:=hY (And.intro t.o (((M.o.ext ar.o).trans W.o).trans J.o))))
      go_roundw
      case rel=>exact⟨k+1,_,by omega,by go_num,D2.o.1,D2.o.2,(SS.o.trans (Sub.put S _)).trans (a6.o _),by rw[F2.o];rfl⟩
      case measure=>simp[intOf];omega
    ·have hd:(I::O).drop k=[]:=hH (by rw[RL.o];omega)
     have F2:Hid (jh (I::O) true s2=S):=by
      have:=F.o;rw[hd,jh] at this;exact this
     clear hd;go_wp2_with fail;have D:=hY (And.intro P.o M.o);rw[←F2.o] at D
     (first|refine QzE rfl rfl ?_|refine QzR rfl rfl ?_);exact ⟨rfl,by rw[q.o];exact D.o⟩
 ·rw[if_neg (by decide),if_neg (by decide),if_neg (by decide),if_pos (by decide)] at q
  go_enter Tryz.func105,Tryz.ntmps105;go_upto_region 1 with fail;generalize w.alloc _=W1 at*
  go_wp2_with (first
   |(go_at_call 34;refine(cS _ base p s _ P0.o LN.o).m2 fun w9 c b=>?_;have D:=hY (And.intro c.o ((WM.FZ C.o).trans b.o));rw[BN.o] at D))
  (first|refine QzE rfl rfl ?_|refine QzR rfl rfl ?_);exact ⟨rfl,by rw[q.o];exact D.o⟩
 ·rw[if_neg (by decide),if_neg (by decide),if_neg (by decide),if_pos (by decide)] at q
  go_enter Tryz.func105,Tryz.ntmps105;go_upto_region 1 with fail;generalize w.alloc _=W1 at*
  go_wp2_with (first
   |(go_at_call 34;refine(cS _ base p s _ P0.o LN.o).m2 fun w9 c b=>?_;have D:=hY (And.intro c.o ((WM.FZ C.o).trans b.o));rw[BN.o] at D))
  (first|refine QzE rfl rfl ?_|refine QzR rfl rfl ?_);exact ⟨rfl,by rw[q.o];exact D.o⟩
 ·rw[if_neg (by decide),if_neg (by decide),if_neg (by decide),if_neg (by decide),if_pos rfl] at q
  have Q:=hY (fun V E=>tg V n ag (B.o.ext E).vars);have QL:Hid ((mkS (j6 n)).size<=bO):=hY (by rw[aR];have:=mO n;unfold j6;unfold ao at ag;unfold bO;simp only[bY,gi,hG];omega);have BQ:=hY (aG (j6 n));go_enter Tryz.func105,Tryz.ntmps105;go_upto_region 1 with fail;generalize w.alloc _=W1 at*
  go_wp2_with (first
   |(go_at_call 150;refine(Q.o _ C.o).m fun w3 E3=>?_)
   |(go_at_call 34;refine(cS _ base p s _ (P0.o.keep E3.o) QL.o).m2 fun w9 c b=>?_;have D:=hY (And.intro c.o ((WM.FZ (C.o.trans E3.o)).trans b.o));rw[BQ.o] at D))
  (first|refine QzE rfl rfl ?_|refine QzR rfl rfl ?_);exact ⟨rfl,by rw[q.o];exact D.o⟩
 ·rw[if_neg (by decide),if_neg (by decide),if_neg (by decide),if_neg (by decide),if_neg (by decide),if_pos rfl] at q
  have Q:=hY (fun V E=>wS V n ag (B.o.ext E).vars);have QL:Hid ((mkS (wT n)).size<=bO):=hY (by rw[aR];have:=mO n;unfold wT;unfold ao at ag;unfold bO;split;omega;unfold j6;simp only[bY,gi,hG];omega);have BQ:=hY (aG (wT n));go_enter Tryz.func105,Tryz.ntmps105;go_upto_region 1 with fail;generalize w.alloc _=W1 at*
  go_wp2_with (first
   |(go_at_call 151;refine(Q.o _ C.o).m fun w3 E3=>?_)
   |(go_at_call 34;refine(rI _ base p s _ _ (P0.o.keep E3.o) (by decide) QL.o).m2 fun w9 c b=>?_;have D:=hY (And.intro c.o ((WM.FZ (C.o.trans E3.o)).trans b.o));rw[BQ.o] at D))
  (first|refine QzE rfl rfl ?_|refine QzR rfl rfl ?_);exact ⟨rfl,by rw[q.o];exact D.o⟩
 ·rw[if_neg (by decide)] at d
  split at d
  ·cases d
  ·rw[if_neg (by decide),if_neg (by decide),if_neg (by decide),if_neg (by decide),if_neg (by decide),if_neg (by decide),if_pos rfl] at q
   rw[if_neg (by decide),if_neg (by decide),if_neg (by decide),if_neg (by decide),if_neg (by decide),if_neg (by decide),if_pos rfl] at d;simp only[gT,pf] at d;have HE:Hid (∀y∈l,T.expr y=true):=hY (fun y u=>by have h:=d.2 y u;exact zg h)
   have LL:Hid (∀V,Ext w V->Calls Tryz.prog 152 #[.pointer (some ⟨p,0,none⟩),.string ⟨#[35,40]⟩,.string ⟨#[32]⟩,.string ⟨#[41]⟩,.slice a3 l.length A] V fun e w'=>e=.returned (.tuple #[])/\aK base w' p ((eT (bl ⟨#[32]⟩) l true (s.opn (bl ⟨#[35,40]⟩))).cls (bl ⟨#[41]⟩))/\WM base p V w'):=by
    refine hY (fun V E=>?_);by_cases hl:l=[]
    ·exact kM l 0 (fun y u=>by rw[hl] at u;cases u) (by omega) base top p V s a3 A (B.o.ext E) (SO.o.mono (by omega)) (NN.o.wd B.o (.FZ E)) _ _ _ (by decide) (by decide) (by decide)
    ·exact kM l (N-2) (fun y u=>⟨CH.o y u,HE.o y u,CZ.o y u⟩) (ZP.o hl) base top p V s a3 A (B.o.ext E) (SO.o.mono (by omega)) (NN.o.wd B.o (.FZ E)) _ _ _ (by decide) (by decide) (by decide)
   clear d;go_enter Tryz.func105,Tryz.ntmps105;go_upto_region 1 with fail;generalize w.alloc _=W1 at*;go_wp2_with (go_at_call 152;refine(LL.o _ C.o).m2 fun w9 c b=>?_;have D:=hY (And.intro c.o ((WM.FZ C.o).trans b.o)))
   (first|refine QzE rfl rfl ?_|refine QzR rfl rfl ?_);exact ⟨rfl,by rw[q.o];exact D.o⟩
 ·rw[if_neg (by decide)] at d
  split at d
  ·cases d
  ·rw[if_neg (by decide),if_neg (by decide),if_neg (by decide),if_neg (by decide),if_neg (by decide),if_neg (by decide),if_neg (by decide),if_pos rfl] at q
   rw[if_neg (by decide),if_neg (by decide),if_neg (by decide),if_neg (by decide),if_neg (by decide),if_neg (by decide),if_neg (by decide),if_pos rfl] at d;simp only[gT,pf] at d;have HE:Hid (∀y∈l,T.expr y=true):=hY (fun y u=>by have h:=d.2 y u;exact zN h)
   have LL:Hid (∀V,Ext w V->Calls Tryz.prog 152 #[.pointer (some ⟨p,0,none⟩),.string ⟨#[35,91]⟩,.string ⟨#[32]⟩,.string ⟨#[93]⟩,.slice a3 l.length A] V fun e w'=>e=.returned (.tuple #[])/\aK base w' p ((eT (bl ⟨#[32]⟩) l true (s.opn (bl ⟨#[35,91]⟩))).cls (bl ⟨#[93]⟩))/\WM base p V w'):=by
    refine hY (fun V E=>?_);by_cases hl:l=[]
    ·exact kM l 0 (fun y u=>by rw[hl] at u;cases u) (by omega) base top p V s a3 A (B.o.ext E) (SO.o.mono (by omega)) (NN.o.wd B.o (.FZ E)) _ _ _ (by decide) (by decide) (by decide)
    ·exact kM l (N-2) (fun y u=>⟨CH.o y u,HE.o y u,CZ.o y u⟩) (ZP.o hl) base top p V s a3 A (B.o.ext E) (SO.o.mono (by omega)) (NN.o.wd B.o (.FZ E)) _ _ _ (by decide) (by decide) (by decide)
   clear d;go_enter Tryz.func105,Tryz.ntmps105;go_upto_region 1 with fail;generalize w.alloc _=W1 at*;go_wp2_with (go_at_call 152;refine(LL.o _ C.o).m2 fun w9 c b=>?_;have D:=hY (And.intro c.o ((WM.FZ C.o).trans b.o)))
   (first|refine QzE rfl rfl ?_|refine QzR rfl rfl ?_);exact ⟨rfl,by rw[q.o];exact D.o⟩
 ·rw[if_neg (by decide)] at d
  split at d
  ·cases d
  ·rw[if_neg (by decide),if_neg (by decide),if_neg (by decide),if_neg (by decide),if_neg (by decide),if_neg (by decide),if_neg (by decide),if_neg (by decide),if_pos rfl] at q
   rw[if_neg (by decide),if_neg (by decide),if_neg (by decide),if_neg (by decide),if_neg (by decide),if_neg (by decide),if_neg (by decide),if_neg (by decide),if_pos rfl] at d;simp only[gT,pf] at d;have HE:Hid (∀y∈l,T.expr y=true):=hY (fun y u=>by have h:=d.2 y u;exact h)
   have LL:Hid (∀V,Ext w V->Calls Tryz.prog 152 #[.pointer (some ⟨p,0,none⟩),.string ⟨#[123]⟩,.string ⟨#[46,32]⟩,.string ⟨#[125]⟩,.slice a3 l.length A] V fun e w'=>e=.returned (.tuple #[])/\aK base w' p ((eT (bl ⟨#[46,32]⟩) l true (s.opn (bl ⟨#[123]⟩))).cls (bl ⟨#[125]⟩))/\WM base p V w'):=by
    refine hY (fun V E=>?_);by_cases hl:l=[]
    ·exact kM l 0 (fun y u=>by rw[hl] at u;cases u) (by omega) base top p V s a3 A (B.o.ext E) (SO.o.mono (by omega)) (NN.o.wd B.o (.FZ E)) _ _ _ (by decide) (by decide) (by decide)
    ·exact kM l (N-2) (fun y u=>⟨CH.o y u,HE.o y u,CZ.o y u⟩) (ZP.o hl) base top p V s a3 A (B.o.ext E) (SO.o.mono (by omega)) (NN.o.wd B.o (.FZ E)) _ _ _ (by decide) (by decide) (by decide)
   clear d;go_enter Tryz.func105,Tryz.ntmps105;go_upto_region 1 with fail;generalize w.alloc _=W1 at*;go_wp2_with (go_at_call 152;refine(LL.o _ C.o).m2 fun w9 c b=>?_;have D:=hY (And.intro c.o ((WM.FZ C.o).trans b.o)))
   (first|refine QzE rfl rfl ?_|refine QzR rfl rfl ?_);exact ⟨rfl,by rw[q.o];exact D.o⟩
end Go.Proofs.Eff
