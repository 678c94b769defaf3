import Derived.Test.YtcimpmhmdnoeiaaGreatDoorQ09
import Derived.Test.YtcimpmhmdnoeiaaGreatDoorQ10
set_option maxRecDepth 100000
set_option maxHeartbeats 8000000
set_option linter.all false
namespace Go.Proofs.Eff
open Go.RowKit
theorem zJ:(Tryz.prog.info? 109).map (fun i=>(i.zero,i.size,i.bytes))=some (some (.agg #[.i 0,.string ⟨#[]⟩,.i 0]),3,32):=by kernel_rfl
structure LX (base pl:Nat)(w:World)(s:ByteArray)(at0:Int)(n:Nat)(xs:List Value):Prop where
 blk:∃tk,w.heap[pl]?=some (.cells (xv s at0 tk) 222)/\w.ownsRow base 109 3 tk n xs
 lo:base<=w.heap.size
def gy (base pl:Nat)(w w':World):Prop:=∃S:List Nat,(∀x∈S,x=pl\/base<=x)/\Mod S w w'
theorem rH (base pl:Nat)(w:World)(s:ByteArray)(a:Int)(n:Nat)(xs:List Value)(h:LX base pl w s a n xs)(hn:n<=100000)(kind t:Int)(d:ByteArray):
 Calls Tryz.prog 213 #[.pointer (some ⟨pl,0,none⟩),.i kind,.string d,.i t] w fun e w'=>e=.returned (.tuple #[])/\LX base pl w' s t (n+1) (xs++[.i kind,.string d,.i a])/\gy base pl w w':=by
 obtain⟨⟨tk,hb,b⟩,m⟩:=h;obtain⟨P,O,rfl,-⟩:=aJ b;have D:Ext w (w.drew.alloc (.cells #[.i kind,.string d,.i a] 109)):=((Ext.refl w).drew).alloc _;obtain⟨t1,t2⟩:=blk hb;obtain⟨Z,Y⟩:=blk (aM hb (.cells #[.i kind,.string d,.i a] 109));have M:=hY D;have f:=hY (ak b D);have E:=hY (D.keep hb);have U:=hY m;have A:Hid (∀(j:Nat) (u:Value),([.i kind,.string d,.i a]:List Value)[j]?=some u->(w.drew.alloc (.cells #[.i kind,.string d,.i a] 109)).cell? ((⟨w.heap.size,0,none⟩:Addr).add j)=some u):=hY (World.news_of_block (aq w.drew (.cells #[.i kind,.string d,.i a] 109) w.heap.size rfl));have y:Hid (∀u∈([.i kind,.string d,.i a]:List Value),u.oneCell'=true):=hY (by intro u N;simp only[aS,aT,or_false] at N;rcases N with rfl|rfl|rfl<;>rfl);have z:Hid ((n+1)*32<=140737488355328/\n+1<=maxLen):=hY ⟨by omega,by unfold maxLen;omega⟩;obtain⟨i0,hi,I,H,G⟩:=info_parts zJ;clear hb b D m hn;go_enter Tryz.func213,Tryz.ntmps213;go_upto_region 0 with fail
 go_region_law (first
  |((refine step_append_lies _ rfl _ _ _ rfl base 109 i0 _ 3 32 Tryz.underlying113 hi I H G rfl (by decide) (.slice P n O) n xs ?hs f.o ⟨w.heap.size,0,none⟩ 1 1 [.i kind,.string d,.i a] ?hx rfl ?hnews ?h1 (by decide) z.o.2 z.o.1 ?hb _ rfl ?_;(case hs=>simp[Act.eval,Act.put]);(case hx=>simp[Act.eval,Act.put]);(case hnews=>exact A.o);(case h1=>exact y.o);(case hb=>exact aN U.o M.o.size);intro g q C k c r J;have S:=hY k;have F:=hY c;have AT:=hY r;clear k c r J;obtain⟨X,W⟩:=blk ((ag F.o).keep E.o (dx E.o f.o (by decide)))))
  |fail)
 all_goals
  have R:=hY ((ag F.o).keep E.o (dx E.o f.o (by decide)));have Q:=hY (be (i:=2) R.o (.slice (some ⟨g,0,none⟩) (n+1) q))
  have K:g≠pl:=fun e2=>by
   obtain⟨_,_,cs,h⟩:=aw S.o;rw[show(⟨g,0,none⟩:Addr).block=pl from e2,R.o] at h;cases h
  have B:Hid (∀V,V=(C.setCell ⟨pl,2,none⟩ (.slice (some ⟨g,0,none⟩) (n+1) q)).setCell ⟨pl,1,none⟩ (.i t)->LX base pl V s t (n+1) (xs++[.i kind,.string d,.i a])/\gy base pl w V):=hY (fun V hV=>by
   subst hV;have hp:=be (i:=1) Q.o (.i t)
   have l:∀L,(Value.slice (some ⟨g,0,none⟩) (n+1) q).ownBlock=some L->¬L∈[pl]:=fun L p hx=>by
    simp only[Value.ownBlock,dO] at p;simp only[aS,aT,or_false] at hx;exact K (p.trans hx)
   refine⟨⟨⟨_,hp,(ae _ ⟨pl,1,none⟩ _).row ((ae C ⟨pl,2,none⟩ _).row S.o l) l⟩,?_⟩,pl::(Value.slice P n O).ownBlock.toList,fun x hx=>?_,?_⟩
   ·exact aN U.o (aN M.o.size (aN (ag F.o).size (aN (ae C ⟨pl,2,none⟩ _).size (ae _ ⟨pl,1,none⟩ _).size)))
   ·rcases aS.1 hx with rfl|hx
    ·exact .inl rfl
    ·exact .inr (au f.o hx).1
   ·exact(M.o.mod _).trans (((ag F.o).mono (fun x hx=>by simp[hx])).trans (((ae C ⟨pl,2,none⟩ _).mono (fun x hx=>by simp only[aS,aT,or_false] at hx;simp[hx])).trans ((ae _ ⟨pl,1,none⟩ _).mono (fun x hx=>by simp only[aS,aT,or_false] at hx;simp[hx])))))
  clear t1 t2 Z Y X W;obtain⟨v1,v2⟩:=blk Q.o;go_wp2_with fail
  (first|refine QzE rfl rfl ?_|refine QzR rfl rfl ?_);exact ⟨rfl,B.o _ rfl⟩
theorem jz (w:World)(k p:Int)(a m:ByteArray)(d:¬k=7):Calls Tryz.prog 107 #[.agg #[.i k,.string a,.i p],.string m] w fun e w'=>e=.returned (.bool false)/\Ext w w':=by
 obtain⟨c,b⟩:=blk (aq w (.cells #[.i k,.string a,.i p] 109) _ rfl);go_enter Tryz.func107,Tryz.ntmps107;go_wp2_with fail;go_ret;exact⟨rfl,(Ext.refl _).alloc _⟩
theorem qi (w:World)(p:Int)(a:ByteArray):Calls Tryz.prog 107 #[.agg #[.i 7,.string a,.i p],.string a] w fun e w'=>e=.returned (.bool true)/\Ext w w':=by
 obtain⟨c,b⟩:=blk (aq w (.cells #[.i 7,.string a,.i p] 109) _ rfl);go_enter Tryz.func107,Tryz.ntmps107;go_wp2_with fail;go_ret;exact⟨by simp,(Ext.refl _).alloc _⟩
theorem kW (w:World)(k p:Int)(c:ByteArray)(f:¬k=7)(d:¬k=3):Calls Tryz.prog 41 #[.agg #[.i k,.string c,.i p]] w fun e w'=>e=.returned (.bool false)/\Ext w w':=by
 obtain⟨l,j⟩:=blk (aq w (.cells #[.i k,.string c,.i p] 109) _ rfl);have M:=hY (fun W m=>jz W k p c m f);have E:=hY ((Ext.refl w).alloc (.cells #[.i k,.string c,.i p] 109));go_enter Tryz.func41,Tryz.ntmps41;go_wp2_with (go_at_call 107;refine(M.o _ _).m fun h g=>?_);go_ret;exact⟨congrArg (fun b=>Ending.returned (Value.bool b)) (by simpa using d),E.o.trans g.o⟩
abbrev mc (tk:Value)(a c d:Int)(b:Value):Array Value:=#[tk,.i a,.i c,.i d,b]
def ri (w:World)(g i:Nat)(k:Int)(a:ByteArray)(p:Int):Prop:=w.cell? ⟨g,i*3,none⟩=some (.i k)/\w.cell? ⟨g,i*3+1,none⟩=some (.string a)/\w.cell? ⟨g,i*3+2,none⟩=some (.i p)
theorem iG {d:Func}{p:Tmp}{c:TypeId}(h:d.results=#[.cell p c])(b:Array Value)(P:Program)(w:World):
 (results d b).run P w=((asAddr (b.getD p undef)).run P w).andThen fun a e=>(loadVar c a).run P e:=by
 simp only[results,h];simp[Sem.run_bind]
theorem Cq (W:World)(B:Nat)(k p:Int)(b:ByteArray)(c:W.heap[B]?=some (.cells #[.i k,.string b,.i p] 109))(a:Array Value)(d:a.getD 2 undef=.pointer (some ⟨B,0,none⟩)):
 (results Tryz.f39 a).run Tryz.prog W=.ok (.agg #[.i k,.string b,.i p]) W:=by
 obtain⟨f,e⟩:=blk c;rw[iG rfl,d];go_simp
theorem next39_tok (w:World)(pp g n L i:Nat)(J K:Int)(I:Value)(k p:Int)(b:ByteArray)(D:w.heap[pp]?=some (.cells (mc (.slice (some ⟨g,0,none⟩) n L) (i:Int) J K I) 116))(q:g<w.heap.size)(H:i<n)(m:ri w g i k b p):
 Calls Tryz.prog 39 #[.pointer (some ⟨pp,0,none⟩)] w fun e w'=>e=.returned (.agg #[.i k,.string b,.i p])/\Ext w w':=by
 have s:Hid (Ext w (w.alloc (.cells #[.i 0,.string ⟨#[]⟩,.i 0] 109))):=hY ((Ext.refl w).alloc _);have F:=hY (aq w (.cells #[.i 0,.string ⟨#[]⟩,.i 0] 109) _ rfl);have E:=hY (aM D (.cells #[.i 0,.string ⟨#[]⟩,.i 0] 109));have T:ri (w.alloc (.cells #[.i 0,.string ⟨#[]⟩,.i 0] 109)) g i k b p:=⟨by rw[s.o.cell q];exact m.1,by rw[s.o.cell q];exact m.2.1,by rw[s.o.cell q];exact m.2.2⟩;have G:(i:Int)<(n:Int):=by omega
 have P:=hY (gE w.heap.size);clear D q H m;go_enter Tryz.func39,Tryz.ntmps39;go_upto_region 1 with fail;generalize c:w.heap.size=d at*;have B:=hY c;clear c;generalize w.alloc _=r at*;obtain⟨y,x⟩:=blk E.o;obtain⟨u,t⟩:=blk F.o;obtain⟨l,j,h⟩:=T;go_quiet (fail);go_upto_region 2 with fail;have C:Hid (Ext r (r.drewN nq)):=hY ((Ext.refl _).drewN _);have A:=hY (C.o.keep E.o);have f:=hY (C.o.keep F.o);have M:ri (r.drewN nq) g i k b p:=⟨l,j,h⟩;clear y x u t l j h;generalize r.drewN nq=O at*;obtain⟨y,x⟩:=blk A.o;obtain⟨u,t⟩:=blk f.o;obtain⟨l,j,h⟩:=M
 go_region_law (fail)
 all_goals
  have z:=be (i:=2) (be (i:=1) (be (i:=0) f.o (.i k)) (.string b)) (.i p);have a:w.heap.size<=d:=by have:=B.o;omega
  have N:=hY ((((((s.o.trans C.o).setCell (p:=⟨d,0,none⟩) a (.i k)).setCell (p:=⟨d,1,none⟩) a (.string b)).setCell (p:=⟨d,2,none⟩) a (.i p)).drew));clear y x u t l j h a;go_wp2_with fail;refine bodyPost_ret (v:=.agg #[.i k,.string b,.i p]) ?_ rfl ⟨rfl,?_⟩
  ·refine Cq _ d _ _ _ ?_ _ rfl
   exact z
  ·exact N.o
theorem xB (w:World)(pp g n m i:Nat)(k l:Int)(j:Value)(p:Int)(b:ByteArray)(h:w.heap[pp]?=some (.cells (mc (.slice (some ⟨g,0,none⟩) n m) (i:Int) k l j) 116))(f:g<w.heap.size)(d:i<n)(c:ri w g i 7 b p):
 Calls Tryz.prog 111 #[.pointer (some ⟨pp,0,none⟩),.string b] w fun e w'=>e=.returned (.bool true)/\Ext w w':=by
 have N:=hY (next39_tok w pp g n m i k l j 7 p b h f d c);have M:=hY (fun W=>qi W p b);clear h f d c;go_enter Tryz.func111,Tryz.ntmps111;go_wp2_with (first|(go_at_call 39;refine N.o.m fun t r=>?_)|(go_at_call 107;refine(M.o _).m fun s q=>?_));go_ret;exact⟨rfl,r.o.trans q.o⟩
theorem next39_end (w:World)(pp n D:Nat)(tk:Option Addr)(b d C:Int)(B:Value)(u:w.heap[pp]?=some (.cells (mc (.slice tk n D) b d C B) 116))(A:(n:Int)<=b):
 Calls Tryz.prog 39 #[.pointer (some ⟨pp,0,none⟩)] w fun e w'=>e=.returned (.agg #[.i 0,.string ⟨#[]⟩,.i d])/\Ext w w':=by
 have F:Hid (Ext w (w.alloc (.cells #[.i 0,.string ⟨#[]⟩,.i 0] 109))):=hY ((Ext.refl w).alloc _);have y:=hY (aq w (.cells #[.i 0,.string ⟨#[]⟩,.i 0] 109) _ rfl);have x:=hY (aM u (.cells #[.i 0,.string ⟨#[]⟩,.i 0] 109));have z:¬b<(n:Int):=by omega
 clear u A;go_enter Tryz.func39,Tryz.ntmps39;go_upto_region 1 with fail;generalize c:w.heap.size=f at*;have l:=hY c;clear c;generalize w.alloc _=j at*;obtain⟨t,s⟩:=blk x.o;obtain⟨r,q⟩:=blk y.o;go_quiet (fail);go_upto_region 3 with fail;have m:Hid (Ext j (j.drewN nq)):=hY ((Ext.refl _).drewN _);have k:=hY (m.o.keep x.o);have g:=hY (m.o.keep y.o);clear t s r q;generalize j.drewN nq=G at*;obtain⟨t,s⟩:=blk k.o;obtain⟨r,q⟩:=blk g.o;have h:=be (i:=2) (be (i:=1) (be (i:=0) g.o (.i 0)) (.string ⟨#[]⟩)) (.i d);have a:w.heap.size<=f:=by have:=l.o;omega
 have E:=hY (((((F.o.trans m.o).setCell (p:=⟨f,0,none⟩) a (.i 0)).setCell (p:=⟨f,1,none⟩) a (.string ⟨#[]⟩)).setCell (p:=⟨f,2,none⟩) a (.i d)));clear a;go_wp2_with fail;refine bodyPost_ret (v:=.agg #[.i 0,.string ⟨#[]⟩,.i d]) ?_ rfl ⟨rfl,?_⟩
 ·refine Cq _ f _ _ _ ?_ _ rfl
  exact h
 ·exact E.o
theorem rQ (w:World)(p:Int)(a m:ByteArray)(d:(a.toList==m.toList)=false):Calls Tryz.prog 107 #[.agg #[.i 7,.string a,.i p],.string m] w fun e w'=>e=.returned (.bool false)/\Ext w w':=by
 obtain⟨c,b⟩:=blk (aq w (.cells #[.i 7,.string a,.i p] 109) _ rfl);go_enter Tryz.func107,Tryz.ntmps107;go_wp2_with fail;go_ret;exact⟨rfl,(Ext.refl _).alloc _⟩
theorem zn (w:World)(pp g n r i:Nat)(l q:Int)(k:Value)(p:Int)(b m:ByteArray)(j:w.heap[pp]?=some (.cells (mc (.slice (some ⟨g,0,none⟩) n r) (i:Int) l q k) 116))(h:g<w.heap.size)(f:i<n)(c:ri w g i 7 b p)(d:(b.toList==m.toList)=false):
 Calls Tryz.prog 111 #[.pointer (some ⟨pp,0,none⟩),.string m] w fun e w'=>e=.returned (.bool false)/\Ext w w':=by
 have N:=hY (next39_tok w pp g n r i l q k 7 p b j h f c);have M:=hY (fun W=>rQ W p b m d);clear j h f c d;go_enter Tryz.func111,Tryz.ntmps111;go_wp2_with (first|(go_at_call 39;refine N.o.m fun v t=>?_)|(go_at_call 107;refine(M.o _).m fun u s=>?_));go_ret;exact⟨rfl,t.o.trans s.o⟩
theorem qe (w:World)(pp:Nat)(a:Calls Tryz.prog 111 #[.pointer (some ⟨pp,0,none⟩),.string ⟨#[124]⟩] w fun e w'=>e=.returned (.bool false)/\Ext w w'):
 Calls Tryz.prog 46 #[.pointer (some ⟨pp,0,none⟩)] w fun e w'=>e=.returned (.slice none 0 0)/\Ext w w':=by
 have N:=hY a;clear a;go_enter Tryz.func46,Tryz.ntmps46;go_wp2_with (go_at_call 111;refine N.o.m fun d c=>?_);go_ret;exact⟨rfl,c.o⟩
theorem x7 (w:World)(pp n g:Nat)(tk:Option Addr)(a d f:Int)(c:Value)(b:w.heap[pp]?=some (.cells (mc (.slice tk n g) a d f c) 116)):
 Calls Tryz.prog 112 #[.pointer (some ⟨pp,0,none⟩),.string ⟨#[]⟩] w fun e w'=>e=.returned (.bool (decide ((n:Int)<=a)))/\Ext w w':=by
 obtain⟨i,h⟩:=blk b;clear b;go_enter Tryz.func112,Tryz.ntmps112;go_upto_region 2 with fail
 go_region_law (fail)
 all_goals
  go_wp2_with fail;go_ret;exact⟨by first|rfl|simp,by first|exact Ext.refl _|exact(Ext.refl _).drew⟩
theorem Ei (W:World)(B:Nat)(k p:Int)(b:ByteArray)(c:W.heap[B]?=some (.cells #[.i k,.string b,.i p] 109))(a:Array Value)(d:a.getD 2 undef=.pointer (some ⟨B,0,none⟩)):
 (results Tryz.f40 a).run Tryz.prog W=.ok (.agg #[.i k,.string b,.i p]) W:=by
 obtain⟨f,e⟩:=blk c;rw[iG rfl,d];go_simp
theorem CU (w:World)(pp:Nat)(tk:Value)(c I J:Int)(H:Value)(k p:Int)(f:ByteArray)(r:w.heap[pp]?=some (.cells (mc tk c I J H) 116))(h0:0<=c)(h1:c<=1000000)
 (E:∀W,Ext w W->Calls Tryz.prog 39 #[.pointer (some ⟨pp,0,none⟩)] W fun e w'=>e=.returned (.agg #[.i k,.string f,.i p])/\Ext W w'):
 Calls Tryz.prog 40 #[.pointer (some ⟨pp,0,none⟩)] w fun e w'=>e=.returned (.agg #[.i k,.string f,.i p])/\w'.heap[pp]?=some (.cells (mc tk (c+1) I J H) 116)/\Mod [pp] w w':=by
 have N:=hY E;have U:=hY r;have u:Hid (Ext w (w.alloc (.cells #[.i 0,.string ⟨#[]⟩,.i 0] 109))):=hY ((Ext.refl w).alloc _);have O:=hY (aq w (.cells #[.i 0,.string ⟨#[]⟩,.i 0] 109) _ rfl);have j:=ab r;have d:=hY j;clear E r j;go_enter Tryz.func40,Tryz.ntmps40;go_upto_region 1 with fail;generalize l:w.heap.size=b at*;have s:=hY l;clear l;generalize w.alloc _=S at*;go_upto_region 2 with(go_at_call 39;refine(N.o S u.o).m fun g q=>?_);have t:Hid (Ext g (g.alloc (.cells #[.i k,.string f,.i p] 109))):=hY ((Ext.refl _).alloc _);have B3:=hY (aq g (.cells #[.i k,.string f,.i p] 109) _ rfl);have Y:Hid (b<g.heap.size):=hY (ab (q.o.keep O.o));generalize g.heap.size=R at*;generalize g.alloc _=K at*;have L:=hY (t.o.keep (q.o.keep (u.o.keep U.o)));have z:=hY (t.o.keep (q.o.keep O.o));have Z:=hY (u.o.trans (q.o.trans t.o));obtain⟨B,A⟩:=blk L.o;go_upto_region 3 with fail;clear B A;have V:=hY (be (i:=1) L.o (.i (c+1)));have y:=hY (jQ B3.o (a:=⟨pp,1,none⟩) (fun e=>by have:=d.o;have:=Y.o;have h:R=pp:=e;omega) (.i (c+1)));have m:=hY (jQ z.o (a:=⟨pp,1,none⟩) (fun e=>by have:=d.o;have h:b=pp:=e;omega) (.i (c+1)));have X:=hY ((Z.o.mod [pp]).trans (ae K ⟨pp,1,none⟩ (.i (c+1))));generalize K.setCell _ _=n at*;obtain⟨B,A⟩:=blk y.o;obtain⟨q3,q4⟩:=blk m.o;have P:=be (i:=2) (be (i:=1) (be (i:=0) m.o (.i k)) (.string f)) (.i p);have D:=jQ (jQ (jQ V.o (a:=⟨b,0,none⟩) (fun e=>by have:=d.o;have h:pp=b:=e;omega) (.i k)) (a:=⟨b,1,none⟩) (fun e=>by have:=d.o;have h:pp=b:=e;omega) (.string f)) (a:=⟨b,2,none⟩) (fun e=>by have:=d.o;have h:pp=b:=e;omega) (.i p)
 have F:Mod [pp] w (((n.setCell ⟨b,0,none⟩ (.i k)).setCell ⟨b,1,none⟩ (.string f)).setCell ⟨b,2,none⟩ (.i p)):=by
  have Q:Mod [b] n (((n.setCell ⟨b,0,none⟩ (.i k)).setCell ⟨b,1,none⟩ (.string f)).setCell ⟨b,2,none⟩ (.i p)):=((ae n ⟨b,0,none⟩ _).trans (ae _ ⟨b,1,none⟩ _)).trans (ae _ ⟨b,2,none⟩ _)
  exact eF X.o Q (fun x C=>by
   simp only[aS,aT,or_false] at C;right;rw[C,s.o]
   exact gE _)
 have M:=hY (And.intro D F);clear D F;go_wp2_with fail;refine bodyPost_ret (v:=.agg #[.i k,.string f,.i p]) ?_ rfl ⟨rfl,?_,?_⟩
 ·refine Ei _ b _ _ _ ?_ _ rfl
  exact P
 ·exact M.o.1
 ·exact M.o.2
section
variable {base pl:Nat}
theorem LX.ext {w w':World}{s:ByteArray}{a:Int}{n:Nat}{xs:List Value}(h:LX base pl w s a n xs)(c:Ext w w'):LX base pl w' s a n xs:=by
 obtain⟨⟨tk,e,d⟩,b⟩:=h;exact⟨⟨tk,c.keep e,ak d c⟩,aN b c.size⟩
theorem gy.FZ {w w':World}(a:Ext w w'):gy base pl w w':=⟨[],by simp,a.mod _⟩
theorem gy.trans {a b c:World}(j:gy base pl a b)(i:gy base pl b c):gy base pl a c:=by
 obtain⟨S,g,f⟩:=j;obtain⟨R,h,e⟩:=i;exact⟨S++R,fun x d=>(iF.1 d).elim (g x) (h x),(f.mono (fun x d=>List.mem_append_left _ d)).trans (e.mono (fun x d=>FE _ d))⟩
theorem LX.setAt {w:World}{s:ByteArray}{a:Int}{n:Nat}{xs:List Value}(h:LX base pl w s a n xs)(b:Int):LX base pl (w.setCell ⟨pl,1,none⟩ (.i b)) s b n xs/\gy base pl w (w.setCell ⟨pl,1,none⟩ (.i b)):=by
 obtain⟨⟨tk,e,d⟩,c⟩:=h;refine⟨⟨⟨tk,be (i:=1) e (.i b),(ae w ⟨pl,1,none⟩ _).row d (fun g j f=>dx e d (by decide) (by rw[←(show g=pl by simpa using f),j];simp))⟩,aN c (ae w ⟨pl,1,none⟩ _).size⟩,[pl],by simp,ae w ⟨pl,1,none⟩ _⟩
theorem fd (base pl:Nat)(w:World)(s:ByteArray)(i n:Nat)(xs:List Value)(h:LX base pl w s (i:Int) n xs)(l:s.size<=65536)(B:i<s.size)(m:eK (bl s) i=1):
 Calls Tryz.prog 154 #[.pointer (some ⟨pl,0,none⟩)] w fun e w'=>e=.returned (.tuple #[.i 0,.i 0])/\LX base pl w' s ((i:Int)+1) n xs/\gy base pl w w':=by
 have v:=hY h;obtain⟨⟨tk,d,a⟩,j⟩:=h;have x:Hid (∀W,Ext w W->Calls Tryz.prog 210 #[.pointer (some ⟨pl,0,none⟩),.i (i:Int)] W fun e w'=>e=.returned (.i 1)/\Ext W w'):=hY (fun W f=>by have:=jf W pl i s (i:Int) tk (f.keep d) l (by omega);rwa [m] at this);have u:=hY d;have r:(i:Int)<(s.size:Int):=by omega
 have t:(i:Int)<=65536:=by omega
 obtain⟨c,b⟩:=blk d;clear d a j m l;go_enter Tryz.func154,Tryz.ntmps154;go_upto_region 1 with fail;go_quiet (fail);have g:Hid (Ext w (w.drewN nq)):=hY ((Ext.refl _).drewN _);have q:=hY (g.o.keep u.o);clear c b;generalize w.drewN nq=A at*;obtain⟨c,b⟩:=blk q.o;go_upto_region 4 with(go_at_call 210;refine(x.o _ g.o).m fun z k=>?_);have y:=hY (k.o.keep q.o);clear c b;obtain⟨c,b⟩:=blk y.o;go_wp2_with fail;refine bodyPost_ret (results_tmp2 rfl _ _ _) rfl ?_;have p:=(v.o.ext (g.o.trans k.o)).setAt ((i:Int)+1);exact⟨rfl,p.1,(gy.FZ (g.o.trans k.o)).trans p.2⟩
end
theorem lh (base pl:Nat)(w:World)(s:ByteArray)(i e n:Nat)(xs:List Value)(h:LX base pl w s (i:Int) n xs)(m:s.size<=65536)(hi:i<s.size)(D:eK (bl s) i=2)(C:nR (bl s) [2,3] i=e)(l:lk (bl s) e 58=false)(L:i<=e)(N:e<=s.size)(z:n<=100000):
 Calls Tryz.prog 154 #[.pointer (some ⟨pl,0,none⟩)] w fun r w'=>r=.returned (.tuple #[.i 0,.i 0])/\LX base pl w' s (e:Int) (n+1) (xs++[.i 1,.string (s.extract i e),.i (i:Int)])/\gy base pl w w':=by
 have Y:=hY h;obtain⟨⟨tk,d,f⟩,t⟩:=h;have CL:Hid (∀W,Ext w W->Calls Tryz.prog 210 #[.pointer (some ⟨pl,0,none⟩),.i (i:Int)] W fun e w'=>e=.returned (.i 2)/\Ext W w'):=hY (fun W a=>by have:=jf W pl i s (i:Int) tk (a.keep d) m (by omega);rwa [D] at this)
 have R:Hid (∀W g,Ext w W->W.heap[g]?=some (.cells #[.i 2,.i 3] 211)->Calls Tryz.prog 211 #[.pointer (some ⟨pl,0,none⟩),.i (i:Int),.slice (some ⟨g,0,none⟩) 2 2] W fun r w'=>r=.returned (.i (e:Int))/\Ext W w'):=hY (fun W g a A=>by
  have:=uM W pl i g 2 2 s (i:Int) tk [2,3] (a.keep d) m (by omega) (ab A) rfl (by decide) (fun j v k=>by
   rw[(blk A).1];rcases j with _|_|j
   ·simp at k;subst k;rfl
   ·simp at k;subst k;rfl
   ·simp at k)
  rwa [C] at this)
 have u:Hid (∀W,Ext w W->Calls Tryz.prog 212 #[.pointer (some ⟨pl,0,none⟩),.i (e:Int),.int .u8 58] W fun e w'=>e=.returned (.bool false)/\Ext W w'):=hY (fun W a=>by have:=wD W pl e s (i:Int) 58 tk (a.keep d) m (by omega);rwa [l] at this);have p:=hY d;have K:(i:Int)<(s.size:Int):=by omega
 have M:(i:Int)<=65536:=by omega
 have O:(i:Int)<=(e:Int):=by omega
 have B:(e:Int)<=(s.size:Int):=by omega
 have Q:(e:Int)<=65536:=by omega
 have Z:=hY z;obtain⟨c,b⟩:=blk d;clear d f t D m C l z;go_enter Tryz.func154,Tryz.ntmps154;go_upto_region 1 with fail;go_quiet (fail);have x:Hid (Ext w (w.drewN nq)):=hY ((Ext.refl _).drewN _);have B1:=hY (x.o.keep p.o);clear c b;generalize w.drewN nq=w1 at*;obtain⟨c,b⟩:=blk B1.o;go_upto_region 7 with(go_at_call 210;refine(CL.o _ x.o).m fun y a=>?_;have I:=hY (x.o.trans a.o));have B2:=hY (I.o.keep p.o);clear c b;obtain⟨c,b⟩:=blk B2.o;have U:=hY (aq y (.cells #[.i 2,.i 3] 211) _ rfl);have H:Hid (Ext w (y.alloc (.cells #[.i 2,.i 3] 211))):=hY (I.o.alloc _);have S:=hY (R.o _ _ H.o U.o);go_upto_region 8 with(go_at_call 211;refine S.o.m fun w4 a=>?_;have G:=hY (H.o.trans a.o));clear c b;go_upto_region 10 with(first|(go_at_call 212;with_reducible refine(u.o _ G.o).m fun J a=>?_;have q:=hY (G.o.trans a.o)));have B5:=hY (q.o.keep p.o);have B6:=hY (q.o.drew.keep p.o);obtain⟨c,b⟩:=blk B5.o;obtain⟨q3,q4⟩:=blk B6.o;have P:=hY (rH base pl J.drew s (i:Int) n xs (Y.o.ext q.o.drew) Z.o 1 (e:Int) (s.extract i e))
 go_region_with (go_at_call 213;refine P.o.m2 fun w7 X V=>?_)
 all_goals
  go_wp2_with fail;refine bodyPost_ret (results_tmp2 rfl _ _ _) rfl ?_;exact⟨rfl,X.o,(gy.FZ q.o.drew).trans V.o⟩
theorem uO (w:World)(g a:Nat):Calls Tryz.prog 278 #[.slice (some ⟨g,0,none⟩) 1 a] w fun e w'=>e=.returned (.tuple #[])/\w'=w:=by
 go_enter Tryz.func278,Tryz.ntmps278;go_upto_region 1 with fail
 go_loopw [2,3] (fun i j W=>i=.i 0/\j=.i 0/\W=w) (fun _ _ _=>0)
 case atStart=>exact⟨rfl,rfl,rfl⟩
 case round=>
  obtain⟨rfl,rfl,rfl⟩:=hrel;go_wp2_with fail
  (first|refine QzE rfl rfl ?_|refine QzR rfl rfl ?_);exact ⟨rfl,rfl⟩
theorem vM (w:World):Calls Tryz.prog 254 #[.int .u8 51] w fun e w'=>e=.returned (.bool false)/\w'=w:=by
 go_enter Tryz.func254,Tryz.ntmps254;go_wp2_with fail;go_ret;exact⟨rfl,rfl⟩
structure Dec (w:World)(g b:Nat)(v:Int)(W:World):Prop where
 num:W.heap[g]?=some (.cells #[.int .u8 v] 5)
 txt:W.cell? ⟨b,0,none⟩=some (.int .u8 51)
 ne:g≠b
 ext:Ext w W
theorem Dec.set {w:World}{g b:Nat}{v:Int}{W:World}(h:Dec w g b v W)(c:w.heap.size<=g)(u:Int):Dec w g b u (W.setCell ⟨g,0,none⟩ (.int .u8 u)):=
 ⟨be (i:=0) h.num _,by
  rw[←h.txt]
  exact World.cell?_of_block (a:=⟨b,0,none⟩) (Below.heap_setCell _ _ _ _ (fun e=>h.ne e.symm)),h.ne,h.ext.setCell (p:=⟨g,0,none⟩) c _⟩
theorem vD (w:World):Calls Tryz.prog 255 #[.i 10,.string ⟨#[51]⟩] w fun e w'=>e=.returned (.tuple #[.string ⟨#[51]⟩,.bool true])/\Ext w w':=by
 have x:Hid (Ext w (w.alloc (.cells #[.int .u8 0] 5))):=hY ((Ext.refl w).alloc _);have r:=hY (aq w (.cells #[.int .u8 0] 5) _ rfl);have v:Hid (w.heap.size<=w.heap.size):=hY (gE _);go_enter Tryz.func255,Tryz.ntmps255;go_upto_region 4 with fail;generalize p:w.heap.size=g at*;have u:=hY p;clear p;generalize w.alloc _=b at*;go_upto_region 5 with(rw[ep ⟨#[51]⟩ b]);have z:Hid (Dec w g b.heap.size 0 (Lib.bytesWorld b 5 ⟨#[51]⟩)):=hY ⟨(dD _ _).keep r.o,fH ⟨#[51]⟩ b 0 (by decide),fun e=>by have:=ab r.o;omega,x.o.trans (dD _ _)⟩;have q:Hid (w.heap.size<=g):=hY (by have:=u.o;omega);generalize b.heap.size=d at*;generalize Lib.bytesWorld b 5 ⟨#[51]⟩=A at*;generalize grownCap b _ 0 5=B at*;clear v
 go_loopw [28,6] (fun i l W=>l=.slice (some ⟨g,0,none⟩) 1 1/\((i=.i 0/\Dec w g d 0 W)\/(i=.i 1/\Dec w g d 3 W))) (fun i _ _=>1-(intOf i).toNat)
 case atStart=>exact⟨rfl,.inl ⟨rfl,z.o⟩⟩
 case round=>
  obtain⟨rfl,hrel⟩:=hrel;rcases hrel with⟨rfl,a⟩|⟨rfl,a⟩
  ·have D:=hY a
   obtain⟨k,h⟩:=blk a.num;have n:=a.txt;clear a;go_upto_region 13 with(go_at_call 254;refine(vM _).mono ?_;rintro e s ⟨rfl,m⟩;obtain rfl:=m)
   go_loopw [46,9] (fun i c W=>(i=.i 0/\c=.i 3/\Dec w g d 0 W)\/(i=.i 1/\c=.i 0/\Dec w g d 3 W)) (fun i _ _=>1-(intOf i).toNat)
   case atStart=>exact .inl ⟨rfl,rfl,D.o⟩
   case round=>
    rcases hrel with⟨rfl,rfl,a⟩|⟨rfl,rfl,a⟩
    ·have f:=hY a
     clear k h n;obtain⟨k,h⟩:=blk a.num;clear a;go_wp2_with fail;go_roundw
     case rel=>exact .inr ⟨rfl,rfl,f.o.set q.o 3⟩
     case measure=>decide
    ·have f:=hY a
     clear a k h n;go_upto_region 19 with fail
     go_loopw [9,6] (fun c l W=>c=.i 0/\l=.slice (some ⟨g,0,none⟩) 1 1/\Dec w g d 3 W) (fun _ _ _=>0)
     case atStart=>exact⟨rfl,rfl,f.o⟩
     case round=>
      obtain⟨rfl,rfl,a⟩:=hrel;have y:=hY a;clear a;go_wp2_with fail;go_roundw
      case rel=>exact⟨rfl,.inr ⟨rfl,y.o⟩⟩
      case measure=>decide
  ·have D:=hY a
   clear a;go_upto_region 27 with(go_at_call 278;refine(uO _ _ _).mono ?_;rintro e s ⟨rfl,m⟩;obtain rfl:=m)
   go_loopw [84] (fun i W=>(i=.i 0/\Dec w g d 3 W)\/(i=.i 1/\Dec w g d 51 W)) (fun i _=>1-(intOf i).toNat)
   case atStart=>exact .inl ⟨rfl,D.o⟩
   case round=>
    rcases hrel with⟨rfl,a⟩|⟨rfl,a⟩
    ·have f:=hY a
     obtain⟨k,h⟩:=blk a.num;clear a;go_wp2_with fail;go_roundw
     case rel=>exact .inr ⟨rfl,f.o.set q.o 51⟩
     case measure=>decide
    ·have C:(convert 32 9 (.slice (some ⟨g,0,none⟩) 1 1)).run Tryz.prog wr=.ok (.string ⟨#[51]⟩) wr:=run_convert_bytes_back (P:=Tryz.prog) wr 32 9 5 ⟨g,0,none⟩ 1 [51] Tryz.underlying32 Tryz.underlying5 Tryz.underlying9 (fun j t=>by
      obtain rfl:j=0:=by simpa using t
      exact(blk a.num).1 0)
     have f:=hY a;clear a;go_wp2_with fail;refine bodyPost_ret (results_tmp2 rfl _ _ _) rfl ?_;exact⟨rfl,f.o.ext⟩
theorem xn (base pl:Nat)(w:World)(s:ByteArray)(i e n:Nat)(xs:List Value)(h:LX base pl w s (i:Int) n xs)(l:s.size<=65536)(hi:i<s.size)(z:nR (bl s) [3] i=e)(b:lk (bl s) e 114=false)(A:s.extract i e=⟨#[51]⟩)(H:i<=e)(I:e<=s.size)(t:n<=100000):
 Calls Tryz.prog 214 #[.pointer (some ⟨pl,0,none⟩)] w fun r w'=>r=.returned (.tuple #[.i 0,.i 0])/\LX base pl w' s (e:Int) (n+1) (xs++[.i 4,.string ⟨#[51]⟩,.i (i:Int)])/\gy base pl w w':=by
 have Q:=hY h;obtain⟨⟨tk,d,c⟩,m⟩:=h
 have J:Hid (∀W g,Ext w W->W.heap[g]?=some (.cells #[.i 3] 211)->Calls Tryz.prog 211 #[.pointer (some ⟨pl,0,none⟩),.i (i:Int),.slice (some ⟨g,0,none⟩) 1 1] W fun r w'=>r=.returned (.i (e:Int))/\Ext W w'):=hY (fun W g a x=>by
  have:=uM W pl i g 1 1 s (i:Int) tk [3] (a.keep d) l (by omega) (ab x) rfl (by decide) (fun j v p=>by
   rw[(blk x).1];rcases j with _|j
   ·simp at p;subst p;rfl
   ·simp at p)
  rwa [z] at this)
 have IR:Hid (∀W,Ext w W->Calls Tryz.prog 212 #[.pointer (some ⟨pl,0,none⟩),.i (e:Int),.int .u8 114] W fun e w'=>e=.returned (.bool false)/\Ext W w'):=hY (fun W a=>by have:=wD W pl e s (i:Int) 114 tk (a.keep d) l (by omega);rwa [b] at this);have U:Hid (∀W,Calls Tryz.prog 255 #[.i 10,.string (s.extract i e)] W fun e w'=>e=.returned (.tuple #[.string ⟨#[51]⟩,.bool true])/\Ext W w'):=hY (fun W=>by rw[A];exact vD W);have L:=hY d;have u:(i:Int)<=(e:Int):=by omega
 have y:(e:Int)<=(s.size:Int):=by omega
 have R:=hY t;obtain⟨k,f⟩:=blk d;have M:=hY (aq w (.cells #[.i 3] 211) _ rfl);have G:Hid (Ext w (w.alloc (.cells #[.i 3] 211))):=hY ((Ext.refl _).alloc _);have K:=hY (J.o _ _ G.o M.o);clear d c m l z b t A;go_enter Tryz.func214,Tryz.ntmps214;go_upto_region 2 with(go_at_call 211;refine K.o.m fun q a=>?_;have F:=hY (G.o.trans a.o));have V:=hY (F.o.keep L.o);clear k f;obtain⟨k,f⟩:=blk V.o;go_quiet (fail);have E:Hid (Ext w (q.drewN nq)):=hY (F.o.drewN _);clear k f;generalize q.drewN nq=w5 at*;go_upto_region 17 with(go_at_call 212;refine(IR.o _ E.o).m fun Z a=>?_;have S:=hY (E.o.trans a.o));have P:=hY (fun W (a:Ext w W)=>rH base pl W s (i:Int) n xs (Q.o.ext a) R.o 4 (e:Int) ⟨#[51]⟩);go_wp2_with (first|(go_at_call 255;refine(U.o _).m fun Y a=>?_;have D:=hY (S.o.trans a.o))|(go_at_call 213;refine(P.o _ D.o).m2 fun X O N=>?_));refine bodyPost_ret (results_tmp2 rfl _ _ _) rfl ?_;exact⟨rfl,O.o,(gy.FZ D.o).trans N.o⟩
theorem oH (base pl:Nat)(w:World)(s:ByteArray)(i e n:Nat)(xs:List Value)(h:LX base pl w s (i:Int) n xs)(l:s.size<=65536)(B:i<s.size)(v:eK (bl s) i=3)(t:nR (bl s) [3] i=e)(a:lk (bl s) e 114=false)(u:s.extract i e=⟨#[51]⟩)(d:i<=e)(f:e<=s.size)(q:n<=100000):
 Calls Tryz.prog 154 #[.pointer (some ⟨pl,0,none⟩)] w fun r w'=>r=.returned (.tuple #[.i 0,.i 0])/\LX base pl w' s (e:Int) (n+1) (xs++[.i 4,.string ⟨#[51]⟩,.i (i:Int)])/\gy base pl w w':=by
 have D:=hY (fun W (b:Ext w W)=>xn base pl W s i e n xs (h.ext b) l B t a u d f q);obtain⟨⟨tk,g,c⟩,m⟩:=h;have G:Hid (∀W,Ext w W->Calls Tryz.prog 210 #[.pointer (some ⟨pl,0,none⟩),.i (i:Int)] W fun e w'=>e=.returned (.i 3)/\Ext W w'):=hY (fun W b=>by have:=jf W pl i s (i:Int) tk (b.keep g) l (by omega);rwa [v] at this);have C:=hY g;have A:(i:Int)<(s.size:Int):=by omega
 obtain⟨k,j⟩:=blk g;clear g c m v l t a q u d f;go_enter Tryz.func154,Tryz.ntmps154;go_upto_region 1 with fail;go_quiet (fail);have p:Hid (Ext w (w.drewN nq)):=hY ((Ext.refl _).drewN _);have H:=hY (p.o.keep C.o);clear k j;generalize w.drewN nq=K at*;obtain⟨k,j⟩:=blk H.o;go_upto_region 13 with(go_at_call 210;refine(G.o _ p.o).m fun J b=>?_;have z:=hY (p.o.trans b.o));clear k j;go_wp2_with (go_at_call 214;refine(D.o _ z.o).m2 fun I F E=>?_);refine bodyPost_ret (results_tmp2 rfl _ _ _) rfl ?_;exact⟨rfl,F.o,(gy.FZ z.o).trans E.o⟩
theorem mG (base pl:Nat)(w:World)(s:ByteArray)(i e n:Nat)(xs:List Value)(h:LX base pl w s (i:Int) n xs)(k:s.size<=65536)(hi:i<s.size)(H:eK (bl s) i=2)(G:nR (bl s) [2,3] i=e)(q:lk (bl s) e 58=true)(p:lk (bl s) (e+1) 61=false)(f:Nat)(E:f=e+1)(R:i<=e)(U:f<=s.size)(C:n<=100000):
 Calls Tryz.prog 154 #[.pointer (some ⟨pl,0,none⟩)] w fun r w'=>r=.returned (.tuple #[.i 0,.i 0])/\LX base pl w' s (f:Int) (n+1) (xs++[.i 2,.string (s.extract i f),.i (i:Int)])/\gy base pl w w':=by
 have HX:=hY h;obtain⟨⟨tk,b,l⟩,x⟩:=h;have CL:Hid (∀W,Ext w W->Calls Tryz.prog 210 #[.pointer (some ⟨pl,0,none⟩),.i (i:Int)] W fun e w'=>e=.returned (.i 2)/\Ext W w'):=hY (fun W a=>by have:=jf W pl i s (i:Int) tk (a.keep b) k (by omega);rwa [H] at this)
 have Y:Hid (∀W g,Ext w W->W.heap[g]?=some (.cells #[.i 2,.i 3] 211)->Calls Tryz.prog 211 #[.pointer (some ⟨pl,0,none⟩),.i (i:Int),.slice (some ⟨g,0,none⟩) 2 2] W fun r w'=>r=.returned (.i (e:Int))/\Ext W w'):=hY (fun W g a D=>by
  have:=uM W pl i g 2 2 s (i:Int) tk [2,3] (a.keep b) k (by omega) (ab D) rfl (by decide) (fun j v m=>by
   rw[(blk D).1];rcases j with _|_|j
   ·simp at m;subst m;rfl
   ·simp at m;subst m;rfl
   ·simp at m)
  rwa [G] at this)
 have z:Hid (∀W,Ext w W->Calls Tryz.prog 212 #[.pointer (some ⟨pl,0,none⟩),.i (e:Int),.int .u8 58] W fun e w'=>e=.returned (.bool true)/\Ext W w'):=hY (fun W a=>by have:=wD W pl e s (i:Int) 58 tk (a.keep b) k (by omega);rwa [q] at this);have y:Hid (∀W,Ext w W->Calls Tryz.prog 212 #[.pointer (some ⟨pl,0,none⟩),.i ((e:Int)+1),.int .u8 61] W fun e w'=>e=.returned (.bool false)/\Ext W w'):=hY (fun W a=>by have:=wD W pl (e+1) s (i:Int) 61 tk (a.keep b) k (by omega);rw[p] at this;push_cast at this;exact this);have t:=hY b;have Q:(i:Int)<(s.size:Int):=by omega
 have S:(i:Int)<=65536:=by omega
 have V:(i:Int)<=(f:Int):=by omega
 have F:(f:Int)<=(s.size:Int):=by omega
 have X:(e:Int)<=65536:=by omega
 have HN:=hY C;obtain⟨d,c⟩:=blk b;clear b l x H k G q C p;go_enter Tryz.func154,Tryz.ntmps154;go_upto_region 1 with fail;go_quiet (fail);have A:Hid (Ext w (w.drewN nq)):=hY ((Ext.refl _).drewN _);have B1:=hY (A.o.keep t.o);clear d c;generalize w.drewN nq=w1 at*;obtain⟨d,c⟩:=blk B1.o;go_upto_region 7 with(go_at_call 210;refine(CL.o _ A.o).m fun B a=>?_;have N:=hY (A.o.trans a.o));have B2:=hY (N.o.keep t.o);clear d c;obtain⟨d,c⟩:=blk B2.o;have NB:=hY (aq B (.cells #[.i 2,.i 3] 211) _ rfl);have M:Hid (Ext w (B.alloc (.cells #[.i 2,.i 3] 211))):=hY (N.o.alloc _);have Z:=hY (Y.o _ _ M.o NB.o);go_upto_region 8 with(go_at_call 211;refine Z.o.m fun w4 a=>?_;have L:=hY (M.o.trans a.o));clear d c;go_upto_region 9 with(first|(go_at_call 212;with_reducible refine(z.o _ L.o).m fun w5 a=>?_;have K:=hY (L.o.trans a.o))|(go_at_call 212;with_reducible refine(y.o _ (K.o)).m fun O a=>?_;have u:=hY (K.o.trans a.o)));have B5:=hY (u.o.keep t.o);have hw:IntKind.i64.wrap ((e:Int)+1)=(f:Int):=by rw[show(e:Int)+1=(f:Int) by omega];exact Go.IntWalk.i64_in _ (by omega)
 have HF:=hY E;clear E;have B6:=hY (u.o.drew.keep t.o);obtain⟨d,c⟩:=blk B5.o;obtain⟨q3,q4⟩:=blk B6.o;have P:=hY (rH base pl O.drew s (i:Int) n xs (HX.o.ext u.o.drew) HN.o 2 (f:Int) (s.extract i f))
 go_region_with (go_at_call 213;refine P.o.m2 fun w7 L7 M7=>?_)
 all_goals
  go_wp2_with fail;refine bodyPost_ret (results_tmp2 rfl _ _ _) rfl ?_;exact⟨rfl,L7.o,(gy.FZ u.o.drew).trans M7.o⟩
theorem qd (base pl:Nat)(w:World)(s:ByteArray)(i n:Nat)(xs:List Value)(h:LX base pl w s (i:Int) n xs)(m:s.size<=65536)(O:i<s.size)(t:eK (bl s) i=5)(u:¬(s[i].toNat:Int)=58)(p:n<=100000):
 Calls Tryz.prog 154 #[.pointer (some ⟨pl,0,none⟩)] w fun r w'=>r=.returned (.tuple #[.i 0,.i 0])/\LX base pl w' s ((i:Int)+1) (n+1) (xs++[.i 7,.string (s.extract i (i+1)),.i (i:Int)])/\gy base pl w w':=by
 have E:=hY h;obtain⟨⟨tk,d,a⟩,j⟩:=h;have G:Hid (∀W,Ext w W->Calls Tryz.prog 210 #[.pointer (some ⟨pl,0,none⟩),.i (i:Int)] W fun e w'=>e=.returned (.i 5)/\Ext W w'):=hY (fun W f=>by have:=jf W pl i s (i:Int) tk (f.keep d) m (by omega);rwa [t] at this);have k:=hY d;have z:(i:Int)<(s.size:Int):=by omega
 have A:(i:Int)<=65536:=by omega
 have B:(i:Int)<=(i:Int)+1:=by omega
 have q:(i:Int)+1<=(s.size:Int):=by omega
 have F:=hY p;obtain⟨c,b⟩:=blk d;clear d a j t m p;go_enter Tryz.func154,Tryz.ntmps154;go_upto_region 1 with fail;go_quiet (fail);have l:Hid (Ext w (w.drewN nq)):=hY ((Ext.refl _).drewN _);have J:=hY (l.o.keep k.o);clear c b;generalize w.drewN nq=L at*;obtain⟨c,b⟩:=blk J.o;go_upto_region 19 with(go_at_call 210;refine(G.o _ l.o).m fun y f=>?_;have g:=hY (l.o.trans f.o));have I:=hY (g.o.keep k.o);clear c b;obtain⟨c,b⟩:=blk I.o;go_upto_region 22 with fail;have H:=hY (g.o.drew.keep k.o);obtain⟨N,M⟩:=blk H.o;have P:=hY (rH base pl y.drew s (i:Int) n xs (E.o.ext g.o.drew) F.o 7 ((i:Int)+1) (s.extract i (i+1)))
 go_region_with (go_at_call 213;refine P.o.m2 fun K D C=>?_)
 all_goals
  go_wp2_with fail;refine bodyPost_ret (results_tmp2 rfl _ _ _) rfl ?_;exact⟨rfl,D.o,(gy.FZ g.o.drew).trans C.o⟩
def Fi (d:Nat->Nat->List Value->Prop)(base pl i:Nat)(s:ByteArray)(W:World)(r:Ending)(W':World):Prop:=r=.returned (.tuple #[.i 0,.i 0])/\(∃b c a,i<b/\b<=s.size/\d b c a/\LX base pl W' s ((b:Nat):Int) c a)/\gy base pl W W'
def Ez (N:Nat)(X:List Value)(w:World)(r:Ending)(w':World):Prop:=∃a c,r=.returned (.tuple #[.slice a N c,.i 0,.i 0])/\w'.ownsRow w.heap.size 109 3 (.slice a N c) N X/\Ext w w'
theorem Dm (c:Nat->Nat->List Value->Prop)(s:ByteArray)(w:World)(V:s.size<=65536)(E:c 0 0 [])(u:∀(base pl i n:Nat) (xs:List Value) (W:World),LX base pl W s (i:Int) n xs->i<s.size->c i n xs->Calls Tryz.prog 154 #[.pointer (some ⟨pl,0,none⟩)] W (Fi c base pl i s W))(N:Nat)(X:List Value)(y:∀n xs,c s.size n xs->n=N/\xs=X):
 Calls Tryz.prog 106 #[.string s] w (Ez N X w):=by
 have T:=hY u;have F:=hY y;have I0:=hY E;have U:(s.size:Int)<=65536:=by omega
 have L0:Hid (LX w.heap.size w.heap.size (w.alloc (.cells (xv s 0 (.slice none 0 0)) 222)) s ((0:Nat):Int) 0 []):=hY ⟨⟨.slice none 0 0,aq w _ _ rfl,⟨rfl,.inl ⟨rfl,rfl⟩⟩⟩,(((Ext.refl w).alloc _).size)⟩;have E1:Hid (Ext w (w.alloc (.cells (xv s 0 (.slice none 0 0)) 222))):=hY ((Ext.refl w).alloc _);clear u y E V;go_enter Tryz.func106,Tryz.ntmps106;go_upto_region 4 with fail;generalize r:w.heap.size=p at*;have H:=hY r;clear r;generalize w.alloc _=I at*
 go_loopw [] (fun W=>∃(i n:Nat) (xs:List Value),i<=s.size/\c i n xs/\LX p p W s ((i:Nat):Int) n xs/\gy p p I W) (fun W=>s.size-(match W.cell? ⟨p,1,none⟩ with|some v=>(intOf v).toNat|none=>0))
 case atStart=>exact⟨0,0,[],oS _,I0.o,L0.o,gy.FZ (Ext.refl _)⟩
 case round=>
  obtain⟨i,n,xs,hi,b,x,g⟩:=hrel;have L:=hY x;have M:=hY g;have G:=hY b;obtain⟨⟨tk,t,a⟩,l⟩:=x;obtain⟨P,q2⟩:=blk t;have Q1:=hY (P 1);have d:=hY a;clear g b l t a;by_cases hlt:i<s.size
  ·have TT:=hY (T.o p p i n xs wr L.o hlt G.o)
   have m:(i:Int)<(s.size:Int):=by omega
   go_wp2_with (go_at_call 154;refine TT.o.mono ?_;rintro e w3 ⟨rfl,⟨R,Q,j,D,C,B,A⟩,z⟩;have f:=hY (And.intro D (And.intro C (And.intro B A)));have M3:=hY z;clear D C B A z);go_roundw
   case rel=>exact⟨R,Q,j,f.o.2.1,f.o.2.2.1,f.o.2.2.2,M.o.trans M3.o⟩
   case measure=>
    have a1:=Q1.o;obtain⟨⟨J,q,_⟩,_⟩:=f.o.2.2.2;have a2:=(blk q).1 1;rw[a1,a2];have:=f.o.1;simp[intOf];omega
  ·have m:¬(i:Int)<(s.size:Int):=by omega
   obtain rfl:i=s.size:=by omega
   obtain⟨rfl,rfl⟩:=F.o n xs G.o;obtain⟨O,K,rfl,_⟩:=aJ d.o;go_wp2_with fail;refine bodyPost_ret (results_tmp3 rfl _ _ _) rfl ?_;obtain⟨S,Z,g⟩:=M.o;refine⟨O,K,rfl,by rw[H.o];exact d.o,cz E1.o g (fun k Y=>by rw[H.o];rcases Z k Y with rfl|h<;>omega)⟩
def iP:ByteArray:=⟨#[102,111,111,32,94,32,115,101,108,102,32,98,97,114,58,32,51]⟩
def lf:List (List Value):=[[.i 1,.string ⟨#[102,111,111]⟩,.i 0],[.i 7,.string ⟨#[94]⟩,.i 4],[.i 1,.string ⟨#[115,101,108,102]⟩,.i 6],[.i 2,.string ⟨#[98,97,114,58]⟩,.i 11],[.i 4,.string ⟨#[51]⟩,.i 16]]
def rC:List (Nat×Nat):=[(0,0),(3,1),(4,1),(5,2),(6,2),(10,3),(11,3),(15,4),(16,4),(17,5)]
def StA (i n:Nat)(xs:List Value):Prop:=(i,n)∈rC/\xs=(lf.take n).flatten
theorem pD (s:ByteArray)(i e:Nat)(l:BL)(h:((bl s).drop i).take (e-i)=l):s.extract i e=mkS l:=by
 rw[←jw (s.extract i e),show bl (s.extract i e)=((bl s).drop i).take (e-i) by rw[bl,ByteArray.data_extract];simp[Array.toList_extract,List.extract_eq_take_drop],h]
theorem Fc (w:World):Calls Tryz.prog 106 #[.string iP] w (Ez 5 lf.flatten w):=by
 refine Dm StA iP w (by decide) ⟨by decide,rfl⟩ ?_ 5 lf.flatten ?_
 ·rintro base pl i n h W f d ⟨c,rfl⟩
  simp only[rC,aS,A4,aT,or_false] at c;rcases c with⟨rfl,rfl⟩|⟨rfl,rfl⟩|⟨rfl,rfl⟩|⟨rfl,rfl⟩|⟨rfl,rfl⟩|⟨rfl,rfl⟩|⟨rfl,rfl⟩|⟨rfl,rfl⟩|⟨rfl,rfl⟩|⟨rfl,rfl⟩
  ·refine(lh base pl W iP 0 3 _ _ f (by decide) d (by decide) (by decide) (by decide) (by decide) (by decide) (by decide)).mono ?_
   rintro e g ⟨rfl,a,b⟩;rw[pD iP 0 3 [102,111,111] (by decide)] at a;exact⟨rfl,⟨3,1,_,by decide,by decide,⟨by decide,rfl⟩,a⟩,b⟩
  ·refine(fd base pl W iP 3 _ _ f (by decide) d (by decide)).mono ?_
   rintro e g ⟨rfl,a,b⟩;exact⟨rfl,⟨4,1,_,by decide,by decide,⟨by decide,rfl⟩,a⟩,b⟩
  ·refine(qd base pl W iP 4 _ _ f (by decide) d (by decide) (show¬((94:UInt8).toNat:Int)=58 by decide) (by decide)).mono ?_
   rintro e g ⟨rfl,a,b⟩;rw[pD iP 4 (4+1) [94] (by decide)] at a;exact⟨rfl,⟨5,2,_,by decide,by decide,⟨by decide,rfl⟩,a⟩,b⟩
  ·refine(fd base pl W iP 5 _ _ f (by decide) d (by decide)).mono ?_
   rintro e g ⟨rfl,a,b⟩;exact⟨rfl,⟨6,2,_,by decide,by decide,⟨by decide,rfl⟩,a⟩,b⟩
  ·refine(lh base pl W iP 6 10 _ _ f (by decide) d (by decide) (by decide) (by decide) (by decide) (by decide) (by decide)).mono ?_
   rintro e g ⟨rfl,a,b⟩;rw[pD iP 6 10 [115,101,108,102] (by decide)] at a;exact⟨rfl,⟨10,3,_,by decide,by decide,⟨by decide,rfl⟩,a⟩,b⟩
  ·refine(fd base pl W iP 10 _ _ f (by decide) d (by decide)).mono ?_
   rintro e g ⟨rfl,a,b⟩;exact⟨rfl,⟨11,3,_,by decide,by decide,⟨by decide,rfl⟩,a⟩,b⟩
  ·refine(mG base pl W iP 11 14 _ _ f (by decide) d (by decide) (by decide) (by decide) (by decide) 15 rfl (by decide) (by decide) (by decide)).mono ?_
   rintro e g ⟨rfl,a,b⟩;rw[pD iP 11 15 [98,97,114,58] (by decide)] at a;exact⟨rfl,⟨15,4,_,by decide,by decide,⟨by decide,rfl⟩,a⟩,b⟩
  ·refine(fd base pl W iP 15 _ _ f (by decide) d (by decide)).mono ?_
   rintro e g ⟨rfl,a,b⟩;exact⟨rfl,⟨16,4,_,by decide,by decide,⟨by decide,rfl⟩,a⟩,b⟩
  ·refine(oH base pl W iP 16 17 _ _ f (by decide) d (by decide) (by decide) (by decide) (pD iP 16 17 [51] (by decide)) (by decide) (by decide) (by decide)).mono ?_
   rintro e g ⟨rfl,a,b⟩;exact⟨rfl,⟨17,5,_,by decide,by decide,⟨by decide,rfl⟩,a⟩,b⟩
  ·exact absurd d (by decide)
 ·rintro n h ⟨c,rfl⟩
  have j:iP.size=17:=rfl;rw[j] at c;simp only[rC,aS,A4,aT,or_false] at c;obtain rfl:n=5:=by omega
  exact⟨rfl,rfl⟩
section
variable {T:List Value} {w w':World} {pp g b i:Nat} {k p:Int}
abbrev ndC (k:Int)(a:ByteArray)(l:Value)(p:Int):Array Value:=#[.i k,.string a,.slice none 0 0,.slice none 0 0,l,.i 0,.i p]
structure PR (T:List Value)(w:World)(pp g cc i:Nat):Prop where
 blk:w.heap[pp]?=some (.cells (mc (.slice (some ⟨g,0,none⟩) 5 cc) ((i:Nat):Int) 17 0 (.pointer none)) 116)
 glt:g<w.heap.size
 ne:g≠pp
 tok:∀j v,T[j]?=some v->w.cell? ⟨g,j,none⟩=some v
theorem PR.ext (h:PR T w pp g b i)(a:Ext w w'):PR T w' pp g b i:=
 ⟨a.keep h.blk,bA h.glt a.size,h.ne,fun j v c=>by rw[a.cell (p:=⟨g,j,none⟩) h.glt];exact h.tok j v c⟩
theorem tC {S:List Nat}(d:Mod S w w'){j:Nat}(c:g<w.heap.size)(b:¬g∈S):w'.cell? ⟨g,j,none⟩=w.cell? ⟨g,j,none⟩:=World.cell?_of_block (a:=⟨g,j,none⟩) (d.block g c b)
theorem PR.step {a:Nat}(h:PR T w pp g a i)(c:Mod [pp] w w')(e:w'.heap[pp]?=some (.cells (mc (.slice (some ⟨g,0,none⟩) 5 a) ((b:Nat):Int) 17 0 (.pointer none)) 116)):PR T w' pp g a b:=
 ⟨e,bA h.glt c.size,h.ne,fun j v d=>by rw[tC c h.glt (by simpa using h.ne)];exact h.tok j v d⟩
theorem PR.tokAt {c:Nat}(h:PR T w pp g c i){j:Nat}{b:ByteArray}(a:T[j*3]?=some (.i k)/\T[j*3+1]?=some (.string b)/\T[j*3+2]?=some (.i p)):ri w g j k b p:=
 ⟨h.tok _ _ a.1,h.tok _ _ a.2.1,h.tok _ _ a.2.2⟩
def jn (T:List Value)(i:Nat)(k:Int)(a:ByteArray)(p:Int):Prop:=T[i*3]?=some (.i k)/\T[i*3+1]?=some (.string a)/\T[i*3+2]?=some (.i p)
theorem PR.next {c:Nat}(h:PR T w pp g c i)(f:i<5){a:ByteArray}(d:jn T i k a p)(W:World)(b:Ext w W):
 Calls Tryz.prog 39 #[.pointer (some ⟨pp,0,none⟩)] W fun e w'=>e=.returned (.agg #[.i k,.string a,.i p])/\Ext W w':=
 next39_tok W pp g 5 c i 17 0 (.pointer none) k p a (h.ext b).blk (h.ext b).glt f ((h.ext b).tokAt d)
theorem PR.take {f:Nat}(h:PR T w pp g f i)(l:i<5){a:ByteArray}(j:jn T i k a p)(W:World)(c:Ext w W):
 Calls Tryz.prog 40 #[.pointer (some ⟨pp,0,none⟩)] W fun e w'=>e=.returned (.agg #[.i k,.string a,.i p])/\PR T w' pp g f (i+1)/\Mod [pp] W w':=by
 refine(CU W pp _ _ 17 0 (.pointer none) k p a (h.ext c).blk (by omega) (by omega) (fun n b=>h.next l j n (c.trans b))).mono ?_;rintro e w' ⟨rfl,m,d⟩;exact⟨rfl,(h.ext c).step d (by push_cast;exact m),d⟩
theorem PR.done {a:Nat}(h:PR T w pp g a 5)(W:World)(b:Ext w W):
 Calls Tryz.prog 39 #[.pointer (some ⟨pp,0,none⟩)] W fun e w'=>e=.returned (.agg #[.i 0,.string ⟨#[]⟩,.i 17])/\Ext W w':=
 next39_end W pp 5 a (some ⟨g,0,none⟩) 5 17 0 (.pointer none) (h.ext b).blk (by omega)
theorem Br (k p:Int)(a:ByteArray)(w:World):(Instr.field 109 (.agg #[.i k,.string a,.i p]) 0).run Tryz.prog w=.ok (.i k) w:=by kernel_rfl
theorem Dw (k p:Int)(a:ByteArray)(w:World):(Instr.field 109 (.agg #[.i k,.string a,.i p]) 1).run Tryz.prog w=.ok (.string a) w:=by kernel_rfl
theorem Eu (k p:Int)(a:ByteArray)(w:World):(Instr.field 109 (.agg #[.i k,.string a,.i p]) 2).run Tryz.prog w=.ok (.i p) w:=by kernel_rfl
theorem st7 {B:Nat}{h W:World}{i:Array Value}(m:Mod [pp] h W)(p:W.heap[B]?=some (.cells i 26))(o:i.size=7)(n:h.heap.size<=B)(g f e d c b a:Value):
 (((((((W.setCell ⟨B,0,none⟩ g).setCell ⟨B,1,none⟩ f).setCell ⟨B,2,none⟩ e).setCell ⟨B,3,none⟩ d).setCell ⟨B,4,none⟩ c).setCell ⟨B,5,none⟩ b).setCell ⟨B,6,none⟩ a).heap[B]?=some (.cells #[g,f,e,d,c,b,a] 26)
 /\Mod [pp] h (((((((W.setCell ⟨B,0,none⟩ g).setCell ⟨B,1,none⟩ f).setCell ⟨B,2,none⟩ e).setCell ⟨B,3,none⟩ d).setCell ⟨B,4,none⟩ c).setCell ⟨B,5,none⟩ b).setCell ⟨B,6,none⟩ a)
 /\Mod [B] W (((((((W.setCell ⟨B,0,none⟩ g).setCell ⟨B,1,none⟩ f).setCell ⟨B,2,none⟩ e).setCell ⟨B,3,none⟩ d).setCell ⟨B,4,none⟩ c).setCell ⟨B,5,none⟩ b).setCell ⟨B,6,none⟩ a):=by
 have j:Mod [B] W (((((((W.setCell ⟨B,0,none⟩ g).setCell ⟨B,1,none⟩ f).setCell ⟨B,2,none⟩ e).setCell ⟨B,3,none⟩ d).setCell ⟨B,4,none⟩ c).setCell ⟨B,5,none⟩ b).setCell ⟨B,6,none⟩ a):=((((((ae W ⟨B,0,none⟩ g).trans (ae _ ⟨B,1,none⟩ f)).trans (ae _ ⟨B,2,none⟩ e)).trans (ae _ ⟨B,3,none⟩ d)).trans (ae _ ⟨B,4,none⟩ c)).trans (ae _ ⟨B,5,none⟩ b)).trans (ae _ ⟨B,6,none⟩ a);refine⟨?_,eF m j (fun x k=>.inr (by simp only[aS,aT,or_false] at k;omega)),j⟩;rw[be (be (be (be (be (be (be p g) f) e) d) c) b) a];obtain⟨l⟩:=i;rcases l with _|⟨y,_|⟨w,_|⟨v,_|⟨u,_|⟨t,_|⟨s,_|⟨r,_|⟨q,l⟩⟩⟩⟩⟩⟩⟩⟩<;>simp at o
 simp
theorem l5 {d:Func}{p u:Tmp}{c:TypeId}(h:d.results=#[.cell p c,.tmp u])(b:Array Value)(P:Program)(w:World):
 (results d b).run P w=((asAddr (b.getD p undef)).run P w).andThen fun a f=>((loadVar c a).run P f).andThen fun v e=>.ok (.tuple #[v,b.getD u undef]) e:=by
 simp only[results,h];simp[Sem.run_bind,Result.andThen]
theorem qG {c:Func}{q:Tmp}(h:c.results=#[.cell q 26])(W:World)(B:Nat)(k p:Int)(b:ByteArray)(l:Value)(d:W.heap[B]?=some (.cells (ndC k b l p) 26))(a:Array Value)(e:a.getD q undef=.pointer (some ⟨B,0,none⟩)):
 (results c a).run Tryz.prog W=.ok (.agg (ndC k b l p)) W:=by
 obtain⟨g,f⟩:=blk d;rw[iG h,e];go_simp
theorem PR.mod {S:List Nat}(h:PR T w pp g b i)(a:Mod S w w')(e:¬pp∈S)(d:¬g∈S):PR T w' pp g b i:=
 ⟨a.keep h.blk e,bA h.glt a.size,h.ne,fun j v c=>by rw[tC a h.glt d];exact h.tok j v c⟩
theorem yQ (W:World)(B:Nat)(k p:Int)(c:ByteArray)(b:Bool)(d:W.heap[B]?=some (.cells (ndC k c (.slice none 0 0) p) 26))(a:Array Value)(f:a.getD 2 undef=.pointer (some ⟨B,0,none⟩))(e:a.getD 3 undef=.bool b):
 (results Tryz.f218 a).run Tryz.prog W=.ok (.tuple #[.agg (ndC k c (.slice none 0 0) p),.bool b]) W:=by
 obtain⟨h,g⟩:=blk d;rw[l5 rfl,f,e];go_simp
theorem rD {x:Nat}(h:PR T w pp g x i)(u:i<5){f:ByteArray}(l:jn T i k f p)(I:¬k=4)(H:¬k=5)(G:¬k=6)(J:¬k=3):
 Calls Tryz.prog 218 #[.pointer (some ⟨pp,0,none⟩)] w fun e w'=>e=.returned (.tuple #[.agg (ndC 0 ⟨#[]⟩ (.slice none 0 0) 0),.bool false])/\Ext w w':=by
 have N:=hY (h.next u l);have z:=hY (aq w (.cells (ndC 0 ⟨#[]⟩ (.slice none 0 0) 0) 26) _ rfl);have t:Hid (Ext w (w.alloc (.cells (ndC 0 ⟨#[]⟩ (.slice none 0 0) 0) 26))):=hY ((Ext.refl w).alloc _);clear h l;go_enter Tryz.func218,Tryz.ntmps218;go_upto_region 1 with fail;generalize b:w.heap.size=j at*;have c:=hY b;clear b;generalize w.alloc _=B at*;go_upto_region 2 with(go_at_call 39;refine(N.o _ t.o).m fun a s=>?_);have y:=hY (aq a (.cells #[.i k,.string f,.i p] 109) _ rfl);have r:Hid (Ext a (a.alloc (.cells #[.i k,.string f,.i p] 109))):=hY ((Ext.refl _).alloc _);generalize a.heap.size=K at*;generalize a.alloc _=A at*;have d:=hY (r.o.keep (s.o.keep z.o));have q:=hY (t.o.trans (s.o.trans r.o));obtain⟨F,E⟩:=blk y.o;obtain⟨D,C⟩:=blk d.o;have n:=hY (st7 (pp:=j) (q.o.mod [j]) d.o rfl (by have:=c.o;omega) (.i 0) (.string ⟨#[]⟩) (.slice none 0 0) (.slice none 0 0) (.slice none 0 0) (.i 0) (.i 0));go_wp2_with fail;refine bodyPost_ret (v:=.tuple #[.agg (ndC 0 ⟨#[]⟩ (.slice none 0 0) 0),.bool false]) ?_ rfl ⟨rfl,cz q.o n.o.2.2 (by simp;have:=c.o;omega)⟩;exact yQ _ j _ _ _ _ n.o.1 _ rfl rfl
theorem qf {B:Nat}(h:PR T w pp g B i)(x:i<5){d:ByteArray}(k:jn T i 4 d p):
 Calls Tryz.prog 218 #[.pointer (some ⟨pp,0,none⟩)] w fun e w'=>e=.returned (.tuple #[.agg (ndC 9 d (.slice none 0 0) p),.bool true])/\PR T w' pp g B (i+1)/\Mod [pp] w w':=by
 have N:=hY (h.next x k);have G:=hY (h.take x k);have b:=hY (ab h.blk);have K:=hY h.glt;have L:=hY (aq w (.cells (ndC 0 ⟨#[]⟩ (.slice none 0 0) 0) 26) _ rfl);have q:Hid (Ext w (w.alloc (.cells (ndC 0 ⟨#[]⟩ (.slice none 0 0) 0) 26))):=hY ((Ext.refl w).alloc _);clear h k;go_enter Tryz.func218,Tryz.ntmps218;go_upto_region 1 with fail;generalize f:w.heap.size=F at*;have a:=hY f;clear f;generalize w.alloc _=P at*;go_upto_region 2 with(go_at_call 39;refine(N.o _ q.o).m fun c n=>?_);have E:=hY (aq c (.cells #[.i 4,.string d,.i p] 109) _ rfl);have D:Hid (Ext c (c.alloc (.cells #[.i 4,.string d,.i p] 109))):=hY ((Ext.refl _).alloc _);have J:Hid (w.heap.size<=c.heap.size):=hY ((q.o.trans n.o).size);generalize c.heap.size=S at*;generalize c.alloc _=O at*;have s:=hY (D.o.keep (n.o.keep L.o));have C:=hY (q.o.trans (n.o.trans D.o));obtain⟨u,t⟩:=blk E.o;go_upto_region 5 with(go_at_call 40;refine(G.o _ C.o).m2 fun M I m=>?_);have r:=hY (m.o.keep E.o (by have:=J.o;have:=b.o;have:=a.o;simp;omega));have j:=hY (m.o.keep s.o (by have:=a.o;have:=b.o;simp;omega));clear u t;obtain⟨u,t⟩:=blk r.o;obtain⟨R,Q⟩:=blk j.o;have l:=hY (st7 ((C.o.mod [pp]).trans m.o) j.o rfl (by have:=a.o;omega) (.i 9) (.string d) (.slice none 0 0) (.slice none 0 0) (.slice none 0 0) (.i 0) (.i p));have H:=hY (I.o.mod l.o.2.2 (by have:=a.o;have:=b.o;simp;omega) (by have:=a.o;have:=K.o;simp;omega));go_wp2_with fail;refine bodyPost_ret (v:=.tuple #[.agg (ndC 9 d (.slice none 0 0) p),.bool true]) ?_ rfl ⟨rfl,H.o,l.o.2.1⟩;exact yQ _ F _ _ _ _ l.o.1 _ rfl rfl
theorem kY {E:Nat}(h:PR T w pp g E i){x:ByteArray}(A:∀W,Ext w W->Calls Tryz.prog 39 #[.pointer (some ⟨pp,0,none⟩)] W fun e w'=>e=.returned (.agg #[.i k,.string x,.i p])/\Ext W w')(L:¬k=1)(f d:Int)(b:ByteArray)(a:Option Addr)(n c:Nat):
 Calls Tryz.prog 159 #[.pointer (some ⟨pp,0,none⟩),.agg (ndC f b (.slice a n c) d)] w fun e w'=>e=.returned (.agg (ndC f b (.slice a n c) d))/\Ext w w':=by
 have N:=hY A;have F:=hY h.blk;have H:=hY (aM (aq w (.cells (ndC f b (.slice a n c) d) 26) _ rfl) (.cells (ndC 0 ⟨#[]⟩ (.slice none 0 0) 0) 26));have D:=hY (aq (w.alloc (.cells (ndC f b (.slice a n c) d) 26)) (.cells (ndC 0 ⟨#[]⟩ (.slice none 0 0) 0) 26) _ rfl);have r:Hid (Ext w ((w.alloc (.cells (ndC f b (.slice a n c) d) 26)).alloc (.cells (ndC 0 ⟨#[]⟩ (.slice none 0 0) 0) 26))):=hY (((Ext.refl w).alloc _).alloc _);have t:(w.alloc (.cells (ndC f b (.slice a n c) d) 26)).heap.size=w.heap.size+1:=by show(w.heap.push _).size=_;exact tc ..
 rw[t] at D;clear A h;go_enter Tryz.func159,Tryz.ntmps159;go_upto_region 1 with fail;try rw[t]
 clear t;generalize j:w.heap.size=s at*;have l:=hY j;clear j;generalize(w.alloc _).alloc _=w1 at*;have G:=hY (r.o.keep F.o);obtain⟨z,y⟩:=blk G.o;have M:=Br k p x
 go_loopw [] (fun W=>W=w1) (fun _=>0)
 case atStart=>rfl
 case round=>
  subst hrel;go_upto_region 4 with(go_at_call 39;refine(N.o _ r.o).m fun I q=>?_);have u:=hY (q.o.keep H.o);have m:=hY (q.o.keep D.o);clear z y;obtain⟨z,y⟩:=blk u.o;obtain⟨K,J⟩:=blk m.o;have C:=hY (st7 (pp:=s+1) ((r.o.trans q.o).mod [s+1]) m.o rfl (by have:=l.o;omega) (.i f) (.string b) (.slice none 0 0) (.slice none 0 0) (.slice a n c) (.i 0) (.i d));go_wp2_with fail;refine bodyPost_ret (v:=.agg (ndC f b (.slice a n c) d)) ?_ rfl ⟨rfl,cz (r.o.trans q.o) C.o.2.2 (by simp;have:=l.o;omega)⟩;exact qG rfl _ (s+1) _ _ _ _ C.o.1 _ rfl
theorem kB {G:Nat}(h:PR T w pp g G i){z:ByteArray}(D:∀W,Ext w W->Calls Tryz.prog 39 #[.pointer (some ⟨pp,0,none⟩)] W fun e w'=>e=.returned (.agg #[.i k,.string z,.i p])/\Ext W w')(C:¬k=7)(j:¬k=3)(f d:Int)(b:ByteArray)(a:Option Addr)(n c:Nat):
 Calls Tryz.prog 158 #[.pointer (some ⟨pp,0,none⟩),.agg (ndC f b (.slice a n c) d)] w fun e w'=>e=.returned (.agg (ndC f b (.slice a n c) d))/\Ext w w':=by
 have N:=hY D;have J:=hY (fun W=>kW W k p z C j);have H:=hY h.blk;have L:=hY (aM (aq w (.cells (ndC f b (.slice a n c) d) 26) _ rfl) (.cells (ndC 0 ⟨#[]⟩ (.slice none 0 0) 0) 26));have F:=hY (aq (w.alloc (.cells (ndC f b (.slice a n c) d) 26)) (.cells (ndC 0 ⟨#[]⟩ (.slice none 0 0) 0) 26) _ rfl);have t:Hid (Ext w ((w.alloc (.cells (ndC f b (.slice a n c) d) 26)).alloc (.cells (ndC 0 ⟨#[]⟩ (.slice none 0 0) 0) 26))):=hY (((Ext.refl w).alloc _).alloc _);have x:(w.alloc (.cells (ndC f b (.slice a n c) d) 26)).heap.size=w.heap.size+1:=by show(w.heap.push _).size=_;exact tc ..
 rw[x] at F;clear D h C j;go_enter Tryz.func158,Tryz.ntmps158;go_upto_region 1 with fail;try rw[x]
 clear x;generalize l:w.heap.size=u at*;have q:=hY l;clear l;generalize(w.alloc _).alloc _=w1 at*;have K:=hY (t.o.keep H.o);obtain⟨B,A⟩:=blk K.o
 go_loopw [] (fun W=>W=w1) (fun _=>0)
 case atStart=>rfl
 case round=>
  subst hrel;go_upto_region 5 with(first|(go_at_call 39;refine(N.o _ t.o).m fun O I=>?_)|(go_at_call 41;refine(J.o _).m fun M m=>?_;have s:=hY (I.o.trans m.o)));have y:=hY (s.o.keep L.o);have r:=hY (s.o.keep F.o);clear B A;obtain⟨B,A⟩:=blk y.o;obtain⟨Q,P⟩:=blk r.o;have E:=hY (st7 (pp:=u+1) ((t.o.trans s.o).mod [u+1]) r.o rfl (by have:=q.o;omega) (.i f) (.string b) (.slice none 0 0) (.slice none 0 0) (.slice a n c) (.i 0) (.i d));go_wp2_with fail;refine bodyPost_ret (v:=.agg (ndC f b (.slice a n c) d)) ?_ rfl ⟨rfl,cz (t.o.trans s.o) E.o.2.2 (by simp;have:=q.o;omega)⟩;exact qG rfl _ (u+1) _ _ _ _ E.o.1 _ rfl
end
theorem nS {T:List Value}{w:World}{pp g H i:Nat}(h:PR T w pp g H i)(s:i<5){p:Int}{f:ByteArray}(r:jn T i 1 f p):
 Calls Tryz.prog 156 #[.pointer (some ⟨pp,0,none⟩)] w fun e w'=>e=.returned (.agg (ndC 8 f (.slice none 0 0) p))/\PR T w' pp g H (i+1)/\Mod [pp] w w':=by
 have N:=hY (h.next s r);have L:=hY (h.take s r);have O:=hY (fun W (b:Ext w W)=>rD (h.ext b) s r (by decide) (by decide) (by decide) (by decide));have Q:=hY h.blk;have c:=hY (ab h.blk);have V:=hY h.glt;have Y:=hY (aq w (.cells (ndC 0 ⟨#[]⟩ (.slice none 0 0) 0) 26) _ rfl);have B:Hid (Ext w (w.alloc (.cells (ndC 0 ⟨#[]⟩ (.slice none 0 0) 0) 26))):=hY ((Ext.refl w).alloc _);clear h r;go_enter Tryz.func156,Tryz.ntmps156;go_upto_region 1 with fail;generalize j:w.heap.size=K at*;have a:=hY j;clear j;generalize w.alloc _=w1 at*;go_upto_region 2 with(go_at_call 39;refine(N.o _ B.o).m fun d A=>?_);have X:=hY (aq d (.cells #[.i 1,.string f,.i p] 109) _ rfl);have J:Hid (Ext d (d.alloc (.cells #[.i 1,.string f,.i p] 109))):=hY ((Ext.refl _).alloc _);have U:Hid (w.heap.size<=d.heap.size):=hY ((B.o.trans A.o).size);generalize d.heap.size=b1 at*;generalize d.alloc _=w4 at*;have x:=hY (B.o.trans (A.o.trans J.o));have S:=hY (x.o.keep Q.o);have E:=hY (J.o.keep (A.o.keep Y.o));obtain⟨q,n⟩:=blk S.o;go_upto_region 4 with fail;clear q n;have P:=hY (O.o _ x.o);go_upto_region 5 with(go_at_call 218;refine P.o.m fun m z=>?_);have y:Hid (Ext m (m.alloc (.cells (ndC 0 ⟨#[]⟩ (.slice none 0 0) 0) 26))):=hY ((Ext.refl _).alloc _);generalize m.heap.size=b5 at*;generalize m.alloc _=w6 at*;have I:=hY (x.o.trans (z.o.trans y.o));have k:=hY (y.o.keep (z.o.keep X.o));have D:=hY (y.o.keep (z.o.keep E.o));obtain⟨q,n⟩:=blk k.o;go_upto_region 9 with(go_at_call 40;refine(L.o _ I.o).m2 fun Z R u=>?_);have C:=hY (u.o.keep k.o (by have:=U.o;have:=c.o;have:=a.o;simp;omega));have l:=hY (u.o.keep D.o (by have:=a.o;have:=c.o;simp;omega));clear q n;obtain⟨q,n⟩:=blk C.o;obtain⟨q3,q4⟩:=blk l.o;have t:=hY (st7 ((I.o.mod [pp]).trans u.o) l.o rfl (by have:=a.o;omega) (.i 8) (.string f) (.slice none 0 0) (.slice none 0 0) (.slice none 0 0) (.i 0) (.i p));have M:=hY (R.o.mod t.o.2.2 (by have:=a.o;have:=c.o;simp;omega) (by have:=a.o;have:=V.o;simp;omega));go_wp2_with fail;refine bodyPost_ret (v:=.agg (ndC 8 f (.slice none 0 0) p)) ?_ rfl ⟨rfl,M.o,t.o.2.1⟩;exact qG rfl _ K _ _ _ _ t.o.1 _ rfl
theorem oW {T:List Value}{w:World}{pp g B i:Nat}(h:PR T w pp g B i)(y:i<5){p:Int}{b:ByteArray}(m:jn T i 4 b p):
 Calls Tryz.prog 156 #[.pointer (some ⟨pp,0,none⟩)] w fun e w'=>e=.returned (.agg (ndC 9 b (.slice none 0 0) p))/\PR T w' pp g B (i+1)/\Mod [pp] w w':=by
 have N:=hY (h.next y m);have I:=hY (fun W (l:Ext w W)=>qf (h.ext l) y m);have K:=hY h.blk;have f:=hY (ab h.blk);have Q:=hY h.glt;have S:=hY (aq w (.cells (ndC 0 ⟨#[]⟩ (.slice none 0 0) 0) 26) _ rfl);have F:Hid (Ext w (w.alloc (.cells (ndC 0 ⟨#[]⟩ (.slice none 0 0) 0) 26))):=hY ((Ext.refl w).alloc _);clear h m;go_enter Tryz.func156,Tryz.ntmps156;go_upto_region 1 with fail;generalize d:w.heap.size=G at*;have a:=hY d;clear d;generalize w.alloc _=X at*;go_upto_region 2 with(go_at_call 39;refine(N.o _ F.o).m fun k E=>?_);have D:Hid (Ext k (k.alloc (.cells #[.i 4,.string b,.i p] 109))):=hY ((Ext.refl _).alloc _);generalize k.heap.size=b1 at*;generalize k.alloc _=V at*;have q:=hY (F.o.trans (E.o.trans D.o));have O:=hY (q.o.keep K.o);have t:=hY (D.o.keep (E.o.keep S.o));obtain⟨x,u⟩:=blk O.o;go_upto_region 4 with fail;clear x u;have J:=hY (I.o _ q.o);go_upto_region 5 with(go_at_call 218;refine J.o.m2 fun c M C=>?_);have R:=hY (aq c (.cells (ndC 9 b (.slice none 0 0) p) 26) _ rfl);have r:Hid (Ext c (c.alloc (.cells (ndC 9 b (.slice none 0 0) p) 26))):=hY ((Ext.refl _).alloc _);have s:=hY (C.o.keep t.o (by have:=a.o;have:=f.o;simp;omega));generalize c.heap.size=b5 at*;generalize c.alloc _=U at*;have P:=hY (((q.o.mod [pp]).trans C.o).ext r.o);have j:=hY (r.o.keep s.o);have L:=hY (M.o.ext r.o);obtain⟨x,u⟩:=blk R.o;obtain⟨Z,Y⟩:=blk j.o;have n:=hY (st7 P.o j.o rfl (by have:=a.o;omega) (.i 9) (.string b) (.slice none 0 0) (.slice none 0 0) (.slice none 0 0) (.i 0) (.i p));have H:=hY (L.o.mod n.o.2.2 (by have:=a.o;have:=f.o;simp;omega) (by have:=a.o;have:=Q.o;simp;omega));go_wp2_with fail;refine bodyPost_ret (v:=.agg (ndC 9 b (.slice none 0 0) p)) ?_ rfl ⟨rfl,H.o,n.o.2.1⟩;exact qG rfl _ G _ _ _ _ n.o.1 _ rfl
section
variable {w c:World} {pp:Nat} {g e f:Int}
theorem PR.un5 {T:List Value}{g k:Nat}(h:PR T w pp g k 5)(f d:Int)(b:ByteArray)(a:Option Addr)(n c:Nat)(W:World)(j:Ext w W):
 Calls Tryz.prog 159 #[.pointer (some ⟨pp,0,none⟩),.agg (ndC f b (.slice a n c) d)] W fun e w'=>e=.returned (.agg (ndC f b (.slice a n c) d))/\Ext W w':=
 kY (h.ext j) (fun l i=>h.done l (j.trans i)) (by decide) f d b a n c
theorem PR.bi5 {T:List Value}{g k:Nat}(h:PR T w pp g k 5)(f d:Int)(b:ByteArray)(a:Option Addr)(n c:Nat)(W:World)(j:Ext w W):
 Calls Tryz.prog 158 #[.pointer (some ⟨pp,0,none⟩),.agg (ndC f b (.slice a n c) d)] W fun e w'=>e=.returned (.agg (ndC f b (.slice a n c) d))/\Ext W w':=
 kB (h.ext j) (fun l i=>h.done l (j.trans i)) (by decide) (by decide) f d b a n c
theorem zo:(Tryz.prog.info? 26).map (fun i=>(i.zero,i.size,i.bytes))=some (some (.agg (ndC 0 ⟨#[]⟩ (.slice none 0 0) 0)),7,112):=by kernel_rfl
theorem et (w:World)(o:Obj):(w.alloc o).heap.size=w.heap.size+1:=by show(w.heap.push _).size=_;exact tc ..
theorem Fg (s:ByteArray):(⟨#[]⟩:ByteArray)++s=s:=by
 have h:bl ((⟨#[]⟩:ByteArray)++s)=bl s:=by simp[bl]
 rw[←jw ((⟨#[]⟩:ByteArray)++s),h,jw]
def KwP (T:List Value)(w:World)(pp g d:Nat)(k:Int)(b:ByteArray)(pl:Int)(xs:List Value)(e:Ending)(w':World):Prop:=
 ∃a c,e=.returned (.agg (ndC k b (.slice (some ⟨a,0,none⟩) 2 c) pl))/\w'.ownsRow w.heap.size 26 7 (.slice (some ⟨a,0,none⟩) 2 c) 2 xs/\PR T w' pp g d 5/\Mod [pp] w w'
def Kw3 (d:World)(i g:Int)(e:ByteArray)(h:Int)(f:Value)(c:World):Prop:=
 ∃a b,f=.pointer (some ⟨b,0,none⟩)/\c.heap[a]?=some (.cells (ndC i e (.slice none 0 0) g) 26)/\c.heap[b]?=some (.cells (ndC 5 ⟨#[]⟩ (.slice (some ⟨a,0,none⟩) 1 1) h) 26)/\a≠b/\d.heap.size<=a/\d.heap.size<=b/\Ext d c
theorem kw3 {W:World}{b a:Nat}{h d:Int}{f:ByteArray}(m:W.heap[b]?=some (.cells (ndC h f (.slice none 0 0) g) 26))(n:W.heap[a]?=some (.cells (ndC 0 ⟨#[]⟩ (.slice none 0 0) 0) 26))(j:b≠a)(o:c.heap.size<=b)(l:c.heap.size<=a)(k:Ext c W):
 Kw3 c h g f d (.pointer (some ⟨a,0,none⟩)) (((((((W.setCell ⟨a,0,none⟩ (.i 5)).setCell ⟨a,1,none⟩ (.string ⟨#[]⟩)).setCell ⟨a,2,none⟩ (.slice none 0 0)).setCell ⟨a,3,none⟩ (.slice none 0 0)).setCell ⟨a,4,none⟩ (.slice (some ⟨b,0,none⟩) 1 1)).setCell ⟨a,5,none⟩ (.i 0)).setCell ⟨a,6,none⟩ (.i d)):=by
 have e:=st7 (pp:=a) (k.mod [a]) n rfl l (.i 5) (.string ⟨#[]⟩) (.slice none 0 0) (.slice none 0 0) (.slice (some ⟨b,0,none⟩) 1 1) (.i 0) (.i d);exact⟨b,a,rfl,e.2.2.keep m (by simpa using j),e.1,j,o,l,cz k e.2.2 (by simp;omega)⟩
theorem tS {w10 U w':World}{r:Option Nat}(a:Ext w10 U)(h:U.grownBy w' r):Mod r.toList w10 w':=(a.mod _).trans (ag h)
theorem zw {w10 U w':World}{r:Option Nat}{c a b2:Nat}(d:Ext w10 U)(_:U.grownBy w' r)(b:some c=some a\/a=U.heap.size)(f:b2<w10.heap.size)(e:w.heap.size<=w10.heap.size):a=c\/w.heap.size<=a/\a≠b2:=by
 have:=d.size;rcases b with h|h
 ·exact .inl (ol h).symm
 ·exact .inr ⟨by omega,by omega⟩
theorem kwA {a:World}{b:Nat}{d:ByteArray}(i:a.heap[b]?=some (.cells (ndC g d (.slice none 0 0) e) 26))(j:c.heap.size<=b)(h:Ext c a):Kw3 c g e d f (.pointer (some ⟨a.heap.size,0,none⟩)) (a.alloc (.cells (ndC 5 ⟨#[]⟩ (.slice (some ⟨b,0,none⟩) 1 1) f) 26)):=
 ⟨b,_,rfl,aM i _,aq a _ _ rfl,Nat.ne_of_lt (ab i),j,h.size,h.alloc _⟩
theorem kwB {a:World}{d:ByteArray}(b:Ext c a):Kw3 c g e d f (.pointer (some ⟨a.heap.size+1,0,none⟩)) ((a.alloc (.cells (ndC g d (.slice none 0 0) e) 26)).alloc (.cells (ndC 5 ⟨#[]⟩ (.slice (some ⟨a.heap.size,0,none⟩) 1 1) f) 26)):=
 ⟨a.heap.size,_,rfl,aM (aq a _ _ rfl) _,aq _ _ _ (et _ _).symm,by omega,b.size,Nat.le_succ_of_le b.size,(b.alloc _).alloc _⟩
theorem kwC {a:World}{d:ByteArray}(b:Ext c a):Kw3 c g e d f (.pointer (some ⟨a.heap.size,0,none⟩)) ((a.alloc (.cells (ndC 5 ⟨#[]⟩ (.slice (some ⟨a.heap.size+1,0,none⟩) 1 1) f) 26)).alloc (.cells (ndC g d (.slice none 0 0) e) 26)):=
 ⟨a.heap.size+1,_,rfl,aq _ _ _ (et _ _).symm,aM (aq a _ _ rfl) _,by omega,Nat.le_succ_of_le b.size,b.size,(b.alloc _).alloc _⟩
theorem tL {T:List Value}{g cc:Nat}(h:PR T w pp g cc 3){p y:Int}{m z:ByteArray}(h3:jn T 3 2 m p)(U:jn T 4 4 z y)(bt:(m.size:Int)<=8388608)(f d:Int)(b:ByteArray):
 Calls Tryz.prog 157 #[.pointer (some ⟨pp,0,none⟩),.agg (ndC f b (.slice none 0 0) d)] w (KwP T w pp g cc 5 m p ((ndC f b (.slice none 0 0) d).toList++(ndC 9 z (.slice none 0 0) y).toList)):=by
 have H:=hY h;have N:=hY (h.next (by decide) h3);have T3:=hY h3;have T4:=hY U;have ai:=hY (ab h.blk);have HG:=hY h.glt;have B0:=hY (aM (aq w (.cells (ndC f b (.slice none 0 0) d) 26) _ rfl) (.cells (ndC 0 ⟨#[]⟩ (.slice none 0 0) 0) 26));have B1:=hY (aq (w.alloc (.cells (ndC f b (.slice none 0 0) d) 26)) (.cells (ndC 0 ⟨#[]⟩ (.slice none 0 0) 0) 26) _ rfl);have E1:Hid (Ext w ((w.alloc (.cells (ndC f b (.slice none 0 0) d) 26)).alloc (.cells (ndC 0 ⟨#[]⟩ (.slice none 0 0) 0) 26))):=hY (((Ext.refl w).alloc _).alloc _);have S1:(w.alloc (.cells (ndC f b (.slice none 0 0) d) 26)).heap.size=w.heap.size+1:=by show(w.heap.push _).size=_;exact tc ..
 rw[S1] at B1;clear h h3 U;go_enter Tryz.func157,Tryz.ntmps157;go_upto_region 1 with fail;try rw[S1]
 clear S1;generalize ap:w.heap.size=t at*;have r:=hY ap;clear ap;generalize(w.alloc _).alloc _=w1 at*;have P1:=hY (H.o.ext E1.o);obtain⟨E,R⟩:=blk P1.o.blk;have F0:=Br 2 p m;have F1:=Dw 2 p m;have F2:=Eu 2 p m;go_upto_region 3 with(go_at_call 39;refine(N.o _ E1.o).m fun l k=>?_;have E2:=hY (E1.o.trans k.o);have bj:=hY (k.o.keep B0.o);have aj:=hY (k.o.keep B1.o));clear E R;have KB:Hid (∀W,Ext l W->∀j,W.cell? ⟨t,j,none⟩=(ndC f b (.slice none 0 0) d)[j]?):=hY (fun W k=>(blk (k.keep bj.o)).1);have KN:Hid (∀W,Ext l W->Calls Tryz.prog 39 #[.pointer (some ⟨pp,0,none⟩)] W fun e w'=>e=.returned (.agg #[.i 2,.string m,.i p])/\Ext W w'):=hY (fun W k=>N.o W (E2.o.trans k));have E:=KB.o l (Ext.refl _)
 go_cut [5] from 18 to 23 (fun s5 wx=>Kw3 l f d b p s5 wx)
 case first=>
  go_region_held3 (fun X=>∀j,X.cell? ⟨t,j,none⟩=(ndC f b (.slice none 0 0) d)[j]?)
   (with_reducible (refine KB.o _ ?_;repeat' (first|exact Ext.refl _|exact Q.o|(refine Ext.setCell ?_ ?_ _)|refine Ext.drew ?_|refine Ext.alloc ?_ _|exact gE _|exact Fy _|exact Q.o.size|exact aN Q.o.size (Fy _))))
   ((go_at_call 39;refine(KN.o _ (by repeat' (first|exact Ext.refl _|refine Ext.drew ?_|refine Ext.alloc ?_ _))).m fun D k=>?_;(try(have B:D.heap[l.heap.size]?=some (.cells (ndC 0 ⟨#[]⟩ (.slice none 0 0) 0) 26):=(by with_reducible exact k.o.keep (((Ext.refl _).drew).keep (aq l (.cells (ndC 0 ⟨#[]⟩ (.slice none 0 0) 0) 26) l.heap.size rfl)));obtain⟨z0,bp⟩:=blk B;obtain⟨y0,bs⟩:=blk (aM B (.cells (ndC f b (.slice none 0 0) d) 26));clear B));(try(have B:D.heap[l.heap.size]?=some (.cells (ndC 0 ⟨#[]⟩ (.slice none 0 0) 0) 26):=(by with_reducible exact k.o.keep (((Ext.refl _).drew).keep (aM (aq l (.cells (ndC 0 ⟨#[]⟩ (.slice none 0 0) 0) 26) l.heap.size rfl) (.cells (ndC f b (.slice none 0 0) d) 26))));obtain⟨z1,bo⟩:=blk B;obtain⟨y1,br⟩:=blk (aM B (.cells (ndC f b (.slice none 0 0) d) 26));clear B));(try(have B:D.heap[l.heap.size+1]?=some (.cells (ndC 0 ⟨#[]⟩ (.slice none 0 0) 0) 26):=(by with_reducible exact k.o.keep (((Ext.refl _).drew).keep (aq (l.alloc (.cells (ndC f b (.slice none 0 0) d) 26)) (.cells (ndC 0 ⟨#[]⟩ (.slice none 0 0) 0) 26) (l.heap.size+1) (et _ _).symm)));obtain⟨z2,bn⟩:=blk B;obtain⟨y2,bq⟩:=blk (aM B (.cells (ndC f b (.slice none 0 0) d) 26));clear B));obtain⟨z3,bm⟩:=blk (aq D (.cells (ndC 0 ⟨#[]⟩ (.slice none 0 0) 0) 26) D.heap.size rfl);obtain⟨z4,bl⟩:=blk (aM (aq D (.cells (ndC 0 ⟨#[]⟩ (.slice none 0 0) 0) 26) D.heap.size rfl) (.cells (ndC f b (.slice none 0 0) d) 26));obtain⟨z5,bk⟩:=blk (aq (D.alloc (.cells (ndC f b (.slice none 0 0) d) 26)) (.cells (ndC 0 ⟨#[]⟩ (.slice none 0 0) 0) 26) (D.heap.size+1) (et _ _).symm);have X3:=hY k.o;have Q:=hY (Ext.trans (a:=l) (by repeat' (first|exact Ext.refl _|refine Ext.drew ?_|refine Ext.alloc ?_ _)) k.o)))
  all_goals
   go_wp2_with fail;go_meet
   case rel=>
    with_reducible first
     |exact kwA (X3.o.keep (((Ext.refl _).drew).keep (aq l (.cells (ndC f b (.slice none 0 0) d) 26) l.heap.size rfl))) (gE _) Q.o
     |exact kwB Q.o
     |exact kwC Q.o
     |exact kw3 (X3.o.keep (((Ext.refl _).drew).keep (aM (aq l (.cells (ndC f b (.slice none 0 0) d) 26) l.heap.size rfl) (.cells (ndC 0 ⟨#[]⟩ (.slice none 0 0) 0) 26)))) (X3.o.keep (((Ext.refl _).drew).keep (aq (l.alloc (.cells (ndC f b (.slice none 0 0) d) 26)) (.cells (ndC 0 ⟨#[]⟩ (.slice none 0 0) 0) 26) (l.heap.size+1) (et _ _).symm))) (Nat.ne_of_lt (sx _)) (gE _) (Fy _) Q.o
     |exact kw3 (X3.o.keep (((Ext.refl _).drew).keep (aq (l.alloc (.cells (ndC 0 ⟨#[]⟩ (.slice none 0 0) 0) 26)) (.cells (ndC f b (.slice none 0 0) d) 26) (l.heap.size+1) (et _ _).symm))) (X3.o.keep (((Ext.refl _).drew).keep (aM (aq l (.cells (ndC 0 ⟨#[]⟩ (.slice none 0 0) 0) 26) l.heap.size rfl) (.cells (ndC f b (.slice none 0 0) d) 26)))) (Nat.ne_of_gt (sx _)) (Fy _) (gE _) Q.o
     |exact kw3 (aq D (.cells (ndC f b (.slice none 0 0) d) 26) D.heap.size rfl) (aM (X3.o.keep (((Ext.refl _).drew).keep (aq l (.cells (ndC 0 ⟨#[]⟩ (.slice none 0 0) 0) 26) l.heap.size rfl))) (.cells (ndC f b (.slice none 0 0) d) 26)) (Nat.ne_of_gt (ab (X3.o.keep (((Ext.refl _).drew).keep (aq l (.cells (ndC 0 ⟨#[]⟩ (.slice none 0 0) 0) 26) l.heap.size rfl))))) Q.o.size (gE _) (Q.o.alloc _)
 case rest=>
  obtain⟨s,b2,rfl,hA,h2,al,ao,am,k⟩:=hcut;have EX:=hY (E2.o.trans k);have AX:=hY hA;have BX:=hY h2;have NE:=hY al;have n:Hid (w.heap.size<=s/\w.heap.size<=b2):=hY ⟨aN E2.o.size ao,aN E2.o.size am⟩;have bi:=hY (k.keep aj.o);have af:Hid (t+1≠s/\t+1≠b2):=hY ⟨fun e=>by have:=ab aj.o;omega,fun e=>by have:=ab aj.o;omega⟩;clear hA h2 al ao am k E F0 F1 F2 KB KN;have Z:Hid (s≠pp/\b2≠pp/\t+1≠pp):=hY ⟨fun e=>by have:=ai.o;have:=n.o;have:=r.o;omega,fun e=>by have:=ai.o;have:=n.o;have:=r.o;omega,fun e=>by have:=ai.o;have:=r.o;omega⟩;have PX:=hY (H.o.ext EX.o);generalize wc=w4 at*;go_upto_region 4 with fail
  go_loopw [] (fun W=>(PR T W pp g cc 3/\Mod [pp] w W/\W.heap[t+1]?=some (.cells (ndC 0 ⟨#[]⟩ (.slice none 0 0) 0) 26)/\W.heap[b2]?=some (.cells (ndC 5 ⟨#[]⟩ (.slice (some ⟨s,0,none⟩) 1 1) p) 26)/\W.heap[s]?=some (.cells (ndC f b (.slice none 0 0) d) 26))\/(∃K c,PR T W pp g cc 5/\Mod [pp] w W/\W.heap[t+1]?=some (.cells (ndC 0 ⟨#[]⟩ (.slice none 0 0) 0) 26)/\W.heap[b2]?=some (.cells (ndC 5 m (.slice (some ⟨K,0,none⟩) 2 c) p) 26)/\W.ownsRow w.heap.size 26 7 (.slice (some ⟨K,0,none⟩) 2 c) 2 ((ndC f b (.slice none 0 0) d).toList++(ndC 9 z (.slice none 0 0) y).toList))) (fun W=>match W.cell? ⟨pp,1,none⟩ with|some v=>5-(intOf v).toNat|none=>0)
  case atStart=>exact .inl ⟨PX.o,EX.o.mod _,bi.o,BX.o,AX.o⟩
  case round=>
   rcases hrel with⟨A,hM,hZ,J,hA⟩|⟨K,c,A,hM,hZ,J,hR⟩
   ·have P:=hY A
    have M:=hY hM;have ZZ:=hY hZ;have BB:=hY J;have AA:=hY hA;have M0:=hY (show(match wr.cell? ⟨pp,1,none⟩ with|some v=>5-(intOf v).toNat|none=>0)=2 by rw[(blk A.blk).1 1];rfl);obtain⟨E,R⟩:=blk A.blk;have F0:=Br 2 p m;have F1:=Dw 2 p m;have N2:=hY (A.next (by decide) T3.o);clear A hM hZ J hA;go_upto_region 5 with(go_at_call 39;refine(N2.o _ (Ext.refl _)).m fun w5 Y=>?_);clear E R;have P5:=hY (P.o.ext Y.o);have B5:=hY (Y.o.keep BB.o);have T5:=hY (fun W (k:Ext w5 W)=>P5.o.take (by decide) T3.o W k);obtain⟨E,R⟩:=blk B5.o;obtain⟨r1,r2⟩:=blk (((Ext.refl w5).drew).keep B5.o);have CT:=Fg m;have bb:((⟨#[]⟩:ByteArray).size:Int)<=8388608:=by decide
    go_cut [] from 35 to 41 (fun wx=>PR T wx pp g cc 4/\Mod [pp] w wx/\wx.heap[t+1]?=some (.cells (ndC 0 ⟨#[]⟩ (.slice none 0 0) 0) 26)/\wx.heap[b2]?=some (.cells (ndC 5 m (.slice (some ⟨s,0,none⟩) 1 1) p) 26)/\wx.heap[s]?=some (.cells (ndC f b (.slice none 0 0) d) 26))
    case first=>
     go_region_with (go_at_call 40;refine(T5.o _ (by repeat' (first|exact Ext.refl _|refine Ext.drew ?_|refine Ext.alloc ?_ _))).m2 fun C P6 ax=>?_;have M6:=hY ((Y.o.mod [pp]).trans (Mod.trans (Ext.mod (by repeat' (first|exact Ext.refl _|refine Ext.drew ?_|refine Ext.alloc ?_ _)) [pp]) ax.o));obtain⟨s1,s2⟩:=blk (M6.o.keep BB.o (by have:=Z.o.2.1;simpa using this)))
     all_goals
      have O:=Z.o;have bc:=M6.o.keep BB.o (by simpa using O.2.1);have a5:=M6.o.keep ZZ.o (by simpa using O.2.2);have bd:=M6.o.keep AA.o (by simpa using O.1)
      have bh:Hid (∀V,V=C.setCell ⟨b2,1,none⟩ (.string m)->PR T V pp g cc 4/\Mod [pp] w V/\V.heap[t+1]?=some (.cells (ndC 0 ⟨#[]⟩ (.slice none 0 0) 0) 26)/\V.heap[b2]?=some (.cells (ndC 5 m (.slice (some ⟨s,0,none⟩) 1 1) p) 26)/\V.heap[s]?=some (.cells (ndC f b (.slice none 0 0) d) 26)):=hY (fun V hV=>by
       subst hV;have S:=ae C ⟨b2,1,none⟩ (.string m)
       refine⟨P6.o.mod S (by simpa using O.2.1.symm) (by have:=HG.o;have:=n.o;have:=r.o;simp;omega),eF (M.o.trans M6.o) S (fun x hx=>.inr (by have:=n.o.2;simp at hx;subst hx;exact this)),S.keep a5 (by simpa using af.o.2),be (i:=1) bc (.string m),S.keep bd (by simpa using NE.o)⟩)
      go_wp2_with fail;go_meet
      case rel=>exact bh.o _ rfl
    case rest=>
     obtain⟨A,hM,hZ,J,hA⟩:=hcut;clear E R r1 r2 CT bb;generalize wc=w7 at*;go_upto_region 6 with fail;have P7:=hY A;have M7:=hY hM;have Z7:=hY hZ;have B7:=hY J;have R7:Hid (w7.ownsRow w.heap.size 26 7 (.slice (some ⟨s,0,none⟩) 1 1) 1 (ndC f b (.slice none 0 0) d).toList):=hY ⟨rfl,.inr ⟨s,1,_,rfl,n.o.1,hA,gE _,by unfold maxLen;omega,rfl,rfl⟩⟩;have PI:=hY (fun W (k:Ext w7 W)=>oW (P7.o.ext k) (by decide) T4.o);obtain⟨E,R⟩:=blk J;obtain⟨r1,r2⟩:=blk (((Ext.refl w7).drew).keep J);obtain⟨i0,hi,a8,a7,a6⟩:=info_parts zo;clear A hM hZ J hA;have a0:Hid ((1+1)*112<=140737488355328/\1+1<=maxLen):=hY ⟨by decide,by unfold maxLen;omega⟩;have az:Hid (∀u∈(ndC 9 z (.slice none 0 0) y).toList,u.oneCell'=true):=hY (by intro u hu;simp only[aS,aT,or_false] at hu;rcases hu with rfl|rfl|rfl|rfl|rfl|rfl|rfl<;>rfl);have ad:Hid (¬b2∈(Value.slice (some ⟨s,0,none⟩) 1 1).ownBlock.toList):=hY (by simp[Value.ownBlock];exact fun e=>NE.o e.symm);have O:=Z.o
     have a3:Hid (∀(V C:World) (L c6:Nat),Mod [pp] w C->PR T C pp g cc 5->C.heap[t+1]?=some (.cells (ndC 0 ⟨#[]⟩ (.slice none 0 0) 0) 26)->C.heap[b2]?=some (.cells (ndC 5 m (.slice (some ⟨s,0,none⟩) 1 1) p) 26)->C.ownsRow w.heap.size 26 7 (.slice (some ⟨L,0,none⟩) (1+1) c6) (1+1) ((ndC f b (.slice none 0 0) d).toList++(ndC 9 z (.slice none 0 0) y).toList)->(L=s\/w.heap.size<=L/\L≠b2)->V=C.setCell ⟨b2,4,none⟩ (.slice (some ⟨L,0,none⟩) (1+1) c6)->∃K c,PR T V pp g cc 5/\Mod [pp] w V/\V.heap[t+1]?=some (.cells (ndC 0 ⟨#[]⟩ (.slice none 0 0) 0) 26)/\V.heap[b2]?=some (.cells (ndC 5 m (.slice (some ⟨K,0,none⟩) 2 c) p) 26)/\V.ownsRow w.heap.size 26 7 (.slice (some ⟨K,0,none⟩) 2 c) 2 ((ndC f b (.slice none 0 0) d).toList++(ndC 9 z (.slice none 0 0) y).toList)):=hY (fun V C L c6 hm hp hz hb hr hg hV=>by
      subst hV;have S:=ae C ⟨b2,4,none⟩ (.slice (some ⟨L,0,none⟩) (1+1) c6)
      refine⟨L,c6,hp.mod S (by simpa using O.2.1.symm) (by have:=HG.o;have:=n.o;have:=r.o;simp;omega),eF hm S (fun x hx=>.inr (by have:=n.o.2;simp at hx;subst hx;exact this)),S.keep hz (by simpa using af.o.2),be (i:=4) hb _,S.row hr (fun q hq hx=>by cases hq;simp at hx;rcases hg with h|h;exact NE.o (h.symm.trans hx);exact h.2 hx)⟩)
     go_region_law (first
      |((refine step_append_lies _ rfl _ _ _ rfl w.heap.size 26 i0 _ 7 112 Tryz.underlying24 hi a8 a7 a6 rfl (by decide) (.slice (some ⟨s,0,none⟩) 1 1) 1 (ndC f b (.slice none 0 0) d).toList ?hs (ak bf.o (by repeat' (first|exact Ext.refl _|refine Ext.drew ?_|refine Ext.alloc ?_ _))) ⟨w10.heap.size,0,none⟩ 1 1 (ndC 9 z (.slice none 0 0) y).toList ?hx rfl ?hnews ?h1 (by decide) a0.o.2 a0.o.1 ?hb _ rfl ?_;(case hs=>simp[Act.eval,Act.put]);(case hx=>simp[Act.eval,Act.put]);(case hnews=>exact World.news_of_block (by first|exact aq w10 (.cells (ndC 9 z (.slice none 0 0) y) 26) w10.heap.size rfl|exact((Ext.refl _).drew).keep (aq w10 (.cells (ndC 9 z (.slice none 0 0) y) 26) w10.heap.size rfl)));(case h1=>exact az.o);(case hb=>exact aN ah.o.size (Ext.size (by repeat' (first|exact Ext.refl _|refine Ext.drew ?_|refine Ext.alloc ?_ _))));intro L c6 a4 aa F ar ba;have OW:=hY aa;have GR:=hY F;have AT:=hY ar;clear aa F ar ba;obtain⟨x1,x2⟩:=blk ((ag GR.o).keep (Ext.keep (by repeat' (first|exact Ext.refl _|refine Ext.drew ?_|refine Ext.alloc ?_ _)) I.o) ad.o)))
      |(go_simp;go_at_call 156;refine(PI.o _ (by repeat' (first|exact Ext.refl _|refine Ext.drew ?_|refine Ext.alloc ?_ _))).m2 fun w8 P8 aw=>?_;have M8:=hY (Mod.trans (Ext.mod (by repeat' (first|exact Ext.refl _|refine Ext.drew ?_|refine Ext.alloc ?_ _)) [pp]) aw.o:Mod [pp] w7 w8);have B8:=hY (M8.o.keep B7.o (by simpa using O.2.1));obtain⟨s1,s2⟩:=blk B8.o)
      |(go_simp;go_at_call 159;refine(P8.o.un5 9 y z none 0 0 _ (by repeat' (first|exact Ext.refl _|refine Ext.drew ?_|refine Ext.alloc ?_ _))).m fun w9 ay=>?_;have E9:=hY (Ext.trans (by repeat' (first|exact Ext.refl _|refine Ext.drew ?_|refine Ext.alloc ?_ _)) ay.o:Ext w8 w9);obtain⟨t1,t2⟩:=blk (E9.o.keep B8.o))
      |(go_simp;go_at_call 158;refine(P8.o.bi5 9 y z none 0 0 _ (by repeat' (first|exact E9.o|exact Ext.refl _|refine Ext.drew ?_|refine Ext.alloc ?_ _))).m fun w10 ac=>?_;have G:=hY (Ext.trans (by repeat' (first|exact E9.o|exact Ext.refl _|refine Ext.drew ?_|refine Ext.alloc ?_ _)) ac.o:Ext w8 w10);have I:=hY (G.o.keep B8.o);obtain⟨u1,u2⟩:=blk I.o;obtain⟨v1,v2⟩:=blk (aM I.o (.cells (ndC 9 z (.slice none 0 0) y) 26));have ah:=hY ((M7.o.trans M8.o).ext G.o);have bf:=hY (ak (M8.o.row R7.o (fun q hq hx=>by cases hq;exact O.1 (by simpa using hx))) G.o)))
     all_goals
      have GM:=tS (w10:=w10) (by repeat' (first|exact Ext.refl _|refine Ext.drew ?_|refine Ext.alloc ?_ _)) GR.o;have GA:=zw (w:=w) (w10:=w10) (b2:=b2) (by repeat' (first|exact Ext.refl _|refine Ext.drew ?_|refine Ext.alloc ?_ _)) GR.o AT.o (ab I.o) ah.o.size;have FV:=a3.o _ a4 L c6 (eF ah.o GM (fun x hx=>.inr (by have:=n.o.1;simp[Value.ownBlock] at hx;subst hx;exact this))) ((P8.o.ext G.o).mod GM (by simp[Value.ownBlock];exact fun e=>O.1 e.symm) (by have:=HG.o;have:=n.o;have:=r.o;simp[Value.ownBlock];omega)) (GM.keep (G.o.keep (M8.o.keep Z7.o (by simpa using O.2.2))) (by simp[Value.ownBlock];exact af.o.1)) (GM.keep I.o ad.o) OW.o GA rfl;have FW:=hY FV;clear FV GM GA;go_wp2_with fail;go_roundw
      case rel=>exact .inr FW.o
      case measure=>
       obtain⟨_,_,a9,_⟩:=FW.o;have a1:=(blk a9.blk).1 1;have a2:=M0.o;rw[a2];erw[a1];exact Nat.zero_lt_succ 1
   ·have P:=hY A
    have M:=hY hM;have RR:=hY hR;have BB:=hY J;have ZZ:=hY hZ;obtain⟨E,R⟩:=blk A.blk;have F0:=Br 0 17 ⟨#[]⟩;clear A hM hZ J hR;go_upto_region 7 with(go_at_call 39;refine(P.o.done _ (Ext.refl _)).m fun w5 Y=>?_);clear E R;have B5:=hY (Y.o.keep BB.o);have Z5:=hY (Y.o.keep ZZ.o);obtain⟨E,R⟩:=blk B5.o;obtain⟨q3,q4⟩:=blk Z5.o;have ST:=hY (st7 (M.o.ext Y.o) Z5.o rfl (by have:=r.o;omega) (.i 5) (.string m) (.slice none 0 0) (.slice none 0 0) (.slice (some ⟨K,0,none⟩) 2 c) (.i 0) (.i p));have SP:=hY ((P.o.ext Y.o).mod ST.o.2.2 (by have:=Z.o.2.2;simpa using this.symm) (by have:=HG.o;have:=r.o;simp;omega))
    have bg:Hid (K≠t+1):=hY (fun e=>by
     rcases RR.o.2 with⟨h2,_⟩|⟨g',c',bu,h2,h3,U,h5,h6,h7,h8⟩
     ·cases h2
     ·cases h2
      rw[e,ZZ.o] at U;injection U with U;injection U with U _ _;rw[←U] at h7;have h9:7=c*7:=h7
      omega)
    have RF:=hY (ST.o.2.2.row (ak RR.o Y.o) (fun q hq hx=>by cases hq;exact bg.o (by simpa using hx)));go_wp2_with fail;refine bodyPost_ret (v:=.agg (ndC 5 m (.slice (some ⟨K,0,none⟩) 2 c) p)) ?_ rfl ⟨K,c,rfl,RF.o,SP.o,ST.o.2.1⟩;exact qG rfl _ (t+1) _ _ _ _ ST.o.1 _ rfl
end
theorem lY {w:World}{b a size n:Nat}{e:TypeId}{v:Value}{xs:List Value}(h:w.ownsRow b e size v n xs)(d:a<=b):w.ownsRow a e size v n xs:=
 ⟨h.1,h.2.imp id (fun⟨g,c,cur,h2,h3,r⟩=>⟨g,c,cur,h2,aN d h3,r⟩)⟩
theorem tM (w:World)(pp:Nat)(k p:Int)(b m:ByteArray)(c:¬k=7)(d:Calls Tryz.prog 39 #[.pointer (some ⟨pp,0,none⟩)] w fun e w'=>e=.returned (.agg #[.i k,.string b,.i p])/\Ext w w'):
 Calls Tryz.prog 111 #[.pointer (some ⟨pp,0,none⟩),.string m] w fun e w'=>e=.returned (.bool false)/\Ext w w':=by
 have N:=hY d;have M:=hY (fun W=>jz W k p b m c);clear d c;go_enter Tryz.func111,Tryz.ntmps111;go_wp2_with (first|(go_at_call 39;refine N.o.m fun j g=>?_)|(go_at_call 107;refine(M.o _).m fun h f=>?_));go_ret;exact⟨rfl,g.o.trans f.o⟩
theorem qk {T:List Value}{w:World}{pp g P:Nat}(h:PR T w pp g P 2){f m p4:Int}{d l it:ByteArray}(O:jn T 2 1 d f)(h3:jn T 3 2 l m)(h4:jn T 4 4 it p4)(z:(l.size:Int)<=8388608):
 Calls Tryz.prog 113 #[.pointer (some ⟨pp,0,none⟩)] w (KwP T w pp g P 5 l m ((ndC 8 d (.slice none 0 0) f).toList++(ndC 9 it (.slice none 0 0) p4).toList)):=by
 have H:=hY h;have N:=hY (h.next (by decide) O);have Y:=hY (fun W (a:Ext w W)=>nS (h.ext a) (by decide) O);have Q:=hY h3;have T4:=hY h4;have HK:=hY z;have s:=hY (ab h.blk);have HG:=hY h.glt;have B0:=hY (aq w (.cells (ndC 0 ⟨#[]⟩ (.slice none 0 0) 0) 26) _ rfl);have E1:Hid (Ext w (w.alloc (.cells (ndC 0 ⟨#[]⟩ (.slice none 0 0) 0) 26))):=hY ((Ext.refl w).alloc _);clear h O h3 h4 z;go_enter Tryz.func113,Tryz.ntmps113;go_upto_region 1 with fail;generalize A:w.heap.size=V at*;have ac:=hY A;clear A;generalize w.alloc _=w1 at*;go_upto_region 2 with(go_at_call 39;refine(N.o _ E1.o).m fun y E3=>?_);have B1:=hY (aq y (.cells #[.i 1,.string d,.i f] 109) _ rfl);have E4:Hid (Ext y (y.alloc (.cells #[.i 1,.string d,.i f] 109))):=hY ((Ext.refl _).alloc _);generalize y.heap.size=b1 at*;generalize y.alloc _=M at*;have EF:=hY (E1.o.trans (E3.o.trans E4.o));have P4:=hY (H.o.ext EF.o);have ai:=hY (P4.o.ext (Ext.refl M).drew);have ag:=hY (E4.o.keep (E3.o.keep B0.o))
 have I:Hid (∀X,Ext M X->(∀j,X.cell? ⟨pp,j,none⟩=(mc (.slice (some ⟨g,0,none⟩) 5 P) 2 17 0 (.pointer none))[j]?)/\(∀j,X.cell? ⟨b1,j,none⟩=(#[.i 1,.string d,.i f]:Array Value)[j]?)/\X.cell? ⟨g,9,none⟩=some (.i 2)/\X.cell? ⟨g,10,none⟩=some (.string l)/\X.cell? ⟨g,11,none⟩=some (.i m)):=hY (fun X a=>by
  obtain⟨t1,t2,t3⟩:=(P4.o.ext a).tokAt Q.o
  exact⟨(blk (P4.o.ext a).blk).1,(blk (a.keep B1.o)).1,t1,t2,t3⟩)
 obtain⟨u,t,q3,q4,q5⟩:=I.o M (Ext.refl _)
 have hw3:IntKind.i64.wrap 3=3:=by decide
 go_region_held3 (fun X=>(∀j,X.cell? ⟨pp,j,none⟩=(mc (.slice (some ⟨g,0,none⟩) 5 P) 2 17 0 (.pointer none))[j]?)/\(∀j,X.cell? ⟨b1,j,none⟩=(#[.i 1,.string d,.i f]:Array Value)[j]?)/\X.cell? ⟨g,9,none⟩=some (.i 2)/\X.cell? ⟨g,10,none⟩=some (.string l)/\X.cell? ⟨g,11,none⟩=some (.i m))
  (with_reducible (first|exact I.o _ (Ext.refl _)|exact I.o _ ((Ext.refl _).drew)|exact I.o _ E5.o))
  ((go_at_call 107;refine(jz _ 2 m l _ (by decide)).m fun w5 a=>?_;have E5:=hY (Ext.trans (by repeat' (first|exact Ext.refl _|refine Ext.drew ?_)) a.o:Ext M w5)))
 clear u t q3 q4 q5 I hw3;have EQ:=hY (EF.o.trans E5.o);have af:=hY (E5.o.keep ag.o);go_upto_region 7 with fail;go_upto_region 8 with(go_at_call 156;refine(Y.o _ EQ.o).m2 fun x P6 M6=>?_);have ae:=hY (M6.o.keep af.o (by have:=s.o;simp;omega));have B2:=hY (aq x (.cells (ndC 8 d (.slice none 0 0) f) 26) _ rfl);have E7:Hid (Ext x (x.alloc (.cells (ndC 8 d (.slice none 0 0) f) 26))):=hY ((Ext.refl _).alloc _);generalize x.heap.size=b2 at*;generalize x.alloc _=w7 at*;have P7:=hY (P6.o.ext E7.o);have K:=hY (E7.o.keep ae.o);have M7:=hY (((EQ.o.mod [pp]).trans M6.o).ext E7.o);obtain⟨u,t⟩:=blk B2.o
 go_upto_region 9 with(first
  |(go_at_call 159;refine(kY P7.o (P7.o.next (by decide) Q.o) (by decide) 8 f d none 0 0).m fun w8 a=>?_;have E8:=hY a.o;have Z:=hY (P7.o.ext a.o))
  |(go_at_call 158;refine(kB Z.o (Z.o.next (by decide) Q.o) (by decide) (by decide) 8 f d none 0 0).m fun w9 a=>?_;have S:=hY (E8.o.trans a.o);have P9:=hY (Z.o.ext a.o))
  |(go_at_call 157;refine(tL P9.o Q.o T4.o HK.o 8 f d).mono ?_;rintro e b ⟨r,c,rfl,hR,B,C⟩;have D:=hY hR;have F:=hY B;have G:=hY C;clear hR B C))
 clear u t;have LW:Hid (w.heap.size<=w9.heap.size/\V<w9.heap.size):=hY ⟨aN M7.o.size S.o.size,bA (ab K.o) S.o.size⟩;have L:=hY (G.o.keep (S.o.keep K.o) (by have:=s.o;simp;omega));have MX:=hY ((M7.o.ext S.o).trans G.o);have B3:=hY (aq b (.cells (ndC 5 l (.slice (some ⟨r,0,none⟩) 2 c) m) 26) _ rfl);have J:Hid (Ext b (b.alloc (.cells (ndC 5 l (.slice (some ⟨r,0,none⟩) 2 c) m) 26))):=hY ((Ext.refl _).alloc _);generalize b.heap.size=b3 at*;generalize b.alloc _=U at*;have E:=hY (F.o.ext J.o);obtain⟨u,t⟩:=blk E.o.blk;have aa:=hY (tM U pp 0 17 ⟨#[]⟩ ⟨#[59]⟩ (by decide) (E.o.done _ (Ext.refl _)));go_upto_region 10 with(go_at_call 111;refine aa.o.m fun ah a=>?_;have n:=hY (J.o.trans a.o);have ad:=hY (a.o.keep B3.o));clear u t;have p:=hY (n.o.keep L.o);obtain⟨u,t⟩:=blk ad.o;obtain⟨q3,q4⟩:=blk p.o;have R:=hY (st7 (MX.o.ext n.o) p.o rfl (by have:=ac.o;omega) (.i 5) (.string l) (.slice none 0 0) (.slice none 0 0) (.slice (some ⟨r,0,none⟩) 2 c) (.i 0) (.i m));have SP:=hY ((F.o.ext n.o).mod R.o.2.2 (by have:=s.o;simp;omega) (by have:=HG.o;simp;omega))
 have RF:=hY (lY (R.o.2.2.row (ak D.o n.o) (fun q hq hx=>by
  cases hq;have h1:r=V:=by simpa using hx
  have O:=(au D.o (k:=r) (by simp[Value.ownBlock])).1;have:=LW.o
  omega)) LW.o.1)
 go_wp2_with fail;refine bodyPost_ret (v:=.agg (ndC 5 l (.slice (some ⟨r,0,none⟩) 2 c) m)) ?_ rfl ⟨r,c,rfl,RF.o,SP.o,R.o.2.1⟩;exact qG rfl _ V _ _ _ _ R.o.1 _ rfl
def Ea (d c b:Value)(a:Act):Prop:=a.defers=[]/\a.tmps.size=67/\a.tmps[0]?=some d/\a.tmps[1]?=some c/\a.tmps[5]?=some b
theorem Ea.open {d c b:Value}{a:Act}(h:Ea d c b a):∃u:Nat->Value,a={tmps:=(frL u [(0,d),(1,c),(5,b)] 0 67).toArray,defers:=[]}:=by
 obtain⟨f,e,j,i,g⟩:=h;exact jE f e (by simp[j,i,g])
structure StF (T:List Value)(w:World)(pp g cc:Nat)(kt:ByteArray)(p1 p3:Int)(xs:List Value)(W:World)(gL cL gR gN c:Nat):Prop where
 row:W.ownsRow w.heap.size 26 7 (.slice (some ⟨gL,0,none⟩) 1 cL) 1 (ndC 3 ⟨#[]⟩ (.slice (some ⟨gR,0,none⟩) 1 1) p1).toList
 ret:W.heap[gR]?=some (.cells (ndC 5 kt (.slice (some ⟨gN,0,none⟩) 2 c) p3) 26)
 lo:w.heap.size<=gR
 args:W.ownsRow w.heap.size 26 7 (.slice (some ⟨gN,0,none⟩) 2 c) 2 xs
 pr:PR T W pp g cc 5
 mod:Mod [pp] w W
theorem StF.ext {T:List Value}{w:World}{pp g k:Nat}{e:ByteArray}{d b:Int}{xs:List Value}{W W':World}{j l f i c:Nat}(h:StF T w pp g k e d b xs W j l f i c)(a:Ext W W'):StF T w pp g k e d b xs W' j l f i c:=
 ⟨ak h.row a,a.keep h.ret,h.lo,ak h.args a,h.pr.ext a,h.mod.ext a⟩
def StP (T:List Value)(w:World)(pp g k:Nat)(h:ByteArray)(f d:Int)(xs:List Value)(e:Ending)(W:World):Prop:=∃a b i j c,e=.returned (.slice (some ⟨a,0,none⟩) 1 b)/\StF T w pp g k h f d xs W a b i j c
def J47 (T:List Value)(w:World)(pp g k:Nat)(h:ByteArray)(f e:Int)(xs:List Value)(l:Nat)(a:Act)(W:World):Prop:=l=1/\∃b d i j c,Ea (.pointer (some ⟨pp,0,none⟩)) (.string ⟨#[]⟩) (.slice (some ⟨b,0,none⟩) 1 d) a/\StF T w pp g k h f e xs W b d i j c
theorem PR.closed {T:List Value}{w:World}{pp g a i:Nat}(h:PR T w pp g a i)(b:Bool)(c:decide ((5:Int)<=(i:Int))=b):Calls Tryz.prog 112 #[.pointer (some ⟨pp,0,none⟩),.string ⟨#[]⟩] w fun e w'=>e=.returned (.bool b)/\Ext w w':=by
 have:=x7 w pp 5 a (some ⟨g,0,none⟩) (i:Int) 17 0 (.pointer none) h.blk
 rwa [show decide (((5:Nat):Int)<=(i:Int))=b from c] at this
theorem rB {T:List Value}{w:World}{pp g z:Nat}(h:PR T w pp g z 1){m K f J:Int}{I d L:ByteArray}(R:jn T 1 7 ⟨#[94]⟩ m)(h2:jn T 2 1 I K)(h3:jn T 3 2 d f)(h4:jn T 4 4 L J)(t:(d.size:Int)<=8388608):
 Calls Tryz.prog 47 #[.pointer (some ⟨pp,0,none⟩),.string ⟨#[]⟩] w (StP T w pp g z d m f ((ndC 8 I (.slice none 0 0) K).toList++(ndC 9 L (.slice none 0 0) J).toList)):=by
 have H:=hY h;have I1:=hY (fun W (a:Ext w W)=>xB W pp g 5 z 1 17 0 (.pointer none) m ⟨#[94]⟩ (h.ext a).blk (h.ext a).glt (by decide) ((h.ext a).tokAt R));have T2:=hY h2;have T3:=hY h3;have T4:=hY h4;have TK:=hY (fun W (a:Ext w W)=>h.take (by decide) R W a);have HK:=hY t;have CL:=hY (h.closed false (by decide));have ae:=hY (ab h.blk);obtain⟨s,r⟩:=blk h.blk;clear h R h2 h3 h4 t;generalize hxs:(ndC 8 I (.slice none 0 0) K).toList++(ndC 9 L (.slice none 0 0) J).toList=xs;have XS:=hY hxs;clear hxs;go_enter Tryz.func47,Tryz.ntmps47;go_wp2_with fail;refine gG (J47 T w pp g z d m f xs) (fun _ _ _=>0) ?_ ?_ ?_
 ·rintro l a' w' ⟨rfl,_⟩
  rfl
 ·rintro l a' w' ⟨rfl,gL,cL,gR,j,c,y,F⟩ LK
  clear LK s r;obtain⟨u,rfl⟩:=y.open;simp only[frL,gK,Nat.reduceAdd]
  conv=>arg 2;whnf
  have S:=hY F;have C5:=hY (F.pr.closed true (by decide));obtain⟨s,r⟩:=blk F.pr.blk;clear F y;go_wp2_with (go_at_call 112;refine C5.o.m fun q E5=>?_);rw[rn];go_ret;exact⟨gL,cL,gR,j,c,rfl,S.o.ext E5.o⟩
 ·intro X
  clear X;go_wp2_with fail;refine wp_label ?_;go_upto_region 4 with(go_at_call 112;refine CL.o.m fun w2 E2=>?_);clear s r
  go_upto_region 6 with(first
   |(go_at_call 111;refine(I1.o _ E2.o).m fun w3 a=>?_;have E3:=hY (E2.o.trans a.o))
   |(go_at_call 40;refine(TK.o _ E3.o).m2 fun w4 P4 x=>?_;have M4:=hY ((E3.o.mod [pp]).trans x.o);have F2:=Eu 7 m ⟨#[94]⟩))
  try clear F2
  have E:=hY (qk P4.o T2.o T3.o T4.o HK.o);rw[XS.o] at E;go_upto_region 7 with(go_at_call 113;refine E.o.mono ?_;rintro e q ⟨j,c,rfl,hR,v,x⟩;have R5:=hY (lY hR M4.o.size);have P5:=hY v;have M5:=hY (M4.o.trans x);clear hR v x);have B7:=hY (aq q (.cells (ndC 5 d (.slice (some ⟨j,0,none⟩) 2 c) f) 26) _ rfl);have Z:Hid (Ext q (q.alloc (.cells (ndC 5 d (.slice (some ⟨j,0,none⟩) 2 c) f) 26))):=hY ((Ext.refl _).alloc _);generalize q.heap.size=b7 at*;generalize q.alloc _=b at*;have U:=hY (M5.o.ext Z.o);have P7:=hY (P5.o.ext Z.o);have R7:=hY (ak R5.o Z.o);obtain⟨s,r⟩:=blk B7.o;obtain⟨i0,hi,O,N,M⟩:=info_parts zo;have C:Hid ((0+1)*112<=140737488355328/\0+1<=maxLen):=hY ⟨by decide,by unfold maxLen;omega⟩;generalize hRR:(ndC 3 ⟨#[]⟩ (.slice (some ⟨b.heap.size,0,none⟩) 1 1) m)=p;have B:Hid (∀u∈p.toList,u.oneCell'=true):=hY (by subst hRR;intro u hu;simp only[aS,aT,or_false] at hu;rcases hu with rfl|rfl|rfl|rfl|rfl|rfl|rfl<;>rfl);have D:=hY (World.news_of_block (aq (b.alloc (.cells (ndC 5 d (.slice (some ⟨j,0,none⟩) 2 c) f) 26)) (.cells p 26) (b.heap.size+1) (et _ _).symm));have BR:=hY (aM (aq b (.cells (ndC 5 d (.slice (some ⟨j,0,none⟩) 2 c) f) 26) _ rfl) (.cells p 26));have E8:Hid (Ext b ((b.alloc (.cells (ndC 5 d (.slice (some ⟨j,0,none⟩) 2 c) f) 26)).alloc (.cells p 26))):=hY (((Ext.refl _).alloc _).alloc _);have A:Hid (((b.alloc (.cells (ndC 5 d (.slice (some ⟨j,0,none⟩) 2 c) f) 26)).alloc (.cells p 26)).ownsRow w.heap.size 26 7 (.slice none 0 0) 0 []):=hY ⟨rfl,.inl ⟨rfl,rfl⟩⟩;have HB:Hid (w.heap.size<=((b.alloc (.cells (ndC 5 d (.slice (some ⟨j,0,none⟩) 2 c) f) 26)).alloc (.cells p 26)).heap.size):=hY (aN U.o.size E8.o.size);have V:Hid (w.heap.size<=b.heap.size):=hY U.o.size;have ad:Hid (p=ndC 3 ⟨#[]⟩ (.slice (some ⟨b.heap.size,0,none⟩) 1 1) m):=hY hRR.symm;subst hRR;go_upto_region 8 with(at_builtin;refine wpList_append_lies _ rfl (.tmp 26) (.tmp 31) 24 rfl w.heap.size 26 i0 _ 7 112 Tryz.underlying24 hi O N M rfl (by decide) (.slice none 0 0) 0 [] rfl A.o ⟨b.heap.size+1,0,none⟩ 1 1 _ rfl rfl D.o B.o (by decide) C.o.2 C.o.1 HB.o _ rfl ?_;intro g6 q6 G n i Q P;have OW:=hY n;have GR:=hY i;clear n i Q P);have Y:Hid (Ext b G):=hY (cz E8.o (ag GR.o) (fun k hk=>by simp[Value.ownBlock] at hk));have SF:Hid (StF T w pp g z d m f xs G g6 q6 b.heap.size j c):=hY ⟨OW.o,(ag GR.o).keep BR.o (by simp[Value.ownBlock]),V.o,ak R7.o Y.o,P7.o.ext Y.o,U.o.ext Y.o⟩;have I9:=hY (tM G pp 0 17 ⟨#[]⟩ ⟨#[46]⟩ (by decide) (SF.o.pr.done _ (Ext.refl _)));clear s r;go_wp2_with (go_at_call 111;refine I9.o.m fun ac aa=>?_);refine wp_goto ?_;refine⟨rfl,g6,q6,b.heap.size,j,c,⟨rfl,rfl,rfl,rfl,rfl⟩,SF.o.ext aa.o⟩
theorem tk0:jn lf.flatten 0 1 ⟨#[102,111,111]⟩ 0:=⟨rfl,rfl,rfl⟩
theorem tk1:jn lf.flatten 1 7 ⟨#[94]⟩ 4:=⟨rfl,rfl,rfl⟩
theorem tk2:jn lf.flatten 2 1 ⟨#[115,101,108,102]⟩ 6:=⟨rfl,rfl,rfl⟩
theorem tk3:jn lf.flatten 3 2 ⟨#[98,97,114,58]⟩ 11:=⟨rfl,rfl,rfl⟩
theorem tk4:jn lf.flatten 4 4 ⟨#[51]⟩ 16:=⟨rfl,rfl,rfl⟩
theorem Eh (W:World)(B:Nat)(k p:Int)(b:ByteArray)(l u v:Value)(c:W.heap[B]?=some (.cells (ndC k b l p) 26))(a:Array Value)(f:a.getD 4 undef=.pointer (some ⟨B,0,none⟩))(e:a.getD 5 undef=u)(d:a.getD 6 undef=v):
 (results Tryz.f48 a).run Tryz.prog W=.ok (.tuple #[.agg (ndC k b l p),u,v]) W:=by
 obtain⟨h,g⟩:=blk c;rw[dU rfl,f,e,d];go_simp
theorem Ej (W:World)(B:Nat)(k p:Int)(b:ByteArray)(l u v:Value)(c:W.heap[B]?=some (.cells (ndC k b l p) 26))(a:Array Value)(f:a.getD 2 undef=.pointer (some ⟨B,0,none⟩))(e:a.getD 3 undef=u)(d:a.getD 4 undef=v):
 (results Tryz.f15 a).run Tryz.prog W=.ok (.tuple #[.agg (ndC k b l p),u,v]) W:=by
 obtain⟨h,g⟩:=blk c;rw[dU rfl,f,e,d];go_simp
theorem zy {T:List Value}{w:World}{pp g r i:Nat}(h:PR T w pp g r i)(f d:Int)(b:ByteArray)(a:Option Addr)(n c:Nat):
 Calls Tryz.prog 48 #[.pointer (some ⟨pp,0,none⟩),.agg (ndC f b (.slice a n c) d)] w fun e w'=>e=.returned (.tuple #[.agg (ndC f b (.slice a n c) d),.i 0,.i 0])/\Ext w w':=by
 have s:=hY h.blk;have t:=hY (aM (aq w (.cells (ndC f b (.slice a n c) d) 26) _ rfl) (.cells (ndC 0 ⟨#[]⟩ (.slice none 0 0) 0) 26));have q:=hY (aq (w.alloc (.cells (ndC f b (.slice a n c) d) 26)) (.cells (ndC 0 ⟨#[]⟩ (.slice none 0 0) 0) 26) (w.heap.size+1) (et _ _).symm);have m:Hid (Ext w ((w.alloc (.cells (ndC f b (.slice a n c) d) 26)).alloc (.cells (ndC 0 ⟨#[]⟩ (.slice none 0 0) 0) 26))):=hY (((Ext.refl w).alloc _).alloc _);clear h;go_enter Tryz.func48,Tryz.ntmps48;go_upto_region 1 with fail;generalize j:w.heap.size=l at*;have k:=hY j;clear j;generalize(w.alloc _).alloc _=w1 at*;obtain⟨B,A⟩:=blk (m.o.keep s.o);obtain⟨z,y⟩:=blk t.o;obtain⟨x,u⟩:=blk q.o;have p:=hY (st7 (pp:=l+1) (m.o.mod [l+1]) q.o rfl (by have:=k.o;omega) (.i f) (.string b) (.slice none 0 0) (.slice none 0 0) (.slice a n c) (.i 0) (.i d));go_wp2_with fail;refine bodyPost_ret (v:=.tuple #[.agg (ndC f b (.slice a n c) d),.i 0,.i 0]) ?_ rfl ⟨rfl,cz m.o p.o.2.2 (by simp;have:=k.o;omega)⟩;exact Eh _ (l+1) _ _ _ _ _ _ p.o.1 _ rfl rfl rfl
theorem iT {w:World}{base size n b g:Nat}{e:TypeId}{xs:List Value}(h:w.ownsRow base e size (.slice (some ⟨g,0,none⟩) n b) n xs){j:Nat}{v:Value}(a:xs[j]?=some v):w.cell? ⟨g,j,none⟩=some v:=by
 obtain⟨f,d,i,c⟩:=mM h;rw[(blk d).1];rw[←c,List.getElem?_take] at a
 split at a
 ·simpa using a
 ·cases a
def Fq (w:World)(e:Ending)(w':World):Prop:=∃a g b,e=.returned (.tuple #[.pointer (some ⟨a,0,none⟩),.i 0,.i 0])/\w.heap.size<=a/\PR lf.flatten w' a g b 0/\Ext w w'
theorem Ci (w:World):Calls Tryz.prog 38 #[.string iP] w (Fq w):=by
 have L:=hY (Fc w);have s:iP.size=17:=rfl;go_enter Tryz.func38,Tryz.ntmps38;go_upto_region 2 with(go_at_call 106;refine L.o.mono ?_;rintro e d ⟨a,c,rfl,m,n⟩;have q:=hY m;have r:=hY n;clear m n);obtain⟨x,u,h,f⟩:=aJ q.o;obtain⟨g,k,i,b⟩:=f (by decide);obtain⟨rfl,rfl⟩:a=x/\c=u:=by injection h with h1 _ h2;exact⟨h1,h2⟩
 subst k;have z:=hY (aq d (.cells (mc (.slice (some ⟨g,0,none⟩) 5 c) ((0:Nat):Int) 17 0 (.pointer none)) 116) _ rfl);have l:Hid (Ext d (d.alloc (.cells (mc (.slice (some ⟨g,0,none⟩) 5 c) ((0:Nat):Int) 17 0 (.pointer none)) 116))):=hY ((Ext.refl _).alloc _)
 have y:Hid (PR lf.flatten (d.alloc (.cells (mc (.slice (some ⟨g,0,none⟩) 5 c) ((0:Nat):Int) 17 0 (.pointer none)) 116)) d.heap.size g c 0):=hY ⟨z.o,bA b l.o.size,by omega,fun j v t=>by
  rw[l.o.cell (p:=⟨g,j,none⟩) b]
  exact iT q.o t⟩
 clear h f i b;go_wp2_with fail;refine bodyPost_ret (results_tmp3 rfl _ _ _) rfl ?_;exact⟨d.heap.size,g,c,rfl,r.o.size,y.o,r.o.trans l.o⟩
structure qm (base:Nat)(W:World)(gL cL gR gN c:Nat):Prop where
 row:W.ownsRow base 26 7 (.slice (some ⟨gL,0,none⟩) 1 cL) 1 (ndC 3 ⟨#[]⟩ (.slice (some ⟨gR,0,none⟩) 1 1) 4).toList
 ret:W.heap[gR]?=some (.cells (ndC 5 ⟨#[98,97,114,58]⟩ (.slice (some ⟨gN,0,none⟩) 2 c) 11) 26)
 lo:base<=gR
 args:W.ownsRow base 26 7 (.slice (some ⟨gN,0,none⟩) 2 c) 2 ((ndC 8 ⟨#[115,101,108,102]⟩ (.slice none 0 0) 6).toList++(ndC 9 ⟨#[51]⟩ (.slice none 0 0) 16).toList)
theorem qm.mod {base:Nat}{W W':World}{i j f g c:Nat}{S:List Nat}(h:qm base W i j f g c)(e:Mod S W W')(d:∀x∈S,x<base):qm base W' i j f g c:=
 ⟨e.row h.row (fun q b a=>by have l:=(au h.row (k:=q) (by rw[b];simp)).1;have:=d q a;omega),e.keep h.ret (fun a=>by have:=d _ a;have:=h.lo;omega),h.lo,e.row h.args (fun q b a=>by have l:=(au h.args (k:=q) (by rw[b];simp)).1;have:=d q a;omega)⟩
theorem qm.base {b i:Nat}{W:World}{f g d e c:Nat}(h:qm b W f g d e c)(a:i<=b):qm i W f g d e c:=⟨lY h.row a,h.ret,aN a h.lo,lY h.args a⟩
def Fk (w:World)(e:Ending)(w':World):Prop:=∃a b d f c,e=.returned (.tuple #[.agg (ndC 1 ⟨#[102,111,111]⟩ (.slice (some ⟨a,0,none⟩) 1 b) 0),.i 0,.i 0])/\qm w.heap.size w' a b d f c/\Ext w w'
theorem AP (w:World):Calls Tryz.prog 15 #[.string iP] w (Fk w):=by
 have BG:=hY (fun W=>Ci W);have B0:=hY (aq w (.cells (ndC 0 ⟨#[]⟩ (.slice none 0 0) 0) 26) _ rfl);have E1:Hid (Ext w (w.alloc (.cells (ndC 0 ⟨#[]⟩ (.slice none 0 0) 0) 26))):=hY ((Ext.refl w).alloc _);go_enter Tryz.func15,Tryz.ntmps15;go_upto_region 1 with fail;generalize N:w.heap.size=y at*;have F:=hY N;clear N;generalize w.alloc _=w1 at*;go_upto_region 4 with(go_at_call 38;refine(BG.o w1).mono ?_;rintro e n ⟨pp,g,cc,rfl,L,J,b⟩;have P2:=hY J;have E2:=hY (E1.o.trans b);have t:=hY (show y<pp/\pp<n.heap.size from⟨bA (ab B0.o) L,ab J.blk⟩);have ao:=hY (b.keep B0.o);clear L J b);have B8:=hY (aq n (.cells (ndC 1 ⟨#[]⟩ (.slice none 0 0) 0) 26) _ rfl);have E3:Hid (Ext n (n.alloc (.cells (ndC 1 ⟨#[]⟩ (.slice none 0 0) 0) 26))):=hY ((Ext.refl _).alloc _);have f:Hid (n.heap.size=n.heap.size):=hY rfl;go_upto_region 5 with fail;generalize M:n.heap.size=b8 at*;clear f;have f:=hY M;clear M;generalize n.alloc _=w3 at*;have P3:=hY (P2.o.ext E3.o);have N3:=hY (P3.o.next (by decide) tk0 w3 (Ext.refl _));go_upto_region 7 with(go_at_call 39;refine N3.o.m fun V E4=>?_);have B9:=hY (aq V (.cells #[.i 1,.string ⟨#[102,111,111]⟩,.i 0] 109) _ rfl);have Y:Hid (Ext w3 (V.alloc (.cells #[.i 1,.string ⟨#[102,111,111]⟩,.i 0] 109))):=hY (E4.o.alloc _);generalize V.heap.size=b9 at*;generalize V.alloc _=w5 at*;have P5:=hY (P3.o.ext Y.o);have I:=hY (Y.o.keep B8.o);have am:=hY (Y.o.keep (E3.o.keep ao.o));have M5:Hid (Mod [pp] n w5):=hY ((E3.o.trans Y.o).mod _);obtain⟨q,p⟩:=blk B9.o;have aa:=hY (P5.o.take (by decide) tk0 w5 (Ext.refl _));have F1:=Dw 1 0 ⟨#[102,111,111]⟩;have a:Hid (y≠pp/\b8≠pp/\y≠b8):=hY ⟨by have:=t.o;omega,by have:=t.o;have:=f.o;omega,by have:=t.o;have:=f.o;omega⟩;have G:Hid (g<b8):=hY (by have:=P2.o.glt;have:=f.o;omega);go_upto_region 8 with fail;clear q p;obtain⟨q,p⟩:=blk I.o;go_upto_region 16 with(go_at_call 40;refine aa.o.m2 fun w6 P6 hM=>?_;have M6:=hY hM.o;obtain⟨r1,r2⟩:=blk (hM.o.keep I.o (by simpa using a.o.2.1)));clear q p F1;have aj:=hY (be (i:=1) (M6.o.keep I.o (by simpa using a.o.2.1)) (.string ⟨#[102,111,111]⟩));have S6:=hY (ae w6 ⟨b8,1,none⟩ (.string ⟨#[102,111,111]⟩));have al:=hY (S6.o.keep (M6.o.keep am.o (by simpa using a.o.1)) (by simpa using a.o.2.2));have P:=hY (P6.o.mod S6.o (by simpa using a.o.2.1.symm) (by have:=G.o;simp;omega));have ah:=hY (eF (M5.o.trans M6.o) S6.o (fun x l=>.inr (by have:=f.o;simp at l;omega)));clear r1 r2;generalize w6.setCell _ _=w7 at*;have N7:=hY (P.o.next (by decide) tk1 w7 (Ext.refl _));go_upto_region 17 with(go_at_call 39;refine N7.o.m fun U E8=>?_);have ak:=hY (aq U (.cells #[.i 7,.string ⟨#[94]⟩,.i 4] 109) _ rfl);have X:Hid (Ext w7 (U.alloc (.cells #[.i 7,.string ⟨#[94]⟩,.i 4] 109))):=hY (E8.o.alloc _);generalize U.heap.size=ar at*;generalize U.alloc _=w9 at*;have O:=hY (P.o.ext X.o);obtain⟨q,p⟩:=blk ak.o;obtain⟨q3,q4⟩:=blk O.o.blk;go_upto_region 22 with fail;clear q p q3 q4;have R:=hY (X.o.keep aj.o);have TM:=hY (qe w9 pp (zn w9 pp g 5 cc 1 17 0 (.pointer none) 4 ⟨#[94]⟩ ⟨#[124]⟩ O.o.blk O.o.glt (by decide) (O.o.tokAt tk1) (show((mkS [94]).toList==(mkS [124]).toList)=false by rw[jx];decide)));go_upto_region 23 with(go_at_call 46;refine TM.o.m fun K b=>?_;have u:=hY b.o;obtain⟨q,p⟩:=blk (b.o.keep R.o));clear q p;have m:=hY (be (i:=3) (u.o.keep R.o) (.slice none 0 0));have E:=hY (ae K ⟨b8,3,none⟩ (.slice none 0 0));have z:=hY (E.o.keep (u.o.keep (X.o.keep al.o)) (by simpa using a.o.2.2));have ag:=hY ((O.o.ext u.o).mod E.o (by simpa using a.o.2.1.symm) (by have:=G.o;simp;omega));have Q:=hY (eF (ah.o.ext (X.o.trans u.o)) E.o (fun x l=>.inr (by have:=f.o;simp at l;omega)));generalize K.setCell _ _=r at*;have ST:=hY (rB ag.o tk1 tk2 tk3 tk4 (by decide));go_upto_region 24 with(go_at_call 47;refine ST.o.mono ?_;rintro e A ⟨B,C,gR,gN,c,rfl,hS⟩;have d:=hY hS;obtain⟨q,p⟩:=blk (hS.mod.keep m.o (by simpa using a.o.2.1));clear hS);clear q p;have LB:Hid (b8<r.heap.size/\y<r.heap.size/\n.heap.size<=r.heap.size):=hY ⟨ab m.o,ab z.o,Q.o.size⟩;have S:=hY (be (i:=4) (d.o.mod.keep m.o (by simpa using a.o.2.1)) (.slice (some ⟨B,0,none⟩) 1 C));have s:=hY (ae A ⟨b8,4,none⟩ (.slice (some ⟨B,0,none⟩) 1 C));have h:=hY (s.o.keep (d.o.mod.keep z.o (by simpa using a.o.1)) (by simpa using a.o.2.2));have ad:Hid (qm r.heap.size A B C gR gN c):=hY ⟨d.o.row,d.o.ret,d.o.lo,d.o.args⟩;have ac:=hY (ad.o.mod s.o (fun x l=>by have:=LB.o.1;simp at l;omega));have af:=hY (d.o.pr.mod s.o (by simpa using a.o.2.1.symm) (by have:=G.o;simp;omega));have ai:=hY (eF (Q.o.trans d.o.mod) s.o (fun x l=>.inr (by have:=f.o;simp at l;omega)));generalize A.setCell _ _=Z at*;obtain⟨q,p⟩:=blk S.o;obtain⟨q3,q4⟩:=blk h.o;have FI:=hY (zy af.o 1 0 ⟨#[102,111,111]⟩ (some ⟨B,0,none⟩) 1 C);have au:Hid (∀W,Ext Z W->∀j,W.cell? ⟨y,j,none⟩=(ndC 0 ⟨#[]⟩ (.slice none 0 0) 0)[j]?):=hY (fun W b=>(blk (b.keep h.o)).1);go_upto_region 99 with(go_at_call 48;refine FI.o.m fun ap b=>?_;have H:=hY b.o;obtain⟨r1,r2⟩:=blk (b.o.keep h.o));have EF:=hY (cz E2.o (ai.o.ext H.o) (fun k hk=>by have:=F.o;have:=t.o;simp at hk;omega));have D:=hY (st7 (pp:=y) (EF.o.mod [y]) (H.o.keep h.o) rfl (by have:=F.o;omega) (.i 1) (.string ⟨#[102,111,111]⟩) (.slice none 0 0) (.slice none 0 0) (.slice (some ⟨B,0,none⟩) 1 C) (.i 0) (.i 0));have TF:=hY (((ac.o.mod (H.o.mod []) (fun x l=>by simp at l)).mod D.o.2.2 (fun x l=>by have:=LB.o.2.1;simp at l;omega)).base (aN E2.o.size LB.o.2.2));refine bodyPost_ret (v:=.tuple #[.agg (ndC 1 ⟨#[102,111,111]⟩ (.slice (some ⟨B,0,none⟩) 1 C) 0),.i 0,.i 0]) ?_ rfl ⟨B,C,gR,gN,c,rfl,TF.o,cz EF.o D.o.2.2 (fun k hk=>by have:=F.o;simp at hk;omega)⟩;exact Ej _ y _ _ _ _ _ _ D.o.1 _ rfl rfl rfl
end Go.Proofs.Eff
