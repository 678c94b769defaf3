import Derived.Test.YtcimpmhmdnoeiaaGreatDoorQ46
set_option maxRecDepth 100000
set_option maxHeartbeats 8000000
set_option linter.all false
namespace Go.Proofs.Eff
open Go.RowKit
noncomputable def dR (fs gs:List BL)(t:T):Res:=if(dM t).2≠0 then gX 0 (dM t).2 else l7 fs gs t
def eZ:Value:=.agg #[.string (mkS []),.i 0,.i 0,.i 0,.i 0,.slice none 0 0,.slice none 0 0]
def lr (b:Nat)(R:Res)(w:World)(v:Value):Prop:=∃d c f e a,v=.agg #[.string (mkS R.sel),.i R.args,.i R.FQ,.i R.stack,.i R.FY,.slice d R.FU.length c,.slice f R.code.length e]/\w.ownsRow b 55 3 (.slice d R.FU.length c) R.FU.length a/\fp w (fun k=>b<=k/\k<w.heap.size) R.FU a/\w.ownsRow b 5 1 (.slice f R.code.length e) R.code.length (u8L R.code)
def nP (fs gs:List BL)(t:T)(w:World)(e:Ending)(w':World):Prop:=Ext w w'/\∃v,e=.returned (.tuple #[v,.i (dR fs gs t).FR,.i (dR fs gs t).err])/\lr w.heap.size (dR fs gs t) w' v
theorem lr.fail (b:Nat)(w:World)(pl e:Int):lr b (gX pl e) w eZ:=⟨none,0,none,0,[],rfl,⟨rfl,.inl ⟨rfl,rfl⟩⟩,rfl,kK _ _ _⟩
theorem DB {base p:Nat}{w:World}{c b:Value}(a:base<=p)(d:w.heap[p]?=some (.cells #[c,b,.pointer none,.slice none 0 0,.i 0,.pointer none,.bool false] 64)):CW base p w c b s0 [] []:=
 ⟨.pointer none,.slice none 0 0,.pointer none,[],[],a,d,rfl,List.nodup_nil,fun _ h=>(by cases h),⟨rfl,.inl ⟨rfl,rfl⟩⟩,rfl,⟨rfl,rfl⟩,rfl⟩
theorem CWV.reg {base p:Nat}{w:World}{D C:Value}{s:GS}{R:Nat}{q:Rg}{its:List It}{F:List Nat}{l r n:Value}{xs:List Value}{H:List Nat}(h:CWV base p w D C s [(R,q,its)] F l r n xs H)(f:its.length<=2000000000):l=.pointer (some ⟨R,0,none⟩)/\iB w (fun k=>k<w.heap.size) R its:=by
 obtain⟨d,o,nv,I,m,M,y,c,t,a,b,x⟩:=h.head;refine⟨d,?_⟩;rcases a.2 with⟨e,j⟩|⟨g,G,E,e,j,B,A,z,L,K⟩
 ·subst e
  have:its=[]:=ls j;subst this;exact⟨o,_,nv,_,none,0,c,ab c,gE _,oS _,f,fun v=>absurd rfl v⟩
 ·subst e
  refine⟨o,_,nv,_,some ⟨g,0,none⟩,G,c,ab c,A,z,f,fun _=>⟨g,rfl,ab B,?_⟩⟩;refine zl its m (b.keep (fun _ _=>rfl) (fun k u=>u.2.1)) 0 (fun i J=>?_);rw[nl];exact a.cellAt i (by have:=a.1;omega)
theorem nG (W:World)(B:Nat)(i:Array Value)(j:TypeId)(h:W.heap[B]?=some (.cells i j))(k:i.size=7)(g f e d c b a:Value):
 (((((((W.setCell ⟨B,0,none⟩ g).setCell ⟨B,1,none⟩ f).setCell ⟨B,2,none⟩ e).setCell ⟨B,3,none⟩ d).setCell ⟨B,4,none⟩ c).setCell ⟨B,5,none⟩ b).setCell ⟨B,6,none⟩ a).heap[B]?=some (.cells #[g,f,e,d,c,b,a] j)
 /\Mod [B] W (((((((W.setCell ⟨B,0,none⟩ g).setCell ⟨B,1,none⟩ f).setCell ⟨B,2,none⟩ e).setCell ⟨B,3,none⟩ d).setCell ⟨B,4,none⟩ c).setCell ⟨B,5,none⟩ b).setCell ⟨B,6,none⟩ a):=by
 refine⟨?_,((((((ae W ⟨B,0,none⟩ g).trans (ae _ ⟨B,1,none⟩ f)).trans (ae _ ⟨B,2,none⟩ e)).trans (ae _ ⟨B,3,none⟩ d)).trans (ae _ ⟨B,4,none⟩ c)).trans (ae _ ⟨B,5,none⟩ b)).trans (ae _ ⟨B,6,none⟩ a)⟩;rw[be (be (be (be (be (be (be h g) f) e) d) c) b) a];obtain⟨l⟩:=i;rcases l with _|⟨t,_|⟨s,_|⟨r,_|⟨q,_|⟨p,_|⟨o,_|⟨n,_|⟨m,l⟩⟩⟩⟩⟩⟩⟩⟩<;>simp at k
 simp
theorem s8 (W:World)(B:Nat)(s:ByteArray)(a b c d:Int)(h:Option Addr)(f g:Nat)(l:Option Addr)(j k:Nat)(m:W.heap[B]?=some (.cells #[.string s,.i a,.i b,.i c,.i d,.slice h f g,.slice l j k] 34))(e:Array Value)(n:e.getD 4 undef=.pointer (some ⟨B,0,none⟩)):
 (results Tryz.f8 e).run Tryz.prog W=.ok (.tuple #[.agg #[.string s,.i a,.i b,.i c,.i d,.slice h f g,.slice l j k],e.getD 5 undef,e.getD 6 undef]) W:=by
 obtain⟨p,o⟩:=blk m;rw[dU rfl,n];go_simp
theorem zc (fs gs:List BL)(l:List T)(c:List Rg)(s:GS):(bP fs gs l c s).2.length<=4*T.ndL l:=by
 induction l generalizing s with
 |nil=>simp[bP]
 |cons x r ih=>
  have b:=(gB fs gs x c s).its;have a:=ih (bp fs gs x c s).1;have:=bG x;simp only[bP,bY,T.ndL]
  split<;>simp<;>omega
open Classical in
theorem oV (fs gs:List BL)(t:T)(a:(bi fs gs t).1.F9=none):l7 fs gs t=if(bi fs gs t).1.many=true\/255<(bi fs gs t).1.FU.length then gX 0 131
 else if¬okL (aj (bi fs gs t).2) 0 (bi fs gs t).2\/32767<szL (bi fs gs t).2\/127<ai (bi fs gs t).2 then gX 0 131
 else⟨t.name,t.FP.length,(t.FP++t.FQ).length,ai (bi fs gs t).2,t.FY,(bi fs gs t).1.FU,bD ai (aj (bi fs gs t).2) 0 (bi fs gs t).2,0,0⟩:=by
 unfold l7;rw[a]
def Fr8 (d c b:Value)(a:Act):Prop:=a.defers=[]/\a.tmps.size=110/\a.tmps[4]?=some d/\a.tmps[8]?=some c/\a.tmps[9]?=some b
theorem Fr8.open {d c b:Value}{a:Act}(h:Fr8 d c b a):∃u:Nat->Value,a={tmps:=(frL u [(4,d),(8,c),(9,b)] 0 110).toArray,defers:=[]}:=by
 obtain⟨f,e,j,i,g⟩:=h;exact jE f e (by simp[j,i,g])
theorem C3 (fs gs:List BL)(t:T)(w E:World)(p j B R:Nat)(m:GS)(d:List It)(fv gv lb:Value)(r:Option Addr)(q:Nat)(xs:List Value)(Q:BL)(n1 S P:Int)
 (hE:Ext w E) (hB:E.heap[B]?=some (.cells #[.string ⟨#[]⟩,.i 0,.i 0,.i 0,.i 0,.slice none 0 0,.slice none 0 0] 34)) (hp:E.heap[p]?=some (.cells #[fv,gv,.pointer (some ⟨R,0,none⟩),.slice r m.FU.length q,lb,.pointer none,.bool m.many] 64))
 (h9:E.heap[j]?=some (.cells #[.string (mkS Q),.i n1,.i S,.i 0,.i P,.slice r m.FU.length q,.slice none 0 0] 34)) (Z:B≠j/\j≠B) (a0:w.heap.size<=B/\w.heap.size<=j)
 (a1:∀W,Ext E W->iB W (fun k=>k<W.heap.size) R d) (am:cB d) (Y:cM d) (ap:m.many=false->m.FU.length<=255->dg d)
 (V:E.ownsRow w.heap.size 55 3 (.slice r m.FU.length q) m.FU.length xs) (X:fp E (fun k=>w.heap.size<=k/\k<E.heap.size/\k≠B/\k≠j) m.FU xs)
 (U:m.many=true\/255<m.FU.length->dR fs gs t=gX 0 131)
 (al:¬(m.many=true\/255<m.FU.length)->(¬okL (aj d) 0 d\/32767<szL d\/127<ai d)->dR fs gs t=gX 0 131)
 (ah:¬(m.many=true\/255<m.FU.length)->¬(¬okL (aj d) 0 d\/32767<szL d\/127<ai d)->dR fs gs t=⟨Q,n1,S,ai d,P,m.FU,bD ai (aj d) 0 d,0,0⟩)
 (a:Act) (a2:Fr8 (.pointer (some ⟨B,0,none⟩)) (.pointer (some ⟨p,0,none⟩)) (.pointer (some ⟨j,0,none⟩)) a):
 Code.wp Tryz.prog (gx 7 (Tryz.f8.body.getD .skip)) (bodyPost Tryz.prog Tryz.f8 (nP fs gs t w)) a E:=by
 obtain⟨u,rfl⟩:=a2.open;simp only[frL,gK,Nat.reduceAdd]
 conv=>arg 2;whnf
 have EW:=hY hE;have KB:=hY hB;have ag:=hY hp;have B9:=hY h9;have z:=hY a0;have RA:=hY a1;have a5:=hY am;have a7:=hY Y;have ba:=hY ap;have ar:=hY V;have a6:=hY X;have ab:=hY U;have a4:=hY al;have a3:=hY ah;clear hE hB h9 a0 a1 am Y ap V X U al ah a2;obtain⟨p1,p2⟩:=blk hp;clear hp;cases hm:m.many with
 |true=>
  have G:=hY (ab.o (.inl hm));rw[hm] at p1;obtain⟨z1,z2⟩:=blk KB.o;go_wp2_with fail;have F:=hY (nG E B _ 34 KB.o rfl (.string ⟨#[]⟩) (.i 0) (.i 0) (.i 0) (.i 0) (.slice none 0 0) (.slice none 0 0));refine bodyPost_ret (v:=.tuple #[eZ,.i 0,.i 131]) ?_ rfl ⟨?_,eZ,?_,?_⟩
  ·exact s8 _ B _ _ _ _ _ _ _ _ _ _ _ F.o.1 _ rfl
  ·exact cz EW.o F.o.2 (by simpa using z.o.1)
  ·rw[G.o];rfl
  ·rw[G.o];exact lr.fail _ _ _ _
 |false=>
  rw[hm] at p1;by_cases hlong:255<m.FU.length
  ·have G:=hY (ab.o (.inr hlong))
   have a8:(255:Int)<(m.FU.length:Int):=by omega
   clear hlong;obtain⟨z1,z2⟩:=blk KB.o;go_wp2_with fail;have F:=hY (nG E B _ 34 KB.o rfl (.string ⟨#[]⟩) (.i 0) (.i 0) (.i 0) (.i 0) (.slice none 0 0) (.slice none 0 0));refine bodyPost_ret (v:=.tuple #[eZ,.i 0,.i 131]) ?_ rfl ⟨?_,eZ,?_,?_⟩
   ·exact s8 _ B _ _ _ _ _ _ _ _ _ _ _ F.o.1 _ rfl
   ·exact cz EW.o F.o.2 (by simpa using z.o.1)
   ·rw[G.o];rfl
   ·rw[G.o];exact lr.fail _ _ _ _
  ·have a8:¬(255:Int)<(m.FU.length:Int):=by omega
   have FT:=ba.o hm (by omega);have av:¬(m.many=true\/255<m.FU.length):=by rw[hm];rintro(h|h);cases h;exact hlong h
   have L:=hY (a4.o av);have aa:=hY (a3.o av);have BY:=Ca a5.o a7.o FT E R (RA.o E (Ext.refl _));have af:=hY (fun W (hE:Ext E W)=>uX d a5.o FT W R (RA.o W hE));clear hlong FT ab a4 a3 hm av
   have ax:Hid (¬okL (aj d) 0 d->Calls Tryz.prog 20 #[.pointer (some ⟨R,0,none⟩)] E fun e w'=>Ext E w'/\e=.returned (.tuple #[.slice none 0 0,.bool false])):=hY (fun hn=>BY.mono (by
    rintro e w' ⟨h1,⟨h2,_⟩|⟨_,h2⟩⟩
    ·exact absurd h2 hn
    ·exact⟨h1,h2⟩))
   have aw:Hid (okL (aj d) 0 d->Calls Tryz.prog 20 #[.pointer (some ⟨R,0,none⟩)] E fun e w'=>Ext E w'/\∃ad c,e=.returned (.tuple #[.slice ad (szL d) c,.bool true])/\w'.ownsRow E.heap.size 5 1 (.slice ad (szL d) c) (szL d) (u8L (bD ai (aj d) 0 d))):=hY (fun hy=>BY.mono (by
    rintro e w' ⟨h1,⟨_,ad,c,h2,h3⟩|⟨h2,_⟩⟩
    ·exact⟨h1,ad,c,h2,h3⟩
    ·exact absurd hy h2))
   clear BY;by_cases hok:okL (aj d) 0 d
   ·have ac:=hY (aw.o hok)
    have a9:=hY hok;clear ax aw hok;by_cases hsz:32767<szL d
    ·have G:=hY (L.o (.inr (.inl hsz)))
     have ay:(32767:Int)<(szL d:Int):=by omega
     clear hsz L aa;go_upto_region 14 with(first|(go_at_call 20;refine ac.o.mono ?_;rintro e w7 ⟨y,s,O,rfl,K⟩;have M:=hY y;obtain⟨y1,y2⟩:=blk (M.o.keep ag.o);clear y)|(go_at_call 21;refine(af.o w7 M.o).m fun C l=>?_;have D:=hY (M.o.trans l.o);have x:=hY (D.o.keep B9.o);have I:=hY (D.o.keep KB.o);obtain⟨y3,y4⟩:=blk x.o;have N:=l.o));have E9:Hid (Ext w (C.setCell ⟨j,3,none⟩ (.i (ai d)))):=hY ((EW.o.trans D.o).setCell (by exact z.o.2) _);have M9:=hY (ae C ⟨j,3,none⟩ (.i (ai d)));have A:=hY (M9.o.keep I.o (by simpa using Z.1));have f:=be (i:=3) x.o (.i (ai d));have J:Hid ((C.setCell ⟨j,3,none⟩ (.i (ai d))).heap[j]?=some (.cells #[.string (mkS Q),.i n1,.i S,.i (ai d),.i P,.slice r m.FU.length q,.slice none 0 0] 34)):=hY f;clear f y1 y2 y3 y4;generalize C.setCell ⟨j,3,none⟩ (.i (ai d))=W9 at*;obtain⟨x1,x2⟩:=blk J.o;obtain⟨z1,z2⟩:=blk A.o;go_wp2_with fail;have F:=hY (nG W9 B _ 34 A.o rfl (.string ⟨#[]⟩) (.i 0) (.i 0) (.i 0) (.i 0) (.slice none 0 0) (.slice none 0 0));refine bodyPost_ret (v:=.tuple #[eZ,.i 0,.i 131]) ?_ rfl ⟨?_,eZ,?_,?_⟩
     ·exact s8 _ B _ _ _ _ _ _ _ _ _ _ _ F.o.1 _ rfl
     ·exact cz E9.o F.o.2 (by simpa using z.o.1)
     ·rw[G.o];rfl
     ·rw[G.o];exact lr.fail _ _ _ _
    ·by_cases hmo:127<ai d
     ·have G:=hY (L.o (.inr (.inr hmo)))
      have ay:¬(32767:Int)<(szL d:Int):=by omega
      clear hsz L aa;go_upto_region 14 with(first|(go_at_call 20;refine ac.o.mono ?_;rintro e w7 ⟨y,s,O,rfl,K⟩;have M:=hY y;obtain⟨y1,y2⟩:=blk (M.o.keep ag.o);clear y)|(go_at_call 21;refine(af.o w7 M.o).m fun C l=>?_;have D:=hY (M.o.trans l.o);have x:=hY (D.o.keep B9.o);have I:=hY (D.o.keep KB.o);obtain⟨y3,y4⟩:=blk x.o;have N:=l.o));have E9:Hid (Ext w (C.setCell ⟨j,3,none⟩ (.i (ai d)))):=hY ((EW.o.trans D.o).setCell (by exact z.o.2) _);have M9:=hY (ae C ⟨j,3,none⟩ (.i (ai d)));have A:=hY (M9.o.keep I.o (by simpa using Z.1));have f:=be (i:=3) x.o (.i (ai d));have J:Hid ((C.setCell ⟨j,3,none⟩ (.i (ai d))).heap[j]?=some (.cells #[.string (mkS Q),.i n1,.i S,.i (ai d),.i P,.slice r m.FU.length q,.slice none 0 0] 34)):=hY f;clear f y1 y2 y3 y4;generalize C.setCell ⟨j,3,none⟩ (.i (ai d))=W9 at*;obtain⟨x1,x2⟩:=blk J.o;obtain⟨z1,z2⟩:=blk A.o;go_wp2_with fail;have F:=hY (nG W9 B _ 34 A.o rfl (.string ⟨#[]⟩) (.i 0) (.i 0) (.i 0) (.i 0) (.slice none 0 0) (.slice none 0 0));refine bodyPost_ret (v:=.tuple #[eZ,.i 0,.i 131]) ?_ rfl ⟨?_,eZ,?_,?_⟩
      ·exact s8 _ B _ _ _ _ _ _ _ _ _ _ _ F.o.1 _ rfl
      ·exact cz E9.o F.o.2 (by simpa using z.o.1)
      ·rw[G.o];rfl
      ·rw[G.o];exact lr.fail _ _ _ _
     ·have G:=hY (aa.o (by rintro(h|h|h);exact h a9.o;exact hsz h;exact hmo h))
      have ay:¬(32767:Int)<(szL d:Int):=by omega
      clear hsz L aa;go_upto_region 14 with(first|(go_at_call 20;refine ac.o.mono ?_;rintro e w7 ⟨y,s,O,rfl,K⟩;have M:=hY y;obtain⟨y1,y2⟩:=blk (M.o.keep ag.o);clear y)|(go_at_call 21;refine(af.o w7 M.o).m fun C l=>?_;have D:=hY (M.o.trans l.o);have x:=hY (D.o.keep B9.o);have I:=hY (D.o.keep KB.o);obtain⟨y3,y4⟩:=blk x.o;have N:=l.o));have E9:Hid (Ext w (C.setCell ⟨j,3,none⟩ (.i (ai d)))):=hY ((EW.o.trans D.o).setCell (by exact z.o.2) _);have M9:=hY (ae C ⟨j,3,none⟩ (.i (ai d)));have A:=hY (M9.o.keep I.o (by simpa using Z.1));have f:=be (i:=3) x.o (.i (ai d));have J:Hid ((C.setCell ⟨j,3,none⟩ (.i (ai d))).heap[j]?=some (.cells #[.string (mkS Q),.i n1,.i S,.i (ai d),.i P,.slice r m.FU.length q,.slice none 0 0] 34)):=hY f;clear f y1 y2 y3 y4;generalize C.setCell ⟨j,3,none⟩ (.i (ai d))=W9 at*;obtain⟨x1,x2⟩:=blk J.o;obtain⟨z1,z2⟩:=blk A.o;have aq:=be (i:=6) J.o (.slice s (szL d) O);have BF:Hid ((W9.setCell ⟨j,6,none⟩ (.slice s (szL d) O)).heap[j]?=some (.cells #[.string (mkS Q),.i n1,.i S,.i (ai d),.i P,.slice r m.FU.length q,.slice s (szL d) O] 34)):=hY aq;have MF:=hY (ae W9 ⟨j,6,none⟩ (.slice s (szL d) O));have KF:=hY (MF.o.keep A.o (by simpa using Z.1));have R8:=hY (ak K N);clear aq;go_upto_region 17 with fail;generalize W9.setCell ⟨j,6,none⟩ (.slice s (szL d) O)=WF at*;clear x1 x2 z1 z2;obtain⟨x1,x2⟩:=blk BF.o;obtain⟨z1,z2⟩:=blk KF.o;go_wp2_with fail;have F:=hY (nG WF B _ 34 KF.o rfl (.string (mkS Q)) (.i n1) (.i S) (.i (ai d)) (.i P) (.slice r m.FU.length q) (.slice s (szL d) O));have H:Hid (Mod [j,B] C (((((((WF.setCell ⟨B,0,none⟩ (.string (mkS Q))).setCell ⟨B,1,none⟩ (.i n1)).setCell ⟨B,2,none⟩ (.i S)).setCell ⟨B,3,none⟩ (.i (ai d))).setCell ⟨B,4,none⟩ (.i P)).setCell ⟨B,5,none⟩ (.slice r m.FU.length q)).setCell ⟨B,6,none⟩ (.slice s (szL d) O))):=hY (((M9.o.trans MF.o).mono (by simp)).trans (F.o.2.mono (by simp)))
      have az:∀(e:TypeId) (sz n:Nat) (v:Value) (ys:List Value) (b:Nat),e≠34->C.ownsRow b e sz v n ys->∀g,v.ownBlock=some g->¬g∈[j,B]:=fun e sz n v ys b he hr g hg hm=>by
       obtain⟨_,cs,fz,h⟩:=au hr (k:=g) (by rw[hg];simp);simp only[aS,aT,or_false] at hm;rcases hm with rfl|rfl
       ·rw[x.o] at h;cases h;exact he rfl
       ·rw[I.o] at h;cases h;exact he rfl
      refine bodyPost_ret (v:=.tuple #[.agg #[.string (mkS Q),.i n1,.i S,.i (ai d),.i P,.slice r m.FU.length q,.slice s (szL d) O],.i 0,.i 0]) ?_ rfl ⟨?_,.agg #[.string (mkS Q),.i n1,.i S,.i (ai d),.i P,.slice r m.FU.length q,.slice s (szL d) O],?_,?_⟩
      ·exact s8 _ B _ _ _ _ _ _ _ _ _ _ _ F.o.1 _ rfl
      ·exact cz (EW.o.trans D.o) H.o (by simp;exact⟨z.o.2,z.o.1⟩)
      ·rw[G.o]
      ·rw[G.o]
       have ao:(bD ai (aj d) 0 d).length=szL d:=bu _ _ _ _;refine⟨r,q,s,O,xs,by rw[ao],?_,?_,?_⟩
       ·exact H.o.row (ak ar.o D.o) (az _ _ _ _ _ _ (by decide) (ak ar.o D.o))
       ·refine a6.o.keep (ok':=_) (fun k hk=>?_) (fun k hk=>⟨hk.1,bA hk.2.1 (aN D.o.size H.o.size)⟩)
        rw[H.o.block k (bA hk.2.1 D.o.size) (by simp;exact⟨hk.2.2.2,hk.2.2.1⟩)];exact D.o.block hk.2.1
       ·rw[ao]
        exact me (H.o.row R8.o (az _ _ _ _ _ _ (by decide) R8.o)) EW.o.size
   ·have ac:=hY (ax.o hok)
    have G:=hY (L.o (.inl hok));clear ax aw hok L aa;go_upto_region 14 with(first|(go_at_call 20;refine ac.o.mono ?_;rintro e w7 ⟨y,rfl⟩;have M:=hY y;obtain⟨y1,y2⟩:=blk (M.o.keep ag.o);clear y)|(go_at_call 21;refine(af.o w7 M.o).m fun C l=>?_;have D:=hY (M.o.trans l.o);have x:=hY (D.o.keep B9.o);have I:=hY (D.o.keep KB.o);obtain⟨y3,y4⟩:=blk x.o;have N:=l.o));have E9:Hid (Ext w (C.setCell ⟨j,3,none⟩ (.i (ai d)))):=hY ((EW.o.trans D.o).setCell (by exact z.o.2) _);have M9:=hY (ae C ⟨j,3,none⟩ (.i (ai d)));have A:=hY (M9.o.keep I.o (by simpa using Z.1));have f:=be (i:=3) x.o (.i (ai d));have J:Hid ((C.setCell ⟨j,3,none⟩ (.i (ai d))).heap[j]?=some (.cells #[.string (mkS Q),.i n1,.i S,.i (ai d),.i P,.slice r m.FU.length q,.slice none 0 0] 34)):=hY f;clear f y1 y2 y3 y4;generalize C.setCell ⟨j,3,none⟩ (.i (ai d))=W9 at*;obtain⟨x1,x2⟩:=blk J.o;obtain⟨z1,z2⟩:=blk A.o;go_wp2_with fail;have F:=hY (nG W9 B _ 34 A.o rfl (.string ⟨#[]⟩) (.i 0) (.i 0) (.i 0) (.i 0) (.slice none 0 0) (.slice none 0 0));refine bodyPost_ret (v:=.tuple #[eZ,.i 0,.i 131]) ?_ rfl ⟨?_,eZ,?_,?_⟩
    ·exact s8 _ B _ _ _ _ _ _ _ _ _ _ _ F.o.1 _ rfl
    ·exact cz E9.o F.o.2 (by simpa using z.o.1)
    ·rw[G.o];rfl
    ·rw[G.o];exact lr.fail _ _ _ _
end Go.Proofs.Eff
