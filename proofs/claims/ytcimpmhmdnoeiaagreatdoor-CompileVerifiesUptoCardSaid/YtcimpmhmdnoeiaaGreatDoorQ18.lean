import Derived.Test.YtcimpmhmdnoeiaaGreatDoorQ17
import Derived.Lib.AppendIntMem
import Derived.Lib.BufferRead
import Derived.Lib.ItoaLen
set_option maxRecDepth 100000
set_option maxHeartbeats 8000000
set_option linter.all false
namespace Go.Proofs.Eff
open Go.RowKit
theorem qV:∀(n:Nat) (x:T),T.nd x<=n->gn x
 |0,x,h=>by
  have:=bG x;omega
 |n+1,x,h=>ql x (fun y a=>qV n y (by omega))
theorem Cv (x:T):gn x:=qV _ x (gE _)
theorem yU {ps a:List BL}{k:Nat}{q y:BL}(d:ps[k]?=some q)(c:a[k]?=some y)(b:Bool)(S:TX):gO (ps.drop k) (a.drop k) b S=gO (ps.drop (k+1)) (a.drop (k+1)) false ((((S.btw b [32]).put q).put [32]).put y):=by
 obtain⟨f,h⟩:=aC.1 d;obtain⟨e,g⟩:=aC.1 c;rw[hI f,hI e,gO,h,g]
theorem qI (a:List BL)(b:Bool)(s:TX):gO [] a b s=s:=by rw[gO];nofun
theorem xi (n:BL)(a:List BL)(s:TX)(h:aI n=true):ff n a s=(s.put n).put [10]:=by unfold ff;rw[h];rfl
theorem yV (n y:BL)(s:TX)(b:aI n=false)(a:cJ n=true):ff n [y] s=(((s.put n).put [32]).put y).put [10]:=by unfold ff;rw[b,a];rfl
theorem AM (n:BL)(a:List BL)(s:TX)(c:aI n=false)(b:cJ n=false):ff n a s=(gO (bS n) a true s).put [10]:=by unfold ff;rw[c,b];rfl
theorem xh (k:Int)(n:BL)(f A:List BL)(l:List T)(C pl:Int)(O:bo n=(f.length:Int))(base top p:Nat)(w:World)(s:TX)(a1:Option Addr)(x:Nat)(J:Option Addr)(H:Nat)(I:Option Addr)(G:Nat)(hW:Wd base top p w s)(Y:bK w top (.mk k n f A l C pl) a1 x J H I G):
 Calls Tryz.prog 33 #[.pointer (some ⟨p,0,none⟩),.agg (af k n f.length A.length l.length C pl a1 x J H I G)] w fun e w'=>e=.returned (.tuple #[])/\aK base w' p (ff n f s)/\WM base p w w':=by
 have Z:Hid (Ext w (w.alloc (.cells (af k n f.length A.length l.length C pl a1 x J H I G) 26))):=(Ext.refl w).alloc _;have R:Hid (∀W',WM base p (w.alloc (.cells (af k n f.length A.length l.length C pl a1 x J H I G) 26)) W'->∀i,W'.cell? ⟨w.heap.size,i,none⟩=(aB k n f.length A.length l.length C pl a1 x J H I G)[i]?):=hY (eR w hW.pl _);have q1:=R.o _ (WM.refl _ _ _);have ab:n.length<=ao:=Y.name;have aq:f.length<=1048576:=Y.FP.small;have aa:(mkS n).size<=1048576:=by rw[aR];exact ab
 have LN:Hid ((mkS n).size<=bO):=hY (by unfold bO;omega);have HW:=hY hW;have NM:Hid (bT w top a1 x f):=hY Y.FP;have P0:=hY (hW.pw.keep Z.o);have BN:=hY (aG n);have X:=hY (fun V=>iZ V (mkS n) aa);have ad:=hY (fun V=>jA V (mkS n) aa);rw[aG] at X ad;have ai:=hY (fun V (hV:Ext w V)=>nJ V n ab (hW.ext hV).vars);have YL:Hid (∀y∈f,(mkS y).size<=bO):=hY (fun y E=>by rw[aR];have:=Y.FP.each y E;unfold ao at this;unfold bO;omega);have PL:Hid (∀q∈bS n,(mkS q).size<=bO):=hY (fun q hq=>by rw[aR];have:=tm hq;unfold ao at ab;unfold bO;omega);have A1:Hid (aI n=false->cJ n=true->f.length=1):=hY (fun h1 h2=>by unfold bo at O;rw[h1,h2] at O;simp at O;omega)
 have A2:Hid (aI n=false->cJ n=false->f.length=(bS n).length):=hY (fun h1 h2=>by
  have h3:cI n=2:=by unfold cI;rw[h1,h2];rfl
  have:=ra (by omega) h3
  omega)
 have G1:Hid (aI n=true->ff n f s=(s.put n).put [10]):=hY (xi n f s);have G2:Hid (aI n=false->cJ n=true->∀y,f=[y]->ff n f s=(((s.put n).put [32]).put y).put [10]):=hY (fun h1 h2 y E=>by rw[E];exact yV n y s h1 h2);have G3:Hid (aI n=false->cJ n=false->ff n f s=(gO (bS n) f true s).put [10]):=hY (AM n f s);clear hW Y aa O;generalize aI n=b1 at*;generalize cJ n=b2 at*;cases b1 with
 |true=>
  have U:=hY (G1.o rfl);go_enter Tryz.func33,Tryz.ntmps33;go_upto_region 8 with fail;generalize w.alloc _=W1 at*
  go_wp2_with (first
   |(go_at_call 98;refine(X.o _).m fun w2 N=>?_;have q2:=R.o _ (.FZ N.o))
   |(go_at_call 34;first
    |(with_reducible refine(cS _ base p s (mkS n) (P0.o.keep N.o) LN.o).m2 fun w3 P3 b=>?_;have PM:=hY ((WM.FZ (Z.o.trans N.o)).trans b.o);rw[BN.o] at P3)
    |(with_reducible refine(cS _ base p _ _ P3.o (by decide)).m2 fun w4 c b=>?_;have D:=hY (And.intro c.o (PM.o.trans b.o)))))
  (first|refine QzE rfl rfl ?_|refine QzR rfl rfl ?_);exact ⟨rfl,by rw[U.o];exact D.o⟩
 |false=>
  cases b2 with
  |true=>
   obtain⟨y,rfl⟩:∃y,f=[y]:=p9.1 (A1.o rfl rfl);have U:=hY (G2.o rfl rfl y rfl);obtain⟨t,d,rfl,hg,hc⟩:=NM.o.cell (by simp)
   have NC:Hid (∀V,WM base p w V->V.cell? ⟨t,d,none⟩=some (.string (mkS y))):=hY (fun V u=>by
    have:=hc 0 y rfl;rw[ks] at this;rw[←this]
    exact World.cell?_of_block (a:=⟨t,d,none⟩) (HW.o.low u _ hg))
   have Q:=hY (YL.o y (by simp));have BY:=hY (aG y);clear hc hg NM YL A1 A2;show Calls Tryz.prog 33 #[.pointer (some ⟨p,0,none⟩),.agg (af k n 1 A.length l.length C pl (some ⟨t,d,none⟩) x J H I G)] w _
   have SK:Hid (∀V,WM base p (w.alloc (.cells (af k n 1 A.length l.length C pl (some ⟨t,d,none⟩) x J H I G) 26)) V->(∀i,V.cell? ⟨w.heap.size,i,none⟩=(aB k n 1 A.length l.length C pl (some ⟨t,d,none⟩) x J H I G)[i]?)/\V.cell? ⟨t,d,none⟩=some (.string (mkS y))):=hY (fun V u=>⟨R.o V u,NC.o V ((WM.FZ Z.o).trans u)⟩);go_enter Tryz.func33,Tryz.ntmps33;go_upto_region 8 with fail;generalize w.alloc _=W1 at*
   go_upto_region 11 with(first
    |(go_at_call 98;refine(X.o _).m fun w2 N=>?_;have q2:=R.o _ (.FZ N.o))
    |(go_at_call 99;refine(ad.o _).m fun w3 r=>?_;have L:=hY (N.o.trans r.o);have q3:=R.o _ (.FZ L.o)))
   have ah:=hY (P0.o.keep (L.o.trans ((Ext.refl _).drew)));have ac:Hid (∀V,WM base p w3 V->(∀i,V.cell? ⟨w.heap.size,i,none⟩=(aB k n 1 A.length l.length C pl (some ⟨t,d,none⟩) x J H I G)[i]?)/\V.cell? ⟨t,d,none⟩=some (.string (mkS y))):=hY (fun V u=>SK.o V ((WM.FZ L.o).trans u))
   go_region_held3 (fun V=>(∀i,V.cell? ⟨w.heap.size,i,none⟩=(aB k n 1 A.length l.length C pl (some ⟨t,d,none⟩) x J H I G)[i]?)/\V.cell? ⟨t,d,none⟩=some (.string (mkS y)))
    (first|exact ac.o _ (.FZ ((Ext.refl _).drew))|exact ac.o _ (.FZ (((Ext.refl _).drew).alloc _))|exact ac.o _ ((WM.FZ ((Ext.refl _).drew)).trans b))
    (first|(go_at_call 34;refine(uP _ base p s _ _ _ ah.o LN.o (by decide) Q.o).m2 fun w5 c b=>?_))
   have P5:=hY c;have PM:=hY ((WM.FZ (Z.o.trans (L.o.trans ((Ext.refl _).drew)))).trans b);clear c b;rw[BN.o,BY.o] at P5;go_wp2_with (go_at_call 34;refine(cS _ base p _ _ P5.o (by decide)).m2 fun w4 c b=>?_;have D:=hY (And.intro c.o (PM.o.trans b.o)))
   (first|refine QzE rfl rfl ?_|refine QzR rfl rfl ?_);exact ⟨rfl,by rw[U.o];exact D.o⟩
  |false=>
   have U:=hY (G3.o rfl rfl);have z:=hY (A2.o rfl rfl);go_enter Tryz.func33,Tryz.ntmps33;go_upto_region 8 with fail;generalize w.alloc _=W1 at*
   go_upto_region 2 with(first
    |(go_at_call 98;refine(X.o _).m fun w2 N=>?_;have q2:=R.o _ (.FZ N.o))
    |(go_at_call 99;refine(ad.o _).m fun w3 r=>?_;have L:=hY (N.o.trans r.o);have q3:=R.o _ (.FZ L.o))
    |(go_at_call 100;refine(ai.o _ (Z.o.trans L.o)).mono ?_;rintro e w4 ⟨g,cg,rfl,au,ar,hK,ae⟩;have E4:=hY (L.o.trans ae);have K:=hY hK;have GP:Hid (g≠p):=hY (by have h1:=HW.o.pl;have h2:=(Z.o.trans L.o).size;omega);clear hK ae))
   have ap:(bS n).length<=1048576:=by have:=z.o;omega
   have D0:=hY (And.intro (P0.o.keep E4.o) (WM.FZ (base:=base) (p:=p) E4.o));clear q1 q2 q3;generalize am:bS n=B at*
   go_loopw [10] (fun i wr=>∃(k:Nat) (S:TX),k<=B.length/\i=.i k/\aK base wr p S/\WM base p W1 wr/\qo wr g B/\gO B f true s=gO (B.drop k) (f.drop k) (k==0) S) (fun i _=>B.length-(intOf i).toNat)
   case atStart=>exact⟨0,s,by omega,rfl,D0.o.1,D0.o.2,K.o,rfl⟩
   case round=>
    obtain⟨j,S,hk,rfl,Y,u,hK,hF⟩:=hrel;have F:=hY hF;have P:=hY Y;have M:=hY u;have KK:=hY hK;clear hF Y u hK D0 K N L E4;by_cases hlt:j<B.length
    ·obtain⟨q,hq⟩:∃q,B[j]?=some q:=⟨B[j],by simp⟩
     obtain⟨y,E⟩:∃y,f[j]?=some y:=⟨f[j]'(by have:=z.o;omega),by simp⟩;have kc:=KK.o.cell hq;obtain⟨t,d,rfl,hg,hc⟩:=NM.o.cell (by intro e;rw[e] at E;simp at E)
     have NC:Hid (∀V,WM base p wr V->V.cell? ⟨t,d+j,none⟩=some (.string (mkS y))):=hY (fun V u=>by
      rw[←hc j y E]
      exact World.cell?_of_block (a:=⟨t,d+j,none⟩) (HW.o.low (((WM.FZ Z.o).trans M.o).trans u) _ hg))
     have F2:=hY (F.o.trans (yU hq E (j==0) S));have Q:=hY (YL.o y (eQ E));have PQ:=hY (PL.o q (eQ hq));have BQ:=hY (aG q);have BY:=hY (aG y);have al:j<f.length:=by have:=z.o;omega
     have kb:=R.o _ M.o;have nc:=NC.o _ (WM.refl _ _ _);clear hc hg hq E F;by_cases hk0:j=0
     ·subst hk0
      simp only[ks] at nc NC
      go_wp2_with (first
       |(go_at_call 34;refine(uP _ base p S _ _ _ P.o PQ.o (by decide) Q.o).m2 fun w6 h m=>?_;have W:=hY (And.intro h.o m.o);rw[BQ.o,BY.o] at W))
      go_roundw
      case rel=>exact⟨1,_,by omega,by go_num,W.o.1,M.o.trans W.o.2,KK.o.keep W.o.2 GP.o,by rw[F2.o];rfl⟩
      case measure=>simp[intOf];omega
     ·have ag:(j==0)=false:=by simpa using hk0
      rw[ag] at F2
      go_wp2_with (go_at_call 34;first
       |(with_reducible refine(cS _ base p S _ P.o (by decide)).m2 fun w6 P1 M1=>?_;have ak:=R.o _ (M.o.trans M1.o);have aj:=NC.o _ M1.o)
       |(with_reducible refine(uP _ base p _ _ _ _ P1.o PQ.o (by decide) Q.o).m2 fun w7 h m=>?_;have W:=hY (And.intro h.o (M1.o.trans m.o));rw[BQ.o,BY.o] at W))
      go_roundw
      case rel=>exact⟨j+1,_,by omega,by go_num,W.o.1,M.o.trans W.o.2,KK.o.keep W.o.2 GP.o,by rw[F2.o];rfl⟩
      case measure=>simp[intOf];omega
    ·have hd:B.drop j=[]:=hH (by omega)
     have F2:Hid (gO B f true s=S):=by
      have:=F.o;rw[hd,qI] at this;exact this
     clear hd;rw[F2.o] at U;have PM:=hY ((WM.FZ Z.o).trans M.o);go_wp2_with (go_at_call 34;refine(cS _ base p S _ P.o (by decide)).m2 fun w9 c b=>?_;have D:=hY (And.intro c.o (PM.o.trans b.o)))
     (first|refine QzE rfl rfl ?_|refine QzR rfl rfl ?_);exact ⟨rfl,by rw[U.o];exact D.o⟩
section
variable {N:Int}
def ec (a:Int)(s:TX):TX:=if a≠0 then((s.put [9,60,112,114,105,109,105,116,105,118,101,58,32]).put (Lib.itoa a)).put [62,10] else s
def ea (a:List BL)(s:TX):TX:=if a≠[] then((s.put [9,124,32]).put (fA [32] a)).put [32,124,10] else s
def fx (n:BL)(c a:List BL)(l:List T)(b:Int):TX:=dV l (ea a (ec b (ff n c ⟨[],0,0⟩)))
def dM (t:T):BL×Int:=
 if t.method=false then([],127)
 else if 100<(fx t.name t.FP t.FQ t.FN t.FY).most then([],125)
 else if 65536<(fx t.name t.FP t.FQ t.FN t.FY).F.length then([],2)
 else((fx t.name t.FP t.FQ t.FN t.FY).F,0)
theorem Dp (w:World)(n:Int)(d:0<=n)(c:n<=255)(b:fJ w):Calls Tryz.prog 35 #[.i n] w fun e w'=>e=.returned (.string (mkS (Lib.itoa n)))/\Ext w w':=by
 refine(Go.Proofs.Tryz.strconv_Itoa n (by omega) (by omega) w b.tab).mono ?_;rintro e w' ⟨rfl,k,a,rfl⟩;exact⟨rfl,Lib.below_grow _ w (gE _) k a⟩
theorem PWV.text {base p n:Nat}{w:World}{s:TX}{v:Value}{xs:List Value}(h:PWV base w p s v n xs)(d:s.F.length<=65536):(convert 32 9 v).run Tryz.prog w=.ok (.string (mkS s.F)) w:=by
 obtain⟨k,i⟩:=h.same d;rcases h.row.2 with⟨a,m⟩|⟨g,c,l,a,_⟩
 ·rw[a]
  have e:s.F=[]:=ls (by omega);rw[e];exact Lib.run_convert_nil_bytes w 32 9 5 0 Tryz.underlying32 Tryz.underlying5 Tryz.underlying9
 ·have b:=h.row
  rw[a] at b ⊢;rw[i];refine Go.run_convert_bytes_back w 32 9 5 ⟨g,0,none⟩ c s.F Tryz.underlying32 Tryz.underlying5 Tryz.underlying9 (fun j f=>?_);have:=aX b j (by omega);rw[k] at this;unfold fI at this;rw[oN,iD f] at this;have e:(⟨g,0,none⟩:Addr).add j=⟨g,j,none⟩:=by unfold Addr.add;split<;>simp_all
  rw[e];exact this
theorem kQ {l:List T}{k:Nat}{x:T}(a:l[k]?=some x)(S:TX):dV (l.drop k) S=dV (l.drop (k+1)) ((if k+1=l.length then ce x (S.put [9]) else(ce x (S.put [9])).put [46]).put [10]):=by
 obtain⟨b,c⟩:=aC.1 a;rw[hI b,c,dV]
 have:(l.drop (k+1)=[])↔k+1=l.length:=by
  rw[List.drop_eq_nil_iff];omega
 by_cases hk:k+1=l.length
 ·rw[if_pos hk,if_pos (this.2 hk)]
 ·rw[if_neg hk,if_neg (fun h=>hk (this.1 h))]
theorem vQ (ps c:List BL)(b:Bool)(s:TX):Sub s (gO ps c b s) N:=by
 induction ps generalizing c b s with
 |nil=>rw[qI];exact Sub.refl s
 |cons p ps ih=>
  cases c with
  |nil=>rw[gO];exact Sub.refl s;nofun
  |cons a c=>
   rw[gO];exact((((Sub.btw s b [32]).trans (Sub.put _ _)).trans (Sub.put _ _)).trans (Sub.put _ _)).trans (ih _ _ _)
theorem l8 (n:BL)(a:List BL)(s:TX):Sub s (ff n a s) N:=by
 unfold ff
 split
 ·exact(Sub.put _ _).trans (Sub.put _ _)
 ·split
  ·split
   ·exact Sub.put _ _
   ·exact(((Sub.put _ _).trans (Sub.put _ _)).trans (Sub.put _ _)).trans (Sub.put _ _)
  ·exact(vQ _ _ _ _).trans (Sub.put _ _)
theorem kI (a:Int)(s:TX):Sub s (ec a s) N:=by
 unfold ec
 split
 ·exact((Sub.put _ _).trans (Sub.put _ _)).trans (Sub.put _ _)
 ·exact Sub.refl s
theorem kH (a:List BL)(s:TX):Sub s (ea a s) N:=by
 unfold ea
 split
 ·exact((Sub.put _ _).trans (Sub.put _ _)).trans (Sub.put _ _)
 ·exact Sub.refl s
theorem Df (w:World):aK w.heap.size (w.alloc (.cells #[.slice none 0 0,.i 0,.i 0,.bool false] 100)) w.heap.size ⟨[],0,0⟩:=
 ⟨.slice none 0 0,0,[],gE _,aq w _ _ rfl,⟨by simp,.inl ⟨rfl,rfl⟩⟩,by omega,fun _=>⟨rfl,rfl⟩⟩
end
theorem AH (t:T)(hnd:T.nd t<=100000000)(w:World)(top:Nat)(ac:top<=w.heap.size)(hv:fJ w)(a1:Option Addr)(c1:Nat)(a2:Option Addr)(c2:Nat)(a3:Option Addr)(c3:Nat)(A:bK w top t a1 c1 a2 c2 a3 c3):
 Calls Tryz.prog 14 #[.agg (af t.kind t.name t.FP.length t.FQ.length t.FN.length t.FY t.FR a1 c1 a2 c2 a3 c3)] w fun e w'=>e=.returned (.tuple #[.string (mkS (dM t).1),.i (dM t).2])/\Ext w w':=by
 have hZ:∀y∈t.FN,T.nd y<=100000000:=fun y H=>by have:=aD H;omega
 obtain⟨k,n,j,g,l,s,pl⟩:=t
 replace hZ:∀y∈l,T.nd y<=100000000:=hZ
 have EX:Hid (Ext w (w.alloc (.cells (af k n j.length g.length l.length s pl a1 c1 a2 c2 a3 c3) 26))):=(Ext.refl w).alloc _;have KE:=hY (bt w (aB k n j.length g.length l.length s pl a1 c1 a2 c2 a3 c3) 26);have IM:=hY (vk (w.alloc (.cells (af k n j.length g.length l.length s pl a1 c1 a2 c2 a3 c3) 26)) top (aN ac EX.o.size) (hv.ext EX.o) k n j g l s pl a1 c1 a2 c2 a3 c3 (A.keep (am EX.o ac)));have av:T.method (.mk k n j g l s pl)=qK k n j g l s:=rfl
 have RR:Hid (dM (.mk k n j g l s pl)=if qK k n j g l s=false then([],127) else if 100<(fx n j g l s).most then([],125) else if 65536<(fx n j g l s).F.length then([],2) else((fx n j g l s).F,0)):=by
  refine hY ?_;unfold dM;rw[av];rfl
 have a9:l.length<=1048576:=A.FN.small;have ba:g.length<=1048576:=A.FQ.small;obtain⟨q1,_⟩:=KE.o _ (Ext.refl _);show Calls Tryz.prog 14 #[.agg (af k n j.length g.length l.length s pl a1 c1 a2 c2 a3 c3)] w _
 cases hb:qK k n j g l s with
 |false=>
  rw[hb] at IM RR;clear hb av A hv ac;go_enter Tryz.func14,Tryz.ntmps14;go_upto_region 1 with fail;generalize w.alloc _=W1 at*;go_upto_region 2 with(first|(go_at_call 32;refine IM.o.m fun w2 E2=>?_));go_wp2_with fail;exact bodyPost_ret (results_tmp2 rfl _ _ _) rfl ⟨by rw[RR.o];rfl,EX.o.trans E2.o⟩
 |true=>
  rw[hb] at IM RR;simp only[qK,gT,beq_iff_eq,decide_eq_true_eq] at hb;obtain⟨⟨⟨⟨⟨⟨a8,a4⟩,a7⟩,ap⟩,_⟩,_⟩,az⟩:=hb;subst a8;have ak:=hY (sR az (fun y _=>Cv y) (fun y _ z _=>Cv z));have d:Hid (dM (.mk 1 n j g l s pl)=if 100<(fx n j g l s).most then([],125) else if 65536<(fx n j g l s).F.length then([],2) else((fx n j g l s).F,0)):=hY RR.o;have IL:Hid ((mkS (Lib.itoa s)).size<=bO):=hY (by rw[aR];have:=Lib.itoa_length_le s (by omega) (by omega);unfold bO;omega);have JL:Hid ((mkS (fA [32] g)).size<=bO):=hY (by rw[aR];have:=mT (l:=g) A.FQ.small A.FQ.each;unfold bO;omega);have BI:=hY (aG (Lib.itoa s));have BJ:=hY (aG (fA [32] g));have G:=hY ac;have HV:=hY hv;have PP:=hY A;have HZ:=hY hZ;have KR:=hY a4;clear av A hv ac az RR hZ a4;go_enter Tryz.func14,Tryz.ntmps14;go_upto_region 1 with fail;generalize au:w.alloc _=W1 at*;go_upto_region 4 with(first|(go_at_call 32;refine IM.o.m fun w2 E2=>?_));have W0:=hY (Wd.mk (top:=top) (aN G.o (EX.o.trans E2.o).size) (HV.o.ext (EX.o.trans E2.o)).big ((HV.o.ext (EX.o.trans E2.o)).ext ((Ext.refl _).alloc _)) (Df w2));have E3:=hY ((EX.o.trans E2.o).trans ((Ext.refl w2).alloc (.cells #[.slice none 0 0,.i 0,.i 0,.bool false] 100)))
  have KB:Hid (∀V,WM w2.heap.size w2.heap.size (w2.alloc (.cells #[.slice none 0 0,.i 0,.i 0,.bool false] 100)) V->∀i,V.cell? ⟨w.heap.size,i,none⟩=(aB 1 n j.length g.length l.length s pl a1 c1 a2 c2 a3 c3)[i]?):=hY (fun V u i=>by
   have h1:w.heap.size<w2.heap.size:=bA (ab (aq w (.cells (af 1 n j.length g.length l.length s pl a1 c1 a2 c2 a3 c3) 26) _ rfl)) (by rw[au];exact E2.o.size);have h2:w2.heap[w.heap.size]?=some (.cells (af 1 n j.length g.length l.length s pl a1 c1 a2 c2 a3 c3) 26):=E2.o.keep (by rw[←au];exact aq w _ _ rfl);have h3:=u.low w.heap.size h1 (by have:=((Ext.refl w2).alloc (.cells #[.slice none 0 0,.i 0,.i 0,.bool false] 100)).size;omega);rw[aM h2] at h3;rw[(blk h3).1]
   simp)
  have PA:=hY (xh 1 n j g l s pl KR.o w2.heap.size top w2.heap.size _ _ a1 c1 a2 c2 a3 c3 W0.o (PP.o.keep (am E3.o G.o)));have BG:=hY (aN G.o (EX.o.trans E2.o).size);generalize a0:w2.heap.size=c at*;have q2:=KB.o _ (WM.refl _ _ _);have E:Hid (Ext w (w2.alloc (.cells #[.slice none 0 0,.i 0,.i 0,.bool false] 100))):=E3;have LW:Hid (w.heap.size<=c):=hY (by rw[←a0];exact(EX.o.trans E2.o).size);clear au q1 E3 IM KE EX a0 E2;generalize w2.alloc _=W3 at*;have ay:s=0\/s≠0:=by omega
  have ax:g=[]\/g≠[]:=by by_cases h:g=[];exact .inl h;exact .inr h
  generalize ar:g.length=n2 at*;have L2:=hY ar;have IT:=hY (fun V hv=>Dp V s a7 ap hv);have JN:=hY (fun V (u:WM c c W3 V)=>vj V top c2 a2 g (PP.o.FQ.keep (fun k hk=>by rw[W0.o.low u k hk];exact am E.o G.o k hk)) (aN W0.o.top u.size));rw[ar] at JN;clear ar;go_upto_region 5 with(first|(go_at_call 33;refine PA.o.m2 fun w3 PH p=>?_;have q3:=KB.o _ p.o));clear PA q2;have GO:Hid (∀(S:TX),True):=hY (fun _=>trivial);rcases ay with ae|ae<;>rcases ax with I|I
  ·subst ae
   obtain rfl:n2=0:=by rw[←L2.o,I];rfl
   have aw:=hY I;clear I
   go_upto_region 9 with(first
    |(go_at_call 35;refine(IT.o _ (W0.o.step PH.o p.o).vars).m fun w4 x=>?_;replace PH:=hY (PH.o.keep x.o);replace p:=hY (p.o.ext x.o))
    |(go_at_call 36;refine(JN.o _ p.o).m fun w5 x=>?_;replace PH:=hY (PH.o.keep x.o);replace p:=hY (p.o.ext x.o))
    |(go_at_call 34;refine(uP _ c c _ _ _ _ PH.o (by decide) (by first|exact IL.o|exact JL.o) (by decide)).m2 fun w6 A u=>?_;replace PH:=hY A.o;replace p:=hY (p.o.trans u.o);have q4:=KB.o _ p.o))
   have PT:Hid (aK c _ c (ea g (ec 0 (ff n j ⟨[],0,0⟩)))):=hY (by unfold ea ec;rw[if_neg (by simp[aw.o])];rw[if_neg (by simp)];exact PH.o);clear PH;have q5:=KB.o _ p.o;have Z:Hid ((⟨[],0,0⟩:TX).ok 100000000/\Sub ⟨[],0,0⟩ (ea g (ec 0 (ff n j ⟨[],0,0⟩))) 100000000):=hY ⟨⟨by decide,by decide,by decide,by decide⟩,((l8 n j _).trans (kI _ _)).trans (kH _ _)⟩;have ME:Hid (fx n j g l 0=dV l (ea g (ec 0 (ff n j ⟨[],0,0⟩)))):=hY rfl;generalize ea g (ec 0 (ff n j ⟨[],0,0⟩))=s1 at*;go_upto_region 10 with fail
   go_loopw [37] (fun i wr=>∃(k:Nat) (S:TX),k<=l.length/\i=.i k/\aK c wr c S/\WM c c W3 wr/\Sub ⟨[],0,0⟩ S 100000000/\dV l s1=dV (l.drop k) S) (fun i _=>l.length-(intOf i).toNat)
   case atStart=>exact⟨0,s1,by omega,rfl,PT.o,p.o,Z.o.2,rfl⟩
   case round=>
    obtain⟨k,S,hk,rfl,A,u,hS,hF⟩:=hrel;have F:=hY hF;have P:=hY A;have M:=hY u;have SS:=hY hS;clear hF A u hS PT p q5;try clear q3
    try clear q4
    by_cases hlt:k<l.length
    ·obtain⟨y,H⟩:∃y,l[k]?=some y:=⟨l[k],by simp⟩
     have K:=ak.o y (eQ H);have ah:=HZ.o y (eQ H);have W2:=W0.o.step P.o M.o;have NT:NAt wr top a3 c3 l:=PP.o.FN.keep (fun k hk=>by rw[W0.o.low M.o k hk];exact am E.o G.o k hk);obtain⟨g2,ao,X,R,W,Q,U,O,rfl,C,ai,L⟩:=NT.seven H;have B:=hY (F.o.trans (kQ H S));have aa:Hid (S.ok 100000000):=hY (Z.o.1.sub SS.o (by decide));have q:=xal wr y X R W Q U O;have HC:Hid (∀V r,WM c c wr V->aK c V c r->r.ok 100000000->Calls Tryz.prog 37 #[.pointer (some ⟨c,0,none⟩),.agg (af y.kind y.name y.FP.length y.FQ.length y.FN.length y.FY y.FR X R W Q U O)] V fun e w'=>e=.returned (.tuple #[])/\aK c w' c (ce y r)/\WM c c V w'):=hY (fun V r N aj ho=>dH y K c top c V r X R W Q U O (W2.step aj N) (ho.mono (by omega)) (L.keep (W2.low N)));have Y:Hid (∀r,Sub r (ce y r) 100000000):=hY (fun r=>fM (by omega) r);have PB:=hY (P.o.keep q.o);have BX:Hid (∀W',WM c c (wr.alloc (.cells (af y.kind y.name y.FP.length y.FQ.length y.FN.length y.FY y.FR X R W Q U O) 26)) W'->∀i,W'.cell? ⟨wr.heap.size,i,none⟩=(aB y.kind y.name y.FP.length y.FQ.length y.FN.length y.FY y.FR X R W Q U O)[i]?):=hY (eR wr W2.pl _);have QB:=hY (fun V (u:WM c c wr V)=>KB.o V (M.o.trans u));obtain⟨e0,e1,e2,e3,e4,e5,e6⟩:=ai;clear K ah L W2 H C F NT;generalize ce y=f at*;by_cases hlast:k+1=l.length
     ·have HL:=hY hlast
      rw[if_pos hlast] at B;have J:¬(k:Int)<(l.length:Int)-1:=by omega
      clear hlast;go_upto_region 12 with fail;generalize wr.alloc _=W4 at*
      go_wp2_with (first
       |(go_at_call 34;first
        |(with_reducible refine(cS _ c c S _ PB.o (by decide)).m2 fun w7 P2 D=>?_;have q6:=BX.o _ D.o)
        |(with_reducible refine(cS _ c c _ _ P3.o (by decide)).m2 fun w9 P4 b=>?_;have M4:=hY (M3.o.trans b.o)))
       |(go_at_call 37;refine(HC.o _ _ ((WM.FZ q.o).trans D.o) P2.o (aa.o.put _)).m2 fun w8 P3 b=>?_;have M3:=hY (((WM.FZ q.o).trans D.o).trans b.o);have q7:=QB.o _ M3.o))
      go_roundw
      case rel=>exact⟨k+1,_,by omega,by go_num,P4.o,M.o.trans M4.o,((SS.o.trans (Sub.put S _)).trans (Y.o _)).trans (Sub.put _ _),by first|exact B.o|(rw[B.o];rfl)⟩
      case measure=>simp[intOf];omega
     ·rw[if_neg hlast] at B
      have J:(k:Int)<(l.length:Int)-1:=by omega
      go_upto_region 12 with fail;generalize wr.alloc _=W4 at*
      go_wp2_with (first
       |(go_at_call 34;first
        |(with_reducible refine(cS _ c c S _ PB.o (by decide)).m2 fun w7 P2 D=>?_;have q6:=BX.o _ D.o)
        |(with_reducible refine(cS _ c c _ _ P4.o (by decide)).m2 fun al P5 b=>?_;have M5:=hY (M4.o.trans b.o))
        |(with_reducible refine(cS _ c c _ _ P3.o (by decide)).m2 fun w9 P4 b=>?_;have M4:=hY (M3.o.trans b.o)))
       |(go_at_call 37;refine(HC.o _ _ ((WM.FZ q.o).trans D.o) P2.o (aa.o.put _)).m2 fun w8 P3 b=>?_;have M3:=hY (((WM.FZ q.o).trans D.o).trans b.o);have q7:=QB.o _ M3.o))
      go_roundw
      case rel=>exact⟨k+1,_,by omega,by go_num,P5.o,M.o.trans M5.o,(((SS.o.trans (Sub.put S _)).trans (Y.o _)).trans (Sub.put _ _)).trans (Sub.put _ _),by first|exact B.o|(rw[B.o];rfl)⟩
      case measure=>simp[intOf];omega
    ·have hd:l.drop k=[]:=hH (by omega)
     have B:Hid (fx n j g l 0=S):=by
      have:=F.o;rw[hd,dV] at this;exact hY (ME.o.trans this)
     clear hd;have EF:Hid (Ext w wr):=hY ⟨M.o.os.trans E.o.os,M.o.tape.trans E.o.tape,M.o.output.trans E.o.output,aN E.o.size M.o.size,fun i hi=>by rw[M.o.low i (bA hi LW.o) (bA hi E.o.size)];exact E.o.block hi⟩;rw[B.o] at d;obtain⟨v,m,xs,hV⟩:=P.o;obtain⟨t1,t2⟩:=blk hV.blk;unfold pwC at t1;by_cases hm:100<S.most
     ·rw[if_pos hm] at d
      go_wp2_with fail;exact bodyPost_ret (results_tmp2 rfl _ _ _) rfl ⟨by rw[d.o];rfl,EF.o⟩
     ·rw[if_neg hm] at d
      by_cases C:65536<S.F.length
      ·rw[if_pos C] at d
       rw[decide_eq_true C] at t1;go_wp2_with fail;exact bodyPost_ret (results_tmp2 rfl _ _ _) rfl ⟨by rw[d.o];rfl,EF.o⟩
      ·rw[if_neg C] at d
       have ag:=hV.text (by omega);obtain⟨ad,cc,rfl,_⟩:=aJ hV.row;rw[decide_eq_false C] at t1;clear C;go_wp2_with (rw[ag]);exact bodyPost_ret (results_tmp2 rfl _ _ _) rfl ⟨by rw[d.o];rfl,EF.o⟩
  ·subst ae
   have a5:0<n2:=by rw[←L2.o];exact zb.2 I
   go_upto_region 9 with(first
    |(go_at_call 35;refine(IT.o _ (W0.o.step PH.o p.o).vars).m fun w4 x=>?_;replace PH:=hY (PH.o.keep x.o);replace p:=hY (p.o.ext x.o))
    |(go_at_call 36;refine(JN.o _ p.o).m fun w5 x=>?_;replace PH:=hY (PH.o.keep x.o);replace p:=hY (p.o.ext x.o))
    |(go_at_call 34;refine(uP _ c c _ _ _ _ PH.o (by decide) (by first|exact IL.o|exact JL.o) (by decide)).m2 fun w6 A u=>?_;replace PH:=hY A.o;replace p:=hY (p.o.trans u.o);have q4:=KB.o _ p.o))
   try rw[BJ.o] at PH
   have PT:Hid (aK c _ c (ea g (ec 0 (ff n j ⟨[],0,0⟩)))):=hY (by unfold ea ec;rw[if_pos I];rw[if_neg (by simp)];exact PH.o);clear PH;have q5:=KB.o _ p.o;have Z:Hid ((⟨[],0,0⟩:TX).ok 100000000/\Sub ⟨[],0,0⟩ (ea g (ec 0 (ff n j ⟨[],0,0⟩))) 100000000):=hY ⟨⟨by decide,by decide,by decide,by decide⟩,((l8 n j _).trans (kI _ _)).trans (kH _ _)⟩;have ME:Hid (fx n j g l 0=dV l (ea g (ec 0 (ff n j ⟨[],0,0⟩)))):=hY rfl;generalize ea g (ec 0 (ff n j ⟨[],0,0⟩))=s1 at*;go_upto_region 10 with fail
   go_loopw [37] (fun i wr=>∃(k:Nat) (S:TX),k<=l.length/\i=.i k/\aK c wr c S/\WM c c W3 wr/\Sub ⟨[],0,0⟩ S 100000000/\dV l s1=dV (l.drop k) S) (fun i _=>l.length-(intOf i).toNat)
   case atStart=>exact⟨0,s1,by omega,rfl,PT.o,p.o,Z.o.2,rfl⟩
   case round=>
    obtain⟨k,S,hk,rfl,A,u,hS,hF⟩:=hrel;have F:=hY hF;have P:=hY A;have M:=hY u;have SS:=hY hS;clear hF A u hS PT p q5;try clear q3
    try clear q4
    by_cases hlt:k<l.length
    ·obtain⟨y,H⟩:∃y,l[k]?=some y:=⟨l[k],by simp⟩
     have K:=ak.o y (eQ H);have ah:=HZ.o y (eQ H);have W2:=W0.o.step P.o M.o;have NT:NAt wr top a3 c3 l:=PP.o.FN.keep (fun k hk=>by rw[W0.o.low M.o k hk];exact am E.o G.o k hk);obtain⟨g2,ao,X,R,W,Q,U,O,rfl,C,ai,L⟩:=NT.seven H;have B:=hY (F.o.trans (kQ H S));have aa:Hid (S.ok 100000000):=hY (Z.o.1.sub SS.o (by decide));have q:=xal wr y X R W Q U O;have HC:Hid (∀V r,WM c c wr V->aK c V c r->r.ok 100000000->Calls Tryz.prog 37 #[.pointer (some ⟨c,0,none⟩),.agg (af y.kind y.name y.FP.length y.FQ.length y.FN.length y.FY y.FR X R W Q U O)] V fun e w'=>e=.returned (.tuple #[])/\aK c w' c (ce y r)/\WM c c V w'):=hY (fun V r N aj ho=>dH y K c top c V r X R W Q U O (W2.step aj N) (ho.mono (by omega)) (L.keep (W2.low N)));have Y:Hid (∀r,Sub r (ce y r) 100000000):=hY (fun r=>fM (by omega) r);have PB:=hY (P.o.keep q.o);have BX:Hid (∀W',WM c c (wr.alloc (.cells (af y.kind y.name y.FP.length y.FQ.length y.FN.length y.FY y.FR X R W Q U O) 26)) W'->∀i,W'.cell? ⟨wr.heap.size,i,none⟩=(aB y.kind y.name y.FP.length y.FQ.length y.FN.length y.FY y.FR X R W Q U O)[i]?):=hY (eR wr W2.pl _);have QB:=hY (fun V (u:WM c c wr V)=>KB.o V (M.o.trans u));obtain⟨e0,e1,e2,e3,e4,e5,e6⟩:=ai;clear K ah L W2 H C F NT;generalize ce y=f at*;by_cases hlast:k+1=l.length
     ·have HL:=hY hlast
      rw[if_pos hlast] at B;have J:¬(k:Int)<(l.length:Int)-1:=by omega
      clear hlast;go_upto_region 12 with fail;generalize wr.alloc _=W4 at*
      go_wp2_with (first
       |(go_at_call 34;first
        |(with_reducible refine(cS _ c c S _ PB.o (by decide)).m2 fun w7 P2 D=>?_;have q6:=BX.o _ D.o)
        |(with_reducible refine(cS _ c c _ _ P3.o (by decide)).m2 fun w9 P4 b=>?_;have M4:=hY (M3.o.trans b.o)))
       |(go_at_call 37;refine(HC.o _ _ ((WM.FZ q.o).trans D.o) P2.o (aa.o.put _)).m2 fun w8 P3 b=>?_;have M3:=hY (((WM.FZ q.o).trans D.o).trans b.o);have q7:=QB.o _ M3.o))
      go_roundw
      case rel=>exact⟨k+1,_,by omega,by go_num,P4.o,M.o.trans M4.o,((SS.o.trans (Sub.put S _)).trans (Y.o _)).trans (Sub.put _ _),by first|exact B.o|(rw[B.o];rfl)⟩
      case measure=>simp[intOf];omega
     ·rw[if_neg hlast] at B
      have J:(k:Int)<(l.length:Int)-1:=by omega
      go_upto_region 12 with fail;generalize wr.alloc _=W4 at*
      go_wp2_with (first
       |(go_at_call 34;first
        |(with_reducible refine(cS _ c c S _ PB.o (by decide)).m2 fun w7 P2 D=>?_;have q6:=BX.o _ D.o)
        |(with_reducible refine(cS _ c c _ _ P4.o (by decide)).m2 fun al P5 b=>?_;have M5:=hY (M4.o.trans b.o))
        |(with_reducible refine(cS _ c c _ _ P3.o (by decide)).m2 fun w9 P4 b=>?_;have M4:=hY (M3.o.trans b.o)))
       |(go_at_call 37;refine(HC.o _ _ ((WM.FZ q.o).trans D.o) P2.o (aa.o.put _)).m2 fun w8 P3 b=>?_;have M3:=hY (((WM.FZ q.o).trans D.o).trans b.o);have q7:=QB.o _ M3.o))
      go_roundw
      case rel=>exact⟨k+1,_,by omega,by go_num,P5.o,M.o.trans M5.o,(((SS.o.trans (Sub.put S _)).trans (Y.o _)).trans (Sub.put _ _)).trans (Sub.put _ _),by first|exact B.o|(rw[B.o];rfl)⟩
      case measure=>simp[intOf];omega
    ·have hd:l.drop k=[]:=hH (by omega)
     have B:Hid (fx n j g l 0=S):=by
      have:=F.o;rw[hd,dV] at this;exact hY (ME.o.trans this)
     clear hd;have EF:Hid (Ext w wr):=hY ⟨M.o.os.trans E.o.os,M.o.tape.trans E.o.tape,M.o.output.trans E.o.output,aN E.o.size M.o.size,fun i hi=>by rw[M.o.low i (bA hi LW.o) (bA hi E.o.size)];exact E.o.block hi⟩;rw[B.o] at d;obtain⟨v,m,xs,hV⟩:=P.o;obtain⟨t1,t2⟩:=blk hV.blk;unfold pwC at t1;by_cases hm:100<S.most
     ·rw[if_pos hm] at d
      go_wp2_with fail;exact bodyPost_ret (results_tmp2 rfl _ _ _) rfl ⟨by rw[d.o];rfl,EF.o⟩
     ·rw[if_neg hm] at d
      by_cases C:65536<S.F.length
      ·rw[if_pos C] at d
       rw[decide_eq_true C] at t1;go_wp2_with fail;exact bodyPost_ret (results_tmp2 rfl _ _ _) rfl ⟨by rw[d.o];rfl,EF.o⟩
      ·rw[if_neg C] at d
       have ag:=hV.text (by omega);obtain⟨ad,cc,rfl,_⟩:=aJ hV.row;rw[decide_eq_false C] at t1;clear C;go_wp2_with (rw[ag]);exact bodyPost_ret (results_tmp2 rfl _ _ _) rfl ⟨by rw[d.o];rfl,EF.o⟩
  ·obtain rfl:n2=0:=by rw[←L2.o,I];rfl
   have aw:=hY I;clear I;have a6:(s==0)=false:=by simpa using ae
   go_upto_region 9 with(first
    |(go_at_call 35;refine(IT.o _ (W0.o.step PH.o p.o).vars).m fun w4 x=>?_;replace PH:=hY (PH.o.keep x.o);replace p:=hY (p.o.ext x.o))
    |(go_at_call 36;refine(JN.o _ p.o).m fun w5 x=>?_;replace PH:=hY (PH.o.keep x.o);replace p:=hY (p.o.ext x.o))
    |(go_at_call 34;refine(uP _ c c _ _ _ _ PH.o (by decide) (by first|exact IL.o|exact JL.o) (by decide)).m2 fun w6 A u=>?_;replace PH:=hY A.o;replace p:=hY (p.o.trans u.o);have q4:=KB.o _ p.o))
   try rw[BI.o] at PH
   have PT:Hid (aK c _ c (ea g (ec s (ff n j ⟨[],0,0⟩)))):=hY (by unfold ea ec;rw[if_neg (by simp[aw.o])];rw[if_pos ae];exact PH.o);clear PH;have q5:=KB.o _ p.o;have Z:Hid ((⟨[],0,0⟩:TX).ok 100000000/\Sub ⟨[],0,0⟩ (ea g (ec s (ff n j ⟨[],0,0⟩))) 100000000):=hY ⟨⟨by decide,by decide,by decide,by decide⟩,((l8 n j _).trans (kI _ _)).trans (kH _ _)⟩;have ME:Hid (fx n j g l s=dV l (ea g (ec s (ff n j ⟨[],0,0⟩)))):=hY rfl;generalize ea g (ec s (ff n j ⟨[],0,0⟩))=s1 at*;go_upto_region 10 with fail
   go_loopw [37] (fun i wr=>∃(k:Nat) (S:TX),k<=l.length/\i=.i k/\aK c wr c S/\WM c c W3 wr/\Sub ⟨[],0,0⟩ S 100000000/\dV l s1=dV (l.drop k) S) (fun i _=>l.length-(intOf i).toNat)
   case atStart=>exact⟨0,s1,by omega,rfl,PT.o,p.o,Z.o.2,rfl⟩
   case round=>
    obtain⟨k,S,hk,rfl,A,u,hS,hF⟩:=hrel;have F:=hY hF;have P:=hY A;have M:=hY u;have SS:=hY hS;clear hF A u hS PT p q5;try clear q3
    try clear q4
    by_cases hlt:k<l.length
    ·obtain⟨y,H⟩:∃y,l[k]?=some y:=⟨l[k],by simp⟩
     have K:=ak.o y (eQ H);have ah:=HZ.o y (eQ H);have W2:=W0.o.step P.o M.o;have NT:NAt wr top a3 c3 l:=PP.o.FN.keep (fun k hk=>by rw[W0.o.low M.o k hk];exact am E.o G.o k hk);obtain⟨g2,ao,X,R,W,Q,U,O,rfl,C,ai,L⟩:=NT.seven H;have B:=hY (F.o.trans (kQ H S));have aa:Hid (S.ok 100000000):=hY (Z.o.1.sub SS.o (by decide));have q:=xal wr y X R W Q U O;have HC:Hid (∀V r,WM c c wr V->aK c V c r->r.ok 100000000->Calls Tryz.prog 37 #[.pointer (some ⟨c,0,none⟩),.agg (af y.kind y.name y.FP.length y.FQ.length y.FN.length y.FY y.FR X R W Q U O)] V fun e w'=>e=.returned (.tuple #[])/\aK c w' c (ce y r)/\WM c c V w'):=hY (fun V r N aj ho=>dH y K c top c V r X R W Q U O (W2.step aj N) (ho.mono (by omega)) (L.keep (W2.low N)));have Y:Hid (∀r,Sub r (ce y r) 100000000):=hY (fun r=>fM (by omega) r);have PB:=hY (P.o.keep q.o);have BX:Hid (∀W',WM c c (wr.alloc (.cells (af y.kind y.name y.FP.length y.FQ.length y.FN.length y.FY y.FR X R W Q U O) 26)) W'->∀i,W'.cell? ⟨wr.heap.size,i,none⟩=(aB y.kind y.name y.FP.length y.FQ.length y.FN.length y.FY y.FR X R W Q U O)[i]?):=hY (eR wr W2.pl _);have QB:=hY (fun V (u:WM c c wr V)=>KB.o V (M.o.trans u));obtain⟨e0,e1,e2,e3,e4,e5,e6⟩:=ai;clear K ah L W2 H C F NT;generalize ce y=f at*;by_cases hlast:k+1=l.length
     ·have HL:=hY hlast
      rw[if_pos hlast] at B;have J:¬(k:Int)<(l.length:Int)-1:=by omega
      clear hlast;go_upto_region 12 with fail;generalize wr.alloc _=W4 at*
      go_wp2_with (first
       |(go_at_call 34;first
        |(with_reducible refine(cS _ c c S _ PB.o (by decide)).m2 fun w7 P2 D=>?_;have q6:=BX.o _ D.o)
        |(with_reducible refine(cS _ c c _ _ P3.o (by decide)).m2 fun w9 P4 b=>?_;have M4:=hY (M3.o.trans b.o)))
       |(go_at_call 37;refine(HC.o _ _ ((WM.FZ q.o).trans D.o) P2.o (aa.o.put _)).m2 fun w8 P3 b=>?_;have M3:=hY (((WM.FZ q.o).trans D.o).trans b.o);have q7:=QB.o _ M3.o))
      go_roundw
      case rel=>exact⟨k+1,_,by omega,by go_num,P4.o,M.o.trans M4.o,((SS.o.trans (Sub.put S _)).trans (Y.o _)).trans (Sub.put _ _),by first|exact B.o|(rw[B.o];rfl)⟩
      case measure=>simp[intOf];omega
     ·rw[if_neg hlast] at B
      have J:(k:Int)<(l.length:Int)-1:=by omega
      go_upto_region 12 with fail;generalize wr.alloc _=W4 at*
      go_wp2_with (first
       |(go_at_call 34;first
        |(with_reducible refine(cS _ c c S _ PB.o (by decide)).m2 fun w7 P2 D=>?_;have q6:=BX.o _ D.o)
        |(with_reducible refine(cS _ c c _ _ P4.o (by decide)).m2 fun al P5 b=>?_;have M5:=hY (M4.o.trans b.o))
        |(with_reducible refine(cS _ c c _ _ P3.o (by decide)).m2 fun w9 P4 b=>?_;have M4:=hY (M3.o.trans b.o)))
       |(go_at_call 37;refine(HC.o _ _ ((WM.FZ q.o).trans D.o) P2.o (aa.o.put _)).m2 fun w8 P3 b=>?_;have M3:=hY (((WM.FZ q.o).trans D.o).trans b.o);have q7:=QB.o _ M3.o))
      go_roundw
      case rel=>exact⟨k+1,_,by omega,by go_num,P5.o,M.o.trans M5.o,(((SS.o.trans (Sub.put S _)).trans (Y.o _)).trans (Sub.put _ _)).trans (Sub.put _ _),by first|exact B.o|(rw[B.o];rfl)⟩
      case measure=>simp[intOf];omega
    ·have hd:l.drop k=[]:=hH (by omega)
     have B:Hid (fx n j g l s=S):=by
      have:=F.o;rw[hd,dV] at this;exact hY (ME.o.trans this)
     clear hd;have EF:Hid (Ext w wr):=hY ⟨M.o.os.trans E.o.os,M.o.tape.trans E.o.tape,M.o.output.trans E.o.output,aN E.o.size M.o.size,fun i hi=>by rw[M.o.low i (bA hi LW.o) (bA hi E.o.size)];exact E.o.block hi⟩;rw[B.o] at d;obtain⟨v,m,xs,hV⟩:=P.o;obtain⟨t1,t2⟩:=blk hV.blk;unfold pwC at t1;by_cases hm:100<S.most
     ·rw[if_pos hm] at d
      go_wp2_with fail;exact bodyPost_ret (results_tmp2 rfl _ _ _) rfl ⟨by rw[d.o];rfl,EF.o⟩
     ·rw[if_neg hm] at d
      by_cases C:65536<S.F.length
      ·rw[if_pos C] at d
       rw[decide_eq_true C] at t1;go_wp2_with fail;exact bodyPost_ret (results_tmp2 rfl _ _ _) rfl ⟨by rw[d.o];rfl,EF.o⟩
      ·rw[if_neg C] at d
       have ag:=hV.text (by omega);obtain⟨ad,cc,rfl,_⟩:=aJ hV.row;rw[decide_eq_false C] at t1;clear C;go_wp2_with (rw[ag]);exact bodyPost_ret (results_tmp2 rfl _ _ _) rfl ⟨by rw[d.o];rfl,EF.o⟩
  ·have a5:0<n2:=by rw[←L2.o];exact zb.2 I
   have a6:(s==0)=false:=by simpa using ae
   go_upto_region 9 with(first
    |(go_at_call 35;refine(IT.o _ (W0.o.step PH.o p.o).vars).m fun w4 x=>?_;replace PH:=hY (PH.o.keep x.o);replace p:=hY (p.o.ext x.o))
    |(go_at_call 36;refine(JN.o _ p.o).m fun w5 x=>?_;replace PH:=hY (PH.o.keep x.o);replace p:=hY (p.o.ext x.o))
    |(go_at_call 34;refine(uP _ c c _ _ _ _ PH.o (by decide) (by first|exact IL.o|exact JL.o) (by decide)).m2 fun w6 A u=>?_;replace PH:=hY A.o;replace p:=hY (p.o.trans u.o);have q4:=KB.o _ p.o))
   try rw[BI.o] at PH
   try rw[BJ.o] at PH
   have PT:Hid (aK c _ c (ea g (ec s (ff n j ⟨[],0,0⟩)))):=hY (by unfold ea ec;rw[if_pos I];rw[if_pos ae];exact PH.o);clear PH;have q5:=KB.o _ p.o;have Z:Hid ((⟨[],0,0⟩:TX).ok 100000000/\Sub ⟨[],0,0⟩ (ea g (ec s (ff n j ⟨[],0,0⟩))) 100000000):=hY ⟨⟨by decide,by decide,by decide,by decide⟩,((l8 n j _).trans (kI _ _)).trans (kH _ _)⟩;have ME:Hid (fx n j g l s=dV l (ea g (ec s (ff n j ⟨[],0,0⟩)))):=hY rfl;generalize ea g (ec s (ff n j ⟨[],0,0⟩))=s1 at*;go_upto_region 10 with fail
   go_loopw [37] (fun i wr=>∃(k:Nat) (S:TX),k<=l.length/\i=.i k/\aK c wr c S/\WM c c W3 wr/\Sub ⟨[],0,0⟩ S 100000000/\dV l s1=dV (l.drop k) S) (fun i _=>l.length-(intOf i).toNat)
   case atStart=>exact⟨0,s1,by omega,rfl,PT.o,p.o,Z.o.2,rfl⟩
   case round=>
    obtain⟨k,S,hk,rfl,A,u,hS,hF⟩:=hrel;have F:=hY hF;have P:=hY A;have M:=hY u;have SS:=hY hS;clear hF A u hS PT p q5;try clear q3
    try clear q4
    by_cases hlt:k<l.length
    ·obtain⟨y,H⟩:∃y,l[k]?=some y:=⟨l[k],by simp⟩
     have K:=ak.o y (eQ H);have ah:=HZ.o y (eQ H);have W2:=W0.o.step P.o M.o;have NT:NAt wr top a3 c3 l:=PP.o.FN.keep (fun k hk=>by rw[W0.o.low M.o k hk];exact am E.o G.o k hk);obtain⟨g2,ao,X,R,W,Q,U,O,rfl,C,ai,L⟩:=NT.seven H;have B:=hY (F.o.trans (kQ H S));have aa:Hid (S.ok 100000000):=hY (Z.o.1.sub SS.o (by decide));have q:=xal wr y X R W Q U O;have HC:Hid (∀V r,WM c c wr V->aK c V c r->r.ok 100000000->Calls Tryz.prog 37 #[.pointer (some ⟨c,0,none⟩),.agg (af y.kind y.name y.FP.length y.FQ.length y.FN.length y.FY y.FR X R W Q U O)] V fun e w'=>e=.returned (.tuple #[])/\aK c w' c (ce y r)/\WM c c V w'):=hY (fun V r N aj ho=>dH y K c top c V r X R W Q U O (W2.step aj N) (ho.mono (by omega)) (L.keep (W2.low N)));have Y:Hid (∀r,Sub r (ce y r) 100000000):=hY (fun r=>fM (by omega) r);have PB:=hY (P.o.keep q.o);have BX:Hid (∀W',WM c c (wr.alloc (.cells (af y.kind y.name y.FP.length y.FQ.length y.FN.length y.FY y.FR X R W Q U O) 26)) W'->∀i,W'.cell? ⟨wr.heap.size,i,none⟩=(aB y.kind y.name y.FP.length y.FQ.length y.FN.length y.FY y.FR X R W Q U O)[i]?):=hY (eR wr W2.pl _);have QB:=hY (fun V (u:WM c c wr V)=>KB.o V (M.o.trans u));obtain⟨e0,e1,e2,e3,e4,e5,e6⟩:=ai;clear K ah L W2 H C F NT;generalize ce y=f at*;by_cases hlast:k+1=l.length
     ·have HL:=hY hlast
      rw[if_pos hlast] at B;have J:¬(k:Int)<(l.length:Int)-1:=by omega
      clear hlast;go_upto_region 12 with fail;generalize wr.alloc _=W4 at*
      go_wp2_with (first
       |(go_at_call 34;first
        |(with_reducible refine(cS _ c c S _ PB.o (by decide)).m2 fun w7 P2 D=>?_;have q6:=BX.o _ D.o)
        |(with_reducible refine(cS _ c c _ _ P3.o (by decide)).m2 fun w9 P4 b=>?_;have M4:=hY (M3.o.trans b.o)))
       |(go_at_call 37;refine(HC.o _ _ ((WM.FZ q.o).trans D.o) P2.o (aa.o.put _)).m2 fun w8 P3 b=>?_;have M3:=hY (((WM.FZ q.o).trans D.o).trans b.o);have q7:=QB.o _ M3.o))
      go_roundw
      case rel=>exact⟨k+1,_,by omega,by go_num,P4.o,M.o.trans M4.o,((SS.o.trans (Sub.put S _)).trans (Y.o _)).trans (Sub.put _ _),by first|exact B.o|(rw[B.o];rfl)⟩
      case measure=>simp[intOf];omega
     ·rw[if_neg hlast] at B
      have J:(k:Int)<(l.length:Int)-1:=by omega
      go_upto_region 12 with fail;generalize wr.alloc _=W4 at*
      go_wp2_with (first
       |(go_at_call 34;first
        |(with_reducible refine(cS _ c c S _ PB.o (by decide)).m2 fun w7 P2 D=>?_;have q6:=BX.o _ D.o)
        |(with_reducible refine(cS _ c c _ _ P4.o (by decide)).m2 fun al P5 b=>?_;have M5:=hY (M4.o.trans b.o))
        |(with_reducible refine(cS _ c c _ _ P3.o (by decide)).m2 fun w9 P4 b=>?_;have M4:=hY (M3.o.trans b.o)))
       |(go_at_call 37;refine(HC.o _ _ ((WM.FZ q.o).trans D.o) P2.o (aa.o.put _)).m2 fun w8 P3 b=>?_;have M3:=hY (((WM.FZ q.o).trans D.o).trans b.o);have q7:=QB.o _ M3.o))
      go_roundw
      case rel=>exact⟨k+1,_,by omega,by go_num,P5.o,M.o.trans M5.o,(((SS.o.trans (Sub.put S _)).trans (Y.o _)).trans (Sub.put _ _)).trans (Sub.put _ _),by first|exact B.o|(rw[B.o];rfl)⟩
      case measure=>simp[intOf];omega
    ·have hd:l.drop k=[]:=hH (by omega)
     have B:Hid (fx n j g l s=S):=by
      have:=F.o;rw[hd,dV] at this;exact hY (ME.o.trans this)
     clear hd;have EF:Hid (Ext w wr):=hY ⟨M.o.os.trans E.o.os,M.o.tape.trans E.o.tape,M.o.output.trans E.o.output,aN E.o.size M.o.size,fun i hi=>by rw[M.o.low i (bA hi LW.o) (bA hi E.o.size)];exact E.o.block hi⟩;rw[B.o] at d;obtain⟨v,m,xs,hV⟩:=P.o;obtain⟨t1,t2⟩:=blk hV.blk;unfold pwC at t1;by_cases hm:100<S.most
     ·rw[if_pos hm] at d
      go_wp2_with fail;exact bodyPost_ret (results_tmp2 rfl _ _ _) rfl ⟨by rw[d.o];rfl,EF.o⟩
     ·rw[if_neg hm] at d
      by_cases C:65536<S.F.length
      ·rw[if_pos C] at d
       rw[decide_eq_true C] at t1;go_wp2_with fail;exact bodyPost_ret (results_tmp2 rfl _ _ _) rfl ⟨by rw[d.o];rfl,EF.o⟩
      ·rw[if_neg C] at d
       have ag:=hV.text (by omega);obtain⟨ad,cc,rfl,_⟩:=aJ hV.row;rw[decide_eq_false C] at t1;clear C;go_wp2_with (rw[ag]);exact bodyPost_ret (results_tmp2 rfl _ _ _) rfl ⟨by rw[d.o];rfl,EF.o⟩
end Go.Proofs.Eff
