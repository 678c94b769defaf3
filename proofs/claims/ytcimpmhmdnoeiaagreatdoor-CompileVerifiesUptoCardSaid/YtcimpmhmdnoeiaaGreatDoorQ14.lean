import Derived.Test.YtcimpmhmdnoeiaaGreatDoorQ04
import Derived.Test.YtcimpmhmdnoeiaaGreatDoorQ12
set_option maxRecDepth 100000
set_option maxHeartbeats 4000000
set_option linter.all false
namespace Go.Proofs.Eff
open Go.RowKit
def jy (n:BL):Bool:=decide (n=[116,114,117,101])||decide (n=[102,97,108,115,101])||decide (n=[110,105,108])
theorem tH (k:Int)(n:BL)(c b:List BL)(l:List T)(p pl:Int):T.litOk (.mk k n c b l p pl)=if k=8 then T.expr (.mk k n c b l p pl)&&jy n else if 9<=k/\k<=13 then T.expr (.mk k n c b l p pl) else false:=by
 by_cases h8:k=8
 ·subst h8
  rw[T.litOk,T.expr];simp only[if_pos,if_neg,show(8:Int)≠2 by decide,show(8:Int)≠4 by decide,show(8:Int)≠5 by decide,show(8:Int)≠6 by decide,if_false,if_true];by_cases hn:jy n=true
  ·have e:aI n=true:=by
    simp only[jy,Bool.or_eq_true,decide_eq_true_eq] at hn;rcases hn with(rfl|rfl)|rfl<;>decide
   have a:(n==[116,114,117,101]||n==[102,97,108,115,101]||n==[110,105,108])=true:=by simpa [jy,Bool.or_assoc] using hn
   rw[hn,e,a];cases(c.isEmpty&&b.isEmpty&&p==0)<;>simp
  ·have d:jy n=false:=by simpa using hn
   have a:(n==[116,114,117,101]||n==[102,97,108,115,101]||n==[110,105,108])=false:=by
    rw[←d];simp[jy,Bool.beq_eq_decide_eq]
   rw[d,a];simp
 ·rw[if_neg h8]
  by_cases h:9<=k/\k<=13
  ·rw[if_pos h]
   have f:k=9\/k=10\/k=11\/k=12\/k=13:=by omega
   rcases f with rfl|rfl|rfl|rfl|rfl<;>rw[T.litOk,T.expr]<;>cases(c.isEmpty&&b.isEmpty&&p==0)<;>simp
  ·rw[if_neg h,T.litOk,if_neg h8,if_neg (by omega),if_neg (by omega),if_neg (by omega)]
theorem ve (w:World)(top:Nat)(u:top<=w.heap.size)(x:T)(G:jq x w top):jT 194 #[] T.litOk x w top:=by
 intro W r j q g m f H I;obtain⟨k,n,d,c,l,p,pl⟩:=x;have s:Hid (Ext W (W.alloc (.cells (af k n d.length c.length l.length p pl r j q g m f) 26))):=(Ext.refl W).alloc _;have X:=hY (G _ r j q g m f (H.trans s.o) (I.keep (am s.o (aN u H.size))));rw[tH];generalize T.expr (.mk k n d c l p pl)=b at*;have B:=hY (bt W (aB k n d.length c.length l.length p pl r j q g m f) 26);have Y:Hid (∀z,Ext (W.alloc (.cells (af k n d.length c.length l.length p pl r j q g m f) 26)) z->z.cell? ⟨W.heap.size,1,none⟩=some (.string (mkS n))):=fun z O=>(B.o z O).1 1;obtain⟨q1,_⟩:=B.o _ (Ext.refl _);have q2:=fun i=>(blk (aq W (.cells (af k n d.length c.length l.length p pl r j q g m f) 26) _ rfl)).2 i;clear G I B;show Calls Tryz.prog 194 #[.agg (af k n d.length c.length l.length p pl r j q g m f)] W _
 by_cases h8:k=8
 ·subst h8
  rw[if_pos rfl];have F:=jx n [116,114,117,101];have E:=jx n [102,97,108,115,101];have D:=jx n [110,105,108];have V:Hid (jy n=(decide (n=[116,114,117,101])||decide (n=[102,97,108,115,101])||decide (n=[110,105,108]))):=rfl;go_enter Tryz.func194,Tryz.ntmps194;go_upto_region 9 with fail;generalize W.alloc _=J at*;cases b with
  |false=>
   go_wp2_with (go_at_call 141;refine X.o.m fun C t=>?_);go_ret;exact⟨rfl,s.o.trans t.o⟩
  |true=>
   generalize decide (n=[116,114,117,101])=v at*;generalize decide (n=[102,97,108,115,101])=y at*;generalize decide (n=[110,105,108])=U at*;have M:((mkS n).toList==[116,114,117,101])=v:=by rw[←F,ey (mkS [116,114,117,101]),aG]
   have L:((mkS n).toList==[102,97,108,115,101])=y:=by rw[←E,ey (mkS [102,97,108,115,101]),aG]
   have K:((mkS n).toList==[110,105,108])=U:=by rw[←D,ey (mkS [110,105,108]),aG]
   clear F E D;have A:v=true\/(v=false/\y=true)\/(v=false/\y=false):=by cases v<;>cases y<;>simp
   rcases A with rfl|⟨rfl,rfl⟩|⟨rfl,rfl⟩
   all_goals
    go_wp2_with (go_at_call 141;refine X.o.m fun C t=>?_;have Z:=Y.o _ t.o);go_ret;exact⟨by rw[V.o];simp,s.o.trans t.o⟩
 ·rw[if_neg h8]
  by_cases h:9<=k/\k<=13
  ·rw[if_pos h]
   have N:k=9\/k=10\/k=11\/k=12\/k=13:=by omega
   clear h h8;rcases N with rfl|rfl|rfl|rfl|rfl
   all_goals
    go_enter Tryz.func194,Tryz.ntmps194;go_upto_region 7 with fail;generalize W.alloc _=J at*;go_wp2_with (go_at_call 141;refine X.o.m fun C t=>?_);go_ret;exact⟨rfl,s.o.trans t.o⟩
  ·rw[if_neg h]
   have e8:(k==8)=false:=by simpa using h8
   have e9:(k==9)=false:=by simp;omega
   have S:(k==10)=false:=by simp;omega
   have R:(k==11)=false:=by simp;omega
   have Q:(k==12)=false:=by simp;omega
   have P:(k==13)=false:=by simp;omega
   clear h h8;go_enter Tryz.func194,Tryz.ntmps194;go_upto_region 1 with fail;generalize W.alloc _=J at*;go_wp2_with fail;go_ret;exact⟨rfl,s.o⟩
theorem Ff:Tryz.prog.globalNamed "internal/strconv.uint64pow10"=some 0:=by kernel_rfl
structure fJ (w:World):Prop where
 big:8<=w.heap.size
 mx:∃m,w.cell? ⟨1,0,none⟩=some (.i m)
 syn:∃te pe,w.cell? ⟨2,0,none⟩=some (.iface te pe)
 rng:∃te pe,w.cell? ⟨3,0,none⟩=some (.iface te pe)
 tab:Lib.TabIs Tryz.prog w "internal/strconv.uint64pow10" .u64 Lib.pow10Tab
theorem fJ.keep {w w':World}(h:fJ w)(e:w.heap.size<=w'.heap.size)(d:∀k,k<8->w'.heap[k]?=w.heap[k]?):fJ w':=by
 have c:∀k,k<8->w'.cell? ⟨k,0,none⟩=w.cell? ⟨k,0,none⟩:=fun k h=>World.cell?_of_block (a:=⟨k,0,none⟩) (d k h);refine⟨aN h.big e,?_,?_,?_,?_⟩
 ·rw[c 1 (by omega)];exact h.mx
 ·rw[c 2 (by omega)];exact h.syn
 ·rw[c 3 (by omega)];exact h.rng
 ·have b:=h.tab
  unfold Lib.TabIs World.var? at b ⊢;rw[Ff] at b ⊢;simp only[Option.bind_some] at b ⊢;rw[d 0 (by omega)];exact b
theorem fJ.ext {w w':World}(h:fJ w)(a:Ext w w'):fJ w':=h.keep a.size (fun k b=>a.block (bA b h.big))
def nv (a:Nat)(l:BL):Nat:=l.foldl (fun v b=>10*v+(b.toNat-48)) a
theorem yZ (l:BL)(a:Nat):a<=nv a l:=by
 induction l generalizing a with
 |nil=>exact gE _
 |cons c r ih=>exact aN (show a<=10*a+(c.toNat-48) by omega) (ih _)
theorem gY (c:UInt8):cU c=true↔48<=c.toNat/\c.toNat<=57:=by
 simp only[cU,gT,decide_eq_true_eq,UInt8.le_iff_toNat_le];exact Iff.rfl
theorem ma (l:BL)(a:Nat)(h:l.all cU=true):Lib.parseUint10 a l=.ok (nv a l)\/(Lib.parseUint10 a l=.range/\18446744073709551616<=nv a l):=by
 induction l generalizing a with
 |nil=>exact .inl rfl
 |cons c r ih=>
  rw[x0,gT] at h;have b:=(gY c).1 h.1;have e:nv a (c::r)=nv (a*10+(c.toNat-48)) r:=by unfold nv;rw[List.foldl_cons];congr 1;omega
  rw[Lib.parseUint10,if_pos b,e];have d:=yZ r (a*10+(c.toNat-48));by_cases h1:1844674407370955162<=a
  ·rw[if_pos h1];exact .inr ⟨rfl,by omega⟩
  ·rw[if_neg h1]
   by_cases h2:18446744073709551616<=a*10+(c.toNat-48)
   ·rw[if_pos h2];exact .inr ⟨rfl,by omega⟩
   ·rw[if_neg h2];exact ih _ h.2
theorem pR {n:BL}(h:dz n=true):(eP n=true/\Lib.atoiAll n=.ok (ee n))\/(eP n=false/\(Lib.atoiAll n=.range\/∃v,Lib.atoiAll n=.ok v/\(v<0\/255<v))):=by
 have d:ee n=nv 0 n:=rfl;by_cases hc:∃r,n=45::r
 ·obtain⟨r,rfl⟩:=hc
  have p:eP (45::r)=false:=by simp[eP]
  refine .inr ⟨p,?_⟩
  have l:bE r=true/\r≠[48]:=by
   have:(bE r&&r !=[48])=true:=h;simp only[gT,bne_iff_ne,ne_eq] at this;exact this
  obtain⟨a,x⟩:=l;simp only[bE,gT,Bool.not_eq_true',Bool.or_eq_true,bne_iff_ne,ne_eq,decide_eq_true_eq] at a;obtain⟨⟨⟨q,C⟩,i⟩,f⟩:=a;have j:r≠[]:=by intro e;subst e;simp at q
  rw[Lib.atoiAll];have u:(45:UInt8).toNat=45:=rfl;simp only[u,or_true,if_true,Lib.parseMag,if_neg j];rcases ma r 0 f with b|⟨b,_⟩
  ·rw[b]
   simp only[not_true_eq_false,false_and,if_false,true_and,if_true];by_cases g:9223372036854775808<nv 0 r
   ·rw[if_pos g];exact .inl rfl
   ·rw[if_neg g]
    refine .inr ⟨_,rfl,.inl ?_⟩
    have w:0<nv 0 r:=by
     cases r with
     |nil=>exact absurd rfl j
     |cons c t=>
      rw[x0,gT] at f;have z:=(gY c).1 f.1;have e:nv 0 (c::t)=nv (c.toNat-48) t:=by unfold nv;rw[List.foldl_cons];congr 1;omega
      have y:=yZ t (c.toNat-48);rw[e]
      have B:c.toNat≠48:=by
       intro s;have D:c=48:=UInt8.toNat_inj.1 s;subst D;rcases i with i|i
       ·simp only[gi] at i
        have:t=[]:=ls (by omega);subst this;exact x rfl
       ·exact i rfl
      omega
    omega
  ·rw[b];exact .inl rfl
 ·have l:bE n=true:=by
   unfold dz at h
   split at h
   ·rename_i r;exact absurd ⟨r,rfl⟩ hc
   ·exact h
  simp only[bE,gT,Bool.not_eq_true',Bool.or_eq_true,bne_iff_ne,ne_eq,decide_eq_true_eq] at l;obtain⟨⟨⟨q,C⟩,i⟩,f⟩:=l;cases n with
  |nil=>simp at q
  |cons c t=>
   have k:c≠45:=fun e=>hc ⟨t,by rw[e]⟩;have A:=(gY c).1 (by rw[x0,gT] at f;exact f.1);have p:eP (c::t)=decide (ee (c::t)<=255):=by simp[eP,k]
   rw[p,Lib.atoiAll];have o:¬c.toNat=43:=by omega
   have m:¬c.toNat=45:=by omega
   simp only[o,m,or_self,false_and,if_false,Lib.parseMag,List.cons_ne_nil,not_false_eq_true,true_and];rcases ma (c::t) 0 f with b|⟨b,g⟩
   ·rw[b]
    simp only;by_cases h255:ee (c::t)<=255
    ·exact .inl ⟨decide_eq_true h255,by rw[if_neg (by rw[d] at h255;omega)];rfl⟩
    ·refine .inr ⟨decide_eq_false h255,?_⟩
     by_cases g:9223372036854775808<=nv 0 (c::t)
     ·rw[if_pos g];exact .inl rfl
     ·rw[if_neg g];exact .inr ⟨_,rfl,.inr (by rw[d] at h255;omega)⟩
   ·rw[b]
    refine .inr ⟨decide_eq_false (by rw[d];omega),.inl rfl⟩
theorem zO (k:Int)(n:BL)(b a:List BL)(l:List T)(p pl:Int):T.byt (.mk k n b a l p pl)=(k==9&&T.expr (.mk k n b a l p pl)&&eP n):=by
 rw[T.byt];by_cases h:k=9
 ·subst h
  rw[T.expr];simp only[if_pos,if_neg,show(9:Int)≠2 by decide,show(9:Int)≠4 by decide,show(9:Int)≠5 by decide,show(9:Int)≠6 by decide,show(9:Int)≠8 by decide,if_false,if_true];cases(b.isEmpty&&a.isEmpty&&p==0)<;>cases dz n<;>cases l.isEmpty<;>simp
 ·have:(k==9)=false:=by simpa using h
  rw[this];simp
theorem zz {n:BL}{b a:List BL}{l:List T}{p pl:Int}(h:T.expr (.mk 9 n b a l p pl)=true):dz n=true:=by
 rw[T.expr] at h;simp only[show(9:Int)≠2 by decide,show(9:Int)≠4 by decide,show(9:Int)≠5 by decide,show(9:Int)≠6 by decide,show(9:Int)≠8 by decide,if_false,if_true] at h
 split at h
 ·cases h
 ·simp only[gT] at h;exact h.1
theorem wJ (w:World)(n:BL)(j:n.length<=ao)(f:fJ w):Calls Tryz.prog 228 #[.string (mkS n)] w fun e w'=>Ext w w'/\((∃v,Lib.atoiAll n=.ok v/\e=.returned (.tuple #[.i v,.nilIface]))\/((∀v,Lib.atoiAll n≠.ok v)/\∃v N,e=.returned (.tuple #[.i v,.iface 295 (.pointer (some ⟨N,0,none⟩))]))):=by
 have g:(mkS n).size<=1048576:=by rw[aR];exact j
 have e:(mkS n).data.toList=n:=aG n;rcases h:Lib.atoiAll n with v|_|_
 ·refine(Go.Proofs.Tryz.strconv_Atoi_ok (mkS n) (by omega) v (by rw[e];exact h) w).mono ?_;rintro e w' ⟨rfl,a⟩;refine⟨?_,.inl ⟨v,rfl,rfl⟩⟩;rcases a with rfl|⟨t,rfl⟩
  ·exact Ext.refl _
  ·exact dD t w
 ·obtain⟨b,c,d⟩:=f.syn;refine(Go.Proofs.Tryz.strconv_Atoi_syntax (mkS n) (by omega) (by rw[e];exact h) _ w d (.inr ⟨b,c,rfl⟩)).mono ?_;rintro e w' ⟨N,rfl,_,_,a⟩;exact⟨a,.inr ⟨nofun,_,N,rfl⟩⟩
 ·obtain⟨b,c,d⟩:=f.rng;refine(Go.Proofs.Tryz.strconv_Atoi_range (mkS n) (by omega) (by rw[e];exact h) _ w d (.inr ⟨b,c,rfl⟩)).mono ?_;rintro e w' ⟨N,rfl,_,_,a⟩;exact⟨a,.inr ⟨nofun,_,N,rfl⟩⟩
theorem Cb (w:World)(top:Nat)(G:top<=w.heap.size)(hv:fJ w)(x:T)(U:jq x w top):jT 195 #[] T.byt x w top:=by
 intro W B y A u z t M O;obtain⟨k,n,r,q,l,p,pl⟩:=x;have D:Hid (Ext W (W.alloc (.cells (af k n r.length q.length l.length p pl B y A u z t) 26))):=(Ext.refl W).alloc _;have X:=hY (fun V (m:Ext (W.alloc (.cells (af k n r.length q.length l.length p pl B y A u z t) 26)) V)=>U V B y A u z t (M.trans (D.o.trans m)) (O.keep (am (D.o.trans m) (aN G M.size))));have J:=hY (fun V (m:Ext (W.alloc (.cells (af k n r.length q.length l.length p pl B y A u z t) 26)) V)=>wJ V n O.name ((hv.ext M).ext (D.o.trans m)));have I:Hid (k=9->T.expr (.mk k n r q l p pl)=true->dz n=true):=hY (fun c h=>by subst c;exact zz h);rw[zO];generalize T.expr (.mk k n r q l p pl)=b at*;have R:=hY (bt W (aB k n r.length q.length l.length p pl B y A u z t) 26);obtain⟨q1,_⟩:=R.o _ (Ext.refl _);clear U O;show Calls Tryz.prog 195 #[.agg (af k n r.length q.length l.length p pl B y A u z t)] W _
 by_cases j:∃v,Lib.atoiAll n=.ok v
 ·obtain⟨v,j⟩:=j
  have E:Hid (∀V (m:Ext (W.alloc (.cells (af k n r.length q.length l.length p pl B y A u z t) 26)) V),Calls Tryz.prog 228 #[.string (mkS n)] V fun e F=>e=.returned (.tuple #[.i v,.nilIface])/\Ext V F):=hY fun V m=>by
   refine(J.o V m).mono ?_;rintro e F ⟨d,a|⟨a,_⟩⟩
   ·obtain⟨K,H,P⟩:=a
    rw[j] at H;cases H;exact⟨P,d⟩
   ·exact absurd j (a v)
  have C:k≠9\/(k=9/\b=false)\/(k=9/\b=true/\v<0/\eP n=false)\/(k=9/\b=true/\0<=v/\255<v/\eP n=false)\/(k=9/\b=true/\0<=v/\v<=255/\eP n=true):=by
   by_cases c:k=9
   ·cases b with
    |false=>exact .inr (.inl ⟨c,rfl⟩)
    |true=>
     rcases pR (I.o c rfl) with⟨d,a⟩|⟨d,a⟩
     ·rw[j] at a
      cases a;have:ee n<=255:=by simp only[eP,gT,decide_eq_true_eq] at d;exact d.2
      exact .inr (.inr (.inr (.inr ⟨c,rfl,by omega,by omega,d⟩)))
     ·rcases a with a|⟨K,a,H⟩
      ·rw[j] at a;cases a
      ·rw[j] at a
       cases a;by_cases Q:v<0
       ·exact .inr (.inr (.inl ⟨c,rfl,Q,d⟩))
       ·exact .inr (.inr (.inr (.inl ⟨c,rfl,by omega,by omega,d⟩)))
   ·exact .inl c
  clear J I j;rcases C with c|⟨rfl,rfl⟩|⟨rfl,rfl,d,a⟩|⟨rfl,rfl,Q,d,a⟩|⟨rfl,rfl,Q,d,a⟩
  all_goals
   go_enter Tryz.func195,Tryz.ntmps195;go_upto_region 1 with fail;generalize W.alloc _=W1 at*;try have L:(k==9)=false:=by simpa using c
   go_wp2_with (first
    |(go_at_call 228;refine(E.o _ (Ext.refl _)).m fun Y s=>?_;obtain⟨q3,_⟩:=R.o _ s.o)
    |(go_at_call 141;refine(X.o _ s.o).m fun Z g=>?_;have S:=hY (s.o.trans g.o)))
   go_ret
   first
    |exact⟨by simp[*],D.o.trans S.o⟩
    |exact⟨by simp[*],D.o.trans s.o⟩
 ·have E:Hid (∀V (m:Ext (W.alloc (.cells (af k n r.length q.length l.length p pl B y A u z t) 26)) V),Calls Tryz.prog 228 #[.string (mkS n)] V fun e F=>∃v N,e=.returned (.tuple #[.i v,.iface 295 (.pointer (some ⟨N,0,none⟩))])/\Ext V F):=hY fun V m=>by
   refine(J.o V m).mono ?_;rintro e F ⟨d,⟨K,H,_⟩|⟨_,v,N,P⟩⟩
   ·exact absurd ⟨K,H⟩ j
   ·exact⟨v,N,P,d⟩
  have C:k≠9\/(k=9/\b=false)\/(k=9/\b=true/\eP n=false):=by
   by_cases c:k=9
   ·cases b with
    |false=>exact .inr (.inl ⟨c,rfl⟩)
    |true=>
     rcases pR (I.o c rfl) with⟨d,a⟩|⟨d,a⟩
     ·exact absurd ⟨_,a⟩ j
     ·exact .inr (.inr ⟨c,rfl,d⟩)
   ·exact .inl c
  clear J I j;rcases C with c|⟨rfl,rfl⟩|⟨rfl,rfl,a⟩
  all_goals
   go_enter Tryz.func195,Tryz.ntmps195;go_upto_region 1 with fail;generalize W.alloc _=W1 at*;try have L:(k==9)=false:=by simpa using c
   go_wp2_with (first
    |(go_at_call 228;refine(E.o _ (Ext.refl _)).mono ?_;rintro e Y ⟨v,N,rfl,f⟩;have s:=hY f;clear f;obtain⟨q3,_⟩:=R.o _ s.o)
    |(go_at_call 141;refine(X.o _ s.o).m fun Z g=>?_;have S:=hY (s.o.trans g.o)))
   go_ret
   first
    |exact⟨by simp[*],D.o.trans S.o⟩
    |exact⟨by simp[*],D.o.trans s.o⟩
theorem wg (k:Int)(n:BL)(b a:List BL)(l:List T)(p pl:Int):T.stmt (.mk k n b a l p pl)=if k=3 then(b.length==0&&a.length==0&&p==0)&&n.isEmpty&&(l.length==1)&&l.all T.expr else T.expr (.mk k n b a l p pl):=by
 rw[T.stmt,vB,eV b,eV a]
theorem uG {x:T}{l:List T}{k:Nat}(c:l[k]?=some x):T.stmts (l.drop k)=(T.stmt x&&(x.kind !=3||(l.drop (k+1)).isEmpty)&&T.stmts (l.drop (k+1))):=by
 obtain⟨a,b⟩:=aC.1 c;rw[hI a,b,T.stmts]
theorem lU (w:World)(top c:Nat)(a:Option Addr)(l:List T)(h:NAt w top a c l)(A:top<=w.heap.size)(K:∀x∈l,x.kind≠3->jq x w top)(J:∀x∈l,x.kind=3->∀y∈x.FN,jq y w top):Calls Tryz.prog 97 #[.slice a l.length c] w fun e w'=>e=.returned (.bool (T.stmts l))/\Ext w w':=by
 have ah:l.length<=1048576:=h.small;have H:=hY h;have TP:=hY A;have H1:=hY K;have H2:=hY J;clear h A K J;go_enter Tryz.func97,Tryz.ntmps97;go_wp2_with fail
 go_loopw [7] (fun i wr=>∃k:Nat,k<=l.length/\i=.i k/\Ext w wr/\T.stmts l=T.stmts (l.drop k)) (fun i _=>l.length-(intOf i).toNat)
 case atStart=>exact⟨0,by omega,rfl,Ext.refl _,rfl⟩
 case round=>
  obtain⟨j,hj,rfl,hE,hF⟩:=hrel;have E:=hY hE;have F:=hY hF;clear hE hF;by_cases hlt:j<l.length
  ·obtain⟨x,Z⟩:∃x,l[j]?=some x:=⟨l[j],by simp⟩
   obtain⟨g,q,U,Q,S,P,R,O,rfl,hg,hS,hP⟩:=(H.o.keep (am E.o TP.o)).seven Z;have u:=hY (F.o.trans (uG Z));have hm:=eQ Z;have X1:=hY (H1.o x hm);have X2:=hY (H2.o x hm)
   have L1:Hid ((l.drop (j+1)).isEmpty=decide (j+1=l.length)):=by
    rw[eV,List.length_drop,rW];exact hY (by simp;omega)
   obtain⟨k0,k1,k2,k3,k4,k5,k6⟩:=hS;obtain⟨k,n,z,v,s,p,pl⟩:=x
   replace k0:wr.cell? ⟨g,q+j*7,none⟩=some (.i k):=k0
   replace k1:wr.cell? ⟨g,q+j*7+1,none⟩=some (.string (mkS n)):=k1
   replace k2:wr.cell? ⟨g,q+j*7+2,none⟩=some (.slice U z.length Q):=k2
   replace k3:wr.cell? ⟨g,q+j*7+3,none⟩=some (.slice S v.length P):=k3
   replace k4:wr.cell? ⟨g,q+j*7+4,none⟩=some (.slice R s.length O):=k4
   replace k5:wr.cell? ⟨g,q+j*7+5,none⟩=some (.i p):=k5
   replace k6:wr.cell? ⟨g,q+j*7+6,none⟩=some (.i pl):=k6
   have PP:=hY hP;have G:=hY (bt wr (aB k n z.length v.length s.length p pl U Q S P R O) 26);have r:Hid (Ext wr (wr.alloc (.cells (af k n z.length v.length s.length p pl U Q S P R O) 26))):=(Ext.refl wr).alloc _;have ai:s.length<=1048576:=hP.FN.small;have B:=hY (fun V=>sq V k p pl (mkS n) U S R z.length v.length s.length Q P O);rw[wg] at u;clear Z hm hP F;by_cases h3:k=3
   ·subst h3
    rw[if_pos rfl] at u;have L:=kL n;obtain⟨q1,_⟩:=G.o _ (Ext.refl _);generalize(z.length==0&&v.length==0&&p==0)=b at*;by_cases h1:j+1=l.length
    ·have n1:((j:Int)!=((l.length:Int)-1))=false:=by simp;omega
     have t:Hid (T.stmts l=(b&&n.isEmpty&&(s.length==1)&&s.all T.expr&&T.stmts (l.drop (j+1)))):=by
      rw[u.o,L1.o,decide_eq_true h1];exact hY (by simp[T.kind])
     clear u L1 h1;cases b with
     |false=>
      go_upto_region 7 with fail;generalize wr.alloc _=D at*;go_wp2_with (first|(go_at_call 142;refine(B.o _).m fun W m=>?_;obtain⟨X,_⟩:=G.o _ m.o));go_ret;exact⟨by rw[t.o];simp,(E.o.trans r.o).trans m.o⟩
     |true=>
      cases hn:n.isEmpty with
      |false=>
       rw[hn] at L t;go_upto_region 7 with fail;generalize wr.alloc _=D at*;go_wp2_with (first|(go_at_call 142;refine(B.o _).m fun W m=>?_;obtain⟨X,_⟩:=G.o _ m.o));go_ret;exact⟨by rw[t.o];simp,(E.o.trans r.o).trans m.o⟩
      |true=>
       rw[hn] at L t;by_cases hl1:s.length=1
       ·obtain⟨y,rfl⟩:∃y,s=[y]:=p9.1 hl1
        have F4:Hid (T.stmts l=(T.expr y&&T.stmts (l.drop (j+1)))):=by rw[t.o];exact hY (by simp)
        obtain⟨g2,ac,b1,d1,b2,d2,b3,d3,rfl,aa,M,N⟩:=PP.o.FN.seven (j:=0) (x:=y) rfl;have Y:=hY (fun V (hV:Ext wr V)=>X2.o rfl y (by simp[T.FN]) V b1 d1 b2 d2 b3 d3 (E.o.trans hV) (N.keep (am hV (aN TP.o E.o.size))));have S2:=hY (fun V (hV:Ext wr V)=>M.keep (am hV (aN TP.o E.o.size) _ aa));clear M N t X1 X2 PP hl1;rw[np,ks] at S2;generalize aj:T.expr y=ab at*;obtain⟨ky,ny,ag,ad,ly,py,ae⟩:=y;cases ab with
        |false=>
         go_upto_region 7 with fail;generalize wr.alloc _=D at*
         go_wp2_with (first
          |(go_at_call 142;refine(B.o _).m fun W m=>?_;obtain⟨X,_⟩:=G.o _ m.o;obtain⟨r0,r1,r2,r3,r4,r5,r6⟩:=S2.o _ (r.o.trans m.o);simp only[T.kind,T.name,T.FP,T.FQ,T.FN,T.FY,T.FR] at r0 r1 r2 r3 r4 r5 r6)
          |(go_at_call 141;refine(Y.o _ (r.o.trans m.o)).m fun w8 I=>?_))
         go_ret;exact⟨by rw[F4.o];simp,((E.o.trans r.o).trans m.o).trans I.o⟩
        |true=>
         go_upto_region 7 with fail;generalize wr.alloc _=D at*
         go_wp2_with (first
          |(go_at_call 142;refine(B.o _).m fun W m=>?_;obtain⟨X,_⟩:=G.o _ m.o;obtain⟨r0,r1,r2,r3,r4,r5,r6⟩:=S2.o _ (r.o.trans m.o);simp only[T.kind,T.name,T.FP,T.FQ,T.FN,T.FY,T.FR] at r0 r1 r2 r3 r4 r5 r6)
          |(go_at_call 141;refine(Y.o _ (r.o.trans m.o)).m fun w8 I=>?_))
         go_roundw
         case rel=>exact⟨j+1,by omega,by go_num,((E.o.trans r.o).trans m.o).trans I.o,by rw[F4.o];simp⟩
         case measure=>simp[intOf];omega
       ·have n2:((s.length:Int)!=1)=true:=by simp;omega
        have F4:Hid (T.stmts l=false):=by rw[t.o];exact hY (by simp[hl1])
        clear t hl1;go_upto_region 7 with fail;generalize wr.alloc _=D at*;go_wp2_with (first|(go_at_call 142;refine(B.o _).m fun W m=>?_;obtain⟨X,_⟩:=G.o _ m.o));go_ret;exact⟨by rw[F4.o];rfl,(E.o.trans r.o).trans m.o⟩
    ·have n1:((j:Int)!=((l.length:Int)-1))=true:=by simp;omega
     have t:Hid (T.stmts l=false):=by
      rw[u.o,L1.o,decide_eq_false h1];exact hY (by simp[T.kind])
     clear u L1 h1;go_upto_region 7 with fail;generalize wr.alloc _=D at*;go_wp2_with fail;go_ret;exact⟨by rw[t.o];rfl,E.o.trans r.o⟩
   ·have e3:(k==3)=false:=by simpa using h3
    rw[if_neg h3] at u;have C:=hY (X1.o h3 _ U Q S P R O (E.o.trans r.o) (PP.o.keep (am r.o (aN TP.o E.o.size))))
    have t:Hid (T.stmts l=(T.expr (.mk k n z v s p pl)&&T.stmts (l.drop (j+1)))):=by
     rw[u.o];have:(T.kind (.mk k n z v s p pl)!=3)=true:=by simp[T.kind,h3]
     rw[this];exact hY (by simp)
    obtain⟨q1,_⟩:=G.o _ (Ext.refl _);clear u L1 X1 X2 B h3;generalize T.expr (.mk k n z v s p pl)=b at*;cases b with
    |false=>
     go_upto_region 5 with fail;generalize wr.alloc _=D at*;go_wp2_with (first|(go_at_call 141;refine C.o.m fun w8 I=>?_));go_ret;exact⟨by rw[t.o];simp,(E.o.trans r.o).trans I.o⟩
    |true=>
     go_upto_region 5 with fail;generalize wr.alloc _=D at*;go_wp2_with (first|(go_at_call 141;refine C.o.m fun w8 I=>?_));go_roundw
     case rel=>exact⟨j+1,by omega,by go_num,(E.o.trans r.o).trans I.o,by rw[t.o];simp⟩
     case measure=>simp[intOf];omega
  ·have hd:l.drop j=[]:=hH (by omega)
   have u:Hid (T.stmts l=true):=by
    have:=F.o;rw[hd,T.stmts] at this;exact this
   clear hd
   go_wp2
   go_ret;exact⟨by rw[u.o];rfl,E.o⟩
theorem Ep (l:List T):T.msgs l=l.all T.msg:=by
 induction l with
 |nil=>rw[T.msgs];rfl
 |cons x r ih=>rw[T.msgs,x0,ih]
theorem tG (l:List T):T.FU l=l.all T.litOk:=by
 induction l with
 |nil=>rw[T.FU];rfl
 |cons x r ih=>rw[T.FU,x0,ih]
theorem uo (l:List T):T.byts l=l.all T.byt:=by
 induction l with
 |nil=>rw[T.byts];rfl
 |cons x r ih=>rw[T.byts,x0,ih]
theorem si (x:T)(r:List T):T.casc (x::r)=(T.expr x&&r.all T.msg):=by rw[T.casc,Ep]
theorem iy (k:Int)(n:BL)(b a:List BL)(l:List T)(p pl:Int):T.expr (.mk k n b a l p pl)=
 if k=2 then n.isEmpty&&p==0&&bM b&&bM a&&T.stmts l
 else if(b.length==0&&a.length==0&&p==0)=false then false
 else if k=4 then aI n&&!eS n&&(l.length==1)&&l.all T.expr
 else if k=5 then decide (0<=bo n)&&((l.length:Int)==bo n+1)&&l.all T.expr
 else if k=6 then n.isEmpty&&decide (3<=l.length)&&T.casc l
 else if k=8 then aI n&&(l.length==0)
 else if k=9 then dz n&&(l.length==0)
 else if k=10\/k=11 then l.length==0
 else if k=12 then n.isEmpty&&l.all T.litOk
 else if k=13 then n.isEmpty&&l.all T.byt
 else if k=14 then n.isEmpty&&l.all T.expr
 else false:=by
 rw[T.expr,vB,tG,uo,eV b,eV a,eV l];cases(b.length==0&&a.length==0&&p==0)<;>simp
theorem oM {x y:T}(h:y∈x.FN):SizeOf.sizeOf y<SizeOf.sizeOf x:=by
 obtain⟨k,n,b,a,l,p,pl⟩:=x;have:=List.sizeOf_lt_of_mem (show y∈l from h);simp only[T.mk.sizeOf_spec];omega
theorem DK (a:BL)(n:Int)(l:BL)(h:0<=n):arF a n l<=n+l.length:=by
 induction l generalizing a n with
 |nil=>rw[arF];split<;>simp<;>omega
 |cons b r ih=>
  rw[arF];simp only[gi]
  split
  ·split
   ·have:=ih [] (n+1) (by omega);push_cast;omega
   ·push_cast;omega
  ·have:=ih (a++[b]) n h;push_cast;omega
theorem zR (l:BL):bo l<=l.length+1:=by
 rw[rc]
 split
 ·omega
 ·split
  ·omega
  ·have:=DK [] 0 l (by omega);omega
theorem qj (w:World)(top:Nat)(G:top<=w.heap.size)(hv:fJ w)(x:T)(IH:∀y,SizeOf.sizeOf y<SizeOf.sizeOf x->jq y w top):jq x w top:=by
 intro W R P Q O J u hW hP;have hC:∀y∈x.FN,jq y w top:=fun y H=>IH y (oM H);have aa:∀y∈x.FN,∀z∈y.FN,jq z w top:=fun y H z hz=>IH z (Nat.lt_trans (oM hz) (oM H));obtain⟨k,n,C,A,l,p,pl⟩:=x
 replace hC:∀y∈l,jq y w top:=hC
 replace aa:∀y∈l,∀z∈y.FN,jq z w top:=aa
 have a6:l.length<=1048576:=hP.FN.small;have ak:l.length<=u:=hP.FN.cap;have ao:=hP.FN.big;unfold maxLen at ao;have ae:(mkS n).size<=1048576:=by rw[aR];exact hP.name
 have s:Hid (Ext W (W.alloc (.cells (af k n C.length A.length l.length p pl R P Q O J u) 26))):=(Ext.refl W).alloc _;have i:=hY (bt W (aB k n C.length A.length l.length p pl R P Q O J u) 26);have F:=hY (fun V=>iZ V (mkS n) ae);have ad:=hY (fun V=>ss V (mkS n) ae);have X:=hY (fun V=>zm V (mkS n) ae);rw[aG] at F ad X;have S:=hY (fun V=>iq V n);have B:=hY (fun V=>sq V k p pl (mkS n) R Q J C.length A.length l.length P O u);have TW:Hid (top<=W.heap.size):=hY (aN G hW.size);have t:=hY (fun V (a:Ext (W.alloc (.cells (af k n C.length A.length l.length p pl R P Q O J u) 26)) V)=>am (s.o.trans a) TW.o);have PC:Hid (∀(f:FuncId) (q:T->Bool) (m:List T),(∀y∈m,jT f #[] q y w top)->∀V,Ext (W.alloc (.cells (af k n C.length A.length l.length p pl R P Q O J u) 26)) V->∀y∈m,jT f #[] q y V top):=hY (fun f q m h V a y H U b1 d1 b2 d2 b3 d3 hU a0=>h y H U b1 d1 b2 d2 b3 d3 ((hW.trans (s.o.trans a)).trans hU) a0);have TV:Hid (∀V,Ext (W.alloc (.cells (af k n C.length A.length l.length p pl R P Q O J u) 26)) V->top<=V.heap.size):=hY (fun V a=>aN TW.o (s.o.trans a).size);have a7:=kL n;obtain⟨q1,_⟩:=i.o _ (Ext.refl _);have c:=hY (iy k n C A l p pl);have K:=hY hP;have CC:=hY hC;have ac:=hY aa;clear IH hC aa hP;show Calls Tryz.prog 141 #[.agg (af k n C.length A.length l.length p pl R P Q O J u)] W fun e w'=>e=.returned (.bool (T.expr (.mk k n C A l p pl)))/\Ext W w'
 by_cases h2:k=2
 ·subst h2
  rw[if_pos rfl] at c;have D1:=hY (fun V a=>jI V top P R C (K.o.FP.keep (t.o V a)) (TV.o V a));have D2:=hY (fun V a=>jI V top O Q A (K.o.FQ.keep (t.o V a)) (TV.o V a));have ST:=hY (fun V a=>lU V top u J l (K.o.FN.keep (t.o V a)) (TV.o V a) (fun y H _=>PC.o 141 T.expr l CC.o V a y H) (fun y H _ z hz=>PC.o 141 T.expr y.FN (ac.o y H) V a z hz));generalize n.isEmpty=N at*;generalize bM C=d1 at*;generalize bM A=d2 at*;generalize T.stmts l=d3 at*;cases N with
  |false=>
   go_enter Tryz.func141,Tryz.ntmps141;go_upto_region 1 with fail;generalize W.alloc _=d at*;have E:=hY (Ext.refl d);go_wp2_with (first|(go_at_call 96;(first|with_reducible refine(D1.o _ E.o).mono ?_|with_reducible refine(D2.o _ E.o).mono ?_);rintro e g ⟨rfl,a⟩;replace E:=hY (E.o.trans a);clear a;obtain⟨q,_⟩:=i.o _ E.o));go_ret;exact⟨by rw[c.o];rfl,s.o.trans E.o⟩
  |true=>
   by_cases hp:p=0
   ·subst hp
    rw[show((0:Int)==0)=true from rfl] at c;cases d1 with
    |false=>
     go_enter Tryz.func141,Tryz.ntmps141;go_upto_region 1 with fail;generalize W.alloc _=d at*;have E:=hY (Ext.refl d);go_wp2_with (first|(go_at_call 96;(first|with_reducible refine(D1.o _ E.o).mono ?_|with_reducible refine(D2.o _ E.o).mono ?_);rintro e g ⟨rfl,a⟩;replace E:=hY (E.o.trans a);clear a;obtain⟨q,_⟩:=i.o _ E.o));go_ret;exact⟨by rw[c.o];rfl,s.o.trans E.o⟩
    |true=>
     cases d2 with
     |false=>
      go_enter Tryz.func141,Tryz.ntmps141;go_upto_region 1 with fail;generalize W.alloc _=d at*;have E:=hY (Ext.refl d);go_wp2_with (first|(go_at_call 96;(first|with_reducible refine(D1.o _ E.o).mono ?_|with_reducible refine(D2.o _ E.o).mono ?_);rintro e g ⟨rfl,a⟩;replace E:=hY (E.o.trans a);clear a;obtain⟨q,_⟩:=i.o _ E.o));go_ret;exact⟨by rw[c.o];rfl,s.o.trans E.o⟩
     |true=>
      go_enter Tryz.func141,Tryz.ntmps141;go_upto_region 1 with fail;generalize W.alloc _=d at*;have E:=hY (Ext.refl d);go_wp2_with (first|(go_at_call 96;(first|with_reducible refine(D1.o _ E.o).mono ?_|with_reducible refine(D2.o _ E.o).mono ?_);rintro e g ⟨rfl,a⟩;replace E:=hY (E.o.trans a);clear a;obtain⟨q,_⟩:=i.o _ E.o)|(go_at_call 97;refine(ST.o _ E.o).m fun g a=>?_;replace E:=hY (E.o.trans a.o)));go_ret;exact⟨by rw[c.o];rfl,s.o.trans E.o⟩
   ·have ax:(p==0)=false:=by simpa using hp
    rw[ax] at c;go_enter Tryz.func141,Tryz.ntmps141;go_upto_region 1 with fail;generalize W.alloc _=d at*;have E:=hY (Ext.refl d);go_wp2_with (first|(go_at_call 96;(first|with_reducible refine(D1.o _ E.o).mono ?_|with_reducible refine(D2.o _ E.o).mono ?_);rintro e g ⟨rfl,a⟩;replace E:=hY (E.o.trans a);clear a;obtain⟨q,_⟩:=i.o _ E.o));go_ret;exact⟨by rw[c.o];rfl,s.o.trans E.o⟩
 ·rw[if_neg h2] at c
  have e2:(k==2)=false:=by simpa using h2
  generalize(C.length==0&&A.length==0&&p==0)=b at*;cases b with
  |false=>
   clear h2;go_enter Tryz.func141,Tryz.ntmps141;go_upto_region 1 with fail;generalize W.alloc _=d at*;have E:=hY (Ext.refl d);go_wp2_with (first|(go_at_call 142;refine(B.o _).m fun g a=>?_;replace E:=hY (E.o.trans a.o);obtain⟨q,_⟩:=i.o _ E.o));go_ret;exact⟨by rw[c.o];rfl,s.o.trans E.o⟩
  |true=>
   rw[if_neg (by simp)] at c;by_cases h4:k=4
   ·subst h4
    clear e2 h2;rw[if_pos rfl] at c;generalize aI n=d1 at*;generalize eS n=d2 at*;cases d1 with
    |false=>
     go_enter Tryz.func141,Tryz.ntmps141;go_upto_region 1 with fail;generalize W.alloc _=d at*;have E:=hY (Ext.refl d);go_wp2_with (first|(go_at_call 142;refine(B.o _).m fun g a=>?_;replace E:=hY (E.o.trans a.o);obtain⟨q,_⟩:=i.o _ E.o)|(go_at_call 98;refine(F.o _).m fun g a=>?_;replace E:=hY (E.o.trans a.o);obtain⟨q,_⟩:=i.o _ E.o));go_ret;exact⟨by rw[c.o];rfl,s.o.trans E.o⟩
    |true=>
     cases d2 with
     |true=>
      go_enter Tryz.func141,Tryz.ntmps141;go_upto_region 1 with fail;generalize W.alloc _=d at*;have E:=hY (Ext.refl d);go_wp2_with (first|(go_at_call 142;refine(B.o _).m fun g a=>?_;replace E:=hY (E.o.trans a.o);obtain⟨q,_⟩:=i.o _ E.o)|(go_at_call 98;refine(F.o _).m fun g a=>?_;replace E:=hY (E.o.trans a.o);obtain⟨q,_⟩:=i.o _ E.o)|(go_at_call 108;refine(S.o _).m fun g a=>?_;replace E:=hY (E.o.trans a.o);obtain⟨q,_⟩:=i.o _ E.o));go_ret;exact⟨by rw[c.o];rfl,s.o.trans E.o⟩
     |false=>
      by_cases hl:l.length=1
      ·obtain⟨y,rfl⟩:∃y,l=[y]:=p9.1 hl
       have G2:Hid (T.expr (.mk 4 n C A [y] p pl)=T.expr y):=by rw[c.o];exact hY (by simp)
       clear c;have c:=G2;clear G2;obtain⟨g2,v,b1,f1,b2,f2,b3,f3,rfl,ag,D,M⟩:=K.o.FN.seven (j:=0) (x:=y) rfl;rw[np,ks] at D;have Y:=hY (fun V (I:Ext (W.alloc (.cells (af 4 n C.length A.length [y].length p pl R P Q O (some ⟨g2,v,none⟩) u) 26)) V)=>CC.o y (by simp) V b1 f1 b2 f2 b3 f3 (hW.trans (s.o.trans I)) (M.keep (t.o V I)));have S2:=hY (fun V I=>D.keep (t.o V I _ ag));clear D M CC ac K PC;generalize az:T.expr y=aq at*;obtain⟨ky,ny,av,ar,ly,py,au⟩:=y;go_enter Tryz.func141,Tryz.ntmps141;go_upto_region 1 with fail;generalize W.alloc _=d at*;have E:=hY (Ext.refl d);go_wp2_with (first|(go_at_call 142;refine(B.o _).m fun g a=>?_;replace E:=hY (E.o.trans a.o);obtain⟨q,_⟩:=i.o _ E.o)|(go_at_call 98;refine(F.o _).m fun g a=>?_;replace E:=hY (E.o.trans a.o);obtain⟨q,_⟩:=i.o _ E.o)|(go_at_call 108;refine(S.o _).m fun g a=>?_;replace E:=hY (E.o.trans a.o);obtain⟨q,_⟩:=i.o _ E.o;obtain⟨r0,r1,r2,r3,r4,r5,r6⟩:=S2.o _ E.o;simp only[T.kind,T.name,T.FP,T.FQ,T.FN,T.FY,T.FR] at r0 r1 r2 r3 r4 r5 r6)|(go_at_call 141;refine(Y.o _ E.o).m fun g a=>?_;replace E:=hY (E.o.trans a.o);obtain⟨q,_⟩:=i.o _ E.o));go_ret;exact⟨by rw[c.o];rfl,s.o.trans E.o⟩
      ·have n2:((l.length:Int)==1)=false:=by simp;omega
       have n3:(l.length==1)=false:=by simpa using hl
       rw[n3] at c;clear hl;go_enter Tryz.func141,Tryz.ntmps141;go_upto_region 1 with fail;generalize W.alloc _=d at*;have E:=hY (Ext.refl d);go_wp2_with (first|(go_at_call 142;refine(B.o _).m fun g a=>?_;replace E:=hY (E.o.trans a.o);obtain⟨q,_⟩:=i.o _ E.o)|(go_at_call 98;refine(F.o _).m fun g a=>?_;replace E:=hY (E.o.trans a.o);obtain⟨q,_⟩:=i.o _ E.o)|(go_at_call 108;refine(S.o _).m fun g a=>?_;replace E:=hY (E.o.trans a.o);obtain⟨q,_⟩:=i.o _ E.o));go_ret;exact⟨by rw[c.o];rfl,s.o.trans E.o⟩
   have e4:(k==4)=false:=by simpa using h4
   rw[if_neg h4] at c;by_cases h5:k=5
   ·subst h5
    clear e2 h2 e4 h4;rw[if_pos rfl] at c;have L:=hY (fun V a=>nw V top u J l (K.o.FN.keep (t.o V a)) (TV.o V a) 141 (.inl rfl) T.expr (PC.o 141 T.expr l CC.o V a));generalize aw:bo n=z at*;generalize l.all T.expr=d3 at*;by_cases hz:0<=z
    ·rw[decide_eq_true hz] at c
     have a5:z<=1048577:=by have:=zR n;rw[aw] at this;have Z:n.length<=1048576:=K.o.name;omega
     cases hl:((l.length:Int)==z+1) with
     |false=>
      rw[hl] at c;go_enter Tryz.func141,Tryz.ntmps141;go_upto_region 1 with fail;generalize W.alloc _=d at*;have E:=hY (Ext.refl d);go_wp2_with (first|(go_at_call 142;refine(B.o _).m fun g a=>?_;replace E:=hY (E.o.trans a.o);obtain⟨q,_⟩:=i.o _ E.o)|(go_at_call 95;refine(ad.o _).m fun g a=>?_;replace E:=hY (E.o.trans a.o);obtain⟨q,_⟩:=i.o _ E.o));go_ret;exact⟨by rw[c.o];rfl,s.o.trans E.o⟩
     |true=>
      rw[hl] at c
      skip
      go_enter Tryz.func141,Tryz.ntmps141;go_upto_region 1 with fail;generalize W.alloc _=d at*;have E:=hY (Ext.refl d);go_wp2_with (first|(go_at_call 142;refine(B.o _).m fun g a=>?_;replace E:=hY (E.o.trans a.o);obtain⟨q,_⟩:=i.o _ E.o)|(go_at_call 95;refine(ad.o _).m fun g a=>?_;replace E:=hY (E.o.trans a.o);obtain⟨q,_⟩:=i.o _ E.o)|(go_at_call 191;refine(L.o _ E.o).m fun g a=>?_;replace E:=hY (E.o.trans a.o)));go_ret;exact⟨by rw[c.o];rfl,s.o.trans E.o⟩
    ·rw[decide_eq_false hz] at c
     go_enter Tryz.func141,Tryz.ntmps141;go_upto_region 1 with fail;generalize W.alloc _=d at*;have E:=hY (Ext.refl d);go_wp2_with (first|(go_at_call 142;refine(B.o _).m fun g a=>?_;replace E:=hY (E.o.trans a.o);obtain⟨q,_⟩:=i.o _ E.o)|(go_at_call 95;refine(ad.o _).m fun g a=>?_;replace E:=hY (E.o.trans a.o);obtain⟨q,_⟩:=i.o _ E.o));go_ret;exact⟨by rw[c.o];rfl,s.o.trans E.o⟩
   have e5:(k==5)=false:=by simpa using h5
   rw[if_neg h5] at c;by_cases h6:k=6
   ·subst h6
    clear e2 h2 e4 h4 e5 h5;rw[if_pos rfl] at c;by_cases hl:3<=l.length
    ·obtain⟨y,r,rfl⟩:∃y r,l=y::r:=by
      cases l with
      |nil=>simp at hl
      |cons y r=>exact⟨y,r,rfl⟩
     rw[decide_eq_true hl,si] at c;have ay:(3:Int)<=((y::r).length:Int):=by omega
     obtain⟨g2,v,b1,f1,b2,f2,b3,f3,rfl,ag,D,M⟩:=K.o.FN.seven (j:=0) (x:=y) rfl;rw[np,ks] at D;have Y:=hY (fun V (I:Ext (W.alloc (.cells (af 6 n C.length A.length (y::r).length p pl R P Q O (some ⟨g2,v,none⟩) u) 26)) V)=>CC.o y (by simp) V b1 f1 b2 f2 b3 f3 (hW.trans (s.o.trans I)) (M.keep (t.o V I)));have S2:=hY (fun V I=>D.keep (t.o V I _ ag));have hN:∀V,Ext (W.alloc (.cells (af 6 n C.length A.length (y::r).length p pl R P Q O (some ⟨g2,v,none⟩) u) 26)) V->NAt V top (some ⟨g2,v,none⟩) u (y::r):=fun V I=>K.o.FN.keep (t.o V I);have aj:=fun V I=>(hN V I).drop (lo:=1) (by simp only[gi];omega);have L:=hY (fun V a=>nw V top _ _ _ (aj V a) (TV.o V a) 192 (.inr (.inl rfl)) T.msg (PC.o 192 T.msg _ (fun z hz=>va w top G z (ac.o z (sb _ (by simpa using hz)))) V a));have ai:((y::r).drop 1).length=(y::r).length-1:=by simp
     have al:u≠1:=by simp only[gi] at ak hl;omega
     rw[ai,if_neg al,show(y::r).drop 1=r from rfl] at L;simp only[Ac,Addr.add,Fw] at L;clear D M CC ac PC aj ai hN;generalize(y::r).length=ll at*;generalize az:T.expr y=aq at*;generalize r.all T.msg=d3 at*;generalize n.isEmpty=N at*;obtain⟨ky,ny,av,ar,ly,py,au⟩:=y;cases N with
     |false=>
      go_enter Tryz.func141,Tryz.ntmps141;go_upto_region 1 with fail;generalize W.alloc _=d at*;have E:=hY (Ext.refl d);go_wp2_with (first|(go_at_call 142;refine(B.o _).m fun g a=>?_;replace E:=hY (E.o.trans a.o);obtain⟨q,_⟩:=i.o _ E.o;obtain⟨r0,r1,r2,r3,r4,r5,r6⟩:=S2.o _ E.o;simp only[T.kind,T.name,T.FP,T.FQ,T.FN,T.FY,T.FR] at r0 r1 r2 r3 r4 r5 r6));go_ret;exact⟨by rw[c.o];rfl,s.o.trans E.o⟩
     |true=>
      cases aq with
      |false=>
       go_enter Tryz.func141,Tryz.ntmps141;go_upto_region 1 with fail;generalize W.alloc _=d at*;have E:=hY (Ext.refl d);go_wp2_with (first|(go_at_call 142;refine(B.o _).m fun g a=>?_;replace E:=hY (E.o.trans a.o);obtain⟨q,_⟩:=i.o _ E.o;obtain⟨r0,r1,r2,r3,r4,r5,r6⟩:=S2.o _ E.o;simp only[T.kind,T.name,T.FP,T.FQ,T.FN,T.FY,T.FR] at r0 r1 r2 r3 r4 r5 r6)|(go_at_call 141;refine(Y.o _ E.o).m fun g a=>?_;replace E:=hY (E.o.trans a.o);obtain⟨q,_⟩:=i.o _ E.o)|(go_at_call 191;refine(L.o _ E.o).m fun g a=>?_;replace E:=hY (E.o.trans a.o)));go_ret;exact⟨by rw[c.o];rfl,s.o.trans E.o⟩
      |true=>
       go_enter Tryz.func141,Tryz.ntmps141;go_upto_region 1 with fail;generalize W.alloc _=d at*;have E:=hY (Ext.refl d);go_wp2_with (first|(go_at_call 142;refine(B.o _).m fun g a=>?_;replace E:=hY (E.o.trans a.o);obtain⟨q,_⟩:=i.o _ E.o;obtain⟨r0,r1,r2,r3,r4,r5,r6⟩:=S2.o _ E.o;simp only[T.kind,T.name,T.FP,T.FQ,T.FN,T.FY,T.FR] at r0 r1 r2 r3 r4 r5 r6)|(go_at_call 141;refine(Y.o _ E.o).m fun g a=>?_;replace E:=hY (E.o.trans a.o);obtain⟨q,_⟩:=i.o _ E.o)|(go_at_call 191;refine(L.o _ E.o).m fun g a=>?_;replace E:=hY (E.o.trans a.o)));go_ret;exact⟨by rw[c.o];rfl,s.o.trans E.o⟩
    ·have ay:¬(3:Int)<=(l.length:Int):=by omega
     rw[decide_eq_false hl] at c;generalize n.isEmpty=N at*;cases N with
     |false=>
      go_enter Tryz.func141,Tryz.ntmps141;go_upto_region 1 with fail;generalize W.alloc _=d at*;have E:=hY (Ext.refl d);go_wp2_with (first|(go_at_call 142;refine(B.o _).m fun g a=>?_;replace E:=hY (E.o.trans a.o);obtain⟨q,_⟩:=i.o _ E.o));go_ret;exact⟨by rw[c.o];rfl,s.o.trans E.o⟩
     |true=>
      go_enter Tryz.func141,Tryz.ntmps141;go_upto_region 1 with fail;generalize W.alloc _=d at*;have E:=hY (Ext.refl d);go_wp2_with (first|(go_at_call 142;refine(B.o _).m fun g a=>?_;replace E:=hY (E.o.trans a.o);obtain⟨q,_⟩:=i.o _ E.o));go_ret;exact⟨by rw[c.o];rfl,s.o.trans E.o⟩
   have e6:(k==6)=false:=by simpa using h6
   rw[if_neg h6] at c;by_cases h8:k=8
   ·subst h8
    clear e2 h2 e4 h4 e5 h5 e6 h6;rw[if_pos rfl] at c;generalize aI n=d1 at*;have n2:((l.length:Int)==0)=(l.length==0):=by rw[rW];simp
    generalize(l.length==0)=d2 at*;cases d1 with
    |false=>
     go_enter Tryz.func141,Tryz.ntmps141;go_upto_region 1 with fail;generalize W.alloc _=d at*;have E:=hY (Ext.refl d);go_wp2_with (first|(go_at_call 142;refine(B.o _).m fun g a=>?_;replace E:=hY (E.o.trans a.o);obtain⟨q,_⟩:=i.o _ E.o)|(go_at_call 98;refine(F.o _).m fun g a=>?_;replace E:=hY (E.o.trans a.o);obtain⟨q,_⟩:=i.o _ E.o));go_ret;exact⟨by rw[c.o];rfl,s.o.trans E.o⟩
    |true=>
     go_enter Tryz.func141,Tryz.ntmps141;go_upto_region 1 with fail;generalize W.alloc _=d at*;have E:=hY (Ext.refl d);go_wp2_with (first|(go_at_call 142;refine(B.o _).m fun g a=>?_;replace E:=hY (E.o.trans a.o);obtain⟨q,_⟩:=i.o _ E.o)|(go_at_call 98;refine(F.o _).m fun g a=>?_;replace E:=hY (E.o.trans a.o);obtain⟨q,_⟩:=i.o _ E.o));go_ret;exact⟨by rw[c.o];simp,s.o.trans E.o⟩
   have e8:(k==8)=false:=by simpa using h8
   rw[if_neg h8] at c;by_cases Z:k=9
   ·subst Z
    clear e2 h2 e4 h4 e5 h5 e6 h6 e8 h8;rw[if_pos rfl] at c;generalize dz n=d1 at*;have n2:((l.length:Int)==0)=(l.length==0):=by rw[rW];simp
    generalize(l.length==0)=d2 at*;cases d1 with
    |false=>
     go_enter Tryz.func141,Tryz.ntmps141;go_upto_region 1 with fail;generalize W.alloc _=d at*;have E:=hY (Ext.refl d);go_wp2_with (first|(go_at_call 142;refine(B.o _).m fun g a=>?_;replace E:=hY (E.o.trans a.o);obtain⟨q,_⟩:=i.o _ E.o)|(go_at_call 193;refine(X.o _).m fun g a=>?_;replace E:=hY (E.o.trans a.o);obtain⟨q,_⟩:=i.o _ E.o));go_ret;exact⟨by rw[c.o];rfl,s.o.trans E.o⟩
    |true=>
     go_enter Tryz.func141,Tryz.ntmps141;go_upto_region 1 with fail;generalize W.alloc _=d at*;have E:=hY (Ext.refl d);go_wp2_with (first|(go_at_call 142;refine(B.o _).m fun g a=>?_;replace E:=hY (E.o.trans a.o);obtain⟨q,_⟩:=i.o _ E.o)|(go_at_call 193;refine(X.o _).m fun g a=>?_;replace E:=hY (E.o.trans a.o);obtain⟨q,_⟩:=i.o _ E.o));go_ret;exact⟨by rw[c.o];simp,s.o.trans E.o⟩
   have e9:(k==9)=false:=by simpa using Z
   rw[if_neg Z] at c;by_cases h10:k=10
   ·subst h10
    clear e2 h2 e4 h4 e5 h5 e6 h6 e8 h8 e9 Z;rw[if_pos (by omega)] at c;have n2:((l.length:Int)==0)=(l.length==0):=by rw[rW];simp
    generalize(l.length==0)=d2 at*;go_enter Tryz.func141,Tryz.ntmps141;go_upto_region 1 with fail;generalize W.alloc _=d at*;have E:=hY (Ext.refl d);go_wp2_with (first|(go_at_call 142;refine(B.o _).m fun g a=>?_;replace E:=hY (E.o.trans a.o);obtain⟨q,_⟩:=i.o _ E.o));go_ret;exact⟨by rw[c.o];rfl,s.o.trans E.o⟩
   have ab:(k==10)=false:=by simpa using h10
   skip
   by_cases h11:k=11
   ·subst h11
    clear e2 h2 e4 h4 e5 h5 e6 h6 e8 h8 e9 Z ab h10;rw[if_pos (by omega)] at c;have n2:((l.length:Int)==0)=(l.length==0):=by rw[rW];simp
    generalize(l.length==0)=d2 at*;go_enter Tryz.func141,Tryz.ntmps141;go_upto_region 1 with fail;generalize W.alloc _=d at*;have E:=hY (Ext.refl d);go_wp2_with (first|(go_at_call 142;refine(B.o _).m fun g a=>?_;replace E:=hY (E.o.trans a.o);obtain⟨q,_⟩:=i.o _ E.o));go_ret;exact⟨by rw[c.o];rfl,s.o.trans E.o⟩
   have ah:(k==11)=false:=by simpa using h11
   rw[if_neg (by omega)] at c;by_cases h12:k=12
   ·subst h12
    clear e2 h2 e4 h4 e5 h5 e6 h6 e8 h8 e9 Z ab h10 ah h11;rw[if_pos rfl] at c;have L:=hY (fun V a=>nw V top u J l (K.o.FN.keep (t.o V a)) (TV.o V a) 194 (.inr (.inr (.inl rfl))) T.litOk (PC.o 194 T.litOk l (fun y H=>ve w top G y (CC.o y H)) V a));generalize n.isEmpty=N at*;generalize l.all T.litOk=d3 at*;cases N with
    |false=>
     go_enter Tryz.func141,Tryz.ntmps141;go_upto_region 1 with fail;generalize W.alloc _=d at*;have E:=hY (Ext.refl d);go_wp2_with (first|(go_at_call 142;refine(B.o _).m fun g a=>?_;replace E:=hY (E.o.trans a.o);obtain⟨q,_⟩:=i.o _ E.o));go_ret;exact⟨by rw[c.o];rfl,s.o.trans E.o⟩
    |true=>
     go_enter Tryz.func141,Tryz.ntmps141;go_upto_region 1 with fail;generalize W.alloc _=d at*;have E:=hY (Ext.refl d);go_wp2_with (first|(go_at_call 142;refine(B.o _).m fun g a=>?_;replace E:=hY (E.o.trans a.o);obtain⟨q,_⟩:=i.o _ E.o)|(go_at_call 191;refine(L.o _ E.o).m fun g a=>?_;replace E:=hY (E.o.trans a.o)));go_ret;exact⟨by rw[c.o];rfl,s.o.trans E.o⟩
   have ap:(k==12)=false:=by simpa using h12
   rw[if_neg h12] at c;by_cases h13:k=13
   ·subst h13
    clear e2 h2 e4 h4 e5 h5 e6 h6 e8 h8 e9 Z ab h10 ah h11 ap h12;rw[if_pos rfl] at c;have L:=hY (fun V a=>nw V top u J l (K.o.FN.keep (t.o V a)) (TV.o V a) 195 (.inr (.inr (.inr rfl))) T.byt (PC.o 195 T.byt l (fun y H=>Cb w top G hv y (CC.o y H)) V a));generalize n.isEmpty=N at*;generalize l.all T.byt=d3 at*;cases N with
    |false=>
     go_enter Tryz.func141,Tryz.ntmps141;go_upto_region 1 with fail;generalize W.alloc _=d at*;have E:=hY (Ext.refl d);go_wp2_with (first|(go_at_call 142;refine(B.o _).m fun g a=>?_;replace E:=hY (E.o.trans a.o);obtain⟨q,_⟩:=i.o _ E.o));go_ret;exact⟨by rw[c.o];rfl,s.o.trans E.o⟩
    |true=>
     go_enter Tryz.func141,Tryz.ntmps141;go_upto_region 1 with fail;generalize W.alloc _=d at*;have E:=hY (Ext.refl d);go_wp2_with (first|(go_at_call 142;refine(B.o _).m fun g a=>?_;replace E:=hY (E.o.trans a.o);obtain⟨q,_⟩:=i.o _ E.o)|(go_at_call 191;refine(L.o _ E.o).m fun g a=>?_;replace E:=hY (E.o.trans a.o)));go_ret;exact⟨by rw[c.o];rfl,s.o.trans E.o⟩
   have a4:(k==13)=false:=by simpa using h13
   rw[if_neg h13] at c;by_cases h14:k=14
   ·subst h14
    clear e2 h2 e4 h4 e5 h5 e6 h6 e8 h8 e9 Z ab h10 ah h11 ap h12 a4 h13;rw[if_pos rfl] at c;have L:=hY (fun V a=>nw V top u J l (K.o.FN.keep (t.o V a)) (TV.o V a) 141 (.inl rfl) T.expr (PC.o 141 T.expr l CC.o V a));generalize n.isEmpty=N at*;generalize l.all T.expr=d3 at*;cases N with
    |false=>
     go_enter Tryz.func141,Tryz.ntmps141;go_upto_region 1 with fail;generalize W.alloc _=d at*;have E:=hY (Ext.refl d);go_wp2_with (first|(go_at_call 142;refine(B.o _).m fun g a=>?_;replace E:=hY (E.o.trans a.o);obtain⟨q,_⟩:=i.o _ E.o));go_ret;exact⟨by rw[c.o];rfl,s.o.trans E.o⟩
    |true=>
     go_enter Tryz.func141,Tryz.ntmps141;go_upto_region 1 with fail;generalize W.alloc _=d at*;have E:=hY (Ext.refl d);go_wp2_with (first|(go_at_call 142;refine(B.o _).m fun g a=>?_;replace E:=hY (E.o.trans a.o);obtain⟨q,_⟩:=i.o _ E.o)|(go_at_call 191;refine(L.o _ E.o).m fun g a=>?_;replace E:=hY (E.o.trans a.o)));go_ret;exact⟨by rw[c.o];rfl,s.o.trans E.o⟩
   have a8:(k==14)=false:=by simpa using h14
   rw[if_neg h14] at c;clear h2 h4 h5 h6 h8 Z h10 h11 h12 h13 h14;go_enter Tryz.func141,Tryz.ntmps141;go_upto_region 1 with fail;generalize W.alloc _=d at*;have E:=hY (Ext.refl d);go_wp2_with (first|(go_at_call 142;refine(B.o _).m fun g a=>?_;replace E:=hY (E.o.trans a.o);obtain⟨q,_⟩:=i.o _ E.o));go_ret;exact⟨by rw[c.o];rfl,s.o.trans E.o⟩
end Go.Proofs.Eff
