import Derived.Test.YtcimpmhmdnoeiaaGreatDoorQ16
import Derived.Test.YtcimpmhmdnoeiaaGreatDoorQ19
set_option maxRecDepth 100000
set_option maxHeartbeats 20000000
set_option linter.all false
namespace Go.Proofs.Eff
open Go.RowKit
theorem zC (w:World)(op a b c z:Int)(n:1<=op)(m:op<=25)(l:0<=a/\a<=2000000)(h:0<=b/\b<=2000000):Calls Tryz.prog 64 #[.agg #[.i op,.i a,.i b,.i c,.i z]] w fun e w'=>e=.returned (.tuple #[.i (aU op a b),.i (bI op)])/\Ext w w':=by
 have p:Hid (Ext w (w.alloc (.cells #[.i op,.i a,.i b,.i c,.i z] 91))):=(Ext.refl w).alloc _;obtain⟨r,q⟩:=blk (aq w (.cells #[.i op,.i a,.i b,.i c,.i z] 91) _ rfl);obtain⟨k,j⟩:=l;obtain⟨g,f⟩:=h;have d:op=1\/op=2\/op=3\/op=4\/op=5\/op=6\/op=7\/op=8\/op=9\/op=10\/op=11\/op=12\/op=13\/op=14\/op=15\/op=16\/op=17\/op=18\/op=19\/op=20\/op=21\/op=22\/op=23\/op=24\/op=25:=by omega
 clear n m;rcases d with rfl|rfl|rfl|rfl|rfl|rfl|rfl|rfl|rfl|rfl|rfl|rfl|rfl|rfl|rfl|rfl|rfl|rfl|rfl|rfl|rfl|rfl|rfl|rfl|rfl
 all_goals
  go_enter Tryz.func64,Tryz.ntmps64;go_upto_region 1 with fail;generalize w.alloc _=s at*;go_wp2_with fail;exact bodyPost_ret (results_tmp2 rfl _ _ _) rfl ⟨rfl,p.o⟩
theorem Dy (w:World)(op:Int):Calls Tryz.prog 65 #[.i op] w fun e w'=>e=.returned (.bool (cG op))/\w'=w:=by
 have E:Hid (cG op=(op==18||op==21||op==22||op==23)):=rfl;have a:op=18\/op=21\/op=22\/op=23\/(op≠18/\op≠21/\op≠22/\op≠23):=by omega
 rcases a with rfl|rfl|rfl|rfl|⟨f,d,c,b⟩
 ·go_enter Tryz.func65,Tryz.ntmps65
  go_wp2_with fail;go_ret;exact⟨rfl,rfl⟩
 ·go_enter Tryz.func65,Tryz.ntmps65
  go_wp2_with fail;go_ret;exact⟨rfl,rfl⟩
 ·go_enter Tryz.func65,Tryz.ntmps65
  go_wp2_with fail;go_ret;exact⟨rfl,rfl⟩
 ·go_enter Tryz.func65,Tryz.ntmps65
  go_wp2_with fail;go_ret;exact⟨rfl,rfl⟩
 ·have k:(op==18)=false:=by simpa using f
  have j:(op==21)=false:=by simpa using d
  have h:(op==22)=false:=by simpa using c
  have g:(op==23)=false:=by simpa using b
  clear f d c b;go_enter Tryz.func65,Tryz.ntmps65;go_wp2_with fail;go_ret;exact⟨by rw[E.o,k,j,h,g];rfl,rfl⟩
theorem pB (a b c:Int):(∀w,(Instr.index 241 (.agg #[.i a,.i b,.i c]) (.i 0)).run Tryz.prog w=.ok (.i a) w)/\(∀w,(Instr.index 241 (.agg #[.i a,.i b,.i c]) (.i 1)).run Tryz.prog w=.ok (.i b) w)/\∀w,(Instr.index 241 (.agg #[.i a,.i b,.i c]) (.i 2)).run Tryz.prog w=.ok (.i c) w:=⟨fun _=>by kernel_rfl,fun _=>by kernel_rfl,fun _=>by kernel_rfl⟩
theorem Eb (w:World)(a b:Array Value)(s t:TypeId):Hid (Ext w ((w.alloc (.cells a s)).alloc (.cells b t)))/\Hid (((w.alloc (.cells a s)).alloc (.cells b t)).heap[w.heap.size]?=some (.cells a s))/\Hid (((w.alloc (.cells a s)).alloc (.cells b t)).heap[w.heap.size+1]?=some (.cells b t)):=by
 have h:(w.alloc (.cells a s)).heap.size=w.heap.size+1:=by show(w.heap.push _).size=_;exact tc ..
 exact⟨hY (((Ext.refl w).alloc _).alloc _),hY (aM (aq w _ _ rfl) _),hY (h ▸ aq (w.alloc (.cells a s)) (.cells b t) _ rfl)⟩
def KOK (k:Int):Prop:=k=0\/k=1\/k=3\/k=8\/k=15
def szS (k j:Int):Int:=if k=0\/k=8\/j=0 then 1 else if k=1\/j=1 then 2 else if k=3\/j=2 then 3 else 4
def szK (k:Int):Int:=if k=0 then 1 else if k=1 then 2 else if k=3 then 3 else if k=8 then 3 else 6
theorem wh (w:World)(c:BL)(k b a:Int)(d:Bool)(g:KOK k):Calls Tryz.prog 125 #[.agg #[.string (mkS c),.i k,.i b,.i a,.bool d]] w fun e w'=>e=.returned (.i (szK k))/\Ext w w':=by
 have t:Hid (Ext w (w.alloc (.cells #[.string (mkS c),.i k,.i b,.i a,.bool d] 196))):=(Ext.refl w).alloc _;obtain⟨v,u⟩:=blk (aq w (.cells #[.string (mkS c),.i k,.i b,.i a,.bool d] 196) _ rfl);obtain⟨p,l,h⟩:=pB 1 2 4;have s:=hY g;clear g;go_enter Tryz.func125,Tryz.ntmps125;go_upto_region 1 with fail;generalize w.alloc _=r at*;go_upto_region 3 with fail
 go_loopw [7,3] (fun i n wr=>wr=r/\∃j m,i=.i j/\n=.i m/\m=szS k j/\(j=0\/j=1\/j=2\/j=3)) (fun i _ _=>3-(intOf i).toNat)
 case atStart=>exact⟨rfl,0,1,rfl,rfl,by simp[szS],.inl rfl⟩
 case round=>
  obtain⟨rfl,j,m,rfl,rfl,f,q⟩:=hrel;rcases s.o with rfl|rfl|rfl|rfl|rfl<;>rcases q with rfl|rfl|rfl|rfl<;>simp[szS] at f<;>subst f
  all_goals
   go_wp2_with fail;first
   |(go_roundw;(case rel=>exact⟨trivial,_,_,rfl,rfl,rfl,by decide⟩);(case measure=>decide))
   |(go_ret;exact⟨rfl,t.o⟩)
theorem lF {op:Int}(h:cH op=true):op=1\/op=2\/op=3\/op=4\/op=5\/op=6\/op=7\/op=8\/op=9\/op=10\/op=11\/op=12\/op=13\/op=14\/op=15\/op=16\/op=17\/op=18\/op=19\/op=20\/op=21\/op=22\/op=23\/op=24\/op=25:=by
 simp only[cH,gT,decide_eq_true_eq] at h;omega
theorem mL {op:Int}(h:cH op=true):((opR op).2.1=0\/(opR op).2.1=1\/(opR op).2.1=3\/(opR op).2.1=8\/(opR op).2.1=15)/\szK (opR op).2.1=(bf op:Int):=by
 rcases lF h with rfl|rfl|rfl|rfl|rfl|rfl|rfl|rfl|rfl|rfl|rfl|rfl|rfl|rfl|rfl|rfl|rfl|rfl|rfl|rfl|rfl|rfl|rfl|rfl|rfl<;>exact⟨by decide,by decide⟩
theorem uK (w:World)(op:Int)(h:cH op=true):Calls Tryz.prog 61 #[.i op] w fun e w'=>e=.returned (.i (bf op:Int))/\Ext w w':=by
 obtain⟨m,l⟩:=mL h
 have g: -1000<=op/\op<=1000:=by
  simp only[cH,gT,decide_eq_true_eq] at h;omega
 have A:=mQ w op g.1 g.2;rw[h] at A;rw[←l];generalize opR op=r at*;obtain⟨d,k,c,b,f⟩:=r
 replace A:Hid (Calls Tryz.prog 118 #[.i op] w fun e w'=>e=.returned (.tuple #[.agg #[.string (mkS d),.i k,.i c,.i b,.bool f],.bool true])/\Ext w w'):=hY A
 have B:=hY (fun W=>wh W d k c b f m);show Calls Tryz.prog 61 #[.i op] w fun e w'=>e=.returned (.i (szK k))/\Ext w w'
 clear m l h g;generalize szK k=z at*;go_enter Tryz.func61,Tryz.ntmps61;go_upto_region 1 with fail;go_upto_region 2 with(go_at_call 118;refine A.o.m fun j a=>?_;have q:=hY (a.o.alloc (.cells #[.string (mkS d),.i k,.i c,.i b,.bool f] 196));obtain⟨u,t⟩:=blk (aq j (.cells #[.string (mkS d),.i k,.i c,.i b,.bool f] 196) _ rfl));generalize j.alloc _=n at*;go_wp2_with (go_at_call 125;refine(B.o n).m fun s a=>?_;have p:=hY (q.o.trans a.o));go_ret;exact⟨rfl,p.o⟩
section
variable {base b8 bd:Nat}
def bz (k:Int):Value:=.i k
def kU (k:Nat):Value:=.i (k:Int)
structure HM (base b6 b8 bd:Nat)(w:World)(s:List Int×List Nat)(F:List Nat):Prop where
 low:bd<base/\b6<base/\base<=b8
 d6:w.heap[b6]?=some (.cells #[.slice (some ⟨bd,0,none⟩) s.1.length s.1.length] 83)
 dd:w.heap[bd]?=some (.cells (s.1.map bz).toArray 3)
 ws:∃wv,F=bd::wv.ownBlock.toList/\w.heap[b8]?=some (.cells #[wv] 83)/\w.ownsRow base 3 1 wv s.2.length (s.2.map kU)
theorem HM.ext {b:Nat}{w w':World}{s:List Int×List Nat}{F:List Nat}(h:HM base b b8 bd w s F)(a:Ext w w'):HM base b b8 bd w' s F:=by
 obtain⟨c,f,e,d⟩:=h.ws;exact⟨h.low,a.keep h.d6,a.keep h.dd,c,f,a.keep e,ak d a⟩
theorem pJ:(Tryz.prog.info? 3).map (fun i=>(i.zero,i.size,i.bytes))=some (some (.i 0),1,8):=by kernel_rfl
theorem HM.b8F {b:Nat}{w:World}{s:List Int×List Nat}{F:List Nat}(h:HM base b b8 bd w s F):∀k∈F,k≠b8/\k≠b/\k<w.heap.size:=by
 obtain⟨g,rfl,d,c⟩:=h.ws;obtain⟨l,j,i⟩:=h.low;intro k a;rcases aS.1 a with rfl|a
 ·exact⟨by omega,fun e=>(by subst e;have:=h.dd;rw[h.d6] at this;simp at this),ab h.dd⟩
 ·obtain⟨m,o,n,e⟩:=au c a
  refine⟨fun f=>?_,by omega,ab e⟩;subst f;rw[d] at e;cases e
theorem pz {D:List Int}(k:Nat)(e:Int):((D.map bz).toArray.setIfInBounds k (bz e))=((D.set k e).map bz).toArray:=by
 apply Array.toList_inj.1;simp[List.map_set]
theorem HM.handed {j k:Nat}{e:Int}{w c:World}{D:List Int}{b F:List Nat}{d:Value}(h:HM base j b8 bd w (D,b) F)(p:F=bd::d.ownBlock.toList)(S:w.heap[b8]?=some (.cells #[d] 83))(N:w.ownsRow base 3 1 d b.length (b.map kU))
 {g q:Nat} (l:c.ownsRow base 3 1 (.slice (some ⟨g,0,none⟩) (b.length+1) q) (b.length+1) ((b.map kU)++[.i (k:Int)])) (a:((w.setCell ⟨bd,k,none⟩ (.i e)).alloc (.cells #[.i (k:Int)] 3)).grownBy c d.ownBlock) (y:d.ownBlock=some g\/w.heap.size<=g) (t:g≠b8) (Q:base<=g):
 HM base j b8 bd (c.setCell ⟨b8,0,none⟩ (.slice (some ⟨g,0,none⟩) (b.length+1) q)) (D.set k e,b++[k]) [bd,g]/\CM b8 F [bd,g] w (c.setCell ⟨b8,0,none⟩ (.slice (some ⟨g,0,none⟩) (b.length+1) q)):=by
 obtain⟨M,L,K⟩:=h.low;have H:=h.b8F;have J:Mod [bd] w (w.setCell ⟨bd,k,none⟩ (.i e)):=ae w ⟨bd,k,none⟩ (.i e);have G:Mod [bd] w ((w.setCell ⟨bd,k,none⟩ (.i e)).alloc (.cells #[.i (k:Int)] 3)):=J.ext ((Ext.refl _).alloc _);have E:Mod (b8::F) w c:=(G.mono (by simp[p])).trans ⟨(ag a).os,(ag a).tape,(ag a).output,(ag a).size,fun i P O=>(ag a).block i P (fun f=>O (by rw[p];simp[f]))⟩;have I:Mod (b8::F) w (c.setCell ⟨b8,0,none⟩ (.slice (some ⟨g,0,none⟩) (b.length+1) q)):=E.trans ((ae c ⟨b8,0,none⟩ (.slice (some ⟨g,0,none⟩) (b.length+1) q)).mono (by simp))
 have s:∀x∈d.ownBlock.toList,base<=x:=fun x r=>by
  obtain⟨R,_⟩:=au N r;exact R
 have n:=h.dd;have o:=h.d6;dsimp only at n o;have C:b8≠j:=by omega
 have B:b8≠bd:=by omega
 have v:c.heap[j]?=some (.cells #[.slice (some ⟨bd,0,none⟩) D.length D.length] 83):=E.keep o (by
  simp only[aS,not_or]
  exact⟨fun e=>C e.symm,fun f=>(H j f).2.1 rfl⟩)
 have u:c.heap[bd]?=some (.cells ((D.set k e).map bz).toArray 3):=by
  have A:(w.setCell ⟨bd,k,none⟩ (.i e)).heap[bd]?=some (.cells ((D.set k e).map bz).toArray 3):=by
   rw[be n];congr 2;exact pz k e
  have U:=aM A (.cells #[.i (k:Int)] 3);exact(ag a).keep U (fun f=>by have:=s bd f;omega)
 have z:c.heap[b8]?=some (.cells #[d] 83):=by
  have A:=G.keep S (by simp[B]);refine(ag a).keep A (fun f=>?_);exact(H b8 (by rw[p];simp[f])).1 rfl
 refine⟨⟨⟨M,L,K⟩,?_,?_,.slice (some ⟨g,0,none⟩) (b.length+1) q,rfl,by rw[be z];simp,?_⟩,I,fun x r=>?_⟩
 ·dsimp only
  rw[As];exact jQ v (by show j≠b8;omega) _
 ·exact jQ u (by show bd≠b8;omega) _
 ·have:=(ae c ⟨b8,0,none⟩ (.slice (some ⟨g,0,none⟩) (b.length+1) q)).row l (fun V m=>by
   simp only[Value.ownBlock,dO] at m;subst m
   simpa using t)
  simp only[bY,ta,An,AC,FJ];exact this
 ·simp only[aS,aT,or_false] at r
  rcases r with rfl|rfl
  ·exact .inl (by rw[p];simp)
  ·rcases y with e|e
   ·exact .inl (by rw[p,e];simp)
   ·exact .inr e
theorem Du (base b1 X b8 bd r k n c:Nat)(e W:Int)(o d nv ar:Value)(it:Option Addr)(w:World)(s:List Int×List Nat)(F:List Nat)(h:HM base X b8 bd w s F)(V:w.heap[b1]?=some (.cells #[.pointer (some ⟨r,0,none⟩)] 61))(S:w.heap[r]?=some (.cells #[o,d,nv,ar,.slice it n c] 70))(hk:k<n)(f:s.1[k]?=some W)(hs:s.2.length<=10000000000)(hn:n<=10000000000):
 Calls Tryz.prog 63 #[.i (k:Int),.i e,.pointer (some ⟨b1,0,none⟩),.pointer (some ⟨X,0,none⟩),.pointer (some ⟨b8,0,none⟩)] w fun en w'=>en=.returned (.tuple #[])/\∃P,HM base X b8 bd w' (hnd s k e) P/\CM b8 F P w w':=by
 obtain⟨D,ws⟩:=s;dsimp only at*;have hh:=h;obtain⟨wv,hF,G,a⟩:=hh.ws;dsimp only at a;obtain⟨J,H,rfl,-⟩:=aJ a;have l:=h.d6;have j:=h.dd;dsimp only at l j;have ax:k<D.length:=(aC.1 f).1;obtain⟨l1,l2,l3⟩:=h.low
 have t:w.cell? ⟨bd,k,none⟩=some (.i W):=by
  rw[(blk j).1];simp[bz,f]
 have p:=(blk j).2;have U:D.getD k 0=W:=by rw[u7,f];rfl
 by_cases hneg:W<0
 ·have Y:Hid (hnd (D,ws) k e=(D.set k e,ws++[k])):=hY (by unfold hnd;rw[if_pos (by show D.getD k 0<0;rw[U];exact hneg)])
  have I:b8≠bd:=by omega
  have A:∀g,(Value.slice J ws.length H).ownBlock=some g->¬g∈[bd]:=fun g hg=>by
   obtain⟨hb,_⟩:=au a (show g∈(Value.slice J ws.length H).ownBlock.toList by rw[hg];simp);simp;omega
  have B:base<=w.heap.size:=by have:=ab G;omega
  have av:Hid (∀(x:World) (g q:Nat),x.ownsRow base 3 1 (.slice (some ⟨g,0,none⟩) (ws.length+1) q) (ws.length+1) ((ws.map kU)++[.i (k:Int)])->((w.setCell ⟨bd,k,none⟩ (.i e)).alloc (.cells #[.i (k:Int)] 3)).grownBy x (Value.slice J ws.length H).ownBlock->((Value.slice J ws.length H).ownBlock=some g\/(w.setCell ⟨bd,k,none⟩ (.i e)).heap.size<=g)->g≠b8->base<=g->∃P,HM base X b8 bd (x.setCell ⟨b8,0,none⟩ (.slice (some ⟨g,0,none⟩) (ws.length+1) q)) (hnd (D,ws) k e) P/\CM b8 F P w (x.setCell ⟨b8,0,none⟩ (.slice (some ⟨g,0,none⟩) (ws.length+1) q))):=hY (fun x g q a1 a2 a3 a4 a5=>by
   rw[Y.o];have ah:(w.setCell ⟨bd,k,none⟩ (.i e)).heap.size=w.heap.size:=by simp
   rw[ah] at a3
   exact⟨_,h.handed hF G a a1 a2 a3 a4 a5⟩)
  obtain⟨q1,q2⟩:=blk V;obtain⟨q3,q4⟩:=blk S;obtain⟨q5,q6⟩:=blk l;have R:Mod [bd] w (w.setCell ⟨bd,k,none⟩ (.i e)):=ae w ⟨bd,k,none⟩ (.i e);have E:=hY (R.keep G (by simp[I]));have L:=hY (R.row a A);have ap:Hid (base<=(w.setCell ⟨bd,k,none⟩ (.i e)).heap.size):=hY (aN B R.size);clear h G a hF V S l j A R U hh f l1 l2 l3 I B;generalize z:(ws.map kU)=xs at*;have ay:Hid (xs.length=ws.length):=hY (by rw[←z];simp);generalize ws.length=Q at*;clear z;generalize al:D.length=dl at*;clear al Y;obtain⟨i0,hi,af,ac,aa⟩:=info_parts pJ;go_enter Tryz.func63,Tryz.ntmps63;go_upto_region 2 with fail;generalize aj:w.setCell ⟨bd,k,none⟩ (.i e)=y at*;clear aj q1 q2 q3 q4 q5 q6 t p;obtain⟨p1,p2⟩:=blk E.o;have Z:Hid (Ext y (y.alloc (.cells #[.i (k:Int)] 3))):=hY ((Ext.refl y).alloc _);have K:=hY (ak L.o Z.o);have O:=hY (World.news_of_block (aq y (.cells #[.i (k:Int)] 3) _ rfl));have M:Hid (∀u∈([.i (k:Int)]:List Value),u.oneCell'=true):=hY (by intro u hu;simp only[aS,aT,or_false] at hu;rw[hu];rfl);have ao:Hid (base<=(y.alloc (.cells #[.i (k:Int)] 3)).heap.size):=hY (aN ap.o Z.o.size);have N:Hid ((Q+1)*8<=140737488355328/\Q+1<=maxLen):=hY ⟨by omega,by unfold maxLen;omega⟩;have K8:=hY (Z.o.keep E.o);go_wp2_with (at_builtin;refine wpList_append_lies _ rfl (.tmp 25) (.tmp 27) 83 rfl base 3 i0 _ 1 8 Tryz.underlying83 hi af ac aa rfl (by decide) (.slice J Q H) Q xs rfl K.o ⟨y.heap.size,0,none⟩ 1 1 [.i (k:Int)] rfl rfl O.o M.o (by decide) N.o.2 N.o.1 ao.o _ rfl ?_;intro g6 q6 x m b C ai;have OW:=hY m;have GR:=hY b;have AT:=hY C;clear m b C ai;have P8:=(ag GR.o).keep K8.o (fun hm=>(by obtain⟨_,cs,fz,e⟩:=au K.o hm;rw[K8.o] at e;cases e));obtain⟨p3,p4⟩:=blk P8;have am:=hY P8;clear P8)
  have G8:g6≠b8:=fun e=>by
   obtain⟨_,_,cs,hc⟩:=aw OW.o;rw[show(⟨g6,0,none⟩:Addr).block=b8 from e,am.o] at hc;cases hc
  have GB:base<=g6:=(aw OW.o).1;exact QzE rfl rfl ⟨rfl,av.o _ _ _ OW.o GR.o (AT.o.elim .inl (fun h=>.inr (by rw[h];exact Z.o.size))) G8 GB⟩
 ·have Y:Hid (hnd (D,ws) k e=(D,ws)):=hY (by unfold hnd;rw[if_neg (by show¬D.getD k 0<0;rw[U];exact hneg)])
  have HH:=hY h;obtain⟨q1,q2⟩:=blk V;obtain⟨q3,q4⟩:=blk S;obtain⟨q5,q6⟩:=blk l;clear h G a hF V S l j U hh f l1 l2 l3;go_enter Tryz.func63,Tryz.ntmps63;go_wp2_with fail;exact QzE rfl rfl ⟨rfl,F,by rw[Y.o];exact⟨HH.o,CM.refl _ _ _⟩⟩
end
section
variable {w:World} {ok:Nat->Prop}
def itA:It->Int
 |.ins _ a _ _=>a
 |.blk a _ _=>a
 |_=>0
def itB:It->Int
 |.ins _ _ b _=>b
 |.blk _ b _=>b
 |_=>0
def itZ:It->Int
 |.ins _ _ _ z=>z
 |_=>0
def itG:It->Int
 |.jmp _ g=>g
 |_=> -1
def itL:It->Int
 |.lab l=>l
 |_=> -1
def iB (w:World)(ok:Nat->Prop)(r:Nat)(its:List It):Prop:=∃o d nv b a c,w.heap[r]?=some (.cells #[o,d,nv,b,.slice a its.length c] 70)/\ok r/\its.length<=c/\c<=maxLen/\its.length<=2000000000/\(its≠[]->∃g,a=some ⟨g,0,none⟩/\ok g/\fU w ok g 0 its)
theorem iB.keep {w':World}{ok':Nat->Prop}(h:jp ok w w')(a:∀k,ok k->ok' k){r:Nat}{its:List It}(i:iB w ok r its):iB w' ok' r its:=by
 obtain⟨o,d,nv,u,f,c,q,b,p,n,m,l⟩:=i;refine⟨o,d,nv,u,f,c,by rw[h r b];exact q,a r b,p,n,m,fun j=>?_⟩;obtain⟨g,t,e,s⟩:=l j;exact⟨g,t,a g e,fU.keep h a e 0 its s⟩
def fq (w:World)(ok:Nat->Prop)(x:It)(a:Value):Prop:=match x with
 |.blk _ _ body=>∃r,a=.pointer (some ⟨r,0,none⟩)/\iB w ok r body
 |_=>a=.pointer none
abbrev mh (op a b z g l:Int)(c:Value):List Value:=[.i op,.i a,.i b,.i 0,.i z,.i g,.i l,c]
theorem fV.list {x:It}{f:List Value}(h:fV w ok x f):∃e,f=mh (opI x) (itA x) (itB x) (itZ x) (itG x) (itL x) e/\fq w ok x e:=by
 cases x with
 |lab l=>rw[fV] at h;exact⟨_,h,rfl⟩
 |ins op a b z=>rw[fV] at h;exact⟨_,h,rfl⟩
 |jmp op g=>rw[fV] at h;exact⟨_,h,rfl⟩
 |blk a b body=>
  rw[fV] at h;obtain⟨r,o,d,nv,t,i,c,s,q,p,n,⟨m,j⟩,k⟩:=h;exact⟨_,s,r,rfl,o,d,nv,t,i,c,p,q,n,m,j,k⟩
structure Cy (w:World)(g o:Nat)(op a b z gl lb:Int)(pv:Value):Prop where
 k0:w.cell? ⟨g,o,none⟩=some (.i op)
 k1:w.cell? ⟨g,o+1,none⟩=some (.i a)
 k2:w.cell? ⟨g,o+2,none⟩=some (.i b)
 k3:w.cell? ⟨g,o+3,none⟩=some (.i 0)
 k4:w.cell? ⟨g,o+4,none⟩=some (.i z)
 k5:w.cell? ⟨g,o+5,none⟩=some (.i gl)
 k6:w.cell? ⟨g,o+6,none⟩=some (.i lb)
 k7:w.cell? ⟨g,o+7,none⟩=some pv
theorem fU.at {g a:Nat}{l:List It}(h:fU w ok g a l){j:Nat}{x:It}(d:l[j]?=some x):∃c,Cy w g (a+j*8) (opI x) (itA x) (itB x) (itZ x) (itG x) (itL x) c/\fq w ok x c:=by
 induction l generalizing a j with
 |nil=>simp at d
 |cons y r ih=>
  rw[fU] at h;obtain⟨⟨p,o,b,n⟩,m⟩:=h;cases j with
  |zero=>
   simp only[iN,dO] at d;subst d;obtain⟨c,rfl,i⟩:=n.list;refine⟨c,⟨?_,?_,?_,?_,?_,?_,?_,?_⟩,i⟩;all_goals simp only[np,ks]
   ·exact b 0 (by omega)
   ·exact b 1 (by omega)
   ·exact b 2 (by omega)
   ·exact b 3 (by omega)
   ·exact b 4 (by omega)
   ·exact b 5 (by omega)
   ·exact b 6 (by omega)
   ·exact b 7 (by omega)
  |succ j=>
   obtain⟨c,f,k⟩:=ih m (j:=j) (by simpa using d);refine⟨c,?_,k⟩;have e:a+8+j*8=a+(j+1)*8:=by omega
   rw[e] at f;exact f
theorem iB.at {r:Nat}{its:List It}(h:iB w ok r its):∃o d nv k f c,w.heap[r]?=some (.cells #[o,d,nv,k,.slice f its.length c] 70)/\ok r/\its.length<=c/\its.length<=2000000000/\∀j x,its[j]?=some x->∃g a b,f=some ⟨g,a,none⟩/\ok g/\Cy w g (a+j*8) (opI x) (itA x) (itB x) (itZ x) (itG x) (itL x) b/\fq w ok x b:=by
 obtain⟨o,d,nv,k,f,c,t,s,q,z,p,n⟩:=h;refine⟨o,d,nv,k,f,c,t,s,q,p,fun j x i=>?_⟩;obtain⟨g,y,v,u⟩:=n (by intro e;rw[e] at i;simp at i);obtain⟨b,m,l⟩:=u.at i;exact⟨g,0,b,y,v,m,l⟩
end
theorem xG (w:World)(a t s:Int)(m:0<=a)(l:a<=15)(k:a<=t)(j:t<=63)(h:0<=s)(g:s<=127):Calls Tryz.prog 114 #[.i a,.i t,.i s] w fun e w'=>e=.returned (.tuple #[.i (a+16*t+1024*s),.i 0])/\w'=w:=by
 have u:¬a<0:=by omega
 have r:¬15<a:=by omega
 have q:¬t<a:=by omega
 have p:¬63<t:=by omega
 have o:¬s<0:=by omega
 have n:¬127<s:=by omega
 have f:IntKind.i64.wrap (16*t)=16*t:=IntWalk.i64_in _ (by omega);have d:IntKind.i64.wrap (1024*s)=1024*s:=IntWalk.i64_in _ (by omega);have c:IntKind.i64.wrap (a+16*t)=a+16*t:=IntWalk.i64_in _ (by omega);have b:IntKind.i64.wrap (a+16*t+1024*s)=a+16*t+1024*s:=IntWalk.i64_in _ (by omega);clear m l k j h g;go_enter Tryz.func114,Tryz.ntmps114;go_wp2_with fail
 go_ret2
 exact⟨by first|rfl|simp[f,d,c,b],rfl⟩
theorem Er (w:World)(a t f:Int)(d:Option Addr)(b c:Nat)(k:0<=a)(j:a<=15)(h:a<=t)(g:t<=63)(u:0<=f)(s:f<=255)(l:b<=255):Calls Tryz.prog 49 #[.agg #[.i a,.i t,.i f,.slice d b c]] w fun e w'=>e=.returned (.bool true)/\Ext w w':=by
 have n:Hid (Ext w (w.alloc (.cells #[.i a,.i t,.i f,.slice d b c] 52))):=hY ((Ext.refl w).alloc _);have m:=hY (fun W=>xG W a t 0 k j h g (p8 0) (by decide));obtain⟨r,q⟩:=blk (aq w (.cells #[.i a,.i t,.i f,.slice d b c] 52) _ rfl);have v:(b:Int)<=255:=by omega
 clear k j h g l;go_enter Tryz.func49,Tryz.ntmps49;go_upto_region 1 with fail;generalize w.alloc _=x at*;go_wp2_with (go_at_call 114;refine(m.o _).mono ?_;rintro e p ⟨rfl,rfl⟩);go_ret;exact⟨by first|rfl|simp,n.o⟩
abbrev cT (a t f:Int)(j d c:Value)(e:Int)(m g h l k:Value)(b:Int):Array Value:=#[.i a,.i t,.i f,j,d,c,.i e,m,g,h,l,k,.i b]
theorem tR (w:World)(base k c o i:Nat)(a t f e j b d0:Int)(u q p m r s A:Value)(D:List Int)(l:w.heap[k]?=some (.cells (cT a t f u q p e m r s A (.slice (some ⟨c,0,none⟩) D.length o) j) 130))(d:w.ownsRow base 3 1 (.slice (some ⟨c,0,none⟩) D.length o) D.length (D.map bz))(g:D[i]?=some d0)(n:d0<0):
 Calls Tryz.prog 120 #[.pointer (some ⟨k,0,none⟩),.i (i:Int),.i b] w fun z w'=>z=.returned (.bool true)/\w'=w.setCell ⟨c,i,none⟩ (.i b):=by
 have x:i<D.length:=(aC.1 g).1
 have h:w.cell? ⟨c,i,none⟩=some (.i d0):=by
  rw[aX d i x];simp[bz,g]
 have y:=dj d i;obtain⟨C,B⟩:=blk l;have v:(i:Int)<(D.length:Int):=by omega
 clear d g l;go_enter Tryz.func120,Tryz.ntmps120;go_wp2_with fail;go_ret;exact⟨by first|rfl|simp,rfl⟩
theorem rT (w:World)(base k h o i:Nat)(a t f e j b d0:Int)(u q p m r s B:Value)(D:List Int)(l:w.heap[k]?=some (.cells (cT a t f u q p e m r s B (.slice (some ⟨h,0,none⟩) D.length o) j) 130))(c:w.ownsRow base 3 1 (.slice (some ⟨h,0,none⟩) D.length o) D.length (D.map bz))(d:D[i]?=some d0)(n:¬d0<0)(z:d0=b):
 Calls Tryz.prog 120 #[.pointer (some ⟨k,0,none⟩),.i (i:Int),.i b] w fun A w'=>A=.returned (.bool false)/\w'=w:=by
 have x:i<D.length:=(aC.1 d).1
 have g:w.cell? ⟨h,i,none⟩=some (.i d0):=by
  rw[aX c i x];simp[bz,d]
 have y:=dj c i;obtain⟨E,C⟩:=blk l;have v:(i:Int)<(D.length:Int):=by omega
 subst z;clear c d l;go_enter Tryz.func120,Tryz.ntmps120;go_wp2_with fail;go_ret;exact⟨by first|rfl|simp,rfl⟩
theorem pm (w:World)(d i b n:Nat)(a t f e c:Int)(o:Option Addr)(j h m k l u s:Value)(g:w.heap[d]?=some (.cells (cT a t f (.slice o b n) j h e m k l u s c) 130))(q:i<b):
 Calls Tryz.prog 162 #[.pointer (some ⟨d,0,none⟩),.i (i:Int),.i 0] w fun r w'=>r=.returned (.bool true)/\w'=w:=by
 obtain⟨x,v⟩:=blk g;have p:¬(b:Int)<=(i:Int):=by omega
 clear g q;go_enter Tryz.func162,Tryz.ntmps162;go_wp2_with fail;go_ret;exact⟨by first|rfl|simp,rfl⟩
theorem nT (w:World)(j i c q g b:Nat)(a t f e h d:Int)(n l m o p z y:Value)(k:w.heap[j]?=some (.cells (cT a t f (.slice (some ⟨g,b,none⟩) c q) n l e m o p z y h) 130))(v:i<c)(C:w.cell? ⟨g,b+i,none⟩=some (.i d))(r:d≠0):
 Calls Tryz.prog 162 #[.pointer (some ⟨j,0,none⟩),.i (i:Int),.i d] w fun x w'=>x=.returned (.bool true)/\w'=w:=by
 obtain⟨B,A⟩:=blk k;have u:¬(c:Int)<=(i:Int):=by omega
 have s:(i:Int)<(c:Int):=by omega
 clear k v;go_enter Tryz.func162,Tryz.ntmps162;go_wp2_with fail;go_ret;exact⟨by first|rfl|simp,rfl⟩
end Go.Proofs.Eff
