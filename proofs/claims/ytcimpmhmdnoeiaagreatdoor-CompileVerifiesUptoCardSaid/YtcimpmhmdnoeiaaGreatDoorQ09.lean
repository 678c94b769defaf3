import Derived.Test.YtcimpmhmdnoeiaaGreatDoorQ05
import Derived.Test.YtcimpmhmdnoeiaaGreatDoorQ06
import Derived.Test.YtcimpmhmdnoeiaaGreatDoorQ07
set_option maxRecDepth 100000
set_option maxHeartbeats 1000000
set_option linter.all false
namespace Go.Proofs.Eff
open Go.RowKit
theorem sq (w:World)(k p pl:Int)(s:ByteArray)(q n m:Option Addr)(n1 a f l j h:Nat):
 Calls Tryz.prog 142 #[.agg #[.i k,.string s,.slice q n1 l,.slice n a j,.slice m f h,.i p,.i pl]] w fun e w'=>e=.returned (.bool (n1==0&&a==0&&p==0))/\Ext w w':=by
 have r:Hid (Ext w (w.alloc (.cells #[.i k,.string s,.slice q n1 l,.slice n a j,.slice m f h,.i p,.i pl] 26))):=(Ext.refl w).alloc _;have c:n1≠0\/(n1=0/\a≠0)\/(n1=0/\a=0/\p≠0)\/(n1=0/\a=0/\p=0):=by omega
 rcases c with b|⟨b,d⟩|⟨b,d,g⟩|⟨b,d,g⟩
 all_goals
  try subst b
  try subst d
  try subst g
  go_enter Tryz.func142,Tryz.ntmps142;go_wp2_with fail;go_ret;refine⟨?_,r.o⟩;first|rfl|simp_all
theorem ep (s:ByteArray)(W:World):(convert 9 32 (.string s)).run Tryz.prog W=.ok (.slice (some ⟨W.heap.size,0,none⟩) s.size (grownCap W s.size 0 5)) (Lib.bytesWorld W 5 s):=
 Lib.run_convert_string_bytes W 9 32 5 s Tryz.underlying9 Tryz.underlying32 Tryz.underlying5
theorem dD (s:ByteArray)(W:World):Ext W (Lib.bytesWorld W 5 s):=
 ⟨rfl,rfl,rfl,by rw[Lib.bytesWorld_size];omega,fun k a=>Lib.bytesWorld_at_old W 5 s k a⟩
theorem fH (s:ByteArray)(W:World)(j:Nat)(h:j<s.size):(Lib.bytesWorld W 5 s).cell? ⟨W.heap.size,j,none⟩=some (.int .u8 (s[j].toNat:Int)):=by
 rw[Lib.bytesWorld_cell W 5 s j h];have:=f9 s j h;unfold bl at this;simp[List.getD,this]
theorem iZ (w:World)(s:ByteArray)(I:s.size<=1048576):Calls Tryz.prog 98 #[.string s] w fun e w'=>e=.returned (.bool (aI (bl s)))/\Ext w w':=by
 cases hl:bl s with
 |nil=>
  have A:s.size=0:=by rw[bX,hl];rfl
  have v:s.toList.isEmpty=true:=by rw[ey,hl];rfl
  go_enter Tryz.func98,Tryz.ntmps98;go_wp2_with fail;go_ret;exact⟨rfl,Ext.refl _⟩
 |cons b r=>
  have A:0<s.size:=by rw[bX,hl];simp
  have v:s.toList.isEmpty=false:=by rw[ey,hl];rfl
  have t:s[0]=b:=by
   have:=f9 s 0 A;rw[hl] at this;simpa using this.symm
  have G:=hY hl;clear hl;cases hlb:ew b with
  |false=>
   have l:fu s[0].toNat≠2:=by rw[t];have:=gZ b;rw[hlb] at this;simpa using this
   clear t;go_enter Tryz.func98,Tryz.ntmps98;go_wp2_with (go_at_call 143;refine(dS _ _).m fun c u=>?_);go_ret;exact⟨by simp[aI,hlb],u.o⟩
  |true=>
   have l:fu s[0].toNat=2:=by rw[t];have:=gZ b;rw[hlb] at this;simpa using this
   clear t;go_enter Tryz.func98,Tryz.ntmps98;go_wp2_with (go_at_call 143;refine(dS _ _).m fun c u=>?_);go_upto_region 4 with(rw[ep s c]);have C:=hY (u.o.trans (dD s c));have H:=hY (fun(W:World) (a:Ext (Lib.bytesWorld c 5 s) W) (j:Nat) (h:j<s.size)=>(a.cell (p:=⟨c.heap.size,j,none⟩) (by rw[Lib.bytesWorld_size];exact sx _)).trans (fH s c j h));clear u;generalize Lib.bytesWorld c 5 s=D at*;generalize grownCap c s.size 0 5=M at*
   go_loopw [17] (fun i wr=>∃k:Nat,k<=s.size/\i=.i k/\Ext D wr/\aI (b::r)=((bl s).drop k).all (fun b=>ew b||cU b)) (fun i _=>s.size-(intOf i).toNat)
   case atStart=>exact⟨0,by omega,rfl,Ext.refl _,by rw[G.o];simp[aI,hlb]⟩
   case round=>
    obtain⟨k,E,rfl,a,B⟩:=hrel;have F:=hY B;have q:=hY a;clear B a;by_cases hlt:k<s.size
    ·have m:=my hlt
     have d:Hid (aI (b::r)=((ew s[k]||cU s[k])&&((bl s).drop (k+1)).all (fun b=>ew b||cU b))):=by
      have:=F.o;rw[m,x0] at this;exact this
     have J:=H.o wr q.o k hlt;have g:=gZ s[k];have f:=nk s[k];clear m;generalize s[k]=x at*;cases h1:ew x with
     |true=>
      rw[h1] at g d;have y:fu (x.toNat:Int)=2:=by simpa using g
      clear g f h1;go_wp2_with (go_at_call 143;refine(dS _ _).m fun z a=>?_;have n:=hY (q.o.trans a.o));go_roundw
      case rel=>exact⟨k+1,by omega,by go_num,n.o,by rw[d.o];simp⟩
      case measure=>simp[intOf];omega
     |false=>
      cases h2:cU x with
      |true=>
       rw[h1,h2] at d;rw[h2] at f;have y:fu (x.toNat:Int)=3:=by simpa using f
       clear g f h1 h2;go_wp2_with (go_at_call 143;refine(dS _ _).m fun z a=>?_;have n:=hY (q.o.trans a.o));go_roundw
       case rel=>exact⟨k+1,by omega,by go_num,n.o,by rw[d.o];simp⟩
       case measure=>simp[intOf];omega
      |false=>
       rw[h1,h2] at d;rw[h1] at g;rw[h2] at f;have L:(fu (x.toNat:Int)!=2)=true:=by simpa using g
       have K:(fu (x.toNat:Int)!=3)=true:=by simpa using f
       clear g f h1 h2;go_wp2_with (go_at_call 143;refine(dS _ _).m fun z a=>?_;have n:=hY (q.o.trans a.o));go_ret;exact⟨by rw[d.o];rfl,C.o.trans n.o⟩
    ·have m:(bl s).drop k=[]:=hH (by rw[←bX];omega)
     have d:Hid (aI (b::r)=true):=by
      have:=F.o;rw[m] at this;exact this
     clear m
     go_wp2
     go_ret;exact⟨by rw[d.o];rfl,C.o.trans q.o⟩
theorem Fr (w:World)(s:ByteArray)(b:Int)(g:s.size<=1048576):Calls Tryz.prog 235 #[.string s,.int .u8 b] w fun e w'=>e=.returned (.bool ((bl s).any fun x=>decide ((x.toNat:Int)=b)))/\w'=w:=by
 go_enter Tryz.func235,Tryz.ntmps235;go_wp2_with fail
 go_loopw [5] (fun i wr=>∃k:Nat,k<=s.size/\i=.i k/\wr=w/\((bl s).any fun x=>decide ((x.toNat:Int)=b))=(((bl s).drop k).any fun x=>decide ((x.toNat:Int)=b))) (fun i _=>s.size-(intOf i).toNat)
 case atStart=>exact⟨0,by omega,rfl,rfl,rfl⟩
 case round=>
  obtain⟨k,f,rfl,rfl,d⟩:=hrel;have F:=hY d;clear d;by_cases hlt:k<s.size
  ·have a:=my hlt
   have c:Hid (((bl s).any fun x=>decide ((x.toNat:Int)=b))=(decide ((s[k].toNat:Int)=b)||(((bl s).drop (k+1)).any fun x=>decide ((x.toNat:Int)=b)))):=by
    have:=F.o;rw[a,List.any_cons] at this;exact this
   clear a;by_cases h1:(s[k].toNat:Int)=b
   ·go_wp2_with fail
    go_ret;exact⟨by rw[c.o,decide_eq_true h1];rfl,rfl⟩
   ·have h:((s[k].toNat:Int)==b)=false:=by simpa using h1
    go_wp2_with fail;go_roundw
    case rel=>exact⟨k+1,by omega,by go_num,(by first|rfl|trivial),by rw[c.o,decide_eq_false h1];rfl⟩
    case measure=>simp[intOf];omega
  ·have a:(bl s).drop k=[]:=hH (by rw[←bX];omega)
   have c:Hid (((bl s).any fun x=>decide ((x.toNat:Int)=b))=false):=by
    have:=F.o;rw[a] at this;exact this
   clear a
   go_wp2
   go_ret;exact⟨by rw[c.o];rfl,rfl⟩
theorem DG {l:BL}{k:Nat}{x:UInt8}(b:l[k]?=some x)(c:nV x=false):cJ l=decide (l=[124]):=by
 have a:l.all nV=false:=by
  rw[Bool.eq_false_iff];intro h;rw[pf] at h;have:=h x (eQ b);rw[c] at this;cases this
 unfold cJ;rw[a,Bool.and_false,FM];rw[rW];simp
theorem Cg {l:BL}(h:l.all nV=true):cJ l=!l.isEmpty:=by
 unfold cJ;rw[h,Bool.and_true];cases l with
 |nil=>rfl
 |cons b r=>simp
theorem Cj (s:ByteArray):(s.toList==[(124:UInt8)])=decide (bl s=[124]):=by
 rw[ey,rW];simp
theorem jA (w:World)(s:ByteArray)(y:s.size<=1048576):Calls Tryz.prog 99 #[.string s] w fun e w'=>e=.returned (.bool (cJ (bl s)))/\Ext w w':=by
 go_enter Tryz.func99,Tryz.ntmps99;go_upto_region 2 with(rw[ep s w]);have q:=hY (dD s w);have v:=hY (fun(W:World) (a:Ext (Lib.bytesWorld w 5 s) W) (j:Nat) (h:j<s.size)=>(a.cell (p:=⟨w.heap.size,j,none⟩) (by rw[Lib.bytesWorld_size];exact sx _)).trans (fH s w j h));generalize Lib.bytesWorld w 5 s=t at*;generalize grownCap w s.size 0 5=A at*
 go_loopw [8] (fun i wr=>∃k:Nat,k<=s.size/\i=.i k/\Ext t wr/\((bl s).all nV=((bl s).drop k).all nV)) (fun i _=>s.size-(intOf i).toNat)
 case atStart=>exact⟨0,by omega,rfl,Ext.refl _,rfl⟩
 case round=>
  obtain⟨k,u,rfl,a,n⟩:=hrel;have F:=hY n;have f:=hY a;clear n a;by_cases hlt:k<s.size
  ·have c:=my hlt
   have g:=f9 s k hlt
   have d:Hid ((bl s).all nV=(nV s[k]&&((bl s).drop (k+1)).all nV)):=by
    have:=F.o;rw[c,x0] at this;exact this
   have z:=v.o wr f.o k hlt;have b:=BA s[k];clear c;cases h1:nV s[k] with
   |true=>
    rw[h1] at b d;clear g h1;generalize s[k]=x at*;have l:fu (x.toNat:Int)=4:=by simpa using b
    clear b;go_wp2_with (go_at_call 143;refine(dS _ _).m fun r a=>?_;have m:=hY (f.o.trans a.o));go_roundw
    case rel=>exact⟨k+1,by omega,by go_num,m.o,by rw[d.o];simp⟩
    case measure=>simp[intOf];omega
   |false=>
    have G:=hY (DG g h1);rw[h1] at b;clear g h1 d;generalize s[k]=x at*;have l:(fu (x.toNat:Int)!=4)=true:=by simpa using b
    clear b;go_wp2_with (go_at_call 143;refine(dS _ _).m fun r a=>?_;have m:=hY (f.o.trans a.o));go_ret;refine⟨?_,q.o.trans m.o⟩;rw[G.o,←Cj];rfl
  ·have c:(bl s).drop k=[]:=hH (by rw[←bX];omega)
   have d:Hid (cJ (bl s)=!(bl s).isEmpty):=by
    have:=F.o;rw[c] at this;exact hY (Cg this)
   clear c
   go_wp2
   go_ret;refine⟨?_,q.o.trans f.o⟩;rw[d.o,←ey];rfl
def vr (s:BL):Nat->List BL->Int
 |_,[]=> -1
 |k,x::r=>if x=s then k else vr s (k+1) r
def lH (s:BL)(l:List BL):Int:=match cA s l with|some i=>i|none=> -1
theorem Bm (s:BL)(k:Nat)(l:List BL):vr s k l=match cA s l with|some i=>((k+i:Nat):Int)|none=> -1:=by
 induction l generalizing k with
 |nil=>rfl
 |cons x r ih=>
  rw[vr,cA];by_cases h:x=s
  ·simp[h]
  ·rw[if_neg h,if_neg h,ih]
   cases cA s r with
   |none=>rfl
   |some i=>show((k+1+i:Nat):Int)=((k+(i+1):Nat):Int);omega
theorem xF (s:BL)(l:List BL):vr s 0 l=lH s l:=by rw[Bm,lH];cases cA s l<;>simp
theorem jD {s:BL}{l:List BL}:cA s l=none↔¬s∈l:=by
 induction l with
 |nil=>simp[cA]
 |cons x r ih=>
  rw[cA];by_cases h:x=s
  ·simp[h]
  ·rw[if_neg h]
   simp[ih,Ne.symm h]
theorem zv (s:BL)(l:List BL):decide (0<=lH s l)=l.contains s:=by
 rw[rW];simp only[decide_eq_true_eq,List.contains_iff_mem]
 have c:(lH s l= -1/\¬s∈l)\/(0<=lH s l/\s∈l):=by
  unfold lH;by_cases hm:s∈l
  ·refine .inr ⟨?_,hm⟩
   cases h:cA s l with
   |none=>exact absurd hm (jD.1 h)
   |some i=>simp
  ·exact .inl ⟨by rw[jD.2 hm],hm⟩
 rcases c with⟨b,a⟩|⟨b,a⟩
 ·simp[b,a]
 ·simp[b,a]
theorem bT.cell {w:World}{top c:Nat}{a:Option Addr}{l:List BL}(h:bT w top a c l)(d:l≠[]):∃g b,a=some ⟨g,b,none⟩/\g<top/\∀j x,l[j]?=some x->w.cell? ⟨g,b+j,none⟩=some (.string (mkS x)):=h.row d
theorem gV (w:World)(top c:Nat)(a:Option Addr)(l:List BL)(h:bT w top a c l)(s:BL):Calls Tryz.prog 155 #[.slice a l.length c,.string (mkS s)] w fun e w'=>e=.returned (.i (lH s l))/\w'=w:=by
 have p:l.length<=1048576:=h.small;have H:=hY h;have Z:=hY (xF s l);clear h;go_enter Tryz.func155,Tryz.ntmps155;go_wp2_with fail
 go_loopw [8] (fun i wr=>∃k:Nat,k<=l.length/\i=.i k/\wr=w/\lH s l=vr s k (l.drop k)) (fun i _=>l.length-(intOf i).toNat)
 case atStart=>exact⟨0,by omega,rfl,rfl,Z.o.symm⟩
 case round=>
  obtain⟨k,u,rfl,rfl,m⟩:=hrel;have F:=hY m;clear m Z;by_cases hlt:k<l.length
  ·obtain⟨x,b⟩:∃x,l[k]?=some x:=⟨l[k],by simp⟩
   obtain⟨g,n,rfl,v,j⟩:=H.o.cell (by intro e;rw[e] at b;simp at b);have q:=j k x b
   have d:Hid (lH s l=if x=s then(k:Int) else vr s (k+1) (l.drop (k+1))):=by
    have:=F.o;rw[hI hlt,vr] at this;have e:l[k]=x:=by simpa [hlt] using b
    rw[e] at this;exact this
   clear j b F;by_cases he:x=s
   ·have r:((mkS s).toList==(mkS x).toList)=true:=by rw[jx];simpa using he.symm
    clear H;go_wp2_with fail;go_ret;exact⟨by rw[d.o,if_pos he];rfl,rfl⟩
   ·have r:((mkS s).toList==(mkS x).toList)=false:=by rw[jx];simpa using Ne.symm he
    have t:=hY he;clear he;go_wp2_with fail;go_roundw
    case rel=>exact⟨k+1,by omega,by go_num,(by first|rfl|trivial),by rw[d.o,if_neg t.o]⟩
    case measure=>simp[intOf];omega
  ·have f:l.drop k=[]:=hH (by omega)
   have d:Hid (lH s l= -1):=by
    have:=F.o;rw[f] at this;exact this
   clear f
   go_wp2
   go_ret;exact⟨by rw[d.o];rfl,rfl⟩
theorem eW (w:World)(top c:Nat)(a:Option Addr)(l:List BL)(h:bT w top a c l)(s:BL):Calls Tryz.prog 109 #[.slice a l.length c,.string (mkS s)] w fun e w'=>e=.returned (.bool (l.contains s))/\w'=w:=by
 have M:=hY (zv s l);have C:=hY (gV w top c a l h s);clear h;generalize lH s l=z at*;go_enter Tryz.func109,Tryz.ntmps109;go_wp2_with (go_at_call 155;refine C.o.mono ?_;rintro e b ⟨rfl,rfl⟩);go_ret;exact⟨by rw[←M.o];rfl,rfl⟩
end Go.Proofs.Eff
