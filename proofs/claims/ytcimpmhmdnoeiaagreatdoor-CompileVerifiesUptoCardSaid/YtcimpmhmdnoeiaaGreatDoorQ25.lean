import Derived.Test.YtcimpmhmdnoeiaaGreatDoorQ22
import Derived.LaidMore
import Derived.Lay
import Derived.Stop.Joined
set_option maxRecDepth 100000
set_option linter.all false
namespace Go.Proofs.Eff
open Go.ChangeAt Go.ChangeShapes Go.RowKit Go.WideShapes
abbrev rj:List (String×DataW Unit):=[("math/bits.deBruijn32tab",YtcimpmhmdnoeiaaGreatDoor.Rows.laid_math_bits_deBruijn32tab),("math/bits.deBruijn64tab",YtcimpmhmdnoeiaaGreatDoor.Rows.laid_math_bits_deBruijn64tab),("internal/strconv.uint64pow10",YtcimpmhmdnoeiaaGreatDoor.Rows.laid_internal_strconv_uint64pow10),("unicode/utf8.acceptRanges",YtcimpmhmdnoeiaaGreatDoor.Rows.laid_unicode_utf8_acceptRanges),("strconv.ErrRange",YtcimpmhmdnoeiaaGreatDoor.Rows.laid_strconv_ErrRange),("strconv.ErrSyntax",YtcimpmhmdnoeiaaGreatDoor.Rows.laid_strconv_ErrSyntax),("unicode/utf8.first",YtcimpmhmdnoeiaaGreatDoor.Rows.laid_unicode_utf8_first)]
theorem own:ownKnob Tryz.prog.godebug=none:=by kernel_rfl
theorem zi:laidOutB Tryz.prog=true:=by kernel_rfl
theorem zD (b:Os)(a:Array Value):laidMetH Tryz.prog rj ((World.laidAll Tryz.prog b rj).forCall (fun _ _=>0) ⟨#[],a,[]⟩).memory:=by
 rw[MakeChecks.laidMetH_plain _ _ _ (by kernel_rfl)];exact laidMet_laidAll _ (by kernel_rfl) (by kernel_rfl)
theorem sD {W:World}{n:String}{g:Nat}{a:Array Value}(d:Tryz.prog.globalNamed n=some g)(h:W.var? Tryz.prog n=some a)(j:Nat)(v:Value)(b:a[j]?=some v):W.cell? ⟨g,j,none⟩=some v:=by
 simp only[World.var?,d,Option.bind_some] at h
 split at h
 ·rename_i c T fz hh
  cases h;simp[World.cell?,hh,b]
 ·cases h
theorem oG {W:World}{fuel:Nat}{t:TypeId}{ms:Array (String×TypeId)}{a:List Value}{e:String}{d:DataW Unit}{p:List MemPlace}(f:Tryz.prog.underlying t=some (.interface ms))(h:DataW.trod (fun _=>()) Tryz.prog W 0 (fun _=>true) false fuel t a=some (.iface e d,p)):∃b c,a=[.iface b c]:=by
 cases fuel with
 |zero=>simp[DataW.trod] at h
 |succ n=>
  unfold DataW.trod at h;rw[f] at h
  split at h<;>simp_all
theorem Aa {W:World}(X:W.ShapedOpen Tryz.prog)(h:laidMetH Tryz.prog rj W):fJ W:=by
 rw[MakeChecks.laidMetH_plain _ _ _ (by kernel_rfl)] at h;obtain⟨ps,⟨g4,t4,ad,f4,p4,q4,J,A,q,P,⟨g5,t5,ac,f5,p5,q5,I,z,p,O,⟨g0,t0,ag,f0,p0,q0,M,D,t,S,⟨g7,t7,aa,f7,p7,q7,H,y,o,N,⟨g3,t3,ae,f3,p3,q3,K,B,r,Q,⟨g2,t2,af,f2,p2,q2,L,C,s,R,_,_⟩,_⟩,_⟩,_⟩,_⟩,_⟩,_⟩:=h;clear J A q P I z p O H y o N;have k0:Tryz.prog.globalNamed "internal/strconv.uint64pow10"=some 0:=by kernel_rfl
 have V:Tryz.prog.globalNamed "strconv.ErrSyntax"=some 2:=by kernel_rfl
 have U:Tryz.prog.globalNamed "strconv.ErrRange"=some 3:=by kernel_rfl
 obtain rfl:=ol (V.symm.trans L);obtain rfl:=ol (U.symm.trans K);obtain rfl:=ol (k0.symm.trans M);have m0:(Tryz.prog.globals[0]?).map (·.type)=some 281:=by kernel_rfl
 have m2:(Tryz.prog.globals[2]?).map (·.type)=some 180:=by kernel_rfl
 have m3:(Tryz.prog.globals[3]?).map (·.type)=some 180:=by kernel_rfl
 obtain rfl:=ol (m0.symm.trans D);obtain rfl:=ol (m2.symm.trans C);obtain rfl:=ol (m3.symm.trans B);obtain⟨c,e,e2⟩:=oG Tryz.underlying180 R;obtain⟨b,d,e3⟩:=oG Tryz.underlying180 Q;have c2:=sD V s 0 (.iface c e) (by rw[←C2,e2];rfl);have c3:=sD U r 0 (.iface b d) (by rw[←C2,e3];rfl)
 have ht:Lib.TabIs Tryz.prog W "internal/strconv.uint64pow10" .u64 Lib.pow10Tab:=by
  have l:=Lib.cells_of_tab (zs:=Lib.pow10Tab) (k:=.u64) (n:=20) Tryz.underlying281 Tryz.underlying250 (by kernel_rfl) (by kernel_rfl) S;unfold Lib.TabIs;rw[t,←l]
 have g:7<W.heap.size:=by
  have Y:(((begin Tryz.prog (fun _ _=>0) default).world.heap[7]?).bind Obj.row?).isSome=true:=by kernel_rfl
  obtain⟨x,l⟩:=Option.isSome_iff_exists.1 Y;obtain⟨j,h7,_⟩:=X.1 7 x.1 x.2 (of_decide_eq_true (by kernel_rfl)) l;exact ab h7
 have G:∃m,W.cell? ⟨1,0,none⟩=some (.i m):=by
  obtain⟨j,h1,E,F⟩:=X.1 1 #[.i 0] 3 (of_decide_eq_true (by kernel_rfl)) (by kernel_rfl);obtain⟨Z,w,_,hc⟩:=F (by kernel_rfl);obtain rfl:[3]=Z:=ol ((show Tryz.prog.cellTypes Tryz.prog.depth 3=some [3] by kernel_rfl).symm.trans w);have f:0<j.size:=by rw[E];decide
  obtain⟨u,hu,a⟩:=hc 0 j[0] (by simp[f]);obtain rfl:3=u:=by simpa using hu
  have hv:∃m,j[0]=.i m:=by
   simp only[Cell.ok,Tryz.underlying3] at a
   revert a
   generalize j[0]=v;cases v<;>intro a
   all_goals first|exact a.elim|(obtain⟨rfl,_⟩:=a;exact⟨_,rfl⟩)
  obtain⟨m,hm⟩:=hv;refine⟨m,?_⟩;rw[(blk h1).1 0,←hm];simp[f]
 exact⟨g,G,⟨c,e,c2⟩,⟨b,d,c3⟩,ht⟩
end Go.Proofs.Eff
