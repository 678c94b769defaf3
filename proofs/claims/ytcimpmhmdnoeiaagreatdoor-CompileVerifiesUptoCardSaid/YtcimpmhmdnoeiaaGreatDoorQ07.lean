import Derived.Test.YtcimpmhmdnoeiaaGreatDoorQ03
set_option maxRecDepth 100000
set_option maxHeartbeats 2000000
set_option linter.all false
namespace Go.Proofs.Eff
open Go.RowKit
theorem yy:Tryz.prog.underlying 247=some (.array 20 246):=by kernel_rfl
theorem dS (w:World)(b:Int):Calls Tryz.prog 143 #[.int .u8 b] w fun e w'=>e=.returned (.i (fu b))/\Ext w w':=by
 have t:Hid (Ext w (w.alloc (.cells vH.toArray 247))):=(Ext.refl w).alloc _;have u:Hid ((w.alloc (.cells vH.toArray 247)).heap[w.heap.size]?=some (.cells vH.toArray 247)):=aq w _ _ rfl;go_enter Tryz.func143,Tryz.ntmps143;go_upto_region 2 with(refine wpList_store_row rfl 247 (.tmp 3) (.tmp 26) rfl w.heap.size vH.toArray rfl rfl 247 _ (aq w _ _ rfl) (by kernel_rfl) rfl (by kernel_rfl) ?_);rw[World.setRow_alloc_new];generalize w.alloc (.cells vH.toArray 247)=x at*;go_upto_region 3 with(refine wpList_load_row rfl 247 (.tmp 3) rfl w.heap.size rfl 247 vH.toArray (0,0) _ u.o yy rfl (by kernel_rfl) ?_)
 go_loopw [28] (fun i wr=>∃k:Nat,k<=20/\i=.i k/\Ext w wr/\fu b=pI b (jW.drop k)) (fun i _=>20-(intOf i).toNat)
 case atStart=>exact⟨0,by omega,rfl,t.o,rfl⟩
 case round=>
  obtain⟨k,A,rfl,r,q⟩:=hrel;have E:=hY r;have F:=hY q;clear r q t u;by_cases hlt:k<20
  ·have a:=fun W=>zt W k hlt
   have d:=zH b k hlt;obtain⟨f,g,c,p⟩:∃f g c,jW.getD k (0,0,0)=(f,g,c):=⟨_,_,_,rfl⟩;rw[p] at a d;simp only at a d;have h:=hY d;clear p d;have v:=hY (aq wr (.cells #[.int .u8 f,.int .u8 g,.i c] 246) _ rfl);have n:=hY (E.o.alloc (.cells #[.int .u8 f,.int .u8 g,.i c] 246));go_upto_region 5 with fail;obtain⟨z,y⟩:=blk v.o;generalize wr.alloc (.cells #[.int .u8 f,.int .u8 g,.i c] 246)=B at*;have l:b<f\/(f<=b/\g<b)\/(f<=b/\b<=g):=by omega
   rcases l with m|⟨m,s⟩|⟨m,s⟩
   ·have j:=hY (show pI b (jW.drop k)=pI b (jW.drop (k+1)) by rw[h.o,if_neg (by omega)])
    clear h a
    go_wp2
    go_roundw
    case rel=>exact⟨k+1,by omega,by go_num,n.o,F.o.trans j.o⟩
    case measure=>simp[intOf];omega
   ·have j:=hY (show pI b (jW.drop k)=pI b (jW.drop (k+1)) by rw[h.o,if_neg (by omega)])
    clear h a
    go_wp2
    go_roundw
    case rel=>exact⟨k+1,by omega,by go_num,n.o,F.o.trans j.o⟩
    case measure=>simp[intOf];omega
   ·have j:=hY (show pI b (jW.drop k)=c by rw[h.o,if_pos ⟨m,s⟩])
    clear h a
    go_wp2
    go_ret;exact⟨by rw[F.o,j.o];rfl,n.o⟩
  ·obtain rfl:k=20:=by omega
   go_wp2
   go_ret;exact⟨by rw[F.o];rfl,E.o⟩
end Go.Proofs.Eff
