import Derived.Test.YtcimpmhmdnoeiaaGreatDoorQ01
import Derived.Test.YtcimpmhmdnoeiaaGreatDoorQ02
set_option maxRecDepth 100000
set_option linter.all false
namespace Go.Proofs.Eff
open Go.RowKit
def jW:List (Int×Int×Int):=[(9,10,1),(12,13,1),(32,32,1),(33,33,4),(37,38,4),(40,41,5),(42,45,4),(46,46,5),(47,47,4),(48,57,3),(58,59,5),(60,64,4),(65,90,2),(91,91,5),(92,92,4),(93,94,5),(95,95,2),(97,122,2),(123,125,5),(126,126,4)]
def vH:List Value:=jW.flatMap fun x=>[.int .u8 x.1,.int .u8 x.2.1,.i x.2.2]
def pI (b:Int):List (Int×Int×Int)->Int
 |[]=>0
 |x::r=>if x.1<=b/\b<=x.2.1 then x.2.2 else pI b r
def fu (b:Int):Int:=pI b jW
theorem zt (w:World)(k:Nat)(a:k<20):(Instr.index 247 (.agg vH.toArray) (.i (k:Int))).run Tryz.prog w=.ok (.agg #[.int .u8 (jW.getD k (0,0,0)).1,.int .u8 (jW.getD k (0,0,0)).2.1,.i (jW.getD k (0,0,0)).2.2]) w:=by
 have:k=0\/k=1\/k=2\/k=3\/k=4\/k=5\/k=6\/k=7\/k=8\/k=9\/k=10\/k=11\/k=12\/k=13\/k=14\/k=15\/k=16\/k=17\/k=18\/k=19:=by omega
 rcases this with rfl|rfl|rfl|rfl|rfl|rfl|rfl|rfl|rfl|rfl|rfl|rfl|rfl|rfl|rfl|rfl|rfl|rfl|rfl|rfl<;>(clear a;show _=_;kernel_rfl)
theorem zH (b:Int)(k:Nat)(c:k<20):pI b (jW.drop k)=if(jW.getD k (0,0,0)).1<=b/\b<=(jW.getD k (0,0,0)).2.1 then(jW.getD k (0,0,0)).2.2 else pI b (jW.drop (k+1)):=by
 have a:k<jW.length:=c;rw[hI a,pI];simp[List.getD,a]
end Go.Proofs.Eff
