import Derived.Test.YtcimpmhmdnoeiaaGreatDoorQ06
import Derived.Test.YtcimpmhmdnoeiaaGreatDoorQ07
import Derived.Test.YtcimpmhmdnoeiaaGreatDoorQ08
set_option maxRecDepth 100000
set_option maxHeartbeats 4000000000
set_option linter.all false
namespace Go.Proofs.Eff
open Go.RowKit
abbrev DW:=BL×Int×Int×Int×Bool
def Cr:List DW:=[([],0,0,0,false),([115,101,108,102],0,0,1,false),([110,105,108],0,0,1,false),([116,114,117,101],0,0,1,false),([102,97,108,115,101],0,0,1,false),([116,104,105,115,67,111,110,116,101,120,116],0,0,1,false),([108,105,116,101,114,97,108],1,0,1,false),([105,110,116],8,0,1,false),([102,105,101,108,100],1,0,1,false),([116,101,109,112],3,0,1,false),([103,108,111,98,97,108],1,0,1,false),([115,101,116,70,105,101,108,100],1,1,1,false),([115,101,116,84,101,109,112],3,1,1,false),([115,101,116,71,108,111,98,97,108],1,1,1,false),([112,111,112],0,1,0,false),([100,117,112],0,1,2,false),([115,101,110,100],3,1,1,false),([115,117,112,101,114],3,1,1,false),([106,117,109,112],8,0,0,true),([106,117,109,112,84,114,117,101],8,1,0,false),([106,117,109,112,70,97,108,115,101],8,1,0,false),([114,101,116,117,114,110],0,1,0,true),([114,101,116,117,114,110,83,101,108,102],0,0,0,true),([98,108,111,99,107,82,101,116,117,114,110],0,1,0,true),([98,108,111,99,107],15,0,1,false),([97,114,114,97,121],1,0,1,false)]
def opR (op:Int):DW:=if cH op=true then Cr.getD op.toNat ([],0,0,0,false) else([],0,0,0,false)
def nu (r:DW):Array Value:=#[.string (mkS r.1),.i r.2.1,.i r.2.2.1,.i r.2.2.2.1,.bool r.2.2.2.2]
def uD:Array Value:=(Cr.flatMap fun r=>(nu r).toList).toArray
theorem yC (w:World)(l:List Value)(a:l=uD.toList):(storeCells ⟨w.heap.size,0,none⟩ l 0).run Tryz.prog (w.alloc (.cells Tryz.zeroCells232 232))=.ok () (w.alloc (.cells uD 232)):=by
 subst a;exact run_storeCells_new w 232 _ uD (by kernel_rfl) (by kernel_rfl) (by kernel_rfl)
theorem fY {W:World}{b:Nat}{a:Array Value}(Q:(∀i,W.cell? ⟨b,i,none⟩=a[i]?)/\∀i,W.frozen? ⟨b,i,none⟩=false)(h g e d c:Nat)(s:ByteArray)(x y z:Int)(f:Bool)(n:a[h]?=some (.string s):=by rfl)(m:a[g]?=some (.i x):=by rfl)(l:a[e]?=some (.i y):=by rfl)(k:a[d]?=some (.i z):=by rfl)(j:a[c]?=some (.bool f):=by rfl):
 W.cell? ⟨b,h,none⟩=some (.string s)/\W.cell? ⟨b,g,none⟩=some (.i x)/\W.cell? ⟨b,e,none⟩=some (.i y)/\W.cell? ⟨b,d,none⟩=some (.i z)/\W.cell? ⟨b,c,none⟩=some (.bool f)/\W.frozen? ⟨b,h,none⟩=false/\W.frozen? ⟨b,g,none⟩=false/\W.frozen? ⟨b,e,none⟩=false/\W.frozen? ⟨b,d,none⟩=false/\W.frozen? ⟨b,c,none⟩=false:=
 ⟨(Q.1 _).trans n,(Q.1 _).trans m,(Q.1 _).trans l,(Q.1 _).trans k,(Q.1 _).trans j,Q.2 _,Q.2 _,Q.2 _,Q.2 _,Q.2 _⟩
theorem mQ (w:World)(op:Int)(z: -1000<=op)(y:op<=1000):Calls Tryz.prog 118 #[.i op] w fun e w'=>e=.returned (.tuple #[.agg (nu (opR op)),.bool (cH op)])/\Ext w w':=by
 have O:Hid (cH op=(decide (1<=op)&&decide (op<=25))):=rfl;have q:=fun l u=>yC (w.alloc (.cells #[.string ⟨#[]⟩,.i 0,.i 0,.i 0,.bool false] 196)) l u;rw[show(w.alloc (.cells #[.string ⟨#[]⟩,.i 0,.i 0,.i 0,.bool false] 196)).heap.size=w.heap.size+1 by show(w.heap.push _).size=_;exact tc ..] at q
 replace q:=hY q
 go_enter Tryz.func118,Tryz.ntmps118;go_upto_region 2 with fail;rw[q.o _ (by kernel_rfl)];generalize(Array.setIfInBounds _ 129 _:Array Value)=TT;go_upto_region 2 with fail;have n:(w.alloc (.cells #[.string ⟨#[]⟩,.i 0,.i 0,.i 0,.bool false] 196)).heap.size=w.heap.size+1:=by show(w.heap.push _).size=_;exact tc ..
 have t:=aM (aq w (.cells #[.string ⟨#[]⟩,.i 0,.i 0,.i 0,.bool false] 196) _ rfl) (.cells uD 232);have s:=aq (w.alloc (.cells #[.string ⟨#[]⟩,.i 0,.i 0,.i 0,.bool false] 196)) (.cells uD 232) _ rfl;rw[n] at s;obtain⟨B,A⟩:=blk t;have Q:=hY (blk s);have a:Hid (Ext w ((w.alloc (.cells #[.string ⟨#[]⟩,.i 0,.i 0,.i 0,.bool false] 196)).alloc (.cells uD 232))):=hY (((Ext.refl w).alloc _).alloc _);clear t s n q;generalize(w.alloc (.cells #[.string ⟨#[]⟩,.i 0,.i 0,.i 0,.bool false] 196)).alloc (.cells uD 232)=W at*;have r:op<1\/(1<=op/\26<=op)\/op=1\/op=2\/op=3\/op=4\/op=5\/op=6\/op=7\/op=8\/op=9\/op=10\/op=11\/op=12\/op=13\/op=14\/op=15\/op=16\/op=17\/op=18\/op=19\/op=20\/op=21\/op=22\/op=23\/op=24\/op=25:=by omega
 clear z y;rcases r with x|⟨C,x⟩|rfl|rfl|rfl|rfl|rfl|rfl|rfl|rfl|rfl|rfl|rfl|rfl|rfl|rfl|rfl|rfl|rfl|rfl|rfl|rfl|rfl|rfl|rfl|rfl|rfl
 ·clear Q
  have p:cH op=false:=by
   rw[O.o];simp only[Bool.and_eq_false_iff,decide_eq_false_iff_not];omega
  have RR:Hid ((.tuple #[.agg (nu (opR op)),.bool (cH op)]:Value)=.tuple #[.agg (nu ([],0,0,0,false)),.bool false]):=hY (by rw[opR,p];rfl);clear p;go_wp2_with fail;(try simp only[Exit.inBlock,Exit.then])
  refine bodyPost_ret (v:=.tuple #[.agg #[.string ⟨#[]⟩,.i 0,.i 0,.i 0,.bool false],.bool false]) ?_ rfl ⟨?_,?_⟩
  ·rw[results_cell_tmp rfl]
   go_simp
  ·rw[RR.o];rfl
  ·repeat' (first|exact a.o|refine Ext.setCell ?_ (gE _) _)
 ·clear Q
  have p:cH op=false:=by
   rw[O.o];simp only[Bool.and_eq_false_iff,decide_eq_false_iff_not];omega
  have RR:Hid ((.tuple #[.agg (nu (opR op)),.bool (cH op)]:Value)=.tuple #[.agg (nu ([],0,0,0,false)),.bool false]):=hY (by rw[opR,p];rfl);clear p;go_wp2_with fail;(try simp only[Exit.inBlock,Exit.then])
  refine bodyPost_ret (v:=.tuple #[.agg #[.string ⟨#[]⟩,.i 0,.i 0,.i 0,.bool false],.bool false]) ?_ rfl ⟨?_,?_⟩
  ·rw[results_cell_tmp rfl]
   go_simp
  ·rw[RR.o];rfl
  ·repeat' (first|exact a.o|refine Ext.setCell ?_ (gE _) _)
 ·obtain⟨m,k,j,h,g,d0,f,d,c,b⟩:=fY Q.o 5 6 7 8 9 (mkS [115,101,108,102]) 0 0 1 false
  clear Q;go_wp2_with fail;(try simp only[Exit.inBlock,Exit.then])
  refine bodyPost_ret (v:=.tuple #[.agg #[.string (mkS [115,101,108,102]),.i 0,.i 0,.i 1,.bool false],.bool true]) ?_ rfl ⟨?_,?_⟩
  ·rw[results_cell_tmp rfl]
   go_simp
  ·kernel_rfl
  ·repeat' (first|exact a.o|refine Ext.setCell ?_ (gE _) _)
 ·obtain⟨m,k,j,h,g,d0,f,d,c,b⟩:=fY Q.o 10 11 12 13 14 (mkS [110,105,108]) 0 0 1 false
  clear Q;go_wp2_with fail;(try simp only[Exit.inBlock,Exit.then])
  refine bodyPost_ret (v:=.tuple #[.agg #[.string (mkS [110,105,108]),.i 0,.i 0,.i 1,.bool false],.bool true]) ?_ rfl ⟨?_,?_⟩
  ·rw[results_cell_tmp rfl]
   go_simp
  ·kernel_rfl
  ·repeat' (first|exact a.o|refine Ext.setCell ?_ (gE _) _)
 ·obtain⟨m,k,j,h,g,d0,f,d,c,b⟩:=fY Q.o 15 16 17 18 19 (mkS [116,114,117,101]) 0 0 1 false
  clear Q;go_wp2_with fail;(try simp only[Exit.inBlock,Exit.then])
  refine bodyPost_ret (v:=.tuple #[.agg #[.string (mkS [116,114,117,101]),.i 0,.i 0,.i 1,.bool false],.bool true]) ?_ rfl ⟨?_,?_⟩
  ·rw[results_cell_tmp rfl]
   go_simp
  ·kernel_rfl
  ·repeat' (first|exact a.o|refine Ext.setCell ?_ (gE _) _)
 ·obtain⟨m,k,j,h,g,d0,f,d,c,b⟩:=fY Q.o 20 21 22 23 24 (mkS [102,97,108,115,101]) 0 0 1 false
  clear Q;go_wp2_with fail;(try simp only[Exit.inBlock,Exit.then])
  refine bodyPost_ret (v:=.tuple #[.agg #[.string (mkS [102,97,108,115,101]),.i 0,.i 0,.i 1,.bool false],.bool true]) ?_ rfl ⟨?_,?_⟩
  ·rw[results_cell_tmp rfl]
   go_simp
  ·kernel_rfl
  ·repeat' (first|exact a.o|refine Ext.setCell ?_ (gE _) _)
 ·obtain⟨m,k,j,h,g,d0,f,d,c,b⟩:=fY Q.o 25 26 27 28 29 (mkS [116,104,105,115,67,111,110,116,101,120,116]) 0 0 1 false
  clear Q;go_wp2_with fail;(try simp only[Exit.inBlock,Exit.then])
  refine bodyPost_ret (v:=.tuple #[.agg #[.string (mkS [116,104,105,115,67,111,110,116,101,120,116]),.i 0,.i 0,.i 1,.bool false],.bool true]) ?_ rfl ⟨?_,?_⟩
  ·rw[results_cell_tmp rfl]
   go_simp
  ·kernel_rfl
  ·repeat' (first|exact a.o|refine Ext.setCell ?_ (gE _) _)
 ·obtain⟨m,k,j,h,g,d0,f,d,c,b⟩:=fY Q.o 30 31 32 33 34 (mkS [108,105,116,101,114,97,108]) 1 0 1 false
  clear Q;go_wp2_with fail;(try simp only[Exit.inBlock,Exit.then])
  refine bodyPost_ret (v:=.tuple #[.agg #[.string (mkS [108,105,116,101,114,97,108]),.i 1,.i 0,.i 1,.bool false],.bool true]) ?_ rfl ⟨?_,?_⟩
  ·rw[results_cell_tmp rfl]
   go_simp
  ·kernel_rfl
  ·repeat' (first|exact a.o|refine Ext.setCell ?_ (gE _) _)
 ·obtain⟨m,k,j,h,g,d0,f,d,c,b⟩:=fY Q.o 35 36 37 38 39 (mkS [105,110,116]) 8 0 1 false
  clear Q;go_wp2_with fail;(try simp only[Exit.inBlock,Exit.then])
  refine bodyPost_ret (v:=.tuple #[.agg #[.string (mkS [105,110,116]),.i 8,.i 0,.i 1,.bool false],.bool true]) ?_ rfl ⟨?_,?_⟩
  ·rw[results_cell_tmp rfl]
   go_simp
  ·kernel_rfl
  ·repeat' (first|exact a.o|refine Ext.setCell ?_ (gE _) _)
 ·obtain⟨m,k,j,h,g,d0,f,d,c,b⟩:=fY Q.o 40 41 42 43 44 (mkS [102,105,101,108,100]) 1 0 1 false
  clear Q;go_wp2_with fail;(try simp only[Exit.inBlock,Exit.then])
  refine bodyPost_ret (v:=.tuple #[.agg #[.string (mkS [102,105,101,108,100]),.i 1,.i 0,.i 1,.bool false],.bool true]) ?_ rfl ⟨?_,?_⟩
  ·rw[results_cell_tmp rfl]
   go_simp
  ·kernel_rfl
  ·repeat' (first|exact a.o|refine Ext.setCell ?_ (gE _) _)
 ·obtain⟨m,k,j,h,g,d0,f,d,c,b⟩:=fY Q.o 45 46 47 48 49 (mkS [116,101,109,112]) 3 0 1 false
  clear Q;go_wp2_with fail;(try simp only[Exit.inBlock,Exit.then])
  refine bodyPost_ret (v:=.tuple #[.agg #[.string (mkS [116,101,109,112]),.i 3,.i 0,.i 1,.bool false],.bool true]) ?_ rfl ⟨?_,?_⟩
  ·rw[results_cell_tmp rfl]
   go_simp
  ·kernel_rfl
  ·repeat' (first|exact a.o|refine Ext.setCell ?_ (gE _) _)
 ·obtain⟨m,k,j,h,g,d0,f,d,c,b⟩:=fY Q.o 50 51 52 53 54 (mkS [103,108,111,98,97,108]) 1 0 1 false
  clear Q;go_wp2_with fail;(try simp only[Exit.inBlock,Exit.then])
  refine bodyPost_ret (v:=.tuple #[.agg #[.string (mkS [103,108,111,98,97,108]),.i 1,.i 0,.i 1,.bool false],.bool true]) ?_ rfl ⟨?_,?_⟩
  ·rw[results_cell_tmp rfl]
   go_simp
  ·kernel_rfl
  ·repeat' (first|exact a.o|refine Ext.setCell ?_ (gE _) _)
 ·obtain⟨m,k,j,h,g,d0,f,d,c,b⟩:=fY Q.o 55 56 57 58 59 (mkS [115,101,116,70,105,101,108,100]) 1 1 1 false
  clear Q;go_wp2_with fail;(try simp only[Exit.inBlock,Exit.then])
  refine bodyPost_ret (v:=.tuple #[.agg #[.string (mkS [115,101,116,70,105,101,108,100]),.i 1,.i 1,.i 1,.bool false],.bool true]) ?_ rfl ⟨?_,?_⟩
  ·rw[results_cell_tmp rfl]
   go_simp
  ·kernel_rfl
  ·repeat' (first|exact a.o|refine Ext.setCell ?_ (gE _) _)
 ·obtain⟨m,k,j,h,g,d0,f,d,c,b⟩:=fY Q.o 60 61 62 63 64 (mkS [115,101,116,84,101,109,112]) 3 1 1 false
  clear Q;go_wp2_with fail;(try simp only[Exit.inBlock,Exit.then])
  refine bodyPost_ret (v:=.tuple #[.agg #[.string (mkS [115,101,116,84,101,109,112]),.i 3,.i 1,.i 1,.bool false],.bool true]) ?_ rfl ⟨?_,?_⟩
  ·rw[results_cell_tmp rfl]
   go_simp
  ·kernel_rfl
  ·repeat' (first|exact a.o|refine Ext.setCell ?_ (gE _) _)
 ·obtain⟨m,k,j,h,g,d0,f,d,c,b⟩:=fY Q.o 65 66 67 68 69 (mkS [115,101,116,71,108,111,98,97,108]) 1 1 1 false
  clear Q;go_wp2_with fail;(try simp only[Exit.inBlock,Exit.then])
  refine bodyPost_ret (v:=.tuple #[.agg #[.string (mkS [115,101,116,71,108,111,98,97,108]),.i 1,.i 1,.i 1,.bool false],.bool true]) ?_ rfl ⟨?_,?_⟩
  ·rw[results_cell_tmp rfl]
   go_simp
  ·kernel_rfl
  ·repeat' (first|exact a.o|refine Ext.setCell ?_ (gE _) _)
 ·obtain⟨m,k,j,h,g,d0,f,d,c,b⟩:=fY Q.o 70 71 72 73 74 (mkS [112,111,112]) 0 1 0 false
  clear Q;go_wp2_with fail;(try simp only[Exit.inBlock,Exit.then])
  refine bodyPost_ret (v:=.tuple #[.agg #[.string (mkS [112,111,112]),.i 0,.i 1,.i 0,.bool false],.bool true]) ?_ rfl ⟨?_,?_⟩
  ·rw[results_cell_tmp rfl]
   go_simp
  ·kernel_rfl
  ·repeat' (first|exact a.o|refine Ext.setCell ?_ (gE _) _)
 ·obtain⟨m,k,j,h,g,d0,f,d,c,b⟩:=fY Q.o 75 76 77 78 79 (mkS [100,117,112]) 0 1 2 false
  clear Q;go_wp2_with fail;(try simp only[Exit.inBlock,Exit.then])
  refine bodyPost_ret (v:=.tuple #[.agg #[.string (mkS [100,117,112]),.i 0,.i 1,.i 2,.bool false],.bool true]) ?_ rfl ⟨?_,?_⟩
  ·rw[results_cell_tmp rfl]
   go_simp
  ·kernel_rfl
  ·repeat' (first|exact a.o|refine Ext.setCell ?_ (gE _) _)
 ·obtain⟨m,k,j,h,g,d0,f,d,c,b⟩:=fY Q.o 80 81 82 83 84 (mkS [115,101,110,100]) 3 1 1 false
  clear Q;go_wp2_with fail;(try simp only[Exit.inBlock,Exit.then])
  refine bodyPost_ret (v:=.tuple #[.agg #[.string (mkS [115,101,110,100]),.i 3,.i 1,.i 1,.bool false],.bool true]) ?_ rfl ⟨?_,?_⟩
  ·rw[results_cell_tmp rfl]
   go_simp
  ·kernel_rfl
  ·repeat' (first|exact a.o|refine Ext.setCell ?_ (gE _) _)
 ·obtain⟨m,k,j,h,g,d0,f,d,c,b⟩:=fY Q.o 85 86 87 88 89 (mkS [115,117,112,101,114]) 3 1 1 false
  clear Q;go_wp2_with fail;(try simp only[Exit.inBlock,Exit.then])
  refine bodyPost_ret (v:=.tuple #[.agg #[.string (mkS [115,117,112,101,114]),.i 3,.i 1,.i 1,.bool false],.bool true]) ?_ rfl ⟨?_,?_⟩
  ·rw[results_cell_tmp rfl]
   go_simp
  ·kernel_rfl
  ·repeat' (first|exact a.o|refine Ext.setCell ?_ (gE _) _)
 ·obtain⟨m,k,j,h,g,d0,f,d,c,b⟩:=fY Q.o 90 91 92 93 94 (mkS [106,117,109,112]) 8 0 0 true
  clear Q;go_wp2_with fail;(try simp only[Exit.inBlock,Exit.then])
  refine bodyPost_ret (v:=.tuple #[.agg #[.string (mkS [106,117,109,112]),.i 8,.i 0,.i 0,.bool true],.bool true]) ?_ rfl ⟨?_,?_⟩
  ·rw[results_cell_tmp rfl]
   go_simp
  ·kernel_rfl
  ·repeat' (first|exact a.o|refine Ext.setCell ?_ (gE _) _)
 ·obtain⟨m,k,j,h,g,d0,f,d,c,b⟩:=fY Q.o 95 96 97 98 99 (mkS [106,117,109,112,84,114,117,101]) 8 1 0 false
  clear Q;go_wp2_with fail;(try simp only[Exit.inBlock,Exit.then])
  refine bodyPost_ret (v:=.tuple #[.agg #[.string (mkS [106,117,109,112,84,114,117,101]),.i 8,.i 1,.i 0,.bool false],.bool true]) ?_ rfl ⟨?_,?_⟩
  ·rw[results_cell_tmp rfl]
   go_simp
  ·kernel_rfl
  ·repeat' (first|exact a.o|refine Ext.setCell ?_ (gE _) _)
 ·obtain⟨m,k,j,h,g,d0,f,d,c,b⟩:=fY Q.o 100 101 102 103 104 (mkS [106,117,109,112,70,97,108,115,101]) 8 1 0 false
  clear Q;go_wp2_with fail;(try simp only[Exit.inBlock,Exit.then])
  refine bodyPost_ret (v:=.tuple #[.agg #[.string (mkS [106,117,109,112,70,97,108,115,101]),.i 8,.i 1,.i 0,.bool false],.bool true]) ?_ rfl ⟨?_,?_⟩
  ·rw[results_cell_tmp rfl]
   go_simp
  ·kernel_rfl
  ·repeat' (first|exact a.o|refine Ext.setCell ?_ (gE _) _)
 ·obtain⟨m,k,j,h,g,d0,f,d,c,b⟩:=fY Q.o 105 106 107 108 109 (mkS [114,101,116,117,114,110]) 0 1 0 true
  clear Q;go_wp2_with fail;(try simp only[Exit.inBlock,Exit.then])
  refine bodyPost_ret (v:=.tuple #[.agg #[.string (mkS [114,101,116,117,114,110]),.i 0,.i 1,.i 0,.bool true],.bool true]) ?_ rfl ⟨?_,?_⟩
  ·rw[results_cell_tmp rfl]
   go_simp
  ·kernel_rfl
  ·repeat' (first|exact a.o|refine Ext.setCell ?_ (gE _) _)
 ·obtain⟨m,k,j,h,g,d0,f,d,c,b⟩:=fY Q.o 110 111 112 113 114 (mkS [114,101,116,117,114,110,83,101,108,102]) 0 0 0 true
  clear Q;go_wp2_with fail;(try simp only[Exit.inBlock,Exit.then])
  refine bodyPost_ret (v:=.tuple #[.agg #[.string (mkS [114,101,116,117,114,110,83,101,108,102]),.i 0,.i 0,.i 0,.bool true],.bool true]) ?_ rfl ⟨?_,?_⟩
  ·rw[results_cell_tmp rfl]
   go_simp
  ·kernel_rfl
  ·repeat' (first|exact a.o|refine Ext.setCell ?_ (gE _) _)
 ·obtain⟨m,k,j,h,g,d0,f,d,c,b⟩:=fY Q.o 115 116 117 118 119 (mkS [98,108,111,99,107,82,101,116,117,114,110]) 0 1 0 true
  clear Q;go_wp2_with fail;(try simp only[Exit.inBlock,Exit.then])
  refine bodyPost_ret (v:=.tuple #[.agg #[.string (mkS [98,108,111,99,107,82,101,116,117,114,110]),.i 0,.i 1,.i 0,.bool true],.bool true]) ?_ rfl ⟨?_,?_⟩
  ·rw[results_cell_tmp rfl]
   go_simp
  ·kernel_rfl
  ·repeat' (first|exact a.o|refine Ext.setCell ?_ (gE _) _)
 ·obtain⟨m,k,j,h,g,d0,f,d,c,b⟩:=fY Q.o 120 121 122 123 124 (mkS [98,108,111,99,107]) 15 0 1 false
  clear Q;go_wp2_with fail;(try simp only[Exit.inBlock,Exit.then])
  refine bodyPost_ret (v:=.tuple #[.agg #[.string (mkS [98,108,111,99,107]),.i 15,.i 0,.i 1,.bool false],.bool true]) ?_ rfl ⟨?_,?_⟩
  ·rw[results_cell_tmp rfl]
   go_simp
  ·kernel_rfl
  ·repeat' (first|exact a.o|refine Ext.setCell ?_ (gE _) _)
 ·obtain⟨m,k,j,h,g,d0,f,d,c,b⟩:=fY Q.o 125 126 127 128 129 (mkS [97,114,114,97,121]) 1 0 1 false
  clear Q;go_wp2_with fail;(try simp only[Exit.inBlock,Exit.then])
  refine bodyPost_ret (v:=.tuple #[.agg #[.string (mkS [97,114,114,97,121]),.i 1,.i 0,.i 1,.bool false],.bool true]) ?_ rfl ⟨?_,?_⟩
  ·rw[results_cell_tmp rfl]
   go_simp
  ·kernel_rfl
  ·repeat' (first|exact a.o|refine Ext.setCell ?_ (gE _) _)
end Go.Proofs.Eff
