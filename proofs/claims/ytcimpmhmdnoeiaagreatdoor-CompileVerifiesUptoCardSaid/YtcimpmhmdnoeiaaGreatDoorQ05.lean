import Derived.Test.YtcimpmhmdnoeiaaGreatDoorQ01
set_option maxRecDepth 100000
set_option linter.all false
namespace Go.Proofs.Eff
inductive It where
 |lab (l:Nat)
 |ins (op a b to:Int)
 |jmp (op:Int) (g:Nat)
 |blk (a b:Nat) (body:List It)
inductive Lit3 where
 |mk (kind:Int) (text:BL) (list:List Lit3)
namespace Lit3
def kind:Lit3->Int|mk k _ _=>k
def text:Lit3->BL|mk _ t _=>t
def list:Lit3->List Lit3|mk _ _ l=>l
end Lit3
abbrev Rg:=List BL×Nat
structure GS where
 FU:List Lit3
 FO:Nat
 F9:Option (Int×Int)
 many:Bool
def GS.fail (s:GS)(FR e:Int):GS:=if s.F9.isSome then s else {s with F9:=some (FR,e)}
def GS.or (s:GS)(b:Bool):GS:={s with many:=s.many||b}
def cA (n:BL):List BL->Option Nat
 |[]=>none
 |x::r=>if x=n then some 0 else(cA n r).map (· +1)
def ei (k:Int)(t:BL):List Lit3->Option Nat
 |[]=>none
 |x::r=>if x.kind=k/\x.text=t then some 0 else(ei k t r).map (· +1)
def fg (k:Int):Bool:=k==1||k==3||k==4
def GS.lit (s:GS)(l:Lit3):GS×Nat:=
 match(if fg l.kind then ei l.kind l.text s.FU else none) with
 |some i=>(s,i)
 |none=>({s with FU:=s.FU++[l]},s.FU.length)
def aF (n:BL):List Rg->Option (Nat×Nat×Bool)
 |[]=>none
 |r::c=>match cA n r.1 with
  |some i=>some (0,i,decide (i<r.2))
  |none=>(aF n c).map fun x=>(x.1+1,x.2)
def ej:BL->Int
 |45::r=> -(ee r:Int)
 |l=>ee l
def dC (l:BL):Bool:=decide (-32768<=ej l)&&decide (ej l<=32767)
def bn (n:BL):Int:=
 if n=[115,101,108,102] then 1 else if n=[110,105,108] then 2 else if n=[116,114,117,101] then 3 else if n=[102,97,108,115,101] then 4
 else if n=[116,104,105,115,67,111,110,116,101,120,116] then 5 else 0
def bm:BL:=[115,117,112,101,114]
def cY (t:T):Bool:=t.kind==8&&t.name==bm
def dG (fs gs:List BL)(n:BL)(FR:Int)(set:Bool)(c:List Rg)(s:GS):GS×List It:=
 if !set/\bn n≠0 then(s,[.ins (bn n) 0 0 0])
 else if !set/\n=bm then(s.fail FR 130,[])
 else match aF n c with
  |some (out,i,arg)=>(if set&&arg then s.fail FR 133 else s,[.ins (if set then 12 else 9) out i 0])
  |none=>match cA n fs with
   |some i=>(s.or (decide (255<i)),[.ins (if set then 11 else 8) i 0 0])
   |none=>if gs.contains n then((s.lit (.mk 4 n [])).1,[.ins (if set then 13 else 10) (s.lit (.mk 4 n [])).2 0 0])
    else(s.fail FR 130,[])
mutual
def aH:T->Lit3
 |.mk k n _ _ l _ _=>
  if k=9 then .mk 1 n [] else if k=10 then .mk 2 n [] else if k=11 then .mk 3 n []
  else if k=8 then .mk (if n=[110,105,108] then 7 else if n=[116,114,117,101] then 8 else if n=[102,97,108,115,101] then 9 else 0) [] []
  else if k=13 then .mk 6 (l.map fun x=>UInt8.ofNat (ee x.name)) []
  else .mk 5 [] (cu l)
def cu:List T->List Lit3
 |[]=>[]
 |x::r=>aH x::cu r
end
def al:List T->Bool
 |[]=>false
 |[x]=>x.kind==3
 |_::r=>al r
def aY (t:T):Bool:=t.kind==2&&t.FP.isEmpty&&t.FQ.isEmpty
def de:BL:=[119,104,105,108,101]
def aO (n:BL):Option (Bool×Int×Int):=
 if n=[105,102,84,114,117,101,58] then some (false,20,2)
 else if n=[105,102,70,97,108,115,101,58] then some (false,19,2)
 else if n=[105,102,84,114,117,101,58,105,102,70,97,108,115,101,58] then some (false,20,0)
 else if n=[105,102,70,97,108,115,101,58,105,102,84,114,117,101,58] then some (false,19,0)
 else if n=[97,110,100,58] then some (false,20,4)
 else if n=[111,114,58] then some (false,19,3)
 else if n=de++[84,114,117,101,58] then some (true,20,0)
 else if n=de++[70,97,108,115,101,58] then some (true,19,0)
 else if n=de++[84,114,117,101] then some (true,20,0)
 else if n=de++[70,97,108,115,101] then some (true,19,0)
 else none
def cP (n:BL)(l:List T):Bool:=
 (if de.isPrefixOf n then l else l.drop 1).all aY&&(match l with|[]=>false|x::_=>!cY x)
def aA (FP FQ:List BL)(FR:Int)(c:List Rg)(s:GS):GS:=
 let all:=FP++FQ
 let rec go (cD:List BL):List BL->GS->GS
  |[],s=>s
  |x::r,s=>go (cD++[x]) r (if cD.contains x||(aF x c).isSome then s.fail FR 132 else s)
 (go [] all s).or (decide (15<FP.length)||decide (63<all.length)||decide (15<c.length))
mutual
def ah (fs gs:List BL):T->List Rg->GS->GS×List It
 |.mk k n ns ts l _ pl,c,s=>
  if s.F9.isSome then(s,[])
  else if k=8 then dG fs gs n pl false c s
  else if k=9/\dC n then(s,[.ins 7 0 0 (ej n)])
  else if 9<=k/\k<=13 then((s.lit (aH (.mk k n ns ts l 0 0))).1,[.ins 6 (s.lit (aH (.mk k n ns ts l 0 0))).2 0 0])
  else if k=14 then
   let x:=aW fs gs l c s
   (x.1.or (decide (255<l.length)),x.2++[.ins 25 l.length 0 0])
  else if k=2 then
   let s1:=aA ns ts pl c s
   let x:=bN fs gs l true ((ns++ts,ns.length)::c) s1
   (x.1,[.blk ns.length (ns++ts).length (x.2++(if al l then [] else [It.ins 23 0 0 0]))])
  else if k=4 then
   match l with
   |[]=>(s,[])
   |v::_=>
    let x:=ah fs gs v c s
    if x.1.F9.isSome then x else
     let y:=dG fs gs n pl true c x.1
     (y.1,x.2++y.2)
  else if k=5 then
   match l with
   |[]=>(s,[])
   |v::as=>
    match aO n with
    |some (false,skip,other)=>
     if cP n (v::as) then
      match as with
      |[]=>(s,[])
      |b::bs=>
       let x:=ah fs gs v c s
       let lx:=x.1.FO
       let ly:=x.1.FO+1
       let y:=bV fs gs b c {x.1 with FO:=x.1.FO+2}
       let z:=match bs with
        |[]=>(y.1,[It.ins other 0 0 0])
        |b2::_=>if other=0 then bV fs gs b2 c y.1 else(y.1,[It.ins other 0 0 0])
       (z.1,x.2++[.jmp skip lx]++y.2++(if al b.FN then [] else [.jmp 18 ly])++[.lab lx]++z.2++[.lab ly])
     else fe fs gs n v as c s
    |some (true,leave,_)=>
     if cP n (v::as) then
      let lx:=s.FO
      let lz:=s.FO+1
      let x:=bV fs gs v c {s with FO:=s.FO+2}
      match as with
      |[]=>(x.1,[.lab lz]++x.2++[.jmp leave lx]++[.jmp 18 lz]++[It.lab lx,It.ins 2 0 0 0])
      |b::_=>
       let y:=bV fs gs b c x.1
       (y.1,[.lab lz]++x.2++[.jmp leave lx]++y.2++(if al b.FN then [] else [.ins 14 0 0 0,.jmp 18 lz])++[It.lab lx,It.ins 2 0 0 0])
     else fe fs gs n v as c s
    |none=>fe fs gs n v as c s
  else if k=6 then
   match l with
   |[]=>(s,[])
   |v::ms=>
    let x:=bg fs gs v c s
    let y:=cV fs gs (cY v) ms c x.1
    (y.1,x.2++y.2)
  else(s,[])
 termination_by t=>(sizeOf t,0)
def bg (fs gs:List BL):T->List Rg->GS->GS×List It
 |.mk k n ns ts l p pl,c,s=>if k=8/\n=bm then(s,[.ins 1 0 0 0]) else ah fs gs (.mk k n ns ts l p pl) c s
 termination_by t=>(sizeOf t,1)
def fe (fs gs:List BL)(n:BL):T->List T->List Rg->GS->GS×List It
 |v,as,c,s=>
  let x:=bg fs gs v c s
  let y:=eE fs gs n (cY v) as as.length c x.1
  (y.1,x.2++y.2)
 termination_by v as=>(1+sizeOf v+sizeOf as,2)
def eE (fs gs:List BL)(n:BL)(a:Bool):List T->Nat->List Rg->GS->GS×List It
 |as,k,c,s=>
  let x:=aW fs gs as c s
  let s1:=x.1.or (decide (15<k))
  ((s1.lit (.mk 3 n [])).1,x.2++[.ins (if a then 17 else 16) (s1.lit (.mk 3 n [])).2 k 0])
 termination_by as=>(sizeOf as,1)
def aW (fs gs:List BL):List T->List Rg->GS->GS×List It
 |[],_,s=>(s,[])
 |v::r,c,s=>
  let x:=ah fs gs v c s
  let y:=aW fs gs r c x.1
  (y.1,x.2++y.2)
 termination_by l=>(sizeOf l,0)
def cV (fs gs:List BL)(a:Bool):List T->List Rg->GS->GS×List It
 |[],_,s=>(s,[])
 |.mk _ n _ _ l _ _::r,c,s=>
  let x:=eE fs gs n a l l.length c s
  let y:=cV fs gs a r c x.1
  (y.1,(if r.isEmpty then x.2 else [.ins 15 0 0 0]++x.2++[.ins 14 0 0 0])++y.2)
 termination_by l=>(sizeOf l,0)
def bV (fs gs:List BL):T->List Rg->GS->GS×List It
 |.mk _ _ _ _ l _ _,c,s=>bN fs gs l true c s
 termination_by t=>(sizeOf t,0)
def bN (fs gs:List BL):List T->Bool->List Rg->GS->GS×List It
 |[],first,_,s=>(s,if first then [.ins 2 0 0 0] else [])
 |x::r,first,c,s=>
  let a:=bp fs gs x c s
  let b:=bN fs gs r false c a.1
  (b.1,(if first then [] else [.ins 14 0 0 0])++a.2++b.2)
 termination_by l=>(sizeOf l,0)
def bp (fs gs:List BL):T->List Rg->GS->GS×List It
 |.mk k n ns ts l p pl,c,s=>
  if k=3 then
   match l with
   |[]=>(s,[])
   |v::_=>let x:=ah fs gs v c s;(x.1,x.2++[.ins 21 0 0 0])
  else ah fs gs (.mk k n ns ts l p pl) c s
 termination_by t=>(sizeOf t,1)
end
structure DS where
 FU:List Lit3
 err:Int
 FR:Int
 many:Bool
def DS.fault (s:DS)(e FR:Int):DS:=if s.err=0 then {s with err:=e,FR:=FR} else s
def DS.or (s:DS)(b:Bool):DS:={s with many:=s.many||b}
def DS.lit (s:DS)(l:Lit3):DS×Nat:=
 match(if fg l.kind then ei l.kind l.text s.FU else none) with
 |some i=>(s,i)
 |none=>({s with FU:=s.FU++[l],many:=s.many||decide (255<s.FU.length+1)},s.FU.length)
def b8 (n:Int):Int:=n % 256
def DS.far (s:DS)(to:Int):DS:=s.or (decide (to< -32768)||decide (32767<to))
def toB (to:Int):List Int:=[b8 (Int.tdiv (to+65536) 256),b8 (to+65536)]
def CF (fs gs:List BL)(n:BL)(FR:Int)(c:List Rg)(s:DS):DS×List Int:=
 if bn n≠0 then(s,[bn n])
 else if n=bm then(s.fault 130 FR,[])
 else match aF n c with
  |some (out,i,_)=>(s,[9,b8 out,b8 i])
  |none=>match cA n fs with
   |some i=>(s.or (decide (255<i)),[8,b8 i])
   |none=>if gs.contains n then((s.lit (.mk 4 n [])).1,[10,b8 (s.lit (.mk 4 n [])).2])
    else(s.fault 130 FR,[])
def jM (fs gs:List BL)(n:BL)(FR:Int)(c:List Rg)(s:DS):DS×List Int:=
 match aF n c with
  |some (out,i,arg)=>(if arg then s.fault 133 FR else s,[12,b8 out,b8 i])
  |none=>match cA n fs with
   |some i=>(s.or (decide (255<i)),[11,b8 i])
   |none=>if gs.contains n then((s.lit (.mk 4 n [])).1,[13,b8 (s.lit (.mk 4 n [])).2])
    else(s.fault 130 FR,[])
def eI (FP FQ:List BL)(FR:Int)(c:List Rg)(s:DS):DS:=
 let all:=FP++FQ
 let rec go (cD:List BL):List BL->DS->DS
  |[],s=>s
  |x::r,s=>go (cD++[x]) r (if cD.contains x||(aF x c).isSome then s.fault 132 FR else s)
 (go [] all s).or (decide (15<FP.length)||decide (63<all.length))
mutual
def bR (fs gs:List BL):T->List Rg->DS->DS×List Int
 |.mk k n ns ts l _ pl,c,s=>
  if k=8 then CF fs gs n pl c s
  else if k=9/\dC n then(s,7::toB (ej n))
  else if 9<=k/\k<=13 then((s.lit (aH (.mk k n ns ts l 0 0))).1,[6,b8 (s.lit (aH (.mk k n ns ts l 0 0))).2])
  else if k=14 then
   let x:=kG fs gs l c s
   (x.1.or (decide (255<l.length)),x.2++[25,b8 l.length])
  else if k=2 then
   let s1:=(eI ns ts pl c s).or (decide (16<c.length+1))
   let x:=sZ fs gs l true ((ns++ts,ns.length)::c) s1
   let body:=x.2++(if al l then [] else [23])
   (x.1.far body.length,[24,b8 ns.length,b8 (ns++ts).length,127]++toB body.length++body)
  else if k=4 then
   match l with
   |[]=>(s,[])
   |v::_=>
    let x:=bR fs gs v c s
    let y:=jM fs gs n pl c x.1
    (y.1,x.2++y.2)
  else if k=6 then
   match l with
   |[]=>(s,[])
   |v::ms=>
    let x:=tf fs gs v c s
    let y:=qY fs gs (cY v) ms c x.1
    (y.1,x.2++y.2)
  else
   match l with
   |[]=>(s,[])
   |v::as=>
    match aO n with
    |some (false,skip,other)=>
     if cP n (v::as) then
      match as with
      |[]=>(s,[])
      |b::bs=>
       let x:=bR fs gs v c s
       let y:=nN fs gs b c x.1
       let z:=match bs with
        |[]=>(y.1,[other])
        |b2::_=>nN fs gs b2 c y.1
       let s2:=if al b.FN then z.1 else z.1.far z.2.length
       let th:=y.2++(if al b.FN then [] else 18::toB z.2.length)
       (s2.far th.length,x.2++skip::toB th.length++th++z.2)
     else sV fs gs n v as c s
    |some (true,leave,_)=>
     if cP n (v::as) then
      let x:=nN fs gs v c s
      match as with
      |[]=>
       let s1:=x.1.far (-(x.2.length+6))
       (s1.far 3,x.2++leave::toB 3++18::toB (-(x.2.length+6))++[2])
      |b::_=>
       let y:=nN fs gs b c x.1
       let bd:=if al b.FN then y.2 else y.2++[14]++18::toB (-(x.2.length+3+(y.2.length+1)+3))
       let s1:=if al b.FN then y.1 else y.1.far (-(x.2.length+3+(y.2.length+1)+3))
       (s1.far bd.length,x.2++leave::toB bd.length++bd++[2])
     else sV fs gs n v as c s
    |none=>sV fs gs n v as c s
 termination_by t=>(sizeOf t,0)
def tf (fs gs:List BL):T->List Rg->DS->DS×List Int
 |.mk k n ns ts l p pl,c,s=>if k=8/\n=bm then(s,[1]) else bR fs gs (.mk k n ns ts l p pl) c s
 termination_by t=>(sizeOf t,1)
def sV (fs gs:List BL)(n:BL):T->List T->List Rg->DS->DS×List Int
 |v,as,c,s=>
  let x:=tf fs gs v c s
  let y:=A6 fs gs n (cY v) as as.length c x.1
  (y.1,x.2++y.2)
 termination_by v as=>(1+sizeOf v+sizeOf as,2)
def A6 (fs gs:List BL)(n:BL)(a:Bool):List T->Nat->List Rg->DS->DS×List Int
 |as,k,c,s=>
  let x:=kG fs gs as c s
  let s1:=x.1.or (decide (15<k))
  ((s1.lit (.mk 3 n [])).1,x.2++[if a then 17 else 16,b8 (s1.lit (.mk 3 n [])).2,b8 k])
 termination_by as=>(sizeOf as,1)
def kG (fs gs:List BL):List T->List Rg->DS->DS×List Int
 |[],_,s=>(s,[])
 |v::r,c,s=>
  let x:=bR fs gs v c s
  let y:=kG fs gs r c x.1
  (y.1,x.2++y.2)
 termination_by l=>(sizeOf l,0)
def qY (fs gs:List BL)(a:Bool):List T->List Rg->DS->DS×List Int
 |[],_,s=>(s,[])
 |.mk _ n _ _ l _ _::r,c,s=>
  let x:=A6 fs gs n a l l.length c s
  let y:=qY fs gs a r c x.1
  (y.1,(if r.isEmpty then x.2 else [15]++x.2++[14])++y.2)
 termination_by l=>(sizeOf l,0)
def nN (fs gs:List BL):T->List Rg->DS->DS×List Int
 |.mk _ _ _ _ l _ _,c,s=>sZ fs gs l true c s
 termination_by t=>(sizeOf t,0)
def sZ (fs gs:List BL):List T->Bool->List Rg->DS->DS×List Int
 |[],first,_,s=>(s,if first then [2] else [])
 |x::r,first,c,s=>
  let a:=qz fs gs x c s
  let b:=sZ fs gs r false c a.1
  (b.1,(if first then [] else [14])++a.2++b.2)
 termination_by l=>(sizeOf l,0)
def qz (fs gs:List BL):T->List Rg->DS->DS×List Int
 |.mk k n ns ts l p pl,c,s=>
  if k=3 then
   match l with
   |[]=>(s,[])
   |v::_=>let x:=bR fs gs v c s;(x.1,x.2++[21])
  else bR fs gs (.mk k n ns ts l p pl) c s
 termination_by t=>(sizeOf t,1)
end
def fP (op:Int):Bool:=op==6||op==8||op==10||op==11||op==13||op==25
def eD (op:Int):Bool:=op==9||op==12||op==16||op==17
def ja (op a b to:Int):List Int:=if fP op then [op,b8 a] else if eD op then [op,b8 a,b8 b] else if op=7 then op::toB to else [op]
mutual
def szI:It->Nat
 |.lab _=>0
 |.ins op _ _ _=>if fP op then 2 else if eD op then 3 else if op=7 then 3 else 1
 |.jmp _ _=>3
 |.blk _ _ body=>6+szL body
def szL:List It->Nat
 |[]=>0
 |i::r=>szI i+szL r
end
def dZ:It->List Nat
 |.lab l=>[l]
 |_=>[]
def az (l:List It):List Nat:=l.flatMap dZ
def dy:Int->List It->List (Nat×Int)
 |_,[]=>[]
 |p,i::r=>(dZ i).map (fun l=>(l,p))++dy (p+szI i) r
def aj (l:List It)(g:Nat):Int:=match(dy 0 l).find? (·.1==g) with
 |some x=>x.2
 |none=>0
def kF (pos:Nat->Int)(p:Int)(l:List It):Prop:=∀x∈dy p l,pos x.1=x.2
def lK (to:Int):Bool:=decide (to< -32768)||decide (32767<to)
mutual
def eH (c:List It->Int)(pos:Nat->Int)(p:Int):It->List Int
 |.lab _=>[]
 |.ins op a b to=>ja op a b to
 |.jmp op g=>op::toB (pos g-(p+3))
 |.blk a b body=>[24,b8 a,b8 b,c body]++toB (szL body)++bD c (aj body) 0 body
def bD (a:List It->Int)(pos:Nat->Int)(p:Int):List It->List Int
 |[]=>[]
 |i::r=>eH a pos p i++bD a pos (p+szI i) r
end
mutual
def mz (pos:Nat->Int)(p:Int):It->Bool
 |.lab _=>false
 |.ins _ _ _ _=>false
 |.jmp _ g=>lK (pos g-(p+3))
 |.blk _ _ body=>lK (szL body)||eM (aj body) 0 body
def eM (pos:Nat->Int)(p:Int):List It->Bool
 |[]=>false
 |i::r=>mz pos p i||eM pos (p+szI i) r
end
theorem cC (a b:List It):szL (a++b)=szL a+szL b:=by
 induction a with
 |nil=>simp[szL]
 |cons i r ih=>simp only[kq,szL,ih];omega
theorem bC (a b:List It):az (a++b)=az a++az b:=by simp[az]
theorem iH (p:Int)(a b:List It):dy p (a++b)=dy p a++dy (p+szL a) b:=by
 induction a generalizing p with
 |nil=>simp[dy,szL]
 |cons i r ih=>simp only[kq,dy,szL,ih,gz];congr 3;omega
theorem eo (c:List It->Int)(pos:Nat->Int)(p:Int)(a b:List It):bD c pos p (a++b)=bD c pos p a++bD c pos (p+szL a) b:=by
 induction a generalizing p with
 |nil=>simp[bD,szL]
 |cons i r ih=>simp only[kq,bD,szL,ih,gz];congr 3;omega
theorem eX (pos:Nat->Int)(p:Int)(a b:List It):eM pos p (a++b)=(eM pos p a||eM pos (p+szL a) b):=by
 induction a generalizing p with
 |nil=>simp[eM,szL]
 |cons i r ih=>simp only[kq,eM,szL,ih,Bool.or_assoc];congr 3;omega
theorem kF.left {pos:Nat->Int}{p:Int}{a b:List It}(h:kF pos p (a++b)):kF pos p a:=fun x c=>h x (by rw[iH];exact List.mem_append_left _ c)
theorem kF.right {pos:Nat->Int}{p:Int}{a b:List It}(h:kF pos p (a++b)):kF pos (p+szL a) b:=fun x c=>h x (by rw[iH];exact FE _ c)
theorem vf (p:Int)(l:List It):(dy p l).map (·.1)=az l:=by
 induction l generalizing p with
 |nil=>rfl
 |cons i r ih=>simp only[dy,An,ih,az,oR];congr 1;simp[Function.comp_def]
theorem vz {l:List (Nat×Int)}(h:(l.map (·.1)).Nodup){x:Nat×Int}(a:x∈l):l.find? (·.1==x.1)=some x:=by
 induction l with
 |nil=>cases a
 |cons y r ih=>
  simp only[AC,D7] at h;rcases aS.1 a with rfl|a
  ·simp
  ·rw[List.find?_cons_of_neg,ih h.2 a]
   intro e;simp only[beq_iff_eq] at e;exact h.1 (e ▸ BP.2 ⟨x,a,rfl⟩)
theorem gr {l:List It}(h:(az l).Nodup):kF (aj l) 0 l:=fun x a=>by
 unfold aj;rw[vz (by rw[vf];exact h) a]
theorem lw (to:Int):(toB to).length=2:=rfl
theorem iu (op a b to:Int):(ja op a b to).length=szI (.ins op a b to):=by
 unfold ja;simp only[szI]
 split
 ·rfl
 ·split
  ·rfl
  ·split<;>rfl
mutual
theorem uf (c:List It->Int)(pos:Nat->Int)(p:Int):(i:It)->(eH c pos p i).length=szI i
 |.lab _=>by simp[eH,szI]
 |.ins op a b to=>by simp only[eH];exact iu op a b to
 |.jmp op g=>by simp[eH,szI,toB]
 |.blk a b body=>by simp only[eH,szI,bY,bu c (aj body) 0 body,lw];simp only[gi,hG]
theorem bu (a:List It->Int)(pos:Nat->Int)(p:Int):(l:List It)->(bD a pos p l).length=szL l
 |[]=>by simp[bD,szL]
 |i::r=>by simp only[bD,szL,bY,uf a pos p i,bu a pos (p+szI i) r]
end
def vU (w:Option (Int×Int))(e pl:Int):Prop:=match w with
 |none=>e=0
 |some q=>e=q.2/\e≠0/\pl=q.1
structure nO (s:GS)(d:DS)(x:GS×List It)(y:DS×List Int):Prop where
 FU:x.1.FU=y.1.FU
 grow:s.FU.length<=x.1.FU.length
 mono:s.FO<=x.1.FO
 labs:∀l∈az x.2,s.FO<=l/\l<x.1.FO
 nodup:(az x.2).Nodup
 laid:∃m,x.1.many=(s.many||m)/\∀pos p,kF pos p x.2->bD (fun _=>127) pos p x.2=y.2/\y.1.many=(d.many||m||eM pos p x.2||decide (255<x.1.FU.length))
structure Rel (s:GS)(d:DS):Prop where
 g:s.F9=none
 z:d.err=0
 FU:s.FU=d.FU
 over:255<d.FU.length->d.many=true
structure Sim (f:GS->GS×List It)(g:DS->DS×List Int):Prop where
 seg:∀s d,Rel s d->vU (f s).1.F9 (g d).1.err (g d).1.FR/\((f s).1.F9=none->nO s d (f s) (g d))
 pg:∀s q,s.F9=some q->(f s).1.F9=some q
 pd:∀d,d.err≠0->(g d).1.err=d.err/\(g d).1.FR=d.FR
theorem nO.rel {s:GS}{d:DS}{x:GS×List It}{y:DS×List Int}(h:nO s d x y)(a:x.1.F9=none)(b:vU x.1.F9 y.1.err y.1.FR):Rel x.1 y.1:=by
 refine⟨a,(by rw[a] at b;exact b),h.FU,fun c=>?_⟩;obtain⟨m,_,e⟩:=h.laid;rw[(e (aj x.2 <| ·) 0 (gr h.nodup)).2,h.FU];simp[c]
theorem nO.app {s:GS}{d:DS}{x:GS×List It}{y:DS×List Int}{g:GS×List It}{j:DS×List Int}(h:nO s d x y)(c:nO x.1 y.1 g j):nO s d (g.1,x.2++g.2) (j.1,y.2++j.2):=by
 refine⟨c.FU,aN h.grow c.grow,aN h.mono c.mono,fun l f=>?_,?_,?_⟩
 ·rw[bC] at f
  rcases iF.1 f with f|f
  ·exact⟨(h.labs l f).1,bA (h.labs l f).2 c.mono⟩
  ·exact⟨aN h.mono (c.labs l f).1,(c.labs l f).2⟩
 ·rw[bC,nr]
  refine⟨h.nodup,c.nodup,fun a i b o e=>?_⟩;have n:=(h.labs a i).2;have k:=(c.labs b o).1;omega
 ·obtain⟨m,n,k⟩:=h.laid
  obtain⟨m',w,v⟩:=c.laid;refine⟨m||m',by simp only[w,n,Bool.or_assoc],fun pos p i=>?_⟩;obtain⟨u,t⟩:=k pos p i.left;obtain⟨r,q⟩:=v pos (p+szL x.2) i.right;refine⟨by simp only[eo,u,r],?_⟩;simp only[eX,q,t];have z:=c.grow;by_cases ho:255<x.1.FU.length
  ·have:255<g.1.FU.length:=by omega
   simp[ho,this]
  ·rw[decide_eq_false ho]
   cases d.many<;>cases m<;>cases m'<;>cases eM pos p x.2<;>cases eM pos (p+szL x.2) g.2<;>simp
theorem Sim.seq {f k:GS->GS×List It}{g l:DS->DS×List Int}(h:Sim f g)(e:Sim k l):Sim (fun s=>((k (f s).1).1,(f s).2++(k (f s).1).2)) (fun d=>((l (g d).1).1,(g d).2++(l (g d).1).2)):=by
 refine⟨fun s d n=>?_,fun s q o=>e.pg _ q (h.pg s q o),fun d m=>?_⟩
 ·obtain⟨a,c⟩:=h.seg s d n
  cases hw:(f s).1.F9 with
  |none=>
   have j:=(c hw).rel hw a;obtain⟨b,p⟩:=e.seg _ _ j;exact⟨b,fun i=>(c hw).app (p i)⟩
  |some q=>
   rw[hw] at a;have j:=e.pg _ q hw;have b:=e.pd (g d).1 (by rw[a.1];exact a.1 ▸ a.2.1);refine⟨?_,fun i=>(by simp only[j] at i;cases i)⟩;show vU (k (f s).1).1.F9 _ _
   rw[j];exact⟨b.1.trans a.1,by rw[b.1];exact a.2.1,b.2.trans a.2.2⟩
 ·have a:=h.pd d m
  have c:=e.pd (g d).1 (by rw[a.1];exact m);exact⟨c.1.trans a.1,c.2.trans a.2⟩
def ix:List It->Option (List Int)
 |[]=>some []
 |.ins op a b to::r=>(ix r).map (ja op a b to++·)
 |_::_=>none
theorem jG {l:List It}{bs:List Int}(h:ix l=some bs):az l=[]/\∀c pos p,bD c pos p l=bs/\eM pos p l=false:=by
 induction l generalizing bs with
 |nil=>simp[ix] at h;subst h;exact⟨rfl,fun c pos p=>⟨by simp[bD],by simp[eM]⟩⟩
 |cons i r ih=>
  cases i with
  |ins op a b to=>
   simp only[ix,Option.map_eq_some_iff] at h;obtain⟨x,f,rfl⟩:=h;obtain⟨e,d⟩:=ih f;refine⟨by simp only[az,oR,dZ,lE] at e ⊢;exact e,fun c pos p=>⟨?_,?_⟩⟩
   ·simp only[bD,eH,(d c pos _).1]
   ·simp only[eM,mz,(d c pos _).2,FM]
  |_=>simp[ix] at h
theorem Sim.emit {l:List It}{bs:List Int}(m:Bool)(h:ix l=some bs):Sim (fun s=>(s.or m,l)) (fun d=>(d.or m,bs)):=by
 obtain⟨c,b⟩:=jG h;refine⟨fun s d a=>⟨?_,fun _=>?_⟩,fun s q e=>e,fun d _=>⟨rfl,rfl⟩⟩
 ·show vU s.F9 d.err d.FR
  rw[a.g];exact a.z
 ·refine⟨a.FU,gE _,gE _,by simp[c],by simp[c],m,rfl,fun pos p _=>⟨(b _ pos p).1,?_⟩⟩
  show(d.many||m)=(d.many||m||eM pos p l||decide (255<s.FU.length))
  rw[(b (fun _=>0) pos p).2,a.FU];by_cases ho:255<d.FU.length
  ·simp[a.over ho,ho]
  ·simp[ho]
theorem GS.or_false (s:GS):s.or false=s:=by cases s;simp[GS.or]
theorem DS.or_false (s:DS):s.or false=s:=by cases s;simp[DS.or]
theorem Sim.put {l:List It}{bs:List Int}(h:ix l=some bs):Sim (fun s=>(s,l)) (fun d=>(d,bs)):=by
 have:=Sim.emit false h;simp only[GS.or_false,DS.or_false] at this;exact this
theorem Sim.lit (l:Lit3){mk:Nat->List It}{bs:Nat->List Int}(h:∀n,ix (mk n)=some (bs n)):Sim (fun s=>((s.lit l).1,mk (s.lit l).2)) (fun d=>((d.lit l).1,bs (d.lit l).2)):=by
 refine⟨fun s d a=>?_,fun s q f=>?_,fun d j=>?_⟩
 ·have e:s.FU=d.FU:=a.FU
  unfold GS.lit DS.lit;rw[e];cases(if fg l.kind=true then ei l.kind l.text d.FU else none) with
  |some i=>
   have:=(Sim.put (h i)).seg s d a;exact this
  |none=>
   obtain⟨c,b⟩:=jG (h d.FU.length);refine⟨?_,fun _=>?_⟩
   ·show vU s.F9 d.err d.FR
    rw[a.g];exact a.z
   ·refine⟨rfl,by simp[e],gE _,by simp[c],by simp[c],false,by simp,fun pos p _=>⟨(b _ pos p).1,?_⟩⟩
    show(d.many||decide (255<d.FU.length+1))=(d.many||false||eM pos p _||decide (255<(d.FU++[l]).length))
    rw[(b (fun _=>0) pos p).2];simp
 ·show(s.lit l).1.F9=some q
  unfold GS.lit
  split<;>exact f
 ·show(d.lit l).1.err=d.err/\(d.lit l).1.FR=d.FR
  unfold DS.lit
  split<;>exact⟨rfl,rfl⟩
theorem Sim.of_eq {f b:GS->GS×List It}{g a:DS->DS×List Int}(h:Sim f g)(e:∀s,b s=f s)(c:∀d,a d=g d):Sim b a:=by
 rw[funext e,funext c];exact h
theorem Sim.fail (FR e:Int)(h:e≠0):Sim (fun s=>(s.fail FR e,[])) (fun d=>(d.fault e FR,[])):=by
 refine⟨fun s d a=>?_,fun s q c=>?_,fun d i=>?_⟩
 ·have b:=a.g
  have j:=a.z;refine⟨?_,fun f=>?_⟩
  ·simp only[GS.fail,b,nE,iS,if_false,DS.fault,j,if_true]
   exact⟨rfl,h,rfl⟩
  ·simp[GS.fail,b] at f
 ·simp[GS.fail,c]
 ·simp[DS.fault,i]
theorem Sim.nop:Sim (fun s=>(s,[])) (fun d=>(d,[])):=Sim.put (l:=[]) rfl
theorem Sim.ite {f c:GS->GS×List It}{g a:DS->DS×List Int}(b:Bool)(h:Sim f g)(e:Sim c a):Sim (fun s=>if b then f s else c s) (fun d=>if b then g d else a d):=by
 cases b
 ·exact e.of_eq (fun _=>rfl) (fun _=>rfl)
 ·exact h.of_eq (fun _=>rfl) (fun _=>rfl)
theorem nK (n:BL):bn n=0\/(1<=bn n/\bn n<=5):=by
 unfold bn
 repeat' split
 all_goals omega
theorem tX {op:Int}(a b to:Int)(h:fP op=false)(d:eD op=false)(c:op≠7):ix [.ins op a b to]=some [op]:=by
 simp[ix,ja,h,d,c]
theorem Ab (fs gs:List BL)(n:BL)(FR:Int)(c:List Rg):Sim (dG fs gs n FR false c) (CF fs gs n FR c):=by
 unfold dG CF;by_cases h1:bn n=0
 ·by_cases h2:n=bm
  ·subst h2
   exact(Sim.fail FR 130 (by decide)).of_eq (fun s=>by simp[h1]) (fun d=>by simp[h1])
  ·cases hw:aF n c with
   |some x=>
    obtain⟨a,i,e⟩:=x;exact(Sim.put (l:=[.ins 9 a i 0]) (bs:=[9,b8 a,b8 i]) rfl).of_eq (fun s=>by simp[h1,h2]) (fun d=>by simp[h1,h2])
   |none=>
    cases hf:cA n fs with
    |some i=>exact(Sim.emit (l:=[.ins 8 i 0 0]) (bs:=[8,b8 i]) (decide (255<i)) rfl).of_eq (fun s=>by simp[h1,h2]) (fun d=>by simp[h1,h2])
    |none=>
     by_cases hg:gs.contains n=true
     ·exact(Sim.lit (.mk 4 n []) (mk:=fun k=>[.ins 10 k 0 0]) (bs:=fun k=>[10,b8 k]) (fun _=>rfl)).of_eq (fun s=>by simp only[h1,h2,hg];simp) (fun d=>by simp only[h1,h2,hg];simp)
     ·exact(Sim.fail FR 130 (by decide)).of_eq (fun s=>by simp only[h1,h2,hg];simp) (fun d=>by simp only[h1,h2,hg];simp)
 ·refine(Sim.put (l:=[.ins (bn n) 0 0 0]) (bs:=[bn n]) (tX 0 0 0 ?_ ?_ ?_)).of_eq (fun s=>by simp[h1]) (fun d=>by simp[h1])
  all_goals
   rcases nK n with h|⟨h,f⟩
   ·exact absurd h h1
   ·first
     |omega
     |(have b:bn n=1\/bn n=2\/bn n=3\/bn n=4\/bn n=5:=by omega
       rcases b with h|h|h|h|h<;>rw[h]<;>rfl)
theorem lN (fs gs:List BL)(n:BL)(FR:Int)(c:List Rg):Sim (dG fs gs n FR true c) (jM fs gs n FR c):=by
 unfold dG jM;cases hw:aF n c with
 |some x=>
  obtain⟨a,i,b⟩:=x;cases b with
  |false=>exact(Sim.put (l:=[.ins 12 a i 0]) (bs:=[12,b8 a,b8 i]) rfl).of_eq (fun s=>by simp) (fun d=>by simp)
  |true=>exact((Sim.fail FR 133 (by decide)).seq (Sim.put (l:=[.ins 12 a i 0]) (bs:=[12,b8 a,b8 i]) rfl)).of_eq (fun s=>by simp) (fun d=>by simp)
 |none=>
  cases hf:cA n fs with
  |some i=>exact(Sim.emit (l:=[.ins 11 i 0 0]) (bs:=[11,b8 i]) (decide (255<i)) rfl).of_eq (fun s=>by simp) (fun d=>by simp)
  |none=>
   by_cases hg:gs.contains n=true
   ·exact(Sim.lit (.mk 4 n []) (mk:=fun k=>[.ins 13 k 0 0]) (bs:=fun k=>[13,b8 k]) (fun _=>rfl)).of_eq (fun s=>by simp only[hg];simp) (fun d=>by simp only[hg];simp)
   ·exact(Sim.fail FR 130 (by decide)).of_eq (fun s=>by simp only[hg];simp) (fun d=>by simp only[hg];simp)
theorem Dv (FR:Int)(c:List Rg)(l cD:List BL):Sim (fun s=>(aA.go FR c cD l s,[])) (fun d=>(eI.go FR c cD l d,[])):=by
 induction l generalizing cD with
 |nil=>exact Sim.nop.of_eq (fun s=>by simp[aA.go]) (fun d=>by simp[eI.go])
 |cons x r ih=>
  have h:=Sim.ite (cD.contains x||(aF x c).isSome) (Sim.fail FR 132 (by decide)) Sim.nop;exact(h.seq (ih (cD++[x]))).of_eq (fun s=>by simp only[aA.go];split<;>rfl) (fun d=>by simp only[eI.go];split<;>rfl)
theorem nh (a b:List BL)(FR:Int)(c:List Rg):Sim (fun s=>(aA a b FR c s,[])) (fun d=>((eI a b FR c d).or (decide (16<c.length+1)),[])):=by
 have h:=(Dv FR c (a++b) []).seq (Sim.emit (l:=[]) (bs:=[]) (decide (15<a.length)||decide (63<(a++b).length)||decide (15<c.length)) rfl);refine h.of_eq (fun s=>rfl) (fun d=>?_);have e:decide (16<c.length+1)=decide (15<c.length):=by rw[decide_eq_decide];omega
 simp only[eI,DS.or,Bool.or_assoc,kn,e]
theorem Sim.blk {f:GS->GS×List It}{g:DS->DS×List Int}(h:Sim f g)(a b:Nat){tail:List It}{tb:List Int}(t:ix tail=some tb):
 Sim (fun s=>((f s).1,[.blk a b ((f s).2++tail)])) (fun d=>((g d).1.far ((g d).2++tb).length,[24,b8 a,b8 b,127]++toB ((g d).2++tb).length++((g d).2++tb))):=by
 obtain⟨j,c⟩:=jG t;refine⟨fun s d u=>?_,fun s q v=>h.pg s q v,fun d x=>h.pd d x⟩;obtain⟨A,z⟩:=h.seg s d u;refine⟨A,fun w=>?_⟩;have k:=z w;obtain⟨m,r,o⟩:=k.laid;refine⟨k.FU,k.grow,k.mono,by simp[az,dZ],by simp[az,dZ],m,r,fun pos p _=>?_⟩;have hnd:(az ((f s).2++tail)).Nodup:=by rw[bC,j,kn];exact k.nodup
 have y:=gr hnd;obtain⟨n,l⟩:=o _ 0 y.left;have i:bD (fun _=>127) (aj ((f s).2++tail)) 0 ((f s).2++tail)=(g d).2++tb:=by rw[eo,n,(c _ _ _).1]
 have e:(szL ((f s).2++tail):Int)=((g d).2++tb).length:=by rw[←i,bu]
 refine⟨?_,?_⟩
 ·simp only[bD,eH,i,e,kn]
 ·show((g d).1.many||_)=_
  simp only[eM,mz,eX,l,(c (fun _=>0) _ _).2,e,lK,FM];cases d.many<;>cases m<;>cases eM (aj ((f s).2++tail)) 0 (f s).2<;>cases decide (255<(f s).1.FU.length)<;>simp
def addL (s:GS)(k:Nat):GS:={s with FO:=s.FO+k}
theorem Rel.addL {s:GS}{d:DS}(h:Rel s d)(k:Nat):Rel (addL s k) d:=⟨h.g,h.z,h.FU,h.over⟩
theorem mq (l:Nat):az [.lab l]=[l]:=rfl
theorem Sim.choice {o u:GS->GS×List It}{e i:DS->DS×List Int}(R:Sim o e)(G:Sim u i)(skip:Int)(r:Bool):
 Sim (fun s=>((u (o (addL s 2)).1).1,[.jmp skip s.FO]++(o (addL s 2)).2++(if r then [] else [.jmp 18 (s.FO+1)])++[.lab s.FO]++(u (o (addL s 2)).1).2++[.lab (s.FO+1)]))
  (fun d=>((if r then(i (e d).1).1 else(i (e d).1).1.far (i (e d).1).2.length).far ((e d).2++(if r then [] else 18::toB (i (e d).1).2.length)).length,
    skip::toB ((e d).2++(if r then [] else 18::toB (i (e d).1).2.length)).length++((e d).2++(if r then [] else 18::toB (i (e d).1).2.length))++(i (e d).1).2)):=by
 have H:=R.seq G;refine⟨fun s d N=>?_,fun s q hq=>H.pg (addL s 2) q hq,fun d hd=>?_⟩
 ·obtain⟨g,c⟩:=H.seg (addL s 2) d (N.addL 2)
  refine⟨?_,fun P=>?_⟩
  ·cases r<;>exact g
  ·have M:(o (addL s 2)).1.F9=none:=by
    cases hx:(o (addL s 2)).1.F9 with
    |none=>rfl
    |some q=>
     have h9:=G.pg _ q hx;have S:(u (o (addL s 2)).1).1.F9=none:=P;rw[h9] at S;cases S
   obtain⟨W,V⟩:=R.seg (addL s 2) d (N.addL 2);have k:=V M;obtain⟨q3,U⟩:=G.seg _ _ (k.rel M W);have j:=U P;generalize hy:o (addL s 2)=y at*;generalize ac:e d=x at*;generalize ab:u y.1=z at*;generalize aa:i x.1=t at*;obtain⟨m,m1,Z⟩:=k.laid;obtain⟨m',Y,X⟩:=j.laid;have I:s.FO+2<=y.1.FO:=k.mono;have A:=j.mono;have Q:∀l∈az y.2,s.FO+2<=l/\l<y.1.FO:=k.labs;have J:az (if r=true then [] else [It.jmp 18 (s.FO+1)])=[]:=by cases r<;>rfl
   have f:az ([It.jmp skip s.FO]++y.2++(if r=true then [] else [.jmp 18 (s.FO+1)])++[.lab s.FO]++z.2++[.lab (s.FO+1)])=az y.2++([s.FO]++(az z.2++[s.FO+1])):=by
    simp only[bC,J,mq,gz,lE];rfl
   refine⟨(by cases r<;>exact j.FU),aN k.grow j.grow,?_,?_,?_,m||m',?_,fun pos p B=>?_⟩
   ·show s.FO<=z.1.FO;omega
   ·intro l n
    replace n:l∈az y.2++([s.FO]++(az z.2++[s.FO+1])):=f ▸ n
    show s.FO<=l/\l<z.1.FO
    simp only[iF,aS,aT,or_false] at n;rcases n with n|rfl|n|rfl
    ·have:=Q l n;omega
    ·omega
    ·have:=j.labs l n;omega
    ·omega
   ·show(az (_:List It)).Nodup
    rw[f];have c1:∀a,a∈az y.2->s.FO+2<=a/\a<y.1.FO:=Q;have L:∀a,a∈az z.2->y.1.FO<=a:=fun a h=>(j.labs a h).1;refine nr.2 ⟨k.nodup,nr.2 ⟨by simp,nr.2 ⟨j.nodup,by simp,fun a g b c=>?_⟩,fun a g b c=>?_⟩,fun a g b c=>?_⟩
    ·have:=L a g
     simp only[aS,aT,or_false] at c;omega
    ·simp only[iF,aS,aT,or_false] at g c
     rcases c with c|c
     ·have:=L b c;omega
     ·omega
    ·have:=c1 a g
     simp only[iF,aS,aT,or_false] at c;rcases c with c|c|c
     ·omega
     ·have:=L b c;omega
     ·omega
   ·show z.1.many=_
    rw[Y,m1,Bool.or_assoc];rfl
   ·have F:=B.right (s.FO+1,_) (by simp[dy,dZ];rfl)
    have E:=B.left.left.right (s.FO,_) (by simp[dy,dZ];rfl);obtain⟨w,D⟩:=Z pos _ B.left.left.left.left.right;obtain⟨v,C⟩:=X pos _ B.left.right;have ly:(szL y.2:Int)=x.2.length:=by rw[←w,bu]
    have lz:(szL z.2:Int)=t.2.length:=by rw[←v,bu]
    have hg:=j.grow
    have O:(decide (255<y.1.FU.length)||decide (255<z.1.FU.length))=decide (255<z.1.FU.length):=by
     by_cases h:255<y.1.FU.length
     ·simp[h];omega
     ·simp[h]
    cases r
    ·simp only[iS,if_false,cC,szL,szI] at F E w D v C ⊢
     have K:pos s.FO-(p+3)=((x.2++18::toB t.2.length).length:Int):=by rw[E];simp only[bY,gi,lw];omega
     have e2:pos (s.FO+1)-(p+((3+0:Nat):Int)+(szL y.2:Int)+3)=(t.2.length:Int):=by rw[F];omega
     have e3:pos (s.FO+1)-(p+((3+0+szL y.2:Nat):Int)+3)=(t.2.length:Int):=by rw[F];omega
     simp only[eo,bD,eH,eX,eM,mz,cC,szL,szI];rw[K,e3,w,v];refine⟨by simp,?_⟩;show(t.1.many||lK _||lK _)=_
     rw[C,D,←O];simp only[FM,Bool.false_or]
     ac_rfl
    ·simp only[if_true,cC,szL,szI,ks] at F E w D v C ⊢
     have K:pos s.FO-(p+3)=((x.2++[]).length:Int):=by rw[E];simp only[kn];omega
     simp only[eo,bD,eH,eX,eM,mz,cC,szL,szI,ks];rw[K,w,v];refine⟨by simp,?_⟩;show(t.1.many||lK _)=_
     rw[C,D,←O];simp only[FM,Bool.false_or]
     ac_rfl
 ·obtain⟨g,c⟩:=H.pd d hd
  cases r<;>exact⟨g,c⟩
theorem Sim.loop {u w:GS->GS×List It}{c g:DS->DS×List Int}(Q:Sim u c)(L:Sim w g)(f:Int)(r:Bool){pop:List It}{pb:List Int}(hp:ix pop=some pb):
 Sim (fun s=>((w (u (addL s 2)).1).1,[.lab (s.FO+1)]++(u (addL s 2)).2++[.jmp f s.FO]++(w (u (addL s 2)).1).2++(if r then [] else pop++[.jmp 18 (s.FO+1)])++[.lab s.FO,.ins 2 0 0 0]))
  (fun d=>((if r then(g (c d).1).1 else(g (c d).1).1.far (-((c d).2.length+3+((g (c d).1).2.length+pb.length)+3))).far (if r then(g (c d).1).2 else(g (c d).1).2++pb++18::toB (-((c d).2.length+3+((g (c d).1).2.length+pb.length)+3))).length,
    (c d).2++f::toB (if r then(g (c d).1).2 else(g (c d).1).2++pb++18::toB (-((c d).2.length+3+((g (c d).1).2.length+pb.length)+3))).length++(if r then(g (c d).1).2 else(g (c d).1).2++pb++18::toB (-((c d).2.length+3+((g (c d).1).2.length+pb.length)+3)))++[2])):=by
 have I:=Q.seq L;obtain⟨Y,H⟩:=jG hp;have O:szL pop=pb.length:=by rw[←(H (fun _=>0) (fun _=>0) 0).1,bu]
 refine⟨fun s d R=>?_,fun s q hq=>I.pg (addL s 2) q hq,fun d hd=>?_⟩
 ·obtain⟨j,e⟩:=I.seg (addL s 2) d (R.addL 2)
  refine⟨?_,fun U=>?_⟩
  ·cases r<;>exact j
  ·have P:(u (addL s 2)).1.F9=none:=by
    cases hx:(u (addL s 2)).1.F9 with
    |none=>rfl
    |some q=>
     have h9:=L.pg _ q hx;have W:(w (u (addL s 2)).1).1.F9=none:=U;rw[h9] at W;cases W
   obtain⟨q1,q2⟩:=Q.seg (addL s 2) d (R.addL 2);have k:=q2 P;obtain⟨q3,Z⟩:=L.seg _ _ (k.rel P q1);have o:=Z U;generalize hy:u (addL s 2)=y at*;generalize ac:c d=v at*;generalize ab:w y.1=z at*;generalize aa:g v.1=n at*;obtain⟨m,m1,m2⟩:=k.laid;obtain⟨m',m3,m4⟩:=o.laid;have J:s.FO+2<=y.1.FO:=k.mono;have B:=o.mono;have V:∀l∈az y.2,s.FO+2<=l/\l<y.1.FO:=k.labs
   have K:az (if r=true then [] else pop++[It.jmp 18 (s.FO+1)])=[]:=by
    cases r
    ·simp only[iS,if_false,bC,Y];rfl
    ·rfl
   have i:az ([It.lab (s.FO+1)]++y.2++[.jmp f s.FO]++z.2++(if r=true then [] else pop++[.jmp 18 (s.FO+1)])++[.lab s.FO,.ins 2 0 0 0])=[s.FO+1]++(az y.2++(az z.2++[s.FO])):=by
    simp only[bC,K,mq,gz,lE];rfl
   refine⟨(by cases r<;>exact o.FU),aN k.grow o.grow,?_,?_,?_,m||m',?_,fun pos p C=>?_⟩
   ·show s.FO<=z.1.FO;omega
   ·intro l t
    replace t:l∈[s.FO+1]++(az y.2++(az z.2++[s.FO])):=i ▸ t
    show s.FO<=l/\l<z.1.FO
    simp only[iF,aS,aT,or_false] at t;rcases t with rfl|t|t|rfl
    ·omega
    ·have:=V l t;omega
    ·have:=o.labs l t;omega
    ·omega
   ·show(az (_:List It)).Nodup
    rw[i];have X:∀a,a∈az y.2->s.FO+2<=a/\a<y.1.FO:=V;have N:∀a,a∈az z.2->y.1.FO<=a:=fun a h=>(o.labs a h).1;refine nr.2 ⟨by simp,nr.2 ⟨k.nodup,nr.2 ⟨o.nodup,by simp,fun a j b e=>?_⟩,fun a j b e=>?_⟩,fun a j b e=>?_⟩
    ·have:=N a j
     simp only[aS,aT,or_false] at e;omega
    ·have:=X a j
     simp only[iF,aS,aT,or_false] at e;rcases e with e|e
     ·have:=N b e;omega
     ·omega
    ·simp only[iF,aS,aT,or_false] at j e
     rcases e with e|e|e
     ·have:=X b e;omega
     ·have:=N b e;omega
     ·omega
   ·show z.1.many=_
    rw[m3,m1,Bool.or_assoc];rfl
   ·have G:=C.left.left.left.left.left (s.FO+1,_) (by simp[dy,dZ];rfl)
    have F:=C.right (s.FO,_) (by simp[dy,dZ];rfl);obtain⟨A,E⟩:=m2 pos _ C.left.left.left.left.right;obtain⟨x,D⟩:=m4 pos _ C.left.left.right;have ly:(szL y.2:Int)=v.2.length:=by rw[←A,bu]
    have lz:(szL z.2:Int)=n.2.length:=by rw[←x,bu]
    have hg:=o.grow
    have S:(decide (255<y.1.FU.length)||decide (255<z.1.FU.length))=decide (255<z.1.FU.length):=by
     by_cases h:255<y.1.FU.length
     ·simp[h];omega
     ·simp[h]
    cases r
    ·simp only[iS,if_false,cC,szL,szI,ks,nl,O] at G F A E x D ⊢
     have M:pos s.FO-(p+((szL y.2:Nat):Int)+3)=((n.2++pb++18::toB (-(v.2.length+3+(n.2.length+pb.length)+3))).length:Int):=by rw[F];simp only[bY,gi,lw];omega
     have e3:pos (s.FO+1)-(p+((szL y.2+3+szL z.2+pb.length:Nat):Int)+3)= -(v.2.length+3+(n.2.length+pb.length)+3:Int):=by rw[G];omega
     simp only[eo,bD,eH,eX,eM,mz,cC,szL,szI,ks,nl,O];have e4:pos (s.FO+1)-(p+((szL y.2+3+szL z.2:Nat):Int)+(pb.length:Int)+3)= -(v.2.length+3+(n.2.length+pb.length)+3:Int):=by rw[G];omega
     rw[M,e4,A,x,(H (fun _=>127) _ _).1,(H (fun _=>127) _ _).2];refine⟨by simp;rfl,?_⟩;show(n.1.many||lK _||lK _)=_
     rw[D,E,←S];simp only[FM,Bool.false_or]
     ac_rfl
    ·simp only[if_true,cC,szL,szI,ks,nl] at G F A E x D ⊢
     have M:pos s.FO-(p+((szL y.2:Nat):Int)+3)=(n.2.length:Int):=by rw[F];omega
     simp only[eo,bD,eH,eX,eM,mz,cC,szL,szI,ks,nl];rw[M,A,x];refine⟨by simp;rfl,?_⟩;show(n.1.many||lK _)=_
     rw[D,E,←S];simp only[FM,Bool.false_or]
     ac_rfl
 ·obtain⟨j,e⟩:=I.pd d hd
  cases r<;>exact⟨j,e⟩
section
variable (fs gs:List BL)
def PV (t:T):Prop:=∀c,Sim (ah fs gs t c) (bR fs gs t c)
def PS (t:T):Prop:=∀c,Sim (bp fs gs t c) (qz fs gs t c)
theorem gH {l:List T}(h:∀x∈l,PV fs gs x)(c:List Rg):Sim (aW fs gs l c) (kG fs gs l c):=by
 induction l with
 |nil=>exact Sim.nop.of_eq (fun s=>by simp[aW]) (fun d=>by simp[kG])
 |cons v r ih=>exact((h v (by simp) c).seq (ih fun x a=>h x (by simp[a]))).of_eq (fun s=>by simp[aW]) (fun d=>by simp[kG])
theorem l6 {v:T}(h:PV fs gs v)(c:List Rg):Sim (bg fs gs v c) (tf fs gs v c):=by
 obtain⟨k,n,b,a,l,p,pl⟩:=v;by_cases hk:k=8/\n=bm
 ·exact(Sim.put (l:=[.ins 1 0 0 0]) (bs:=[1]) rfl).of_eq (fun s=>by rw[bg,if_pos hk]) (fun d=>by rw[tf,if_pos hk])
 ·exact(h c).of_eq (fun s=>by rw[bg,if_neg hk]) (fun d=>by rw[tf,if_neg hk])
theorem ob (n:BL)(a:Bool){as:List T}(h:∀x∈as,PV fs gs x)(k:Nat)(c:List Rg):Sim (eE fs gs n a as k c) (A6 fs gs n a as k c):=by
 have b:=((gH fs gs h c).seq (Sim.emit (l:=[]) (bs:=[]) (decide (15<k)) rfl)).seq (Sim.lit (.mk 3 n []) (mk:=fun i=>[.ins (if a then 17 else 16) i k 0]) (bs:=fun i=>[if a then 17 else 16,b8 i,b8 k]) (fun _=>by cases a<;>rfl));exact b.of_eq (fun s=>by rw[eE];simp) (fun d=>by rw[A6];simp)
theorem yI (n:BL){v:T}{as:List T}(a:PV fs gs v)(h:∀x∈as,PV fs gs x)(c:List Rg):Sim (fe fs gs n v as c) (sV fs gs n v as c):=
 ((l6 fs gs a c).seq (ob fs gs n (cY v) h as.length c)).of_eq (fun s=>by rw[fe]) (fun d=>by rw[sV])
theorem pN (a:Bool){ms:List T}(h:∀m∈ms,∀x∈m.FN,PV fs gs x)(c:List Rg):Sim (cV fs gs a ms c) (qY fs gs a ms c):=by
 induction ms with
 |nil=>exact Sim.nop.of_eq (fun s=>by rw[cV]) (fun d=>by rw[qY])
 |cons m r ih=>
  obtain⟨k,n,g,f,l,p,pl⟩:=m;have e:=ob fs gs n a (as:=l) (h (.mk k n g f l p pl) (by simp)) l.length c;have b:=ih fun x i=>h x (by simp[i]);cases r with
  |nil=>exact(e.seq b).of_eq (fun s=>by simp[cV]) (fun d=>by simp[qY])
  |cons m2 r2=>
   have j:=((((Sim.put (l:=[.ins 15 0 0 0]) (bs:=[15]) rfl).seq e).seq (Sim.put (l:=[.ins 14 0 0 0]) (bs:=[14]) rfl))).seq b;exact j.of_eq (fun s=>by rw[cV];simp) (fun d=>by rw[qY];simp)
theorem n6 {l:List T}(h:∀x∈l,PS fs gs x)(first:Bool)(c:List Rg):Sim (bN fs gs l first c) (sZ fs gs l first c):=by
 induction l generalizing first with
 |nil=>
  cases first
  ·exact Sim.nop.of_eq (fun s=>by rw[bN];rfl) (fun d=>by rw[sZ];rfl)
  ·exact(Sim.put (l:=[.ins 2 0 0 0]) (bs:=[2]) rfl).of_eq (fun s=>by rw[bN];rfl) (fun d=>by rw[sZ];rfl)
 |cons v r ih=>
  have a:=(h v (by simp) c).seq (ih (fun x b=>h x (by simp[b])) false);cases first
  ·exact((Sim.put (l:=[.ins 14 0 0 0]) (bs:=[14]) rfl).seq a).of_eq (fun s=>by rw[bN];simp) (fun d=>by rw[sZ];simp)
  ·exact a.of_eq (fun s=>by rw[bN];simp) (fun d=>by rw[sZ];simp)
theorem eL {t:T}(h:∀x∈t.FN,PS fs gs x)(c:List Rg):Sim (bV fs gs t c) (nN fs gs t c):=by
 obtain⟨k,n,b,a,l,p,pl⟩:=t;exact(n6 fs gs h true c).of_eq (fun s=>by rw[bV];rfl) (fun d=>by rw[nN];rfl)
theorem oL {t:T}(a:t.kind=3->∀x∈t.FN,PV fs gs x)(h:t.kind≠3->PV fs gs t):PS fs gs t:=by
 obtain⟨k,n,e,b,l,p,pl⟩:=t;intro c;by_cases hk:k=3
 ·cases l with
  |nil=>exact Sim.nop.of_eq (fun s=>by rw[bp];simp[hk]) (fun d=>by rw[qz];simp[hk])
  |cons v r=>exact((a hk v (by simp[T.FN]) c).seq (Sim.put (l:=[.ins 21 0 0 0]) (bs:=[21]) rfl)).of_eq (fun s=>by rw[bp];simp[hk]) (fun d=>by rw[qz];simp[hk])
 ·exact(h hk c).of_eq (fun s=>by unfold bp;rw[if_neg hk]) (fun d=>by unfold qz;rw[if_neg hk])
theorem fE {l:List T}(h:T.exprs l=true):∀x∈l,x.expr=true:=by
 induction l with
 |nil=>simp
 |cons v r ih=>
  simp only[T.exprs,gT] at h;intro x a;rcases aS.1 a with rfl|a
  ·exact h.1
  ·exact ih h.2 x a
theorem o7 {l:List T}(h:T.msgs l=true):∀x∈l,∀y∈x.FN,y.expr=true:=by
 induction l with
 |nil=>simp
 |cons v r ih=>
  simp only[T.msgs,gT] at h;intro x a;rcases aS.1 a with rfl|a
  ·obtain⟨k,n,d,c,l,p,pl⟩:=x
   have b:=h.1;simp only[T.msg,gT] at b;exact fE b.2
  ·exact ih h.2 x a
theorem gA {l:List T}(h:T.stmts l=true):∀x∈l,x.stmt=true:=by
 induction l with
 |nil=>simp
 |cons v r ih=>
  simp only[T.stmts,gT] at h;intro x a;rcases aS.1 a with rfl|a
  ·exact h.1.1
  ·exact ih h.2 x a
theorem eb {x:T}(h:x.stmt=true):(x.kind=3->∃v,x.FN=[v]/\v.expr=true)/\(x.kind≠3->x.expr=true):=by
 obtain⟨k,n,c,b,l,p,pl⟩:=x;by_cases hk:k=3
 ·rw[T.stmt,if_pos hk] at h
  simp only[gT,beq_iff_eq] at h;refine⟨fun _=>?_,fun h=>absurd hk h⟩;obtain⟨v,rfl⟩:=p9.1 h.1.2;exact⟨v,rfl,fE h.2 v (by simp)⟩
 ·rw[T.stmt,if_neg hk] at h
  exact⟨fun a=>absurd a hk,fun _=>h⟩
theorem ef {l:List T}{x:T}(h:x∈l):sizeOf x<sizeOf l:=List.sizeOf_lt_of_mem h
theorem jv {t x:T}(h:x∈t.FN):sizeOf x<sizeOf t:=by
 obtain⟨k,n,b,a,l,p,pl⟩:=t;have:=ef (l:=l) h;simp only[T.mk.sizeOf_spec];omega
theorem mV {n:BL}{a:Bool}{j o:Int}(h:aO n=some (a,j,o)):(a=false->o=0->bo n=2)/\(a=false->o≠0->bo n=1/\ix [.ins o 0 0 0]=some [o])/\(a=true->(bo n=1\/bo n=0)/\de.isPrefixOf n=true):=by
 unfold aO at h
 repeat' split at h
 all_goals first
  |(simp only[dO,A4] at h
    obtain⟨rfl,rfl,rfl⟩:=h
    subst_vars
    decide)
  |(cases h;done)
theorem fT (s:GS):addL s 2={s with FO:=s.FO+2}:=rfl
theorem qt (N:Nat):∀t:T,sizeOf t<N->t.expr=true->PV fs gs t:=by
 induction N with
 |zero=>intro t h;omega
 |succ N ih=>
  intro t hN w c;obtain⟨k,n,e,r,l,p,pl⟩:=t;have a1:sizeOf l+1<=N:=by simp only[T.mk.sizeOf_spec] at hN;omega
  have J:T.exprs l=true->∀x∈l,PV fs gs x:=fun h x z=>ih x (by have:=ef z;omega) (fE h x z)
  have Y:∀m:List T,sizeOf m<=N->T.stmts m=true->∀x∈m,PS fs gs x:=fun m hm h x z=>by
   obtain⟨E,K⟩:=eb (gA h x z);have a0:=ef z;refine oL fs gs (fun F y hy=>?_) (fun F=>ih x (by omega) (K F));obtain⟨v,M,ag⟩:=E F;have:=jv hy;rw[M] at hy;simp only[aS,aT,or_false] at hy;subst hy;exact ih y (by omega) ag
  have a:∀{f g},Sim f g->(∀s:GS,s.F9=none->ah fs gs (.mk k n e r l p pl) c s=f s)->(∀d,bR fs gs (.mk k n e r l p pl) c d=g d)->Sim (ah fs gs (.mk k n e r l p pl) c) (bR fs gs (.mk k n e r l p pl) c):=by
   intro f g h e1 S;refine⟨fun s d U=>?_,fun s q Z=>?_,fun d hd=>?_⟩
   ·rw[e1 s U.g,S d];exact h.seg s d U
   ·rw[ah.eq_def fs gs (T.mk k n e r _ p pl) c s];dsimp only;rw[Z];simpa using Z
   ·rw[S d];exact h.pd d hd
  rw[T.expr] at w;by_cases k2:k=2
  ·rw[if_pos k2] at w
   simp only[gT] at w;have E:=n6 fs gs (Y l (by omega) w.2) true ((e++r,e.length)::c);have K:=(nh e r pl c).seq E;have V:=Sim.blk K e.length (e++r).length (tail:=if al l then [] else [It.ins 23 0 0 0]) (tb:=if al l then [] else [23]) (by cases al l<;>rfl);refine a V (fun s u=>?_) (fun d=>?_)
   ·rw[ah.eq_def fs gs (T.mk k n e r l p pl) c s];dsimp only;rw[u];simp[k2]
   ·rw[bR.eq_def fs gs (T.mk k n e r _ p pl) c d];dsimp only;simp[k2]
  ·rw[if_neg k2] at w
   have R:(e.isEmpty&&r.isEmpty&&p==0)=true:=by
    cases z:(e.isEmpty&&r.isEmpty&&p==0)
    ·rw[z] at w;simp at w
    ·rfl
   simp only[R,Bool.not_true,iS,if_false] at w;by_cases k4:k=4
   ·simp only[k4,if_true,gT,beq_iff_eq] at w
    obtain⟨v,rfl⟩:=p9.1 w.1.2;have E:=J w.2 v (by simp) c;have K:=E.seq (lN fs gs n pl c);refine⟨fun s d U=>?_,fun s q Z=>?_,fun d hd=>?_⟩
    ·have S:bR fs gs (.mk k n e r [v] p pl) c d=(((jM fs gs n pl c (bR fs gs v c d).1).1),(bR fs gs v c d).2++(jM fs gs n pl c (bR fs gs v c d).1).2):=by rw[bR.eq_def fs gs (T.mk k n e r _ p pl) c d];dsimp only;simp[k4]
     have V:=K.seg s d U;cases hw:(ah fs gs v c s).1.F9 with
     |none=>
      have e1:ah fs gs (.mk k n e r [v] p pl) c s=((dG fs gs n pl true c (ah fs gs v c s).1).1,(ah fs gs v c s).2++(dG fs gs n pl true c (ah fs gs v c s).1).2):=by rw[ah.eq_def fs gs (T.mk k n e r [v] p pl) c s];dsimp only;simp[k4,U.g,hw]
      rw[e1,S];exact V
     |some q=>
      have e1:ah fs gs (.mk k n e r [v] p pl) c s=ah fs gs v c s:=by rw[ah.eq_def fs gs (T.mk k n e r [v] p pl) c s];dsimp only;simp[k4,U.g,hw]
      rw[e1,S];have h4:=(lN fs gs n pl c).pg _ _ hw;refine⟨?_,fun hn=>by rw[hw] at hn;cases hn⟩;have h5:=V.1;simp only[h4] at h5;rw[hw];exact h5
    ·rw[ah.eq_def fs gs (T.mk k n e r _ p pl) c s];dsimp only;rw[Z];simpa using Z
    ·have S:bR fs gs (.mk k n e r [v] p pl) c d=(((jM fs gs n pl c (bR fs gs v c d).1).1),(bR fs gs v c d).2++(jM fs gs n pl c (bR fs gs v c d).1).2):=by rw[bR.eq_def fs gs (T.mk k n e r _ p pl) c d];dsimp only;simp[k4]
     rw[S];exact K.pd d hd
   ·rw[if_neg k4] at w
    by_cases k8:k=8
    ·refine a (Ab fs gs n pl c) (fun s u=>?_) (fun d=>?_)
     ·rw[ah.eq_def fs gs (T.mk k n e r l p pl) c s];dsimp only;rw[u];simp[k8]
     ·rw[bR.eq_def fs gs (T.mk k n e r _ p pl) c d];dsimp only;simp[k8]
    ·by_cases k9:k=9/\dC n
     ·refine a (Sim.put (l:=[.ins 7 0 0 (ej n)]) (bs:=7::toB (ej n)) (by simp[ix,ja,fP,eD])) (fun s u=>?_) (fun d=>?_)
      ·rw[ah.eq_def fs gs (T.mk k n e r l p pl) c s];dsimp only;rw[u];simp only[nE,iS,if_false,if_neg k8,if_pos k9]
      ·rw[bR.eq_def fs gs (T.mk k n e r _ p pl) c d];dsimp only;simp only[if_neg k8,if_pos k9]
     ·by_cases kl:9<=k/\k<=13
      ·refine a (Sim.lit (aH (.mk k n e r l 0 0)) (mk:=fun i=>[.ins 6 i 0 0]) (bs:=fun i=>[6,b8 i]) (fun _=>rfl)) (fun s u=>?_) (fun d=>?_)
       ·rw[ah.eq_def fs gs (T.mk k n e r l p pl) c s];dsimp only;rw[u];simp only[nE,iS,if_false,if_neg k8,if_neg k9,if_pos kl]
       ·rw[bR.eq_def fs gs (T.mk k n e r _ p pl) c d];dsimp only;simp only[if_neg k8,if_neg k9,if_pos kl]
      ·by_cases k14:k=14
       ·have ak:T.exprs l=true:=by
         simp[k14] at w;exact w.2
        refine a ((gH fs gs (J ak) c).seq (Sim.emit (l:=[.ins 25 l.length 0 0]) (bs:=[25,b8 l.length]) (decide (255<l.length)) rfl)) (fun s u=>?_) (fun d=>?_)
        ·rw[ah.eq_def fs gs (T.mk k n e r l p pl) c s];dsimp only;rw[u];simp only[nE,iS,if_false,if_neg k8,if_neg k9,if_neg kl,if_pos k14]
        ·rw[bR.eq_def fs gs (T.mk k n e r _ p pl) c d];dsimp only;simp only[if_neg k8,if_neg k9,if_neg kl,if_pos k14]
       ·have ad:k=5\/k=6:=by
         by_cases k5:k=5
         ·exact .inl k5
         ·by_cases k6:k=6
          ·exact .inr k6
          ·have ar:¬(k=10\/k=11):=by omega
           have h9:k≠9:=by omega
           have aq:k≠12:=by omega
           have ap:k≠13:=by omega
           simp[k5,k6,k8,h9,ar,aq,ap,k14] at w
        rcases ad with rfl|rfl
        ·simp only[if_true,gT,decide_eq_true_eq,beq_iff_eq] at w
         obtain⟨⟨a2,A⟩,P⟩:=w;cases l with
         |nil=>simp at A;omega
         |cons v as=>
          have M:PV fs gs v:=J P v (by simp);have ao:∀x∈as,PV fs gs x:=fun x z=>J P x (by simp[z]);have O:=yI fs gs n M ao c
          have L:aO n=none\/cP n (v::as)=false->Sim (ah fs gs (.mk 5 n e r (v::as) p pl) c) (bR fs gs (.mk 5 n e r (v::as) p pl) c):=by
           intro ab;refine a O (fun s u=>?_) (fun d=>?_)
           ·rw[ah.eq_def fs gs (T.mk 5 n e r (v::as) p pl) c s];dsimp only;rw[u]
            simp only[nE,iS,if_false,if_neg k8,if_neg k9,if_neg kl,if_neg k14,if_neg k2,if_neg k4,if_true];rcases ab with h|h
            ·rw[h]
            ·rcases z:aO n with _|⟨W,j,o⟩
             ·rfl
             ·cases W<;>simp[h]
           ·rw[bR.eq_def fs gs (T.mk 5 n e r (v::as) p pl) c d];dsimp only
            simp only[if_neg k8,if_neg k9,if_neg kl,if_neg k14,if_neg k2,if_neg k4];simp only[show¬((5:Int)=6) by decide,if_false];rcases ab with h|h
            ·rw[h]
            ·rcases z:aO n with _|⟨W,j,o⟩
             ·rfl
             ·cases W<;>simp[h]
          cases hinl:cP n (v::as) with
          |false=>exact L (.inr hinl)
          |true=>
           rcases F:aO n with _|⟨W,j,o⟩
           ·exact L (.inl F)
           ·obtain⟨aw,av,au⟩:=mV F
            have I:∀x∈as,aY x=true:=by
             have E:=hinl;unfold cP at E;simp only[gT,pf] at E;intro x z;refine E.1 x ?_
             split
             ·simp[z]
             ·simpa using z
            have D:∀x:T,sizeOf x<=N->aY x=true->x.expr=true->∀y∈x.FN,PS fs gs y:=by
             intro x ae z w;obtain⟨k',n',az,ax,l',p',ay⟩:=x;simp only[aY,gT,beq_iff_eq,T.kind] at z;rw[T.expr,if_pos z.1.1] at w;simp only[gT] at w;exact Y l' (by simp only[T.mk.sizeOf_spec] at ae;omega) w.2
            have C:=fE P;have B:∀x∈(v::as),sizeOf x<=N:=fun x z=>by have:=ef z;omega
            cases W with
            |false=>
             by_cases ho:o=0
             ·have hl:=aw rfl ho
              rw[hl] at A
              obtain⟨b,H,rfl⟩:∃b H,as=[b,H]:=by
               match as,A with
               |[b,H],_=>exact⟨b,H,rfl⟩
               |[],h=>simp at h
               |[_],h=>simp at h
               |_::_::_::_,h=>simp at h;omega
              have R:=eL fs gs (D b (B b (by simp)) (I b (by simp)) (C b (by simp))) c;have am:=eL fs gs (D H (B H (by simp)) (I H (by simp)) (C H (by simp))) c;refine a ((M c).seq (Sim.choice R am j (al b.FN))) (fun s u=>?_) (fun d=>?_)
              ·rw[ah.eq_def fs gs (T.mk 5 n e r (v::[b,H]) p pl) c s];dsimp only;rw[u]
               simp only[nE,iS,if_false,if_neg k8,if_neg k9,if_neg kl,if_neg k14,if_neg k2,if_neg k4,if_true,F,hinl,ho,fT,gz]
              ·rw[bR.eq_def fs gs (T.mk 5 n e r (v::[b,H]) p pl) c d];dsimp only
               simp only[if_neg k8,if_neg k9,if_neg kl,if_neg k14,if_neg k2,if_neg k4,F,hinl,if_true];simp only[show¬((5:Int)=6) by decide,if_false,gz,kq]
             ·obtain⟨hl,aj⟩:=av rfl ho
              rw[hl] at A
              obtain⟨b,rfl⟩:∃b,as=[b]:=by
               match as,A with
               |[b],_=>exact⟨b,rfl⟩
               |[],h=>simp at h
               |_::_::_,h=>simp at h;omega
              have R:=eL fs gs (D b (B b (by simp)) (I b (by simp)) (C b (by simp))) c;refine a ((M c).seq (Sim.choice R (Sim.put aj) j (al b.FN))) (fun s u=>?_) (fun d=>?_)
              ·rw[ah.eq_def fs gs (T.mk 5 n e r (v::[b]) p pl) c s];dsimp only;rw[u]
               simp only[nE,iS,if_false,if_neg k8,if_neg k9,if_neg kl,if_neg k14,if_neg k2,if_neg k4,if_true,F,hinl,fT,gz]
              ·rw[bR.eq_def fs gs (T.mk 5 n e r (v::[b]) p pl) c d];dsimp only
               simp only[if_neg k8,if_neg k9,if_neg kl,if_neg k14,if_neg k2,if_neg k4,F,hinl,if_true];simp only[show¬((5:Int)=6) by decide,if_false,gz,kq]
            |true=>
             obtain⟨hl,aa⟩:=au rfl
             have af:aY v=true:=by
              have E:=hinl;unfold cP at E;rw[aa] at E;simp only[if_true,gT,pf] at E;exact E.1 v (by simp)
             have X:=eL fs gs (D v (B v (by simp)) af (C v (by simp))) c
             have G:as.length=0\/as.length=1:=by
              simp only[gi] at A;omega
             rcases G with G|G
             ·obtain rfl:=List.length_eq_zero_iff.1 G
              refine a (Sim.loop X Sim.nop j false (pop:=[]) (pb:=[]) rfl) (fun s u=>?_) (fun d=>?_)
              ·rw[ah.eq_def fs gs (T.mk 5 n e r [v] p pl) c s];dsimp only;rw[u]
               simp only[nE,iS,if_false,if_neg k8,if_neg k9,if_neg kl,if_neg k14,if_neg k2,if_neg k4,if_true,F,hinl,fT,gz,lE,u]
              ·rw[bR.eq_def fs gs (T.mk 5 n e r [v] p pl) c d];dsimp only
               simp only[if_neg k8,if_neg k9,if_neg kl,if_neg k14,if_neg k2,if_neg k4,F,hinl,if_true];simp only[show¬((5:Int)=6) by decide,if_false,gz,kq,lE,iS,hG];have e0:(((nN fs gs v c d).2.length:Int)+3+(((0:Nat):Int)+((0:Nat):Int))+3)=(nN fs gs v c d).2.length+6:=by omega
               rw[e0];rfl
             ·obtain⟨b,rfl⟩:=p9.1 G
              have R:=eL fs gs (D b (B b (by simp)) (I b (by simp)) (C b (by simp))) c;refine a (Sim.loop X R j (al b.FN) (pop:=[.ins 14 0 0 0]) (pb:=[14]) rfl) (fun s u=>?_) (fun d=>?_)
              ·rw[ah.eq_def fs gs (T.mk 5 n e r (v::[b]) p pl) c s];dsimp only;rw[u]
               simp only[nE,iS,if_false,if_neg k8,if_neg k9,if_neg kl,if_neg k14,if_neg k2,if_neg k4,if_true,F,hinl,fT,gz,kq,lE,u]
              ·rw[bR.eq_def fs gs (T.mk 5 n e r (v::[b]) p pl) c d];dsimp only
               simp only[if_neg k8,if_neg k9,if_neg kl,if_neg k14,if_neg k2,if_neg k4,F,hinl,if_true];simp only[show¬((5:Int)=6) by decide,if_false,gz,kq,lE,gi,hG];rfl
        ·have ac:List.isEmpty n=true/\3<=l.length/\T.casc l=true:=by
          simp at w;obtain⟨⟨E,K⟩,V⟩:=w;exact⟨by rw[E];rfl,K,V⟩
         cases l with
         |nil=>simp at ac
         |cons v ms=>
          have Q:=ac.2.2;simp only[T.casc,gT] at Q;have M:PV fs gs v:=ih v (by have:=ef (l:=v::ms) (x:=v) (by simp);omega) Q.1
          have ai:∀m∈ms,∀x∈m.FN,PV fs gs x:=fun m hm x z=>ih x (by
           have E:=ef (l:=v::ms) (x:=m) (by simp[hm]);have K:=jv z
           omega) (o7 Q.2 m hm x z)
          refine a ((l6 fs gs M c).seq (pN fs gs (cY v) ai c)) (fun s u=>?_) (fun d=>?_)
          ·rw[ah.eq_def fs gs (T.mk 6 n e r (v::ms) p pl) c s];dsimp only;rw[u]
           simp only[nE,iS,if_false,if_neg k8,if_neg k9,if_neg kl,if_neg k14,if_neg k2,if_neg k4,show¬((6:Int)=5) by decide,if_true]
          ·rw[bR.eq_def fs gs (T.mk 6 n e r (v::ms) p pl) c d];dsimp only
           simp only[if_neg k8,if_neg k9,if_neg kl,if_neg k14,if_neg k2,if_neg k4,if_true]
end
end Go.Proofs.Eff
