import Derived.Test.YtcimpmhmdnoeiaaGreatDoorQ47
set_option maxRecDepth 100000
set_option linter.all false
namespace Go.Proofs.Eff
theorem En (s:TX):aP mH s=s.put [115,101,108,102]:=by
 unfold mH;rw[aP.eq_def];rfl
theorem AI (s:TX):aP gJ s=s.put [51]:=by
 unfold gJ;rw[aP.eq_def];rfl
theorem Dh (s:TX):aP nD s=((((s.put [115,101,108,102]).put [32]).put [98,97,114,58]).put [32]).put [51]:=by
 unfold nD;rw[aP.eq_def];dsimp only;rw[if_neg (by decide),if_pos rfl,mg.eq_def];dsimp only;rw[if_neg (by decide),if_neg (by decide),show bS [98,97,114,58]=[[98,97,114,58]] by decide,kwP.eq_def];dsimp only;rw[kwP.eq_def];dsimp only;have c:cq (aP mH) (dQ mH) (min (cI [98,97,114,58]+1) 2) s=aP mH s:=if_pos (by decide);have b:∀a,cq (aP gJ) (dQ gJ) 2 a=aP gJ a:=fun a=>if_pos (by decide);rw[b,AI,c,En];rfl
theorem AJ:(dM eB).2=0:=by
 have a:fx eB.name eB.FP eB.FQ eB.FN eB.FY=⟨[102,111,111,10,9,94,32,115,101,108,102,32,98,97,114,58,32,51,10],0,0⟩:=by
  show dV [uE] _=_
  rw[dV,if_pos rfl,dV];unfold uE;rw[ce.eq_def];dsimp only;rw[if_pos rfl,Dh];rfl
 unfold dM;rw[if_neg (by rw[uY];decide),a];rfl
theorem vG:dR [] [] eB=⟨[102,111,111],0,0,2,0,[.mk 3 [98,97,114,58] []],[1,7,0,3,16,0,1,21],0,0⟩:=by
 unfold dR;rw[if_neg (by rw[AJ];decide)];unfold l7;rw[yq];dsimp only
 rw[if_neg (by simp),if_neg (by
  rw[o9];simp[okL,okI,kV,szL,szI]
  decide),o9,xT]
 rfl
end Go.Proofs.Eff
