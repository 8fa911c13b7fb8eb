/- What the law TopSums computes, as plain functions. Printed by a program. Conditions: none. -/
import Derived.Test.YtepopigkpnoflaaGreatLaw2
set_option linter.unusedVariables false
set_option linter.unusedSimpArgs false
set_option maxRecDepth 100000
namespace AM
open Go Go.Proofs Tryz
noncomputable section
variable {b:Nat}
abbrev cZ.D:Type:=(po×mH)
def cZ (w:W)(d:cZ.D):Option (cZ.D⊕((nh×mH)⊕(qm×mH))):=let a1:=d.1.2;bif w.af (a1.2.2.1<32) then(cA w (((),()),d.2)).bind λr8=>(fJ w (((),a1.2.2.1,a1.1,()),r8.2.2.2.1,())).bind λr9=>(cN w (((),a1.1,()),r8.2.1,r8.2.2.1,r9.2.1,r8.2.2.2.2)).bind λm7=>(match m7 with| .inl nK=>some (.inr (.inl ((false,()),nK.2)))| .inr nZ=>bif w.af (nZ.1.1=(0:Nat)) then some (.inr (.inl ((false,()),nZ.2))) else(cA w (((),()),nZ.2)).bind λng=>(et w (((),a1.2.2.1,a1.1,()),ng.2.2.2.1,())).bind λoa=>(cN w (((),a1.1,()),ng.2.1,ng.2.2.1,oa.2.1,ng.2.2.2.2)).bind λpn=>(match pn with| .inl nR=>let a2:=nR.2.2;(iW w (((0:Nat),a1.2.2),a2.2.2.1,())).bind λqk=>bif !w.af (oa.1.1=qk.1.1) then some (.inr (.inl ((false,()),nR.2.1,a2.1,a2.2.1,qk.2.1,a2.2.2.2))) else some (.inl (((),a1.1,(w.wr .i64 (a1.2.1+r9.1.1)),(w.wr .i64 (a1.2.2.1+1)),()),nR.2.1,a2.1,a2.2.1,qk.2.1,a2.2.2.2))| .inr qz=>let a3:=qz.2.2;(iW w ((qz.1.1,a1.2.2),a3.2.2.1,())).bind λrE=>bif !w.af (oa.1.1=rE.1.1) then some (.inr (.inl ((false,()),qz.2.1,a3.1,a3.2.1,rE.2.1,a3.2.2.2))) else some (.inl (((),a1.1,(w.wr .i64 (a1.2.1+r9.1.1)),(w.wr .i64 (a1.2.2.1+1)),()),qz.2.1,a3.1,a3.2.1,rE.2.1,a3.2.2.2)))) else some (.inr (.inr (((),a1.1,a1.2.1,()),d.2)))
abbrev dB.D:Type:=(nS×mH)
def dB (w:W)(d:dB.D):Option (dB.D⊕((nh×mH)⊕((Unit)×mH))):=bif w.af (d.1.2.1<8) then(w.ag (L:=cZ.D) (cZ w) (((),d.1.2.1,0,0,()),d.2)).bind λtL=>(match tL with| .inl tE=>some (.inr (.inl tE))| .inr vq=>bif !w.af (vq.1.2.2.1=0) then some (.inr (.inl ((false,()),vq.2))) else some (.inl (((),(w.wr .i64 (vq.1.2.1+1)),()),vq.2))) else some (.inr (.inr ((),d.2)))
def fi (w:W)(d:Wl):Option sQ:=(gQ w ((d.1.1,d.1.2.1,30,()),())).bind λr1=>(match r1 with| .inl r2=>some (((false,()),()))| .inr r3=>(aW w (((),()),r3.2.2)).bind λr4=>(aW w r4).bind λr5=>let a3:=r5.2.2.2;let a1:=a3.2.2.2;(cA w (((),()),r5.2.2.1,a3.1,a3.2.1,a1.2.1,a1.2.2.1,a1.2.2.2.2.2.2)).bind λr6=>let a4:=r6.2.2.2;(aW w (((),()),r5.2.1,r6.2.1,r6.2.2.1,a4.1,a3.2.2.1,a1.1,a4.2.1,a4.2.2.1,a1.2.2.2.1,a1.2.2.2.2.1,a1.2.2.2.2.2.1,a4.2.2.2)).bind λr7=>let a2:=r7.2.2.2.2.2.2.2;(w.ag (L:=dB.D) (dB w) (((),0,()),r7.2.2.1,r7.2.2.2.1,r7.2.2.2.2.1,a2.1,a2.2.1,a2.2.2.2.2.2)).bind λzI=>(match zI with| .inl sS=>some ((sS.1,()))| .inr wx=>(dG w ((),())).bind λDg=>some (Dg)))
theorem cZ.c:LO b f5 10 ⟨⟨[(6, .ptr 0),vo,EY,AR],sg⟩,[⟨Td,sg⟩,⟨[(6, .ptr 0),vo,EY],sg⟩],[.ret,(.exit 2)],f5.ntmps⟩ cZ:=lL (bC cA.c (bC fJ.c (bC cN.c (bC et.c (bC iW.c aa))))) ae
theorem dB.c:LO b f5 6 ⟨⟨[(6, .ptr 0),vo],sg⟩,[⟨Td,sg⟩,⟨[],sg⟩],[.ret,(.exit 0)],f5.ntmps⟩ dB:=lL aa (oV cZ.c ae)
theorem fi.c:FO b 5 ⟨⟨Wk,[]⟩,[⟨rJ,[]⟩],true⟩ fi:=fY f5 (bC gQ.c (bC aW.c (bC cA.c (bC dG.c aa)))) (oV dB.c ae)
end
end AM
