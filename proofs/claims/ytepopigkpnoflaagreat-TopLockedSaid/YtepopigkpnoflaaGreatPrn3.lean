/- What each function of the program that this law reaches computes, as a plain function, and that it does, continued. Printed by a program. Conditions: none. -/
import Derived.Test.YtepopigkpnoflaaGreatPrn2
set_option linter.unusedVariables false
set_option linter.unusedSimpArgs false
set_option maxRecDepth 100000
namespace AM
open Go Go.Proofs Tryz
noncomputable section
theorem zcz.con (base:Nat):fO prog base 126 zcz.S (zcz W0):=fC (fn:=f126) rfl (by decide) (by kernel_rfl) mixed (cC (cc0 za4.sok (za4.con base) cn) (cC (cc0 zcv.sok (zcv.con base) cn) (cC (cc0 zeh.sok (zeh.con base) cn) (cC (cc0 ze5.sok (ze5.con base) cn) (cC (cc0 zcc.sok (zcc.con base) cn) (cC (cc0 zel.sok (zel.con base) cn) (cC (cc0 zd0.sok (zd0.con base) cn) (cC (cc0 zeo.sok (zeo.con base) cn) (cC (cc0 za7.sok (za7.con base) cn) (cC (cc0 zcw.sok (zcw.con base) cn) (cC (cc0 zeg.sok (zeg.con base) cn) (cC (cc0 zef.sok (zef.con base) cn) cN)))))))))))) lN zcz.ok
abbrev zbu.S:FSpec:=⟨⟨k23,k112⟩,[⟨k12,k112⟩],true⟩
abbrev zbu.D:Type:=(k225×k264)
abbrev zbu.R:Type:=(k229×k264)
def zbu (w:W)(d:zbu.D):Option zbu.R:=(bif (!w.odec (d.2.1.1=3)) then some (((false,()),d.2)) else some (((true,()),(d.2.1.1,d.2.1.2.1,d.2.1.2.2.1,d.2.1.2.2.2.1,d.1.2),())))
theorem zbu.bod:bodyB f167=true:=by kernel_rfl
abbrev zbu.env {α:Type}:Env α:=mE [] []
theorem zbu.ok (d:zbu.D):fB prog zbu.S zbu.env f167 d=(zbu W0) d:=by kernel_rfl
theorem zbu.sok:FSpec.ok zbu.S=true:=by kernel_rfl
theorem zbu.con (base:Nat):fO prog base 167 zbu.S (zbu W0):=fC (fn:=f167) rfl (by decide) (by kernel_rfl) mixed cN lN zbu.ok
abbrev zbh.S:FSpec:=⟨⟨k57,k112⟩,[⟨k12,k112⟩],true⟩
abbrev zbh.D:Type:=(k226×k264)
abbrev zbh.R:Type:=(k229×k264)
def zbh (w:W)(d:zbh.D):Option zbh.R:=(((zbu w) (((),d.1.2.2),d.2)).bind fun r1=>(bif (!r1.1.1) then some (((false,()),r1.2)) else(bif (!w.odec (d.1.2.1=r1.2.1.2.2.2.1)) then some (((false,()),r1.2)) else(bif (w.odec (r1.2.1.2.2.2.1=1073741824)) then some (((false,()),r1.2)) else some (((true,()),(r1.2.1.1,r1.2.1.2.1,r1.2.1.2.2.1,(w.wr .i64 (r1.2.1.2.2.2.1+1)),r1.2.1.2.2.2.2),()))))))
theorem zbh.bod:bodyB f168=true:=by kernel_rfl
abbrev zbh.env {α:Type}:Env α:=mE [(167,[⟨zbu.S,(zbu W0),none⟩])] []
theorem zbh.ok (d:zbh.D):fB prog zbh.S zbh.env f168 d=(zbh W0) d:=by kernel_rfl
theorem zbh.sok:FSpec.ok zbh.S=true:=by kernel_rfl
theorem zbh.con (base:Nat):fO prog base 168 zbh.S (zbh W0):=fC (fn:=f168) rfl (by decide) (by kernel_rfl) mixed (cC (cc0 zbu.sok (zbu.con base) cn) cN) lN zbh.ok
abbrev zcd.S:FSpec:=⟨⟨k85,k20⟩,[⟨[],k20⟩],false⟩
abbrev zcd.D:Type:=(k270×k210)
abbrev zcd.R:Type:=k275
def zcd (w:W)(d:zcd.D):Option zcd.R:=(bif w.odec (0≤d.1.2.1∧d.1.2.1<(16:Nat)) then((d.2.1.2.1[d.1.2.1.toNat]?).bind fun x1=>(bif (w.odec (d.1.2.2.1.1=7)) then(((zeo w) (((),()),d.2.2.1,d.2.2.2.1,d.2.2.2.2.1,d.2.2.2.2.2.2.2.1,d.2.2.2.2.2.2.2.2.1,d.2.2.2.2.2.2.2.2.2.2.2.2)).bind fun r2=>(onS x1.1 fun n3=>((d.2.2.2.2.2.2.2.2.2.1[n3]?).bind fun e4=>(((zbu w) (((),r2.1),e4)).bind fun r5=>some (((),d.2.1,r2.2.1,r2.2.2.1,r2.2.2.2.1,d.2.2.2.2.2.1,d.2.2.2.2.2.2.1,r2.2.2.2.2.1,r2.2.2.2.2.2.1,(d.2.2.2.2.2.2.2.2.2.1.set n3 r5.2),d.2.2.2.2.2.2.2.2.2.2.1,d.2.2.2.2.2.2.2.2.2.2.2.1,r2.2.2.2.2.2.2)))))) else(bif (w.odec (d.1.2.2.1.1=8)) then(((zef w) (((),d.1.2.1,(9,0,0,0,0,0,0,0,0,0,(List.replicate 32 (0:Int)),()),()),d.2)).bind fun r6=>(((zeh w) (((),d.1.2.1,()),r6.2)).bind fun r7=>some (r7))) else(((zeo w) (((),()),d.2.2.1,d.2.2.2.1,d.2.2.2.2.1,d.2.2.2.2.2.2.2.1,d.2.2.2.2.2.2.2.2.1,d.2.2.2.2.2.2.2.2.2.2.2.2)).bind fun r8=>(onS x1.1 fun n9=>((d.2.2.2.2.2.2.2.2.2.1[n9]?).bind fun e10=>(((zbh w) (((),d.1.2.2.1.2.1,r8.1),e10)).bind fun r11=>(bif (!r11.1.1) then(((zcc w) (((),d.1.2.1,d.1.2.2.1.2.1,14,()),d.2.1,r8.2.1,r8.2.2.1,r8.2.2.2.1,d.2.2.2.2.2.1,d.2.2.2.2.2.2.1,r8.2.2.2.2.1,r8.2.2.2.2.2.1,(d.2.2.2.2.2.2.2.2.2.1.set n9 r11.2),d.2.2.2.2.2.2.2.2.2.2.1,d.2.2.2.2.2.2.2.2.2.2.2.1,r8.2.2.2.2.2.2)).bind fun r12=>some (r12)) else(onS x1.1 fun n13=>(((d.2.2.2.2.2.2.2.2.2.1.set n9 r11.2)[n13]?).bind fun e14=>(((za4 w) (((),()),e14)).bind fun r15=>(((zcw w) (((),(2,0,r15.1.1,d.1.2.2),()),d.2.1,r8.2.1,r8.2.2.1,r8.2.2.2.1,d.2.2.2.2.2.1,d.2.2.2.2.2.2.1,r8.2.2.2.2.1,r8.2.2.2.2.2.1,((d.2.2.2.2.2.2.2.2.2.1.set n9 r11.2).set n13 r15.2),d.2.2.2.2.2.2.2.2.2.2.1,d.2.2.2.2.2.2.2.2.2.2.2.1,r8.2.2.2.2.2.2)).bind fun r16=>(bif (!w.odec (r16.1.1=0)) then(((zcc w) (((),d.1.2.1,d.1.2.2.1.2.1,r16.1),r16.2)).bind fun r17=>some (r17)) else(((zef w) (((),d.1.2.1,(3,0,d.1.2.2.1.2.1,0,0,0,0,0,0,0,(List.replicate 32 (0:Int)),()),()),r16.2)).bind fun r18=>some (r18))))))))))))))) else none)
theorem zcd.bod:bodyB f127=true:=by kernel_rfl
abbrev zcd.env {α:Type}:Env α:=mE [(21,[⟨zeo.S,(zeo W0),none⟩]),(167,[⟨zbu.S,(zbu W0),none⟩]),(121,[⟨zef.S,(zef W0),none⟩]),(59,[⟨zeh.S,(zeh W0),none⟩]),(168,[⟨zbh.S,(zbh W0),none⟩]),(163,[⟨zcc.S,(zcc W0),none⟩]),(94,[⟨za4.S,(za4 W0),none⟩]),(87,[⟨zcw.S,(zcw W0),none⟩])] []
theorem zcd.ok (d:zcd.D):fB prog zcd.S zcd.env f127 d=(zcd W0) d:=by kernel_rfl
theorem zcd.sok:FSpec.ok zcd.S=true:=by kernel_rfl
theorem zcd.con (base:Nat):fO prog base 127 zcd.S (zcd W0):=fC (fn:=f127) rfl (by decide) (by kernel_rfl) mixed (cC (cc0 zeo.sok (zeo.con base) cn) (cC (cc0 zbu.sok (zbu.con base) cn) (cC (cc0 zef.sok (zef.con base) cn) (cC (cc0 zeh.sok (zeh.con base) cn) (cC (cc0 zbh.sok (zbh.con base) cn) (cC (cc0 zcc.sok (zcc.con base) cn) (cC (cc0 za4.sok (za4.con base) cn) (cC (cc0 zcw.sok (zcw.con base) cn) cN)))))))) lN zcd.ok
abbrev k135:List (Nat×Pat):=[(0, .ptr 0),k138,(2, .hole (.deep (.int .u8)))]
abbrev zem.S:FSpec:=⟨⟨k135,k20⟩,[⟨[],k20⟩],false⟩
abbrev zem.D:Type:=k292
abbrev zem.R:Type:=k275
def zem (w:W)(d:zem.D):Option zem.R:=(bif w.odec (0≤d.1.2.1∧d.1.2.1<(16:Nat)) then((d.2.1.2.1[d.1.2.1.toNat]?).bind fun x1=>(((zjd w) (d.1.2.2,())).bind fun r2=>(bif (!r2.1.2.1) then(((zeh w) (((),d.1.2.1,()),d.2)).bind fun r3=>some (r3)) else(bif (w.odec (r2.1.1.1=1)) then(((zeo w) (((),()),d.2.2.1,d.2.2.2.1,d.2.2.2.2.1,d.2.2.2.2.2.2.2.1,d.2.2.2.2.2.2.2.2.1,d.2.2.2.2.2.2.2.2.2.2.2.2)).bind fun r4=>(onS x1.1 fun n5=>((d.2.2.2.2.2.2.2.2.2.1[n5]?).bind fun e6=>(((zbf w) (((),r2.1.1.2.2.1,r4.1),e6)).bind fun r7=>(bif (!r7.1.1) then(((zeh w) (((),d.1.2.1,()),d.2.1,r4.2.1,r4.2.2.1,r4.2.2.2.1,d.2.2.2.2.2.1,d.2.2.2.2.2.2.1,r4.2.2.2.2.1,r4.2.2.2.2.2.1,(d.2.2.2.2.2.2.2.2.2.1.set n5 r7.2),d.2.2.2.2.2.2.2.2.2.2.1,d.2.2.2.2.2.2.2.2.2.2.2.1,r4.2.2.2.2.2.2)).bind fun r8=>some (r8)) else(onS x1.1 fun n9=>(((d.2.2.2.2.2.2.2.2.2.1.set n5 r7.2)[n9]?).bind fun e10=>(((zbg w) (((),()),e10)).bind fun r11=>(((zef w) (((),d.1.2.1,(1,0,0,0,0,0,0,0,0,0,r11.1),()),d.2.1,r4.2.1,r4.2.2.1,r4.2.2.2.1,d.2.2.2.2.2.1,d.2.2.2.2.2.2.1,r4.2.2.2.2.1,r4.2.2.2.2.2.1,((d.2.2.2.2.2.2.2.2.2.1.set n5 r7.2).set n9 r11.2),d.2.2.2.2.2.2.2.2.2.2.1,d.2.2.2.2.2.2.2.2.2.2.2.1,r4.2.2.2.2.2.2)).bind fun r12=>some (r12)))))))))) else(bif (w.odec (r2.1.1.1=2)) then(((zcz w) (((),d.1.2.1,r2.1.1.2.2.2.2.2.2.2.2.2.2.2.2.2.2),d.2)).bind fun r13=>some (r13)) else(onS x1.1 fun n14=>((d.2.2.2.2.2.2.2.2.2.1[n14]?).bind fun e15=>(((zcv w) (((),()),e15)).bind fun r16=>(bif (!w.odec (r16.1.1=3)) then(((zeh w) (((),d.1.2.1,()),d.2.1,d.2.2.1,d.2.2.2.1,d.2.2.2.2.1,d.2.2.2.2.2.1,d.2.2.2.2.2.2.1,d.2.2.2.2.2.2.2.1,d.2.2.2.2.2.2.2.2.1,(d.2.2.2.2.2.2.2.2.2.1.set n14 r16.2),d.2.2.2.2.2.2.2.2.2.2)).bind fun r17=>some (r17)) else(((zcd w) (((),d.1.2.1,r2.1.1,()),d.2.1,d.2.2.1,d.2.2.2.1,d.2.2.2.2.1,d.2.2.2.2.2.1,d.2.2.2.2.2.2.1,d.2.2.2.2.2.2.2.1,d.2.2.2.2.2.2.2.2.1,(d.2.2.2.2.2.2.2.2.2.1.set n14 r16.2),d.2.2.2.2.2.2.2.2.2.2)).bind fun r18=>some (r18))))))))))) else none)
theorem zem.bod:bodyB f92=true:=by kernel_rfl
abbrev zem.env {α:Type}:Env α:=mE [(123,[⟨zjd.S,(zjd W0),none⟩]),(59,[⟨zeh.S,(zeh W0),none⟩]),(21,[⟨zeo.S,(zeo W0),none⟩]),(124,[⟨zbf.S,(zbf W0),none⟩]),(125,[⟨zbg.S,(zbg W0),none⟩]),(121,[⟨zef.S,(zef W0),none⟩]),(126,[⟨zcz.S,(zcz W0),none⟩]),(57,[⟨zcv.S,(zcv W0),none⟩]),(127,[⟨zcd.S,(zcd W0),none⟩])] []
theorem zem.ok (d:zem.D):fB prog zem.S zem.env f92 d=(zem W0) d:=by kernel_rfl
theorem zem.sok:FSpec.ok zem.S=true:=by kernel_rfl
theorem zem.con (base:Nat):fO prog base 92 zem.S (zem W0):=fC (fn:=f92) rfl (by decide) (by kernel_rfl) mixed (cC (cc0 zjd.sok (zjd.con base) cn) (cC (cc0 zeh.sok (zeh.con base) cn) (cC (cc0 zeo.sok (zeo.con base) cn) (cC (cc0 zbf.sok (zbf.con base) cn) (cC (cc0 zbg.sok (zbg.con base) cn) (cC (cc0 zef.sok (zef.con base) cn) (cC (cc0 zcz.sok (zcz.con base) cn) (cC (cc0 zcv.sok (zcv.con base) cn) (cC (cc0 zcd.sok (zcd.con base) cn) cN))))))))) lN zem.ok
abbrev zc0.S:FSpec:=⟨⟨[(0, .ptr 0)],k118⟩,[⟨k12,k118⟩],false⟩
abbrev zc0.D:Type:=(k221×k240)
abbrev zc0.R:Type:=(k229×k240)
def zc0 (w:W)(d:zc0.D):Option zc0.R:=some ((d.2.1.2,d.2))
theorem zc0.bod:bodyB f93=true:=by kernel_rfl
abbrev zc0.env {α:Type}:Env α:=mE [] []
theorem zc0.ok (d:zc0.D):fB prog zc0.S zc0.env f93 d=(zc0 W0) d:=by kernel_rfl
theorem zc0.sok:FSpec.ok zc0.S=true:=by kernel_rfl
theorem zc0.con (base:Nat):fO prog base 93 zc0.S (zc0 W0):=fC (fn:=f93) rfl (by decide) (by kernel_rfl) mixed cN lN zc0.ok
abbrev zbv.S:LSpec:=⟨⟨[(0, .ptr 0),k138,(16, .hole (.deep (.deep (.int .u8)))),k163,(18, .hole (.int .i64))],k20⟩,[⟨k23,k20⟩],[(.exit 0)],f58.ntmps⟩
abbrev zbv.D:Type:=((Unit×Int×(List (List Int))×Int×Int×Unit)×k210)
abbrev zbv.R:Type:=k289
def zbv (w:W)(d:zbv.D):Option (zbv.D⊕zbv.R):=(bif (w.odec (d.1.2.2.2.2.1<d.1.2.2.2.1)) then(bif w.odec (0≤d.1.2.2.2.2.1) then((d.1.2.2.1[d.1.2.2.2.2.1.toNat]?).bind fun x7=>(((zfo w) (((),d.1.2.1,()),d.2)).bind fun r8=>(bif (w.odec (r8.1.1=0)) then some (.inr (((),d.1.2.1,()),r8.2)) else(((ze0 w) (((),0,1,()),r8.2.2.2.2.2.2.1,())).bind fun r9=>(((zem w) (((),d.1.2.1,x7,()),r8.2.1,r8.2.2.1,r8.2.2.2.1,r8.2.2.2.2.1,r8.2.2.2.2.2.1,r9.2.1,r8.2.2.2.2.2.2.2)).bind fun r10=>(((zdn w) (((),()),r10.2)).bind fun r11=>some (.inl (((),d.1.2.1,d.1.2.2.1,d.1.2.2.2.1,(w.wr .i64 (d.1.2.2.2.2.1+1)),()),r11.2)))))))) else none) else some (.inr (((),d.1.2.1,()),d.2)))
abbrev zdo.S:FSpec:=⟨⟨k135,k20⟩,[⟨[],k20⟩],false⟩
abbrev zdo.D:Type:=k292
abbrev zdo.R:Type:=k275
def zdo (w:W)(d:zdo.D):Option zdo.R:=(bif w.odec (0≤d.1.2.1∧d.1.2.1<(16:Nat)) then((d.2.1.2.1[d.1.2.1.toNat]?).bind fun x1=>(onS x1.2.1 fun n2=>((d.2.2.2.2.2.2.2.2.2.2.1[n2]?).bind fun e3=>(((zca w) (((),d.1.2.2),e3)).bind fun r4=>(match r4 with| .inl r5=>((w.loopFix (L:=zbv.D) (zbv w) (((),d.1.2.1,r5.2.2.1,(r5.2.2.1.length:Int),0,()),d.2.1,d.2.2.1,d.2.2.2.1,d.2.2.2.2.1,d.2.2.2.2.2.1,d.2.2.2.2.2.2.1,d.2.2.2.2.2.2.2.1,d.2.2.2.2.2.2.2.2.1,d.2.2.2.2.2.2.2.2.2.1,(d.2.2.2.2.2.2.2.2.2.2.1.set n2 (r5.2.1,())),d.2.2.2.2.2.2.2.2.2.2.2)).bind fun r12=>(bif w.odec (0≤r12.1.2.1∧r12.1.2.1<(16:Nat)) then((r12.2.1.2.1[r12.1.2.1.toNat]?).bind fun x13=>(onS x13.2.1 fun n14=>((r12.2.2.2.2.2.2.2.2.2.2.1[n14]?).bind fun e15=>(((zc0 w) (((),()),e15)).bind fun r16=>(bif r16.1.1 then(((zeh w) (r12.1,r12.2.1,r12.2.2.1,r12.2.2.2.1,r12.2.2.2.2.1,r12.2.2.2.2.2.1,r12.2.2.2.2.2.2.1,r12.2.2.2.2.2.2.2.1,r12.2.2.2.2.2.2.2.2.1,r12.2.2.2.2.2.2.2.2.2.1,(r12.2.2.2.2.2.2.2.2.2.2.1.set n14 r16.2),r12.2.2.2.2.2.2.2.2.2.2.2)).bind fun r17=>(((zdn w) (((),()),r17.2)).bind fun r18=>some (r18))) else some (((),r12.2.1,r12.2.2.1,r12.2.2.2.1,r12.2.2.2.2.1,r12.2.2.2.2.2.1,r12.2.2.2.2.2.2.1,r12.2.2.2.2.2.2.2.1,r12.2.2.2.2.2.2.2.2.1,r12.2.2.2.2.2.2.2.2.2.1,(r12.2.2.2.2.2.2.2.2.2.2.1.set n14 r16.2),r12.2.2.2.2.2.2.2.2.2.2.2))))))) else none))| .inr r6=>((w.loopFix (L:=zbv.D) (zbv w) (((),d.1.2.1,r6.1.1,(r6.1.1.length:Int),0,()),d.2.1,d.2.2.1,d.2.2.2.1,d.2.2.2.2.1,d.2.2.2.2.2.1,d.2.2.2.2.2.2.1,d.2.2.2.2.2.2.2.1,d.2.2.2.2.2.2.2.2.1,d.2.2.2.2.2.2.2.2.2.1,(d.2.2.2.2.2.2.2.2.2.2.1.set n2 r6.2),d.2.2.2.2.2.2.2.2.2.2.2)).bind fun r19=>(bif w.odec (0≤r19.1.2.1∧r19.1.2.1<(16:Nat)) then((r19.2.1.2.1[r19.1.2.1.toNat]?).bind fun x20=>(onS x20.2.1 fun n21=>((r19.2.2.2.2.2.2.2.2.2.2.1[n21]?).bind fun e22=>(((zc0 w) (((),()),e22)).bind fun r23=>(bif r23.1.1 then(((zeh w) (r19.1,r19.2.1,r19.2.2.1,r19.2.2.2.1,r19.2.2.2.2.1,r19.2.2.2.2.2.1,r19.2.2.2.2.2.2.1,r19.2.2.2.2.2.2.2.1,r19.2.2.2.2.2.2.2.2.1,r19.2.2.2.2.2.2.2.2.2.1,(r19.2.2.2.2.2.2.2.2.2.2.1.set n21 r23.2),r19.2.2.2.2.2.2.2.2.2.2.2)).bind fun r24=>(((zdn w) (((),()),r24.2)).bind fun r25=>some (r25))) else some (((),r19.2.1,r19.2.2.1,r19.2.2.2.1,r19.2.2.2.2.1,r19.2.2.2.2.2.1,r19.2.2.2.2.2.2.1,r19.2.2.2.2.2.2.2.1,r19.2.2.2.2.2.2.2.2.1,r19.2.2.2.2.2.2.2.2.2.1,(r19.2.2.2.2.2.2.2.2.2.2.1.set n21 r23.2),r19.2.2.2.2.2.2.2.2.2.2.2))))))) else none))))))) else none)
theorem zdo.bod:bodyB f58=true:=by kernel_rfl
abbrev zbv.env {α:Type}:Env α:=mE [(22,[⟨zfo.S,(zfo W0),none⟩]),(91,[⟨ze0.S,(ze0 W0),none⟩]),(92,[⟨zem.S,(zem W0),none⟩]),(60,[⟨zdn.S,(zdn W0),none⟩])] []
theorem zbv.ok (d:zbv.D):lB prog zbv.S zbv.env f58 1 d=(zbv W0) d:=by kernel_rfl
theorem zbv.sok:LSpec.ok zbv.S=true:=by kernel_rfl
theorem zbv.con (base:Nat):rO prog base f58 1 zbv.S (zbv W0):=lK zbv.sok zdo.bod mixed (cC (cc0 zfo.sok (zfo.con base) cn) (cC (cc0 ze0.sok (ze0.con base) cn) (cC (cc0 zem.sok (zem.con base) cn) (cC (cc0 zdn.sok (zdn.con base) cn) cN)))) lN zbv.ok
abbrev zdo.env {α:Type}:Env α:=mE [(90,[⟨zca.S,(zca W0),none⟩]),(93,[⟨zc0.S,(zc0 W0),none⟩]),(59,[⟨zeh.S,(zeh W0),none⟩]),(60,[⟨zdn.S,(zdn W0),none⟩])] [(1,[⟨zbv.S,(zbv W0)⟩])]
theorem zdo.ok (d:zdo.D):fB prog zdo.S zdo.env f58 d=(zdo W0) d:=by kernel_rfl
theorem zdo.sok:FSpec.ok zdo.S=true:=by kernel_rfl
theorem zdo.con (base:Nat):fO prog base 58 zdo.S (zdo W0):=fC (fn:=f58) rfl (by decide) (by kernel_rfl) mixed (cC (cc0 zca.sok (zca.con base) cn) (cC (cc0 zc0.sok (zc0.con base) cn) (cC (cc0 zeh.sok (zeh.con base) cn) (cC (cc0 zdn.sok (zdn.con base) cn) cN)))) (lC (lc zbv.sok (zbv.con base) ln) lN) zdo.ok
abbrev zfq.S:FSpec:=⟨⟨[(0, .ptr 0),(1, .hole ty17)],k20⟩,[⟨k12,k20⟩],false⟩
abbrev zfq.D:Type:=((Unit×De17×Unit)×k210)
abbrev zfq.R:Type:=(k229×k210)
def zfq (w:W)(d:zfq.D):Option zfq.R:=(bif (w.odec (d.1.2.1.1=4)) then(((zej w) (((),d.1.2.1.2.2.1,()),d.2)).bind fun r1=>some (r1)) else(((zhm w) ((d.1.2.1.2.1,()),())).bind fun r2=>(bif (!r2.1.1) then some (((false,()),d.2)) else(bif w.odec (0≤d.1.2.1.2.1∧d.1.2.1.2.1<(16:Nat)) then(bif (w.odec (d.1.2.1.1=1)) then((d.2.1.2.1[d.1.2.1.2.1.toNat]?).bind fun x3=>(((zeo w) (((),()),d.2.2.1,d.2.2.2.1,d.2.2.2.2.1,d.2.2.2.2.2.2.2.1,d.2.2.2.2.2.2.2.2.1,d.2.2.2.2.2.2.2.2.2.2.2.2)).bind fun r4=>(onS x3.1 fun n5=>((d.2.2.2.2.2.2.2.2.2.1[n5]?).bind fun e6=>(((zbt w) (((),d.1.2.1.2.2.2.1,r4.1),e6)).bind fun r7=>(bif (!r7.1.1) then some (((false,()),d.2.1,r4.2.1,r4.2.2.1,r4.2.2.2.1,d.2.2.2.2.2.1,d.2.2.2.2.2.2.1,r4.2.2.2.2.1,r4.2.2.2.2.2.1,(d.2.2.2.2.2.2.2.2.2.1.set n5 r7.2),d.2.2.2.2.2.2.2.2.2.2.1,d.2.2.2.2.2.2.2.2.2.2.2.1,r4.2.2.2.2.2.2)) else(((zic w) ((),())).bind fun r8=>(((zi8 w) ((),())).bind fun r9=>((d.2.1.2.1[d.1.2.1.2.1.toNat]?).bind fun x10=>(((d.2.1.2.1.set d.1.2.1.2.1.toNat (x10.1,(d.2.2.2.2.2.2.2.2.2.2.1.length+1),x10.2.2))[d.1.2.1.2.1.toNat]?).bind fun x11=>some (((true,()),((),((d.2.1.2.1.set d.1.2.1.2.1.toNat (x10.1,(d.2.2.2.2.2.2.2.2.2.2.1.length+1),x10.2.2)).set d.1.2.1.2.1.toNat (x11.1,x11.2.1,(d.2.2.2.2.2.2.2.2.2.2.2.1.length+1),())),(),(),()),r4.2.1,r4.2.2.1,r4.2.2.2.1,d.2.2.2.2.2.1,d.2.2.2.2.2.2.1,r4.2.2.2.2.1,r4.2.2.2.2.2.1,(d.2.2.2.2.2.2.2.2.2.1.set n5 r7.2),(d.2.2.2.2.2.2.2.2.2.2.1++ [r8.2]),(d.2.2.2.2.2.2.2.2.2.2.2.1++ [r9.2]),r4.2.2.2.2.2.2)))))))))))) else(bif (!w.odec (d.1.2.1.1=2)) then(bif (!w.odec (d.1.2.1.1=3)) then some (((false,()),d.2)) else((d.2.1.2.1[d.1.2.1.2.1.toNat]?).bind fun x12=>(onS x12.1 fun n13=>((d.2.2.2.2.2.2.2.2.2.1[n13]?).bind fun e14=>(((zcv w) (((),()),e14)).bind fun r15=>(bif (w.odec (r15.1.1=0)) then some (((false,()),d.2.1,d.2.2.1,d.2.2.2.1,d.2.2.2.2.1,d.2.2.2.2.2.1,d.2.2.2.2.2.2.1,d.2.2.2.2.2.2.2.1,d.2.2.2.2.2.2.2.2.1,(d.2.2.2.2.2.2.2.2.2.1.set n13 r15.2),d.2.2.2.2.2.2.2.2.2.2)) else(bif (w.odec (d.1.2.1.1=2)) then(((zdo w) (((),d.1.2.1.2.1,d.1.2.1.2.2.2.2),d.2.1,d.2.2.1,d.2.2.2.1,d.2.2.2.2.1,d.2.2.2.2.2.1,d.2.2.2.2.2.2.1,d.2.2.2.2.2.2.2.1,d.2.2.2.2.2.2.2.2.1,(d.2.2.2.2.2.2.2.2.2.1.set n13 r15.2),d.2.2.2.2.2.2.2.2.2.2)).bind fun r16=>some (((true,()),r16.2))) else(((zeh w) (((),d.1.2.1.2.1,()),d.2.1,d.2.2.1,d.2.2.2.1,d.2.2.2.2.1,d.2.2.2.2.2.1,d.2.2.2.2.2.2.1,d.2.2.2.2.2.2.2.1,d.2.2.2.2.2.2.2.2.1,(d.2.2.2.2.2.2.2.2.2.1.set n13 r15.2),d.2.2.2.2.2.2.2.2.2.2)).bind fun r17=>(((zdn w) (((),()),r17.2)).bind fun r18=>some (((true,()),r18.2))))))))))) else((d.2.1.2.1[d.1.2.1.2.1.toNat]?).bind fun x19=>(onS x19.1 fun n20=>((d.2.2.2.2.2.2.2.2.2.1[n20]?).bind fun e21=>(((zcv w) (((),()),e21)).bind fun r22=>(bif (w.odec (r22.1.1=0)) then some (((false,()),d.2.1,d.2.2.1,d.2.2.2.1,d.2.2.2.2.1,d.2.2.2.2.2.1,d.2.2.2.2.2.2.1,d.2.2.2.2.2.2.2.1,d.2.2.2.2.2.2.2.2.1,(d.2.2.2.2.2.2.2.2.2.1.set n20 r22.2),d.2.2.2.2.2.2.2.2.2.2)) else(bif (w.odec (d.1.2.1.1=2)) then(((zdo w) (((),d.1.2.1.2.1,d.1.2.1.2.2.2.2),d.2.1,d.2.2.1,d.2.2.2.1,d.2.2.2.2.1,d.2.2.2.2.2.1,d.2.2.2.2.2.2.1,d.2.2.2.2.2.2.2.1,d.2.2.2.2.2.2.2.2.1,(d.2.2.2.2.2.2.2.2.2.1.set n20 r22.2),d.2.2.2.2.2.2.2.2.2.2)).bind fun r23=>some (((true,()),r23.2))) else(((zeh w) (((),d.1.2.1.2.1,()),d.2.1,d.2.2.1,d.2.2.2.1,d.2.2.2.2.1,d.2.2.2.2.2.1,d.2.2.2.2.2.2.1,d.2.2.2.2.2.2.2.1,d.2.2.2.2.2.2.2.2.1,(d.2.2.2.2.2.2.2.2.2.1.set n20 r22.2),d.2.2.2.2.2.2.2.2.2.2)).bind fun r24=>(((zdn w) (((),()),r24.2)).bind fun r25=>some (((true,()),r25.2)))))))))))) else none))))
theorem zfq.bod:bodyB f19=true:=by kernel_rfl
abbrev zfq.env {α:Type}:Env α:=mE [(52,[⟨zej.S,(zej W0),none⟩]),(53,[⟨zhm.S,(zhm W0),none⟩]),(21,[⟨zeo.S,(zeo W0),none⟩]),(54,[⟨zbt.S,(zbt W0),none⟩]),(55,[⟨zic.S,(zic W0),some (0,187,ep187)⟩]),(56,[⟨zi8.S,(zi8 W0),some (0,189,ep189)⟩]),(57,[⟨zcv.S,(zcv W0),none⟩]),(58,[⟨zdo.S,(zdo W0),none⟩]),(59,[⟨zeh.S,(zeh W0),none⟩]),(60,[⟨zdn.S,(zdn W0),none⟩])] []
theorem zfq.ok (d:zfq.D):fB prog zfq.S zfq.env f19 d=(zfq W0) d:=by kernel_rfl
theorem zfq.sok:FSpec.ok zfq.S=true:=by kernel_rfl
theorem zfq.con (base:Nat):fO prog base 19 zfq.S (zfq W0):=fC (fn:=f19) rfl (by decide) (by kernel_rfl) mixed (cC (cc0 zej.sok (zej.con base) cn) (cC (cc0 zhm.sok (zhm.con base) cn) (cC (cc0 zeo.sok (zeo.con base) cn) (cC (cc0 zbt.sok (zbt.con base) cn) (cC (cc0 zic.sok (zic.con base) cn) (cC (cc0 zi8.sok (zi8.con base) cn) (cC (cc0 zcv.sok (zcv.con base) cn) (cC (cc0 zdo.sok (zdo.con base) cn) (cC (cc0 zeh.sok (zeh.con base) cn) (cC (cc0 zdn.sok (zdn.con base) cn) cN)))))))))) lN zfq.ok
abbrev zfr.S:FSpec:=⟨⟨k85,k20⟩,[⟨k12,k20⟩],false⟩
abbrev zfr.D:Type:=(k270×k210)
abbrev zfr.R:Type:=(k229×k210)
def zfr (w:W)(d:zfr.D):Option zfr.R:=(((zja w) (d.1.2.2,())).bind fun r1=>(((ziv w) (r1.2,())).bind fun r2=>(((zfq w) (((),(2,d.1.2.1,0,(List.replicate 32 (0:Int)),r2.2),()),d.2)).bind fun r3=>some (r3))))
theorem zfr.bod:bodyB f16=true:=by kernel_rfl
abbrev zfr.env {α:Type}:Env α:=mE [(51,[⟨zja.S,(zja W0),none⟩]),(50,[⟨ziv.S,(ziv W0),none⟩]),(19,[⟨zfq.S,(zfq W0),none⟩])] []
theorem zfr.ok (d:zfr.D):fB prog zfr.S zfr.env f16 d=(zfr W0) d:=by kernel_rfl
theorem zfr.sok:FSpec.ok zfr.S=true:=by kernel_rfl
theorem zfr.con (base:Nat):fO prog base 16 zfr.S (zfr W0):=fC (fn:=f16) rfl (by decide) (by kernel_rfl) mixed (cC (cc0 zja.sok (zja.con base) cn) (cC (cc0 ziv.sok (ziv.con base) cn) (cC (cc0 zfq.sok (zfq.con base) cn) cN))) lN zfr.ok
abbrev ze7.S:FSpec:=⟨⟨[(0, .ptr 0),k138,k139,k142,k156],k20⟩,[⟨k12,k20⟩],false⟩
abbrev ze7.D:Type:=((Unit×Int×Int×Int×Bool×Unit)×k210)
abbrev ze7.R:Type:=(k229×k210)
def ze7 (w:W)(d:ze7.D):Option ze7.R:=(((zen w) ((d.1.2.2.2.1,()),())).bind fun r1=>(((zfq w) (((),(1,d.1.2.1,0,r1.1.1,([]:List Int),()),()),d.2)).bind fun r2=>(bif (!r2.1.1) then some (((false,()),r2.2)) else(((zfr w) (((),d.1.2.1,(1,0,d.1.2.2.1,0,0,0,0,0,0,0,0,0,0,0,(List.replicate 32 (0:Int)),()),()),r2.2)).bind fun r3=>(((ze9 w) ((d.1.2.2.1,()),())).bind fun r4=>(bif w.odec (0≤(0:Int)∧(0:Int)≤((32:Nat):Int)∧((32:Nat):Int)≤(32:Nat)) then(((zje w) ((((r4.1.1.drop 0).take ((((32:Nat):Int)-(0:Int)).toNat)),()),())).bind fun r5=>(bif w.odec (0≤(0:Int)∧(0:Int)≤((32:Nat):Int)∧((32:Nat):Int)≤(32:Nat)) then(((zht w) (((),((r1.1.1.drop 0).take ((((32:Nat):Int)-(0:Int)).toNat)),()),r5.2)).bind fun r6=>(bif (!d.1.2.2.2.2.1) then(bif w.odec (0≤(0:Int)∧(0:Int)<(32:Nat)) then((r6.1.1[(0:Int).toNat]?).bind fun x7=>(bif w.odec (0≤(0:Int)∧(0:Int)<(32:Nat)) then((r6.1.1[(0:Int).toNat]?).bind fun x8=>(((zfr w) (((),d.1.2.1,(2,0,0,0,0,0,0,0,0,0,0,0,0,0,(r6.1.1.set (0:Int).toNat (w.bxor .u8 x7 1)),()),()),r3.2)).bind fun r9=>(((zfo w) (((),d.1.2.1,()),r9.2)).bind fun r10=>some ((((w.odec (r10.1.1=3)),()),r10.2))))) else none)) else none) else(((zfr w) (((),d.1.2.1,(2,0,0,0,0,0,0,0,0,0,0,0,0,0,r6.1),()),r3.2)).bind fun r11=>(((zfo w) (((),d.1.2.1,()),r11.2)).bind fun r12=>some ((((w.odec (r12.1.1=3)),()),r12.2)))))) else none)) else none))))))
theorem ze7.bod:bodyB f13=true:=by kernel_rfl
abbrev ze7.env {α:Type}:Env α:=mE [(45,[⟨zen.S,(zen W0),none⟩]),(19,[⟨zfq.S,(zfq W0),none⟩]),(16,[⟨zfr.S,(zfr W0),none⟩]),(43,[⟨ze9.S,(ze9 W0),none⟩]),(46,[⟨zje.S,(zje W0),none⟩]),(47,[⟨zht.S,(zht W0),none⟩]),(22,[⟨zfo.S,(zfo W0),none⟩])] []
theorem ze7.ok (d:ze7.D):fB prog ze7.S ze7.env f13 d=(ze7 W0) d:=by kernel_rfl
theorem ze7.sok:FSpec.ok ze7.S=true:=by kernel_rfl
theorem ze7.con (base:Nat):fO prog base 13 ze7.S (ze7 W0):=fC (fn:=f13) rfl (by decide) (by kernel_rfl) mixed (cC (cc0 zen.sok (zen.con base) cn) (cC (cc0 zfq.sok (zfq.con base) cn) (cC (cc0 zfr.sok (zfr.con base) cn) (cC (cc0 ze9.sok (ze9.con base) cn) (cC (cc0 zje.sok (zje.con base) cn) (cC (cc0 zht.sok (zht.con base) cn) (cC (cc0 zfo.sok (zfo.con base) cn) cN))))))) lN ze7.ok
abbrev zdp.S:FSpec:=⟨⟨[(0, .ptr 0)],k20⟩,[⟨[(0, .ptr 1)],k20⟩],false⟩
abbrev zdp.D:Type:=(k221×k210)
abbrev zdp.R:Type:=(k221×k210)
def zdp (w:W)(d:zdp.D):Option zdp.R:=some (d)
theorem zdp.bod:bodyB f14=true:=by kernel_rfl
abbrev zdp.env {α:Type}:Env α:=mE [] []
theorem zdp.ok (d:zdp.D):fB prog zdp.S zdp.env f14 d=(zdp W0) d:=by kernel_rfl
theorem zdp.sok:FSpec.ok zdp.S=true:=by kernel_rfl
theorem zdp.con (base:Nat):fO prog base 14 zdp.S (zdp W0):=fC (fn:=f14) rfl (by decide) (by kernel_rfl) mixed cN lN zdp.ok
abbrev zdq.S:FSpec:=⟨⟨[(0, .ptr 0)],k22⟩,[⟨[(0, .ptr 2)],k22⟩],true⟩
abbrev zdq.D:Type:=(k221×k211)
abbrev zdq.R:Type:=(k221×k211)
def zdq (w:W)(d:zdq.D):Option zdq.R:=some (d)
theorem zdq.bod:bodyB f24=true:=by kernel_rfl
abbrev zdq.env {α:Type}:Env α:=mE [] []
theorem zdq.ok (d:zdq.D):fB prog zdq.S zdq.env f24 d=(zdq W0) d:=by kernel_rfl
theorem zdq.sok:FSpec.ok zdq.S=true:=by kernel_rfl
theorem zdq.con (base:Nat):fO prog base 24 zdq.S (zdq W0):=fC (fn:=f24) rfl (by decide) (by kernel_rfl) mixed cN lN zdq.ok
abbrev ze8.S:FSpec:=⟨⟨[],[]⟩,[⟨k12,[]⟩],true⟩
abbrev ze8.D:Type:=k266
abbrev ze8.R:Type:=k248
def ze8 (w:W)(d:ze8.D):Option ze8.R:=(((zft w) ((([]:List Int),()),())).bind fun r1=>(match r1 with| .inl r2=>some (((false,()),()))| .inr r3=>(((ze7 w) (((),0,2,5,true,()),r3.2.2)).bind fun r4=>(bif (!r4.1.1) then some (((false,()),())) else(((ze7 w) (((),1,4,6,true,()),r4.2)).bind fun r5=>(bif (!r5.1.1) then some (((false,()),())) else(((zfr w) (((),0,(3,1,0,0,1,2,1,100,5,0,0,0,0,0,(List.replicate 32 (0:Int)),()),()),r5.2)).bind fun r6=>(((zfr w) (((),1,(3,1,0,0,1,1,1,100,3,0,0,0,0,0,(List.replicate 32 (0:Int)),()),()),r6.2)).bind fun r7=>(((zdp w) (((),()),r7.2)).bind fun r8=>(bif r6.1.1 then(bif r7.1.1 then(((zdq w) (((),()),r8.2.2.1,r8.2.2.2.1,r8.2.2.2.2.1,r8.2.2.2.2.2.2.2.1,r8.2.2.2.2.2.2.2.2.1,r8.2.2.2.2.2.2.2.2.2.2.2.2)).bind fun r9=>(((zdq w) r9).bind fun r10=>(((zff w) (((),4,0,()),r10.2.2.2.1,())).bind fun r11=>(bif (w.odec (r11.1.1=3)) then(((zdq w) (((),()),r10.2.1,r10.2.2.1,r11.2.1,r10.2.2.2.2)).bind fun r12=>(((zff w) (((),2,0,()),r12.2.2.2.1,())).bind fun r13=>some ((((w.odec (r13.1.1=(-3))),()),())))) else some (((false,()),())))))) else some (((false,()),()))) else some (((false,()),()))))))))))))
theorem ze8.bod:bodyB f17=true:=by kernel_rfl
abbrev ze8.env {α:Type}:Env α:=mE [(12,[⟨zft.S,(zft W0),none⟩]),(13,[⟨ze7.S,(ze7 W0),none⟩]),(16,[⟨zfr.S,(zfr W0),none⟩]),(14,[⟨zdp.S,(zdp W0),none⟩]),(24,[⟨zdq.S,(zdq W0),none⟩]),(25,[⟨zff.S,(zff W0),none⟩])] []
theorem ze8.ok (d:ze8.D):fB prog ze8.S ze8.env f17 d=(ze8 W0) d:=by kernel_rfl
theorem ze8.sok:FSpec.ok ze8.S=true:=by kernel_rfl
theorem ze8.con (base:Nat):fO prog base 17 ze8.S (ze8 W0):=fC (fn:=f17) rfl (by decide) (by kernel_rfl) mixed (cC (cc0 zft.sok (zft.con base) cn) (cC (cc0 ze7.sok (ze7.con base) cn) (cC (cc0 zfr.sok (zfr.con base) cn) (cC (cc0 zdp.sok (zdp.con base) cn) (cC (cc0 zdq.sok (zdq.con base) cn) (cC (cc0 zff.sok (zff.con base) cn) cN)))))) lN ze8.ok
abbrev k136:List (Nat×OPat):=[(0, .var (.hole ty2)),(1, .var (.agg [.ptr 2, .hole (.arr 16 (.int .i64))])),(2, .var (.agg [.ptr 3, .hole (.arr 16 ty8), .ptr 6, .ptr 7])),(3, .var (.agg [.hole ty2, .hole (.int .i64), .ptr 4, .hole ty4, .hole (.arr 8 (.ref 135)), .ptr 5, .hole (.arr 32 (.ref 255)), .hole (.arr 32 (.ref 168))])),(4, .var (.hole (.cons (.arr 32 ty1) .nil))),(5, .var (.hole (.cons (.arr 32 (.arr 8 (.int .i64))) (.cons (.arr 32 (.arr 8 (.int .i64))) .nil)))),(6, .var (.hole ty5)),(7, .var (.hole (.cons (.arr 4 ty6) .nil))),k147,k148,k151,k152,k153,k149]
abbrev za8.S:LSpec:=⟨⟨[k138,k139,(3, .hole .bool),(9, .ptr 0),(10, .ptr 1),k160],k136⟩,[⟨[(8, .hole .bool)],k136⟩,⟨[k138,k139,(3, .hole .bool),(9, .ptr 0),(10, .ptr 1)],k136⟩],[.ret,(.exit 0)],f3.ntmps⟩
abbrev k230:Type:=(De2×k280×(Unit×(List De8)×Unit×Unit×Unit)×k216×k233×k215×De5×((List De6)×Unit)×(List E135)×(List E168)×(List E185)×(List E187)×(List E189)×(List E255)×Unit)
abbrev za8.D:Type:=((Int×Int×Bool×Unit×Unit×Int×Unit)×k230)
abbrev za8.R:Type:=((k229×k230)⊕((Int×Int×Bool×Unit×Unit×Unit)×k230))
def za8 (w:W)(d:za8.D):Option (za8.D⊕za8.R):=(bif (w.odec (d.1.2.2.2.2.2.1<d.2.1.2.2.2.2.1)) then(((ze7 w) (((),0,2,d.1.2.2.2.2.2.1,false,()),d.2.2.2)).bind fun r5=>(bif r5.1.1 then some (.inr (.inl ((false,()),d.2.1,d.2.2.1,r5.2))) else some (.inl ((d.1.1,d.1.2.1,d.1.2.2.1,(),(),(w.wr .i64 (d.1.2.2.2.2.2.1+1)),()),d.2.1,d.2.2.1,r5.2)))) else some (.inr (.inr ((d.1.1,d.1.2.1,d.1.2.2.1,(),(),()),d.2))))
abbrev zce.S:FSpec:=⟨⟨[(0, .hole (.deep (.int .i64))),k138,k139,(3, .hole .bool)],[]⟩,[⟨k12,[]⟩],true⟩
abbrev zce.D:Type:=(((List Int)×Int×Int×Bool×Unit)×(Unit))
abbrev zce.R:Type:=k248
def zce (w:W)(d:zce.D):Option zce.R:=(((zc3 w) ((d.1.1,()),())).bind fun r1=>(((zft w) ((d.1.1,()),())).bind fun r2=>(match r2 with| .inl r3=>some (((false,()),()))| .inr r4=>((w.loopFix (L:=za8.D) (za8 w) ((d.1.2.1,d.1.2.2.1,d.1.2.2.2.1,(),(),0,()),r1.1.1,r4.2)).bind fun r6=>(match r6 with| .inl r7=>some ((r7.1,()))| .inr r8=>(((ze7 w) (((),0,2,50,true,()),r8.2.2.2)).bind fun r9=>(bif r9.1.1 then some (((false,()),())) else(((zdp w) (((),()),r9.2)).bind fun r10=>(((zdp w) r10).bind fun r11=>(((zcg w) (((),2,()),r11.2.2.1,r11.2.2.2.1,r11.2.2.2.2.1,r11.2.2.2.2.2.2.2.1,r11.2.2.2.2.2.2.2.2.1,r11.2.2.2.2.2.2.2.2.2.2.2.2)).bind fun r12=>(bif (!r12.1.1) then some (((false,()),())) else(bif r8.1.2.2.1 then(((ze7 w) (((),1,4,51,true,()),r11.2.1,r12.2.1,r12.2.2.1,r12.2.2.2.1,r11.2.2.2.2.2.1,r11.2.2.2.2.2.2.1,r12.2.2.2.2.1,r12.2.2.2.2.2.1,r11.2.2.2.2.2.2.2.2.2.1,r11.2.2.2.2.2.2.2.2.2.2.1,r11.2.2.2.2.2.2.2.2.2.2.2.1,r12.2.2.2.2.2.2)).bind fun r13=>(bif (!r13.1.1) then some (((false,()),())) else(((zfr w) (((),1,(9,1,0,0,0,0,0,0,0,0,0,3,2,0,(List.replicate 32 (0:Int)),()),()),r13.2)).bind fun r14=>(((ze7 w) (((),0,2,52,true,()),r14.2)).bind fun r15=>(bif r15.1.1 then(((ze8 w) ((),())).bind fun r16=>some (r16)) else some (((false,()),()))))))) else(((zc1 w) ((r8.1.2.1,1,r8.2.1.2.2.2.2.2.1,()),())).bind fun r17=>(((zfq w) (((),(4,0,r17.1.1,(List.replicate 32 (0:Int)),([]:List Int),()),()),r11.2.1,r12.2.1,r12.2.2.1,r12.2.2.2.1,r11.2.2.2.2.2.1,r11.2.2.2.2.2.2.1,r12.2.2.2.2.1,r12.2.2.2.2.2.1,r11.2.2.2.2.2.2.2.2.2.1,r11.2.2.2.2.2.2.2.2.2.2.1,r11.2.2.2.2.2.2.2.2.2.2.2.1,r12.2.2.2.2.2.2)).bind fun r18=>(bif (!r18.1.1) then some (((false,()),())) else(((zc1 w) ((r8.1.1,0,9,()),())).bind fun r19=>(((ze7 w) (((),0,2,(w.wr .i64 (53+r19.1.1)),true,()),r18.2)).bind fun r20=>(bif (boolEq r20.1.1 (w.odec (r17.1.1≥r8.2.1.2.2.2.2.2.1))) then(((ze8 w) ((),())).bind fun r21=>some (r21)) else some (((false,()),()))))))))))))))))))))
theorem zce.bod:bodyB f3=true:=by kernel_rfl
abbrev za8.env {α:Type}:Env α:=mE [(13,[⟨ze7.S,(ze7 W0),none⟩])] []
theorem za8.ok (d:za8.D):lB prog za8.S za8.env f3 6 d=(za8 W0) d:=by kernel_rfl
theorem za8.sok:LSpec.ok za8.S=true:=by kernel_rfl
theorem za8.con (base:Nat):rO prog base f3 6 za8.S (za8 W0):=lK za8.sok zce.bod mixed (cC (cc0 ze7.sok (ze7.con base) cn) cN) lN za8.ok
abbrev zce.env {α:Type}:Env α:=mE [(11,[⟨zc3.S,(zc3 W0),none⟩]),(12,[⟨zft.S,(zft W0),none⟩]),(13,[⟨ze7.S,(ze7 W0),none⟩]),(14,[⟨zdp.S,(zdp W0),none⟩]),(15,[⟨zcg.S,(zcg W0),none⟩]),(16,[⟨zfr.S,(zfr W0),none⟩]),(17,[⟨ze8.S,(ze8 W0),none⟩]),(18,[⟨zc1.S,(zc1 W0),none⟩]),(19,[⟨zfq.S,(zfq W0),none⟩])] [(6,[⟨za8.S,(za8 W0)⟩])]
theorem zce.ok (d:zce.D):fB prog zce.S zce.env f3 d=(zce W0) d:=by kernel_rfl
theorem zce.sok:FSpec.ok zce.S=true:=by kernel_rfl
theorem zce.con (base:Nat):fO prog base 3 zce.S (zce W0):=fC (fn:=f3) rfl (by decide) (by kernel_rfl) mixed (cC (cc0 zc3.sok (zc3.con base) cn) (cC (cc0 zft.sok (zft.con base) cn) (cC (cc0 ze7.sok (ze7.con base) cn) (cC (cc0 zdp.sok (zdp.con base) cn) (cC (cc0 zcg.sok (zcg.con base) cn) (cC (cc0 zfr.sok (zfr.con base) cn) (cC (cc0 ze8.sok (ze8.con base) cn) (cC (cc0 zc1.sok (zc1.con base) cn) (cC (cc0 zfq.sok (zfq.con base) cn) cN))))))))) (lC (lc za8.sok (za8.con base) ln) lN) zce.ok

end
end AM
