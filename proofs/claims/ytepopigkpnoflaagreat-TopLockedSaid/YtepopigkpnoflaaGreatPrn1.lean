/- What each function of the program that this law reaches computes, as a plain function, and that it does. Printed by a program. Conditions: none. -/
import Derived.Test.YtepopigkpnoflaaGreatPrn0
set_option linter.unusedVariables false
set_option linter.unusedSimpArgs false
set_option maxRecDepth 100000
namespace AM
open Go Go.Proofs Tryz
noncomputable section
abbrev ty0:Ty:=(.cons (.int .i64) (.cons (.int .i64) (.cons (.int .i64) (.cons (.int .i64) .nil))))
abbrev De0:Type:=Int×Int×Int×Int×Unit
abbrev ty1:Ty:=(.cons (.int .i64) (.cons (.int .i64) (.cons (.int .i64) (.cons (.int .i64) (.cons .bool (.cons (.arr 32 (.int .u8)) .nil))))))
abbrev De1:Type:=Int×Int×Int×Int×Bool×(List Int)×Unit
abbrev ty2:Ty:=(.cons (.arr 32 ty1) (.cons (.arr 32 ty0) (.cons (.int .i64) (.cons (.int .i64) (.cons (.int .i64) (.cons (.int .i64) (.cons (.int .i64) (.cons (.int .i64) .nil))))))))
abbrev De2:Type:=(List De1)×(List De0)×Int×Int×Int×Int×Int×Int×Unit
abbrev ty3:Ty:=(.cons (.int .i64) (.cons (.int .i64) (.cons (.int .i64) (.cons (.int .i64) (.cons (.int .i64) (.cons (.int .i64) (.cons (.int .i64) (.cons (.int .i64) (.cons (.int .i64) .nil)))))))))
abbrev De3:Type:=Int×Int×Int×Int×Int×Int×Int×Int×Int×Unit
abbrev ep197:List (Nat×OPat):=[(50, .var (.agg [.hole (.int .i64), .own 51])),(51, .row (.cons ty3 (.cons (.int .i64) .nil)))]
abbrev E197:Type:=(Int×Unit×Unit)×(List (De3×Int×Unit))×Unit
abbrev ty4:Ty:=(.cons (.arr 8 .bool) (.cons (.arr 8 .bool) (.cons (.arr 8 (.int .i64)) .nil)))
abbrev De4:Type:=(List Bool)×(List Bool)×(List Int)×Unit
abbrev ep135:List (Nat×OPat):=[(50, .var (.agg [.ptr 51, .own 54])),(51, .var (.agg [.agg [.own 52, .own 53], .hole (.int .i64), .hole (.int .i64)])),(52, .row (.ref 197)),(53, .row (.ref 197)),(54, .row ty3),(SB+197, .store ep197)]
abbrev E135:Type:=(Unit×Unit×Unit)×((Unit×Unit×Unit)×Int×Int×Unit)×(List Nat)×(List Nat)×(List De3)×(List E197)×Unit
abbrev ep168:List (Nat×OPat):=[(50, .var (.hole ty0))]
abbrev E168:Type:=De0×Unit
abbrev ep255:List (Nat×OPat):=[(50, .var (.hole ty0))]
abbrev E255:Type:=De0×Unit
abbrev ty5:Ty:=(.cons (.deep (.int .u8)) (.cons (.arr 32 (.int .u8)) (.cons (.int .i64) .nil)))
abbrev De5:Type:=(List Int)×(List Int)×Int×Unit
abbrev ty6:Ty:=(.cons .nil (.cons .nil (.cons (.int .i64) .nil)))
abbrev De6:Type:=Unit×Unit×Int×Unit
abbrev ty7:Ty:=(.cons (.int .i64) (.cons (.int .i64) (.cons (.arr 32 (.int .u8)) (.cons (.int .i64) (.cons (.int .i64) .nil)))))
abbrev De7:Type:=Int×Int×(List Int)×Int×Int×Unit
abbrev ty8:Ty:=(.cons (.ref 185) (.cons (.ref 187) (.cons (.ref 189) .nil)))
abbrev De8:Type:=Nat×Nat×Nat×Unit
abbrev ep185:List (Nat×OPat):=[(50, .var (.hole ty7))]
abbrev E185:Type:=De7×Unit
abbrev ep187:List (Nat×OPat):=[(50, .var (.hole (.cons (.deep (.int .u8)) (.cons .bool .nil))))]
abbrev E187:Type:=((List Int)×Bool×Unit)×Unit
abbrev ep189:List (Nat×OPat):=[(50, .var (.hole (.cons (.deep (.int .u8)) (.cons .bool .nil))))]
abbrev E189:Type:=((List Int)×Bool×Unit)×Unit
abbrev ty9:Ty:=(.cons (.int .i64) (.cons (.int .i64) (.cons (.int .i64) (.cons (.int .i64) (.cons (.int .i64) (.cons (.int .i64) (.cons (.int .i64) (.cons (.int .i64) (.cons (.int .i64) (.cons (.int .i64) (.cons (.int .i64) (.cons (.int .i64) (.cons (.int .i64) (.cons (.int .i64) (.cons (.arr 32 (.int .u8)) .nil)))))))))))))))
abbrev De9:Type:=Int×Int×Int×Int×Int×Int×Int×Int×Int×Int×Int×Int×Int×Int×(List Int)×Unit
abbrev ty10:Ty:=(.cons (.int .i64) (.cons (.int .i64) (.cons (.int .i64) (.cons ty9 .nil))))
abbrev De10:Type:=Int×Int×Int×De9×Unit
abbrev ty11:Ty:=(.cons ty3 (.cons ty3 (.cons (.int .i64) (.cons (.int .i64) (.cons (.int .i64) .nil)))))
abbrev De11:Type:=De3×De3×Int×Int×Int×Unit
abbrev ty12:Ty:=(.cons (.int .i64) (.cons (.int .i64) (.cons ty11 (.cons ty3 .nil))))
abbrev De12:Type:=Int×Int×De11×De3×Unit
abbrev ty13:Ty:=(.cons ty3 (.cons (.deep ty11) (.cons (.int .i64) (.cons .bool (.cons .bool (.cons .bool (.cons (.int .i64) .nil)))))))
abbrev De13:Type:=De3×(List De11)×Int×Bool×Bool×Bool×Int×Unit
abbrev ty14:Ty:=(.cons .nil (.cons (.cons .nil (.cons (.int .u32) .nil)) (.cons (.cons .nil (.cons (.cons (.int .i32) (.cons (.int .u32) .nil)) .nil)) .nil)))
abbrev De14:Type:=Unit×(Unit×Int×Unit)×(Unit×(Int×Int×Unit)×Unit)×Unit
abbrev ty15:Ty:=(.cons (.int .i64) (.cons (.int .i64) (.cons (.int .i64) (.cons (.int .i64) (.cons (.int .i64) (.cons (.int .i64) (.cons (.int .i64) (.cons (.int .i64) (.cons (.int .i64) (.cons (.int .i64) (.cons (.arr 32 (.int .u8)) .nil)))))))))))
abbrev De15:Type:=Int×Int×Int×Int×Int×Int×Int×Int×Int×Int×(List Int)×Unit
abbrev ty16:Ty:=(.cons (.deep (.int .u8)) (.cons (.int .i64) (.cons .bool .nil)))
abbrev De16:Type:=(List Int)×Int×Bool×Unit
abbrev ty17:Ty:=(.cons (.int .i64) (.cons (.int .i64) (.cons (.int .i64) (.cons (.arr 32 (.int .u8)) (.cons (.deep (.int .u8)) .nil)))))
abbrev De17:Type:=Int×Int×Int×(List Int)×(List Int)×Unit
abbrev k137:Nat×Pat:=(0, .hole (.int .i64))
abbrev k138:Nat×Pat:=(1, .hole (.int .i64))
abbrev k139:Nat×Pat:=(2, .hole (.int .i64))
abbrev k1:List (Nat×Pat):=[k137,k138,k139]
abbrev k2:List (Nat×Pat):=[k137]
abbrev zc1.S:FSpec:=⟨⟨k1,[]⟩,[⟨k2,[]⟩],true⟩
abbrev zc1.D:Type:=((Int×Int×Int×Unit)×(Unit))
abbrev k231:Type:=(Int×Unit)
abbrev k263:Type:=(k231×(Unit))
abbrev zc1.R:Type:=k263
def zc1 (w:W)(d:zc1.D):Option zc1.R:=(bif w.odec ((w.wr .i64 ((w.wr .i64 (d.1.2.2.1-d.1.2.1))+1))=0) then none else(bif (w.odec ((Int.tmod d.1.1 (w.wr .i64 ((w.wr .i64 (d.1.2.2.1-d.1.2.1))+1)))<0)) then some ((((w.wr .i64 (d.1.2.1+(w.wr .i64 ((w.wr .i64 ((w.wr .i64 ((Int.tmod d.1.1 (w.wr .i64 ((w.wr .i64 (d.1.2.2.1-d.1.2.1))+1)))+d.1.2.2.1))-d.1.2.1))+1)))),()),())) else some ((((w.wr .i64 (d.1.2.1+(Int.tmod d.1.1 (w.wr .i64 ((w.wr .i64 (d.1.2.2.1-d.1.2.1))+1))))),()),()))))
theorem zc1.bod:bodyB f18=true:=by kernel_rfl
abbrev zc1.env {α:Type}:Env α:=mE [] []
theorem zc1.ok (d:zc1.D):fB prog zc1.S zc1.env f18 d=(zc1 W0) d:=by kernel_rfl
theorem zc1.sok:FSpec.ok zc1.S=true:=by kernel_rfl
theorem zc1.con (base:Nat):fO prog base 18 zc1.S (zc1 W0):=fC (fn:=f18) rfl (by decide) (by kernel_rfl) mixed cN lN zc1.ok
abbrev k3:List (Nat×OPat):=[(0, .var (.hole (.deep (.int .i64))))]
abbrev zbw.S:FSpec:=⟨⟨[k137,k138,k139,(3, .ptr 0)],k3⟩,[⟨k2,k3⟩],false⟩
abbrev k224:Type:=((List Int)×Unit)
abbrev zbw.D:Type:=((Int×Int×Int×Unit×Unit)×k224)
abbrev zbw.R:Type:=(k231×k224)
def zbw (w:W)(d:zbw.D):Option zbw.R:=(bif (w.odec (d.1.1<(d.2.1.length:Int))) then(bif w.odec (0≤d.1.1) then((d.2.1[d.1.1.toNat]?).bind fun x1=>(((zc1 w) ((x1,d.1.2.1,d.1.2.2.1,()),())).bind fun r2=>some ((r2.1,d.2)))) else none) else some (((d.1.2.2.1,()),d.2)))
theorem zbw.bod:bodyB f42=true:=by kernel_rfl
abbrev zbw.env {α:Type}:Env α:=mE [(18,[⟨zc1.S,(zc1 W0),none⟩])] []
theorem zbw.ok (d:zbw.D):fB prog zbw.S zbw.env f42 d=(zbw W0) d:=by kernel_rfl
theorem zbw.sok:FSpec.ok zbw.S=true:=by kernel_rfl
theorem zbw.con (base:Nat):fO prog base 42 zbw.S (zbw W0):=fC (fn:=f42) rfl (by decide) (by kernel_rfl) mixed (cC (cc0 zc1.sok (zc1.con base) cn) cN) lN zbw.ok
abbrev k140:Nat×Pat:=(5, .hole (.int .i64))
abbrev k4:List (Nat×Pat):=[k137,(2, .ptr 0),(3, .ptr 1),k140]
abbrev k5:List (Nat×OPat):=[(0, .var (.hole (.arr 32 (.int .u8)))),(1, .var (.hole (.arr 32 (.int .u8))))]
abbrev k6:List (Nat×Pat):=[(2, .ptr 0),(3, .ptr 1)]
abbrev zc2.S:LSpec:=⟨⟨k4,k5⟩,[⟨k6,k5⟩],[(.exit 0)],f43.ntmps⟩
abbrev k237:Type:=((List Int)×(List Int)×Unit)
abbrev zc2.D:Type:=((Int×Unit×Unit×Int×Unit)×k237)
abbrev k228:Type:=(Unit×Unit×Unit)
abbrev zc2.R:Type:=(k228×k237)
def zc2 (w:W)(d:zc2.D):Option (zc2.D⊕zc2.R):=(bif (w.odec (d.1.2.2.2.1<32)) then(bif w.odec (0≤d.1.2.2.2.1∧d.1.2.2.2.1<(32:Nat)) then((d.2.2.1[d.1.2.2.2.1.toNat]?).bind fun x1=>some (.inl ((d.1.1,(),(),(w.wr .i64 (d.1.2.2.2.1+1)),()),d.2.1,(d.2.2.1.set d.1.2.2.2.1.toNat (w.wr .u8 (w.wr .i64 (d.1.1+1)))),()))) else none) else some (.inr (((),(),()),d.2)))
abbrev k7:List (Nat×Pat):=[(0, .hole (.arr 32 (.int .u8)))]
abbrev ze9.S:FSpec:=⟨⟨k2,[]⟩,[⟨k7,[]⟩],true⟩
abbrev ze9.D:Type:=k263
abbrev k256:Type:=(k224×(Unit))
abbrev ze9.R:Type:=k256
def ze9 (w:W)(d:ze9.D):Option ze9.R:=((w.loopFix (L:=zc2.D) (zc2 w) ((d.1.1,(),(),0,()),(List.replicate 32 (0:Int)),(List.replicate 32 (0:Int)),())).bind fun r2=>some ((r2.2.2,())))
theorem ze9.bod:bodyB f43=true:=by kernel_rfl
abbrev zc2.env {α:Type}:Env α:=mE [] []
theorem zc2.ok (d:zc2.D):lB prog zc2.S zc2.env f43 3 d=(zc2 W0) d:=by kernel_rfl
theorem zc2.sok:LSpec.ok zc2.S=true:=by kernel_rfl
theorem zc2.con (base:Nat):rO prog base f43 3 zc2.S (zc2 W0):=lK zc2.sok ze9.bod mixed cN lN zc2.ok
abbrev ze9.env {α:Type}:Env α:=mE [] [(3,[⟨zc2.S,(zc2 W0)⟩])]
theorem ze9.ok (d:ze9.D):fB prog ze9.S ze9.env f43 d=(ze9 W0) d:=by kernel_rfl
theorem ze9.sok:FSpec.ok ze9.S=true:=by kernel_rfl
theorem ze9.con (base:Nat):fO prog base 43 ze9.S (ze9 W0):=fC (fn:=f43) rfl (by decide) (by kernel_rfl) mixed cN (lC (lc zc2.sok (zc2.con base) ln) lN) ze9.ok
abbrev k8:List (Nat×OPat):=[(0, .var (.hole ty2)),(1, .var (.hole (.deep (.int .i64)))),(2, .var (.hole ty2))]
abbrev zbi.S:LSpec:=⟨⟨[(2, .ptr 0),(3, .clo (.func 42) [.ptr 1]),(4, .ptr 2),k140],k8⟩,[⟨[(2, .ptr 0),(3, .clo (.func 42) [.ptr 1]),(4, .ptr 2)],k8⟩],[(.exit 0)],f11.ntmps⟩
abbrev k221:Type:=(Unit×Unit)
abbrev zbi.D:Type:=((Unit×k221×Unit×Int×Unit)×(De2×(List Int)×De2×Unit))
abbrev zbi.R:Type:=((Unit×k221×Unit×Unit)×(De2×(List Int)×De2×Unit))
def zbi (w:W)(d:zbi.D):Option (zbi.D⊕zbi.R):=(bif (w.odec (d.1.2.2.2.1<6)) then(bif w.odec ((2:Int)=0) then none else(bif w.odec ((2:Int)=0) then none else(((zbw w) ((0,0,1,(),()),d.2.2.1,())).bind fun r1=>(((ze9 w) (d.1.2.2.2,())).bind fun r2=>(bif w.odec (0≤d.1.2.2.2.1∧d.1.2.2.2.1<(32:Nat)) then((d.2.2.2.1.1[d.1.2.2.2.1.toNat]?).bind fun x3=>(bif w.odec (0≤d.1.2.2.2.1∧d.1.2.2.2.1<(32:Nat)) then((d.2.2.2.1.2.1[d.1.2.2.2.1.toNat]?).bind fun x4=>some (.inl (((),((),()),(),(w.wr .i64 (d.1.2.2.2.1+1)),()),d.2.1,r1.2.1,((d.2.2.2.1.1.set d.1.2.2.2.1.toNat ((w.wr .i64 (Int.tdiv d.1.2.2.2.1 2)),(w.wr .i64 ((Int.tmod d.1.2.2.2.1 2)*r1.1.1)),1,7,false,r2.1)),(d.2.2.2.1.2.1.set d.1.2.2.2.1.toNat (1048576,1099511627776,1099511627776,1099511627776,())),d.2.2.2.1.2.2),()))) else none)) else none))))) else some (.inr (((),((),()),(),()),d.2)))
abbrev k9:List (Nat×Pat):=[(0, .hole (.deep (.int .i64)))]
abbrev k10:List (Nat×Pat):=[(0, .hole ty2)]
abbrev zc3.S:FSpec:=⟨⟨k9,[]⟩,[⟨k10,[]⟩],true⟩
abbrev zc3.D:Type:=k256
abbrev zc3.R:Type:=((De2×Unit)×(Unit))
def zc3 (w:W)(d:zc3.D):Option zc3.R:=((w.loopFix (L:=zbi.D) (zbi w) (((),((),()),(),0,()),((List.replicate 32 ((0:Int),(0:Int),(0:Int),(0:Int),false,(List.replicate 32 (0:Int)),())),(List.replicate 32 ((0:Int),(0:Int),(0:Int),(0:Int),())),0,0,0,0,0,0,()),d.1.1,((List.replicate 32 ((0:Int),(0:Int),(0:Int),(0:Int),false,(List.replicate 32 (0:Int)),())),(List.replicate 32 ((0:Int),(0:Int),(0:Int),(0:Int),())),0,0,0,0,0,0,()),())).bind fun r5=>(((zbw w) ((1,0,7,(),()),r5.2.2.1,())).bind fun r6=>(bif w.odec (0≤(0:Int)∧(0:Int)<(32:Nat)) then((r5.2.2.2.1.1[(0:Int).toNat]?).bind fun x7=>(bif w.odec (0≤(2:Int)∧(2:Int)<(32:Nat)) then(((r5.2.2.2.1.1.set (0:Int).toNat (x7.1,x7.2.1,(w.bor .i64 1 r6.1.1),x7.2.2.2))[(2:Int).toNat]?).bind fun x8=>(bif w.odec (0≤(4:Int)∧(4:Int)<(32:Nat)) then((((r5.2.2.2.1.1.set (0:Int).toNat (x7.1,x7.2.1,(w.bor .i64 1 r6.1.1),x7.2.2.2)).set (2:Int).toNat (x8.1,x8.2.1,7,x8.2.2.2))[(4:Int).toNat]?).bind fun x9=>(((zbw w) ((2,0,20,(),()),r6.2)).bind fun r10=>(((zbw w) ((3,0,3000,(),()),r10.2)).bind fun r11=>(((zbw w) ((4,0,40,(),()),r11.2)).bind fun r12=>(((zbw w) ((5,0,40,(),()),r12.2)).bind fun r13=>(bif w.odec (0≤(1:Int)∧(1:Int)<(32:Nat)) then((r5.2.2.2.1.2.1[(1:Int).toNat]?).bind fun x14=>(((zbw w) ((6,1,60,(),()),r13.2)).bind fun r15=>(((zbw w) ((7,1,20,(),()),r15.2)).bind fun r16=>(((zbw w) ((8,1,3,(),()),r16.2)).bind fun r17=>(((zbw w) ((9,1,50,(),()),r17.2)).bind fun r18=>(((zbw w) ((10,1,200,(),()),r18.2)).bind fun r19=>(((zbw w) ((11,1,4,(),()),r19.2)).bind fun r20=>some (((((((r5.2.2.2.1.1.set (0:Int).toNat (x7.1,x7.2.1,(w.bor .i64 1 r6.1.1),x7.2.2.2)).set (2:Int).toNat (x8.1,x8.2.1,7,x8.2.2.2)).set (4:Int).toNat (x9.1,x9.2.1,9,x9.2.2.2)),(r5.2.2.2.1.2.1.set (1:Int).toNat (r10.1.1,r11.1.1,r12.1.1,r13.1)),r15.1.1,r16.1.1,r17.1.1,r18.1.1,r19.1.1,r20.1),()),()))))))))) else none)))))) else none)) else none)) else none)))
theorem zc3.bod:bodyB f11=true:=by kernel_rfl
abbrev zbi.env {α:Type}:Env α:=mE [(42,[⟨zbw.S,(zbw W0),none⟩]),(43,[⟨ze9.S,(ze9 W0),none⟩])] []
theorem zbi.ok (d:zbi.D):lB prog zbi.S zbi.env f11 4 d=(zbi W0) d:=by kernel_rfl
theorem zbi.sok:LSpec.ok zbi.S=true:=by kernel_rfl
theorem zbi.con (base:Nat):rO prog base f11 4 zbi.S (zbi W0):=lK zbi.sok zc3.bod mixed (cC (cc0 zbw.sok (zbw.con base) cn) (cC (cc0 ze9.sok (ze9.con base) cn) cN)) lN zbi.ok
abbrev zc3.env {α:Type}:Env α:=mE [(42,[⟨zbw.S,(zbw W0),none⟩])] [(4,[⟨zbi.S,(zbi W0)⟩])]
theorem zc3.ok (d:zc3.D):fB prog zc3.S zc3.env f11 d=(zc3 W0) d:=by kernel_rfl
theorem zc3.sok:FSpec.ok zc3.S=true:=by kernel_rfl
theorem zc3.con (base:Nat):fO prog base 11 zc3.S (zc3 W0):=fC (fn:=f11) rfl (by decide) (by kernel_rfl) mixed (cC (cc0 zbw.sok (zbw.con base) cn) cN) (lC (lc zbi.sok (zbi.con base) ln) lN) zc3.ok
abbrev k11:List (Nat×Pat):=[k137,k138]
abbrev k12:List (Nat×Pat):=[(0, .hole .bool)]
abbrev zgr.S:FSpec:=⟨⟨k11,[]⟩,[⟨k12,[]⟩],true⟩
abbrev k242:Type:=(Int×Int×Unit)
abbrev k284:Type:=(k242×(Unit))
abbrev zgr.D:Type:=k284
abbrev k229:Type:=(Bool×Unit)
abbrev k248:Type:=(k229×(Unit))
abbrev zgr.R:Type:=k248
def zgr (w:W)(d:zgr.D):Option zgr.R:=(bif (w.odec (d.1.1≥0)) then some ((((w.odec (d.1.1≤d.1.2.1)),()),())) else some (((false,()),())))
theorem zgr.bod:bodyB f169=true:=by kernel_rfl
abbrev zgr.env {α:Type}:Env α:=mE [] []
theorem zgr.ok (d:zgr.D):fB prog zgr.S zgr.env f169 d=(zgr W0) d:=by kernel_rfl
theorem zgr.sok:FSpec.ok zgr.S=true:=by kernel_rfl
theorem zgr.con (base:Nat):fO prog base 169 zgr.S (zgr W0):=fC (fn:=f169) rfl (by decide) (by kernel_rfl) mixed cN lN zgr.ok
abbrev k13:List (Nat×Pat):=[(0, .hole ty1)]
abbrev zhu.S:FSpec:=⟨⟨k13,[]⟩,[⟨k12,[]⟩],true⟩
abbrev zhu.D:Type:=((De1×Unit)×(Unit))
abbrev zhu.R:Type:=k248
def zhu (w:W)(d:zhu.D):Option zhu.R:=(((zgr w) ((d.1.1.1,7,()),())).bind fun r1=>(bif r1.1.1 then(((zgr w) ((d.1.1.2.1,15,()),())).bind fun r2=>(bif r2.1.1 then(((zgr w) ((d.1.1.2.2.1,15,()),())).bind fun r3=>(bif r3.1.1 then(((zgr w) ((d.1.1.2.2.2.1,255,()),())).bind fun r4=>some (r4)) else some (((false,()),())))) else some (((false,()),())))) else some (((false,()),()))))
theorem zhu.bod:bodyB f133=true:=by kernel_rfl
abbrev zhu.env {α:Type}:Env α:=mE [(169,[⟨zgr.S,(zgr W0),none⟩])] []
theorem zhu.ok (d:zhu.D):fB prog zhu.S zhu.env f133 d=(zhu W0) d:=by kernel_rfl
theorem zhu.sok:FSpec.ok zhu.S=true:=by kernel_rfl
theorem zhu.con (base:Nat):fO prog base 133 zhu.S (zhu W0):=fC (fn:=f133) rfl (by decide) (by kernel_rfl) mixed (cC (cc0 zgr.sok (zgr.con base) cn) cN) lN zhu.ok
abbrev k141:Nat×Pat:=(7, .hole (.int .i64))
abbrev k14:List (Nat×OPat):=[(0, .var (.hole (.arr 32 ty1)))]
abbrev k142:Nat×Pat:=(3, .hole (.int .i64))
abbrev zgs.S:LSpec:=⟨⟨[(1, .ptr 0),(6, .hole (.arr 32 ty1)),k141],k14⟩,[⟨[(2, .const (.pointer none)),k142],k14⟩,⟨[(1, .ptr 0)],k14⟩],[.ret,(.exit 0)],f104.ntmps⟩
abbrev k233:Type:=((List De1)×Unit)
abbrev zgs.D:Type:=((Unit×(List De1)×Int×Unit)×k233)
abbrev k225:Type:=(Unit×Int×Unit)
abbrev zgs.R:Type:=((k225×k233)⊕(k221×k233))
def zgs (w:W)(d:zgs.D):Option (zgs.D⊕zgs.R):=(bif (w.odec (d.1.2.2.1<32)) then(bif w.odec (0≤d.1.2.2.1∧d.1.2.2.1<(32:Nat)) then((d.1.2.1[d.1.2.2.1.toNat]?).bind fun x1=>(bif (!((w.intEq x1.1 0)&& ((w.intEq x1.2.1 0)&& ((w.intEq x1.2.2.1 0)&& ((w.intEq x1.2.2.2.1 0)&& ((boolEq x1.2.2.2.2.1 false)&& (((x1.2.2.2.2.2.1.zip (List.replicate 32 (0:Int))).all fun p=>w.teq (.int .u8) p.1 p.2)&&true))))))) then(((zhu w) ((x1,()),())).bind fun r2=>(bif (!r2.1.1) then some (.inr (.inl (((),d.1.2.2),d.2))) else(bif (w.odec (x1.2.2.1=0)) then some (.inr (.inl (((),d.1.2.2),d.2))) else some (.inl (((),d.1.2.1,(w.wr .i64 (d.1.2.2.1+1)),()),d.2))))) else some (.inl (((),d.1.2.1,(w.wr .i64 (d.1.2.2.1+1)),()),d.2)))) else none) else some (.inr (.inr (((),()),d.2))))
abbrev k15:List (Nat×Pat):=[(0, .const (.pointer none)),k138]
abbrev k16:List (Nat×Pat):=[(0, .ptr 50),k138]
abbrev ziy.S:FSpec:=⟨⟨[(0, .hole (.arr 32 ty1))],[]⟩,[⟨k15,[]⟩,⟨k16,[(50, .var (.hole (.cons (.arr 32 ty1) .nil)))]⟩],true⟩
abbrev ziy.D:Type:=(k233×(Unit))
abbrev k285:Type:=(k233×Unit)
abbrev ziy.R:Type:=((k225×(Unit))⊕(k225×k285))
def ziy (w:W)(d:ziy.D):Option ziy.R:=((w.loopFix (L:=zgs.D) (zgs w) (((),d.1.1,0,()),d.1)).bind fun r3=>(match r3 with| .inl r4=>some ((.inl (r4.1,())))| .inr r5=>some ((.inr (((),(-1),()),r5.2,())))))
theorem ziy.bod:bodyB f104=true:=by kernel_rfl
abbrev zgs.env {α:Type}:Env α:=mE [(133,[⟨zhu.S,(zhu W0),none⟩])] []
theorem zgs.ok (d:zgs.D):lB prog zgs.S zgs.env f104 2 d=(zgs W0) d:=by kernel_rfl
theorem zgs.sok:LSpec.ok zgs.S=true:=by kernel_rfl
theorem zgs.con (base:Nat):rO prog base f104 2 zgs.S (zgs W0):=lK zgs.sok ziy.bod mixed (cC (cc0 zhu.sok (zhu.con base) cn) cN) lN zgs.ok
abbrev ziy.env {α:Type}:Env α:=mE [] [(2,[⟨zgs.S,(zgs W0)⟩])]
theorem ziy.ok (d:ziy.D):fB prog ziy.S ziy.env f104 d=(ziy W0) d:=by kernel_rfl
theorem ziy.sok:FSpec.ok ziy.S=true:=by kernel_rfl
theorem ziy.con (base:Nat):fO prog base 104 ziy.S (ziy W0):=fC (fn:=f104) rfl (by decide) (by kernel_rfl) mixed cN (lC (lc zgs.sok (zgs.con base) ln) lN) ziy.ok
abbrev k17:List (Nat×OPat):=[(50, .var (.hole ty0))]
abbrev zhv.S:FSpec:=⟨⟨k11,[]⟩,[⟨k15,[]⟩,⟨k16,k17⟩],true⟩
abbrev zhv.D:Type:=k284
abbrev k279:Type:=(De0×Unit)
abbrev zhv.R:Type:=((k225×(Unit))⊕(k225×k279))
def zhv (w:W)(d:zhv.D):Option zhv.R:=(bif (w.odec (d.1.1<1)) then some ((.inl (((),1,()),()))) else(bif (w.odec (d.1.1>1048576)) then some ((.inl (((),1,()),()))) else(bif (w.odec (d.1.2.1<1)) then some ((.inl (((),1,()),()))) else(bif (w.odec (d.1.2.1>1099511627776)) then some ((.inl (((),1,()),()))) else some ((.inr (((),0,()),(d.1.1,d.1.2.1,d.1.1,0,()),())))))))
theorem zhv.bod:bodyB f106=true:=by kernel_rfl
abbrev zhv.env {α:Type}:Env α:=mE [] []
theorem zhv.ok (d:zhv.D):fB prog zhv.S zhv.env f106 d=(zhv W0) d:=by kernel_rfl
theorem zhv.sok:FSpec.ok zhv.S=true:=by kernel_rfl
theorem zhv.con (base:Nat):fO prog base 106 zhv.S (zhv W0):=fC (fn:=f106) rfl (by decide) (by kernel_rfl) mixed cN lN zhv.ok
abbrev ziz.S:FSpec:=⟨⟨k11,[]⟩,[⟨k15,[]⟩,⟨k16,k17⟩],true⟩
abbrev ziz.D:Type:=k284
abbrev ziz.R:Type:=((k225×(Unit))⊕(k225×k279))
def ziz (w:W)(d:ziz.D):Option ziz.R:=(bif (w.odec (d.1.1<1)) then some ((.inl (((),1,()),()))) else(bif (w.odec (d.1.1>1048576)) then some ((.inl (((),1,()),()))) else(bif (w.odec (d.1.2.1<1)) then some ((.inl (((),1,()),()))) else(bif (w.odec (d.1.2.1>1099511627776)) then some ((.inl (((),1,()),()))) else some ((.inr (((),0,()),(d.1.1,d.1.2.1,0,0,()),())))))))
theorem ziz.bod:bodyB f107=true:=by kernel_rfl
abbrev ziz.env {α:Type}:Env α:=mE [] []
theorem ziz.ok (d:ziz.D):fB prog ziz.S ziz.env f107 d=(ziz W0) d:=by kernel_rfl
theorem ziz.sok:FSpec.ok ziz.S=true:=by kernel_rfl
theorem ziz.con (base:Nat):fO prog base 107 ziz.S (ziz W0):=fC (fn:=f107) rfl (by decide) (by kernel_rfl) mixed cN lN ziz.ok
abbrev zhw.S:FSpec:=⟨⟨[(0, .hole ty0)],[]⟩,[⟨k12,[]⟩],true⟩
abbrev zhw.D:Type:=(k279×(Unit))
abbrev zhw.R:Type:=k248
def zhw (w:W)(d:zhw.D):Option zhw.R:=(bif (w.odec (d.1.1.1≥0)) then(bif (w.odec (d.1.1.1≤1048576)) then(bif (w.odec (d.1.1.2.1≥0)) then(bif (w.odec (d.1.1.2.2.1≥0)) then(bif (w.odec (d.1.1.2.2.1≤1099511627776)) then(bif (w.odec (d.1.1.2.2.2.1≥0)) then some ((((w.odec (d.1.1.2.2.2.1≤1099511627776)),()),())) else some (((false,()),()))) else some (((false,()),()))) else some (((false,()),()))) else some (((false,()),()))) else some (((false,()),()))) else some (((false,()),())))
theorem zhw.bod:bodyB f132=true:=by kernel_rfl
abbrev zhw.env {α:Type}:Env α:=mE [] []
theorem zhw.ok (d:zhw.D):fB prog zhw.S zhw.env f132 d=(zhw W0) d:=by kernel_rfl
theorem zhw.sok:FSpec.ok zhw.S=true:=by kernel_rfl
theorem zhw.con (base:Nat):fO prog base 132 zhw.S (zhw W0):=fC (fn:=f132) rfl (by decide) (by kernel_rfl) mixed cN lN zhw.ok
abbrev zfa.S:LSpec:=⟨⟨[(9, .hole .bool),(65, .hole (.arr 32 ty0)),(66, .hole (.int .i64))],[]⟩,[⟨[(9, .hole .bool)],[]⟩],[(.exit 0)],f102.ntmps⟩
abbrev zfa.D:Type:=((Bool×(List De0)×Int×Unit)×(Unit))
abbrev zfa.R:Type:=k248
def zfa (w:W)(d:zfa.D):Option (zfa.D⊕zfa.R):=(bif (w.odec (d.1.2.2.1<32)) then(bif w.odec (0≤d.1.2.2.1∧d.1.2.2.1<(32:Nat)) then((d.1.2.1[d.1.2.2.1.toNat]?).bind fun x10=>(bif d.1.1 then(((zhw w) ((x10,()),())).bind fun r11=>some (.inl ((r11.1.1,d.1.2.1,(w.wr .i64 (d.1.2.2.1+1)),()),()))) else some (.inl ((false,d.1.2.1,(w.wr .i64 (d.1.2.2.1+1)),()),())))) else none) else some (.inr ((d.1.1,()),())))
abbrev zgt.S:FSpec:=⟨⟨k10,[]⟩,[⟨k12,[]⟩],true⟩
abbrev zgt.D:Type:=((De2×Unit)×(Unit))
abbrev zgt.R:Type:=k248
def zgt (w:W)(d:zgt.D):Option zgt.R:=(((ziy w) ((d.1.1.1,()),())).bind fun r1=>(match r1 with| .inl r2=>(((zhv w) ((d.1.1.2.2.1,d.1.1.2.2.2.1,()),())).bind fun r4=>(match r4 with| .inl r5=>(((ziz w) ((d.1.1.2.2.2.2.1,d.1.1.2.2.2.2.2.1,()),())).bind fun r7=>(match r7 with| .inl r8=>((w.loopFix (L:=zfa.D) (zfa w) ((false,d.1.1.2.1,0,()),())).bind fun r12=>some (r12))| .inr r9=>((w.loopFix (L:=zfa.D) (zfa w) ((false,d.1.1.2.1,0,()),())).bind fun r13=>some (r13))))| .inr r6=>(((ziz w) ((d.1.1.2.2.2.2.1,d.1.1.2.2.2.2.2.1,()),())).bind fun r14=>(match r14 with| .inl r15=>((w.loopFix (L:=zfa.D) (zfa w) ((false,d.1.1.2.1,0,()),())).bind fun r17=>some (r17))| .inr r16=>((w.loopFix (L:=zfa.D) (zfa w) ((false,d.1.1.2.1,0,()),())).bind fun r18=>some (r18))))))| .inr r3=>(((zhv w) ((d.1.1.2.2.1,d.1.1.2.2.2.1,()),())).bind fun r19=>(match r19 with| .inl r20=>(((ziz w) ((d.1.1.2.2.2.2.1,d.1.1.2.2.2.2.2.1,()),())).bind fun r22=>(match r22 with| .inl r23=>(bif (w.odec (r20.1.2.1=0)) then(bif (w.odec (r23.1.2.1=0)) then(bif (w.odec (d.1.1.2.2.2.2.2.2.1≥1)) then(bif (w.odec (d.1.1.2.2.2.2.2.2.1≤1099511627776)) then(bif (w.odec (d.1.1.2.2.2.2.2.2.2.1≥1)) then((w.loopFix (L:=zfa.D) (zfa w) (((w.odec (d.1.1.2.2.2.2.2.2.2.1≤16)),d.1.1.2.1,0,()),())).bind fun r25=>some (r25)) else((w.loopFix (L:=zfa.D) (zfa w) ((false,d.1.1.2.1,0,()),())).bind fun r26=>some (r26))) else((w.loopFix (L:=zfa.D) (zfa w) ((false,d.1.1.2.1,0,()),())).bind fun r27=>some (r27))) else((w.loopFix (L:=zfa.D) (zfa w) ((false,d.1.1.2.1,0,()),())).bind fun r28=>some (r28))) else((w.loopFix (L:=zfa.D) (zfa w) ((false,d.1.1.2.1,0,()),())).bind fun r29=>some (r29))) else((w.loopFix (L:=zfa.D) (zfa w) ((false,d.1.1.2.1,0,()),())).bind fun r30=>some (r30)))| .inr r24=>(bif (w.odec (r20.1.2.1=0)) then(bif (w.odec (r24.1.2.1=0)) then(bif (w.odec (d.1.1.2.2.2.2.2.2.1≥1)) then(bif (w.odec (d.1.1.2.2.2.2.2.2.1≤1099511627776)) then(bif (w.odec (d.1.1.2.2.2.2.2.2.2.1≥1)) then((w.loopFix (L:=zfa.D) (zfa w) (((w.odec (d.1.1.2.2.2.2.2.2.2.1≤16)),d.1.1.2.1,0,()),())).bind fun r31=>some (r31)) else((w.loopFix (L:=zfa.D) (zfa w) ((false,d.1.1.2.1,0,()),())).bind fun r32=>some (r32))) else((w.loopFix (L:=zfa.D) (zfa w) ((false,d.1.1.2.1,0,()),())).bind fun r33=>some (r33))) else((w.loopFix (L:=zfa.D) (zfa w) ((false,d.1.1.2.1,0,()),())).bind fun r34=>some (r34))) else((w.loopFix (L:=zfa.D) (zfa w) ((false,d.1.1.2.1,0,()),())).bind fun r35=>some (r35))) else((w.loopFix (L:=zfa.D) (zfa w) ((false,d.1.1.2.1,0,()),())).bind fun r36=>some (r36)))))| .inr r21=>(((ziz w) ((d.1.1.2.2.2.2.1,d.1.1.2.2.2.2.2.1,()),())).bind fun r37=>(match r37 with| .inl r38=>(bif (w.odec (r21.1.2.1=0)) then(bif (w.odec (r38.1.2.1=0)) then(bif (w.odec (d.1.1.2.2.2.2.2.2.1≥1)) then(bif (w.odec (d.1.1.2.2.2.2.2.2.1≤1099511627776)) then(bif (w.odec (d.1.1.2.2.2.2.2.2.2.1≥1)) then((w.loopFix (L:=zfa.D) (zfa w) (((w.odec (d.1.1.2.2.2.2.2.2.2.1≤16)),d.1.1.2.1,0,()),())).bind fun r40=>some (r40)) else((w.loopFix (L:=zfa.D) (zfa w) ((false,d.1.1.2.1,0,()),())).bind fun r41=>some (r41))) else((w.loopFix (L:=zfa.D) (zfa w) ((false,d.1.1.2.1,0,()),())).bind fun r42=>some (r42))) else((w.loopFix (L:=zfa.D) (zfa w) ((false,d.1.1.2.1,0,()),())).bind fun r43=>some (r43))) else((w.loopFix (L:=zfa.D) (zfa w) ((false,d.1.1.2.1,0,()),())).bind fun r44=>some (r44))) else((w.loopFix (L:=zfa.D) (zfa w) ((false,d.1.1.2.1,0,()),())).bind fun r45=>some (r45)))| .inr r39=>(bif (w.odec (r21.1.2.1=0)) then(bif (w.odec (r39.1.2.1=0)) then(bif (w.odec (d.1.1.2.2.2.2.2.2.1≥1)) then(bif (w.odec (d.1.1.2.2.2.2.2.2.1≤1099511627776)) then(bif (w.odec (d.1.1.2.2.2.2.2.2.2.1≥1)) then((w.loopFix (L:=zfa.D) (zfa w) (((w.odec (d.1.1.2.2.2.2.2.2.2.1≤16)),d.1.1.2.1,0,()),())).bind fun r46=>some (r46)) else((w.loopFix (L:=zfa.D) (zfa w) ((false,d.1.1.2.1,0,()),())).bind fun r47=>some (r47))) else((w.loopFix (L:=zfa.D) (zfa w) ((false,d.1.1.2.1,0,()),())).bind fun r48=>some (r48))) else((w.loopFix (L:=zfa.D) (zfa w) ((false,d.1.1.2.1,0,()),())).bind fun r49=>some (r49))) else((w.loopFix (L:=zfa.D) (zfa w) ((false,d.1.1.2.1,0,()),())).bind fun r50=>some (r50))) else((w.loopFix (L:=zfa.D) (zfa w) ((false,d.1.1.2.1,0,()),())).bind fun r51=>some (r51)))))))))
theorem zgt.bod:bodyB f102=true:=by kernel_rfl
abbrev zfa.env {α:Type}:Env α:=mE [(132,[⟨zhw.S,(zhw W0),none⟩])] []
theorem zfa.ok (d:zfa.D):lB prog zfa.S zfa.env f102 6 d=(zfa W0) d:=by kernel_rfl
theorem zfa.sok:LSpec.ok zfa.S=true:=by kernel_rfl
theorem zfa.con (base:Nat):rO prog base f102 6 zfa.S (zfa W0):=lK zfa.sok zgt.bod mixed (cC (cc0 zhw.sok (zhw.con base) cn) cN) lN zfa.ok
abbrev zgt.env {α:Type}:Env α:=mE [(104,[⟨ziy.S,(ziy W0),none⟩]),(106,[⟨zhv.S,(zhv W0),none⟩]),(107,[⟨ziz.S,(ziz W0),none⟩])] [(6,[⟨zfa.S,(zfa W0)⟩])]
theorem zgt.ok (d:zgt.D):fB prog zgt.S zgt.env f102 d=(zgt W0) d:=by kernel_rfl
theorem zgt.sok:FSpec.ok zgt.S=true:=by kernel_rfl
theorem zgt.con (base:Nat):fO prog base 102 zgt.S (zgt W0):=fC (fn:=f102) rfl (by decide) (by kernel_rfl) mixed (cC (cc0 ziy.sok (ziy.con base) cn) (cC (cc0 zhv.sok (zhv.con base) cn) (cC (cc0 ziz.sok (ziz.con base) cn) cN))) (lC (lc zfa.sok (zfa.con base) ln) lN) zgt.ok
abbrev zi0.S:FSpec:=⟨⟨[],[]⟩,[⟨[(0, .ptr 50)],[(50, .var (.hole (.cons (.arr 32 (.arr 8 (.int .i64))) (.cons (.arr 32 (.arr 8 (.int .i64))) .nil))))]⟩],true⟩
abbrev k266:Type:=((Unit)×(Unit))
abbrev zi0.D:Type:=k266
abbrev k215:Type:=((List (List Int))×(List (List Int))×Unit)
abbrev k262:Type:=(k215×Unit)
abbrev zi0.R:Type:=(k221×k262)
def zi0 (w:W)(d:zi0.D):Option zi0.R:=some ((((),()),((List.replicate 32 (List.replicate 8 (0:Int))),(List.replicate 32 (List.replicate 8 (0:Int))),()),()))
theorem zi0.bod:bodyB f103=true:=by kernel_rfl
abbrev zi0.env {α:Type}:Env α:=mE [] []
theorem zi0.ok (d:zi0.D):fB prog zi0.S zi0.env f103 d=(zi0 W0) d:=by kernel_rfl
theorem zi0.sok:FSpec.ok zi0.S=true:=by kernel_rfl
theorem zi0.con (base:Nat):fO prog base 103 zi0.S (zi0 W0):=fC (fn:=f103) rfl (by decide) (by kernel_rfl) mixed cN lN zi0.ok
abbrev k143:Nat×OPat:=(51, .row (.ref 197))
abbrev k144:Nat×OPat:=(52, .row (.ref 197))
abbrev k145:Nat×OPat:=(SB+197, .store ep197)
abbrev zi1.S:FSpec:=⟨⟨[],[]⟩,[⟨[(0, .ptr 50)],[(50, .var (.agg [.agg [.own 51, .own 52], .hole (.int .i64), .hole (.int .i64)])),k143,k144,k145]⟩],true⟩
abbrev zi1.D:Type:=k266
abbrev k213:Type:=(k228×Int×Int×Unit)
abbrev k214:Type:=(k213×(List Nat)×(List Nat)×(List E197)×Unit)
abbrev zi1.R:Type:=(k221×k214)
def zi1 (w:W)(d:zi1.D):Option zi1.R:=some ((((),()),(((),(),()),0,0,()),([]:List Nat),([]:List Nat),([]:List E197),()))
theorem zi1.bod:bodyB f134=true:=by kernel_rfl
abbrev zi1.env {α:Type}:Env α:=mE [] []
theorem zi1.ok (d:zi1.D):fB prog zi1.S zi1.env f134 d=(zi1 W0) d:=by kernel_rfl
theorem zi1.sok:FSpec.ok zi1.S=true:=by kernel_rfl
theorem zi1.con (base:Nat):fO prog base 134 zi1.S (zi1 W0):=fC (fn:=f134) rfl (by decide) (by kernel_rfl) mixed cN lN zi1.ok
abbrev zh8.S:FSpec:=⟨⟨[],[]⟩,[⟨[(0, .ptr 50)],[(50, .var (.agg [.ptr 51, .own 54])),(51, .var (.agg [.agg [.own 52, .own 53], .hole (.int .i64), .hole (.int .i64)])),k144,(53, .row (.ref 197)),(54, .row ty3),k145]⟩],true⟩
abbrev zh8.D:Type:=k266
abbrev k218:Type:=(k228×k213×(List Nat)×(List Nat)×(List De3)×(List E197)×Unit)
abbrev zh8.R:Type:=(k221×k218)
def zh8 (w:W)(d:zh8.D):Option zh8.R:=(((zi1 w) ((),())).bind fun r1=>some ((((),()),((),(),()),r1.2.1,r1.2.2.1,r1.2.2.2.1,([]:List De3),r1.2.2.2.2)))
theorem zh8.bod:bodyB f105=true:=by kernel_rfl
abbrev zh8.env {α:Type}:Env α:=mE [(134,[⟨zi1.S,(zi1 W0),none⟩])] []
theorem zh8.ok (d:zh8.D):fB prog zh8.S zh8.env f105 d=(zh8 W0) d:=by kernel_rfl
theorem zh8.sok:FSpec.ok zh8.S=true:=by kernel_rfl
theorem zh8.con (base:Nat):fO prog base 105 zh8.S (zh8 W0):=fC (fn:=f105) rfl (by decide) (by kernel_rfl) mixed (cC (cc0 zi1.sok (zi1.con base) cn) cN) lN zh8.ok
abbrev k146:Nat×Pat:=(23, .hole (.int .i64))
abbrev k203:Nat×OPat:=(1, .var (.agg [.hole ty2, .hole (.int .i64), .ptr 2, .hole ty4, .hole (.arr 8 (.ref 135)), .ptr 3, .hole (.arr 32 (.ref 255)), .hole (.arr 32 (.ref 168))]))
abbrev k204:Nat×OPat:=(2, .var (.hole (.cons (.arr 32 ty1) .nil)))
abbrev k205:Nat×OPat:=(3, .var (.hole (.cons (.arr 32 (.arr 8 (.int .i64))) (.cons (.arr 32 (.arr 8 (.int .i64))) .nil))))
abbrev k147:Nat×OPat:=(SB+135, .store ep135)
abbrev k148:Nat×OPat:=(SB+168, .store ep168)
abbrev k149:Nat×OPat:=(SB+255, .store ep255)
abbrev k18:List (Nat×OPat):=[(0, .var (.hole ty2)),k203,k204,k205,k147,k148,k149]
abbrev zgb.S:LSpec:=⟨⟨[(1, .ptr 0),(4, .ptr 1),k146],k18⟩,[⟨[(1, .ptr 0),(4, .ptr 1)],k18⟩],[(.exit 0)],f73.ntmps⟩
abbrev k216:Type:=(De2×Int×Unit×De4×(List Nat)×Unit×(List Nat)×(List Nat)×Unit)
abbrev k250:Type:=(De2×k216×k233×k215×(List E135)×(List E168)×(List E255)×Unit)
abbrev zgb.D:Type:=((Unit×Unit×Int×Unit)×k250)
abbrev zgb.R:Type:=(k228×k250)
def zgb (w:W)(d:zgb.D):Option (zgb.D⊕zgb.R):=(bif (w.odec (d.1.2.2.1<8)) then(((zh8 w) ((),())).bind fun r6=>(bif w.odec (0≤d.1.2.2.1∧d.1.2.2.1<(8:Nat)) then((d.2.2.1.2.2.2.2.1[d.1.2.2.1.toNat]?).bind fun x7=>some (.inl (((),(),(w.wr .i64 (d.1.2.2.1+1)),()),d.2.1,(d.2.2.1.1,d.2.2.1.2.1,(),d.2.2.1.2.2.2.1,(d.2.2.1.2.2.2.2.1.set d.1.2.2.1.toNat (d.2.2.2.2.2.1.length+1)),d.2.2.1.2.2.2.2.2),d.2.2.2.1,d.2.2.2.2.1,(d.2.2.2.2.2.1++ [r6.2]),d.2.2.2.2.2.2))) else none)) else some (.inr (((),(),()),d.2)))
abbrev zfs.S:LSpec:=⟨⟨[(1, .ptr 0),(4, .ptr 1),(33, .hole (.int .i64))],k18⟩,[⟨[(4, .ptr 1)],k18⟩],[(.exit 2)],f73.ntmps⟩
abbrev zfs.D:Type:=((Unit×Unit×Int×Unit)×k250)
abbrev zfs.R:Type:=(k221×k250)
def zfs (w:W)(d:zfs.D):Option (zfs.D⊕zfs.R):=(bif (w.odec (d.1.2.2.1<32)) then(((zhv w) ((d.2.1.2.2.1,d.2.1.2.2.2.1,()),())).bind fun r9=>(match r9 with| .inl r10=>(bif w.odec (0≤d.1.2.2.1∧d.1.2.2.1<(32:Nat)) then((d.2.2.1.2.2.2.2.2.2.1[d.1.2.2.1.toNat]?).bind fun x12=>(((ziz w) ((d.2.1.2.2.2.2.1,d.2.1.2.2.2.2.2.1,()),())).bind fun r13=>(match r13 with| .inl r14=>(bif w.odec (0≤d.1.2.2.1∧d.1.2.2.1<(32:Nat)) then((d.2.2.1.2.2.2.2.2.2.2.1[d.1.2.2.1.toNat]?).bind fun x16=>some (.inl (((),(),(w.wr .i64 (d.1.2.2.1+1)),()),d.2.1,(d.2.2.1.1,d.2.2.1.2.1,(),d.2.2.1.2.2.2.1,d.2.2.1.2.2.2.2.1,(),(d.2.2.1.2.2.2.2.2.2.1.set d.1.2.2.1.toNat (0:Nat)),(d.2.2.1.2.2.2.2.2.2.2.1.set d.1.2.2.1.toNat (0:Nat)),()),d.2.2.2))) else none)| .inr r15=>(bif w.odec (0≤d.1.2.2.1∧d.1.2.2.1<(32:Nat)) then((d.2.2.1.2.2.2.2.2.2.2.1[d.1.2.2.1.toNat]?).bind fun x17=>some (.inl (((),(),(w.wr .i64 (d.1.2.2.1+1)),()),d.2.1,(d.2.2.1.1,d.2.2.1.2.1,(),d.2.2.1.2.2.2.1,d.2.2.1.2.2.2.2.1,(),(d.2.2.1.2.2.2.2.2.2.1.set d.1.2.2.1.toNat (0:Nat)),(d.2.2.1.2.2.2.2.2.2.2.1.set d.1.2.2.1.toNat (d.2.2.2.2.2.2.1.length+1)),()),d.2.2.2.1,d.2.2.2.2.1,d.2.2.2.2.2.1,(d.2.2.2.2.2.2.1++ [r15.2]),d.2.2.2.2.2.2.2))) else none)))) else none)| .inr r11=>(bif w.odec (0≤d.1.2.2.1∧d.1.2.2.1<(32:Nat)) then((d.2.2.1.2.2.2.2.2.2.1[d.1.2.2.1.toNat]?).bind fun x18=>(((ziz w) ((d.2.1.2.2.2.2.1,d.2.1.2.2.2.2.2.1,()),())).bind fun r19=>(match r19 with| .inl r20=>(bif w.odec (0≤d.1.2.2.1∧d.1.2.2.1<(32:Nat)) then((d.2.2.1.2.2.2.2.2.2.2.1[d.1.2.2.1.toNat]?).bind fun x22=>some (.inl (((),(),(w.wr .i64 (d.1.2.2.1+1)),()),d.2.1,(d.2.2.1.1,d.2.2.1.2.1,(),d.2.2.1.2.2.2.1,d.2.2.1.2.2.2.2.1,(),(d.2.2.1.2.2.2.2.2.2.1.set d.1.2.2.1.toNat (d.2.2.2.2.2.2.2.1.length+1)),(d.2.2.1.2.2.2.2.2.2.2.1.set d.1.2.2.1.toNat (0:Nat)),()),d.2.2.2.1,d.2.2.2.2.1,d.2.2.2.2.2.1,d.2.2.2.2.2.2.1,(d.2.2.2.2.2.2.2.1++ [r11.2]),()))) else none)| .inr r21=>(bif w.odec (0≤d.1.2.2.1∧d.1.2.2.1<(32:Nat)) then((d.2.2.1.2.2.2.2.2.2.2.1[d.1.2.2.1.toNat]?).bind fun x23=>some (.inl (((),(),(w.wr .i64 (d.1.2.2.1+1)),()),d.2.1,(d.2.2.1.1,d.2.2.1.2.1,(),d.2.2.1.2.2.2.1,d.2.2.1.2.2.2.2.1,(),(d.2.2.1.2.2.2.2.2.2.1.set d.1.2.2.1.toNat (d.2.2.2.2.2.2.2.1.length+1)),(d.2.2.1.2.2.2.2.2.2.2.1.set d.1.2.2.1.toNat (d.2.2.2.2.2.2.1.length+1)),()),d.2.2.2.1,d.2.2.2.2.1,d.2.2.2.2.2.1,(d.2.2.2.2.2.2.1++ [r21.2]),(d.2.2.2.2.2.2.2.1++ [r11.2]),()))) else none)))) else none))) else some (.inr (((),()),d.2)))
abbrev zh9.S:FSpec:=⟨⟨k10,[]⟩,[⟨k15,[]⟩,⟨k16,[(50, .var (.agg [.hole ty2, .hole (.int .i64), .ptr 51, .hole ty4, .hole (.arr 8 (.ref 135)), .ptr 52, .hole (.arr 32 (.ref 255)), .hole (.arr 32 (.ref 168))])),(51, .var (.hole (.cons (.arr 32 ty1) .nil))),(52, .var (.hole (.cons (.arr 32 (.arr 8 (.int .i64))) (.cons (.arr 32 (.arr 8 (.int .i64))) .nil)))),k147,k148,k149]⟩],true⟩
abbrev zh9.D:Type:=((De2×Unit)×(Unit))
abbrev k211:Type:=(k216×k233×k215×(List E135)×(List E168)×(List E255)×Unit)
abbrev zh9.R:Type:=((k225×(Unit))⊕(k225×k211))
def zh9 (w:W)(d:zh9.D):Option zh9.R:=(((zgt w) d).bind fun r1=>(bif (!r1.1.1) then some ((.inl (((),1,()),()))) else(((zi0 w) ((),())).bind fun r2=>(((ziy w) ((d.1.1.1,()),())).bind fun r3=>(match r3 with| .inl r4=>none| .inr r5=>((w.loopFix (L:=zgb.D) (zgb w) (((),(),0,()),d.1.1,(d.1.1,0,(),((List.replicate 8 false),(List.replicate 8 false),(List.replicate 8 (0:Int)),()),(List.replicate 8 (0:Nat)),(),(List.replicate 32 (0:Nat)),(List.replicate 32 (0:Nat)),()),r5.2.1,r2.2.1,([]:List E135),([]:List E168),([]:List E255),())).bind fun r8=>((w.loopFix (L:=zfs.D) (zfs w) (((),(),0,()),r8.2)).bind fun r24=>some ((.inr (((),0,()),r24.2.2))))))))))
theorem zh9.bod:bodyB f73=true:=by kernel_rfl
abbrev zgb.env {α:Type}:Env α:=mE [(105,[⟨zh8.S,(zh8 W0),some (0,135,ep135)⟩])] []
theorem zgb.ok (d:zgb.D):lB prog zgb.S zgb.env f73 6 d=(zgb W0) d:=by kernel_rfl
theorem zgb.sok:LSpec.ok zgb.S=true:=by kernel_rfl
theorem zgb.con (base:Nat):rO prog base f73 6 zgb.S (zgb W0):=lK zgb.sok zh9.bod mixed (cC (cc0 zh8.sok (zh8.con base) cn) cN) lN zgb.ok
abbrev zfs.env {α:Type}:Env α:=mE [(106,[⟨zhv.S,(zhv W0),some (0,255,ep255)⟩]),(107,[⟨ziz.S,(ziz W0),some (0,168,ep168)⟩])] []
theorem zfs.ok (d:zfs.D):lB prog zfs.S zfs.env f73 11 d=(zfs W0) d:=by kernel_rfl
theorem zfs.sok:LSpec.ok zfs.S=true:=by kernel_rfl
theorem zfs.con (base:Nat):rO prog base f73 11 zfs.S (zfs W0):=lK zfs.sok zh9.bod mixed (cC (cc0 zhv.sok (zhv.con base) cn) (cC (cc0 ziz.sok (ziz.con base) cn) cN)) lN zfs.ok
abbrev zh9.env {α:Type}:Env α:=mE [(102,[⟨zgt.S,(zgt W0),none⟩]),(103,[⟨zi0.S,(zi0 W0),none⟩]),(104,[⟨ziy.S,(ziy W0),none⟩])] [(6,[⟨zgb.S,(zgb W0)⟩]),(11,[⟨zfs.S,(zfs W0)⟩])]
theorem zh9.ok (d:zh9.D):fB prog zh9.S zh9.env f73 d=(zh9 W0) d:=by kernel_rfl
theorem zh9.sok:FSpec.ok zh9.S=true:=by kernel_rfl
theorem zh9.con (base:Nat):fO prog base 73 zh9.S (zh9 W0):=fC (fn:=f73) rfl (by decide) (by kernel_rfl) mixed (cC (cc0 zgt.sok (zgt.con base) cn) (cC (cc0 zi0.sok (zi0.con base) cn) (cC (cc0 ziy.sok (ziy.con base) cn) cN))) (lC (lc zgb.sok (zgb.con base) ln) (lC (lc zfs.sok (zfs.con base) ln) lN)) zh9.ok
abbrev zia.S:FSpec:=⟨⟨[],[]⟩,[⟨[(0, .ptr 50)],[(50, .var (.hole ty5))]⟩],false⟩
abbrev zia.D:Type:=k266
abbrev zia.R:Type:=(k221×(De5×Unit))
def zia (w:W)(d:zia.D):Option zia.R:=some ((((),()),(([]:List Int),(List.replicate 32 (0:Int)),0,()),()))
theorem zia.bod:bodyB f74=true:=by kernel_rfl
abbrev zia.env {α:Type}:Env α:=mE [] []
theorem zia.ok (d:zia.D):fB prog zia.S zia.env f74 d=(zia W0) d:=by kernel_rfl
theorem zia.sok:FSpec.ok zia.S=true:=by kernel_rfl
theorem zia.con (base:Nat):fO prog base 74 zia.S (zia W0):=fC (fn:=f74) rfl (by decide) (by kernel_rfl) mixed cN lN zia.ok
abbrev zib.S:FSpec:=⟨⟨[],[]⟩,[⟨[(0, .ptr 50)],[(50, .var (.hole (.cons (.arr 4 ty6) .nil)))]⟩],true⟩
abbrev zib.D:Type:=k266
abbrev zib.R:Type:=(k221×(((List De6)×Unit)×Unit))
def zib (w:W)(d:zib.D):Option zib.R:=some ((((),()),((List.replicate 4 ((),(),(0:Int),())),()),()))
theorem zib.bod:bodyB f75=true:=by kernel_rfl
abbrev zib.env {α:Type}:Env α:=mE [] []
theorem zib.ok (d:zib.D):fB prog zib.S zib.env f75 d=(zib W0) d:=by kernel_rfl
theorem zib.sok:FSpec.ok zib.S=true:=by kernel_rfl
theorem zib.con (base:Nat):fO prog base 75 zib.S (zib W0):=fC (fn:=f75) rfl (by decide) (by kernel_rfl) mixed cN lN zib.ok
abbrev zgu.S:FSpec:=⟨⟨[],[]⟩,[⟨[(0, .ptr 50)],[(50, .var (.hole ty7))]⟩],true⟩
abbrev zgu.D:Type:=k266
abbrev k264:Type:=(De7×Unit)
abbrev zgu.R:Type:=(k221×k264)
def zgu (w:W)(d:zgu.D):Option zgu.R:=some ((((),()),(0,0,(List.replicate 32 (0:Int)),0,0,()),()))
theorem zgu.bod:bodyB f76=true:=by kernel_rfl
abbrev zgu.env {α:Type}:Env α:=mE [] []
theorem zgu.ok (d:zgu.D):fB prog zgu.S zgu.env f76 d=(zgu W0) d:=by kernel_rfl
theorem zgu.sok:FSpec.ok zgu.S=true:=by kernel_rfl
theorem zgu.con (base:Nat):fO prog base 76 zgu.S (zgu W0):=fC (fn:=f76) rfl (by decide) (by kernel_rfl) mixed cN lN zgu.ok
abbrev k19:List (Nat×OPat):=[(50, .var (.hole (.cons (.deep (.int .u8)) (.cons .bool .nil))))]
abbrev zic.S:FSpec:=⟨⟨[],[]⟩,[⟨[(0, .ptr 50)],k19⟩],false⟩
abbrev zic.D:Type:=k266
abbrev k244:Type:=((List Int)×Bool×Unit)
abbrev k240:Type:=(k244×Unit)
abbrev zic.R:Type:=(k221×k240)
def zic (w:W)(d:zic.D):Option zic.R:=some ((((),()),(([]:List Int),false,()),()))
theorem zic.bod:bodyB f55=true:=by kernel_rfl
abbrev zic.env {α:Type}:Env α:=mE [] []
theorem zic.ok (d:zic.D):fB prog zic.S zic.env f55 d=(zic W0) d:=by kernel_rfl
theorem zic.sok:FSpec.ok zic.S=true:=by kernel_rfl
theorem zic.con (base:Nat):fO prog base 55 zic.S (zic W0):=fC (fn:=f55) rfl (by decide) (by kernel_rfl) mixed cN lN zic.ok
abbrev zi8.S:FSpec:=⟨⟨[],[]⟩,[⟨[(0, .ptr 50)],k19⟩],false⟩
abbrev zi8.D:Type:=k266
abbrev zi8.R:Type:=(k221×k240)
def zi8 (w:W)(d:zi8.D):Option zi8.R:=some ((((),()),(([]:List Int),false,()),()))
theorem zi8.bod:bodyB f56=true:=by kernel_rfl
abbrev zi8.env {α:Type}:Env α:=mE [] []
theorem zi8.ok (d:zi8.D):fB prog zi8.S zi8.env f56 d=(zi8 W0) d:=by kernel_rfl
theorem zi8.sok:FSpec.ok zi8.S=true:=by kernel_rfl
theorem zi8.con (base:Nat):fO prog base 56 zi8.S (zi8 W0):=fC (fn:=f56) rfl (by decide) (by kernel_rfl) mixed cN lN zi8.ok
abbrev k150:Nat×Pat:=(21, .hole (.int .i64))
abbrev k151:Nat×OPat:=(SB+185, .store ep185)
abbrev k152:Nat×OPat:=(SB+187, .store ep187)
abbrev k153:Nat×OPat:=(SB+189, .store ep189)
abbrev k20:List (Nat×OPat):=[(0, .var (.agg [.ptr 1, .hole (.arr 16 ty8), .ptr 4, .ptr 5])),k203,k204,k205,(4, .var (.hole ty5)),(5, .var (.hole (.cons (.arr 4 ty6) .nil))),k147,k148,k151,k152,k153,k149]
abbrev zgc.S:LSpec:=⟨⟨[(6, .ptr 0),k150],k20⟩,[⟨[(6, .ptr 0)],k20⟩],[(.exit 0)],f44.ntmps⟩
abbrev k210:Type:=((Unit×(List De8)×Unit×Unit×Unit)×k216×k233×k215×De5×((List De6)×Unit)×(List E135)×(List E168)×(List E185)×(List E187)×(List E189)×(List E255)×Unit)
abbrev k289:Type:=(k225×k210)
abbrev zgc.D:Type:=k289
abbrev zgc.R:Type:=(k221×k210)
def zgc (w:W)(d:zgc.D):Option (zgc.D⊕zgc.R):=(bif (w.odec (d.1.2.1<16)) then(((zgu w) ((),())).bind fun r8=>(((zic w) ((),())).bind fun r9=>(((zi8 w) ((),())).bind fun r10=>(bif w.odec (0≤d.1.2.1∧d.1.2.1<(16:Nat)) then((d.2.1.2.1[d.1.2.1.toNat]?).bind fun x11=>some (.inl (((),(w.wr .i64 (d.1.2.1+1)),()),((),(d.2.1.2.1.set d.1.2.1.toNat ((d.2.2.2.2.2.2.2.2.2.1.length+1),(d.2.2.2.2.2.2.2.2.2.2.1.length+1),(d.2.2.2.2.2.2.2.2.2.2.2.1.length+1),())),(),(),()),d.2.2.1,d.2.2.2.1,d.2.2.2.2.1,d.2.2.2.2.2.1,d.2.2.2.2.2.2.1,d.2.2.2.2.2.2.2.1,d.2.2.2.2.2.2.2.2.1,(d.2.2.2.2.2.2.2.2.2.1++ [r8.2]),(d.2.2.2.2.2.2.2.2.2.2.1++ [r9.2]),(d.2.2.2.2.2.2.2.2.2.2.2.1++ [r10.2]),d.2.2.2.2.2.2.2.2.2.2.2.2))) else none)))) else some (.inr (((),()),d.2)))
abbrev zid.S:FSpec:=⟨⟨k10,[]⟩,[⟨k15,[]⟩,⟨k16,[(50, .var (.agg [.ptr 51, .hole (.arr 16 ty8), .ptr 54, .ptr 55])),(51, .var (.agg [.hole ty2, .hole (.int .i64), .ptr 52, .hole ty4, .hole (.arr 8 (.ref 135)), .ptr 53, .hole (.arr 32 (.ref 255)), .hole (.arr 32 (.ref 168))])),(52, .var (.hole (.cons (.arr 32 ty1) .nil))),(53, .var (.hole (.cons (.arr 32 (.arr 8 (.int .i64))) (.cons (.arr 32 (.arr 8 (.int .i64))) .nil)))),(54, .var (.hole ty5)),(55, .var (.hole (.cons (.arr 4 ty6) .nil))),k147,k148,k151,k152,k153,k149]⟩],false⟩
abbrev zid.D:Type:=((De2×Unit)×(Unit))
abbrev zid.R:Type:=((k225×(Unit))⊕k289)
def zid (w:W)(d:zid.D):Option zid.R:=(((zh9 w) d).bind fun r1=>(match r1 with| .inl r2=>(bif (!w.odec (r2.1.2.1=0)) then some ((.inl r2)) else none)| .inr r3=>(bif (!w.odec (r3.1.2.1=0)) then some ((.inl (r3.1,()))) else(((zia w) ((),())).bind fun r6=>(((zib w) ((),())).bind fun r7=>((w.loopFix (L:=zgc.D) (zgc w) (((),0,()),((),(List.replicate 16 ((0:Nat),(0:Nat),(0:Nat),())),(),(),()),r3.2.1,r3.2.2.1,r3.2.2.2.1,r6.2.1,r7.2.1,r3.2.2.2.2.1,r3.2.2.2.2.2.1,([]:List E185),([]:List E187),([]:List E189),r3.2.2.2.2.2.2)).bind fun r12=>some ((.inr (((),0,()),r12.2)))))))))
theorem zid.bod:bodyB f44=true:=by kernel_rfl
abbrev zgc.env {α:Type}:Env α:=mE [(76,[⟨zgu.S,(zgu W0),some (0,185,ep185)⟩]),(55,[⟨zic.S,(zic W0),some (0,187,ep187)⟩]),(56,[⟨zi8.S,(zi8 W0),some (0,189,ep189)⟩])] []
theorem zgc.ok (d:zgc.D):lB prog zgc.S zgc.env f44 6 d=(zgc W0) d:=by kernel_rfl
theorem zgc.sok:LSpec.ok zgc.S=true:=by kernel_rfl
theorem zgc.con (base:Nat):rO prog base f44 6 zgc.S (zgc W0):=lK zgc.sok zid.bod mixed (cC (cc0 zgu.sok (zgu.con base) cn) (cC (cc0 zic.sok (zic.con base) cn) (cC (cc0 zi8.sok (zi8.con base) cn) cN))) lN zgc.ok
abbrev zid.env {α:Type}:Env α:=mE [(73,[⟨zh9.S,(zh9 W0),none⟩]),(74,[⟨zia.S,(zia W0),none⟩]),(75,[⟨zib.S,(zib W0),none⟩])] [(6,[⟨zgc.S,(zgc W0)⟩])]
theorem zid.ok (d:zid.D):fB prog zid.S zid.env f44 d=(zid W0) d:=by kernel_rfl
theorem zid.sok:FSpec.ok zid.S=true:=by kernel_rfl
theorem zid.con (base:Nat):fO prog base 44 zid.S (zid W0):=fC (fn:=f44) rfl (by decide) (by kernel_rfl) mixed (cC (cc0 zh9.sok (zh9.con base) cn) (cC (cc0 zia.sok (zia.con base) cn) (cC (cc0 zib.sok (zib.con base) cn) cN))) (lC (lc zgc.sok (zgc.con base) ln) lN) zid.ok
abbrev k21:List (Nat×Pat):=[(0, .const (.pointer none))]
abbrev zft.S:FSpec:=⟨⟨k9,[]⟩,[⟨k21,[]⟩,⟨[(0, .ptr 50)],[(50, .var (.agg [.ptr 51, .hole (.arr 16 (.int .i64))])),(51, .var (.agg [.ptr 52, .hole (.arr 16 ty8), .ptr 55, .ptr 56])),(52, .var (.agg [.hole ty2, .hole (.int .i64), .ptr 53, .hole ty4, .hole (.arr 8 (.ref 135)), .ptr 54, .hole (.arr 32 (.ref 255)), .hole (.arr 32 (.ref 168))])),(53, .var (.hole (.cons (.arr 32 ty1) .nil))),(54, .var (.hole (.cons (.arr 32 (.arr 8 (.int .i64))) (.cons (.arr 32 (.arr 8 (.int .i64))) .nil)))),(55, .var (.hole ty5)),(56, .var (.hole (.cons (.arr 4 ty6) .nil))),k147,k148,k151,k152,k153,k149]⟩],false⟩
abbrev zft.D:Type:=k256
abbrev k280:Type:=(Unit×(List Int)×Unit)
abbrev zft.R:Type:=((k221×(Unit))⊕(k221×(k280×(Unit×(List De8)×Unit×Unit×Unit)×k216×k233×k215×De5×((List De6)×Unit)×(List E135)×(List E168)×(List E185)×(List E187)×(List E189)×(List E255)×Unit)))
def zft (w:W)(d:zft.D):Option zft.R:=(((zc3 w) d).bind fun r1=>(((zid w) r1).bind fun r2=>(match r2 with| .inl r3=>some ((.inl (((),()),())))| .inr r4=>(bif (!w.odec (r4.1.2.1=0)) then some ((.inl (((),()),()))) else some ((.inr (((),()),((),(List.replicate 16 (0:Int)),()),r4.2)))))))
theorem zft.bod:bodyB f12=true:=by kernel_rfl
abbrev zft.env {α:Type}:Env α:=mE [(11,[⟨zc3.S,(zc3 W0),none⟩]),(44,[⟨zid.S,(zid W0),none⟩])] []
theorem zft.ok (d:zft.D):fB prog zft.S zft.env f12 d=(zft W0) d:=by kernel_rfl
theorem zft.sok:FSpec.ok zft.S=true:=by kernel_rfl
theorem zft.con (base:Nat):fO prog base 12 zft.S (zft W0):=fC (fn:=f12) rfl (by decide) (by kernel_rfl) mixed (cC (cc0 zc3.sok (zc3.con base) cn) (cC (cc0 zid.sok (zid.con base) cn) cN)) lN zft.ok
abbrev zcf.S:LSpec:=⟨⟨k4,k5⟩,[⟨k6,k5⟩],[(.exit 0)],f45.ntmps⟩
abbrev zcf.D:Type:=((Int×Unit×Unit×Int×Unit)×k237)
abbrev zcf.R:Type:=(k228×k237)
def zcf (w:W)(d:zcf.D):Option (zcf.D⊕zcf.R):=(bif (w.odec (d.1.2.2.2.1<32)) then(bif w.odec (0≤d.1.2.2.2.1∧d.1.2.2.2.1<(32:Nat)) then((d.2.2.1[d.1.2.2.2.1.toNat]?).bind fun x1=>some (.inl ((d.1.1,(),(),(w.wr .i64 (d.1.2.2.2.1+1)),()),d.2.1,(d.2.2.1.set d.1.2.2.2.1.toNat (w.wr .u8 (w.wr .i64 (d.1.1+d.1.2.2.2.1)))),()))) else none) else some (.inr (((),(),()),d.2)))
abbrev zen.S:FSpec:=⟨⟨k2,[]⟩,[⟨k7,[]⟩],true⟩
abbrev zen.D:Type:=k263
abbrev zen.R:Type:=k256
def zen (w:W)(d:zen.D):Option zen.R:=((w.loopFix (L:=zcf.D) (zcf w) ((d.1.1,(),(),0,()),(List.replicate 32 (0:Int)),(List.replicate 32 (0:Int)),())).bind fun r2=>some ((r2.2.2,())))
theorem zen.bod:bodyB f45=true:=by kernel_rfl
abbrev zcf.env {α:Type}:Env α:=mE [] []
theorem zcf.ok (d:zcf.D):lB prog zcf.S zcf.env f45 3 d=(zcf W0) d:=by kernel_rfl
theorem zcf.sok:LSpec.ok zcf.S=true:=by kernel_rfl
theorem zcf.con (base:Nat):rO prog base f45 3 zcf.S (zcf W0):=lK zcf.sok zen.bod mixed cN lN zcf.ok
abbrev zen.env {α:Type}:Env α:=mE [] [(3,[⟨zcf.S,(zcf W0)⟩])]
theorem zen.ok (d:zen.D):fB prog zen.S zen.env f45 d=(zen W0) d:=by kernel_rfl
theorem zen.sok:FSpec.ok zen.S=true:=by kernel_rfl
theorem zen.con (base:Nat):fO prog base 45 zen.S (zen W0):=fC (fn:=f45) rfl (by decide) (by kernel_rfl) mixed cN (lC (lc zcf.sok (zcf.con base) ln) lN) zen.ok
abbrev k182:Nat×OPat:=(0, .var (.agg [.hole ty2, .hole (.int .i64), .ptr 1, .hole ty4, .hole (.arr 8 (.ref 135)), .ptr 2, .hole (.arr 32 (.ref 255)), .hole (.arr 32 (.ref 168))]))
abbrev k183:Nat×OPat:=(1, .var (.hole (.cons (.arr 32 ty1) .nil)))
abbrev k184:Nat×OPat:=(2, .var (.hole (.cons (.arr 32 (.arr 8 (.int .i64))) (.cons (.arr 32 (.arr 8 (.int .i64))) .nil))))
abbrev k22:List (Nat×OPat):=[k182,k183,k184,k147,k148,k149]
abbrev zeo.S:FSpec:=⟨⟨[(0, .ptr 0)],k22⟩,[⟨k2,k22⟩],true⟩
abbrev zeo.D:Type:=(k221×k211)
abbrev zeo.R:Type:=(k231×k211)
def zeo (w:W)(d:zeo.D):Option zeo.R:=some (((d.2.1.2.1,()),d.2))
theorem zeo.bod:bodyB f21=true:=by kernel_rfl
abbrev zeo.env {α:Type}:Env α:=mE [] []
theorem zeo.ok (d:zeo.D):fB prog zeo.S zeo.env f21 d=(zeo W0) d:=by kernel_rfl
theorem zeo.sok:FSpec.ok zeo.S=true:=by kernel_rfl
theorem zeo.con (base:Nat):fO prog base 21 zeo.S (zeo W0):=fC (fn:=f21) rfl (by decide) (by kernel_rfl) mixed cN lN zeo.ok
abbrev k23:List (Nat×Pat):=[(0, .ptr 0),k138]
abbrev k24:List (Nat×OPat):=[(0, .var (.hole (.cons (.arr 32 ty1) .nil)))]
abbrev zep.S:FSpec:=⟨⟨k23,k24⟩,[⟨k12,k24⟩],true⟩
abbrev zep.D:Type:=(k225×k285)
abbrev zep.R:Type:=(k229×k285)
def zep (w:W)(d:zep.D):Option zep.R:=(((zgr w) ((d.1.2.1,31,()),())).bind fun r1=>(bif r1.1.1 then(bif w.odec (0≤d.1.2.1∧d.1.2.1<(32:Nat)) then((d.2.1.1[d.1.2.1.toNat]?).bind fun x2=>some ((((!w.odec (x2.2.2.1=0)),()),d.2))) else none) else some (((false,()),d.2))))
theorem zep.bod:bodyB f178=true:=by kernel_rfl
abbrev zep.env {α:Type}:Env α:=mE [(169,[⟨zgr.S,(zgr W0),none⟩])] []
theorem zep.ok (d:zep.D):fB prog zep.S zep.env f178 d=(zep W0) d:=by kernel_rfl
theorem zep.sok:FSpec.ok zep.S=true:=by kernel_rfl
theorem zep.con (base:Nat):fO prog base 178 zep.S (zep W0):=fC (fn:=f178) rfl (by decide) (by kernel_rfl) mixed (cC (cc0 zgr.sok (zgr.con base) cn) cN) lN zep.ok
abbrev k155:Nat×OPat:=(0, .var (.hole ty9))
abbrev k25:List (Nat×OPat):=[k155]
abbrev zi2.S:FSpec:=⟨⟨[(0, .pth 0 [.fld 1])],k25⟩,[⟨[(0, .agg [.pth 0 [.fld 1], .hole (.int .i64), .hole (.int .i64), .hole (.int .i64)])],k25⟩],true⟩
abbrev k265:Type:=(De9×Unit)
abbrev zi2.D:Type:=(k221×k265)
abbrev k212:Type:=(Unit×Int×Int×Int×Unit)
abbrev k241:Type:=((k212×Unit)×k265)
abbrev zi2.R:Type:=k241
def zi2 (w:W)(d:zi2.D):Option zi2.R:=some (((((),4,0,1073741824,()),()),d.2))
theorem zi2.bod:bodyB f115=true:=by kernel_rfl
abbrev zi2.env {α:Type}:Env α:=mE [] []
theorem zi2.ok (d:zi2.D):fB prog zi2.S zi2.env f115 d=(zi2 W0) d:=by kernel_rfl
theorem zi2.sok:FSpec.ok zi2.S=true:=by kernel_rfl
theorem zi2.con (base:Nat):fO prog base 115 zi2.S (zi2 W0):=fC (fn:=f115) rfl (by decide) (by kernel_rfl) mixed cN lN zi2.ok
abbrev zgv.S:FSpec:=⟨⟨[(0, .pth 0 [.fld 4])],k25⟩,[⟨[(0, .agg [.pth 0 [.fld 4], .hole (.int .i64), .hole (.int .i64), .hole (.int .i64)])],k25⟩],true⟩
abbrev zgv.D:Type:=(k221×k265)
abbrev zgv.R:Type:=k241
def zgv (w:W)(d:zgv.D):Option zgv.R:=some (((((),4,0,1073741824,()),()),d.2))
abbrev zgv.env {α:Type}:Env α:=mE [] []
theorem zgv.ok (d:zgv.D):fB prog zgv.S zgv.env f115 d=(zgv W0) d:=by kernel_rfl
theorem zgv.sok:FSpec.ok zgv.S=true:=by kernel_rfl
theorem zgv.con (base:Nat):fO prog base 115 zgv.S (zgv W0):=fC (fn:=f115) rfl (by decide) (by kernel_rfl) mixed cN lN zgv.ok
abbrev zgw.S:FSpec:=⟨⟨[(0, .pth 0 [.fld 7])],k25⟩,[⟨[(0, .agg [.pth 0 [.fld 7], .hole (.int .i64), .hole (.int .i64), .hole (.int .i64)])],k25⟩],true⟩
abbrev zgw.D:Type:=(k221×k265)
abbrev zgw.R:Type:=k241
def zgw (w:W)(d:zgw.D):Option zgw.R:=some (((((),4,0,1073741824,()),()),d.2))
abbrev zgw.env {α:Type}:Env α:=mE [] []
theorem zgw.ok (d:zgw.D):fB prog zgw.S zgw.env f115 d=(zgw W0) d:=by kernel_rfl
theorem zgw.sok:FSpec.ok zgw.S=true:=by kernel_rfl
theorem zgw.con (base:Nat):fO prog base 115 zgw.S (zgw W0):=fC (fn:=f115) rfl (by decide) (by kernel_rfl) mixed cN lN zgw.ok
abbrev zgx.S:FSpec:=⟨⟨[(0, .pth 0 [.fld 8])],k25⟩,[⟨[(0, .agg [.pth 0 [.fld 8], .hole (.int .i64), .hole (.int .i64), .hole (.int .i64)])],k25⟩],true⟩
abbrev zgx.D:Type:=(k221×k265)
abbrev zgx.R:Type:=k241
def zgx (w:W)(d:zgx.D):Option zgx.R:=some (((((),4,0,1073741824,()),()),d.2))
abbrev zgx.env {α:Type}:Env α:=mE [] []
theorem zgx.ok (d:zgx.D):fB prog zgx.S zgx.env f115 d=(zgx W0) d:=by kernel_rfl
theorem zgx.sok:FSpec.ok zgx.S=true:=by kernel_rfl
theorem zgx.con (base:Nat):fO prog base 115 zgx.S (zgx W0):=fC (fn:=f115) rfl (by decide) (by kernel_rfl) mixed cN lN zgx.ok
abbrev zi3.S:FSpec:=⟨⟨[(0, .pth 0 [.fld 3]),k138,k139],k25⟩,[⟨[(0, .agg [.pth 0 [.fld 3], .hole (.int .i64), .hole (.int .i64), .hole (.int .i64)])],k25⟩],true⟩
abbrev k226:Type:=(Unit×Int×Int×Unit)
abbrev zi3.D:Type:=(k226×k265)
abbrev zi3.R:Type:=k241
def zi3 (w:W)(d:zi3.D):Option zi3.R:=some (((((),1,d.1.2),()),d.2))
theorem zi3.bod:bodyB f116=true:=by kernel_rfl
abbrev zi3.env {α:Type}:Env α:=mE [] []
theorem zi3.ok (d:zi3.D):fB prog zi3.S zi3.env f116 d=(zi3 W0) d:=by kernel_rfl
theorem zi3.sok:FSpec.ok zi3.S=true:=by kernel_rfl
theorem zi3.con (base:Nat):fO prog base 116 zi3.S (zi3 W0):=fC (fn:=f116) rfl (by decide) (by kernel_rfl) mixed cN lN zi3.ok
abbrev zgy.S:FSpec:=⟨⟨[(0, .pth 0 [.fld 2]),k138,k139],k25⟩,[⟨[(0, .agg [.pth 0 [.fld 2], .hole (.int .i64), .hole (.int .i64), .hole (.int .i64)])],k25⟩],true⟩
abbrev zgy.D:Type:=(k226×k265)
abbrev zgy.R:Type:=k241
def zgy (w:W)(d:zgy.D):Option zgy.R:=some (((((),1,d.1.2),()),d.2))
abbrev zgy.env {α:Type}:Env α:=mE [] []
theorem zgy.ok (d:zgy.D):fB prog zgy.S zgy.env f116 d=(zgy W0) d:=by kernel_rfl
theorem zgy.sok:FSpec.ok zgy.S=true:=by kernel_rfl
theorem zgy.con (base:Nat):fO prog base 116 zgy.S (zgy W0):=fC (fn:=f116) rfl (by decide) (by kernel_rfl) mixed cN lN zgy.ok
abbrev zgz.S:FSpec:=⟨⟨[(0, .pth 0 [.fld 5]),k138,k139],k25⟩,[⟨[(0, .agg [.pth 0 [.fld 5], .hole (.int .i64), .hole (.int .i64), .hole (.int .i64)])],k25⟩],true⟩
abbrev zgz.D:Type:=(k226×k265)
abbrev zgz.R:Type:=k241
def zgz (w:W)(d:zgz.D):Option zgz.R:=some (((((),1,d.1.2),()),d.2))
abbrev zgz.env {α:Type}:Env α:=mE [] []
theorem zgz.ok (d:zgz.D):fB prog zgz.S zgz.env f116 d=(zgz W0) d:=by kernel_rfl
theorem zgz.sok:FSpec.ok zgz.S=true:=by kernel_rfl
theorem zgz.con (base:Nat):fO prog base 116 zgz.S (zgz W0):=fC (fn:=f116) rfl (by decide) (by kernel_rfl) mixed cN lN zgz.ok
abbrev zg0.S:FSpec:=⟨⟨[(0, .pth 0 [.fld 6]),k138,k139],k25⟩,[⟨[(0, .agg [.pth 0 [.fld 6], .hole (.int .i64), .hole (.int .i64), .hole (.int .i64)])],k25⟩],true⟩
abbrev zg0.D:Type:=(k226×k265)
abbrev zg0.R:Type:=k241
def zg0 (w:W)(d:zg0.D):Option zg0.R:=some (((((),1,d.1.2),()),d.2))
abbrev zg0.env {α:Type}:Env α:=mE [] []
theorem zg0.ok (d:zg0.D):fB prog zg0.S zg0.env f116 d=(zg0 W0) d:=by kernel_rfl
theorem zg0.sok:FSpec.ok zg0.S=true:=by kernel_rfl
theorem zg0.con (base:Nat):fO prog base 116 zg0.S (zg0 W0):=fC (fn:=f116) rfl (by decide) (by kernel_rfl) mixed cN lN zg0.ok
abbrev zg1.S:FSpec:=⟨⟨[(0, .pth 0 [.fld 9])],k25⟩,[⟨[(0, .agg [.pth 0 [.fld 9], .hole (.int .i64), .hole (.int .i64), .hole (.int .i64)])],k25⟩],true⟩
abbrev zg1.D:Type:=(k221×k265)
abbrev zg1.R:Type:=k241
def zg1 (w:W)(d:zg1.D):Option zg1.R:=some (((((),4,0,1073741824,()),()),d.2))
abbrev zg1.env {α:Type}:Env α:=mE [] []
theorem zg1.ok (d:zg1.D):fB prog zg1.S zg1.env f115 d=(zg1 W0) d:=by kernel_rfl
theorem zg1.sok:FSpec.ok zg1.S=true:=by kernel_rfl
theorem zg1.con (base:Nat):fO prog base 115 zg1.S (zg1 W0):=fC (fn:=f115) rfl (by decide) (by kernel_rfl) mixed cN lN zg1.ok
abbrev zg2.S:FSpec:=⟨⟨[(0, .pth 0 [.fld 10])],k25⟩,[⟨[(0, .agg [.pth 0 [.fld 10], .hole (.int .i64), .hole (.int .i64), .hole (.int .i64)])],k25⟩],true⟩
abbrev zg2.D:Type:=(k221×k265)
abbrev zg2.R:Type:=k241
def zg2 (w:W)(d:zg2.D):Option zg2.R:=some (((((),4,0,1073741824,()),()),d.2))
abbrev zg2.env {α:Type}:Env α:=mE [] []
theorem zg2.ok (d:zg2.D):fB prog zg2.S zg2.env f115 d=(zg2 W0) d:=by kernel_rfl
theorem zg2.sok:FSpec.ok zg2.S=true:=by kernel_rfl
theorem zg2.con (base:Nat):fO prog base 115 zg2.S (zg2 W0):=fC (fn:=f115) rfl (by decide) (by kernel_rfl) mixed cN lN zg2.ok
abbrev zg3.S:FSpec:=⟨⟨[(0, .pth 0 [.fld 11]),k138,k139],k25⟩,[⟨[(0, .agg [.pth 0 [.fld 11], .hole (.int .i64), .hole (.int .i64), .hole (.int .i64)])],k25⟩],true⟩
abbrev zg3.D:Type:=(k226×k265)
abbrev zg3.R:Type:=k241
def zg3 (w:W)(d:zg3.D):Option zg3.R:=some (((((),1,d.1.2),()),d.2))
abbrev zg3.env {α:Type}:Env α:=mE [] []
theorem zg3.ok (d:zg3.D):fB prog zg3.S zg3.env f116 d=(zg3 W0) d:=by kernel_rfl
theorem zg3.sok:FSpec.ok zg3.S=true:=by kernel_rfl
theorem zg3.con (base:Nat):fO prog base 116 zg3.S (zg3 W0):=fC (fn:=f116) rfl (by decide) (by kernel_rfl) mixed cN lN zg3.ok
abbrev zg4.S:FSpec:=⟨⟨[(0, .pth 0 [.fld 12]),k138,k139],k25⟩,[⟨[(0, .agg [.pth 0 [.fld 12], .hole (.int .i64), .hole (.int .i64), .hole (.int .i64)])],k25⟩],true⟩
abbrev zg4.D:Type:=(k226×k265)
abbrev zg4.R:Type:=k241
def zg4 (w:W)(d:zg4.D):Option zg4.R:=some (((((),1,d.1.2),()),d.2))
abbrev zg4.env {α:Type}:Env α:=mE [] []
theorem zg4.ok (d:zg4.D):fB prog zg4.S zg4.env f116 d=(zg4 W0) d:=by kernel_rfl
theorem zg4.sok:FSpec.ok zg4.S=true:=by kernel_rfl
theorem zg4.con (base:Nat):fO prog base 116 zg4.S (zg4 W0):=fC (fn:=f116) rfl (by decide) (by kernel_rfl) mixed cN lN zg4.ok
abbrev zg5.S:FSpec:=⟨⟨[(0, .pth 0 [.fld 13]),k138,k139],k25⟩,[⟨[(0, .agg [.pth 0 [.fld 13], .hole (.int .i64), .hole (.int .i64), .hole (.int .i64)])],k25⟩],true⟩
abbrev zg5.D:Type:=(k226×k265)
abbrev zg5.R:Type:=k241
def zg5 (w:W)(d:zg5.D):Option zg5.R:=some (((((),1,d.1.2),()),d.2))
abbrev zg5.env {α:Type}:Env α:=mE [] []
theorem zg5.ok (d:zg5.D):fB prog zg5.S zg5.env f116 d=(zg5 W0) d:=by kernel_rfl
theorem zg5.sok:FSpec.ok zg5.S=true:=by kernel_rfl
theorem zg5.con (base:Nat):fO prog base 116 zg5.S (zg5 W0):=fC (fn:=f116) rfl (by decide) (by kernel_rfl) mixed cN lN zg5.ok
abbrev k154:Nat×Pat:=(1, .hole .bool)
abbrev k26:List (Nat×Pat):=[(0, .vsl 50 4),k154]
abbrev zhx.S:FSpec:=⟨⟨[(0, .ptr 0)],k25⟩,[⟨[(0, .vsl 50 1),k154],[k155,(50, .var (.agg [.agg [.pth 0 [.fld 2], .hole (.int .i64), .hole (.int .i64), .hole (.int .i64)]]))]⟩,⟨[(0, .vsl 50 9),k154],[k155,(50, .var (.agg [.agg [.pth 0 [.fld 1], .hole (.int .i64), .hole (.int .i64), .hole (.int .i64)], .agg [.pth 0 [.fld 3], .hole (.int .i64), .hole (.int .i64), .hole (.int .i64)], .agg [.pth 0 [.fld 4], .hole (.int .i64), .hole (.int .i64), .hole (.int .i64)], .agg [.pth 0 [.fld 5], .hole (.int .i64), .hole (.int .i64), .hole (.int .i64)], .agg [.pth 0 [.fld 6], .hole (.int .i64), .hole (.int .i64), .hole (.int .i64)], .agg [.pth 0 [.fld 7], .hole (.int .i64), .hole (.int .i64), .hole (.int .i64)], .agg [.pth 0 [.fld 8], .hole (.int .i64), .hole (.int .i64), .hole (.int .i64)], .agg [.pth 0 [.fld 9], .hole (.int .i64), .hole (.int .i64), .hole (.int .i64)], .agg [.pth 0 [.fld 10], .hole (.int .i64), .hole (.int .i64), .hole (.int .i64)]]))]⟩,⟨k26,[k155,(50, .var (.agg [.agg [.pth 0 [.fld 1], .hole (.int .i64), .hole (.int .i64), .hole (.int .i64)], .agg [.pth 0 [.fld 3], .hole (.int .i64), .hole (.int .i64), .hole (.int .i64)], .agg [.pth 0 [.fld 4], .hole (.int .i64), .hole (.int .i64), .hole (.int .i64)], .agg [.pth 0 [.fld 2], .hole (.int .i64), .hole (.int .i64), .hole (.int .i64)]]))]⟩,⟨[(0, .vsl 50 5),k154],[k155,(50, .var (.agg [.agg [.pth 0 [.fld 1], .hole (.int .i64), .hole (.int .i64), .hole (.int .i64)], .agg [.pth 0 [.fld 3], .hole (.int .i64), .hole (.int .i64), .hole (.int .i64)], .agg [.pth 0 [.fld 4], .hole (.int .i64), .hole (.int .i64), .hole (.int .i64)], .agg [.pth 0 [.fld 7], .hole (.int .i64), .hole (.int .i64), .hole (.int .i64)], .agg [.pth 0 [.fld 8], .hole (.int .i64), .hole (.int .i64), .hole (.int .i64)]]))]⟩,⟨[(0, .vsl 50 3),k154],[k155,(50, .var (.agg [.agg [.pth 0 [.fld 1], .hole (.int .i64), .hole (.int .i64), .hole (.int .i64)], .agg [.pth 0 [.fld 3], .hole (.int .i64), .hole (.int .i64), .hole (.int .i64)], .agg [.pth 0 [.fld 11], .hole (.int .i64), .hole (.int .i64), .hole (.int .i64)]]))]⟩,⟨k26,[k155,(50, .var (.agg [.agg [.pth 0 [.fld 1], .hole (.int .i64), .hole (.int .i64), .hole (.int .i64)], .agg [.pth 0 [.fld 11], .hole (.int .i64), .hole (.int .i64), .hole (.int .i64)], .agg [.pth 0 [.fld 12], .hole (.int .i64), .hole (.int .i64), .hole (.int .i64)], .agg [.pth 0 [.fld 13], .hole (.int .i64), .hole (.int .i64), .hole (.int .i64)]]))]⟩,⟨[(0, .const (.slice none 0 0)),k154],k25⟩],true⟩
abbrev zhx.D:Type:=(k221×k265)
abbrev k247:Type:=(Unit×Bool×Unit)
abbrev k234:Type:=(k212×k212×k212×k212×k212×k212×k212×k212×k212×Unit)
abbrev k236:Type:=(k212×k212×k212×k212×Unit)
abbrev k249:Type:=(k212×k212×k212×k212×k212×Unit)
abbrev k267:Type:=(k212×k212×k212×Unit)
abbrev zhx.R:Type:=((k247×(De9×(k212×Unit)×Unit))⊕((k247×(De9×k234×Unit))⊕((k247×(De9×k236×Unit))⊕((k247×(De9×k249×Unit))⊕((k247×(De9×k267×Unit))⊕((k247×(De9×k236×Unit))⊕(k247×k265)))))))
def zhx (w:W)(d:zhx.D):Option zhx.R:=(((zi2 w) d).bind fun r1=>(((zgv w) (((),()),r1.2)).bind fun r2=>(((zgw w) (((),()),r2.2)).bind fun r3=>(((zgx w) (((),()),r3.2)).bind fun r4=>(((zi3 w) (((),0,7,()),r4.2)).bind fun r5=>(((zgy w) (((),0,31,()),r5.2)).bind fun r6=>(bif (w.odec (r6.2.1.1=1)) then some ((.inl (((),true,()),r6.2.1,r6.1,()))) else(bif (w.odec (r6.2.1.1=3)) then(((zgz w) (((),0,255,()),r6.2)).bind fun r7=>(((zg0 w) (((),0,255,()),r7.2)).bind fun r8=>(((zg1 w) (((),()),r8.2)).bind fun r9=>(((zg2 w) (((),()),r9.2)).bind fun r10=>some ((.inr (.inl (((),true,()),r10.2.1,(r1.1.1,r5.1.1,r2.1.1,r7.1.1,r8.1.1,r3.1.1,r4.1.1,r9.1.1,r10.1),())))))))) else(bif (w.odec (r6.2.1.1=4)) then some ((.inr (.inr (.inl (((),true,()),r6.2.1,(r1.1.1,r5.1.1,r2.1.1,r6.1),()))))) else(bif (w.odec (r6.2.1.1=5)) then some ((.inr (.inr (.inr (.inl (((),true,()),r6.2.1,(r1.1.1,r5.1.1,r2.1.1,r3.1.1,r4.1),())))))) else(bif (w.odec (r6.2.1.1=6)) then(((zi3 w) (((),0,8,()),r6.2)).bind fun r11=>(((zg3 w) (((),1,3,()),r11.2)).bind fun r12=>some ((.inr (.inr (.inr (.inr (.inl (((),true,()),r12.2.1,(r1.1.1,r11.1.1,r12.1),()))))))))) else(bif (w.odec (r6.2.1.1=9)) then(((zg3 w) (((),1,9,()),r6.2)).bind fun r13=>(((zg4 w) (((),0,255,()),r13.2)).bind fun r14=>(((zg5 w) (((),0,255,()),r14.2)).bind fun r15=>some ((.inr (.inr (.inr (.inr (.inr (.inl (((),true,()),r15.2.1,(r1.1.1,r13.1.1,r14.1.1,r15.1),()))))))))))) else(bif (w.odec (r6.2.1.1=2)) then(bif (w.odec (r6.2.1.1=2)) then some ((.inr (.inr (.inr (.inr (.inr (.inr (((),true,()),r6.2)))))))) else some ((.inr (.inr (.inr (.inr (.inr (.inr (((),false,()),r6.2))))))))) else(bif (w.odec (r6.2.1.1=7)) then(bif (w.odec (r6.2.1.1=7)) then some ((.inr (.inr (.inr (.inr (.inr (.inr (((),true,()),r6.2)))))))) else some ((.inr (.inr (.inr (.inr (.inr (.inr (((),false,()),r6.2))))))))) else(bif (w.odec (r6.2.1.1=8)) then some ((.inr (.inr (.inr (.inr (.inr (.inr (((),true,()),r6.2)))))))) else some ((.inr (.inr (.inr (.inr (.inr (.inr (((),false,()),r6.2)))))))))))))))))))))))
theorem zhx.bod:bodyB f85=true:=by kernel_rfl
abbrev zhx.env {α:Type}:Env α:=mE [(115,[⟨zi2.S,(zi2 W0),none⟩,⟨zgv.S,(zgv W0),none⟩,⟨zgw.S,(zgw W0),none⟩,⟨zgx.S,(zgx W0),none⟩,⟨zg1.S,(zg1 W0),none⟩,⟨zg2.S,(zg2 W0),none⟩]),(116,[⟨zi3.S,(zi3 W0),none⟩,⟨zgy.S,(zgy W0),none⟩,⟨zgz.S,(zgz W0),none⟩,⟨zg0.S,(zg0 W0),none⟩,⟨zg3.S,(zg3 W0),none⟩,⟨zg4.S,(zg4 W0),none⟩,⟨zg5.S,(zg5 W0),none⟩])] []
theorem zhx.ok (d:zhx.D):fB prog zhx.S zhx.env f85 d=(zhx W0) d:=by kernel_rfl
theorem zhx.sok:FSpec.ok zhx.S=true:=by kernel_rfl
theorem zhx.con (base:Nat):fO prog base 85 zhx.S (zhx W0):=fC (fn:=f85) rfl (by decide) (by kernel_rfl) mixed (cC (cc0 zi2.sok (zi2.con base) (cc0 zgv.sok (zgv.con base) (cc0 zgw.sok (zgw.con base) (cc0 zgx.sok (zgx.con base) (cc0 zg1.sok (zg1.con base) (cc0 zg2.sok (zg2.con base) cn)))))) (cC (cc0 zi3.sok (zi3.con base) (cc0 zgy.sok (zgy.con base) (cc0 zgz.sok (zgz.con base) (cc0 zg0.sok (zg0.con base) (cc0 zg3.sok (zg3.con base) (cc0 zg4.sok (zg4.con base) (cc0 zg5.sok (zg5.con base) cn))))))) cN)) lN zhx.ok
abbrev k156:Nat×Pat:=(4, .hole .bool)
abbrev k157:Nat×Pat:=(12, .hole (.int .i64))
abbrev k158:Nat×Pat:=(13, .hole (.int .i64))
abbrev k188:Nat×OPat:=(1, .var (.agg [.agg [.pth 0 [.fld 2], .hole (.int .i64), .hole (.int .i64), .hole (.int .i64)]]))
abbrev k27:List (Nat×OPat):=[k155,k188]
abbrev k28:List (Nat×Pat):=[(1, .ptr 0),k156]
abbrev zgd.S:LSpec:=⟨⟨[(1, .ptr 0),k156,(11, .vsl 1 1),k157,k158],k27⟩,[⟨k28,k27⟩],[(.exit 0)],f83.ntmps⟩
abbrev k251:Type:=(Unit×Bool×Unit×Int×Int×Unit)
abbrev zgd.D:Type:=(k251×(De9×(k212×Unit)×Unit))
abbrev zgd.R:Type:=(k247×(De9×(k212×Unit)×Unit))
def zgd (w:W)(d:zgd.D):Option (zgd.D⊕zgd.R):=(bif (w.odec (d.1.2.2.2.2.1<d.1.2.2.2.1)) then(bif w.odec (d.1.2.2.2.2.1=((0:Nat):Int)) then(bif d.1.2.1 then(bif (w.odec (d.2.1.2.2.1≥d.2.2.1.1.2.2.1)) then some (.inl (((),(w.odec (d.2.1.2.2.1≤d.2.2.1.1.2.2.2.1)),(),d.1.2.2.2.1,(w.wr .i64 (d.1.2.2.2.2.1+1)),()),(d.2.1.1,d.2.1.2.1,0,d.2.1.2.2.2),d.2.2)) else some (.inl (((),false,(),d.1.2.2.2.1,(w.wr .i64 (d.1.2.2.2.2.1+1)),()),(d.2.1.1,d.2.1.2.1,0,d.2.1.2.2.2),d.2.2))) else some (.inl (((),false,(),d.1.2.2.2.1,(w.wr .i64 (d.1.2.2.2.2.1+1)),()),(d.2.1.1,d.2.1.2.1,0,d.2.1.2.2.2),d.2.2))) else none) else some (.inr (((),d.1.2.1,()),d.2)))
abbrev k191:Nat×OPat:=(1, .var (.agg [.agg [.pth 0 [.fld 1], .hole (.int .i64), .hole (.int .i64), .hole (.int .i64)], .agg [.pth 0 [.fld 3], .hole (.int .i64), .hole (.int .i64), .hole (.int .i64)], .agg [.pth 0 [.fld 4], .hole (.int .i64), .hole (.int .i64), .hole (.int .i64)], .agg [.pth 0 [.fld 5], .hole (.int .i64), .hole (.int .i64), .hole (.int .i64)], .agg [.pth 0 [.fld 6], .hole (.int .i64), .hole (.int .i64), .hole (.int .i64)], .agg [.pth 0 [.fld 7], .hole (.int .i64), .hole (.int .i64), .hole (.int .i64)], .agg [.pth 0 [.fld 8], .hole (.int .i64), .hole (.int .i64), .hole (.int .i64)], .agg [.pth 0 [.fld 9], .hole (.int .i64), .hole (.int .i64), .hole (.int .i64)], .agg [.pth 0 [.fld 10], .hole (.int .i64), .hole (.int .i64), .hole (.int .i64)]]))
abbrev k29:List (Nat×OPat):=[k155,k191]
abbrev zfu.S:LSpec:=⟨⟨[(1, .ptr 0),k156,(11, .vsl 1 9),k157,k158],k29⟩,[⟨k28,k29⟩],[(.exit 0)],f83.ntmps⟩
abbrev zfu.D:Type:=(k251×(De9×k234×Unit))
abbrev zfu.R:Type:=(k247×(De9×k234×Unit))
def zfu (w:W)(d:zfu.D):Option (zfu.D⊕zfu.R):=(bif (w.odec (d.1.2.2.2.2.1<d.1.2.2.2.1)) then(bif w.odec (d.1.2.2.2.2.1=((0:Nat):Int)) then(bif d.1.2.1 then(bif (w.odec (d.2.1.2.1≥d.2.2.1.1.2.2.1)) then some (.inl (((),(w.odec (d.2.1.2.1≤d.2.2.1.1.2.2.2.1)),(),d.1.2.2.2.1,(w.wr .i64 (d.1.2.2.2.2.1+1)),()),(d.2.1.1,0,d.2.1.2.2),d.2.2)) else some (.inl (((),false,(),d.1.2.2.2.1,(w.wr .i64 (d.1.2.2.2.2.1+1)),()),(d.2.1.1,0,d.2.1.2.2),d.2.2))) else some (.inl (((),false,(),d.1.2.2.2.1,(w.wr .i64 (d.1.2.2.2.2.1+1)),()),(d.2.1.1,0,d.2.1.2.2),d.2.2))) else(bif w.odec (d.1.2.2.2.2.1=((1:Nat):Int)) then(bif d.1.2.1 then(bif (w.odec (d.2.1.2.2.2.1≥d.2.2.1.2.1.2.2.1)) then some (.inl (((),(w.odec (d.2.1.2.2.2.1≤d.2.2.1.2.1.2.2.2.1)),(),d.1.2.2.2.1,(w.wr .i64 (d.1.2.2.2.2.1+1)),()),(d.2.1.1,d.2.1.2.1,d.2.1.2.2.1,0,d.2.1.2.2.2.2),d.2.2)) else some (.inl (((),false,(),d.1.2.2.2.1,(w.wr .i64 (d.1.2.2.2.2.1+1)),()),(d.2.1.1,d.2.1.2.1,d.2.1.2.2.1,0,d.2.1.2.2.2.2),d.2.2))) else some (.inl (((),false,(),d.1.2.2.2.1,(w.wr .i64 (d.1.2.2.2.2.1+1)),()),(d.2.1.1,d.2.1.2.1,d.2.1.2.2.1,0,d.2.1.2.2.2.2),d.2.2))) else(bif w.odec (d.1.2.2.2.2.1=((2:Nat):Int)) then(bif d.1.2.1 then(bif (w.odec (d.2.1.2.2.2.2.1≥d.2.2.1.2.2.1.2.2.1)) then some (.inl (((),(w.odec (d.2.1.2.2.2.2.1≤d.2.2.1.2.2.1.2.2.2.1)),(),d.1.2.2.2.1,(w.wr .i64 (d.1.2.2.2.2.1+1)),()),(d.2.1.1,d.2.1.2.1,d.2.1.2.2.1,d.2.1.2.2.2.1,0,d.2.1.2.2.2.2.2),d.2.2)) else some (.inl (((),false,(),d.1.2.2.2.1,(w.wr .i64 (d.1.2.2.2.2.1+1)),()),(d.2.1.1,d.2.1.2.1,d.2.1.2.2.1,d.2.1.2.2.2.1,0,d.2.1.2.2.2.2.2),d.2.2))) else some (.inl (((),false,(),d.1.2.2.2.1,(w.wr .i64 (d.1.2.2.2.2.1+1)),()),(d.2.1.1,d.2.1.2.1,d.2.1.2.2.1,d.2.1.2.2.2.1,0,d.2.1.2.2.2.2.2),d.2.2))) else(bif w.odec (d.1.2.2.2.2.1=((3:Nat):Int)) then(bif d.1.2.1 then(bif (w.odec (d.2.1.2.2.2.2.2.1≥d.2.2.1.2.2.2.1.2.2.1)) then some (.inl (((),(w.odec (d.2.1.2.2.2.2.2.1≤d.2.2.1.2.2.2.1.2.2.2.1)),(),d.1.2.2.2.1,(w.wr .i64 (d.1.2.2.2.2.1+1)),()),(d.2.1.1,d.2.1.2.1,d.2.1.2.2.1,d.2.1.2.2.2.1,d.2.1.2.2.2.2.1,0,d.2.1.2.2.2.2.2.2),d.2.2)) else some (.inl (((),false,(),d.1.2.2.2.1,(w.wr .i64 (d.1.2.2.2.2.1+1)),()),(d.2.1.1,d.2.1.2.1,d.2.1.2.2.1,d.2.1.2.2.2.1,d.2.1.2.2.2.2.1,0,d.2.1.2.2.2.2.2.2),d.2.2))) else some (.inl (((),false,(),d.1.2.2.2.1,(w.wr .i64 (d.1.2.2.2.2.1+1)),()),(d.2.1.1,d.2.1.2.1,d.2.1.2.2.1,d.2.1.2.2.2.1,d.2.1.2.2.2.2.1,0,d.2.1.2.2.2.2.2.2),d.2.2))) else(bif w.odec (d.1.2.2.2.2.1=((4:Nat):Int)) then(bif d.1.2.1 then(bif (w.odec (d.2.1.2.2.2.2.2.2.1≥d.2.2.1.2.2.2.2.1.2.2.1)) then some (.inl (((),(w.odec (d.2.1.2.2.2.2.2.2.1≤d.2.2.1.2.2.2.2.1.2.2.2.1)),(),d.1.2.2.2.1,(w.wr .i64 (d.1.2.2.2.2.1+1)),()),(d.2.1.1,d.2.1.2.1,d.2.1.2.2.1,d.2.1.2.2.2.1,d.2.1.2.2.2.2.1,d.2.1.2.2.2.2.2.1,0,d.2.1.2.2.2.2.2.2.2),d.2.2)) else some (.inl (((),false,(),d.1.2.2.2.1,(w.wr .i64 (d.1.2.2.2.2.1+1)),()),(d.2.1.1,d.2.1.2.1,d.2.1.2.2.1,d.2.1.2.2.2.1,d.2.1.2.2.2.2.1,d.2.1.2.2.2.2.2.1,0,d.2.1.2.2.2.2.2.2.2),d.2.2))) else some (.inl (((),false,(),d.1.2.2.2.1,(w.wr .i64 (d.1.2.2.2.2.1+1)),()),(d.2.1.1,d.2.1.2.1,d.2.1.2.2.1,d.2.1.2.2.2.1,d.2.1.2.2.2.2.1,d.2.1.2.2.2.2.2.1,0,d.2.1.2.2.2.2.2.2.2),d.2.2))) else(bif w.odec (d.1.2.2.2.2.1=((5:Nat):Int)) then(bif d.1.2.1 then(bif (w.odec (d.2.1.2.2.2.2.2.2.2.1≥d.2.2.1.2.2.2.2.2.1.2.2.1)) then some (.inl (((),(w.odec (d.2.1.2.2.2.2.2.2.2.1≤d.2.2.1.2.2.2.2.2.1.2.2.2.1)),(),d.1.2.2.2.1,(w.wr .i64 (d.1.2.2.2.2.1+1)),()),(d.2.1.1,d.2.1.2.1,d.2.1.2.2.1,d.2.1.2.2.2.1,d.2.1.2.2.2.2.1,d.2.1.2.2.2.2.2.1,d.2.1.2.2.2.2.2.2.1,0,d.2.1.2.2.2.2.2.2.2.2),d.2.2)) else some (.inl (((),false,(),d.1.2.2.2.1,(w.wr .i64 (d.1.2.2.2.2.1+1)),()),(d.2.1.1,d.2.1.2.1,d.2.1.2.2.1,d.2.1.2.2.2.1,d.2.1.2.2.2.2.1,d.2.1.2.2.2.2.2.1,d.2.1.2.2.2.2.2.2.1,0,d.2.1.2.2.2.2.2.2.2.2),d.2.2))) else some (.inl (((),false,(),d.1.2.2.2.1,(w.wr .i64 (d.1.2.2.2.2.1+1)),()),(d.2.1.1,d.2.1.2.1,d.2.1.2.2.1,d.2.1.2.2.2.1,d.2.1.2.2.2.2.1,d.2.1.2.2.2.2.2.1,d.2.1.2.2.2.2.2.2.1,0,d.2.1.2.2.2.2.2.2.2.2),d.2.2))) else(bif w.odec (d.1.2.2.2.2.1=((6:Nat):Int)) then(bif d.1.2.1 then(bif (w.odec (d.2.1.2.2.2.2.2.2.2.2.1≥d.2.2.1.2.2.2.2.2.2.1.2.2.1)) then some (.inl (((),(w.odec (d.2.1.2.2.2.2.2.2.2.2.1≤d.2.2.1.2.2.2.2.2.2.1.2.2.2.1)),(),d.1.2.2.2.1,(w.wr .i64 (d.1.2.2.2.2.1+1)),()),(d.2.1.1,d.2.1.2.1,d.2.1.2.2.1,d.2.1.2.2.2.1,d.2.1.2.2.2.2.1,d.2.1.2.2.2.2.2.1,d.2.1.2.2.2.2.2.2.1,d.2.1.2.2.2.2.2.2.2.1,0,d.2.1.2.2.2.2.2.2.2.2.2),d.2.2)) else some (.inl (((),false,(),d.1.2.2.2.1,(w.wr .i64 (d.1.2.2.2.2.1+1)),()),(d.2.1.1,d.2.1.2.1,d.2.1.2.2.1,d.2.1.2.2.2.1,d.2.1.2.2.2.2.1,d.2.1.2.2.2.2.2.1,d.2.1.2.2.2.2.2.2.1,d.2.1.2.2.2.2.2.2.2.1,0,d.2.1.2.2.2.2.2.2.2.2.2),d.2.2))) else some (.inl (((),false,(),d.1.2.2.2.1,(w.wr .i64 (d.1.2.2.2.2.1+1)),()),(d.2.1.1,d.2.1.2.1,d.2.1.2.2.1,d.2.1.2.2.2.1,d.2.1.2.2.2.2.1,d.2.1.2.2.2.2.2.1,d.2.1.2.2.2.2.2.2.1,d.2.1.2.2.2.2.2.2.2.1,0,d.2.1.2.2.2.2.2.2.2.2.2),d.2.2))) else(bif w.odec (d.1.2.2.2.2.1=((7:Nat):Int)) then(bif d.1.2.1 then(bif (w.odec (d.2.1.2.2.2.2.2.2.2.2.2.1≥d.2.2.1.2.2.2.2.2.2.2.1.2.2.1)) then some (.inl (((),(w.odec (d.2.1.2.2.2.2.2.2.2.2.2.1≤d.2.2.1.2.2.2.2.2.2.2.1.2.2.2.1)),(),d.1.2.2.2.1,(w.wr .i64 (d.1.2.2.2.2.1+1)),()),(d.2.1.1,d.2.1.2.1,d.2.1.2.2.1,d.2.1.2.2.2.1,d.2.1.2.2.2.2.1,d.2.1.2.2.2.2.2.1,d.2.1.2.2.2.2.2.2.1,d.2.1.2.2.2.2.2.2.2.1,d.2.1.2.2.2.2.2.2.2.2.1,0,d.2.1.2.2.2.2.2.2.2.2.2.2),d.2.2)) else some (.inl (((),false,(),d.1.2.2.2.1,(w.wr .i64 (d.1.2.2.2.2.1+1)),()),(d.2.1.1,d.2.1.2.1,d.2.1.2.2.1,d.2.1.2.2.2.1,d.2.1.2.2.2.2.1,d.2.1.2.2.2.2.2.1,d.2.1.2.2.2.2.2.2.1,d.2.1.2.2.2.2.2.2.2.1,d.2.1.2.2.2.2.2.2.2.2.1,0,d.2.1.2.2.2.2.2.2.2.2.2.2),d.2.2))) else some (.inl (((),false,(),d.1.2.2.2.1,(w.wr .i64 (d.1.2.2.2.2.1+1)),()),(d.2.1.1,d.2.1.2.1,d.2.1.2.2.1,d.2.1.2.2.2.1,d.2.1.2.2.2.2.1,d.2.1.2.2.2.2.2.1,d.2.1.2.2.2.2.2.2.1,d.2.1.2.2.2.2.2.2.2.1,d.2.1.2.2.2.2.2.2.2.2.1,0,d.2.1.2.2.2.2.2.2.2.2.2.2),d.2.2))) else(bif w.odec (d.1.2.2.2.2.1=((8:Nat):Int)) then(bif d.1.2.1 then(bif (w.odec (d.2.1.2.2.2.2.2.2.2.2.2.2.1≥d.2.2.1.2.2.2.2.2.2.2.2.1.2.2.1)) then some (.inl (((),(w.odec (d.2.1.2.2.2.2.2.2.2.2.2.2.1≤d.2.2.1.2.2.2.2.2.2.2.2.1.2.2.2.1)),(),d.1.2.2.2.1,(w.wr .i64 (d.1.2.2.2.2.1+1)),()),(d.2.1.1,d.2.1.2.1,d.2.1.2.2.1,d.2.1.2.2.2.1,d.2.1.2.2.2.2.1,d.2.1.2.2.2.2.2.1,d.2.1.2.2.2.2.2.2.1,d.2.1.2.2.2.2.2.2.2.1,d.2.1.2.2.2.2.2.2.2.2.1,d.2.1.2.2.2.2.2.2.2.2.2.1,0,d.2.1.2.2.2.2.2.2.2.2.2.2.2),d.2.2)) else some (.inl (((),false,(),d.1.2.2.2.1,(w.wr .i64 (d.1.2.2.2.2.1+1)),()),(d.2.1.1,d.2.1.2.1,d.2.1.2.2.1,d.2.1.2.2.2.1,d.2.1.2.2.2.2.1,d.2.1.2.2.2.2.2.1,d.2.1.2.2.2.2.2.2.1,d.2.1.2.2.2.2.2.2.2.1,d.2.1.2.2.2.2.2.2.2.2.1,d.2.1.2.2.2.2.2.2.2.2.2.1,0,d.2.1.2.2.2.2.2.2.2.2.2.2.2),d.2.2))) else some (.inl (((),false,(),d.1.2.2.2.1,(w.wr .i64 (d.1.2.2.2.2.1+1)),()),(d.2.1.1,d.2.1.2.1,d.2.1.2.2.1,d.2.1.2.2.2.1,d.2.1.2.2.2.2.1,d.2.1.2.2.2.2.2.1,d.2.1.2.2.2.2.2.2.1,d.2.1.2.2.2.2.2.2.2.1,d.2.1.2.2.2.2.2.2.2.2.1,d.2.1.2.2.2.2.2.2.2.2.2.1,0,d.2.1.2.2.2.2.2.2.2.2.2.2.2),d.2.2))) else none))))))))) else some (.inr (((),d.1.2.1,()),d.2)))
abbrev k30:List (Nat×Pat):=[(1, .ptr 0),k156,(11, .vsl 1 4),k157,k158]
abbrev k192:Nat×OPat:=(1, .var (.agg [.agg [.pth 0 [.fld 1], .hole (.int .i64), .hole (.int .i64), .hole (.int .i64)], .agg [.pth 0 [.fld 3], .hole (.int .i64), .hole (.int .i64), .hole (.int .i64)], .agg [.pth 0 [.fld 4], .hole (.int .i64), .hole (.int .i64), .hole (.int .i64)], .agg [.pth 0 [.fld 2], .hole (.int .i64), .hole (.int .i64), .hole (.int .i64)]]))
abbrev k31:List (Nat×OPat):=[k155,k192]
abbrev zfv.S:LSpec:=⟨⟨k30,k31⟩,[⟨k28,k31⟩],[(.exit 0)],f83.ntmps⟩
abbrev zfv.D:Type:=(k251×(De9×k236×Unit))
abbrev zfv.R:Type:=(k247×(De9×k236×Unit))
def zfv (w:W)(d:zfv.D):Option (zfv.D⊕zfv.R):=(bif (w.odec (d.1.2.2.2.2.1<d.1.2.2.2.1)) then(bif w.odec (d.1.2.2.2.2.1=((0:Nat):Int)) then(bif d.1.2.1 then(bif (w.odec (d.2.1.2.1≥d.2.2.1.1.2.2.1)) then some (.inl (((),(w.odec (d.2.1.2.1≤d.2.2.1.1.2.2.2.1)),(),d.1.2.2.2.1,(w.wr .i64 (d.1.2.2.2.2.1+1)),()),(d.2.1.1,0,d.2.1.2.2),d.2.2)) else some (.inl (((),false,(),d.1.2.2.2.1,(w.wr .i64 (d.1.2.2.2.2.1+1)),()),(d.2.1.1,0,d.2.1.2.2),d.2.2))) else some (.inl (((),false,(),d.1.2.2.2.1,(w.wr .i64 (d.1.2.2.2.2.1+1)),()),(d.2.1.1,0,d.2.1.2.2),d.2.2))) else(bif w.odec (d.1.2.2.2.2.1=((1:Nat):Int)) then(bif d.1.2.1 then(bif (w.odec (d.2.1.2.2.2.1≥d.2.2.1.2.1.2.2.1)) then some (.inl (((),(w.odec (d.2.1.2.2.2.1≤d.2.2.1.2.1.2.2.2.1)),(),d.1.2.2.2.1,(w.wr .i64 (d.1.2.2.2.2.1+1)),()),(d.2.1.1,d.2.1.2.1,d.2.1.2.2.1,0,d.2.1.2.2.2.2),d.2.2)) else some (.inl (((),false,(),d.1.2.2.2.1,(w.wr .i64 (d.1.2.2.2.2.1+1)),()),(d.2.1.1,d.2.1.2.1,d.2.1.2.2.1,0,d.2.1.2.2.2.2),d.2.2))) else some (.inl (((),false,(),d.1.2.2.2.1,(w.wr .i64 (d.1.2.2.2.2.1+1)),()),(d.2.1.1,d.2.1.2.1,d.2.1.2.2.1,0,d.2.1.2.2.2.2),d.2.2))) else(bif w.odec (d.1.2.2.2.2.1=((2:Nat):Int)) then(bif d.1.2.1 then(bif (w.odec (d.2.1.2.2.2.2.1≥d.2.2.1.2.2.1.2.2.1)) then some (.inl (((),(w.odec (d.2.1.2.2.2.2.1≤d.2.2.1.2.2.1.2.2.2.1)),(),d.1.2.2.2.1,(w.wr .i64 (d.1.2.2.2.2.1+1)),()),(d.2.1.1,d.2.1.2.1,d.2.1.2.2.1,d.2.1.2.2.2.1,0,d.2.1.2.2.2.2.2),d.2.2)) else some (.inl (((),false,(),d.1.2.2.2.1,(w.wr .i64 (d.1.2.2.2.2.1+1)),()),(d.2.1.1,d.2.1.2.1,d.2.1.2.2.1,d.2.1.2.2.2.1,0,d.2.1.2.2.2.2.2),d.2.2))) else some (.inl (((),false,(),d.1.2.2.2.1,(w.wr .i64 (d.1.2.2.2.2.1+1)),()),(d.2.1.1,d.2.1.2.1,d.2.1.2.2.1,d.2.1.2.2.2.1,0,d.2.1.2.2.2.2.2),d.2.2))) else(bif w.odec (d.1.2.2.2.2.1=((3:Nat):Int)) then(bif d.1.2.1 then(bif (w.odec (d.2.1.2.2.1≥d.2.2.1.2.2.2.1.2.2.1)) then some (.inl (((),(w.odec (d.2.1.2.2.1≤d.2.2.1.2.2.2.1.2.2.2.1)),(),d.1.2.2.2.1,(w.wr .i64 (d.1.2.2.2.2.1+1)),()),(d.2.1.1,d.2.1.2.1,0,d.2.1.2.2.2),d.2.2)) else some (.inl (((),false,(),d.1.2.2.2.1,(w.wr .i64 (d.1.2.2.2.2.1+1)),()),(d.2.1.1,d.2.1.2.1,0,d.2.1.2.2.2),d.2.2))) else some (.inl (((),false,(),d.1.2.2.2.1,(w.wr .i64 (d.1.2.2.2.2.1+1)),()),(d.2.1.1,d.2.1.2.1,0,d.2.1.2.2.2),d.2.2))) else none)))) else some (.inr (((),d.1.2.1,()),d.2)))
abbrev k193:Nat×OPat:=(1, .var (.agg [.agg [.pth 0 [.fld 1], .hole (.int .i64), .hole (.int .i64), .hole (.int .i64)], .agg [.pth 0 [.fld 3], .hole (.int .i64), .hole (.int .i64), .hole (.int .i64)], .agg [.pth 0 [.fld 4], .hole (.int .i64), .hole (.int .i64), .hole (.int .i64)], .agg [.pth 0 [.fld 7], .hole (.int .i64), .hole (.int .i64), .hole (.int .i64)], .agg [.pth 0 [.fld 8], .hole (.int .i64), .hole (.int .i64), .hole (.int .i64)]]))
abbrev k32:List (Nat×OPat):=[k155,k193]
abbrev zfw.S:LSpec:=⟨⟨[(1, .ptr 0),k156,(11, .vsl 1 5),k157,k158],k32⟩,[⟨k28,k32⟩],[(.exit 0)],f83.ntmps⟩
abbrev zfw.D:Type:=(k251×(De9×k249×Unit))
abbrev zfw.R:Type:=(k247×(De9×k249×Unit))
def zfw (w:W)(d:zfw.D):Option (zfw.D⊕zfw.R):=(bif (w.odec (d.1.2.2.2.2.1<d.1.2.2.2.1)) then(bif w.odec (d.1.2.2.2.2.1=((0:Nat):Int)) then(bif d.1.2.1 then(bif (w.odec (d.2.1.2.1≥d.2.2.1.1.2.2.1)) then some (.inl (((),(w.odec (d.2.1.2.1≤d.2.2.1.1.2.2.2.1)),(),d.1.2.2.2.1,(w.wr .i64 (d.1.2.2.2.2.1+1)),()),(d.2.1.1,0,d.2.1.2.2),d.2.2)) else some (.inl (((),false,(),d.1.2.2.2.1,(w.wr .i64 (d.1.2.2.2.2.1+1)),()),(d.2.1.1,0,d.2.1.2.2),d.2.2))) else some (.inl (((),false,(),d.1.2.2.2.1,(w.wr .i64 (d.1.2.2.2.2.1+1)),()),(d.2.1.1,0,d.2.1.2.2),d.2.2))) else(bif w.odec (d.1.2.2.2.2.1=((1:Nat):Int)) then(bif d.1.2.1 then(bif (w.odec (d.2.1.2.2.2.1≥d.2.2.1.2.1.2.2.1)) then some (.inl (((),(w.odec (d.2.1.2.2.2.1≤d.2.2.1.2.1.2.2.2.1)),(),d.1.2.2.2.1,(w.wr .i64 (d.1.2.2.2.2.1+1)),()),(d.2.1.1,d.2.1.2.1,d.2.1.2.2.1,0,d.2.1.2.2.2.2),d.2.2)) else some (.inl (((),false,(),d.1.2.2.2.1,(w.wr .i64 (d.1.2.2.2.2.1+1)),()),(d.2.1.1,d.2.1.2.1,d.2.1.2.2.1,0,d.2.1.2.2.2.2),d.2.2))) else some (.inl (((),false,(),d.1.2.2.2.1,(w.wr .i64 (d.1.2.2.2.2.1+1)),()),(d.2.1.1,d.2.1.2.1,d.2.1.2.2.1,0,d.2.1.2.2.2.2),d.2.2))) else(bif w.odec (d.1.2.2.2.2.1=((2:Nat):Int)) then(bif d.1.2.1 then(bif (w.odec (d.2.1.2.2.2.2.1≥d.2.2.1.2.2.1.2.2.1)) then some (.inl (((),(w.odec (d.2.1.2.2.2.2.1≤d.2.2.1.2.2.1.2.2.2.1)),(),d.1.2.2.2.1,(w.wr .i64 (d.1.2.2.2.2.1+1)),()),(d.2.1.1,d.2.1.2.1,d.2.1.2.2.1,d.2.1.2.2.2.1,0,d.2.1.2.2.2.2.2),d.2.2)) else some (.inl (((),false,(),d.1.2.2.2.1,(w.wr .i64 (d.1.2.2.2.2.1+1)),()),(d.2.1.1,d.2.1.2.1,d.2.1.2.2.1,d.2.1.2.2.2.1,0,d.2.1.2.2.2.2.2),d.2.2))) else some (.inl (((),false,(),d.1.2.2.2.1,(w.wr .i64 (d.1.2.2.2.2.1+1)),()),(d.2.1.1,d.2.1.2.1,d.2.1.2.2.1,d.2.1.2.2.2.1,0,d.2.1.2.2.2.2.2),d.2.2))) else(bif w.odec (d.1.2.2.2.2.1=((3:Nat):Int)) then(bif d.1.2.1 then(bif (w.odec (d.2.1.2.2.2.2.2.2.2.1≥d.2.2.1.2.2.2.1.2.2.1)) then some (.inl (((),(w.odec (d.2.1.2.2.2.2.2.2.2.1≤d.2.2.1.2.2.2.1.2.2.2.1)),(),d.1.2.2.2.1,(w.wr .i64 (d.1.2.2.2.2.1+1)),()),(d.2.1.1,d.2.1.2.1,d.2.1.2.2.1,d.2.1.2.2.2.1,d.2.1.2.2.2.2.1,d.2.1.2.2.2.2.2.1,d.2.1.2.2.2.2.2.2.1,0,d.2.1.2.2.2.2.2.2.2.2),d.2.2)) else some (.inl (((),false,(),d.1.2.2.2.1,(w.wr .i64 (d.1.2.2.2.2.1+1)),()),(d.2.1.1,d.2.1.2.1,d.2.1.2.2.1,d.2.1.2.2.2.1,d.2.1.2.2.2.2.1,d.2.1.2.2.2.2.2.1,d.2.1.2.2.2.2.2.2.1,0,d.2.1.2.2.2.2.2.2.2.2),d.2.2))) else some (.inl (((),false,(),d.1.2.2.2.1,(w.wr .i64 (d.1.2.2.2.2.1+1)),()),(d.2.1.1,d.2.1.2.1,d.2.1.2.2.1,d.2.1.2.2.2.1,d.2.1.2.2.2.2.1,d.2.1.2.2.2.2.2.1,d.2.1.2.2.2.2.2.2.1,0,d.2.1.2.2.2.2.2.2.2.2),d.2.2))) else(bif w.odec (d.1.2.2.2.2.1=((4:Nat):Int)) then(bif d.1.2.1 then(bif (w.odec (d.2.1.2.2.2.2.2.2.2.2.1≥d.2.2.1.2.2.2.2.1.2.2.1)) then some (.inl (((),(w.odec (d.2.1.2.2.2.2.2.2.2.2.1≤d.2.2.1.2.2.2.2.1.2.2.2.1)),(),d.1.2.2.2.1,(w.wr .i64 (d.1.2.2.2.2.1+1)),()),(d.2.1.1,d.2.1.2.1,d.2.1.2.2.1,d.2.1.2.2.2.1,d.2.1.2.2.2.2.1,d.2.1.2.2.2.2.2.1,d.2.1.2.2.2.2.2.2.1,d.2.1.2.2.2.2.2.2.2.1,0,d.2.1.2.2.2.2.2.2.2.2.2),d.2.2)) else some (.inl (((),false,(),d.1.2.2.2.1,(w.wr .i64 (d.1.2.2.2.2.1+1)),()),(d.2.1.1,d.2.1.2.1,d.2.1.2.2.1,d.2.1.2.2.2.1,d.2.1.2.2.2.2.1,d.2.1.2.2.2.2.2.1,d.2.1.2.2.2.2.2.2.1,d.2.1.2.2.2.2.2.2.2.1,0,d.2.1.2.2.2.2.2.2.2.2.2),d.2.2))) else some (.inl (((),false,(),d.1.2.2.2.1,(w.wr .i64 (d.1.2.2.2.2.1+1)),()),(d.2.1.1,d.2.1.2.1,d.2.1.2.2.1,d.2.1.2.2.2.1,d.2.1.2.2.2.2.1,d.2.1.2.2.2.2.2.1,d.2.1.2.2.2.2.2.2.1,d.2.1.2.2.2.2.2.2.2.1,0,d.2.1.2.2.2.2.2.2.2.2.2),d.2.2))) else none))))) else some (.inr (((),d.1.2.1,()),d.2)))
abbrev k194:Nat×OPat:=(1, .var (.agg [.agg [.pth 0 [.fld 1], .hole (.int .i64), .hole (.int .i64), .hole (.int .i64)], .agg [.pth 0 [.fld 3], .hole (.int .i64), .hole (.int .i64), .hole (.int .i64)], .agg [.pth 0 [.fld 11], .hole (.int .i64), .hole (.int .i64), .hole (.int .i64)]]))
abbrev k33:List (Nat×OPat):=[k155,k194]
abbrev zfx.S:LSpec:=⟨⟨[(1, .ptr 0),k156,(11, .vsl 1 3),k157,k158],k33⟩,[⟨k28,k33⟩],[(.exit 0)],f83.ntmps⟩
abbrev zfx.D:Type:=(k251×(De9×k267×Unit))
abbrev zfx.R:Type:=(k247×(De9×k267×Unit))
def zfx (w:W)(d:zfx.D):Option (zfx.D⊕zfx.R):=(bif (w.odec (d.1.2.2.2.2.1<d.1.2.2.2.1)) then(bif w.odec (d.1.2.2.2.2.1=((0:Nat):Int)) then(bif d.1.2.1 then(bif (w.odec (d.2.1.2.1≥d.2.2.1.1.2.2.1)) then some (.inl (((),(w.odec (d.2.1.2.1≤d.2.2.1.1.2.2.2.1)),(),d.1.2.2.2.1,(w.wr .i64 (d.1.2.2.2.2.1+1)),()),(d.2.1.1,0,d.2.1.2.2),d.2.2)) else some (.inl (((),false,(),d.1.2.2.2.1,(w.wr .i64 (d.1.2.2.2.2.1+1)),()),(d.2.1.1,0,d.2.1.2.2),d.2.2))) else some (.inl (((),false,(),d.1.2.2.2.1,(w.wr .i64 (d.1.2.2.2.2.1+1)),()),(d.2.1.1,0,d.2.1.2.2),d.2.2))) else(bif w.odec (d.1.2.2.2.2.1=((1:Nat):Int)) then(bif d.1.2.1 then(bif (w.odec (d.2.1.2.2.2.1≥d.2.2.1.2.1.2.2.1)) then some (.inl (((),(w.odec (d.2.1.2.2.2.1≤d.2.2.1.2.1.2.2.2.1)),(),d.1.2.2.2.1,(w.wr .i64 (d.1.2.2.2.2.1+1)),()),(d.2.1.1,d.2.1.2.1,d.2.1.2.2.1,0,d.2.1.2.2.2.2),d.2.2)) else some (.inl (((),false,(),d.1.2.2.2.1,(w.wr .i64 (d.1.2.2.2.2.1+1)),()),(d.2.1.1,d.2.1.2.1,d.2.1.2.2.1,0,d.2.1.2.2.2.2),d.2.2))) else some (.inl (((),false,(),d.1.2.2.2.1,(w.wr .i64 (d.1.2.2.2.2.1+1)),()),(d.2.1.1,d.2.1.2.1,d.2.1.2.2.1,0,d.2.1.2.2.2.2),d.2.2))) else(bif w.odec (d.1.2.2.2.2.1=((2:Nat):Int)) then(bif d.1.2.1 then(bif (w.odec (d.2.1.2.2.2.2.2.2.2.2.2.2.2.1≥d.2.2.1.2.2.1.2.2.1)) then some (.inl (((),(w.odec (d.2.1.2.2.2.2.2.2.2.2.2.2.2.1≤d.2.2.1.2.2.1.2.2.2.1)),(),d.1.2.2.2.1,(w.wr .i64 (d.1.2.2.2.2.1+1)),()),(d.2.1.1,d.2.1.2.1,d.2.1.2.2.1,d.2.1.2.2.2.1,d.2.1.2.2.2.2.1,d.2.1.2.2.2.2.2.1,d.2.1.2.2.2.2.2.2.1,d.2.1.2.2.2.2.2.2.2.1,d.2.1.2.2.2.2.2.2.2.2.1,d.2.1.2.2.2.2.2.2.2.2.2.1,d.2.1.2.2.2.2.2.2.2.2.2.2.1,0,d.2.1.2.2.2.2.2.2.2.2.2.2.2.2),d.2.2)) else some (.inl (((),false,(),d.1.2.2.2.1,(w.wr .i64 (d.1.2.2.2.2.1+1)),()),(d.2.1.1,d.2.1.2.1,d.2.1.2.2.1,d.2.1.2.2.2.1,d.2.1.2.2.2.2.1,d.2.1.2.2.2.2.2.1,d.2.1.2.2.2.2.2.2.1,d.2.1.2.2.2.2.2.2.2.1,d.2.1.2.2.2.2.2.2.2.2.1,d.2.1.2.2.2.2.2.2.2.2.2.1,d.2.1.2.2.2.2.2.2.2.2.2.2.1,0,d.2.1.2.2.2.2.2.2.2.2.2.2.2.2),d.2.2))) else some (.inl (((),false,(),d.1.2.2.2.1,(w.wr .i64 (d.1.2.2.2.2.1+1)),()),(d.2.1.1,d.2.1.2.1,d.2.1.2.2.1,d.2.1.2.2.2.1,d.2.1.2.2.2.2.1,d.2.1.2.2.2.2.2.1,d.2.1.2.2.2.2.2.2.1,d.2.1.2.2.2.2.2.2.2.1,d.2.1.2.2.2.2.2.2.2.2.1,d.2.1.2.2.2.2.2.2.2.2.2.1,d.2.1.2.2.2.2.2.2.2.2.2.2.1,0,d.2.1.2.2.2.2.2.2.2.2.2.2.2.2),d.2.2))) else none))) else some (.inr (((),d.1.2.1,()),d.2)))
abbrev k195:Nat×OPat:=(1, .var (.agg [.agg [.pth 0 [.fld 1], .hole (.int .i64), .hole (.int .i64), .hole (.int .i64)], .agg [.pth 0 [.fld 11], .hole (.int .i64), .hole (.int .i64), .hole (.int .i64)], .agg [.pth 0 [.fld 12], .hole (.int .i64), .hole (.int .i64), .hole (.int .i64)], .agg [.pth 0 [.fld 13], .hole (.int .i64), .hole (.int .i64), .hole (.int .i64)]]))
abbrev k34:List (Nat×OPat):=[k155,k195]
abbrev zfy.S:LSpec:=⟨⟨k30,k34⟩,[⟨k28,k34⟩],[(.exit 0)],f83.ntmps⟩
abbrev zfy.D:Type:=(k251×(De9×k236×Unit))
abbrev zfy.R:Type:=(k247×(De9×k236×Unit))
def zfy (w:W)(d:zfy.D):Option (zfy.D⊕zfy.R):=(bif (w.odec (d.1.2.2.2.2.1<d.1.2.2.2.1)) then(bif w.odec (d.1.2.2.2.2.1=((0:Nat):Int)) then(bif d.1.2.1 then(bif (w.odec (d.2.1.2.1≥d.2.2.1.1.2.2.1)) then some (.inl (((),(w.odec (d.2.1.2.1≤d.2.2.1.1.2.2.2.1)),(),d.1.2.2.2.1,(w.wr .i64 (d.1.2.2.2.2.1+1)),()),(d.2.1.1,0,d.2.1.2.2),d.2.2)) else some (.inl (((),false,(),d.1.2.2.2.1,(w.wr .i64 (d.1.2.2.2.2.1+1)),()),(d.2.1.1,0,d.2.1.2.2),d.2.2))) else some (.inl (((),false,(),d.1.2.2.2.1,(w.wr .i64 (d.1.2.2.2.2.1+1)),()),(d.2.1.1,0,d.2.1.2.2),d.2.2))) else(bif w.odec (d.1.2.2.2.2.1=((1:Nat):Int)) then(bif d.1.2.1 then(bif (w.odec (d.2.1.2.2.2.2.2.2.2.2.2.2.2.1≥d.2.2.1.2.1.2.2.1)) then some (.inl (((),(w.odec (d.2.1.2.2.2.2.2.2.2.2.2.2.2.1≤d.2.2.1.2.1.2.2.2.1)),(),d.1.2.2.2.1,(w.wr .i64 (d.1.2.2.2.2.1+1)),()),(d.2.1.1,d.2.1.2.1,d.2.1.2.2.1,d.2.1.2.2.2.1,d.2.1.2.2.2.2.1,d.2.1.2.2.2.2.2.1,d.2.1.2.2.2.2.2.2.1,d.2.1.2.2.2.2.2.2.2.1,d.2.1.2.2.2.2.2.2.2.2.1,d.2.1.2.2.2.2.2.2.2.2.2.1,d.2.1.2.2.2.2.2.2.2.2.2.2.1,0,d.2.1.2.2.2.2.2.2.2.2.2.2.2.2),d.2.2)) else some (.inl (((),false,(),d.1.2.2.2.1,(w.wr .i64 (d.1.2.2.2.2.1+1)),()),(d.2.1.1,d.2.1.2.1,d.2.1.2.2.1,d.2.1.2.2.2.1,d.2.1.2.2.2.2.1,d.2.1.2.2.2.2.2.1,d.2.1.2.2.2.2.2.2.1,d.2.1.2.2.2.2.2.2.2.1,d.2.1.2.2.2.2.2.2.2.2.1,d.2.1.2.2.2.2.2.2.2.2.2.1,d.2.1.2.2.2.2.2.2.2.2.2.2.1,0,d.2.1.2.2.2.2.2.2.2.2.2.2.2.2),d.2.2))) else some (.inl (((),false,(),d.1.2.2.2.1,(w.wr .i64 (d.1.2.2.2.2.1+1)),()),(d.2.1.1,d.2.1.2.1,d.2.1.2.2.1,d.2.1.2.2.2.1,d.2.1.2.2.2.2.1,d.2.1.2.2.2.2.2.1,d.2.1.2.2.2.2.2.2.1,d.2.1.2.2.2.2.2.2.2.1,d.2.1.2.2.2.2.2.2.2.2.1,d.2.1.2.2.2.2.2.2.2.2.2.1,d.2.1.2.2.2.2.2.2.2.2.2.2.1,0,d.2.1.2.2.2.2.2.2.2.2.2.2.2.2),d.2.2))) else(bif w.odec (d.1.2.2.2.2.1=((2:Nat):Int)) then(bif d.1.2.1 then(bif (w.odec (d.2.1.2.2.2.2.2.2.2.2.2.2.2.2.1≥d.2.2.1.2.2.1.2.2.1)) then some (.inl (((),(w.odec (d.2.1.2.2.2.2.2.2.2.2.2.2.2.2.1≤d.2.2.1.2.2.1.2.2.2.1)),(),d.1.2.2.2.1,(w.wr .i64 (d.1.2.2.2.2.1+1)),()),(d.2.1.1,d.2.1.2.1,d.2.1.2.2.1,d.2.1.2.2.2.1,d.2.1.2.2.2.2.1,d.2.1.2.2.2.2.2.1,d.2.1.2.2.2.2.2.2.1,d.2.1.2.2.2.2.2.2.2.1,d.2.1.2.2.2.2.2.2.2.2.1,d.2.1.2.2.2.2.2.2.2.2.2.1,d.2.1.2.2.2.2.2.2.2.2.2.2.1,d.2.1.2.2.2.2.2.2.2.2.2.2.2.1,0,d.2.1.2.2.2.2.2.2.2.2.2.2.2.2.2),d.2.2)) else some (.inl (((),false,(),d.1.2.2.2.1,(w.wr .i64 (d.1.2.2.2.2.1+1)),()),(d.2.1.1,d.2.1.2.1,d.2.1.2.2.1,d.2.1.2.2.2.1,d.2.1.2.2.2.2.1,d.2.1.2.2.2.2.2.1,d.2.1.2.2.2.2.2.2.1,d.2.1.2.2.2.2.2.2.2.1,d.2.1.2.2.2.2.2.2.2.2.1,d.2.1.2.2.2.2.2.2.2.2.2.1,d.2.1.2.2.2.2.2.2.2.2.2.2.1,d.2.1.2.2.2.2.2.2.2.2.2.2.2.1,0,d.2.1.2.2.2.2.2.2.2.2.2.2.2.2.2),d.2.2))) else some (.inl (((),false,(),d.1.2.2.2.1,(w.wr .i64 (d.1.2.2.2.2.1+1)),()),(d.2.1.1,d.2.1.2.1,d.2.1.2.2.1,d.2.1.2.2.2.1,d.2.1.2.2.2.2.1,d.2.1.2.2.2.2.2.1,d.2.1.2.2.2.2.2.2.1,d.2.1.2.2.2.2.2.2.2.1,d.2.1.2.2.2.2.2.2.2.2.1,d.2.1.2.2.2.2.2.2.2.2.2.1,d.2.1.2.2.2.2.2.2.2.2.2.2.1,d.2.1.2.2.2.2.2.2.2.2.2.2.2.1,0,d.2.1.2.2.2.2.2.2.2.2.2.2.2.2.2),d.2.2))) else(bif w.odec (d.1.2.2.2.2.1=((3:Nat):Int)) then(bif d.1.2.1 then(bif (w.odec (d.2.1.2.2.2.2.2.2.2.2.2.2.2.2.2.1≥d.2.2.1.2.2.2.1.2.2.1)) then some (.inl (((),(w.odec (d.2.1.2.2.2.2.2.2.2.2.2.2.2.2.2.1≤d.2.2.1.2.2.2.1.2.2.2.1)),(),d.1.2.2.2.1,(w.wr .i64 (d.1.2.2.2.2.1+1)),()),(d.2.1.1,d.2.1.2.1,d.2.1.2.2.1,d.2.1.2.2.2.1,d.2.1.2.2.2.2.1,d.2.1.2.2.2.2.2.1,d.2.1.2.2.2.2.2.2.1,d.2.1.2.2.2.2.2.2.2.1,d.2.1.2.2.2.2.2.2.2.2.1,d.2.1.2.2.2.2.2.2.2.2.2.1,d.2.1.2.2.2.2.2.2.2.2.2.2.1,d.2.1.2.2.2.2.2.2.2.2.2.2.2.1,d.2.1.2.2.2.2.2.2.2.2.2.2.2.2.1,0,d.2.1.2.2.2.2.2.2.2.2.2.2.2.2.2.2),d.2.2)) else some (.inl (((),false,(),d.1.2.2.2.1,(w.wr .i64 (d.1.2.2.2.2.1+1)),()),(d.2.1.1,d.2.1.2.1,d.2.1.2.2.1,d.2.1.2.2.2.1,d.2.1.2.2.2.2.1,d.2.1.2.2.2.2.2.1,d.2.1.2.2.2.2.2.2.1,d.2.1.2.2.2.2.2.2.2.1,d.2.1.2.2.2.2.2.2.2.2.1,d.2.1.2.2.2.2.2.2.2.2.2.1,d.2.1.2.2.2.2.2.2.2.2.2.2.1,d.2.1.2.2.2.2.2.2.2.2.2.2.2.1,d.2.1.2.2.2.2.2.2.2.2.2.2.2.2.1,0,d.2.1.2.2.2.2.2.2.2.2.2.2.2.2.2.2),d.2.2))) else some (.inl (((),false,(),d.1.2.2.2.1,(w.wr .i64 (d.1.2.2.2.2.1+1)),()),(d.2.1.1,d.2.1.2.1,d.2.1.2.2.1,d.2.1.2.2.2.1,d.2.1.2.2.2.2.1,d.2.1.2.2.2.2.2.1,d.2.1.2.2.2.2.2.2.1,d.2.1.2.2.2.2.2.2.2.1,d.2.1.2.2.2.2.2.2.2.2.1,d.2.1.2.2.2.2.2.2.2.2.2.1,d.2.1.2.2.2.2.2.2.2.2.2.2.1,d.2.1.2.2.2.2.2.2.2.2.2.2.2.1,d.2.1.2.2.2.2.2.2.2.2.2.2.2.2.1,0,d.2.1.2.2.2.2.2.2.2.2.2.2.2.2.2.2),d.2.2))) else none)))) else some (.inr (((),d.1.2.1,()),d.2)))
abbrev zfz.S:LSpec:=⟨⟨[(1, .ptr 0),k156,(11, .const (.slice none 0 0)),k157,k158],k25⟩,[⟨k28,k25⟩],[(.exit 0)],f83.ntmps⟩
abbrev zfz.D:Type:=(k251×k265)
abbrev zfz.R:Type:=(k247×k265)
def zfz (w:W)(d:zfz.D):Option (zfz.D⊕zfz.R):=(bif (w.odec (d.1.2.2.2.2.1<d.1.2.2.2.1)) then none else some (.inr (((),d.1.2.1,()),d.2)))
abbrev k35:List (Nat×Pat):=[(0, .hole ty9)]
abbrev zie.S:FSpec:=⟨⟨k35,[]⟩,[⟨k12,[]⟩],true⟩
abbrev zie.D:Type:=(k265×(Unit))
abbrev zie.R:Type:=k248
def zie (w:W)(d:zie.D):Option zie.R:=(((zhx w) (((),()),d.1)).bind fun r1=>(match r1 with| .inl r2=>((w.loopFix (L:=zgd.D) (zgd w) (((),r2.1.2.1,(),1,0,()),r2.2)).bind fun r4=>(bif (w.odec (r4.2.1.1=2)) then(bif r4.1.2.1 then some (((((w.intEq r4.2.1.1 r4.2.1.1)&& ((w.intEq r4.2.1.2.1 0)&& ((w.intEq r4.2.1.2.2.1 0)&& ((w.intEq r4.2.1.2.2.2.1 0)&& ((w.intEq r4.2.1.2.2.2.2.1 0)&& ((w.intEq r4.2.1.2.2.2.2.2.1 0)&& ((w.intEq r4.2.1.2.2.2.2.2.2.1 0)&& ((w.intEq r4.2.1.2.2.2.2.2.2.2.1 0)&& ((w.intEq r4.2.1.2.2.2.2.2.2.2.2.1 0)&& ((w.intEq r4.2.1.2.2.2.2.2.2.2.2.2.1 0)&& ((w.intEq r4.2.1.2.2.2.2.2.2.2.2.2.2.1 0)&& ((w.intEq r4.2.1.2.2.2.2.2.2.2.2.2.2.2.1 0)&& ((w.intEq r4.2.1.2.2.2.2.2.2.2.2.2.2.2.2.1 0)&& ((w.intEq r4.2.1.2.2.2.2.2.2.2.2.2.2.2.2.2.1 0)&& ((((List.replicate 32 (0:Int)).zip (List.replicate 32 (0:Int))).all fun p=>w.teq (.int .u8) p.1 p.2)&&true))))))))))))))),()),())) else some (((false,()),()))) else(bif r4.1.2.1 then some (((((w.intEq r4.2.1.1 r4.2.1.1)&& ((w.intEq r4.2.1.2.1 0)&& ((w.intEq r4.2.1.2.2.1 0)&& ((w.intEq r4.2.1.2.2.2.1 0)&& ((w.intEq r4.2.1.2.2.2.2.1 0)&& ((w.intEq r4.2.1.2.2.2.2.2.1 0)&& ((w.intEq r4.2.1.2.2.2.2.2.2.1 0)&& ((w.intEq r4.2.1.2.2.2.2.2.2.2.1 0)&& ((w.intEq r4.2.1.2.2.2.2.2.2.2.2.1 0)&& ((w.intEq r4.2.1.2.2.2.2.2.2.2.2.2.1 0)&& ((w.intEq r4.2.1.2.2.2.2.2.2.2.2.2.2.1 0)&& ((w.intEq r4.2.1.2.2.2.2.2.2.2.2.2.2.2.1 0)&& ((w.intEq r4.2.1.2.2.2.2.2.2.2.2.2.2.2.2.1 0)&& ((w.intEq r4.2.1.2.2.2.2.2.2.2.2.2.2.2.2.2.1 0)&& (((r4.2.1.2.2.2.2.2.2.2.2.2.2.2.2.2.2.1.zip (List.replicate 32 (0:Int))).all fun p=>w.teq (.int .u8) p.1 p.2)&&true))))))))))))))),()),())) else some (((false,()),())))))| .inr r3=>(match r3 with| .inl r5=>((w.loopFix (L:=zfu.D) (zfu w) (((),r5.1.2.1,(),9,0,()),r5.2)).bind fun r7=>(bif (w.odec (r7.2.1.1=2)) then(bif r7.1.2.1 then some (((((w.intEq r7.2.1.1 r7.2.1.1)&& ((w.intEq r7.2.1.2.1 0)&& ((w.intEq r7.2.1.2.2.1 0)&& ((w.intEq r7.2.1.2.2.2.1 0)&& ((w.intEq r7.2.1.2.2.2.2.1 0)&& ((w.intEq r7.2.1.2.2.2.2.2.1 0)&& ((w.intEq r7.2.1.2.2.2.2.2.2.1 0)&& ((w.intEq r7.2.1.2.2.2.2.2.2.2.1 0)&& ((w.intEq r7.2.1.2.2.2.2.2.2.2.2.1 0)&& ((w.intEq r7.2.1.2.2.2.2.2.2.2.2.2.1 0)&& ((w.intEq r7.2.1.2.2.2.2.2.2.2.2.2.2.1 0)&& ((w.intEq r7.2.1.2.2.2.2.2.2.2.2.2.2.2.1 0)&& ((w.intEq r7.2.1.2.2.2.2.2.2.2.2.2.2.2.2.1 0)&& ((w.intEq r7.2.1.2.2.2.2.2.2.2.2.2.2.2.2.2.1 0)&& ((((List.replicate 32 (0:Int)).zip (List.replicate 32 (0:Int))).all fun p=>w.teq (.int .u8) p.1 p.2)&&true))))))))))))))),()),())) else some (((false,()),()))) else(bif r7.1.2.1 then some (((((w.intEq r7.2.1.1 r7.2.1.1)&& ((w.intEq r7.2.1.2.1 0)&& ((w.intEq r7.2.1.2.2.1 0)&& ((w.intEq r7.2.1.2.2.2.1 0)&& ((w.intEq r7.2.1.2.2.2.2.1 0)&& ((w.intEq r7.2.1.2.2.2.2.2.1 0)&& ((w.intEq r7.2.1.2.2.2.2.2.2.1 0)&& ((w.intEq r7.2.1.2.2.2.2.2.2.2.1 0)&& ((w.intEq r7.2.1.2.2.2.2.2.2.2.2.1 0)&& ((w.intEq r7.2.1.2.2.2.2.2.2.2.2.2.1 0)&& ((w.intEq r7.2.1.2.2.2.2.2.2.2.2.2.2.1 0)&& ((w.intEq r7.2.1.2.2.2.2.2.2.2.2.2.2.2.1 0)&& ((w.intEq r7.2.1.2.2.2.2.2.2.2.2.2.2.2.2.1 0)&& ((w.intEq r7.2.1.2.2.2.2.2.2.2.2.2.2.2.2.2.1 0)&& (((r7.2.1.2.2.2.2.2.2.2.2.2.2.2.2.2.2.1.zip (List.replicate 32 (0:Int))).all fun p=>w.teq (.int .u8) p.1 p.2)&&true))))))))))))))),()),())) else some (((false,()),())))))| .inr r6=>(match r6 with| .inl r8=>((w.loopFix (L:=zfv.D) (zfv w) (((),r8.1.2.1,(),4,0,()),r8.2)).bind fun r10=>(bif (w.odec (r10.2.1.1=2)) then(bif r10.1.2.1 then some (((((w.intEq r10.2.1.1 r10.2.1.1)&& ((w.intEq r10.2.1.2.1 0)&& ((w.intEq r10.2.1.2.2.1 0)&& ((w.intEq r10.2.1.2.2.2.1 0)&& ((w.intEq r10.2.1.2.2.2.2.1 0)&& ((w.intEq r10.2.1.2.2.2.2.2.1 0)&& ((w.intEq r10.2.1.2.2.2.2.2.2.1 0)&& ((w.intEq r10.2.1.2.2.2.2.2.2.2.1 0)&& ((w.intEq r10.2.1.2.2.2.2.2.2.2.2.1 0)&& ((w.intEq r10.2.1.2.2.2.2.2.2.2.2.2.1 0)&& ((w.intEq r10.2.1.2.2.2.2.2.2.2.2.2.2.1 0)&& ((w.intEq r10.2.1.2.2.2.2.2.2.2.2.2.2.2.1 0)&& ((w.intEq r10.2.1.2.2.2.2.2.2.2.2.2.2.2.2.1 0)&& ((w.intEq r10.2.1.2.2.2.2.2.2.2.2.2.2.2.2.2.1 0)&& ((((List.replicate 32 (0:Int)).zip (List.replicate 32 (0:Int))).all fun p=>w.teq (.int .u8) p.1 p.2)&&true))))))))))))))),()),())) else some (((false,()),()))) else(bif r10.1.2.1 then some (((((w.intEq r10.2.1.1 r10.2.1.1)&& ((w.intEq r10.2.1.2.1 0)&& ((w.intEq r10.2.1.2.2.1 0)&& ((w.intEq r10.2.1.2.2.2.1 0)&& ((w.intEq r10.2.1.2.2.2.2.1 0)&& ((w.intEq r10.2.1.2.2.2.2.2.1 0)&& ((w.intEq r10.2.1.2.2.2.2.2.2.1 0)&& ((w.intEq r10.2.1.2.2.2.2.2.2.2.1 0)&& ((w.intEq r10.2.1.2.2.2.2.2.2.2.2.1 0)&& ((w.intEq r10.2.1.2.2.2.2.2.2.2.2.2.1 0)&& ((w.intEq r10.2.1.2.2.2.2.2.2.2.2.2.2.1 0)&& ((w.intEq r10.2.1.2.2.2.2.2.2.2.2.2.2.2.1 0)&& ((w.intEq r10.2.1.2.2.2.2.2.2.2.2.2.2.2.2.1 0)&& ((w.intEq r10.2.1.2.2.2.2.2.2.2.2.2.2.2.2.2.1 0)&& (((r10.2.1.2.2.2.2.2.2.2.2.2.2.2.2.2.2.1.zip (List.replicate 32 (0:Int))).all fun p=>w.teq (.int .u8) p.1 p.2)&&true))))))))))))))),()),())) else some (((false,()),())))))| .inr r9=>(match r9 with| .inl r11=>((w.loopFix (L:=zfw.D) (zfw w) (((),r11.1.2.1,(),5,0,()),r11.2)).bind fun r13=>(bif (w.odec (r13.2.1.1=2)) then(bif r13.1.2.1 then some (((((w.intEq r13.2.1.1 r13.2.1.1)&& ((w.intEq r13.2.1.2.1 0)&& ((w.intEq r13.2.1.2.2.1 0)&& ((w.intEq r13.2.1.2.2.2.1 0)&& ((w.intEq r13.2.1.2.2.2.2.1 0)&& ((w.intEq r13.2.1.2.2.2.2.2.1 0)&& ((w.intEq r13.2.1.2.2.2.2.2.2.1 0)&& ((w.intEq r13.2.1.2.2.2.2.2.2.2.1 0)&& ((w.intEq r13.2.1.2.2.2.2.2.2.2.2.1 0)&& ((w.intEq r13.2.1.2.2.2.2.2.2.2.2.2.1 0)&& ((w.intEq r13.2.1.2.2.2.2.2.2.2.2.2.2.1 0)&& ((w.intEq r13.2.1.2.2.2.2.2.2.2.2.2.2.2.1 0)&& ((w.intEq r13.2.1.2.2.2.2.2.2.2.2.2.2.2.2.1 0)&& ((w.intEq r13.2.1.2.2.2.2.2.2.2.2.2.2.2.2.2.1 0)&& ((((List.replicate 32 (0:Int)).zip (List.replicate 32 (0:Int))).all fun p=>w.teq (.int .u8) p.1 p.2)&&true))))))))))))))),()),())) else some (((false,()),()))) else(bif r13.1.2.1 then some (((((w.intEq r13.2.1.1 r13.2.1.1)&& ((w.intEq r13.2.1.2.1 0)&& ((w.intEq r13.2.1.2.2.1 0)&& ((w.intEq r13.2.1.2.2.2.1 0)&& ((w.intEq r13.2.1.2.2.2.2.1 0)&& ((w.intEq r13.2.1.2.2.2.2.2.1 0)&& ((w.intEq r13.2.1.2.2.2.2.2.2.1 0)&& ((w.intEq r13.2.1.2.2.2.2.2.2.2.1 0)&& ((w.intEq r13.2.1.2.2.2.2.2.2.2.2.1 0)&& ((w.intEq r13.2.1.2.2.2.2.2.2.2.2.2.1 0)&& ((w.intEq r13.2.1.2.2.2.2.2.2.2.2.2.2.1 0)&& ((w.intEq r13.2.1.2.2.2.2.2.2.2.2.2.2.2.1 0)&& ((w.intEq r13.2.1.2.2.2.2.2.2.2.2.2.2.2.2.1 0)&& ((w.intEq r13.2.1.2.2.2.2.2.2.2.2.2.2.2.2.2.1 0)&& (((r13.2.1.2.2.2.2.2.2.2.2.2.2.2.2.2.2.1.zip (List.replicate 32 (0:Int))).all fun p=>w.teq (.int .u8) p.1 p.2)&&true))))))))))))))),()),())) else some (((false,()),())))))| .inr r12=>(match r12 with| .inl r14=>((w.loopFix (L:=zfx.D) (zfx w) (((),r14.1.2.1,(),3,0,()),r14.2)).bind fun r16=>(bif (w.odec (r16.2.1.1=2)) then(bif r16.1.2.1 then some (((((w.intEq r16.2.1.1 r16.2.1.1)&& ((w.intEq r16.2.1.2.1 0)&& ((w.intEq r16.2.1.2.2.1 0)&& ((w.intEq r16.2.1.2.2.2.1 0)&& ((w.intEq r16.2.1.2.2.2.2.1 0)&& ((w.intEq r16.2.1.2.2.2.2.2.1 0)&& ((w.intEq r16.2.1.2.2.2.2.2.2.1 0)&& ((w.intEq r16.2.1.2.2.2.2.2.2.2.1 0)&& ((w.intEq r16.2.1.2.2.2.2.2.2.2.2.1 0)&& ((w.intEq r16.2.1.2.2.2.2.2.2.2.2.2.1 0)&& ((w.intEq r16.2.1.2.2.2.2.2.2.2.2.2.2.1 0)&& ((w.intEq r16.2.1.2.2.2.2.2.2.2.2.2.2.2.1 0)&& ((w.intEq r16.2.1.2.2.2.2.2.2.2.2.2.2.2.2.1 0)&& ((w.intEq r16.2.1.2.2.2.2.2.2.2.2.2.2.2.2.2.1 0)&& ((((List.replicate 32 (0:Int)).zip (List.replicate 32 (0:Int))).all fun p=>w.teq (.int .u8) p.1 p.2)&&true))))))))))))))),()),())) else some (((false,()),()))) else(bif r16.1.2.1 then some (((((w.intEq r16.2.1.1 r16.2.1.1)&& ((w.intEq r16.2.1.2.1 0)&& ((w.intEq r16.2.1.2.2.1 0)&& ((w.intEq r16.2.1.2.2.2.1 0)&& ((w.intEq r16.2.1.2.2.2.2.1 0)&& ((w.intEq r16.2.1.2.2.2.2.2.1 0)&& ((w.intEq r16.2.1.2.2.2.2.2.2.1 0)&& ((w.intEq r16.2.1.2.2.2.2.2.2.2.1 0)&& ((w.intEq r16.2.1.2.2.2.2.2.2.2.2.1 0)&& ((w.intEq r16.2.1.2.2.2.2.2.2.2.2.2.1 0)&& ((w.intEq r16.2.1.2.2.2.2.2.2.2.2.2.2.1 0)&& ((w.intEq r16.2.1.2.2.2.2.2.2.2.2.2.2.2.1 0)&& ((w.intEq r16.2.1.2.2.2.2.2.2.2.2.2.2.2.2.1 0)&& ((w.intEq r16.2.1.2.2.2.2.2.2.2.2.2.2.2.2.2.1 0)&& (((r16.2.1.2.2.2.2.2.2.2.2.2.2.2.2.2.2.1.zip (List.replicate 32 (0:Int))).all fun p=>w.teq (.int .u8) p.1 p.2)&&true))))))))))))))),()),())) else some (((false,()),())))))| .inr r15=>(match r15 with| .inl r17=>((w.loopFix (L:=zfy.D) (zfy w) (((),r17.1.2.1,(),4,0,()),r17.2)).bind fun r19=>(bif (w.odec (r19.2.1.1=2)) then(bif r19.1.2.1 then some (((((w.intEq r19.2.1.1 r19.2.1.1)&& ((w.intEq r19.2.1.2.1 0)&& ((w.intEq r19.2.1.2.2.1 0)&& ((w.intEq r19.2.1.2.2.2.1 0)&& ((w.intEq r19.2.1.2.2.2.2.1 0)&& ((w.intEq r19.2.1.2.2.2.2.2.1 0)&& ((w.intEq r19.2.1.2.2.2.2.2.2.1 0)&& ((w.intEq r19.2.1.2.2.2.2.2.2.2.1 0)&& ((w.intEq r19.2.1.2.2.2.2.2.2.2.2.1 0)&& ((w.intEq r19.2.1.2.2.2.2.2.2.2.2.2.1 0)&& ((w.intEq r19.2.1.2.2.2.2.2.2.2.2.2.2.1 0)&& ((w.intEq r19.2.1.2.2.2.2.2.2.2.2.2.2.2.1 0)&& ((w.intEq r19.2.1.2.2.2.2.2.2.2.2.2.2.2.2.1 0)&& ((w.intEq r19.2.1.2.2.2.2.2.2.2.2.2.2.2.2.2.1 0)&& ((((List.replicate 32 (0:Int)).zip (List.replicate 32 (0:Int))).all fun p=>w.teq (.int .u8) p.1 p.2)&&true))))))))))))))),()),())) else some (((false,()),()))) else(bif r19.1.2.1 then some (((((w.intEq r19.2.1.1 r19.2.1.1)&& ((w.intEq r19.2.1.2.1 0)&& ((w.intEq r19.2.1.2.2.1 0)&& ((w.intEq r19.2.1.2.2.2.1 0)&& ((w.intEq r19.2.1.2.2.2.2.1 0)&& ((w.intEq r19.2.1.2.2.2.2.2.1 0)&& ((w.intEq r19.2.1.2.2.2.2.2.2.1 0)&& ((w.intEq r19.2.1.2.2.2.2.2.2.2.1 0)&& ((w.intEq r19.2.1.2.2.2.2.2.2.2.2.1 0)&& ((w.intEq r19.2.1.2.2.2.2.2.2.2.2.2.1 0)&& ((w.intEq r19.2.1.2.2.2.2.2.2.2.2.2.2.1 0)&& ((w.intEq r19.2.1.2.2.2.2.2.2.2.2.2.2.2.1 0)&& ((w.intEq r19.2.1.2.2.2.2.2.2.2.2.2.2.2.2.1 0)&& ((w.intEq r19.2.1.2.2.2.2.2.2.2.2.2.2.2.2.2.1 0)&& (((r19.2.1.2.2.2.2.2.2.2.2.2.2.2.2.2.2.1.zip (List.replicate 32 (0:Int))).all fun p=>w.teq (.int .u8) p.1 p.2)&&true))))))))))))))),()),())) else some (((false,()),())))))| .inr r18=>((w.loopFix (L:=zfz.D) (zfz w) (((),r18.1.2.1,(),0,0,()),r18.2)).bind fun r20=>(bif (w.odec (r20.2.1.1=2)) then(bif r20.1.2.1 then some (((((w.intEq r20.2.1.1 r20.2.1.1)&& ((w.intEq r20.2.1.2.1 0)&& ((w.intEq r20.2.1.2.2.1 0)&& ((w.intEq r20.2.1.2.2.2.1 0)&& ((w.intEq r20.2.1.2.2.2.2.1 0)&& ((w.intEq r20.2.1.2.2.2.2.2.1 0)&& ((w.intEq r20.2.1.2.2.2.2.2.2.1 0)&& ((w.intEq r20.2.1.2.2.2.2.2.2.2.1 0)&& ((w.intEq r20.2.1.2.2.2.2.2.2.2.2.1 0)&& ((w.intEq r20.2.1.2.2.2.2.2.2.2.2.2.1 0)&& ((w.intEq r20.2.1.2.2.2.2.2.2.2.2.2.2.1 0)&& ((w.intEq r20.2.1.2.2.2.2.2.2.2.2.2.2.2.1 0)&& ((w.intEq r20.2.1.2.2.2.2.2.2.2.2.2.2.2.2.1 0)&& ((w.intEq r20.2.1.2.2.2.2.2.2.2.2.2.2.2.2.2.1 0)&& ((((List.replicate 32 (0:Int)).zip (List.replicate 32 (0:Int))).all fun p=>w.teq (.int .u8) p.1 p.2)&&true))))))))))))))),()),())) else some (((false,()),()))) else(bif r20.1.2.1 then some (((((w.intEq r20.2.1.1 r20.2.1.1)&& ((w.intEq r20.2.1.2.1 0)&& ((w.intEq r20.2.1.2.2.1 0)&& ((w.intEq r20.2.1.2.2.2.1 0)&& ((w.intEq r20.2.1.2.2.2.2.1 0)&& ((w.intEq r20.2.1.2.2.2.2.2.1 0)&& ((w.intEq r20.2.1.2.2.2.2.2.2.1 0)&& ((w.intEq r20.2.1.2.2.2.2.2.2.2.1 0)&& ((w.intEq r20.2.1.2.2.2.2.2.2.2.2.1 0)&& ((w.intEq r20.2.1.2.2.2.2.2.2.2.2.2.1 0)&& ((w.intEq r20.2.1.2.2.2.2.2.2.2.2.2.2.1 0)&& ((w.intEq r20.2.1.2.2.2.2.2.2.2.2.2.2.2.1 0)&& ((w.intEq r20.2.1.2.2.2.2.2.2.2.2.2.2.2.2.1 0)&& ((w.intEq r20.2.1.2.2.2.2.2.2.2.2.2.2.2.2.2.1 0)&& (((r20.2.1.2.2.2.2.2.2.2.2.2.2.2.2.2.2.1.zip (List.replicate 32 (0:Int))).all fun p=>w.teq (.int .u8) p.1 p.2)&&true))))))))))))))),()),())) else some (((false,()),()))))))))))))
theorem zie.bod:bodyB f83=true:=by kernel_rfl
abbrev zgd.env {α:Type}:Env α:=mE [] []
theorem zgd.ok (d:zgd.D):lB prog zgd.S zgd.env f83 3 d=(zgd W0) d:=by kernel_rfl
theorem zgd.sok:LSpec.ok zgd.S=true:=by kernel_rfl
theorem zgd.con (base:Nat):rO prog base f83 3 zgd.S (zgd W0):=lK zgd.sok zie.bod mixed cN lN zgd.ok
abbrev zfu.env {α:Type}:Env α:=mE [] []
theorem zfu.ok (d:zfu.D):lB prog zfu.S zfu.env f83 3 d=(zfu W0) d:=by kernel_rfl
theorem zfu.sok:LSpec.ok zfu.S=true:=by kernel_rfl
theorem zfu.con (base:Nat):rO prog base f83 3 zfu.S (zfu W0):=lK zfu.sok zie.bod mixed cN lN zfu.ok
abbrev zfv.env {α:Type}:Env α:=mE [] []
theorem zfv.ok (d:zfv.D):lB prog zfv.S zfv.env f83 3 d=(zfv W0) d:=by kernel_rfl
theorem zfv.sok:LSpec.ok zfv.S=true:=by kernel_rfl
theorem zfv.con (base:Nat):rO prog base f83 3 zfv.S (zfv W0):=lK zfv.sok zie.bod mixed cN lN zfv.ok
abbrev zfw.env {α:Type}:Env α:=mE [] []
theorem zfw.ok (d:zfw.D):lB prog zfw.S zfw.env f83 3 d=(zfw W0) d:=by kernel_rfl
theorem zfw.sok:LSpec.ok zfw.S=true:=by kernel_rfl
theorem zfw.con (base:Nat):rO prog base f83 3 zfw.S (zfw W0):=lK zfw.sok zie.bod mixed cN lN zfw.ok
abbrev zfx.env {α:Type}:Env α:=mE [] []
theorem zfx.ok (d:zfx.D):lB prog zfx.S zfx.env f83 3 d=(zfx W0) d:=by kernel_rfl
theorem zfx.sok:LSpec.ok zfx.S=true:=by kernel_rfl
theorem zfx.con (base:Nat):rO prog base f83 3 zfx.S (zfx W0):=lK zfx.sok zie.bod mixed cN lN zfx.ok
abbrev zfy.env {α:Type}:Env α:=mE [] []
theorem zfy.ok (d:zfy.D):lB prog zfy.S zfy.env f83 3 d=(zfy W0) d:=by kernel_rfl
theorem zfy.sok:LSpec.ok zfy.S=true:=by kernel_rfl
theorem zfy.con (base:Nat):rO prog base f83 3 zfy.S (zfy W0):=lK zfy.sok zie.bod mixed cN lN zfy.ok
abbrev zfz.env {α:Type}:Env α:=mE [] []
theorem zfz.ok (d:zfz.D):lB prog zfz.S zfz.env f83 3 d=(zfz W0) d:=by kernel_rfl
theorem zfz.sok:LSpec.ok zfz.S=true:=by kernel_rfl
theorem zfz.con (base:Nat):rO prog base f83 3 zfz.S (zfz W0):=lK zfz.sok zie.bod mixed cN lN zfz.ok
abbrev zie.env {α:Type}:Env α:=mE [(85,[⟨zhx.S,(zhx W0),none⟩])] [(3,[⟨zgd.S,(zgd W0)⟩,⟨zfu.S,(zfu W0)⟩,⟨zfv.S,(zfv W0)⟩,⟨zfw.S,(zfw W0)⟩,⟨zfx.S,(zfx W0)⟩,⟨zfy.S,(zfy W0)⟩,⟨zfz.S,(zfz W0)⟩])]
theorem zie.ok (d:zie.D):fB prog zie.S zie.env f83 d=(zie W0) d:=by kernel_rfl
theorem zie.sok:FSpec.ok zie.S=true:=by kernel_rfl
theorem zie.con (base:Nat):fO prog base 83 zie.S (zie W0):=fC (fn:=f83) rfl (by decide) (by kernel_rfl) mixed (cC (cc0 zhx.sok (zhx.con base) cn) cN) (lC (lc zgd.sok (zgd.con base) (lc zfu.sok (zfu.con base) (lc zfv.sok (zfv.con base) (lc zfw.sok (zfw.con base) (lc zfx.sok (zfx.con base) (lc zfy.sok (zfy.con base) (lc zfz.sok (zfz.con base) ln))))))) lN) zie.ok
abbrev zg6.S:FSpec:=⟨⟨k35,[]⟩,[⟨k12,[]⟩],true⟩
abbrev zg6.D:Type:=(k265×(Unit))
abbrev zg6.R:Type:=k248
def zg6 (w:W)(d:zg6.D):Option zg6.R:=(bif (w.odec (d.1.1.1=3)) then(bif (w.odec (d.1.1.1=3)) then(((zie w) d).bind fun r1=>some (r1)) else some (((false,()),()))) else(bif (w.odec (d.1.1.1=4)) then(bif (w.odec (d.1.1.1=4)) then(((zie w) d).bind fun r2=>some (r2)) else some (((false,()),()))) else(bif (w.odec (d.1.1.1=5)) then(bif (w.odec (d.1.1.1=5)) then(((zie w) d).bind fun r3=>some (r3)) else some (((false,()),()))) else(bif (w.odec (d.1.1.1=6)) then(bif (w.odec (d.1.1.1=6)) then(((zie w) d).bind fun r4=>some (r4)) else some (((false,()),()))) else(bif (w.odec (d.1.1.1=9)) then(((zie w) d).bind fun r5=>some (r5)) else some (((false,()),())))))))
theorem zg6.bod:bodyB f179=true:=by kernel_rfl
abbrev zg6.env {α:Type}:Env α:=mE [(83,[⟨zie.S,(zie W0),none⟩])] []
theorem zg6.ok (d:zg6.D):fB prog zg6.S zg6.env f179 d=(zg6 W0) d:=by kernel_rfl
theorem zg6.sok:FSpec.ok zg6.S=true:=by kernel_rfl
theorem zg6.con (base:Nat):fO prog base 179 zg6.S (zg6 W0):=fC (fn:=f179) rfl (by decide) (by kernel_rfl) mixed (cC (cc0 zie.sok (zie.con base) cn) cN) lN zg6.ok
abbrev k36:List (Nat×Pat):=[(0, .ptr 0),(1, .hole ty10)]
abbrev zdr.S:FSpec:=⟨⟨k36,k22⟩,[⟨k12,k22⟩],true⟩
abbrev zdr.D:Type:=((Unit×De10×Unit)×k211)
abbrev zdr.R:Type:=(k229×k211)
def zdr (w:W)(d:zdr.D):Option zdr.R:=(bif (w.odec (d.1.2.1.1=1)) then(bif (w.odec (d.1.2.1.2.1≥1)) then(bif (w.odec (d.1.2.1.2.1≤(w.wr .i64 (1099511627776-d.2.1.2.1)))) then some (((((w.intEq d.1.2.1.1 d.1.2.1.1)&& ((w.intEq d.1.2.1.2.1 d.1.2.1.2.1)&& ((w.intEq d.1.2.1.2.2.1 0)&& (((w.intEq d.1.2.1.2.2.2.1.1 0)&& ((w.intEq d.1.2.1.2.2.2.1.2.1 0)&& ((w.intEq d.1.2.1.2.2.2.1.2.2.1 0)&& ((w.intEq d.1.2.1.2.2.2.1.2.2.2.1 0)&& ((w.intEq d.1.2.1.2.2.2.1.2.2.2.2.1 0)&& ((w.intEq d.1.2.1.2.2.2.1.2.2.2.2.2.1 0)&& ((w.intEq d.1.2.1.2.2.2.1.2.2.2.2.2.2.1 0)&& ((w.intEq d.1.2.1.2.2.2.1.2.2.2.2.2.2.2.1 0)&& ((w.intEq d.1.2.1.2.2.2.1.2.2.2.2.2.2.2.2.1 0)&& ((w.intEq d.1.2.1.2.2.2.1.2.2.2.2.2.2.2.2.2.1 0)&& ((w.intEq d.1.2.1.2.2.2.1.2.2.2.2.2.2.2.2.2.2.1 0)&& ((w.intEq d.1.2.1.2.2.2.1.2.2.2.2.2.2.2.2.2.2.2.1 0)&& ((w.intEq d.1.2.1.2.2.2.1.2.2.2.2.2.2.2.2.2.2.2.2.1 0)&& ((w.intEq d.1.2.1.2.2.2.1.2.2.2.2.2.2.2.2.2.2.2.2.2.1 0)&& (((d.1.2.1.2.2.2.1.2.2.2.2.2.2.2.2.2.2.2.2.2.2.1.zip (List.replicate 32 (0:Int))).all fun p=>w.teq (.int .u8) p.1 p.2)&&true)))))))))))))))&&true)))),()),d.2)) else some (((false,()),d.2))) else some (((false,()),d.2))) else(bif (!w.odec (d.1.2.1.2.1=0)) then some (((false,()),d.2)) else(((zep w) (((),d.1.2.1.2.2.1,()),d.2.2.1,())).bind fun r1=>(bif (!r1.1.1) then some (((false,()),d.2.1,r1.2.1,d.2.2.2)) else(bif (w.odec (d.1.2.1.1=2)) then(((zg6 w) (d.1.2.1.2.2.2,())).bind fun r2=>some ((r2.1,d.2.1,r1.2.1,d.2.2.2))) else(bif (w.odec (d.1.2.1.1≥1)) then(bif (w.odec (d.1.2.1.1≤5)) then some (((((w.intEq d.1.2.1.2.2.2.1.1 0)&& ((w.intEq d.1.2.1.2.2.2.1.2.1 0)&& ((w.intEq d.1.2.1.2.2.2.1.2.2.1 0)&& ((w.intEq d.1.2.1.2.2.2.1.2.2.2.1 0)&& ((w.intEq d.1.2.1.2.2.2.1.2.2.2.2.1 0)&& ((w.intEq d.1.2.1.2.2.2.1.2.2.2.2.2.1 0)&& ((w.intEq d.1.2.1.2.2.2.1.2.2.2.2.2.2.1 0)&& ((w.intEq d.1.2.1.2.2.2.1.2.2.2.2.2.2.2.1 0)&& ((w.intEq d.1.2.1.2.2.2.1.2.2.2.2.2.2.2.2.1 0)&& ((w.intEq d.1.2.1.2.2.2.1.2.2.2.2.2.2.2.2.2.1 0)&& ((w.intEq d.1.2.1.2.2.2.1.2.2.2.2.2.2.2.2.2.2.1 0)&& ((w.intEq d.1.2.1.2.2.2.1.2.2.2.2.2.2.2.2.2.2.2.1 0)&& ((w.intEq d.1.2.1.2.2.2.1.2.2.2.2.2.2.2.2.2.2.2.2.1 0)&& ((w.intEq d.1.2.1.2.2.2.1.2.2.2.2.2.2.2.2.2.2.2.2.2.1 0)&& (((d.1.2.1.2.2.2.1.2.2.2.2.2.2.2.2.2.2.2.2.2.2.1.zip (List.replicate 32 (0:Int))).all fun p=>w.teq (.int .u8) p.1 p.2)&&true))))))))))))))),()),d.2.1,r1.2.1,d.2.2.2)) else some (((false,()),d.2.1,r1.2.1,d.2.2.2))) else some (((false,()),d.2.1,r1.2.1,d.2.2.2))))))))
theorem zdr.bod:bodyB f142=true:=by kernel_rfl
abbrev zdr.env {α:Type}:Env α:=mE [(178,[⟨zep.S,(zep W0),none⟩]),(179,[⟨zg6.S,(zg6 W0),none⟩])] []
theorem zdr.ok (d:zdr.D):fB prog zdr.S zdr.env f142 d=(zdr W0) d:=by kernel_rfl
theorem zdr.sok:FSpec.ok zdr.S=true:=by kernel_rfl
theorem zdr.con (base:Nat):fO prog base 142 zdr.S (zdr W0):=fC (fn:=f142) rfl (by decide) (by kernel_rfl) mixed (cC (cc0 zep.sok (zep.con base) cn) (cC (cc0 zg6.sok (zg6.con base) cn) cN)) lN zdr.ok
abbrev k37:List (Nat×OPat):=[(0, .var (.hole ty0))]
abbrev zds.S:FSpec:=⟨⟨k23,k37⟩,[⟨k12,k37⟩],true⟩
abbrev zds.D:Type:=(k225×k279)
abbrev zds.R:Type:=(k229×k279)
def zds (w:W)(d:zds.D):Option zds.R:=(bif (w.odec (d.2.1.2.2.1≥d.2.1.1)) then some ((((w.odec (d.1.2.1<d.2.1.2.2.2.1)),()),d.2)) else some (((false,()),d.2)))
theorem zds.bod:bodyB f49=true:=by kernel_rfl
abbrev zds.env {α:Type}:Env α:=mE [] []
theorem zds.ok (d:zds.D):fB prog zds.S zds.env f49 d=(zds W0) d:=by kernel_rfl
theorem zds.sok:FSpec.ok zds.S=true:=by kernel_rfl
theorem zds.con (base:Nat):fO prog base 49 zds.S (zds W0):=fC (fn:=f49) rfl (by decide) (by kernel_rfl) mixed cN lN zds.ok
abbrev zdt.S:FSpec:=⟨⟨k23,k37⟩,[⟨[],k37⟩],true⟩
abbrev zdt.D:Type:=(k225×k279)
abbrev zdt.R:Type:=((Unit)×k279)
def zdt (w:W)(d:zdt.D):Option zdt.R:=(((zds w) d).bind fun r1=>(bif r1.1.1 then some (((),r1.2)) else(bif (w.odec (r1.2.1.2.2.1≥r1.2.1.1)) then(bif (w.odec ((w.wr .i64 (0+1))=r1.2.1.1)) then some (((),(r1.2.1.1,r1.2.1.2.1,(w.wr .i64 (0+1)),(w.wr .i64 (d.1.2.1+r1.2.1.2.1)),()),())) else some (((),(r1.2.1.1,r1.2.1.2.1,(w.wr .i64 (0+1)),r1.2.1.2.2.2),()))) else(bif (w.odec ((w.wr .i64 (r1.2.1.2.2.1+1))=r1.2.1.1)) then some (((),(r1.2.1.1,r1.2.1.2.1,(w.wr .i64 (r1.2.1.2.2.1+1)),(w.wr .i64 (d.1.2.1+r1.2.1.2.1)),()),())) else some (((),(r1.2.1.1,r1.2.1.2.1,(w.wr .i64 (r1.2.1.2.2.1+1)),r1.2.1.2.2.2),()))))))
theorem zdt.bod:bodyB f143=true:=by kernel_rfl
abbrev zdt.env {α:Type}:Env α:=mE [(49,[⟨zds.S,(zds W0),none⟩])] []
theorem zdt.ok (d:zdt.D):fB prog zdt.S zdt.env f143 d=(zdt W0) d:=by kernel_rfl
theorem zdt.sok:FSpec.ok zdt.S=true:=by kernel_rfl
theorem zdt.con (base:Nat):fO prog base 143 zdt.S (zdt W0):=fC (fn:=f143) rfl (by decide) (by kernel_rfl) mixed (cC (cc0 zds.sok (zds.con base) cn) cN) lN zdt.ok
abbrev zg7.S:FSpec:=⟨⟨k2,[]⟩,[⟨k12,[]⟩],true⟩
abbrev zg7.D:Type:=k263
abbrev zg7.R:Type:=k248
def zg7 (w:W)(d:zg7.D):Option zg7.R:=(bif (w.odec (d.1.1≥0)) then some ((((w.odec (d.1.1<32)),()),())) else some (((false,()),())))
theorem zg7.bod:bodyB f48=true:=by kernel_rfl
abbrev zg7.env {α:Type}:Env α:=mE [] []
theorem zg7.ok (d:zg7.D):fB prog zg7.S zg7.env f48 d=(zg7 W0) d:=by kernel_rfl
theorem zg7.sok:FSpec.ok zg7.S=true:=by kernel_rfl
theorem zg7.con (base:Nat):fO prog base 48 zg7.S (zg7 W0):=fC (fn:=f48) rfl (by decide) (by kernel_rfl) mixed cN lN zg7.ok
abbrev zcg.S:FSpec:=⟨⟨k23,k22⟩,[⟨k12,k22⟩],true⟩
abbrev zcg.D:Type:=(k225×k211)
abbrev zcg.R:Type:=(k229×k211)
def zcg (w:W)(d:zcg.D):Option zcg.R:=(((zg7 w) (d.1.2,())).bind fun r1=>(bif r1.1.1 then(bif w.odec (0≤d.1.2.1∧d.1.2.1<(32:Nat)) then((d.2.1.2.2.2.2.2.2.2.1[d.1.2.1.toNat]?).bind fun x2=>(onS x2 fun n3=>((d.2.2.2.2.2.1[n3]?).bind fun e4=>(((zds w) (((),d.2.1.2.1,()),e4)).bind fun r5=>some ((r5.1,d.2.1,d.2.2.1,d.2.2.2.1,d.2.2.2.2.1,(d.2.2.2.2.2.1.set n3 r5.2),d.2.2.2.2.2.2)))))) else none) else some (((false,()),d.2))))
theorem zcg.bod:bodyB f15=true:=by kernel_rfl
abbrev zcg.env {α:Type}:Env α:=mE [(48,[⟨zg7.S,(zg7 W0),none⟩]),(49,[⟨zds.S,(zds W0),none⟩])] []
theorem zcg.ok (d:zcg.D):fB prog zcg.S zcg.env f15 d=(zcg W0) d:=by kernel_rfl
theorem zcg.sok:FSpec.ok zcg.S=true:=by kernel_rfl
theorem zcg.con (base:Nat):fO prog base 15 zcg.S (zcg W0):=fC (fn:=f15) rfl (by decide) (by kernel_rfl) mixed (cC (cc0 zg7.sok (zg7.con base) cn) (cC (cc0 zds.sok (zds.con base) cn) cN)) lN zcg.ok
abbrev zeq.S:FSpec:=⟨⟨[(0, .ptr 0)],k37⟩,[⟨[],k37⟩],true⟩
abbrev zeq.D:Type:=(k221×k279)
abbrev zeq.R:Type:=((Unit)×k279)
def zeq (w:W)(d:zeq.D):Option zeq.R:=some (((),(d.2.1.1,d.2.1.2.1,0,0,()),()))
theorem zeq.bod:bodyB f144=true:=by kernel_rfl
abbrev zeq.env {α:Type}:Env α:=mE [] []
theorem zeq.ok (d:zeq.D):fB prog zeq.S zeq.env f144 d=(zeq W0) d:=by kernel_rfl
theorem zeq.sok:FSpec.ok zeq.S=true:=by kernel_rfl
theorem zeq.con (base:Nat):fO prog base 144 zeq.S (zeq W0):=fC (fn:=f144) rfl (by decide) (by kernel_rfl) mixed cN lN zeq.ok
abbrev k206:Nat×OPat:=(0, .var (.agg [.agg [.own 1, .own 2], .hole (.int .i64), .hole (.int .i64)]))
abbrev k177:Nat×OPat:=(2, .row (.ref 197))
abbrev k38:List (Nat×OPat):=[k206,(1, .row (.ref 197)),k177,k145]
abbrev k164:Nat×OPat:=(0, .var (.agg [.agg [.own 50, .own 51], .hole (.int .i64), .hole (.int .i64)]))
abbrev k165:Nat×OPat:=(50, .row (.ref 197))
abbrev k39:List (Nat×OPat):=[k164,k165,k143,k145]
abbrev k40:List (Nat×Pat):=[(0, .pth 0 [.fld 0, .fld 0])]
abbrev k41:List (Nat×Pat):=[(0, .pth 0 [.fld 0, .fld 1])]
abbrev zfb.S:FSpec:=⟨⟨k23,k38⟩,[⟨k21,k39⟩,⟨k40,k39⟩,⟨k41,k39⟩],true⟩
abbrev zfb.D:Type:=(k225×k214)
abbrev zfb.R:Type:=((k221×k214)⊕((k221×k214)⊕(k221×k214)))
def zfb (w:W)(d:zfb.D):Option zfb.R:=(bif (!w.odec (d.1.2.1=1)) then(bif (!w.odec (d.1.2.1=2)) then some ((.inl (((),()),d.2))) else(bif w.odec ((w.wr .i64 (d.1.2.1-1))=((0:Nat):Int)) then some ((.inr (.inl (((),()),d.2)))) else(bif w.odec ((w.wr .i64 (d.1.2.1-1))=((1:Nat):Int)) then some ((.inr (.inr (((),()),d.2)))) else none))) else(bif w.odec ((w.wr .i64 (d.1.2.1-1))=((0:Nat):Int)) then some ((.inr (.inl (((),()),d.2)))) else(bif w.odec ((w.wr .i64 (d.1.2.1-1))=((1:Nat):Int)) then some ((.inr (.inr (((),()),d.2)))) else none)))
theorem zfb.bod:bodyB f66=true:=by kernel_rfl
abbrev zfb.env {α:Type}:Env α:=mE [] []
theorem zfb.ok (d:zfb.D):fB prog zfb.S zfb.env f66 d=(zfb W0) d:=by kernel_rfl
theorem zfb.sok:FSpec.ok zfb.S=true:=by kernel_rfl
theorem zfb.con (base:Nat):fO prog base 66 zfb.S (zfb W0):=fC (fn:=f66) rfl (by decide) (by kernel_rfl) mixed cN lN zfb.ok
abbrev k159:Nat×Pat:=(10, .hole (.int .i64))
abbrev k160:Nat×Pat:=(11, .hole (.int .i64))
abbrev k161:Nat×OPat:=(0, .var (.agg [.hole (.int .i64), .own 1]))
abbrev k162:Nat×OPat:=(1, .row (.cons ty3 (.cons (.int .i64) .nil)))
abbrev k181:Nat×OPat:=(0, .var (.agg [.hole (.int .i64), .own 50]))
abbrev k173:Nat×OPat:=(50, .row (.cons ty3 (.cons (.int .i64) .nil)))
abbrev k42:List (Nat×OPat):=[k181,k173]
abbrev za9.S:LSpec:=⟨⟨[(0, .ptr 0),(3, .own 2),(9, .own 1),k159,k160],[k161,k162,(2, .row ty3)]⟩,[⟨[(3, .hole (.deep ty3))],k42⟩],[(.exit 0)],f67.ntmps⟩
abbrev k232:Type:=(Unit×Unit×Unit×Int×Int×Unit)
abbrev k239:Type:=(List (De3×Int×Unit))
abbrev za9.D:Type:=(k232×((Int×Unit×Unit)×k239×(List De3)×Unit))
abbrev k246:Type:=((List De3)×Unit)
abbrev k217:Type:=((Int×Unit×Unit)×k239×Unit)
abbrev za9.R:Type:=(k246×k217)
def za9 (w:W)(d:za9.D):Option (za9.D⊕za9.R):=(bif (w.odec (d.1.2.2.2.2.1<d.1.2.2.2.1)) then(bif w.odec (0≤d.1.2.2.2.2.1∧d.1.2.2.2.2.1<(d.2.2.1.length:Int)) then((d.2.2.1[d.1.2.2.2.2.1.toNat]?).bind fun x1=>(bif w.odec (((d.2.2.2.1.length+([x1.1]:List De3).length:Nat):Int)*(72:Nat)≤room) then some (.inl (((),(),(),d.1.2.2.2.1,(w.wr .i64 (d.1.2.2.2.2.1+1)),()),d.2.1,d.2.2.1,(d.2.2.2.1++([x1.1]:List De3)),())) else none)) else none) else some (.inr (d.2.2.2,d.2.1,d.2.2.1,())))
abbrev k43:List (Nat×OPat):=[k161,k162]
abbrev k174:Nat×Pat:=(0, .hole (.deep ty3))
abbrev k44:List (Nat×Pat):=[k174]
abbrev zch.S:FSpec:=⟨⟨[(0, .ptr 0)],k43⟩,[⟨k44,k42⟩],false⟩
abbrev zch.D:Type:=(k221×k217)
abbrev zch.R:Type:=(k246×k217)
def zch (w:W)(d:zch.D):Option zch.R:=((w.loopFix (L:=za9.D) (za9 w) (((),(),(),(d.2.2.1.length:Int),0,()),d.2.1,d.2.2.1,([]:List De3),())).bind fun r2=>some (r2))
theorem zch.bod:bodyB f67=true:=by kernel_rfl
abbrev za9.env {α:Type}:Env α:=mE [] []
theorem za9.ok (d:za9.D):lB prog za9.S za9.env f67 3 d=(za9 W0) d:=by kernel_rfl
theorem za9.sok:LSpec.ok za9.S=true:=by kernel_rfl
theorem za9.con (base:Nat):rO prog base f67 3 za9.S (za9 W0):=lK za9.sok zch.bod mixed cN lN za9.ok
abbrev zch.env {α:Type}:Env α:=mE [] [(3,[⟨za9.S,(za9 W0)⟩])]
theorem zch.ok (d:zch.D):fB prog zch.S zch.env f67 d=(zch W0) d:=by kernel_rfl
theorem zch.sok:FSpec.ok zch.S=true:=by kernel_rfl
theorem zch.con (base:Nat):fO prog base 67 zch.S (zch W0):=fC (fn:=f67) rfl (by decide) (by kernel_rfl) mixed cN (lC (lc za9.sok (za9.con base) ln) lN) zch.ok
abbrev k163:Nat×Pat:=(17, .hole (.int .i64))
abbrev k45:List (Nat×OPat):=[k206,(1, .row (.ref 197)),k177,(3, .row ty3),k145]
abbrev k46:List (Nat×Pat):=[(5, .hole (.deep ty3))]
abbrev zbx.S:LSpec:=⟨⟨[(0, .ptr 0),(5, .own 3),(16, .own 1),k163,(18, .hole (.int .i64))],k45⟩,[⟨k46,k39⟩],[(.exit 0)],f35.ntmps⟩
abbrev k269:Type:=(k213×(List Nat)×(List Nat)×(List De3)×(List E197)×Unit)
abbrev zbx.D:Type:=(k232×k269)
abbrev zbx.R:Type:=(k246×k214)
def zbx (w:W)(d:zbx.D):Option (zbx.D⊕zbx.R):=(bif (w.odec (d.1.2.2.2.2.1<d.1.2.2.2.1)) then(bif w.odec (0≤d.1.2.2.2.2.1∧d.1.2.2.2.2.1<(d.2.2.1.length:Int)) then((d.2.2.1[d.1.2.2.2.2.1.toNat]?).bind fun x6=>(onS x6 fun n7=>((d.2.2.2.2.2.1[n7]?).bind fun e8=>(((zch w) (((),()),e8)).bind fun r9=>(bif w.odec (((d.2.2.2.2.1.length+r9.1.1.length:Nat):Int)*(72:Nat)≤room) then some (.inl (((),(),(),d.1.2.2.2.1,(w.wr .i64 (d.1.2.2.2.2.1+1)),()),d.2.1,d.2.2.1,d.2.2.2.1,(d.2.2.2.2.1++r9.1.1),(d.2.2.2.2.2.1.set n7 r9.2),())) else none))))) else none) else some (.inr ((d.2.2.2.2.1,()),d.2.1,d.2.2.1,d.2.2.2.1,d.2.2.2.2.2)))
abbrev zbj.S:LSpec:=⟨⟨[(0, .ptr 0),(5, .own 3),(16, .own 2),k163,(18, .hole (.int .i64))],k45⟩,[⟨k46,k39⟩],[(.exit 0)],f35.ntmps⟩
abbrev zbj.D:Type:=(k232×k269)
abbrev zbj.R:Type:=(k246×k214)
def zbj (w:W)(d:zbj.D):Option (zbj.D⊕zbj.R):=(bif (w.odec (d.1.2.2.2.2.1<d.1.2.2.2.1)) then(bif w.odec (0≤d.1.2.2.2.2.1∧d.1.2.2.2.2.1<(d.2.2.2.1.length:Int)) then((d.2.2.2.1[d.1.2.2.2.2.1.toNat]?).bind fun x11=>(onS x11 fun n12=>((d.2.2.2.2.2.1[n12]?).bind fun e13=>(((zch w) (((),()),e13)).bind fun r14=>(bif w.odec (((d.2.2.2.2.1.length+r14.1.1.length:Nat):Int)*(72:Nat)≤room) then some (.inl (((),(),(),d.1.2.2.2.1,(w.wr .i64 (d.1.2.2.2.2.1+1)),()),d.2.1,d.2.2.1,d.2.2.2.1,(d.2.2.2.2.1++r14.1.1),(d.2.2.2.2.2.1.set n12 r14.2),())) else none))))) else none) else some (.inr ((d.2.2.2.2.1,()),d.2.1,d.2.2.1,d.2.2.2.1,d.2.2.2.2.2)))
abbrev zdu.S:FSpec:=⟨⟨k23,k38⟩,[⟨[(0, .own 52)],[k164,k165,k143,(52, .row ty3),k145]⟩,⟨k44,k39⟩],false⟩
abbrev zdu.D:Type:=(k225×k214)
abbrev zdu.R:Type:=((k221×k269)⊕(k246×k214))
def zdu (w:W)(d:zdu.D):Option zdu.R:=(((zfb w) d).bind fun r1=>(match r1 with| .inl r2=>some ((.inl (((),()),r2.2.1,r2.2.2.1,r2.2.2.2.1,([]:List De3),r2.2.2.2.2)))| .inr r3=>(match r3 with| .inl r4=>((w.loopFix (L:=zbx.D) (zbx w) (((),(),(),(r4.2.2.1.length:Int),0,()),r4.2.1,r4.2.2.1,r4.2.2.2.1,([]:List De3),r4.2.2.2.2)).bind fun r10=>some ((.inr r10)))| .inr r5=>((w.loopFix (L:=zbj.D) (zbj w) (((),(),(),(r5.2.2.2.1.length:Int),0,()),r5.2.1,r5.2.2.1,r5.2.2.2.1,([]:List De3),r5.2.2.2.2)).bind fun r15=>some ((.inr r15))))))
theorem zdu.bod:bodyB f35=true:=by kernel_rfl
abbrev zbx.env {α:Type}:Env α:=mE [(67,[⟨zch.S,(zch W0),none⟩])] []
theorem zbx.ok (d:zbx.D):lB prog zbx.S zbx.env f35 5 d=(zbx W0) d:=by kernel_rfl
theorem zbx.sok:LSpec.ok zbx.S=true:=by kernel_rfl
theorem zbx.con (base:Nat):rO prog base f35 5 zbx.S (zbx W0):=lK zbx.sok zdu.bod mixed (cC (cc0 zch.sok (zch.con base) cn) cN) lN zbx.ok
abbrev zbj.env {α:Type}:Env α:=mE [(67,[⟨zch.S,(zch W0),none⟩])] []
theorem zbj.ok (d:zbj.D):lB prog zbj.S zbj.env f35 5 d=(zbj W0) d:=by kernel_rfl
theorem zbj.sok:LSpec.ok zbj.S=true:=by kernel_rfl
theorem zbj.con (base:Nat):rO prog base f35 5 zbj.S (zbj W0):=lK zbj.sok zdu.bod mixed (cC (cc0 zch.sok (zch.con base) cn) cN) lN zbj.ok
abbrev zdu.env {α:Type}:Env α:=mE [(66,[⟨zfb.S,(zfb W0),none⟩])] [(5,[⟨zbx.S,(zbx W0)⟩,⟨zbj.S,(zbj W0)⟩])]
theorem zdu.ok (d:zdu.D):fB prog zdu.S zdu.env f35 d=(zdu W0) d:=by kernel_rfl
theorem zdu.sok:FSpec.ok zdu.S=true:=by kernel_rfl
theorem zdu.con (base:Nat):fO prog base 35 zdu.S (zdu W0):=fC (fn:=f35) rfl (by decide) (by kernel_rfl) mixed (cC (cc0 zfb.sok (zfb.con base) cn) cN) (lC (lc zbx.sok (zbx.con base) (lc zbj.sok (zbj.con base) ln)) lN) zdu.ok
abbrev k47:List (Nat×Pat):=[(0, .const (.slice none 0 0)),k138]
abbrev k48:List (Nat×OPat):=[(50, .row ty3)]
abbrev zas.S:FSpec:=⟨⟨k47,[]⟩,[⟨[(0, .slc 50)],k48⟩,⟨[(0, .own 50)],k48⟩],true⟩
abbrev zas.D:Type:=(k225×(Unit))
abbrev zas.R:Type:=(((Nat×Unit)×k246)⊕(k221×k246))
def zas (w:W)(d:zas.D):Option zas.R:=(bif (w.odec (d.1.2.1<0)) then none else(bif (w.odec ((w.wr .i64 (d.1.2.1-(w.wr .i64 (0-0))))>0)) then(bif w.odec ((0:Int)=0∧(0:Int)=0) then(bif w.odec (0≤(w.wr .i64 (d.1.2.1-(w.wr .i64 (0-0))))∧((([]:List De3).length:Int)+(w.wr .i64 (d.1.2.1-(w.wr .i64 (0-0)))))*(72:Nat)≤room) then(bif w.odec (0≤(0:Int)∧(0:Int)≤(0:Int)∧(0:Int)≤((([]:List De3)++List.replicate (w.wr .i64 (d.1.2.1-(w.wr .i64 (0-0)))).toNat ((0:Int),(0:Int),(0:Int),(0:Int),(0:Int),(0:Int),(0:Int),(0:Int),(0:Int),())).length:Int)) then some ((.inl ((((0:Int)-(0:Int)).toNat,()),(([]:List De3)++List.replicate (w.wr .i64 (d.1.2.1-(w.wr .i64 (0-0)))).toNat ((0:Int),(0:Int),(0:Int),(0:Int),(0:Int),(0:Int),(0:Int),(0:Int),(0:Int),())),()))) else none) else none) else none) else some ((.inr (((),()),([]:List De3),())))))
theorem zas.bod:bodyB f98=true:=by kernel_rfl
abbrev zas.env {α:Type}:Env α:=mE [] []
theorem zas.ok (d:zas.D):fB prog zas.S zas.env f98 d=(zas W0) d:=by kernel_rfl
theorem zas.sok:FSpec.ok zas.S=true:=by kernel_rfl
theorem zas.con (base:Nat):fO prog base 98 zas.S (zas W0):=fC (fn:=f98) rfl (by decide) (by kernel_rfl) mixed cN lN zas.ok
abbrev zal.S:LSpec:=⟨⟨[(0, .hole (.deep (.deep ty3))),k142,(9, .hole (.deep (.deep ty3))),k159,k160],[]⟩,[⟨[(0, .hole (.deep (.deep ty3))),k142],[]⟩],[(.exit 0)],f64.ntmps⟩
abbrev zal.D:Type:=(((List (List De3))×Int×(List (List De3))×Int×Int×Unit)×(Unit))
abbrev zal.R:Type:=(((List (List De3))×Int×Unit)×(Unit))
def zal (w:W)(d:zal.D):Option (zal.D⊕zal.R):=(bif (w.odec (d.1.2.2.2.2.1<d.1.2.2.2.1)) then(bif w.odec (0≤d.1.2.2.2.2.1) then((d.1.2.2.1[d.1.2.2.2.2.1.toNat]?).bind fun x1=>(bif (w.odec ((w.wr .i64 (d.1.2.1+(x1.length:Int)))<0)) then none else some (.inl ((d.1.1,(w.wr .i64 (d.1.2.1+(x1.length:Int))),d.1.2.2.1,d.1.2.2.2.1,(w.wr .i64 (d.1.2.2.2.2.1+1)),()),())))) else none) else some (.inr ((d.1.1,d.1.2.1,()),())))
abbrev k166:Nat×Pat:=(26, .hole (.int .i64))
abbrev k167:Nat×Pat:=(27, .hole (.int .i64))
abbrev k49:List (Nat×OPat):=[(0, .row ty3)]
abbrev zai.S:LSpec:=⟨⟨[(6, .slc 0),(25, .hole (.deep (.deep ty3))),k166,k167],k49⟩,[⟨[(6, .slc 50)],k48⟩],[(.exit 2)],f64.ntmps⟩
abbrev zai.D:Type:=((Nat×(List (List De3))×Int×Int×Unit)×k246)
abbrev zai.R:Type:=((Nat×Unit)×k246)
def zai (w:W)(d:zai.D):Option (zai.D⊕zai.R):=(bif (w.odec (d.1.2.2.2.1<d.1.2.2.1)) then(bif w.odec (0≤d.1.2.2.2.1) then((d.1.2.1[d.1.2.2.2.1.toNat]?).bind fun x6=>(bif w.odec (0+d.1.1+x6.length≤d.2.1.length) then some (.inl (((d.1.1+x6.length),d.1.2.1,d.1.2.2.1,(w.wr .i64 (d.1.2.2.2.1+1)),()),(d.2.1.take (0+d.1.1)++x6++d.2.1.drop ((0+d.1.1)+x6.length)),())) else none)) else none) else some (.inr ((d.1.1,()),d.2)))
abbrev zah.S:LSpec:=⟨⟨[(6, .own 0),(25, .hole (.deep (.deep ty3))),k166,k167],k49⟩,[⟨[(6, .own 50)],k48⟩],[(.exit 2)],f64.ntmps⟩
abbrev zah.D:Type:=((Unit×(List (List De3))×Int×Int×Unit)×k246)
abbrev zah.R:Type:=(k221×k246)
def zah (w:W)(d:zah.D):Option (zah.D⊕zah.R):=(bif (w.odec (d.1.2.2.2.1<d.1.2.2.1)) then(bif w.odec (0≤d.1.2.2.2.1) then((d.1.2.1[d.1.2.2.2.1.toNat]?).bind fun x8=>(bif w.odec (((d.2.1.length+x8.length:Nat):Int)*(72:Nat)≤room) then some (.inl (((),d.1.2.1,d.1.2.2.1,(w.wr .i64 (d.1.2.2.2.1+1)),()),(d.2.1++x8),())) else none)) else none) else some (.inr (((),()),d.2)))
abbrev zaq.S:FSpec:=⟨⟨[(0, .hole (.deep (.deep ty3)))],[]⟩,[⟨[(0, .slc 50)],k48⟩,⟨[(0, .own 50)],k48⟩],true⟩
abbrev zaq.D:Type:=(((List (List De3))×Unit)×(Unit))
abbrev zaq.R:Type:=(((Nat×Unit)×k246)⊕(k221×k246))
def zaq (w:W)(d:zaq.D):Option zaq.R:=((w.loopFix (L:=zal.D) (zal w) ((d.1.1,0,d.1.1,(d.1.1.length:Int),0,()),())).bind fun r2=>(((zas w) (((),r2.1.2),())).bind fun r3=>(match r3 with| .inl r4=>((w.loopFix (L:=zai.D) (zai w) ((r4.1.1,r2.1.1,(r2.1.1.length:Int),0,()),r4.2)).bind fun r7=>some ((.inl r7)))| .inr r5=>((w.loopFix (L:=zah.D) (zah w) (((),r2.1.1,(r2.1.1.length:Int),0,()),r5.2)).bind fun r9=>some ((.inr r9))))))
theorem zaq.bod:bodyB f64=true:=by kernel_rfl
abbrev zal.env {α:Type}:Env α:=mE [] []
theorem zal.ok (d:zal.D):lB prog zal.S zal.env f64 3 d=(zal W0) d:=by kernel_rfl
theorem zal.sok:LSpec.ok zal.S=true:=by kernel_rfl
theorem zal.con (base:Nat):rO prog base f64 3 zal.S (zal W0):=lK zal.sok zaq.bod mixed cN lN zal.ok
abbrev zai.env {α:Type}:Env α:=mE [] []
theorem zai.ok (d:zai.D):lB prog zai.S zai.env f64 11 d=(zai W0) d:=by kernel_rfl
theorem zai.sok:LSpec.ok zai.S=true:=by kernel_rfl
theorem zai.con (base:Nat):rO prog base f64 11 zai.S (zai W0):=lK zai.sok zaq.bod mixed cN lN zai.ok
abbrev zah.env {α:Type}:Env α:=mE [] []
theorem zah.ok (d:zah.D):lB prog zah.S zah.env f64 11 d=(zah W0) d:=by kernel_rfl
theorem zah.sok:LSpec.ok zah.S=true:=by kernel_rfl
theorem zah.con (base:Nat):rO prog base f64 11 zah.S (zah W0):=lK zah.sok zaq.bod mixed cN lN zah.ok
abbrev zaq.env {α:Type}:Env α:=mE [(98,[⟨zas.S,(zas W0),none⟩])] [(3,[⟨zal.S,(zal W0)⟩]),(11,[⟨zai.S,(zai W0)⟩,⟨zah.S,(zah W0)⟩])]
theorem zaq.ok (d:zaq.D):fB prog zaq.S zaq.env f64 d=(zaq W0) d:=by kernel_rfl
theorem zaq.sok:FSpec.ok zaq.S=true:=by kernel_rfl
theorem zaq.con (base:Nat):fO prog base 64 zaq.S (zaq W0):=fC (fn:=f64) rfl (by decide) (by kernel_rfl) mixed (cC (cc0 zas.sok (zas.con base) cn) cN) (lC (lc zal.sok (zal.con base) ln) (lC (lc zai.sok (zai.con base) (lc zah.sok (zah.con base) ln)) lN)) zaq.ok
abbrev k176:Nat×OPat:=(1, .var (.agg [.agg [.own 2, .own 3], .hole (.int .i64), .hole (.int .i64)]))
abbrev k50:List (Nat×OPat):=[(0, .var (.agg [.ptr 1, .own 4])),k176,k177,(3, .row (.ref 197)),(4, .row ty3),k145]
abbrev k207:Nat×OPat:=(1, .var (.agg [.agg [.own 51, .own 52], .hole (.int .i64), .hole (.int .i64)]))
abbrev k51:List (Nat×OPat):=[(0, .var (.agg [.ptr 1, .own 50])),k207,(50, .row ty3),k143,k144,k145]
abbrev zdv.S:FSpec:=⟨⟨[(0, .ptr 0)],k50⟩,[⟨k44,k51⟩],false⟩
abbrev zdv.D:Type:=(k221×k218)
abbrev k220:Type:=(k228×k213×(List De3)×(List Nat)×(List Nat)×(List E197)×Unit)
abbrev zdv.R:Type:=(k246×k220)
def zdv (w:W)(d:zdv.D):Option zdv.R:=(((zdu w) (((),1,()),d.2.2.1,d.2.2.2.1,d.2.2.2.2.1,d.2.2.2.2.2.2)).bind fun r1=>(match r1 with| .inl r2=>(((zdu w) (((),2,()),r2.2.1,r2.2.2.1,r2.2.2.2.1,r2.2.2.2.2.2)).bind fun r4=>(match r4 with| .inl r5=>(((zaq w) ((([r2.2.2.2.2.1,r5.2.2.2.2.1,d.2.2.2.2.2.1]:List (List De3)),()),())).bind fun r7=>(match r7 with| .inl r8=>some ((((r8.2.1.take r8.1.1),()),((),(),()),r5.2.1,d.2.2.2.2.2.1,r5.2.2.1,r5.2.2.2.1,r5.2.2.2.2.2))| .inr r9=>some ((r9.2,((),(),()),r5.2.1,d.2.2.2.2.2.1,r5.2.2.1,r5.2.2.2.1,r5.2.2.2.2.2))))| .inr r6=>(((zaq w) ((([r2.2.2.2.2.1,r6.1.1,d.2.2.2.2.2.1]:List (List De3)),()),())).bind fun r10=>(match r10 with| .inl r11=>some ((((r11.2.1.take r11.1.1),()),((),(),()),r6.2.1,d.2.2.2.2.2.1,r6.2.2))| .inr r12=>some ((r12.2,((),(),()),r6.2.1,d.2.2.2.2.2.1,r6.2.2))))))| .inr r3=>(((zdu w) (((),2,()),r3.2)).bind fun r13=>(match r13 with| .inl r14=>(((zaq w) ((([r3.1.1,r14.2.2.2.2.1,d.2.2.2.2.2.1]:List (List De3)),()),())).bind fun r16=>(match r16 with| .inl r17=>some ((((r17.2.1.take r17.1.1),()),((),(),()),r14.2.1,d.2.2.2.2.2.1,r14.2.2.1,r14.2.2.2.1,r14.2.2.2.2.2))| .inr r18=>some ((r18.2,((),(),()),r14.2.1,d.2.2.2.2.2.1,r14.2.2.1,r14.2.2.2.1,r14.2.2.2.2.2))))| .inr r15=>(((zaq w) ((([r3.1.1,r15.1.1,d.2.2.2.2.2.1]:List (List De3)),()),())).bind fun r19=>(match r19 with| .inl r20=>some ((((r20.2.1.take r20.1.1),()),((),(),()),r15.2.1,d.2.2.2.2.2.1,r15.2.2))| .inr r21=>some ((r21.2,((),(),()),r15.2.1,d.2.2.2.2.2.1,r15.2.2))))))))
theorem zdv.bod:bodyB f30=true:=by kernel_rfl
abbrev zdv.env {α:Type}:Env α:=mE [(35,[⟨zdu.S,(zdu W0),none⟩]),(64,[⟨zaq.S,(zaq W0),none⟩])] []
theorem zdv.ok (d:zdv.D):fB prog zdv.S zdv.env f30 d=(zdv W0) d:=by kernel_rfl
theorem zdv.sok:FSpec.ok zdv.S=true:=by kernel_rfl
theorem zdv.con (base:Nat):fO prog base 30 zdv.S (zdv W0):=fC (fn:=f30) rfl (by decide) (by kernel_rfl) mixed (cC (cc0 zdu.sok (zdu.con base) cn) (cC (cc0 zaq.sok (zaq.con base) cn) cN)) lN zdv.ok
abbrev k168:Nat×Pat:=(9, .hole (.int .i64))
abbrev k169:Nat×Pat:=(14, .hole (.int .i64))
abbrev k170:Nat×Pat:=(24, .hole (.int .i64))
abbrev k52:List (Nat×OPat):=[k206,(1, .row (.ref 197)),k177,(3, .var (.hole ty3)),k145]
abbrev k53:List (Nat×Pat):=[(6, .pth 0 [.fld 0, .fld 0]),k141,(8, .ptr 3)]
abbrev k54:List (Nat×OPat):=[k164,(3, .var (.hole ty3)),k165,k143,k145]
abbrev k55:List (Nat×Pat):=[(6, .pth 0 [.fld 0, .fld 1]),k141,(8, .ptr 3)]
abbrev zc4.S:LSpec:=⟨⟨[(0, .ptr 0),k138,k139,(8, .ptr 3),k168,k159,k169,(22, .own 1),k146,k170,(30, .hole (.deep ty3)),(31, .hole (.int .i64)),(32, .hole (.int .i64))],k52⟩,[⟨k53,k54⟩,⟨k55,k54⟩,⟨[(0, .ptr 0),k138,k139,(8, .ptr 3),k168,k169,(22, .own 50),k146,k170],k54⟩],[.ret, .ret,(.exit 4)],f239.ntmps⟩
abbrev k276:Type:=(Unit×Int×Int×Unit×Int×Int×Int×Unit×Int×Int×(List De3)×Int×Int×Unit)
abbrev k238:Type:=(k213×(List Nat)×(List Nat)×De3×(List E197)×Unit)
abbrev k273:Type:=(k276×k238)
abbrev zc4.D:Type:=k273
abbrev k219:Type:=(k213×De3×(List Nat)×(List Nat)×(List E197)×Unit)
abbrev k243:Type:=((Unit×Int×Unit×Unit)×k219)
abbrev k257:Type:=(Unit×Int×Int×Unit×Int×Int×Unit×Int×Int×Unit)
abbrev zc4.R:Type:=(k243⊕(k243⊕(k257×k219)))
def zc4 (w:W)(d:zc4.D):Option (zc4.D⊕zc4.R):=(bif (w.odec (d.1.2.2.2.2.2.2.2.2.2.2.2.2.1<d.1.2.2.2.2.2.2.2.2.2.2.2.1)) then(bif w.odec (0≤d.1.2.2.2.2.2.2.2.2.2.2.2.2.1) then((d.1.2.2.2.2.2.2.2.2.2.2.1[d.1.2.2.2.2.2.2.2.2.2.2.2.2.1.toNat]?).bind fun x5=>(bif (w.odec (x5.1=d.1.2.1)) then(bif (w.odec (x5.2.1=d.1.2.2.1)) then(bif w.odec (d.1.2.2.2.2.1=((0:Nat):Int)) then some (.inr (.inl (((),d.1.2.2.2.2.2.1,(),()),d.2.1,x5,d.2.2.1,d.2.2.2.1,d.2.2.2.2.2))) else(bif w.odec (d.1.2.2.2.2.1=((1:Nat):Int)) then some (.inr (.inr (.inl (((),d.1.2.2.2.2.2.1,(),()),d.2.1,x5,d.2.2.1,d.2.2.2.1,d.2.2.2.2.2)))) else none)) else some (.inl (((),d.1.2.1,d.1.2.2.1,(),d.1.2.2.2.2.1,d.1.2.2.2.2.2.1,d.1.2.2.2.2.2.2.1,(),d.1.2.2.2.2.2.2.2.2.1,d.1.2.2.2.2.2.2.2.2.2.1,d.1.2.2.2.2.2.2.2.2.2.2.1,d.1.2.2.2.2.2.2.2.2.2.2.2.1,(w.wr .i64 (d.1.2.2.2.2.2.2.2.2.2.2.2.2.1+1)),()),d.2))) else some (.inl (((),d.1.2.1,d.1.2.2.1,(),d.1.2.2.2.2.1,d.1.2.2.2.2.2.1,d.1.2.2.2.2.2.2.1,(),d.1.2.2.2.2.2.2.2.2.1,d.1.2.2.2.2.2.2.2.2.2.1,d.1.2.2.2.2.2.2.2.2.2.2.1,d.1.2.2.2.2.2.2.2.2.2.2.2.1,(w.wr .i64 (d.1.2.2.2.2.2.2.2.2.2.2.2.2.1+1)),()),d.2)))) else none) else some (.inr (.inr (.inr (((),d.1.2.1,d.1.2.2.1,(),d.1.2.2.2.2.1,d.1.2.2.2.2.2.2.1,(),d.1.2.2.2.2.2.2.2.2.1,d.1.2.2.2.2.2.2.2.2.2.1,()),d.2.1,d.2.2.2.2.1,d.2.2.1,d.2.2.2.1,d.2.2.2.2.2)))))
abbrev k56:List (Nat×Pat):=[(0, .ptr 0),k138,k139,(8, .ptr 3),k169]
abbrev zc5.S:LSpec:=⟨⟨[(0, .ptr 0),k138,k139,(8, .ptr 3),k168,k169,(22, .own 1),k146,k170],k52⟩,[⟨k53,k54⟩,⟨k55,k54⟩,⟨k56,k54⟩],[.ret, .ret,(.exit 2)],f239.ntmps⟩
abbrev zc5.D:Type:=(k257×k238)
abbrev zc5.R:Type:=(k243⊕(k243⊕((Unit×Int×Int×Unit×Int×Unit)×k219)))
def zc5 (w:W)(d:zc5.D):Option (zc5.D⊕zc5.R):=(bif (w.odec (d.1.2.2.2.2.2.2.2.2.1<d.1.2.2.2.2.2.2.2.1)) then(bif w.odec (0≤d.1.2.2.2.2.2.2.2.2.1∧d.1.2.2.2.2.2.2.2.2.1<(d.2.2.1.length:Int)) then((d.2.2.1[d.1.2.2.2.2.2.2.2.2.1.toNat]?).bind fun x1=>(onS x1 fun n2=>((d.2.2.2.2.2.1[n2]?).bind fun e3=>(((zch w) (((),()),e3)).bind fun r4=>((w.loopFix (L:=zc4.D) (zc4 w) (((),d.1.2.1,d.1.2.2.1,(),d.1.2.2.2.2.1,d.1.2.2.2.2.2.2.2.2.1,d.1.2.2.2.2.2.1,(),d.1.2.2.2.2.2.2.2.1,d.1.2.2.2.2.2.2.2.2.1,r4.1.1,(r4.1.1.length:Int),0,()),d.2.1,d.2.2.1,d.2.2.2.1,d.2.2.2.2.1,(d.2.2.2.2.2.1.set n2 r4.2),())).bind fun r6=>(match r6 with| .inl r7=>some (.inr (.inl r7))| .inr r8=>(match r8 with| .inl r9=>some (.inr (.inr (.inl r9)))| .inr r10=>some (.inl (((),r10.1.2.1,r10.1.2.2.1,(),r10.1.2.2.2.2.1,r10.1.2.2.2.2.2.1,(),r10.1.2.2.2.2.2.2.2.1,(w.wr .i64 (r10.1.2.2.2.2.2.2.2.2.1+1)),()),r10.2.1,r10.2.2.2.1,r10.2.2.2.2.1,r10.2.2.1,r10.2.2.2.2.2))))))))) else none) else some (.inr (.inr (.inr (((),d.1.2.1,d.1.2.2.1,(),d.1.2.2.2.2.2.1,()),d.2.1,d.2.2.2.2.1,d.2.2.1,d.2.2.2.1,d.2.2.2.2.2)))))
abbrev zci.S:LSpec:=⟨⟨[(0, .ptr 0),k138,k139,(8, .ptr 3),k168,k159,k169,(22, .own 2),k146,k170,(30, .hole (.deep ty3)),(31, .hole (.int .i64)),(32, .hole (.int .i64))],k52⟩,[⟨k53,k54⟩,⟨k55,k54⟩,⟨[(0, .ptr 0),k138,k139,(8, .ptr 3),k168,k169,(22, .own 51),k146,k170],k54⟩],[.ret, .ret,(.exit 4)],f239.ntmps⟩
abbrev zci.D:Type:=k273
abbrev zci.R:Type:=(k243⊕(k243⊕(k257×k219)))
def zci (w:W)(d:zci.D):Option (zci.D⊕zci.R):=(bif (w.odec (d.1.2.2.2.2.2.2.2.2.2.2.2.2.1<d.1.2.2.2.2.2.2.2.2.2.2.2.1)) then(bif w.odec (0≤d.1.2.2.2.2.2.2.2.2.2.2.2.2.1) then((d.1.2.2.2.2.2.2.2.2.2.2.1[d.1.2.2.2.2.2.2.2.2.2.2.2.2.1.toNat]?).bind fun x20=>(bif (w.odec (x20.1=d.1.2.1)) then(bif (w.odec (x20.2.1=d.1.2.2.1)) then(bif w.odec (d.1.2.2.2.2.1=((0:Nat):Int)) then some (.inr (.inl (((),d.1.2.2.2.2.2.1,(),()),d.2.1,x20,d.2.2.1,d.2.2.2.1,d.2.2.2.2.2))) else(bif w.odec (d.1.2.2.2.2.1=((1:Nat):Int)) then some (.inr (.inr (.inl (((),d.1.2.2.2.2.2.1,(),()),d.2.1,x20,d.2.2.1,d.2.2.2.1,d.2.2.2.2.2)))) else none)) else some (.inl (((),d.1.2.1,d.1.2.2.1,(),d.1.2.2.2.2.1,d.1.2.2.2.2.2.1,d.1.2.2.2.2.2.2.1,(),d.1.2.2.2.2.2.2.2.2.1,d.1.2.2.2.2.2.2.2.2.2.1,d.1.2.2.2.2.2.2.2.2.2.2.1,d.1.2.2.2.2.2.2.2.2.2.2.2.1,(w.wr .i64 (d.1.2.2.2.2.2.2.2.2.2.2.2.2.1+1)),()),d.2))) else some (.inl (((),d.1.2.1,d.1.2.2.1,(),d.1.2.2.2.2.1,d.1.2.2.2.2.2.1,d.1.2.2.2.2.2.2.1,(),d.1.2.2.2.2.2.2.2.2.1,d.1.2.2.2.2.2.2.2.2.2.1,d.1.2.2.2.2.2.2.2.2.2.2.1,d.1.2.2.2.2.2.2.2.2.2.2.2.1,(w.wr .i64 (d.1.2.2.2.2.2.2.2.2.2.2.2.2.1+1)),()),d.2)))) else none) else some (.inr (.inr (.inr (((),d.1.2.1,d.1.2.2.1,(),d.1.2.2.2.2.1,d.1.2.2.2.2.2.2.1,(),d.1.2.2.2.2.2.2.2.2.1,d.1.2.2.2.2.2.2.2.2.2.1,()),d.2.1,d.2.2.2.2.1,d.2.2.1,d.2.2.2.1,d.2.2.2.2.2)))))
abbrev zcj.S:LSpec:=⟨⟨[(0, .ptr 0),k138,k139,(8, .ptr 3),k168,k169,(22, .own 2),k146,k170],k52⟩,[⟨k53,k54⟩,⟨k55,k54⟩,⟨k56,k54⟩],[.ret, .ret,(.exit 2)],f239.ntmps⟩
abbrev zcj.D:Type:=(k257×k238)
abbrev zcj.R:Type:=(k243⊕(k243⊕((Unit×Int×Int×Unit×Int×Unit)×k219)))
def zcj (w:W)(d:zcj.D):Option (zcj.D⊕zcj.R):=(bif (w.odec (d.1.2.2.2.2.2.2.2.2.1<d.1.2.2.2.2.2.2.2.1)) then(bif w.odec (0≤d.1.2.2.2.2.2.2.2.2.1∧d.1.2.2.2.2.2.2.2.2.1<(d.2.2.2.1.length:Int)) then((d.2.2.2.1[d.1.2.2.2.2.2.2.2.2.1.toNat]?).bind fun x16=>(onS x16 fun n17=>((d.2.2.2.2.2.1[n17]?).bind fun e18=>(((zch w) (((),()),e18)).bind fun r19=>((w.loopFix (L:=zci.D) (zci w) (((),d.1.2.1,d.1.2.2.1,(),d.1.2.2.2.2.1,d.1.2.2.2.2.2.2.2.2.1,d.1.2.2.2.2.2.1,(),d.1.2.2.2.2.2.2.2.1,d.1.2.2.2.2.2.2.2.2.1,r19.1.1,(r19.1.1.length:Int),0,()),d.2.1,d.2.2.1,d.2.2.2.1,d.2.2.2.2.1,(d.2.2.2.2.2.1.set n17 r19.2),())).bind fun r21=>(match r21 with| .inl r22=>some (.inr (.inl r22))| .inr r23=>(match r23 with| .inl r24=>some (.inr (.inr (.inl r24)))| .inr r25=>some (.inl (((),r25.1.2.1,r25.1.2.2.1,(),r25.1.2.2.2.2.1,r25.1.2.2.2.2.2.1,(),r25.1.2.2.2.2.2.2.2.1,(w.wr .i64 (r25.1.2.2.2.2.2.2.2.2.1+1)),()),r25.2.1,r25.2.2.2.1,r25.2.2.2.2.1,r25.2.2.1,r25.2.2.2.2.2))))))))) else none) else some (.inr (.inr (.inr (((),d.1.2.1,d.1.2.2.1,(),d.1.2.2.2.2.2.1,()),d.2.1,d.2.2.2.2.1,d.2.2.1,d.2.2.2.1,d.2.2.2.2.2)))))
abbrev zc6.S:LSpec:=⟨⟨k56,k52⟩,[⟨k53,k54⟩,⟨k55,k54⟩,⟨[(8, .ptr 3)],k54⟩],[.ret, .ret,(.exit 0)],f239.ntmps⟩
abbrev zc6.D:Type:=((Unit×Int×Int×Unit×Int×Unit)×k238)
abbrev zc6.R:Type:=(k243⊕(k243⊕(k221×k219)))
def zc6 (w:W)(d:zc6.D):Option (zc6.D⊕zc6.R):=(bif (w.odec (d.1.2.2.2.2.1<2)) then(bif w.odec (d.1.2.2.2.2.1=((0:Nat):Int)) then((w.loopFix (L:=zc5.D) (zc5 w) (((),d.1.2.1,d.1.2.2.1,(),d.1.2.2.2.2.1,d.1.2.2.2.2.1,(),(d.2.2.1.length:Int),0,()),d.2)).bind fun r11=>(match r11 with| .inl r12=>some (.inr (.inl r12))| .inr r13=>(match r13 with| .inl r14=>some (.inr (.inr (.inl r14)))| .inr r15=>some (.inl (((),r15.1.2.1,r15.1.2.2.1,(),(w.wr .i64 (r15.1.2.2.2.2.1+1)),()),r15.2.1,r15.2.2.2.1,r15.2.2.2.2.1,r15.2.2.1,r15.2.2.2.2.2))))) else(bif w.odec (d.1.2.2.2.2.1=((1:Nat):Int)) then((w.loopFix (L:=zcj.D) (zcj w) (((),d.1.2.1,d.1.2.2.1,(),d.1.2.2.2.2.1,d.1.2.2.2.2.1,(),(d.2.2.2.1.length:Int),0,()),d.2)).bind fun r26=>(match r26 with| .inl r27=>some (.inr (.inl r27))| .inr r28=>(match r28 with| .inl r29=>some (.inr (.inr (.inl r29)))| .inr r30=>some (.inl (((),r30.1.2.1,r30.1.2.2.1,(),(w.wr .i64 (r30.1.2.2.2.2.1+1)),()),r30.2.1,r30.2.2.2.1,r30.2.2.2.2.1,r30.2.2.1,r30.2.2.2.2.2))))) else none)) else some (.inr (.inr (.inr (((),()),d.2.1,d.2.2.2.2.1,d.2.2.1,d.2.2.2.1,d.2.2.2.2.2)))))
abbrev k57:List (Nat×Pat):=[(0, .ptr 0),k138,k139]
abbrev zfc.S:FSpec:=⟨⟨k57,k38⟩,[⟨[(0, .pth 0 [.fld 0, .fld 0]),k138,(2, .hole ty3)],k39⟩,⟨[(0, .pth 0 [.fld 0, .fld 1]),k138,(2, .hole ty3)],k39⟩,⟨[(0, .const (.pointer none)),k138,(2, .hole ty3)],k39⟩],true⟩
abbrev zfc.D:Type:=(k226×k214)
abbrev zfc.R:Type:=(((Unit×Int×De3×Unit)×k214)⊕(((Unit×Int×De3×Unit)×k214)⊕((Unit×Int×De3×Unit)×k214)))
def zfc (w:W)(d:zfc.D):Option zfc.R:=((w.loopFix (L:=zc6.D) (zc6 w) (((),d.1.2.1,d.1.2.2.1,(),0,()),d.2.1,d.2.2.1,d.2.2.2.1,(0,0,0,0,0,0,0,0,0,()),d.2.2.2.2)).bind fun r31=>(match r31 with| .inl r32=>some ((.inl (((),r32.1.2.1,r32.2.2.1,()),r32.2.1,r32.2.2.2)))| .inr r33=>(match r33 with| .inl r34=>some ((.inr (.inl (((),r34.1.2.1,r34.2.2.1,()),r34.2.1,r34.2.2.2))))| .inr r35=>some ((.inr (.inr (((),0,(0,0,0,0,0,0,0,0,0,()),()),r35.2.1,r35.2.2.2)))))))
theorem zfc.bod:bodyB f239=true:=by kernel_rfl
abbrev zc4.env {α:Type}:Env α:=mE [] []
theorem zc4.ok (d:zc4.D):lB prog zc4.S zc4.env f239 8 d=(zc4 W0) d:=by kernel_rfl
theorem zc4.sok:LSpec.ok zc4.S=true:=by kernel_rfl
theorem zc4.con (base:Nat):rO prog base f239 8 zc4.S (zc4 W0):=lK zc4.sok zfc.bod mixed cN lN zc4.ok
abbrev zc5.env {α:Type}:Env α:=mE [(67,[⟨zch.S,(zch W0),none⟩])] [(8,[⟨zc4.S,(zc4 W0)⟩])]
theorem zc5.ok (d:zc5.D):lB prog zc5.S zc5.env f239 5 d=(zc5 W0) d:=by kernel_rfl
theorem zc5.sok:LSpec.ok zc5.S=true:=by kernel_rfl
theorem zc5.con (base:Nat):rO prog base f239 5 zc5.S (zc5 W0):=lK zc5.sok zfc.bod mixed (cC (cc0 zch.sok (zch.con base) cn) cN) (lC (lc zc4.sok (zc4.con base) ln) lN) zc5.ok
abbrev zci.env {α:Type}:Env α:=mE [] []
theorem zci.ok (d:zci.D):lB prog zci.S zci.env f239 8 d=(zci W0) d:=by kernel_rfl
theorem zci.sok:LSpec.ok zci.S=true:=by kernel_rfl
theorem zci.con (base:Nat):rO prog base f239 8 zci.S (zci W0):=lK zci.sok zfc.bod mixed cN lN zci.ok
abbrev zcj.env {α:Type}:Env α:=mE [(67,[⟨zch.S,(zch W0),none⟩])] [(8,[⟨zci.S,(zci W0)⟩])]
theorem zcj.ok (d:zcj.D):lB prog zcj.S zcj.env f239 5 d=(zcj W0) d:=by kernel_rfl
theorem zcj.sok:LSpec.ok zcj.S=true:=by kernel_rfl
theorem zcj.con (base:Nat):rO prog base f239 5 zcj.S (zcj W0):=lK zcj.sok zfc.bod mixed (cC (cc0 zch.sok (zch.con base) cn) cN) (lC (lc zci.sok (zci.con base) ln) lN) zcj.ok
abbrev zc6.env {α:Type}:Env α:=mE [] [(5,[⟨zc5.S,(zc5 W0)⟩,⟨zcj.S,(zcj W0)⟩])]
theorem zc6.ok (d:zc6.D):lB prog zc6.S zc6.env f239 2 d=(zc6 W0) d:=by kernel_rfl
theorem zc6.sok:LSpec.ok zc6.S=true:=by kernel_rfl
theorem zc6.con (base:Nat):rO prog base f239 2 zc6.S (zc6 W0):=lK zc6.sok zfc.bod mixed cN (lC (lc zc5.sok (zc5.con base) (lc zcj.sok (zcj.con base) ln)) lN) zc6.ok
abbrev zfc.env {α:Type}:Env α:=mE [] [(2,[⟨zc6.S,(zc6 W0)⟩])]
theorem zfc.ok (d:zfc.D):fB prog zfc.S zfc.env f239 d=(zfc W0) d:=by kernel_rfl
theorem zfc.sok:FSpec.ok zfc.S=true:=by kernel_rfl
theorem zfc.con (base:Nat):fO prog base 239 zfc.S (zfc W0):=fC (fn:=f239) rfl (by decide) (by kernel_rfl) mixed cN (lC (lc zc6.sok (zc6.con base) ln) lN) zfc.ok
abbrev k58:List (Nat×OPat):=[(0, .var (.hole (.int .i64))),(1, .var (.hole (.int .i64)))]
abbrev zck.S:FSpec:=⟨⟨[(0, .hole (.cons ty3 (.cons (.int .i64) .nil))),(1, .ptr 0),(2, .ptr 1)],k58⟩,[⟨k12,k58⟩],true⟩
abbrev zck.D:Type:=(((De3×Int×Unit)×Unit×Unit×Unit)×k242)
abbrev zck.R:Type:=(k229×k242)
def zck (w:W)(d:zck.D):Option zck.R:=(bif (w.odec (d.1.1.1.1=d.2.1)) then some ((((w.odec (d.1.1.1.2.1=d.2.2.1)),()),d.2)) else some (((false,()),d.2)))
theorem zck.bod:bodyB f257=true:=by kernel_rfl
abbrev zck.env {α:Type}:Env α:=mE [] []
theorem zck.ok (d:zck.D):fB prog zck.S zck.env f257 d=(zck W0) d:=by kernel_rfl
theorem zck.sok:FSpec.ok zck.S=true:=by kernel_rfl
theorem zck.con (base:Nat):fO prog base 257 zck.S (zck W0):=fC (fn:=f257) rfl (by decide) (by kernel_rfl) mixed cN lN zck.ok
abbrev k171:Nat×Pat:=(0, .hole (.deep (.cons ty3 (.cons (.int .i64) .nil))))
abbrev k172:Nat×Pat:=(8, .hole (.int .i64))
abbrev k178:Nat×Pat:=(4, .hole (.int .i64))
abbrev k59:List (Nat×Pat):=[k178]
abbrev zaa.S:LSpec:=⟨⟨[k171,(1, .clo (.func 257) [.ptr 0, .ptr 1]),k141,k172],k58⟩,[⟨k59,k58⟩,⟨[],k58⟩],[.ret,(.exit 0)],f256.ntmps⟩
abbrev zaa.D:Type:=((k239×k228×Int×Int×Unit)×k242)
abbrev zaa.R:Type:=((k231×k242)⊕((Unit)×k242))
def zaa (w:W)(d:zaa.D):Option (zaa.D⊕zaa.R):=(bif (w.odec (d.1.2.2.2.1<d.1.2.2.1)) then(bif w.odec (0≤d.1.2.2.2.1) then((d.1.1[d.1.2.2.2.1.toNat]?).bind fun x1=>(((zck w) ((x1,(),(),()),d.2)).bind fun r2=>(bif r2.1.1 then some (.inr (.inl (d.1.2.2.2,r2.2))) else some (.inl ((d.1.1,((),(),()),d.1.2.2.1,(w.wr .i64 (d.1.2.2.2.1+1)),()),r2.2))))) else none) else some (.inr (.inr ((),d.2))))
abbrev zad.S:FSpec:=⟨⟨[k171,(1, .clo (.func 257) [.ptr 0, .ptr 1])],k58⟩,[⟨k2,k58⟩],true⟩
abbrev zad.D:Type:=((k239×k228×Unit)×k242)
abbrev zad.R:Type:=(k231×k242)
def zad (w:W)(d:zad.D):Option zad.R:=((w.loopFix (L:=zaa.D) (zaa w) ((d.1.1,((),(),()),(d.1.1.length:Int),0,()),d.2)).bind fun r3=>(match r3 with| .inl r4=>some (r4)| .inr r5=>some ((((-1),()),r5.2))))
theorem zad.bod:bodyB f256=true:=by kernel_rfl
abbrev zaa.env {α:Type}:Env α:=mE [(257,[⟨zck.S,(zck W0),none⟩])] []
theorem zaa.ok (d:zaa.D):lB prog zaa.S zaa.env f256 2 d=(zaa W0) d:=by kernel_rfl
theorem zaa.sok:LSpec.ok zaa.S=true:=by kernel_rfl
theorem zaa.con (base:Nat):rO prog base f256 2 zaa.S (zaa W0):=lK zaa.sok zad.bod mixed (cC (cc0 zck.sok (zck.con base) cn) cN) lN zaa.ok
abbrev zad.env {α:Type}:Env α:=mE [] [(2,[⟨zaa.S,(zaa W0)⟩])]
theorem zad.ok (d:zad.D):fB prog zad.S zad.env f256 d=(zad W0) d:=by kernel_rfl
theorem zad.sok:FSpec.ok zad.S=true:=by kernel_rfl
theorem zad.con (base:Nat):fO prog base 256 zad.S (zad W0):=fC (fn:=f256) rfl (by decide) (by kernel_rfl) mixed cN (lC (lc zaa.sok (zaa.con base) ln) lN) zad.ok
abbrev zdw.S:FSpec:=⟨⟨k57,k43⟩,[⟨k2,k42⟩],true⟩
abbrev zdw.D:Type:=(k226×k217)
abbrev zdw.R:Type:=(k231×k217)
def zdw (w:W)(d:zdw.D):Option zdw.R:=(((zad w) ((d.2.2.1,((),(),()),()),d.1.2)).bind fun r1=>some ((r1.1,d.2)))
theorem zdw.bod:bodyB f249=true:=by kernel_rfl
abbrev zdw.env {α:Type}:Env α:=mE [(256,[⟨zad.S,(zad W0),none⟩])] []
theorem zdw.ok (d:zdw.D):fB prog zdw.S zdw.env f249 d=(zdw W0) d:=by kernel_rfl
theorem zdw.sok:FSpec.ok zdw.S=true:=by kernel_rfl
theorem zdw.con (base:Nat):fO prog base 249 zdw.S (zdw W0):=fC (fn:=f249) rfl (by decide) (by kernel_rfl) mixed (cC (cc0 zad.sok (zad.con base) cn) cN) lN zdw.ok
abbrev k60:List (Nat×Pat):=[(0, .own 0),k138,k139]
abbrev zaj.S:FSpec:=⟨⟨k60,[(0, .row (.cons ty3 (.cons (.int .i64) .nil)))]⟩,[⟨[(0, .own 50)],[k173]⟩],true⟩
abbrev zaj.D:Type:=(k226×(k239×Unit))
abbrev zaj.R:Type:=(k221×(k239×Unit))
def zaj (w:W)(d:zaj.D):Option zaj.R:=(bif w.odec (0≤d.1.2.1∧d.1.2.1≤d.1.2.2.1∧d.1.2.2.1≤(d.2.1.length:Int)∧(d.2.1.length:Int)≤(d.2.1.length:Int)) then(bif (w.odec (d.1.2.1=d.1.2.2.1)) then some ((((),()),d.2)) else(bif w.odec (0≤(0:Int)∧(0:Int)≤d.1.2.1∧d.1.2.1≤(d.2.1.length:Int)) then(bif w.odec (0≤d.1.2.2.1∧d.1.2.2.1≤(d.2.1.length:Int)) then(bif w.odec (0+(d.1.2.1-(0:Int)).toNat+(d.2.1.drop d.1.2.2.1.toNat).length≤d.2.1.length) then(bif w.odec (0≤((((d.1.2.1-(0:Int)).toNat+(d.2.1.drop d.1.2.2.1.toNat).length):Nat):Int)∧((((d.1.2.1-(0:Int)).toNat+(d.2.1.drop d.1.2.2.1.toNat).length):Nat):Int)≤(d.2.1.length:Int)∧(d.2.1.length:Int)≤(((d.2.1.take (0+(d.1.2.1-(0:Int)).toNat)++(d.2.1.drop d.1.2.2.1.toNat)++d.2.1.drop ((0+(d.1.2.1-(0:Int)).toNat)+(d.2.1.drop d.1.2.2.1.toNat).length)).length-0):Nat)) then some ((((),()),((((d.2.1.take (0+(d.1.2.1-(0:Int)).toNat)++(d.2.1.drop d.1.2.2.1.toNat)++d.2.1.drop ((0+(d.1.2.1-(0:Int)).toNat)+(d.2.1.drop d.1.2.2.1.toNat).length)).take (((((d.1.2.1-(0:Int)).toNat+(d.2.1.drop d.1.2.2.1.toNat).length):Nat):Int).toNat)++List.replicate (((d.2.1.length:Int)-((((d.1.2.1-(0:Int)).toNat+(d.2.1.drop d.1.2.2.1.toNat).length):Nat):Int)).toNat) (((0:Int),(0:Int),(0:Int),(0:Int),(0:Int),(0:Int),(0:Int),(0:Int),(0:Int),()),(0:Int),())++(d.2.1.take (0+(d.1.2.1-(0:Int)).toNat)++(d.2.1.drop d.1.2.2.1.toNat)++d.2.1.drop ((0+(d.1.2.1-(0:Int)).toNat)+(d.2.1.drop d.1.2.2.1.toNat).length)).drop (((((d.1.2.1-(0:Int)).toNat+(d.2.1.drop d.1.2.2.1.toNat).length):Nat):Int).toNat+((d.2.1.length:Int)-((((d.1.2.1-(0:Int)).toNat+(d.2.1.drop d.1.2.2.1.toNat).length):Nat):Int)).toNat)).drop 0).take ((d.1.2.1-(0:Int)).toNat+(d.2.1.drop d.1.2.2.1.toNat).length)),())) else none) else none) else none) else none)) else none)
theorem zaj.bod:bodyB f250=true:=by kernel_rfl
abbrev zaj.env {α:Type}:Env α:=mE [] []
theorem zaj.ok (d:zaj.D):fB prog zaj.S zaj.env f250 d=(zaj W0) d:=by kernel_rfl
theorem zaj.sok:FSpec.ok zaj.S=true:=by kernel_rfl
theorem zaj.con (base:Nat):fO prog base 250 zaj.S (zaj W0):=fC (fn:=f250) rfl (by decide) (by kernel_rfl) mixed cN lN zaj.ok
abbrev k61:List (Nat×Pat):=[(0, .hole ty3),k154]
abbrev zcl.S:FSpec:=⟨⟨k57,k43⟩,[⟨k61,k42⟩],true⟩
abbrev zcl.D:Type:=(k226×k217)
abbrev zcl.R:Type:=((De3×Bool×Unit)×k217)
def zcl (w:W)(d:zcl.D):Option zcl.R:=(((zdw w) d).bind fun r1=>(bif (w.odec (r1.1.1<0)) then some ((((0,0,0,0,0,0,0,0,0,()),false,()),r1.2)) else(bif w.odec (0≤r1.1.1∧r1.1.1<(r1.2.2.1.length:Int)) then((r1.2.2.1[r1.1.1.toNat]?).bind fun x2=>(((zaj w) (((),r1.1.1,(w.wr .i64 (r1.1.1+1)),()),r1.2.2)).bind fun r3=>some (((x2.1,true,()),r1.2.1,r3.2)))) else none)))
theorem zcl.bod:bodyB f240=true:=by kernel_rfl
abbrev zcl.env {α:Type}:Env α:=mE [(249,[⟨zdw.S,(zdw W0),none⟩]),(250,[⟨zaj.S,(zaj W0),none⟩])] []
theorem zcl.ok (d:zcl.D):fB prog zcl.S zcl.env f240 d=(zcl W0) d:=by kernel_rfl
theorem zcl.sok:FSpec.ok zcl.S=true:=by kernel_rfl
theorem zcl.con (base:Nat):fO prog base 240 zcl.S (zcl W0):=fC (fn:=f240) rfl (by decide) (by kernel_rfl) mixed (cC (cc0 zdw.sok (zdw.con base) cn) (cC (cc0 zaj.sok (zaj.con base) cn) cN)) lN zcl.ok
abbrev zer.S:FSpec:=⟨⟨[(0, .ptr 0)],k43⟩,[⟨k2,k42⟩],true⟩
abbrev zer.D:Type:=(k221×k217)
abbrev zer.R:Type:=(k231×k217)
def zer (w:W)(d:zer.D):Option zer.R:=some ((((d.2.2.1.length:Int),()),d.2))
theorem zer.bod:bodyB f99=true:=by kernel_rfl
abbrev zer.env {α:Type}:Env α:=mE [] []
theorem zer.ok (d:zer.D):fB prog zer.S zer.env f99 d=(zer W0) d:=by kernel_rfl
theorem zer.sok:FSpec.ok zer.S=true:=by kernel_rfl
theorem zer.con (base:Nat):fO prog base 99 zer.S (zer W0):=fC (fn:=f99) rfl (by decide) (by kernel_rfl) mixed cN lN zer.ok
abbrev k62:List (Nat×OPat):=[k165,k145]
abbrev zak.S:FSpec:=⟨⟨k60,[(0, .row (.ref 197)),k145]⟩,[⟨[(0, .own 50)],k62⟩],true⟩
abbrev zak.D:Type:=(k226×((List Nat)×(List E197)×Unit))
abbrev zak.R:Type:=(k221×((List Nat)×(List E197)×Unit))
def zak (w:W)(d:zak.D):Option zak.R:=(bif w.odec (0≤d.1.2.1∧d.1.2.1≤d.1.2.2.1∧d.1.2.2.1≤(d.2.1.length:Int)∧(d.2.1.length:Int)≤(d.2.1.length:Int)) then(bif (w.odec (d.1.2.1=d.1.2.2.1)) then some ((((),()),d.2)) else(bif w.odec (0≤(0:Int)∧(0:Int)≤d.1.2.1∧d.1.2.1≤(d.2.1.length:Int)) then(bif w.odec (0≤d.1.2.2.1∧d.1.2.2.1≤(d.2.1.length:Int)) then(bif w.odec (0+(d.1.2.1-(0:Int)).toNat+(d.2.1.drop d.1.2.2.1.toNat).length≤d.2.1.length) then(bif w.odec (0≤((((d.1.2.1-(0:Int)).toNat+(d.2.1.drop d.1.2.2.1.toNat).length):Nat):Int)∧((((d.1.2.1-(0:Int)).toNat+(d.2.1.drop d.1.2.2.1.toNat).length):Nat):Int)≤(d.2.1.length:Int)∧(d.2.1.length:Int)≤(((d.2.1.take (0+(d.1.2.1-(0:Int)).toNat)++(d.2.1.drop d.1.2.2.1.toNat)++d.2.1.drop ((0+(d.1.2.1-(0:Int)).toNat)+(d.2.1.drop d.1.2.2.1.toNat).length)).length-0):Nat)) then some ((((),()),((((d.2.1.take (0+(d.1.2.1-(0:Int)).toNat)++(d.2.1.drop d.1.2.2.1.toNat)++d.2.1.drop ((0+(d.1.2.1-(0:Int)).toNat)+(d.2.1.drop d.1.2.2.1.toNat).length)).take (((((d.1.2.1-(0:Int)).toNat+(d.2.1.drop d.1.2.2.1.toNat).length):Nat):Int).toNat)++List.replicate (((d.2.1.length:Int)-((((d.1.2.1-(0:Int)).toNat+(d.2.1.drop d.1.2.2.1.toNat).length):Nat):Int)).toNat) (0:Nat)++(d.2.1.take (0+(d.1.2.1-(0:Int)).toNat)++(d.2.1.drop d.1.2.2.1.toNat)++d.2.1.drop ((0+(d.1.2.1-(0:Int)).toNat)+(d.2.1.drop d.1.2.2.1.toNat).length)).drop (((((d.1.2.1-(0:Int)).toNat+(d.2.1.drop d.1.2.2.1.toNat).length):Nat):Int).toNat+((d.2.1.length:Int)-((((d.1.2.1-(0:Int)).toNat+(d.2.1.drop d.1.2.2.1.toNat).length):Nat):Int)).toNat)).drop 0).take ((d.1.2.1-(0:Int)).toNat+(d.2.1.drop d.1.2.2.1.toNat).length)),d.2.2)) else none) else none) else none) else none)) else none)
theorem zak.bod:bodyB f251=true:=by kernel_rfl
abbrev zak.env {α:Type}:Env α:=mE [] []
theorem zak.ok (d:zak.D):fB prog zak.S zak.env f251 d=(zak W0) d:=by kernel_rfl
theorem zak.sok:FSpec.ok zak.S=true:=by kernel_rfl
theorem zak.con (base:Nat):fO prog base 251 zak.S (zak W0):=fC (fn:=f251) rfl (by decide) (by kernel_rfl) mixed cN lN zak.ok
abbrev zhy.S:FSpec:=⟨⟨[(0, .pth 0 [.fld 0, .fld 0]),k138],k38⟩,[⟨[],k39⟩],true⟩
abbrev zhy.D:Type:=(k225×k214)
abbrev zhy.R:Type:=((Unit)×k214)
def zhy (w:W)(d:zhy.D):Option zhy.R:=(bif w.odec (0≤d.1.2.1∧d.1.2.1<(d.2.2.1.length:Int)) then((d.2.2.1[d.1.2.1.toNat]?).bind fun x1=>(onS x1 fun n2=>((d.2.2.2.2.1[n2]?).bind fun e3=>(((zer w) (((),()),e3)).bind fun r4=>(bif (w.odec (r4.1.1=0)) then(((zak w) (((),d.1.2.1,(w.wr .i64 (d.1.2.1+1)),()),d.2.2.1,(d.2.2.2.2.1.set n2 r4.2),())).bind fun r5=>some (((),d.2.1,r5.2.1,d.2.2.2.1,r5.2.2))) else some (((),d.2.1,d.2.2.1,d.2.2.2.1,(d.2.2.2.2.1.set n2 r4.2),()))))))) else none)
theorem zhy.bod:bodyB f241=true:=by kernel_rfl
abbrev zhy.env {α:Type}:Env α:=mE [(99,[⟨zer.S,(zer W0),none⟩]),(251,[⟨zak.S,(zak W0),none⟩])] []
theorem zhy.ok (d:zhy.D):fB prog zhy.S zhy.env f241 d=(zhy W0) d:=by kernel_rfl
theorem zhy.sok:FSpec.ok zhy.S=true:=by kernel_rfl
theorem zhy.con (base:Nat):fO prog base 241 zhy.S (zhy W0):=fC (fn:=f241) rfl (by decide) (by kernel_rfl) mixed (cC (cc0 zer.sok (zer.con base) cn) (cC (cc0 zak.sok (zak.con base) cn) cN)) lN zhy.ok
abbrev zf0.S:FSpec:=⟨⟨[(0, .pth 0 [.fld 0, .fld 1]),k138],k38⟩,[⟨[],k39⟩],true⟩
abbrev zf0.D:Type:=(k225×k214)
abbrev zf0.R:Type:=((Unit)×k214)
def zf0 (w:W)(d:zf0.D):Option zf0.R:=(bif w.odec (0≤d.1.2.1∧d.1.2.1<(d.2.2.2.1.length:Int)) then((d.2.2.2.1[d.1.2.1.toNat]?).bind fun x1=>(onS x1 fun n2=>((d.2.2.2.2.1[n2]?).bind fun e3=>(((zer w) (((),()),e3)).bind fun r4=>(bif (w.odec (r4.1.1=0)) then(((zak w) (((),d.1.2.1,(w.wr .i64 (d.1.2.1+1)),()),d.2.2.2.1,(d.2.2.2.2.1.set n2 r4.2),())).bind fun r5=>some (((),d.2.1,d.2.2.1,r5.2))) else some (((),d.2.1,d.2.2.1,d.2.2.2.1,(d.2.2.2.2.1.set n2 r4.2),()))))))) else none)
abbrev zf0.env {α:Type}:Env α:=mE [(99,[⟨zer.S,(zer W0),none⟩]),(251,[⟨zak.S,(zak W0),none⟩])] []
theorem zf0.ok (d:zf0.D):fB prog zf0.S zf0.env f241 d=(zf0 W0) d:=by kernel_rfl
theorem zf0.sok:FSpec.ok zf0.S=true:=by kernel_rfl
theorem zf0.con (base:Nat):fO prog base 241 zf0.S (zf0 W0):=fC (fn:=f241) rfl (by decide) (by kernel_rfl) mixed (cC (cc0 zer.sok (zer.con base) cn) (cC (cc0 zak.sok (zak.con base) cn) cN)) lN zf0.ok
abbrev zdx.S:FSpec:=⟨⟨k57,k38⟩,[⟨k61,k39⟩],true⟩
abbrev zdx.D:Type:=(k226×k214)
abbrev zdx.R:Type:=((De3×Bool×Unit)×k214)
def zdx (w:W)(d:zdx.D):Option zdx.R:=(((zfc w) d).bind fun r1=>(match r1 with| .inl r2=>(bif w.odec (0≤r2.1.2.1∧r2.1.2.1<(r2.2.2.1.length:Int)) then((r2.2.2.1[r2.1.2.1.toNat]?).bind fun x4=>(onS x4 fun n5=>((r2.2.2.2.2.1[n5]?).bind fun e6=>(((zcl w) (d.1,e6)).bind fun r7=>(((zhy w) (((),r2.1.2.1,()),r2.2.1,r2.2.2.1,r2.2.2.2.1,(r2.2.2.2.2.1.set n5 r7.2),())).bind fun r8=>some ((r7.1,r8.2))))))) else none)| .inr r3=>(match r3 with| .inl r9=>(bif w.odec (0≤r9.1.2.1∧r9.1.2.1<(r9.2.2.2.1.length:Int)) then((r9.2.2.2.1[r9.1.2.1.toNat]?).bind fun x11=>(onS x11 fun n12=>((r9.2.2.2.2.1[n12]?).bind fun e13=>(((zcl w) (d.1,e13)).bind fun r14=>(((zf0 w) (((),r9.1.2.1,()),r9.2.1,r9.2.2.1,r9.2.2.2.1,(r9.2.2.2.2.1.set n12 r14.2),())).bind fun r15=>some ((r14.1,r15.2))))))) else none)| .inr r10=>some ((((0,0,0,0,0,0,0,0,0,()),false,()),r10.2)))))
theorem zdx.bod:bodyB f213=true:=by kernel_rfl
abbrev zdx.env {α:Type}:Env α:=mE [(239,[⟨zfc.S,(zfc W0),none⟩]),(240,[⟨zcl.S,(zcl W0),none⟩]),(241,[⟨zhy.S,(zhy W0),none⟩,⟨zf0.S,(zf0 W0),none⟩])] []
theorem zdx.ok (d:zdx.D):fB prog zdx.S zdx.env f213 d=(zdx W0) d:=by kernel_rfl
theorem zdx.sok:FSpec.ok zdx.S=true:=by kernel_rfl
theorem zdx.con (base:Nat):fO prog base 213 zdx.S (zdx W0):=fC (fn:=f213) rfl (by decide) (by kernel_rfl) mixed (cC (cc0 zfc.sok (zfc.con base) cn) (cC (cc0 zcl.sok (zcl.con base) cn) (cC (cc0 zhy.sok (zhy.con base) (cc0 zf0.sok (zf0.con base) cn)) cN))) lN zdx.ok
abbrev zbk.S:FSpec:=⟨⟨[(0, .hole ty3),(1, .ptr 0),(2, .ptr 1)],k58⟩,[⟨k12,k58⟩],true⟩
abbrev zbk.D:Type:=((De3×Unit×Unit×Unit)×k242)
abbrev zbk.R:Type:=(k229×k242)
def zbk (w:W)(d:zbk.D):Option zbk.R:=(bif (w.odec (d.1.1.1=d.2.1)) then some ((((w.odec (d.1.1.2.1=d.2.2.1)),()),d.2)) else some (((false,()),d.2)))
theorem zbk.bod:bodyB f243=true:=by kernel_rfl
abbrev zbk.env {α:Type}:Env α:=mE [] []
theorem zbk.ok (d:zbk.D):fB prog zbk.S zbk.env f243 d=(zbk W0) d:=by kernel_rfl
theorem zbk.sok:FSpec.ok zbk.S=true:=by kernel_rfl
theorem zbk.con (base:Nat):fO prog base 243 zbk.S (zbk W0):=fC (fn:=f243) rfl (by decide) (by kernel_rfl) mixed cN lN zbk.ok
abbrev zaf.S:LSpec:=⟨⟨[k174,(1, .clo (.func 243) [.ptr 0, .ptr 1]),k141,k172],k58⟩,[⟨k59,k58⟩,⟨[],k58⟩],[.ret,(.exit 0)],f242.ntmps⟩
abbrev zaf.D:Type:=(((List De3)×k228×Int×Int×Unit)×k242)
abbrev zaf.R:Type:=((k231×k242)⊕((Unit)×k242))
def zaf (w:W)(d:zaf.D):Option (zaf.D⊕zaf.R):=(bif (w.odec (d.1.2.2.2.1<d.1.2.2.1)) then(bif w.odec (0≤d.1.2.2.2.1) then((d.1.1[d.1.2.2.2.1.toNat]?).bind fun x1=>(((zbk w) ((x1,(),(),()),d.2)).bind fun r2=>(bif r2.1.1 then some (.inr (.inl (d.1.2.2.2,r2.2))) else some (.inl ((d.1.1,((),(),()),d.1.2.2.1,(w.wr .i64 (d.1.2.2.2.1+1)),()),r2.2))))) else none) else some (.inr (.inr ((),d.2))))
abbrev zam.S:FSpec:=⟨⟨[k174,(1, .clo (.func 243) [.ptr 0, .ptr 1])],k58⟩,[⟨k2,k58⟩],true⟩
abbrev zam.D:Type:=(((List De3)×k228×Unit)×k242)
abbrev zam.R:Type:=(k231×k242)
def zam (w:W)(d:zam.D):Option zam.R:=((w.loopFix (L:=zaf.D) (zaf w) ((d.1.1,((),(),()),(d.1.1.length:Int),0,()),d.2)).bind fun r3=>(match r3 with| .inl r4=>some (r4)| .inr r5=>some ((((-1),()),r5.2))))
theorem zam.bod:bodyB f242=true:=by kernel_rfl
abbrev zaf.env {α:Type}:Env α:=mE [(243,[⟨zbk.S,(zbk W0),none⟩])] []
theorem zaf.ok (d:zaf.D):lB prog zaf.S zaf.env f242 2 d=(zaf W0) d:=by kernel_rfl
theorem zaf.sok:LSpec.ok zaf.S=true:=by kernel_rfl
theorem zaf.con (base:Nat):rO prog base f242 2 zaf.S (zaf W0):=lK zaf.sok zam.bod mixed (cC (cc0 zbk.sok (zbk.con base) cn) cN) lN zaf.ok
abbrev zam.env {α:Type}:Env α:=mE [] [(2,[⟨zaf.S,(zaf W0)⟩])]
theorem zam.ok (d:zam.D):fB prog zam.S zam.env f242 d=(zam W0) d:=by kernel_rfl
theorem zam.sok:FSpec.ok zam.S=true:=by kernel_rfl
theorem zam.con (base:Nat):fO prog base 242 zam.S (zam W0):=fC (fn:=f242) rfl (by decide) (by kernel_rfl) mixed cN (lC (lc zaf.sok (zaf.con base) ln) lN) zam.ok
abbrev zcm.S:FSpec:=⟨⟨k57,k50⟩,[⟨k2,k51⟩],true⟩
abbrev zcm.D:Type:=(k226×k218)
abbrev zcm.R:Type:=(k231×k220)
def zcm (w:W)(d:zcm.D):Option zcm.R:=(((zam w) ((d.2.2.2.2.2.1,((),(),()),()),d.1.2)).bind fun r1=>some ((r1.1,((),(),()),d.2.2.1,d.2.2.2.2.2.1,d.2.2.2.1,d.2.2.2.2.1,d.2.2.2.2.2.2)))
theorem zcm.bod:bodyB f214=true:=by kernel_rfl
abbrev zcm.env {α:Type}:Env α:=mE [(242,[⟨zam.S,(zam W0),none⟩])] []
theorem zcm.ok (d:zcm.D):fB prog zcm.S zcm.env f214 d=(zcm W0) d:=by kernel_rfl
theorem zcm.sok:FSpec.ok zcm.S=true:=by kernel_rfl
theorem zcm.con (base:Nat):fO prog base 214 zcm.S (zcm W0):=fC (fn:=f214) rfl (by decide) (by kernel_rfl) mixed (cC (cc0 zam.sok (zam.con base) cn) cN) lN zcm.ok
abbrev zar.S:FSpec:=⟨⟨k60,k49⟩,[⟨[(0, .own 50)],k48⟩],true⟩
abbrev zar.D:Type:=(k226×k246)
abbrev zar.R:Type:=(k221×k246)
def zar (w:W)(d:zar.D):Option zar.R:=(bif w.odec (0≤d.1.2.1∧d.1.2.1≤d.1.2.2.1∧d.1.2.2.1≤(d.2.1.length:Int)∧(d.2.1.length:Int)≤(d.2.1.length:Int)) then(bif (w.odec (d.1.2.1=d.1.2.2.1)) then some ((((),()),d.2)) else(bif w.odec (0≤(0:Int)∧(0:Int)≤d.1.2.1∧d.1.2.1≤(d.2.1.length:Int)) then(bif w.odec (0≤d.1.2.2.1∧d.1.2.2.1≤(d.2.1.length:Int)) then(bif w.odec (0+(d.1.2.1-(0:Int)).toNat+(d.2.1.drop d.1.2.2.1.toNat).length≤d.2.1.length) then(bif w.odec (0≤((((d.1.2.1-(0:Int)).toNat+(d.2.1.drop d.1.2.2.1.toNat).length):Nat):Int)∧((((d.1.2.1-(0:Int)).toNat+(d.2.1.drop d.1.2.2.1.toNat).length):Nat):Int)≤(d.2.1.length:Int)∧(d.2.1.length:Int)≤(((d.2.1.take (0+(d.1.2.1-(0:Int)).toNat)++(d.2.1.drop d.1.2.2.1.toNat)++d.2.1.drop ((0+(d.1.2.1-(0:Int)).toNat)+(d.2.1.drop d.1.2.2.1.toNat).length)).length-0):Nat)) then some ((((),()),((((d.2.1.take (0+(d.1.2.1-(0:Int)).toNat)++(d.2.1.drop d.1.2.2.1.toNat)++d.2.1.drop ((0+(d.1.2.1-(0:Int)).toNat)+(d.2.1.drop d.1.2.2.1.toNat).length)).take (((((d.1.2.1-(0:Int)).toNat+(d.2.1.drop d.1.2.2.1.toNat).length):Nat):Int).toNat)++List.replicate (((d.2.1.length:Int)-((((d.1.2.1-(0:Int)).toNat+(d.2.1.drop d.1.2.2.1.toNat).length):Nat):Int)).toNat) ((0:Int),(0:Int),(0:Int),(0:Int),(0:Int),(0:Int),(0:Int),(0:Int),(0:Int),())++(d.2.1.take (0+(d.1.2.1-(0:Int)).toNat)++(d.2.1.drop d.1.2.2.1.toNat)++d.2.1.drop ((0+(d.1.2.1-(0:Int)).toNat)+(d.2.1.drop d.1.2.2.1.toNat).length)).drop (((((d.1.2.1-(0:Int)).toNat+(d.2.1.drop d.1.2.2.1.toNat).length):Nat):Int).toNat+((d.2.1.length:Int)-((((d.1.2.1-(0:Int)).toNat+(d.2.1.drop d.1.2.2.1.toNat).length):Nat):Int)).toNat)).drop 0).take ((d.1.2.1-(0:Int)).toNat+(d.2.1.drop d.1.2.2.1.toNat).length)),())) else none) else none) else none) else none)) else none)
theorem zar.bod:bodyB f215=true:=by kernel_rfl
abbrev zar.env {α:Type}:Env α:=mE [] []
theorem zar.ok (d:zar.D):fB prog zar.S zar.env f215 d=(zar W0) d:=by kernel_rfl
theorem zar.sok:FSpec.ok zar.S=true:=by kernel_rfl
theorem zar.con (base:Nat):fO prog base 215 zar.S (zar W0):=fC (fn:=f215) rfl (by decide) (by kernel_rfl) mixed cN lN zar.ok
abbrev zby.S:FSpec:=⟨⟨k57,k50⟩,[⟨k61,k51⟩],true⟩
abbrev zby.D:Type:=(k226×k218)
abbrev zby.R:Type:=((De3×Bool×Unit)×k220)
def zby (w:W)(d:zby.D):Option zby.R:=(((zdx w) (d.1,d.2.2.1,d.2.2.2.1,d.2.2.2.2.1,d.2.2.2.2.2.2)).bind fun r1=>(bif r1.1.2.1 then some (((r1.1.1,true,()),((),(),()),r1.2.1,d.2.2.2.2.2.1,r1.2.2)) else(((zcm w) (d.1,((),(),()),r1.2.1,r1.2.2.1,r1.2.2.2.1,d.2.2.2.2.2.1,r1.2.2.2.2)).bind fun r2=>(bif (w.odec (r2.1.1<0)) then some ((((0,0,0,0,0,0,0,0,0,()),false,()),r2.2)) else(bif w.odec (0≤r2.1.1∧r2.1.1<(r2.2.2.2.1.length:Int)) then((r2.2.2.2.1[r2.1.1.toNat]?).bind fun x3=>(((zar w) (((),r2.1.1,(w.wr .i64 (r2.1.1+1)),()),r2.2.2.2.1,())).bind fun r4=>some (((x3,true,()),((),(),()),r2.2.2.1,r4.2.1,r2.2.2.2.2)))) else none)))))
theorem zby.bod:bodyB f186=true:=by kernel_rfl
abbrev zby.env {α:Type}:Env α:=mE [(213,[⟨zdx.S,(zdx W0),none⟩]),(214,[⟨zcm.S,(zcm W0),none⟩]),(215,[⟨zar.S,(zar W0),none⟩])] []
theorem zby.ok (d:zby.D):fB prog zby.S zby.env f186 d=(zby W0) d:=by kernel_rfl
theorem zby.sok:FSpec.ok zby.S=true:=by kernel_rfl
theorem zby.con (base:Nat):fO prog base 186 zby.S (zby W0):=fC (fn:=f186) rfl (by decide) (by kernel_rfl) mixed (cC (cc0 zdx.sok (zdx.con base) cn) (cC (cc0 zcm.sok (zcm.con base) cn) (cC (cc0 zar.sok (zar.con base) cn) cN))) lN zby.ok
abbrev k175:Nat×Pat:=(1, .hole (.int .u64))
abbrev zfd.S:LSpec:=⟨⟨[(0, .ptr 0),k175,(5, .own 5),(9, .hole (.deep ty3)),k159,k160],[(0, .var (.agg [.ptr 1, .own 4])),k176,k177,(3, .row (.ref 197)),(4, .row ty3),(5, .row ty3),k145]⟩,[⟨k46,k51⟩],[(.exit 0)],f181.ntmps⟩
abbrev zfd.D:Type:=((Unit×Int×Unit×(List De3)×Int×Int×Unit)×(k228×k213×(List Nat)×(List Nat)×(List De3)×(List De3)×(List E197)×Unit))
abbrev zfd.R:Type:=(k246×k220)
def zfd (w:W)(d:zfd.D):Option (zfd.D⊕zfd.R):=(bif (w.odec (d.1.2.2.2.2.2.1<d.1.2.2.2.2.1)) then(bif w.odec (0≤d.1.2.2.2.2.2.1) then((d.1.2.2.2.1[d.1.2.2.2.2.2.1.toNat]?).bind fun x2=>(bif w.odec ((w.wr .u64 x2.1)<0) then none else(bif (w.odec ((w.band .u64 (w.shr .u64 d.1.2.1 (w.wr .u64 x2.1)) 1)=1)) then(((zby w) (((),x2.1,x2.2.1,()),((),(),()),d.2.2.1,d.2.2.2.1,d.2.2.2.2.1,d.2.2.2.2.2.1,d.2.2.2.2.2.2.2)).bind fun r3=>(bif w.odec (((d.2.2.2.2.2.2.1.length+([x2]:List De3).length:Nat):Int)*(72:Nat)≤room) then some (.inl (((),d.1.2.1,(),d.1.2.2.2.1,d.1.2.2.2.2.1,(w.wr .i64 (d.1.2.2.2.2.2.1+1)),()),((),(),()),r3.2.2.1,r3.2.2.2.2.1,r3.2.2.2.2.2.1,r3.2.2.2.1,(d.2.2.2.2.2.2.1++([x2]:List De3)),r3.2.2.2.2.2.2)) else none)) else some (.inl (((),d.1.2.1,(),d.1.2.2.2.1,d.1.2.2.2.2.1,(w.wr .i64 (d.1.2.2.2.2.2.1+1)),()),d.2))))) else none) else some (.inr ((d.2.2.2.2.2.2.1,()),((),(),()),d.2.2.1,d.2.2.2.2.2.1,d.2.2.2.1,d.2.2.2.2.1,d.2.2.2.2.2.2.2)))
abbrev zg8.S:FSpec:=⟨⟨[(0, .ptr 0),k175],k50⟩,[⟨k44,k51⟩],false⟩
abbrev zg8.D:Type:=(k225×k218)
abbrev zg8.R:Type:=(k246×k220)
def zg8 (w:W)(d:zg8.D):Option zg8.R:=(((zdv w) (((),()),d.2)).bind fun r1=>((w.loopFix (L:=zfd.D) (zfd w) (((),d.1.2.1,(),r1.1.1,(r1.1.1.length:Int),0,()),((),(),()),r1.2.2.1,r1.2.2.2.2.1,r1.2.2.2.2.2.1,r1.2.2.2.1,([]:List De3),r1.2.2.2.2.2.2)).bind fun r4=>some (r4)))
theorem zg8.bod:bodyB f181=true:=by kernel_rfl
abbrev zfd.env {α:Type}:Env α:=mE [(186,[⟨zby.S,(zby W0),none⟩])] []
theorem zfd.ok (d:zfd.D):lB prog zfd.S zfd.env f181 3 d=(zfd W0) d:=by kernel_rfl
theorem zfd.sok:LSpec.ok zfd.S=true:=by kernel_rfl
theorem zfd.con (base:Nat):rO prog base f181 3 zfd.S (zfd W0):=lK zfd.sok zg8.bod mixed (cC (cc0 zby.sok (zby.con base) cn) cN) lN zfd.ok
abbrev zg8.env {α:Type}:Env α:=mE [(30,[⟨zdv.S,(zdv W0),none⟩])] [(3,[⟨zfd.S,(zfd W0)⟩])]
theorem zg8.ok (d:zg8.D):fB prog zg8.S zg8.env f181 d=(zg8 W0) d:=by kernel_rfl
theorem zg8.sok:FSpec.ok zg8.S=true:=by kernel_rfl
theorem zg8.con (base:Nat):fO prog base 181 zg8.S (zg8 W0):=fC (fn:=f181) rfl (by decide) (by kernel_rfl) mixed (cC (cc0 zdv.sok (zdv.con base) cn) cN) (lC (lc zfd.sok (zfd.con base) ln) lN) zg8.ok
abbrev k63:List (Nat×Pat):=[k140]
abbrev zfe.S:LSpec:=⟨⟨[k138,k140,(9, .hole (.deep ty3)),k159,k160],[]⟩,[⟨k63,[]⟩],[(.exit 0)],f28.ntmps⟩
abbrev zfe.D:Type:=((Int×Int×(List De3)×Int×Int×Unit)×(Unit))
abbrev zfe.R:Type:=k263
def zfe (w:W)(d:zfe.D):Option (zfe.D⊕zfe.R):=(bif (w.odec (d.1.2.2.2.2.1<d.1.2.2.2.1)) then(bif w.odec (0≤d.1.2.2.2.2.1) then((d.1.2.2.1[d.1.2.2.2.2.1.toNat]?).bind fun x2=>(bif (w.odec (x2.1=d.1.1)) then some (.inl ((d.1.1,(w.wr .i64 (d.1.2.1+x2.2.2.2.2.2.2.1)),d.1.2.2.1,d.1.2.2.2.1,(w.wr .i64 (d.1.2.2.2.2.1+1)),()),())) else some (.inl ((d.1.1,d.1.2.1,d.1.2.2.1,d.1.2.2.2.1,(w.wr .i64 (d.1.2.2.2.2.1+1)),()),())))) else none) else some (.inr ((d.1.2.1,()),())))
abbrev zg9.S:FSpec:=⟨⟨k23,k50⟩,[⟨k2,k51⟩],true⟩
abbrev zg9.D:Type:=(k225×k218)
abbrev zg9.R:Type:=(k231×k220)
def zg9 (w:W)(d:zg9.D):Option zg9.R:=(((zdv w) (((),()),d.2)).bind fun r1=>((w.loopFix (L:=zfe.D) (zfe w) ((d.1.2.1,0,r1.1.1,(r1.1.1.length:Int),0,()),())).bind fun r3=>some ((r3.1,r1.2))))
theorem zg9.bod:bodyB f28=true:=by kernel_rfl
abbrev zfe.env {α:Type}:Env α:=mE [] []
theorem zfe.ok (d:zfe.D):lB prog zfe.S zfe.env f28 3 d=(zfe W0) d:=by kernel_rfl
theorem zfe.sok:LSpec.ok zfe.S=true:=by kernel_rfl
theorem zfe.con (base:Nat):rO prog base f28 3 zfe.S (zfe W0):=lK zfe.sok zg9.bod mixed cN lN zfe.ok
abbrev zg9.env {α:Type}:Env α:=mE [(30,[⟨zdv.S,(zdv W0),none⟩])] [(3,[⟨zfe.S,(zfe W0)⟩])]
theorem zg9.ok (d:zg9.D):fB prog zg9.S zg9.env f28 d=(zg9 W0) d:=by kernel_rfl
theorem zg9.sok:FSpec.ok zg9.S=true:=by kernel_rfl
theorem zg9.con (base:Nat):fO prog base 28 zg9.S (zg9 W0):=fC (fn:=f28) rfl (by decide) (by kernel_rfl) mixed (cC (cc0 zdv.sok (zdv.con base) cn) cN) (lC (lc zfe.sok (zfe.con base) ln) lN) zg9.ok
abbrev zhz.S:FSpec:=⟨⟨k11,[]⟩,[⟨k12,[]⟩],true⟩
abbrev zhz.D:Type:=k284
abbrev zhz.R:Type:=k248
def zhz (w:W)(d:zhz.D):Option zhz.R:=(bif (w.odec (d.1.1≥0)) then(bif (w.odec (d.1.1<32)) then(bif (w.odec (d.1.2.1≥0)) then some ((((w.odec (d.1.2.1<8)),()),())) else some (((false,()),()))) else some (((false,()),()))) else some (((false,()),())))
theorem zhz.bod:bodyB f63=true:=by kernel_rfl
abbrev zhz.env {α:Type}:Env α:=mE [] []
theorem zhz.ok (d:zhz.D):fB prog zhz.S zhz.env f63 d=(zhz W0) d:=by kernel_rfl
theorem zhz.sok:FSpec.ok zhz.S=true:=by kernel_rfl
theorem zhz.con (base:Nat):fO prog base 63 zhz.S (zhz W0):=fC (fn:=f63) rfl (by decide) (by kernel_rfl) mixed cN lN zhz.ok
abbrev k64:List (Nat×OPat):=[(0, .var (.hole (.cons (.arr 32 (.arr 8 (.int .i64))) (.cons (.arr 32 (.arr 8 (.int .i64))) .nil))))]
abbrev zc7.S:FSpec:=⟨⟨k57,k64⟩,[⟨k2,k64⟩],true⟩
abbrev zc7.D:Type:=(k226×k262)
abbrev zc7.R:Type:=(k231×k262)
def zc7 (w:W)(d:zc7.D):Option zc7.R:=(((zhz w) (d.1.2,())).bind fun r1=>(bif (!r1.1.1) then some (((0,()),d.2)) else(bif w.odec (0≤d.1.2.1∧d.1.2.1<(32:Nat)) then(bif w.odec (0≤d.1.2.2.1∧d.1.2.2.1<(8:Nat)) then((d.2.1.1[d.1.2.1.toNat]?).bind fun x2=>((x2[d.1.2.2.1.toNat]?).bind fun x3=>some (((x3,()),d.2)))) else none) else none)))
theorem zc7.bod:bodyB f27=true:=by kernel_rfl
abbrev zc7.env {α:Type}:Env α:=mE [(63,[⟨zhz.S,(zhz W0),none⟩])] []
theorem zc7.ok (d:zc7.D):fB prog zc7.S zc7.env f27 d=(zc7 W0) d:=by kernel_rfl
theorem zc7.sok:FSpec.ok zc7.S=true:=by kernel_rfl
theorem zc7.con (base:Nat):fO prog base 27 zc7.S (zc7 W0):=fC (fn:=f27) rfl (by decide) (by kernel_rfl) mixed (cC (cc0 zhz.sok (zhz.con base) cn) cN) lN zc7.ok
abbrev zif.S:FSpec:=⟨⟨[(0, .pth 0 [.fld 0, .idx, .idx]),k138,k139,k142],k64⟩,[⟨k12,k64⟩],true⟩
abbrev zif.D:Type:=(((Nat×Nat×Unit)×Int×Int×Int×Unit)×k262)
abbrev zif.R:Type:=(k229×k262)
def zif (w:W)(d:zif.D):Option zif.R:=((d.2.1.1[d.1.1.1]?).bind fun x1=>((x1[d.1.1.2.1]?).bind fun x2=>(bif (w.odec ((w.wr .i64 (x2+d.1.2.1))<d.1.2.2.1)) then some (((false,()),d.2)) else(bif (w.odec ((w.wr .i64 (x2+d.1.2.1))>d.1.2.2.2.1)) then some (((false,()),d.2)) else((d.2.1.1[d.1.1.1]?).bind fun x3=>((x3[d.1.1.2.1]?).bind fun x4=>some (((true,()),((d.2.1.1.set d.1.1.1 (x3.set d.1.1.2.1 (w.wr .i64 (x2+d.1.2.1)))),d.2.1.2),()))))))))
theorem zif.bod:bodyB f232=true:=by kernel_rfl
abbrev zif.env {α:Type}:Env α:=mE [] []
theorem zif.ok (d:zif.D):fB prog zif.S zif.env f232 d=(zif W0) d:=by kernel_rfl
theorem zif.sok:FSpec.ok zif.S=true:=by kernel_rfl
theorem zif.con (base:Nat):fO prog base 232 zif.S (zif W0):=fC (fn:=f232) rfl (by decide) (by kernel_rfl) mixed cN lN zif.ok
abbrev k65:List (Nat×Pat):=[(0, .ptr 0),k138,k139,k142]
abbrev zdy.S:FSpec:=⟨⟨k65,k64⟩,[⟨k12,k64⟩],true⟩
abbrev zdy.D:Type:=(k212×k262)
abbrev zdy.R:Type:=(k229×k262)
def zdy (w:W)(d:zdy.D):Option zdy.R:=(((zhz w) ((d.1.2.1,d.1.2.2.1,()),())).bind fun r1=>(bif r1.1.1 then(bif (w.odec (d.1.2.2.2.1≥(-1048576))) then(bif (w.odec (d.1.2.2.2.1≤1048576)) then(bif w.odec (0≤d.1.2.1∧d.1.2.1<(32:Nat)) then(bif w.odec (0≤d.1.2.2.1∧d.1.2.2.1<(8:Nat)) then(((zif w) (((d.1.2.1.toNat,d.1.2.2.1.toNat,()),d.1.2.2.2.1,0,1099511627776,()),d.2)).bind fun r2=>some (r2)) else none) else none) else some (((false,()),d.2))) else some (((false,()),d.2))) else some (((false,()),d.2))))
theorem zdy.bod:bodyB f210=true:=by kernel_rfl
abbrev zdy.env {α:Type}:Env α:=mE [(63,[⟨zhz.S,(zhz W0),none⟩]),(232,[⟨zif.S,(zif W0),none⟩])] []
theorem zdy.ok (d:zdy.D):fB prog zdy.S zdy.env f210 d=(zdy W0) d:=by kernel_rfl
theorem zdy.sok:FSpec.ok zdy.S=true:=by kernel_rfl
theorem zdy.con (base:Nat):fO prog base 210 zdy.S (zdy W0):=fC (fn:=f210) rfl (by decide) (by kernel_rfl) mixed (cC (cc0 zhz.sok (zhz.con base) cn) (cC (cc0 zif.sok (zif.con base) cn) cN)) lN zdy.ok
abbrev k179:Nat×Pat:=(6, .hole (.int .i64))
abbrev k66:List (Nat×Pat):=[(0, .ptr 0),k138,k179]
abbrev zbl.S:LSpec:=⟨⟨[(0, .ptr 0),k138,k178,k179],k22⟩,[⟨k66,k22⟩],[(.exit 2)],f205.ntmps⟩
abbrev zbl.D:Type:=(k212×k211)
abbrev zbl.R:Type:=(k226×k211)
def zbl (w:W)(d:zbl.D):Option (zbl.D⊕zbl.R):=(bif w.odec (0≤d.1.2.1∧d.1.2.1<(8:Nat)) then((d.2.1.2.2.2.2.1[d.1.2.1.toNat]?).bind fun x1=>(onS x1 fun n2=>((d.2.2.2.2.1[n2]?).bind fun e3=>(((zg9 w) (((),d.1.2.2.1,()),e3)).bind fun r4=>(((zc7 w) (((),d.1.2.2.1,d.1.2.1,()),d.2.2.2.1,())).bind fun r5=>(bif (w.odec ((w.wr .i64 (r4.1.1-r5.1.1))=0)) then some (.inr (((),d.1.2.1,d.1.2.2.2),d.2.1,d.2.2.1,r5.2.1,(d.2.2.2.2.1.set n2 (((),(),()),r4.2.2.1,r4.2.2.2.2.1,r4.2.2.2.2.2.1,r4.2.2.2.1,r4.2.2.2.2.2.2)),d.2.2.2.2.2)) else(((zdy w) (((),d.1.2.2.1,d.1.2.1,(w.imax (-1048576) (w.imin (w.wr .i64 (r4.1.1-r5.1.1)) 1048576)),()),r5.2)).bind fun r6=>(bif (!r6.1.1) then some (.inr (((),d.1.2.1,d.1.2.2.2),d.2.1,d.2.2.1,r6.2.1,(d.2.2.2.2.1.set n2 (((),(),()),r4.2.2.1,r4.2.2.2.2.1,r4.2.2.2.2.2.1,r4.2.2.2.1,r4.2.2.2.2.2.2)),d.2.2.2.2.2)) else some (.inl (d.1,d.2.1,d.2.2.1,r6.2.1,(d.2.2.2.2.1.set n2 (((),(),()),r4.2.2.1,r4.2.2.2.2.1,r4.2.2.2.2.2.1,r4.2.2.2.1,r4.2.2.2.2.2.2)),d.2.2.2.2.2)))))))))) else none)
abbrev zbm.S:LSpec:=⟨⟨k66,k22⟩,[⟨[],k22⟩],[(.exit 0)],f205.ntmps⟩
abbrev zbm.D:Type:=(k226×k211)
abbrev zbm.R:Type:=((Unit)×k211)
def zbm (w:W)(d:zbm.D):Option (zbm.D⊕zbm.R):=(bif (w.odec (d.1.2.2.1<32)) then((w.loopFix (L:=zbl.D) (zbl w) (((),d.1.2.1,d.1.2.2.1,d.1.2.2),d.2)).bind fun r7=>some (.inl (((),r7.1.2.1,(w.wr .i64 (r7.1.2.2.1+1)),()),r7.2))) else some (.inr ((),d.2)))
abbrev zc8.S:FSpec:=⟨⟨k23,k22⟩,[⟨[],k22⟩],true⟩
abbrev zc8.D:Type:=(k225×k211)
abbrev zc8.R:Type:=((Unit)×k211)
def zc8 (w:W)(d:zc8.D):Option zc8.R:=((w.loopFix (L:=zbm.D) (zbm w) (((),d.1.2.1,0,()),d.2)).bind fun r8=>some (r8))
theorem zc8.bod:bodyB f205=true:=by kernel_rfl
abbrev zbl.env {α:Type}:Env α:=mE [(28,[⟨zg9.S,(zg9 W0),none⟩]),(27,[⟨zc7.S,(zc7 W0),none⟩]),(210,[⟨zdy.S,(zdy W0),none⟩])] []
theorem zbl.ok (d:zbl.D):lB prog zbl.S zbl.env f205 3 d=(zbl W0) d:=by kernel_rfl
theorem zbl.sok:LSpec.ok zbl.S=true:=by kernel_rfl
theorem zbl.con (base:Nat):rO prog base f205 3 zbl.S (zbl W0):=lK zbl.sok zc8.bod mixed (cC (cc0 zg9.sok (zg9.con base) cn) (cC (cc0 zc7.sok (zc7.con base) cn) (cC (cc0 zdy.sok (zdy.con base) cn) cN))) lN zbl.ok
abbrev zbm.env {α:Type}:Env α:=mE [] [(3,[⟨zbl.S,(zbl W0)⟩])]
theorem zbm.ok (d:zbm.D):lB prog zbm.S zbm.env f205 1 d=(zbm W0) d:=by kernel_rfl
theorem zbm.sok:LSpec.ok zbm.S=true:=by kernel_rfl
theorem zbm.con (base:Nat):rO prog base f205 1 zbm.S (zbm W0):=lK zbm.sok zc8.bod mixed cN (lC (lc zbl.sok (zbl.con base) ln) lN) zbm.ok
abbrev zc8.env {α:Type}:Env α:=mE [] [(1,[⟨zbm.S,(zbm W0)⟩])]
theorem zc8.ok (d:zc8.D):fB prog zc8.S zc8.env f205 d=(zc8 W0) d:=by kernel_rfl
theorem zc8.sok:FSpec.ok zc8.S=true:=by kernel_rfl
theorem zc8.con (base:Nat):fO prog base 205 zc8.S (zc8 W0):=fC (fn:=f205) rfl (by decide) (by kernel_rfl) mixed cN (lC (lc zbm.sok (zbm.con base) ln) lN) zc8.ok
abbrev k67:List (Nat×OPat):=[k182,k183,k184,(3, .row ty12),k147,k148,k149]
abbrev k68:List (Nat×Pat):=[(0, .ptr 0),k138,(7, .hole (.deep ty12))]
abbrev zbz.S:LSpec:=⟨⟨[(0, .ptr 0),k138,(7, .own 3),(10, .hole (.deep ty3)),k160,k157],k67⟩,[⟨k68,k22⟩],[(.exit 0)],f180.ntmps⟩
abbrev k261:Type:=(k216×k233×k215×(List De12)×(List E135)×(List E168)×(List E255)×Unit)
abbrev zbz.D:Type:=((Unit×Int×Unit×(List De3)×Int×Int×Unit)×k261)
abbrev zbz.R:Type:=((Unit×Int×(List De12)×Unit)×k211)
def zbz (w:W)(d:zbz.D):Option (zbz.D⊕zbz.R):=(bif (w.odec (d.1.2.2.2.2.2.1<d.1.2.2.2.2.1)) then(bif w.odec (0≤d.1.2.2.2.2.2.1) then((d.1.2.2.2.1[d.1.2.2.2.2.2.1.toNat]?).bind fun x1=>(bif w.odec (((d.2.2.2.2.1.length+([(2,d.1.2.1,((0,0,0,0,0,0,0,0,0,()),(0,0,0,0,0,0,0,0,0,()),0,0,0,()),x1,())]:List De12).length:Nat):Int)*(256:Nat)≤room) then some (.inl (((),d.1.2.1,(),d.1.2.2.2.1,d.1.2.2.2.2.1,(w.wr .i64 (d.1.2.2.2.2.2.1+1)),()),d.2.1,d.2.2.1,d.2.2.2.1,(d.2.2.2.2.1++([(2,d.1.2.1,((0,0,0,0,0,0,0,0,0,()),(0,0,0,0,0,0,0,0,0,()),0,0,0,()),x1,())]:List De12)),d.2.2.2.2.2)) else none)) else none) else some (.inr (((),d.1.2.1,d.2.2.2.2.1,()),d.2.1,d.2.2.1,d.2.2.2.1,d.2.2.2.2.2)))
abbrev k69:List (Nat×Pat):=[(0, .hole (.deep ty12))]
abbrev zdz.S:FSpec:=⟨⟨[(0, .ptr 0),k138,(2, .hole (.deep ty3))],k22⟩,[⟨k69,k22⟩],false⟩
abbrev zdz.D:Type:=((Unit×Int×(List De3)×Unit)×k211)
abbrev k290:Type:=(((List De12)×Unit)×k211)
abbrev zdz.R:Type:=k290
def zdz (w:W)(d:zdz.D):Option zdz.R:=((w.loopFix (L:=zbz.D) (zbz w) (((),d.1.2.1,(),d.1.2.2.1,(d.1.2.2.1.length:Int),0,()),d.2.1,d.2.2.1,d.2.2.2.1,([]:List De12),d.2.2.2.2)).bind fun r2=>(((zc8 w) (((),r2.1.2.1,()),r2.2)).bind fun r3=>some ((r2.1.2.2,r3.2))))
theorem zdz.bod:bodyB f180=true:=by kernel_rfl
abbrev zbz.env {α:Type}:Env α:=mE [] []
theorem zbz.ok (d:zbz.D):lB prog zbz.S zbz.env f180 3 d=(zbz W0) d:=by kernel_rfl
theorem zbz.sok:LSpec.ok zbz.S=true:=by kernel_rfl
theorem zbz.con (base:Nat):rO prog base f180 3 zbz.S (zbz W0):=lK zbz.sok zdz.bod mixed cN lN zbz.ok
abbrev zdz.env {α:Type}:Env α:=mE [(205,[⟨zc8.S,(zc8 W0),none⟩])] [(3,[⟨zbz.S,(zbz W0)⟩])]
theorem zdz.ok (d:zdz.D):fB prog zdz.S zdz.env f180 d=(zdz W0) d:=by kernel_rfl
theorem zdz.sok:FSpec.ok zdz.S=true:=by kernel_rfl
theorem zdz.con (base:Nat):fO prog base 180 zdz.S (zdz W0):=fC (fn:=f180) rfl (by decide) (by kernel_rfl) mixed (cC (cc0 zc8.sok (zc8.con base) cn) cN) (lC (lc zbz.sok (zbz.con base) ln) lN) zdz.ok
abbrev zbn.S:LSpec:=⟨⟨[(0, .ptr 0),k138,(2, .hole (.int .u64)),(7, .own 3),(13, .hole (.arr 8 (.ref 135))),k169],k67⟩,[⟨[(7, .hole (.deep ty12))],k22⟩],[(.exit 0)],f145.ntmps⟩
abbrev zbn.D:Type:=((Unit×Int×Int×Unit×(List Nat)×Int×Unit)×k261)
abbrev zbn.R:Type:=k290
def zbn (w:W)(d:zbn.D):Option (zbn.D⊕zbn.R):=(bif (w.odec (d.1.2.2.2.2.2.1<8)) then(bif w.odec (0≤d.1.2.2.2.2.2.1∧d.1.2.2.2.2.2.1<(8:Nat)) then((d.1.2.2.2.2.1[d.1.2.2.2.2.2.1.toNat]?).bind fun x1=>(bif (w.odec (d.1.2.2.2.2.2.1=d.1.2.1)) then(onS x1 fun n2=>((d.2.2.2.2.2.1[n2]?).bind fun e3=>(((zg8 w) (((),d.1.2.2.1,()),e3)).bind fun r4=>(((zdz w) (((),d.1.2.2.2.2.2.1,r4.1),d.2.1,d.2.2.1,d.2.2.2.1,(d.2.2.2.2.2.1.set n2 (((),(),()),r4.2.2.1,r4.2.2.2.2.1,r4.2.2.2.2.2.1,r4.2.2.2.1,r4.2.2.2.2.2.2)),d.2.2.2.2.2.2)).bind fun r5=>(bif w.odec (((d.2.2.2.2.1.length+r5.1.1.length:Nat):Int)*(256:Nat)≤room) then some (.inl (((),d.1.2.1,d.1.2.2.1,(),d.1.2.2.2.2.1,(w.wr .i64 (d.1.2.2.2.2.2.1+1)),()),r5.2.1,r5.2.2.1,r5.2.2.2.1,(d.2.2.2.2.1++r5.1.1),r5.2.2.2.2)) else none))))) else(bif (w.odec (d.1.2.1=8)) then(onS x1 fun n6=>((d.2.2.2.2.2.1[n6]?).bind fun e7=>(((zg8 w) (((),d.1.2.2.1,()),e7)).bind fun r8=>(((zdz w) (((),d.1.2.2.2.2.2.1,r8.1),d.2.1,d.2.2.1,d.2.2.2.1,(d.2.2.2.2.2.1.set n6 (((),(),()),r8.2.2.1,r8.2.2.2.2.1,r8.2.2.2.2.2.1,r8.2.2.2.1,r8.2.2.2.2.2.2)),d.2.2.2.2.2.2)).bind fun r9=>(bif w.odec (((d.2.2.2.2.1.length+r9.1.1.length:Nat):Int)*(256:Nat)≤room) then some (.inl (((),d.1.2.1,d.1.2.2.1,(),d.1.2.2.2.2.1,(w.wr .i64 (d.1.2.2.2.2.2.1+1)),()),r9.2.1,r9.2.2.1,r9.2.2.2.1,(d.2.2.2.2.1++r9.1.1),r9.2.2.2.2)) else none))))) else some (.inl (((),d.1.2.1,d.1.2.2.1,(),d.1.2.2.2.2.1,(w.wr .i64 (d.1.2.2.2.2.2.1+1)),()),d.2))))) else none) else some (.inr ((d.2.2.2.2.1,()),d.2.1,d.2.2.1,d.2.2.2.1,d.2.2.2.2.2)))
abbrev zc9.S:FSpec:=⟨⟨[(0, .ptr 0),k138,(2, .hole (.int .u64))],k22⟩,[⟨k69,k22⟩],false⟩
abbrev zc9.D:Type:=(k226×k211)
abbrev zc9.R:Type:=k290
def zc9 (w:W)(d:zc9.D):Option zc9.R:=((w.loopFix (L:=zbn.D) (zbn w) (((),d.1.2.1,d.1.2.2.1,(),d.2.1.2.2.2.2.1,0,()),d.2.1,d.2.2.1,d.2.2.2.1,([]:List De12),d.2.2.2.2)).bind fun r10=>some (r10))
theorem zc9.bod:bodyB f145=true:=by kernel_rfl
abbrev zbn.env {α:Type}:Env α:=mE [(181,[⟨zg8.S,(zg8 W0),none⟩]),(180,[⟨zdz.S,(zdz W0),none⟩])] []
theorem zbn.ok (d:zbn.D):lB prog zbn.S zbn.env f145 3 d=(zbn W0) d:=by kernel_rfl
theorem zbn.sok:LSpec.ok zbn.S=true:=by kernel_rfl
theorem zbn.con (base:Nat):rO prog base f145 3 zbn.S (zbn W0):=lK zbn.sok zc9.bod mixed (cC (cc0 zg8.sok (zg8.con base) cn) (cC (cc0 zdz.sok (zdz.con base) cn) cN)) lN zbn.ok
abbrev zc9.env {α:Type}:Env α:=mE [] [(3,[⟨zbn.S,(zbn W0)⟩])]
theorem zc9.ok (d:zc9.D):fB prog zc9.S zc9.env f145 d=(zc9 W0) d:=by kernel_rfl
theorem zc9.sok:FSpec.ok zc9.S=true:=by kernel_rfl
theorem zc9.con (base:Nat):fO prog base 145 zc9.S (zc9 W0):=fC (fn:=f145) rfl (by decide) (by kernel_rfl) mixed cN (lC (lc zbn.sok (zbn.con base) ln) lN) zc9.ok
abbrev zcn.S:FSpec:=⟨⟨k23,k37⟩,[⟨[],k37⟩],true⟩
abbrev zcn.D:Type:=(k225×k279)
abbrev zcn.R:Type:=((Unit)×k279)
def zcn (w:W)(d:zcn.D):Option zcn.R:=(bif (w.odec (d.1.2.1≤d.2.1.2.2.2.1)) then some (((),d.2)) else(bif w.odec (d.2.1.2.1=0) then none else(bif (w.odec ((w.wr .i64 (d.2.1.2.2.1+(w.wr .i64 (Int.tdiv (w.wr .i64 (d.1.2.1-d.2.1.2.2.2.1)) d.2.1.2.1))))≥d.2.1.1)) then some (((),(d.2.1.1,d.2.1.2.1,d.2.1.1,d.1.2),())) else some (((),(d.2.1.1,d.2.1.2.1,(w.wr .i64 (d.2.1.2.2.1+(w.wr .i64 (Int.tdiv (w.wr .i64 (d.1.2.1-d.2.1.2.2.2.1)) d.2.1.2.1)))),(w.wr .i64 (d.2.1.2.2.2.1+(w.wr .i64 ((w.wr .i64 (Int.tdiv (w.wr .i64 (d.1.2.1-d.2.1.2.2.2.1)) d.2.1.2.1))*d.2.1.2.1)))),()),())))))
theorem zcn.bod:bodyB f182=true:=by kernel_rfl
abbrev zcn.env {α:Type}:Env α:=mE [] []
theorem zcn.ok (d:zcn.D):fB prog zcn.S zcn.env f182 d=(zcn W0) d:=by kernel_rfl
theorem zcn.sok:FSpec.ok zcn.S=true:=by kernel_rfl
theorem zcn.con (base:Nat):fO prog base 182 zcn.S (zcn W0):=fC (fn:=f182) rfl (by decide) (by kernel_rfl) mixed cN lN zcn.ok
abbrev zco.S:FSpec:=⟨⟨k23,k37⟩,[⟨k12,k37⟩],true⟩
abbrev zco.D:Type:=(k225×k279)
abbrev zco.R:Type:=(k229×k279)
def zco (w:W)(d:zco.D):Option zco.R:=(((zcn w) d).bind fun r1=>(bif (w.odec (r1.2.1.2.2.1=0)) then some (((false,()),r1.2)) else(bif (w.odec (r1.2.1.2.2.1=r1.2.1.1)) then some (((true,()),(r1.2.1.1,r1.2.1.2.1,(w.wr .i64 (r1.2.1.2.2.1-1)),(w.imax r1.2.1.2.2.2.1 d.1.2.1),()),())) else some (((true,()),(r1.2.1.1,r1.2.1.2.1,(w.wr .i64 (r1.2.1.2.2.1-1)),r1.2.1.2.2.2),())))))
theorem zco.bod:bodyB f146=true:=by kernel_rfl
abbrev zco.env {α:Type}:Env α:=mE [(182,[⟨zcn.S,(zcn W0),none⟩])] []
theorem zco.ok (d:zco.D):fB prog zco.S zco.env f146 d=(zco W0) d:=by kernel_rfl
theorem zco.sok:FSpec.ok zco.S=true:=by kernel_rfl
theorem zco.con (base:Nat):fO prog base 146 zco.S (zco W0):=fC (fn:=f146) rfl (by decide) (by kernel_rfl) mixed (cC (cc0 zcn.sok (zcn.con base) cn) cN) lN zco.ok
abbrev zd0.S:FSpec:=⟨⟨k23,k24⟩,[⟨k13,k24⟩],true⟩
abbrev zd0.D:Type:=(k225×k285)
abbrev zd0.R:Type:=((De1×Unit)×k285)
def zd0 (w:W)(d:zd0.D):Option zd0.R:=(((zep w) d).bind fun r1=>(bif (!r1.1.1) then some ((((0,0,0,0,false,(List.replicate 32 (0:Int)),()),()),r1.2)) else(bif w.odec (0≤d.1.2.1∧d.1.2.1<(32:Nat)) then((r1.2.1.1[d.1.2.1.toNat]?).bind fun x2=>some (((x2,()),r1.2))) else none)))
theorem zd0.bod:bodyB f166=true:=by kernel_rfl
abbrev zd0.env {α:Type}:Env α:=mE [(178,[⟨zep.S,(zep W0),none⟩])] []
theorem zd0.ok (d:zd0.D):fB prog zd0.S zd0.env f166 d=(zd0 W0) d:=by kernel_rfl
theorem zd0.sok:FSpec.ok zd0.S=true:=by kernel_rfl
theorem zd0.con (base:Nat):fO prog base 166 zd0.S (zd0 W0):=fC (fn:=f166) rfl (by decide) (by kernel_rfl) mixed (cC (cc0 zep.sok (zep.con base) cn) cN) lN zd0.ok
abbrev zig.S:FSpec:=⟨⟨[(0, .hole ty1),k138],[]⟩,[⟨k12,[]⟩],true⟩
abbrev zig.D:Type:=((De1×Int×Unit)×(Unit))
abbrev zig.R:Type:=k248
def zig (w:W)(d:zig.D):Option zig.R:=some ((((!w.odec ((w.band .i64 d.1.1.2.2.1 d.1.2.1)=0)),()),()))
theorem zig.bod:bodyB f237=true:=by kernel_rfl
abbrev zig.env {α:Type}:Env α:=mE [] []
theorem zig.ok (d:zig.D):fB prog zig.S zig.env f237 d=(zig W0) d:=by kernel_rfl
theorem zig.sok:FSpec.ok zig.S=true:=by kernel_rfl
theorem zig.con (base:Nat):fO prog base 237 zig.S (zig W0):=fC (fn:=f237) rfl (by decide) (by kernel_rfl) mixed cN lN zig.ok
abbrev zha.S:FSpec:=⟨⟨[(0, .hole ty4),(1, .hole ty1),k139],[]⟩,[⟨k2,[]⟩],true⟩
abbrev zha.D:Type:=((De4×De1×Int×Unit)×(Unit))
abbrev zha.R:Type:=k263
def zha (w:W)(d:zha.D):Option zha.R:=(bif (w.odec (d.1.2.2.1<0)) then some (((1,()),())) else(bif (w.odec (d.1.2.2.1≥8)) then some (((1,()),())) else(((zig w) ((d.1.2.1,1,()),())).bind fun r1=>(bif (!r1.1.1) then some (((7,()),())) else(bif w.odec ((w.wr .u64 d.1.2.2.1)<0) then none else(bif (w.odec ((w.band .i64 (w.shr .i64 d.1.2.1.2.2.2.1 (w.wr .u64 d.1.2.2.1)) 1)=0)) then some (((7,()),())) else(bif w.odec (0≤d.1.2.2.1∧d.1.2.2.1<(8:Nat)) then((d.1.1.1[d.1.2.2.1.toNat]?).bind fun x2=>(bif x2 then some (((9,()),())) else some (((0,()),())))) else none)))))))
theorem zha.bod:bodyB f235=true:=by kernel_rfl
abbrev zha.env {α:Type}:Env α:=mE [(237,[⟨zig.S,(zig W0),none⟩])] []
theorem zha.ok (d:zha.D):fB prog zha.S zha.env f235 d=(zha W0) d:=by kernel_rfl
theorem zha.sok:FSpec.ok zha.S=true:=by kernel_rfl
theorem zha.con (base:Nat):fO prog base 235 zha.S (zha W0):=fC (fn:=f235) rfl (by decide) (by kernel_rfl) mixed (cC (cc0 zig.sok (zig.con base) cn) cN) lN zha.ok
abbrev zih.S:FSpec:=⟨⟨k12,[]⟩,[⟨k2,[]⟩],true⟩
abbrev zih.D:Type:=k248
abbrev zih.R:Type:=k263
def zih (w:W)(d:zih.D):Option zih.R:=(bif d.1.1 then some (((0,()),())) else some (((7,()),())))
theorem zih.bod:bodyB f236=true:=by kernel_rfl
abbrev zih.env {α:Type}:Env α:=mE [] []
theorem zih.ok (d:zih.D):fB prog zih.S zih.env f236 d=(zih W0) d:=by kernel_rfl
theorem zih.sok:FSpec.ok zih.S=true:=by kernel_rfl
theorem zih.con (base:Nat):fO prog base 236 zih.S (zih W0):=fC (fn:=f236) rfl (by decide) (by kernel_rfl) mixed cN lN zih.ok
abbrev zf1.S:FSpec:=⟨⟨[(0, .hole ty4),(1, .hole ty1),(2, .hole ty1)],[]⟩,[⟨k12,[]⟩],true⟩
abbrev zf1.D:Type:=((De4×De1×De1×Unit)×(Unit))
abbrev zf1.R:Type:=k248
def zf1 (w:W)(d:zf1.D):Option zf1.R:=(bif (w.odec (d.1.2.1.1=d.1.2.2.1.1)) then(bif w.odec (0≤d.1.2.1.1∧d.1.2.1.1<(8:Nat)) then((d.1.1.2.2.1[d.1.2.1.1.toNat]?).bind fun x1=>(bif w.odec ((w.wr .u64 d.1.2.2.1.1)<0) then none else(((zig w) ((d.1.2.1,8,()),())).bind fun r2=>(bif r2.1.1 then some (((true,()),())) else(((zig w) ((d.1.2.1,4,()),())).bind fun r3=>(bif r3.1.1 then(bif (w.odec (d.1.2.1.1=d.1.2.2.1.1)) then some (((true,()),())) else(bif (w.odec ((w.band .i64 (w.shr .i64 x1 (w.wr .u64 d.1.2.2.1.1)) 1)=1)) then some (((true,()),())) else(((zig w) ((d.1.2.1,2,()),())).bind fun r4=>(bif r4.1.1 then some ((((w.odec (d.1.2.1.2.1=d.1.2.2.1.2.1)),()),())) else some (((false,()),())))))) else(((zig w) ((d.1.2.1,2,()),())).bind fun r5=>(bif r5.1.1 then some ((((w.odec (d.1.2.1.2.1=d.1.2.2.1.2.1)),()),())) else some (((false,()),())))))))))) else none) else(bif w.odec (0≤d.1.2.1.1∧d.1.2.1.1<(8:Nat)) then((d.1.1.2.2.1[d.1.2.1.1.toNat]?).bind fun x6=>(bif w.odec ((w.wr .u64 d.1.2.2.1.1)<0) then none else(((zig w) ((d.1.2.1,8,()),())).bind fun r7=>(bif r7.1.1 then some (((true,()),())) else(((zig w) ((d.1.2.1,4,()),())).bind fun r8=>(bif r8.1.1 then(bif (w.odec (d.1.2.1.1=d.1.2.2.1.1)) then some (((true,()),())) else(bif (w.odec ((w.band .i64 (w.shr .i64 x6 (w.wr .u64 d.1.2.2.1.1)) 1)=1)) then some (((true,()),())) else(((zig w) ((d.1.2.1,2,()),())).bind fun r9=>(bif r9.1.1 then some (((false,()),())) else some (((false,()),())))))) else(((zig w) ((d.1.2.1,2,()),())).bind fun r10=>(bif r10.1.1 then some (((false,()),())) else some (((false,()),())))))))))) else none))
theorem zf1.bod:bodyB f238=true:=by kernel_rfl
abbrev zf1.env {α:Type}:Env α:=mE [(237,[⟨zig.S,(zig W0),none⟩])] []
theorem zf1.ok (d:zf1.D):fB prog zf1.S zf1.env f238 d=(zf1 W0) d:=by kernel_rfl
theorem zf1.sok:FSpec.ok zf1.S=true:=by kernel_rfl
theorem zf1.con (base:Nat):fO prog base 238 zf1.S (zf1 W0):=fC (fn:=f238) rfl (by decide) (by kernel_rfl) mixed (cC (cc0 zig.sok (zig.con base) cn) cN) lN zf1.ok
abbrev zii.S:FSpec:=⟨⟨[(0, .ptr 0),(1, .hole ty4),k139,k142,k178,k140],k24⟩,[⟨k2,k24⟩],true⟩
abbrev zii.D:Type:=((Unit×De4×Int×Int×Int×Int×Unit)×k285)
abbrev zii.R:Type:=(k231×k285)
def zii (w:W)(d:zii.D):Option zii.R:=(((zep w) (((),d.1.2.2.1,()),d.2)).bind fun r1=>(bif (!r1.1.1) then some (((6,()),r1.2)) else(((zd0 w) (((),d.1.2.2.1,()),r1.2)).bind fun r2=>(bif r2.1.1.2.2.2.2.1 then some (((7,()),r2.2)) else(bif w.odec (0≤r2.1.1.1∧r2.1.1.1<(8:Nat)) then((d.1.2.1.2.1[r2.1.1.1.toNat]?).bind fun x3=>(bif x3 then(bif (!w.odec (d.1.2.2.2.1=2)) then(bif (!w.odec (d.1.2.2.2.1=4)) then some (((7,()),r2.2)) else(((zd0 w) (((),d.1.2.2.2.2.2),r2.2)).bind fun r4=>(bif (w.odec (d.1.2.2.2.1=1)) then(((zha w) ((d.1.2.1,r2.1.1,d.1.2.2.2.2.1,()),())).bind fun r5=>some ((r5.1,r4.2))) else(bif (w.odec (d.1.2.2.2.1=4)) then(((zig w) ((r2.1.1,8,()),())).bind fun r6=>(((zih w) r6).bind fun r7=>some ((r7.1,r4.2)))) else(bif (w.odec (d.1.2.2.2.1=2)) then(bif (w.odec (d.1.2.2.2.1=2)) then(((zep w) (((),d.1.2.2.2.2.2),r4.2)).bind fun r8=>(bif (!r8.1.1) then some (((6,()),r8.2)) else(bif (w.odec (d.1.2.2.2.1=2)) then(bif (w.odec (d.1.2.2.2.2.2.1=d.1.2.2.1)) then(((zih w) ((true,()),())).bind fun r9=>some ((r9.1,r8.2))) else(((zf1 w) ((d.1.2.1,r2.1.1,r4.1),())).bind fun r10=>(((zih w) r10).bind fun r11=>some ((r11.1,r8.2))))) else(bif (!w.odec (d.1.2.2.2.2.2.1=d.1.2.2.1)) then(((zig w) ((r2.1.1,8,()),())).bind fun r12=>(bif r12.1.1 then(((zih w) ((true,()),())).bind fun r13=>some ((r13.1,r8.2))) else(((zig w) ((r2.1.1,4,()),())).bind fun r14=>(bif r14.1.1 then(((zih w) (((w.odec (r4.1.1.1=r2.1.1.1)),()),())).bind fun r15=>some ((r15.1,r8.2))) else(((zih w) ((false,()),())).bind fun r16=>some ((r16.1,r8.2))))))) else(((zih w) ((false,()),())).bind fun r17=>some ((r17.1,r8.2))))))) else some (((1,()),r4.2))) else(bif (w.odec (d.1.2.2.2.1=3)) then(((zep w) (((),d.1.2.2.2.2.2),r4.2)).bind fun r18=>(bif (!r18.1.1) then some (((6,()),r18.2)) else(bif (w.odec (d.1.2.2.2.1=2)) then(bif (w.odec (d.1.2.2.2.2.2.1=d.1.2.2.1)) then(((zih w) ((true,()),())).bind fun r19=>some ((r19.1,r18.2))) else(((zf1 w) ((d.1.2.1,r2.1.1,r4.1),())).bind fun r20=>(((zih w) r20).bind fun r21=>some ((r21.1,r18.2))))) else(bif (!w.odec (d.1.2.2.2.2.2.1=d.1.2.2.1)) then(((zig w) ((r2.1.1,8,()),())).bind fun r22=>(bif r22.1.1 then(((zih w) ((true,()),())).bind fun r23=>some ((r23.1,r18.2))) else(((zig w) ((r2.1.1,4,()),())).bind fun r24=>(bif r24.1.1 then(((zih w) (((w.odec (r4.1.1.1=r2.1.1.1)),()),())).bind fun r25=>some ((r25.1,r18.2))) else(((zih w) ((false,()),())).bind fun r26=>some ((r26.1,r18.2))))))) else(((zih w) ((false,()),())).bind fun r27=>some ((r27.1,r18.2))))))) else some (((1,()),r4.2)))))))) else(((zd0 w) (((),d.1.2.2.2.2.2),r2.2)).bind fun r28=>(bif (w.odec (d.1.2.2.2.1=1)) then(((zha w) ((d.1.2.1,r2.1.1,d.1.2.2.2.2.1,()),())).bind fun r29=>some ((r29.1,r28.2))) else(bif (w.odec (d.1.2.2.2.1=4)) then(((zig w) ((r2.1.1,8,()),())).bind fun r30=>(((zih w) r30).bind fun r31=>some ((r31.1,r28.2)))) else(bif (w.odec (d.1.2.2.2.1=2)) then(bif (w.odec (d.1.2.2.2.1=2)) then(((zep w) (((),d.1.2.2.2.2.2),r28.2)).bind fun r32=>(bif (!r32.1.1) then some (((6,()),r32.2)) else(bif (w.odec (d.1.2.2.2.1=2)) then(bif (w.odec (d.1.2.2.2.2.2.1=d.1.2.2.1)) then(((zih w) ((true,()),())).bind fun r33=>some ((r33.1,r32.2))) else(((zf1 w) ((d.1.2.1,r2.1.1,r28.1),())).bind fun r34=>(((zih w) r34).bind fun r35=>some ((r35.1,r32.2))))) else(bif (!w.odec (d.1.2.2.2.2.2.1=d.1.2.2.1)) then(((zig w) ((r2.1.1,8,()),())).bind fun r36=>(bif r36.1.1 then(((zih w) ((true,()),())).bind fun r37=>some ((r37.1,r32.2))) else(((zig w) ((r2.1.1,4,()),())).bind fun r38=>(bif r38.1.1 then(((zih w) (((w.odec (r28.1.1.1=r2.1.1.1)),()),())).bind fun r39=>some ((r39.1,r32.2))) else(((zih w) ((false,()),())).bind fun r40=>some ((r40.1,r32.2))))))) else(((zih w) ((false,()),())).bind fun r41=>some ((r41.1,r32.2))))))) else some (((1,()),r28.2))) else(bif (w.odec (d.1.2.2.2.1=3)) then(((zep w) (((),d.1.2.2.2.2.2),r28.2)).bind fun r42=>(bif (!r42.1.1) then some (((6,()),r42.2)) else(bif (w.odec (d.1.2.2.2.1=2)) then(bif (w.odec (d.1.2.2.2.2.2.1=d.1.2.2.1)) then(((zih w) ((true,()),())).bind fun r43=>some ((r43.1,r42.2))) else(((zf1 w) ((d.1.2.1,r2.1.1,r28.1),())).bind fun r44=>(((zih w) r44).bind fun r45=>some ((r45.1,r42.2))))) else(bif (!w.odec (d.1.2.2.2.2.2.1=d.1.2.2.1)) then(((zig w) ((r2.1.1,8,()),())).bind fun r46=>(bif r46.1.1 then(((zih w) ((true,()),())).bind fun r47=>some ((r47.1,r42.2))) else(((zig w) ((r2.1.1,4,()),())).bind fun r48=>(bif r48.1.1 then(((zih w) (((w.odec (r28.1.1.1=r2.1.1.1)),()),())).bind fun r49=>some ((r49.1,r42.2))) else(((zih w) ((false,()),())).bind fun r50=>some ((r50.1,r42.2))))))) else(((zih w) ((false,()),())).bind fun r51=>some ((r51.1,r42.2))))))) else some (((1,()),r28.2)))))))) else(((zd0 w) (((),d.1.2.2.2.2.2),r2.2)).bind fun r52=>(bif (w.odec (d.1.2.2.2.1=1)) then(((zha w) ((d.1.2.1,r2.1.1,d.1.2.2.2.2.1,()),())).bind fun r53=>some ((r53.1,r52.2))) else(bif (w.odec (d.1.2.2.2.1=4)) then(((zig w) ((r2.1.1,8,()),())).bind fun r54=>(((zih w) r54).bind fun r55=>some ((r55.1,r52.2)))) else(bif (w.odec (d.1.2.2.2.1=2)) then(bif (w.odec (d.1.2.2.2.1=2)) then(((zep w) (((),d.1.2.2.2.2.2),r52.2)).bind fun r56=>(bif (!r56.1.1) then some (((6,()),r56.2)) else(bif (w.odec (d.1.2.2.2.1=2)) then(bif (w.odec (d.1.2.2.2.2.2.1=d.1.2.2.1)) then(((zih w) ((true,()),())).bind fun r57=>some ((r57.1,r56.2))) else(((zf1 w) ((d.1.2.1,r2.1.1,r52.1),())).bind fun r58=>(((zih w) r58).bind fun r59=>some ((r59.1,r56.2))))) else(bif (!w.odec (d.1.2.2.2.2.2.1=d.1.2.2.1)) then(((zig w) ((r2.1.1,8,()),())).bind fun r60=>(bif r60.1.1 then(((zih w) ((true,()),())).bind fun r61=>some ((r61.1,r56.2))) else(((zig w) ((r2.1.1,4,()),())).bind fun r62=>(bif r62.1.1 then(((zih w) (((w.odec (r52.1.1.1=r2.1.1.1)),()),())).bind fun r63=>some ((r63.1,r56.2))) else(((zih w) ((false,()),())).bind fun r64=>some ((r64.1,r56.2))))))) else(((zih w) ((false,()),())).bind fun r65=>some ((r65.1,r56.2))))))) else some (((1,()),r52.2))) else(bif (w.odec (d.1.2.2.2.1=3)) then(((zep w) (((),d.1.2.2.2.2.2),r52.2)).bind fun r66=>(bif (!r66.1.1) then some (((6,()),r66.2)) else(bif (w.odec (d.1.2.2.2.1=2)) then(bif (w.odec (d.1.2.2.2.2.2.1=d.1.2.2.1)) then(((zih w) ((true,()),())).bind fun r67=>some ((r67.1,r66.2))) else(((zf1 w) ((d.1.2.1,r2.1.1,r52.1),())).bind fun r68=>(((zih w) r68).bind fun r69=>some ((r69.1,r66.2))))) else(bif (!w.odec (d.1.2.2.2.2.2.1=d.1.2.2.1)) then(((zig w) ((r2.1.1,8,()),())).bind fun r70=>(bif r70.1.1 then(((zih w) ((true,()),())).bind fun r71=>some ((r71.1,r66.2))) else(((zig w) ((r2.1.1,4,()),())).bind fun r72=>(bif r72.1.1 then(((zih w) (((w.odec (r52.1.1.1=r2.1.1.1)),()),())).bind fun r73=>some ((r73.1,r66.2))) else(((zih w) ((false,()),())).bind fun r74=>some ((r74.1,r66.2))))))) else(((zih w) ((false,()),())).bind fun r75=>some ((r75.1,r66.2))))))) else some (((1,()),r52.2))))))))) else none)))))
theorem zii.bod:bodyB f212=true:=by kernel_rfl
abbrev zii.env {α:Type}:Env α:=mE [(178,[⟨zep.S,(zep W0),none⟩]),(166,[⟨zd0.S,(zd0 W0),none⟩]),(235,[⟨zha.S,(zha W0),none⟩]),(237,[⟨zig.S,(zig W0),none⟩]),(236,[⟨zih.S,(zih W0),none⟩]),(238,[⟨zf1.S,(zf1 W0),none⟩])] []
theorem zii.ok (d:zii.D):fB prog zii.S zii.env f212 d=(zii W0) d:=by kernel_rfl
theorem zii.sok:FSpec.ok zii.S=true:=by kernel_rfl
theorem zii.con (base:Nat):fO prog base 212 zii.S (zii W0):=fC (fn:=f212) rfl (by decide) (by kernel_rfl) mixed (cC (cc0 zep.sok (zep.con base) cn) (cC (cc0 zd0.sok (zd0.con base) cn) (cC (cc0 zha.sok (zha.con base) cn) (cC (cc0 zig.sok (zig.con base) cn) (cC (cc0 zih.sok (zih.con base) cn) (cC (cc0 zf1.sok (zf1.con base) cn) cN)))))) lN zii.ok
abbrev k70:List (Nat×Pat):=[(0, .ptr 0),k138,k139,k142,k178]
abbrev zes.S:FSpec:=⟨⟨k70,k22⟩,[⟨k2,k22⟩],true⟩
abbrev zes.D:Type:=((Unit×Int×Int×Int×Int×Unit)×k211)
abbrev zes.R:Type:=(k231×k211)
def zes (w:W)(d:zes.D):Option zes.R:=(((zii w) (((),d.2.1.2.2.2.1,d.1.2),d.2.2.1,())).bind fun r1=>some ((r1.1,d.2.1,r1.2.1,d.2.2.2)))
theorem zes.bod:bodyB f185=true:=by kernel_rfl
abbrev zes.env {α:Type}:Env α:=mE [(212,[⟨zii.S,(zii W0),none⟩])] []
theorem zes.ok (d:zes.D):fB prog zes.S zes.env f185 d=(zes W0) d:=by kernel_rfl
theorem zes.sok:FSpec.ok zes.S=true:=by kernel_rfl
theorem zes.con (base:Nat):fO prog base 185 zes.S (zes W0):=fC (fn:=f185) rfl (by decide) (by kernel_rfl) mixed (cC (cc0 zii.sok (zii.con base) cn) cN) lN zes.ok
abbrev zge.S:FSpec:=⟨⟨k1,[]⟩,[⟨k12,[]⟩],true⟩
abbrev zge.D:Type:=((Int×Int×Int×Unit)×(Unit))
abbrev zge.R:Type:=k248
def zge (w:W)(d:zge.D):Option zge.R:=(bif (w.odec (d.1.1≥d.1.2.1)) then some ((((w.odec (d.1.1≤d.1.2.2.1)),()),())) else some (((false,()),())))
theorem zge.bod:bodyB f244=true:=by kernel_rfl
abbrev zge.env {α:Type}:Env α:=mE [] []
theorem zge.ok (d:zge.D):fB prog zge.S zge.env f244 d=(zge W0) d:=by kernel_rfl
theorem zge.sok:FSpec.ok zge.S=true:=by kernel_rfl
theorem zge.con (base:Nat):fO prog base 244 zge.S (zge W0):=fC (fn:=f244) rfl (by decide) (by kernel_rfl) mixed cN lN zge.ok
abbrev k71:List (Nat×Pat):=[(0, .hole ty3)]
abbrev zhb.S:FSpec:=⟨⟨k71,[]⟩,[⟨k2,[]⟩],true⟩
abbrev zhb.D:Type:=((De3×Unit)×(Unit))
abbrev zhb.R:Type:=k263
def zhb (w:W)(d:zhb.D):Option zhb.R:=(((zge w) ((d.1.1.2.2.2.2.2.1,1,1048576,()),())).bind fun r1=>(bif (w.odec (d.1.1.2.2.2.2.1=2)) then(bif (w.odec (d.1.1.2.2.2.2.2.2.2.1=0)) then(((zge w) ((d.1.1.1,0,31,()),())).bind fun r2=>(bif r2.1.1 then(((zge w) ((d.1.1.2.2.1,0,7,()),())).bind fun r3=>(bif r3.1.1 then(((zge w) ((d.1.1.2.1,0,1073741824,()),())).bind fun r4=>(((zge w) ((d.1.1.2.2.2.1,1,2,()),())).bind fun r5=>(bif r5.1.1 then(((zge w) ((d.1.1.2.2.2.2.1,1,5,()),())).bind fun r6=>(bif r6.1.1 then(((zge w) ((d.1.1.2.2.2.2.2.2.1,1,1048576,()),())).bind fun r7=>(bif (!(w.odec (d.1.1.2.2.2.2.2.1=0))) then some (((1,()),())) else(bif (!r4.1.1) then some (((1,()),())) else(bif (!r7.1.1) then some (((1,()),())) else(((zge w) ((d.1.1.2.2.2.2.2.2.2.1,0,d.1.1.2.2.2.2.2.2.1,()),())).bind fun r8=>(bif (!r8.1.1) then some (((1,()),())) else(((zge w) ((d.1.1.2.2.2.2.2.2.2.2.1,0,1048576,()),())).bind fun r9=>(bif (!r9.1.1) then some (((1,()),())) else some (((0,()),())))))))))) else(bif (!(w.odec (d.1.1.2.2.2.2.2.1=0))) then some (((1,()),())) else(bif (!r4.1.1) then some (((1,()),())) else some (((1,()),())))))) else(bif (!(w.odec (d.1.1.2.2.2.2.2.1=0))) then some (((1,()),())) else(bif (!r4.1.1) then some (((1,()),())) else some (((1,()),()))))))) else(((zge w) ((d.1.1.2.2.2.1,1,2,()),())).bind fun r10=>(bif r10.1.1 then(((zge w) ((d.1.1.2.2.2.2.1,1,5,()),())).bind fun r11=>(bif r11.1.1 then(((zge w) ((d.1.1.2.2.2.2.2.2.1,1,1048576,()),())).bind fun r12=>(bif (!(w.odec (d.1.1.2.2.2.2.2.1=0))) then some (((1,()),())) else some (((1,()),())))) else(bif (!(w.odec (d.1.1.2.2.2.2.2.1=0))) then some (((1,()),())) else some (((1,()),()))))) else(bif (!(w.odec (d.1.1.2.2.2.2.2.1=0))) then some (((1,()),())) else some (((1,()),()))))))) else(((zge w) ((d.1.1.2.2.2.1,1,2,()),())).bind fun r13=>(bif r13.1.1 then(((zge w) ((d.1.1.2.2.2.2.1,1,5,()),())).bind fun r14=>(bif r14.1.1 then(((zge w) ((d.1.1.2.2.2.2.2.2.1,1,1048576,()),())).bind fun r15=>(bif (!(w.odec (d.1.1.2.2.2.2.2.1=0))) then some (((1,()),())) else some (((1,()),())))) else(bif (!(w.odec (d.1.1.2.2.2.2.2.1=0))) then some (((1,()),())) else some (((1,()),()))))) else(bif (!(w.odec (d.1.1.2.2.2.2.2.1=0))) then some (((1,()),())) else some (((1,()),()))))))) else(bif (w.odec (d.1.1.2.2.2.2.1=1)) then(((zge w) ((d.1.1.1,0,31,()),())).bind fun r16=>(bif r16.1.1 then(((zge w) ((d.1.1.2.2.1,0,7,()),())).bind fun r17=>(bif r17.1.1 then(((zge w) ((d.1.1.2.1,0,1073741824,()),())).bind fun r18=>(((zge w) ((d.1.1.2.2.2.1,1,2,()),())).bind fun r19=>(bif r19.1.1 then(((zge w) ((d.1.1.2.2.2.2.1,1,5,()),())).bind fun r20=>(bif r20.1.1 then(((zge w) ((d.1.1.2.2.2.2.2.2.1,1,1048576,()),())).bind fun r21=>(bif (!(w.odec (d.1.1.2.2.2.2.2.1=0))) then some (((1,()),())) else(bif (!r18.1.1) then some (((1,()),())) else(bif (!r21.1.1) then some (((1,()),())) else(((zge w) ((d.1.1.2.2.2.2.2.2.2.1,0,d.1.1.2.2.2.2.2.2.1,()),())).bind fun r22=>(bif (!r22.1.1) then some (((1,()),())) else(((zge w) ((d.1.1.2.2.2.2.2.2.2.2.1,0,1048576,()),())).bind fun r23=>(bif (!r23.1.1) then some (((1,()),())) else some (((0,()),())))))))))) else(bif (!(w.odec (d.1.1.2.2.2.2.2.1=0))) then some (((1,()),())) else(bif (!r18.1.1) then some (((1,()),())) else some (((1,()),())))))) else(bif (!(w.odec (d.1.1.2.2.2.2.2.1=0))) then some (((1,()),())) else(bif (!r18.1.1) then some (((1,()),())) else some (((1,()),()))))))) else(((zge w) ((d.1.1.2.2.2.1,1,2,()),())).bind fun r24=>(bif r24.1.1 then(((zge w) ((d.1.1.2.2.2.2.1,1,5,()),())).bind fun r25=>(bif r25.1.1 then(((zge w) ((d.1.1.2.2.2.2.2.2.1,1,1048576,()),())).bind fun r26=>(bif (!(w.odec (d.1.1.2.2.2.2.2.1=0))) then some (((1,()),())) else some (((1,()),())))) else(bif (!(w.odec (d.1.1.2.2.2.2.2.1=0))) then some (((1,()),())) else some (((1,()),()))))) else(bif (!(w.odec (d.1.1.2.2.2.2.2.1=0))) then some (((1,()),())) else some (((1,()),()))))))) else(((zge w) ((d.1.1.2.2.2.1,1,2,()),())).bind fun r27=>(bif r27.1.1 then(((zge w) ((d.1.1.2.2.2.2.1,1,5,()),())).bind fun r28=>(bif r28.1.1 then(((zge w) ((d.1.1.2.2.2.2.2.2.1,1,1048576,()),())).bind fun r29=>(bif (!(w.odec (d.1.1.2.2.2.2.2.1=0))) then some (((1,()),())) else some (((1,()),())))) else(bif (!(w.odec (d.1.1.2.2.2.2.2.1=0))) then some (((1,()),())) else some (((1,()),()))))) else(bif (!(w.odec (d.1.1.2.2.2.2.2.1=0))) then some (((1,()),())) else some (((1,()),()))))))) else(((zge w) ((d.1.1.1,0,31,()),())).bind fun r30=>(bif r30.1.1 then(((zge w) ((d.1.1.2.2.1,0,7,()),())).bind fun r31=>(bif r31.1.1 then(((zge w) ((d.1.1.2.1,0,1073741824,()),())).bind fun r32=>(((zge w) ((d.1.1.2.2.2.1,1,2,()),())).bind fun r33=>(bif r33.1.1 then(((zge w) ((d.1.1.2.2.2.2.1,1,5,()),())).bind fun r34=>(bif r34.1.1 then(((zge w) ((d.1.1.2.2.2.2.2.2.1,1,1048576,()),())).bind fun r35=>(bif (!(w.odec (d.1.1.2.2.2.2.2.1=0))) then some (((1,()),())) else(bif (!(w.odec (d.1.1.2.2.2.2.1=5))) then some (((1,()),())) else(bif (!r32.1.1) then some (((1,()),())) else(bif (!r35.1.1) then some (((1,()),())) else(((zge w) ((d.1.1.2.2.2.2.2.2.2.1,0,d.1.1.2.2.2.2.2.2.1,()),())).bind fun r36=>(bif (!r36.1.1) then some (((1,()),())) else(((zge w) ((d.1.1.2.2.2.2.2.2.2.2.1,0,1048576,()),())).bind fun r37=>(bif (!r37.1.1) then some (((1,()),())) else some (((0,()),()))))))))))) else(bif (!(w.odec (d.1.1.2.2.2.2.2.1=0))) then some (((1,()),())) else(bif (!(w.odec (d.1.1.2.2.2.2.1=5))) then some (((1,()),())) else(bif (!r32.1.1) then some (((1,()),())) else some (((1,()),()))))))) else(bif (!(w.odec (d.1.1.2.2.2.2.2.1=0))) then some (((1,()),())) else(bif (!(w.odec (d.1.1.2.2.2.2.1=5))) then some (((1,()),())) else(bif (!r32.1.1) then some (((1,()),())) else some (((1,()),())))))))) else(((zge w) ((d.1.1.2.2.2.1,1,2,()),())).bind fun r38=>(bif r38.1.1 then(((zge w) ((d.1.1.2.2.2.2.1,1,5,()),())).bind fun r39=>(bif r39.1.1 then(((zge w) ((d.1.1.2.2.2.2.2.2.1,1,1048576,()),())).bind fun r40=>(bif (!(w.odec (d.1.1.2.2.2.2.2.1=0))) then some (((1,()),())) else(bif (!(w.odec (d.1.1.2.2.2.2.1=5))) then some (((1,()),())) else some (((1,()),()))))) else(bif (!(w.odec (d.1.1.2.2.2.2.2.1=0))) then some (((1,()),())) else(bif (!(w.odec (d.1.1.2.2.2.2.1=5))) then some (((1,()),())) else some (((1,()),())))))) else(bif (!(w.odec (d.1.1.2.2.2.2.2.1=0))) then some (((1,()),())) else(bif (!(w.odec (d.1.1.2.2.2.2.1=5))) then some (((1,()),())) else some (((1,()),())))))))) else(((zge w) ((d.1.1.2.2.2.1,1,2,()),())).bind fun r41=>(bif r41.1.1 then(((zge w) ((d.1.1.2.2.2.2.1,1,5,()),())).bind fun r42=>(bif r42.1.1 then(((zge w) ((d.1.1.2.2.2.2.2.2.1,1,1048576,()),())).bind fun r43=>(bif (!(w.odec (d.1.1.2.2.2.2.2.1=0))) then some (((1,()),())) else(bif (!(w.odec (d.1.1.2.2.2.2.1=5))) then some (((1,()),())) else some (((1,()),()))))) else(bif (!(w.odec (d.1.1.2.2.2.2.2.1=0))) then some (((1,()),())) else(bif (!(w.odec (d.1.1.2.2.2.2.1=5))) then some (((1,()),())) else some (((1,()),())))))) else(bif (!(w.odec (d.1.1.2.2.2.2.2.1=0))) then some (((1,()),())) else(bif (!(w.odec (d.1.1.2.2.2.2.1=5))) then some (((1,()),())) else some (((1,()),())))))))))) else(bif (w.odec (d.1.1.2.2.2.2.2.2.2.1=0)) then(((zge w) ((d.1.1.1,0,31,()),())).bind fun r44=>(bif r44.1.1 then(((zge w) ((d.1.1.2.2.1,0,7,()),())).bind fun r45=>(bif r45.1.1 then(((zge w) ((d.1.1.2.1,0,1073741824,()),())).bind fun r46=>(((zge w) ((d.1.1.2.2.2.1,1,2,()),())).bind fun r47=>(bif r47.1.1 then(((zge w) ((d.1.1.2.2.2.2.1,1,5,()),())).bind fun r48=>(bif r48.1.1 then(((zge w) ((d.1.1.2.2.2.2.2.2.1,1,1048576,()),())).bind fun r49=>(bif (!r1.1.1) then some (((1,()),())) else(bif (!r46.1.1) then some (((1,()),())) else(bif (!r49.1.1) then some (((1,()),())) else(((zge w) ((d.1.1.2.2.2.2.2.2.2.1,0,d.1.1.2.2.2.2.2.2.1,()),())).bind fun r50=>(bif (!r50.1.1) then some (((1,()),())) else(((zge w) ((d.1.1.2.2.2.2.2.2.2.2.1,0,1048576,()),())).bind fun r51=>(bif (!r51.1.1) then some (((1,()),())) else some (((0,()),())))))))))) else(bif (!r1.1.1) then some (((1,()),())) else(bif (!r46.1.1) then some (((1,()),())) else some (((1,()),())))))) else(bif (!r1.1.1) then some (((1,()),())) else(bif (!r46.1.1) then some (((1,()),())) else some (((1,()),()))))))) else(((zge w) ((d.1.1.2.2.2.1,1,2,()),())).bind fun r52=>(bif r52.1.1 then(((zge w) ((d.1.1.2.2.2.2.1,1,5,()),())).bind fun r53=>(bif r53.1.1 then(((zge w) ((d.1.1.2.2.2.2.2.2.1,1,1048576,()),())).bind fun r54=>(bif (!r1.1.1) then some (((1,()),())) else some (((1,()),())))) else(bif (!r1.1.1) then some (((1,()),())) else some (((1,()),()))))) else(bif (!r1.1.1) then some (((1,()),())) else some (((1,()),()))))))) else(((zge w) ((d.1.1.2.2.2.1,1,2,()),())).bind fun r55=>(bif r55.1.1 then(((zge w) ((d.1.1.2.2.2.2.1,1,5,()),())).bind fun r56=>(bif r56.1.1 then(((zge w) ((d.1.1.2.2.2.2.2.2.1,1,1048576,()),())).bind fun r57=>(bif (!r1.1.1) then some (((1,()),())) else some (((1,()),())))) else(bif (!r1.1.1) then some (((1,()),())) else some (((1,()),()))))) else(bif (!r1.1.1) then some (((1,()),())) else some (((1,()),()))))))) else(bif (w.odec (d.1.1.2.2.2.2.1=1)) then(((zge w) ((d.1.1.1,0,31,()),())).bind fun r58=>(bif r58.1.1 then(((zge w) ((d.1.1.2.2.1,0,7,()),())).bind fun r59=>(bif r59.1.1 then(((zge w) ((d.1.1.2.1,0,1073741824,()),())).bind fun r60=>(((zge w) ((d.1.1.2.2.2.1,1,2,()),())).bind fun r61=>(bif r61.1.1 then(((zge w) ((d.1.1.2.2.2.2.1,1,5,()),())).bind fun r62=>(bif r62.1.1 then(((zge w) ((d.1.1.2.2.2.2.2.2.1,1,1048576,()),())).bind fun r63=>(bif (!r1.1.1) then some (((1,()),())) else(bif (!r60.1.1) then some (((1,()),())) else(bif (!r63.1.1) then some (((1,()),())) else(((zge w) ((d.1.1.2.2.2.2.2.2.2.1,0,d.1.1.2.2.2.2.2.2.1,()),())).bind fun r64=>(bif (!r64.1.1) then some (((1,()),())) else(((zge w) ((d.1.1.2.2.2.2.2.2.2.2.1,0,1048576,()),())).bind fun r65=>(bif (!r65.1.1) then some (((1,()),())) else some (((0,()),())))))))))) else(bif (!r1.1.1) then some (((1,()),())) else(bif (!r60.1.1) then some (((1,()),())) else some (((1,()),())))))) else(bif (!r1.1.1) then some (((1,()),())) else(bif (!r60.1.1) then some (((1,()),())) else some (((1,()),()))))))) else(((zge w) ((d.1.1.2.2.2.1,1,2,()),())).bind fun r66=>(bif r66.1.1 then(((zge w) ((d.1.1.2.2.2.2.1,1,5,()),())).bind fun r67=>(bif r67.1.1 then(((zge w) ((d.1.1.2.2.2.2.2.2.1,1,1048576,()),())).bind fun r68=>(bif (!r1.1.1) then some (((1,()),())) else some (((1,()),())))) else(bif (!r1.1.1) then some (((1,()),())) else some (((1,()),()))))) else(bif (!r1.1.1) then some (((1,()),())) else some (((1,()),()))))))) else(((zge w) ((d.1.1.2.2.2.1,1,2,()),())).bind fun r69=>(bif r69.1.1 then(((zge w) ((d.1.1.2.2.2.2.1,1,5,()),())).bind fun r70=>(bif r70.1.1 then(((zge w) ((d.1.1.2.2.2.2.2.2.1,1,1048576,()),())).bind fun r71=>(bif (!r1.1.1) then some (((1,()),())) else some (((1,()),())))) else(bif (!r1.1.1) then some (((1,()),())) else some (((1,()),()))))) else(bif (!r1.1.1) then some (((1,()),())) else some (((1,()),()))))))) else(((zge w) ((d.1.1.1,0,31,()),())).bind fun r72=>(bif r72.1.1 then(((zge w) ((d.1.1.2.2.1,0,7,()),())).bind fun r73=>(bif r73.1.1 then(((zge w) ((d.1.1.2.1,0,1073741824,()),())).bind fun r74=>(((zge w) ((d.1.1.2.2.2.1,1,2,()),())).bind fun r75=>(bif r75.1.1 then(((zge w) ((d.1.1.2.2.2.2.1,1,5,()),())).bind fun r76=>(bif r76.1.1 then(((zge w) ((d.1.1.2.2.2.2.2.2.1,1,1048576,()),())).bind fun r77=>(bif (!r1.1.1) then some (((1,()),())) else(bif (!(w.odec (d.1.1.2.2.2.2.1=5))) then some (((1,()),())) else(bif (!r74.1.1) then some (((1,()),())) else(bif (!r77.1.1) then some (((1,()),())) else(((zge w) ((d.1.1.2.2.2.2.2.2.2.1,0,d.1.1.2.2.2.2.2.2.1,()),())).bind fun r78=>(bif (!r78.1.1) then some (((1,()),())) else(((zge w) ((d.1.1.2.2.2.2.2.2.2.2.1,0,1048576,()),())).bind fun r79=>(bif (!r79.1.1) then some (((1,()),())) else some (((0,()),()))))))))))) else(bif (!r1.1.1) then some (((1,()),())) else(bif (!(w.odec (d.1.1.2.2.2.2.1=5))) then some (((1,()),())) else(bif (!r74.1.1) then some (((1,()),())) else some (((1,()),()))))))) else(bif (!r1.1.1) then some (((1,()),())) else(bif (!(w.odec (d.1.1.2.2.2.2.1=5))) then some (((1,()),())) else(bif (!r74.1.1) then some (((1,()),())) else some (((1,()),())))))))) else(((zge w) ((d.1.1.2.2.2.1,1,2,()),())).bind fun r80=>(bif r80.1.1 then(((zge w) ((d.1.1.2.2.2.2.1,1,5,()),())).bind fun r81=>(bif r81.1.1 then(((zge w) ((d.1.1.2.2.2.2.2.2.1,1,1048576,()),())).bind fun r82=>(bif (!r1.1.1) then some (((1,()),())) else(bif (!(w.odec (d.1.1.2.2.2.2.1=5))) then some (((1,()),())) else some (((1,()),()))))) else(bif (!r1.1.1) then some (((1,()),())) else(bif (!(w.odec (d.1.1.2.2.2.2.1=5))) then some (((1,()),())) else some (((1,()),())))))) else(bif (!r1.1.1) then some (((1,()),())) else(bif (!(w.odec (d.1.1.2.2.2.2.1=5))) then some (((1,()),())) else some (((1,()),())))))))) else(((zge w) ((d.1.1.2.2.2.1,1,2,()),())).bind fun r83=>(bif r83.1.1 then(((zge w) ((d.1.1.2.2.2.2.1,1,5,()),())).bind fun r84=>(bif r84.1.1 then(((zge w) ((d.1.1.2.2.2.2.2.2.1,1,1048576,()),())).bind fun r85=>(bif (!r1.1.1) then some (((1,()),())) else(bif (!(w.odec (d.1.1.2.2.2.2.1=5))) then some (((1,()),())) else some (((1,()),()))))) else(bif (!r1.1.1) then some (((1,()),())) else(bif (!(w.odec (d.1.1.2.2.2.2.1=5))) then some (((1,()),())) else some (((1,()),())))))) else(bif (!r1.1.1) then some (((1,()),())) else(bif (!(w.odec (d.1.1.2.2.2.2.1=5))) then some (((1,()),())) else some (((1,()),()))))))))))))
theorem zhb.bod:bodyB f225=true:=by kernel_rfl
abbrev zhb.env {α:Type}:Env α:=mE [(244,[⟨zge.S,(zge W0),none⟩])] []
theorem zhb.ok (d:zhb.D):fB prog zhb.S zhb.env f225 d=(zhb W0) d:=by kernel_rfl
theorem zhb.sok:FSpec.ok zhb.S=true:=by kernel_rfl
theorem zhb.con (base:Nat):fO prog base 225 zhb.S (zhb W0):=fC (fn:=f225) rfl (by decide) (by kernel_rfl) mixed (cC (cc0 zge.sok (zge.con base) cn) cN) lN zhb.ok
abbrev zh0.S:FSpec:=⟨⟨k11,[]⟩,[⟨k11,[]⟩],true⟩
abbrev zh0.D:Type:=k284
abbrev zh0.R:Type:=k284
def zh0 (w:W)(d:zh0.D):Option zh0.R:=(bif (w.odec (d.1.1<0)) then some (((0,1,()),())) else(bif (w.odec (d.1.2.1<0)) then some (((0,1,()),())) else(bif (w.odec (d.1.2.1>0)) then(bif w.odec (d.1.2.1=0) then none else(bif (w.odec (d.1.1>(w.wr .i64 (Int.tdiv 9223372036854775807 d.1.2.1)))) then some (((0,3,()),())) else some ((((w.wr .i64 (d.1.1*d.1.2.1)),0,()),())))) else some ((((w.wr .i64 (d.1.1*d.1.2.1)),0,()),())))))
theorem zh0.bod:bodyB f245=true:=by kernel_rfl
abbrev zh0.env {α:Type}:Env α:=mE [] []
theorem zh0.ok (d:zh0.D):fB prog zh0.S zh0.env f245 d=(zh0 W0) d:=by kernel_rfl
theorem zh0.sok:FSpec.ok zh0.S=true:=by kernel_rfl
theorem zh0.con (base:Nat):fO prog base 245 zh0.S (zh0 W0):=fC (fn:=f245) rfl (by decide) (by kernel_rfl) mixed cN lN zh0.ok
abbrev zhc.S:FSpec:=⟨⟨k71,[]⟩,[⟨k11,[]⟩],true⟩
abbrev zhc.D:Type:=((De3×Unit)×(Unit))
abbrev zhc.R:Type:=k284
def zhc (w:W)(d:zhc.D):Option zhc.R:=(((zh0 w) ((d.1.1.2.2.2.2.2.1,d.1.1.2.2.2.2.2.2.1,()),())).bind fun r1=>some (r1))
theorem zhc.bod:bodyB f226=true:=by kernel_rfl
abbrev zhc.env {α:Type}:Env α:=mE [(245,[⟨zh0.S,(zh0 W0),none⟩])] []
theorem zhc.ok (d:zhc.D):fB prog zhc.S zhc.env f226 d=(zhc W0) d:=by kernel_rfl
theorem zhc.sok:FSpec.ok zhc.S=true:=by kernel_rfl
theorem zhc.con (base:Nat):fO prog base 226 zhc.S (zhc W0):=fC (fn:=f226) rfl (by decide) (by kernel_rfl) mixed (cC (cc0 zh0.sok (zh0.con base) cn) cN) lN zhc.ok
abbrev zcp.S:LSpec:=⟨⟨[(0, .ptr 0),k138,k140,k141],k64⟩,[⟨k63,k64⟩],[(.exit 0)],f29.ntmps⟩
abbrev zcp.D:Type:=(k212×k262)
abbrev zcp.R:Type:=(k231×k262)
def zcp (w:W)(d:zcp.D):Option (zcp.D⊕zcp.R):=(bif (w.odec (d.1.2.2.2.1<8)) then(((zc7 w) (((),d.1.2.1,d.1.2.2.2),d.2)).bind fun r1=>some (.inl (((),d.1.2.1,(w.wr .i64 (d.1.2.2.1+r1.1.1)),(w.wr .i64 (d.1.2.2.2.1+1)),()),r1.2))) else some (.inr ((d.1.2.2.1,()),d.2)))
abbrev zet.S:FSpec:=⟨⟨k23,k64⟩,[⟨k2,k64⟩],true⟩
abbrev zet.D:Type:=(k225×k262)
abbrev zet.R:Type:=(k231×k262)
def zet (w:W)(d:zet.D):Option zet.R:=((w.loopFix (L:=zcp.D) (zcp w) (((),d.1.2.1,0,0,()),d.2)).bind fun r2=>some (r2))
theorem zet.bod:bodyB f29=true:=by kernel_rfl
abbrev zcp.env {α:Type}:Env α:=mE [(27,[⟨zc7.S,(zc7 W0),none⟩])] []
theorem zcp.ok (d:zcp.D):lB prog zcp.S zcp.env f29 3 d=(zcp W0) d:=by kernel_rfl
theorem zcp.sok:LSpec.ok zcp.S=true:=by kernel_rfl
theorem zcp.con (base:Nat):rO prog base f29 3 zcp.S (zcp W0):=lK zcp.sok zet.bod mixed (cC (cc0 zc7.sok (zc7.con base) cn) cN) lN zcp.ok
abbrev zet.env {α:Type}:Env α:=mE [] [(3,[⟨zcp.S,(zcp W0)⟩])]
theorem zet.ok (d:zet.D):fB prog zet.S zet.env f29 d=(zet W0) d:=by kernel_rfl
theorem zet.sok:FSpec.ok zet.S=true:=by kernel_rfl
theorem zet.con (base:Nat):fO prog base 29 zet.S (zet W0):=fC (fn:=f29) rfl (by decide) (by kernel_rfl) mixed cN (lC (lc zcp.sok (zcp.con base) ln) lN) zet.ok
abbrev zff.S:FSpec:=⟨⟨k57,k64⟩,[⟨k2,k64⟩],true⟩
abbrev zff.D:Type:=(k226×k262)
abbrev zff.R:Type:=(k231×k262)
def zff (w:W)(d:zff.D):Option zff.R:=(((zhz w) (d.1.2,())).bind fun r1=>(bif (!r1.1.1) then some (((0,()),d.2)) else(bif w.odec (0≤d.1.2.1∧d.1.2.1<(32:Nat)) then(bif w.odec (0≤d.1.2.2.1∧d.1.2.2.1<(8:Nat)) then((d.2.1.2.1[d.1.2.1.toNat]?).bind fun x2=>((x2[d.1.2.2.1.toNat]?).bind fun x3=>some (((x3,()),d.2)))) else none) else none)))
theorem zff.bod:bodyB f25=true:=by kernel_rfl
abbrev zff.env {α:Type}:Env α:=mE [(63,[⟨zhz.S,(zhz W0),none⟩])] []
theorem zff.ok (d:zff.D):fB prog zff.S zff.env f25 d=(zff W0) d:=by kernel_rfl
theorem zff.sok:FSpec.ok zff.S=true:=by kernel_rfl
theorem zff.con (base:Nat):fO prog base 25 zff.S (zff W0):=fC (fn:=f25) rfl (by decide) (by kernel_rfl) mixed (cC (cc0 zhz.sok (zhz.con base) cn) cN) lN zff.ok
abbrev zh1.S:FSpec:=⟨⟨[(0, .ptr 0),(1, .hole ty0),(2, .hole ty3),k142],k64⟩,[⟨k2,k64⟩],true⟩
abbrev zh1.D:Type:=((Unit×De0×De3×Int×Unit)×k262)
abbrev zh1.R:Type:=(k231×k262)
def zh1 (w:W)(d:zh1.D):Option zh1.R:=(((zhb w) ((d.1.2.2.1,()),())).bind fun r1=>(bif (!w.odec (r1.1.1=0)) then some (((1,()),d.2)) else(bif (w.odec (d.1.2.2.2.1<0)) then some (((1,()),d.2)) else(bif (w.odec (d.1.2.2.2.1≥8)) then some (((1,()),d.2)) else(((zhc w) ((d.1.2.2.1,()),())).bind fun r2=>(bif (w.odec (d.1.2.2.1.2.2.2.2.2.2.1>d.1.2.1.1)) then some (((8,()),d.2)) else(bif (!w.odec (r2.1.2.1=0)) then some (((8,()),d.2)) else(bif (w.odec (r2.1.1>d.1.2.1.2.1)) then some (((8,()),d.2)) else(((zet w) (((),d.1.2.2.1.1,()),d.2)).bind fun r3=>(bif (w.odec ((w.wr .i64 (r3.1.1+d.1.2.2.1.2.2.2.2.2.2.1))>d.1.2.1.2.2.1)) then some (((8,()),r3.2)) else(((zff w) (((),d.1.2.2.1.1,d.1.2.2.2),r3.2)).bind fun r4=>(((zc7 w) (((),d.1.2.2.1.1,d.1.2.2.2),r4.2)).bind fun r5=>(bif (w.odec (d.1.2.2.1.2.2.2.1=1)) then(bif (w.odec ((w.wr .i64 (r4.1.1+(w.wr .i64 (r5.1.1+d.1.2.2.1.2.2.2.2.2.2.1))))>d.1.2.1.2.2.2.1)) then some (((8,()),r5.2)) else(bif (w.odec (d.1.2.2.1.2.2.2.1=2)) then(bif (w.odec ((w.wr .i64 ((w.wr .i64 (r5.1.1+d.1.2.2.1.2.2.2.2.2.2.1))-r4.1.1))>d.1.2.1.2.2.2.1)) then some (((8,()),r5.2)) else some (((0,()),r5.2))) else some (((0,()),r5.2)))) else(bif (w.odec (d.1.2.2.1.2.2.2.1=2)) then(bif (w.odec ((w.wr .i64 ((w.wr .i64 (r5.1.1+d.1.2.2.1.2.2.2.2.2.2.1))-r4.1.1))>d.1.2.1.2.2.2.1)) then some (((8,()),r5.2)) else some (((0,()),r5.2))) else some (((0,()),r5.2))))))))))))))))
theorem zh1.bod:bodyB f206=true:=by kernel_rfl
abbrev zh1.env {α:Type}:Env α:=mE [(225,[⟨zhb.S,(zhb W0),none⟩]),(226,[⟨zhc.S,(zhc W0),none⟩]),(29,[⟨zet.S,(zet W0),none⟩]),(25,[⟨zff.S,(zff W0),none⟩]),(27,[⟨zc7.S,(zc7 W0),none⟩])] []
theorem zh1.ok (d:zh1.D):fB prog zh1.S zh1.env f206 d=(zh1 W0) d:=by kernel_rfl
theorem zh1.sok:FSpec.ok zh1.S=true:=by kernel_rfl
theorem zh1.con (base:Nat):fO prog base 206 zh1.S (zh1 W0):=fC (fn:=f206) rfl (by decide) (by kernel_rfl) mixed (cC (cc0 zhb.sok (zhb.con base) cn) (cC (cc0 zhc.sok (zhc.con base) cn) (cC (cc0 zet.sok (zet.con base) cn) (cC (cc0 zff.sok (zff.con base) cn) (cC (cc0 zc7.sok (zc7.con base) cn) cN))))) lN zh1.ok
abbrev zfg.S:FSpec:=⟨⟨k57,k38⟩,[⟨k61,k39⟩],true⟩
abbrev zfg.D:Type:=(k226×k214)
abbrev zfg.R:Type:=((De3×Bool×Unit)×k214)
def zfg (w:W)(d:zfg.D):Option zfg.R:=(((zfc w) d).bind fun r1=>(match r1 with| .inl r2=>some (((r2.1.2.2.1,true,()),r2.2))| .inr r3=>(match r3 with| .inl r4=>some (((r4.1.2.2.1,true,()),r4.2))| .inr r5=>some (((r5.1.2.2.1,false,()),r5.2)))))
theorem zfg.bod:bodyB f231=true:=by kernel_rfl
abbrev zfg.env {α:Type}:Env α:=mE [(239,[⟨zfc.S,(zfc W0),none⟩])] []
theorem zfg.ok (d:zfg.D):fB prog zfg.S zfg.env f231 d=(zfg W0) d:=by kernel_rfl
theorem zfg.sok:FSpec.ok zfg.S=true:=by kernel_rfl
theorem zfg.con (base:Nat):fO prog base 231 zfg.S (zfg W0):=fC (fn:=f231) rfl (by decide) (by kernel_rfl) mixed (cC (cc0 zfc.sok (zfc.con base) cn) cN) lN zfg.ok
abbrev zda.S:FSpec:=⟨⟨k57,k50⟩,[⟨k61,k51⟩],true⟩
abbrev zda.D:Type:=(k226×k218)
abbrev zda.R:Type:=((De3×Bool×Unit)×k220)
def zda (w:W)(d:zda.D):Option zda.R:=(((zfg w) (d.1,d.2.2.1,d.2.2.2.1,d.2.2.2.2.1,d.2.2.2.2.2.2)).bind fun r1=>(bif r1.1.2.1 then some (((r1.1.1,true,()),((),(),()),r1.2.1,d.2.2.2.2.2.1,r1.2.2)) else(((zcm w) (d.1,((),(),()),r1.2.1,r1.2.2.1,r1.2.2.2.1,d.2.2.2.2.2.1,r1.2.2.2.2)).bind fun r2=>(bif (w.odec (r2.1.1≥0)) then(bif w.odec (0≤r2.1.1∧r2.1.1<(r2.2.2.2.1.length:Int)) then((r2.2.2.2.1[r2.1.1.toNat]?).bind fun x3=>some (((x3,true,()),r2.2))) else none) else some ((((0,0,0,0,0,0,0,0,0,()),false,()),r2.2))))))
theorem zda.bod:bodyB f209=true:=by kernel_rfl
abbrev zda.env {α:Type}:Env α:=mE [(231,[⟨zfg.S,(zfg W0),none⟩]),(214,[⟨zcm.S,(zcm W0),none⟩])] []
theorem zda.ok (d:zda.D):fB prog zda.S zda.env f209 d=(zda W0) d:=by kernel_rfl
theorem zda.sok:FSpec.ok zda.S=true:=by kernel_rfl
theorem zda.con (base:Nat):fO prog base 209 zda.S (zda W0):=fC (fn:=f209) rfl (by decide) (by kernel_rfl) mixed (cC (cc0 zfg.sok (zfg.con base) cn) (cC (cc0 zcm.sok (zcm.con base) cn) cN)) lN zda.ok
abbrev k72:List (Nat×Pat):=[(0, .ptr 0),k142,(11, .agg [.own 50, .own 51]),k157]
abbrev zd1.S:LSpec:=⟨⟨[(0, .ptr 0),k142,(11, .agg [.own 1, .own 2]),k157,(15, .own 1),(16, .hole (.int .i64)),k163],k38⟩,[⟨k72,k39⟩],[(.exit 2)],f69.ntmps⟩
abbrev zd1.D:Type:=((Unit×Int×k228×Int×Unit×Int×Int×Unit)×k214)
abbrev k291:Type:=((Unit×Int×k228×Int×Unit)×k214)
abbrev zd1.R:Type:=k291
def zd1 (w:W)(d:zd1.D):Option (zd1.D⊕zd1.R):=(bif (w.odec (d.1.2.2.2.2.2.2.1<d.1.2.2.2.2.2.1)) then(bif w.odec (0≤d.1.2.2.2.2.2.2.1∧d.1.2.2.2.2.2.2.1<(d.2.2.1.length:Int)) then((d.2.2.1[d.1.2.2.2.2.2.2.1.toNat]?).bind fun x2=>(onS x2 fun n3=>((d.2.2.2.2.1[n3]?).bind fun e4=>(((zer w) (((),()),e4)).bind fun r5=>some (.inl (((),(w.wr .i64 (d.1.2.1+r5.1.1)),((),(),()),d.1.2.2.2.1,(),d.1.2.2.2.2.2.1,(w.wr .i64 (d.1.2.2.2.2.2.2.1+1)),()),d.2.1,d.2.2.1,d.2.2.2.1,(d.2.2.2.2.1.set n3 r5.2),())))))) else none) else some (.inr (((),d.1.2.1,((),(),()),d.1.2.2.2.1,()),d.2)))
abbrev zdb.S:LSpec:=⟨⟨[(0, .ptr 0),k142,(11, .agg [.own 1, .own 2]),k157,(15, .own 2),(16, .hole (.int .i64)),k163],k38⟩,[⟨k72,k39⟩],[(.exit 2)],f69.ntmps⟩
abbrev zdb.D:Type:=((Unit×Int×k228×Int×Unit×Int×Int×Unit)×k214)
abbrev zdb.R:Type:=k291
def zdb (w:W)(d:zdb.D):Option (zdb.D⊕zdb.R):=(bif (w.odec (d.1.2.2.2.2.2.2.1<d.1.2.2.2.2.2.1)) then(bif w.odec (0≤d.1.2.2.2.2.2.2.1∧d.1.2.2.2.2.2.2.1<(d.2.2.2.1.length:Int)) then((d.2.2.2.1[d.1.2.2.2.2.2.2.1.toNat]?).bind fun x7=>(onS x7 fun n8=>((d.2.2.2.2.1[n8]?).bind fun e9=>(((zer w) (((),()),e9)).bind fun r10=>some (.inl (((),(w.wr .i64 (d.1.2.1+r10.1.1)),((),(),()),d.1.2.2.2.1,(),d.1.2.2.2.2.2.1,(w.wr .i64 (d.1.2.2.2.2.2.2.1+1)),()),d.2.1,d.2.2.1,d.2.2.2.1,(d.2.2.2.2.1.set n8 r10.2),())))))) else none) else some (.inr (((),d.1.2.1,((),(),()),d.1.2.2.2.1,()),d.2)))
abbrev k73:List (Nat×Pat):=[k142]
abbrev zd2.S:LSpec:=⟨⟨[(0, .ptr 0),k142,(11, .agg [.own 1, .own 2]),k157],k38⟩,[⟨k73,k39⟩],[(.exit 0)],f69.ntmps⟩
abbrev zd2.D:Type:=k291
abbrev zd2.R:Type:=(k231×k214)
def zd2 (w:W)(d:zd2.D):Option (zd2.D⊕zd2.R):=(bif (w.odec (d.1.2.2.2.1<2)) then(bif w.odec (d.1.2.2.2.1=((0:Nat):Int)) then((w.loopFix (L:=zd1.D) (zd1 w) (((),d.1.2.1,((),(),()),d.1.2.2.2.1,(),(d.2.2.1.length:Int),0,()),d.2)).bind fun r6=>some (.inl (((),r6.1.2.1,((),(),()),(w.wr .i64 (r6.1.2.2.2.1+1)),()),r6.2))) else(bif w.odec (d.1.2.2.2.1=((1:Nat):Int)) then((w.loopFix (L:=zdb.D) (zdb w) (((),d.1.2.1,((),(),()),d.1.2.2.2.1,(),(d.2.2.2.1.length:Int),0,()),d.2)).bind fun r11=>some (.inl (((),r11.1.2.1,((),(),()),(w.wr .i64 (r11.1.2.2.2.1+1)),()),r11.2))) else none)) else some (.inr ((d.1.2.1,()),d.2)))
abbrev zf2.S:FSpec:=⟨⟨[(0, .ptr 0)],k38⟩,[⟨k2,k39⟩],true⟩
abbrev zf2.D:Type:=(k221×k214)
abbrev zf2.R:Type:=(k231×k214)
def zf2 (w:W)(d:zf2.D):Option zf2.R:=((w.loopFix (L:=zd2.D) (zd2 w) (((),0,((),(),()),0,()),d.2)).bind fun r12=>some (r12))
theorem zf2.bod:bodyB f69=true:=by kernel_rfl
abbrev zd1.env {α:Type}:Env α:=mE [(99,[⟨zer.S,(zer W0),none⟩])] []
theorem zd1.ok (d:zd1.D):lB prog zd1.S zd1.env f69 6 d=(zd1 W0) d:=by kernel_rfl
theorem zd1.sok:LSpec.ok zd1.S=true:=by kernel_rfl
theorem zd1.con (base:Nat):rO prog base f69 6 zd1.S (zd1 W0):=lK zd1.sok zf2.bod mixed (cC (cc0 zer.sok (zer.con base) cn) cN) lN zd1.ok
abbrev zdb.env {α:Type}:Env α:=mE [(99,[⟨zer.S,(zer W0),none⟩])] []
theorem zdb.ok (d:zdb.D):lB prog zdb.S zdb.env f69 6 d=(zdb W0) d:=by kernel_rfl
theorem zdb.sok:LSpec.ok zdb.S=true:=by kernel_rfl
theorem zdb.con (base:Nat):rO prog base f69 6 zdb.S (zdb W0):=lK zdb.sok zf2.bod mixed (cC (cc0 zer.sok (zer.con base) cn) cN) lN zdb.ok
abbrev zd2.env {α:Type}:Env α:=mE [] [(6,[⟨zd1.S,(zd1 W0)⟩,⟨zdb.S,(zdb W0)⟩])]
theorem zd2.ok (d:zd2.D):lB prog zd2.S zd2.env f69 3 d=(zd2 W0) d:=by kernel_rfl
theorem zd2.sok:LSpec.ok zd2.S=true:=by kernel_rfl
theorem zd2.con (base:Nat):rO prog base f69 3 zd2.S (zd2 W0):=lK zd2.sok zf2.bod mixed cN (lC (lc zd1.sok (zd1.con base) (lc zdb.sok (zdb.con base) ln)) lN) zd2.ok
abbrev zf2.env {α:Type}:Env α:=mE [] [(3,[⟨zd2.S,(zd2 W0)⟩])]
theorem zf2.ok (d:zf2.D):fB prog zf2.S zf2.env f69 d=(zf2 W0) d:=by kernel_rfl
theorem zf2.sok:FSpec.ok zf2.S=true:=by kernel_rfl
theorem zf2.con (base:Nat):fO prog base 69 zf2.S (zf2 W0):=fC (fn:=f69) rfl (by decide) (by kernel_rfl) mixed cN (lC (lc zd2.sok (zd2.con base) ln) lN) zf2.ok
abbrev zd3.S:FSpec:=⟨⟨[(0, .ptr 0)],k50⟩,[⟨k2,k51⟩],true⟩
abbrev zd3.D:Type:=(k221×k218)
abbrev zd3.R:Type:=(k231×k220)
def zd3 (w:W)(d:zd3.D):Option zd3.R:=(((zf2 w) (((),()),d.2.2.1,d.2.2.2.1,d.2.2.2.2.1,d.2.2.2.2.2.2)).bind fun r1=>some ((((w.wr .i64 (r1.1.1+(d.2.2.2.2.2.1.length:Int))),()),((),(),()),r1.2.1,d.2.2.2.2.2.1,r1.2.2)))
theorem zd3.bod:bodyB f37=true:=by kernel_rfl
abbrev zd3.env {α:Type}:Env α:=mE [(69,[⟨zf2.S,(zf2 W0),none⟩])] []
theorem zd3.ok (d:zd3.D):fB prog zd3.S zd3.env f37 d=(zd3 W0) d:=by kernel_rfl
theorem zd3.sok:FSpec.ok zd3.S=true:=by kernel_rfl
theorem zd3.con (base:Nat):fO prog base 37 zd3.S (zd3 W0):=fC (fn:=f37) rfl (by decide) (by kernel_rfl) mixed (cC (cc0 zf2.sok (zf2.con base) cn) cN) lN zd3.ok
abbrev k74:List (Nat×Pat):=[(0, .ptr 0),(1, .hole ty3)]
abbrev zbo.S:FSpec:=⟨⟨k74,k50⟩,[⟨k2,k51⟩],true⟩
abbrev k268:Type:=(Unit×De3×Unit)
abbrev zbo.D:Type:=(k268×k218)
abbrev zbo.R:Type:=(k231×k220)
def zbo (w:W)(d:zbo.D):Option zbo.R:=(((zhb w) (d.1.2,())).bind fun r1=>(bif (!w.odec (r1.1.1=0)) then some (((1,()),((),(),()),d.2.2.1,d.2.2.2.2.2.1,d.2.2.2.1,d.2.2.2.2.1,d.2.2.2.2.2.2)) else(((zda w) (((),d.1.2.1.1,d.1.2.1.2.1,()),d.2)).bind fun r2=>(bif r2.1.2.1 then some (((5,()),r2.2)) else(((zd3 w) (((),()),((),(),()),r2.2.2.1,r2.2.2.2.2.1,r2.2.2.2.2.2.1,r2.2.2.2.1,r2.2.2.2.2.2.2)).bind fun r3=>(bif (w.odec (r3.1.1≥64)) then(bif (w.odec (d.1.2.1.2.2.2.2.2.2.2.2.1>0)) then some (((4,()),r3.2)) else(bif (w.odec (d.1.2.1.2.2.2.2.1=1)) then some (((4,()),r3.2)) else(bif (w.odec (d.1.2.1.2.2.2.2.1=5)) then some (((4,()),r3.2)) else some (((0,()),r3.2))))) else some (((0,()),r3.2))))))))
theorem zbo.bod:bodyB f227=true:=by kernel_rfl
abbrev zbo.env {α:Type}:Env α:=mE [(225,[⟨zhb.S,(zhb W0),none⟩]),(209,[⟨zda.S,(zda W0),none⟩]),(37,[⟨zd3.S,(zd3 W0),none⟩])] []
theorem zbo.ok (d:zbo.D):fB prog zbo.S zbo.env f227 d=(zbo W0) d:=by kernel_rfl
theorem zbo.sok:FSpec.ok zbo.S=true:=by kernel_rfl
theorem zbo.con (base:Nat):fO prog base 227 zbo.S (zbo W0):=fC (fn:=f227) rfl (by decide) (by kernel_rfl) mixed (cC (cc0 zhb.sok (zhb.con base) cn) (cC (cc0 zda.sok (zda.con base) cn) (cC (cc0 zd3.sok (zd3.con base) cn) cN))) lN zbo.ok
abbrev zfh.S:FSpec:=⟨⟨[(0, .ptr 0)],k38⟩,[⟨k2,k39⟩],true⟩
abbrev zfh.D:Type:=(k221×k214)
abbrev zfh.R:Type:=(k231×k214)
def zfh (w:W)(d:zfh.D):Option zfh.R:=some (((d.2.1.2.1,()),d.2))
theorem zfh.bod:bodyB f34=true:=by kernel_rfl
abbrev zfh.env {α:Type}:Env α:=mE [] []
theorem zfh.ok (d:zfh.D):fB prog zfh.S zfh.env f34 d=(zfh W0) d:=by kernel_rfl
theorem zfh.sok:FSpec.ok zfh.S=true:=by kernel_rfl
theorem zfh.con (base:Nat):fO prog base 34 zfh.S (zfh W0):=fC (fn:=f34) rfl (by decide) (by kernel_rfl) mixed cN lN zfh.ok
abbrev k75:List (Nat×Pat):=[(0, .hole ty3),k138]
abbrev zij.S:FSpec:=⟨⟨k75,[]⟩,[⟨k12,[]⟩],true⟩
abbrev zij.D:Type:=((De3×Int×Unit)×(Unit))
abbrev zij.R:Type:=k248
def zij (w:W)(d:zij.D):Option zij.R:=(bif (w.odec (d.1.1.2.2.2.2.2.2.2.2.1≤0)) then some (((false,()),())) else(bif (w.odec (d.1.2.1≤0)) then some (((false,()),())) else(bif (w.odec (d.1.1.2.2.2.1=1)) then some ((((w.odec (d.1.2.1≥d.1.1.2.2.2.2.2.2.2.2.1)),()),())) else some ((((w.odec (d.1.2.1≤d.1.1.2.2.2.2.2.2.2.2.1)),()),())))))
theorem zij.bod:bodyB f33=true:=by kernel_rfl
abbrev zij.env {α:Type}:Env α:=mE [] []
theorem zij.ok (d:zij.D):fB prog zij.S zij.env f33 d=(zij W0) d:=by kernel_rfl
theorem zij.sok:FSpec.ok zij.S=true:=by kernel_rfl
theorem zij.con (base:Nat):fO prog base 33 zij.S (zij W0):=fC (fn:=f33) rfl (by decide) (by kernel_rfl) mixed cN lN zij.ok
abbrev zaz.S:FSpec:=⟨⟨[(0, .hole ty3),(1, .rpt (.rpt (.agg [.ptr 0, .skip])))],k38⟩,[⟨k12,k39⟩],true⟩
abbrev zaz.D:Type:=((De3×k228×Unit)×k214)
abbrev zaz.R:Type:=(k229×k214)
def zaz (w:W)(d:zaz.D):Option zaz.R:=(((zfh w) (((),()),d.2)).bind fun r1=>(((zij w) ((d.1.1,r1.1),())).bind fun r2=>some ((r2.1,r1.2))))
theorem zaz.bod:bodyB f247=true:=by kernel_rfl
abbrev zaz.env {α:Type}:Env α:=mE [(34,[⟨zfh.S,(zfh W0),none⟩]),(33,[⟨zij.S,(zij W0),none⟩])] []
theorem zaz.ok (d:zaz.D):fB prog zaz.S zaz.env f247 d=(zaz W0) d:=by kernel_rfl
theorem zaz.sok:FSpec.ok zaz.S=true:=by kernel_rfl
theorem zaz.con (base:Nat):fO prog base 247 zaz.S (zaz W0):=fC (fn:=f247) rfl (by decide) (by kernel_rfl) mixed (cC (cc0 zfh.sok (zfh.con base) cn) (cC (cc0 zij.sok (zij.con base) cn) cN)) lN zaz.ok
abbrev zac.S:LSpec:=⟨⟨[k174,(1, .clo (.func 247) [.rpt (.rpt (.agg [.ptr 0, .skip]))]),k141,k172],k38⟩,[⟨k59,k39⟩,⟨[],k39⟩],[.ret,(.exit 0)],f242.ntmps⟩
abbrev zac.D:Type:=(((List De3)×(k228×Unit)×Int×Int×Unit)×k214)
abbrev zac.R:Type:=((k231×k214)⊕((Unit)×k214))
def zac (w:W)(d:zac.D):Option (zac.D⊕zac.R):=(bif (w.odec (d.1.2.2.2.1<d.1.2.2.1)) then(bif w.odec (0≤d.1.2.2.2.1) then((d.1.1[d.1.2.2.2.1.toNat]?).bind fun x1=>(((zaz w) ((x1,((),(),()),()),d.2)).bind fun r2=>(bif r2.1.1 then some (.inr (.inl (d.1.2.2.2,r2.2))) else some (.inl ((d.1.1,(((),(),()),()),d.1.2.2.1,(w.wr .i64 (d.1.2.2.2.1+1)),()),r2.2))))) else none) else some (.inr (.inr ((),d.2))))
abbrev zag.S:FSpec:=⟨⟨[k174,(1, .clo (.func 247) [.rpt (.rpt (.agg [.ptr 0, .skip]))])],k38⟩,[⟨k2,k39⟩],true⟩
abbrev zag.D:Type:=(((List De3)×(k228×Unit)×Unit)×k214)
abbrev zag.R:Type:=(k231×k214)
def zag (w:W)(d:zag.D):Option zag.R:=((w.loopFix (L:=zac.D) (zac w) ((d.1.1,(((),(),()),()),(d.1.1.length:Int),0,()),d.2)).bind fun r3=>(match r3 with| .inl r4=>some (r4)| .inr r5=>some ((((-1),()),r5.2))))
abbrev zac.env {α:Type}:Env α:=mE [(247,[⟨zaz.S,(zaz W0),none⟩])] []
theorem zac.ok (d:zac.D):lB prog zac.S zac.env f242 2 d=(zac W0) d:=by kernel_rfl
theorem zac.sok:LSpec.ok zac.S=true:=by kernel_rfl
theorem zac.con (base:Nat):rO prog base f242 2 zac.S (zac W0):=lK zac.sok zam.bod mixed (cC (cc0 zaz.sok (zaz.con base) cn) cN) lN zac.ok
abbrev zag.env {α:Type}:Env α:=mE [] [(2,[⟨zac.S,(zac W0)⟩])]
theorem zag.ok (d:zag.D):fB prog zag.S zag.env f242 d=(zag W0) d:=by kernel_rfl
theorem zag.sok:FSpec.ok zag.S=true:=by kernel_rfl
theorem zag.con (base:Nat):fO prog base 242 zag.S (zag W0):=fC (fn:=f242) rfl (by decide) (by kernel_rfl) mixed cN (lC (lc zac.sok (zac.con base) ln) lN) zag.ok
abbrev zh2.S:FSpec:=⟨⟨k71,[]⟩,[⟨k12,[]⟩],true⟩
abbrev zh2.D:Type:=((De3×Unit)×(Unit))
abbrev zh2.R:Type:=k248
def zh2 (w:W)(d:zh2.D):Option zh2.R:=(bif (w.odec (d.1.1.2.2.2.2.1=1)) then some (((true,()),())) else some ((((w.odec (d.1.1.2.2.2.2.1=5)),()),())))
theorem zh2.bod:bodyB f254=true:=by kernel_rfl
abbrev zh2.env {α:Type}:Env α:=mE [] []
theorem zh2.ok (d:zh2.D):fB prog zh2.S zh2.env f254 d=(zh2 W0) d:=by kernel_rfl
theorem zh2.sok:FSpec.ok zh2.S=true:=by kernel_rfl
theorem zh2.con (base:Nat):fO prog base 254 zh2.S (zh2 W0):=fC (fn:=f254) rfl (by decide) (by kernel_rfl) mixed cN lN zh2.ok
abbrev zdc.S:FSpec:=⟨⟨k74,k38⟩,[⟨k21,k39⟩,⟨k40,k39⟩,⟨k41,k39⟩],true⟩
abbrev zdc.D:Type:=(k268×k214)
abbrev zdc.R:Type:=((k221×k214)⊕((k221×k214)⊕(k221×k214)))
def zdc (w:W)(d:zdc.D):Option zdc.R:=(((zfb w) (((),(w.wr .i64 (3-d.1.2.1.2.2.2.1)),()),d.2)).bind fun r1=>(match r1 with| .inl r2=>some ((.inl r2))| .inr r3=>(match r3 with| .inl r4=>some ((.inr (.inl r4)))| .inr r5=>some ((.inr (.inr r5))))))
theorem zdc.bod:bodyB f258=true:=by kernel_rfl
abbrev zdc.env {α:Type}:Env α:=mE [(66,[⟨zfb.S,(zfb W0),none⟩])] []
theorem zdc.ok (d:zdc.D):fB prog zdc.S zdc.env f258 d=(zdc W0) d:=by kernel_rfl
theorem zdc.sok:FSpec.ok zdc.S=true:=by kernel_rfl
theorem zdc.con (base:Nat):fO prog base 258 zdc.S (zdc W0):=fC (fn:=f258) rfl (by decide) (by kernel_rfl) mixed (cC (cc0 zfb.sok (zfb.con base) cn) cN) lN zdc.ok
abbrev zdd.S:FSpec:=⟨⟨[(0, .ptr 0)],k43⟩,[⟨k2,k42⟩],true⟩
abbrev zdd.D:Type:=(k221×k217)
abbrev zdd.R:Type:=(k231×k217)
def zdd (w:W)(d:zdd.D):Option zdd.R:=some (((d.2.1.1,()),d.2))
theorem zdd.bod:bodyB f260=true:=by kernel_rfl
abbrev zdd.env {α:Type}:Env α:=mE [] []
theorem zdd.ok (d:zdd.D):fB prog zdd.S zdd.env f260 d=(zdd W0) d:=by kernel_rfl
theorem zdd.sok:FSpec.ok zdd.S=true:=by kernel_rfl
theorem zdd.con (base:Nat):fO prog base 260 zdd.S (zdd W0):=fC (fn:=f260) rfl (by decide) (by kernel_rfl) mixed cN lN zdd.ok
abbrev zf3.S:FSpec:=⟨⟨k75,[]⟩,[⟨k12,[]⟩],true⟩
abbrev zf3.D:Type:=((De3×Int×Unit)×(Unit))
abbrev zf3.R:Type:=k248
def zf3 (w:W)(d:zf3.D):Option zf3.R:=(bif (w.odec (d.1.1.2.2.2.2.1=2)) then some (((true,()),())) else(bif (w.odec (d.1.1.2.2.2.1=1)) then some ((((w.odec (d.1.1.2.2.2.2.2.1≥d.1.2.1)),()),())) else some ((((w.odec (d.1.1.2.2.2.2.2.1≤d.1.2.1)),()),()))))
theorem zf3.bod:bodyB f259=true:=by kernel_rfl
abbrev zf3.env {α:Type}:Env α:=mE [] []
theorem zf3.ok (d:zf3.D):fB prog zf3.S zf3.env f259 d=(zf3 W0) d:=by kernel_rfl
theorem zf3.sok:FSpec.ok zf3.S=true:=by kernel_rfl
theorem zf3.con (base:Nat):fO prog base 259 zf3.S (zf3 W0):=fC (fn:=f259) rfl (by decide) (by kernel_rfl) mixed cN lN zf3.ok
abbrev zbp.S:LSpec:=⟨⟨[(0, .ptr 0),k142,(9, .own 1),k159,k160],k43⟩,[⟨k73,k42⟩],[(.exit 0)],f274.ntmps⟩
abbrev zbp.D:Type:=((Unit×Int×Unit×Int×Int×Unit)×k217)
abbrev zbp.R:Type:=(k231×k217)
def zbp (w:W)(d:zbp.D):Option (zbp.D⊕zbp.R):=(bif (w.odec (d.1.2.2.2.2.1<d.1.2.2.2.1)) then(bif w.odec (0≤d.1.2.2.2.2.1∧d.1.2.2.2.2.1<(d.2.2.1.length:Int)) then((d.2.2.1[d.1.2.2.2.2.1.toNat]?).bind fun x1=>some (.inl (((),(w.wr .i64 (d.1.2.1+x1.1.2.2.2.2.2.2.1)),(),d.1.2.2.2.1,(w.wr .i64 (d.1.2.2.2.2.1+1)),()),d.2))) else none) else some (.inr ((d.1.2.1,()),d.2)))
abbrev zde.S:FSpec:=⟨⟨[(0, .ptr 0)],k43⟩,[⟨k2,k42⟩],true⟩
abbrev zde.D:Type:=(k221×k217)
abbrev zde.R:Type:=(k231×k217)
def zde (w:W)(d:zde.D):Option zde.R:=((w.loopFix (L:=zbp.D) (zbp w) (((),0,(),(d.2.2.1.length:Int),0,()),d.2)).bind fun r2=>some (r2))
theorem zde.bod:bodyB f274=true:=by kernel_rfl
abbrev zbp.env {α:Type}:Env α:=mE [] []
theorem zbp.ok (d:zbp.D):lB prog zbp.S zbp.env f274 3 d=(zbp W0) d:=by kernel_rfl
theorem zbp.sok:LSpec.ok zbp.S=true:=by kernel_rfl
theorem zbp.con (base:Nat):rO prog base f274 3 zbp.S (zbp W0):=lK zbp.sok zde.bod mixed cN lN zbp.ok
abbrev zde.env {α:Type}:Env α:=mE [] [(3,[⟨zbp.S,(zbp W0)⟩])]
theorem zde.ok (d:zde.D):fB prog zde.S zde.env f274 d=(zde W0) d:=by kernel_rfl
theorem zde.sok:FSpec.ok zde.S=true:=by kernel_rfl
theorem zde.con (base:Nat):fO prog base 274 zde.S (zde W0):=fC (fn:=f274) rfl (by decide) (by kernel_rfl) mixed cN (lC (lc zbp.sok (zbp.con base) ln) lN) zde.ok
abbrev zbq.S:LSpec:=⟨⟨[(0, .ptr 0),k138,k179,(12, .own 1),k158,k169],k43⟩,[⟨[k178,(5, .hole .bool)],k42⟩,⟨[(0, .ptr 0)],k42⟩],[.ret,(.exit 0)],f269.ntmps⟩
abbrev zbq.D:Type:=((Unit×Int×Int×Unit×Int×Int×Unit)×k217)
abbrev zbq.R:Type:=(((Int×Bool×Unit)×k217)⊕(k221×k217))
def zbq (w:W)(d:zbq.D):Option (zbq.D⊕zbq.R):=(bif (w.odec (d.1.2.2.2.2.2.1<d.1.2.2.2.2.1)) then(bif w.odec (0≤d.1.2.2.2.2.2.1∧d.1.2.2.2.2.2.1<(d.2.2.1.length:Int)) then((d.2.2.1[d.1.2.2.2.2.2.1.toNat]?).bind fun x1=>(bif (w.odec (x1.1.2.2.1=d.1.2.1)) then some (.inr (.inl ((d.1.2.2.1,true,()),d.2))) else some (.inl (((),d.1.2.1,(w.wr .i64 (d.1.2.2.1+x1.2.1)),(),d.1.2.2.2.2.1,(w.wr .i64 (d.1.2.2.2.2.2.1+1)),()),d.2)))) else none) else some (.inr (.inr (((),()),d.2))))
abbrev zdf.S:FSpec:=⟨⟨k23,k43⟩,[⟨[k137,k154],k42⟩],true⟩
abbrev zdf.D:Type:=(k225×k217)
abbrev zdf.R:Type:=((Int×Bool×Unit)×k217)
def zdf (w:W)(d:zdf.D):Option zdf.R:=((w.loopFix (L:=zbq.D) (zbq w) (((),d.1.2.1,0,(),(d.2.2.1.length:Int),0,()),d.2)).bind fun r2=>(match r2 with| .inl r3=>some (r3)| .inr r4=>(((zde w) r4).bind fun r5=>some (((r5.1.1,false,()),r5.2)))))
theorem zdf.bod:bodyB f269=true:=by kernel_rfl
abbrev zbq.env {α:Type}:Env α:=mE [] []
theorem zbq.ok (d:zbq.D):lB prog zbq.S zbq.env f269 3 d=(zbq W0) d:=by kernel_rfl
theorem zbq.sok:LSpec.ok zbq.S=true:=by kernel_rfl
theorem zbq.con (base:Nat):rO prog base f269 3 zbq.S (zbq W0):=lK zbq.sok zdf.bod mixed cN lN zbq.ok
abbrev zdf.env {α:Type}:Env α:=mE [(274,[⟨zde.S,(zde W0),none⟩])] [(3,[⟨zbq.S,(zbq W0)⟩])]
theorem zdf.ok (d:zdf.D):fB prog zdf.S zdf.env f269 d=(zdf W0) d:=by kernel_rfl
theorem zdf.sok:FSpec.ok zdf.S=true:=by kernel_rfl
theorem zdf.con (base:Nat):fO prog base 269 zdf.S (zdf W0):=fC (fn:=f269) rfl (by decide) (by kernel_rfl) mixed (cC (cc0 zde.sok (zde.con base) cn) cN) (lC (lc zbq.sok (zbq.con base) ln) lN) zdf.ok
abbrev k180:Nat×Pat:=(15, .hole (.int .i64))
abbrev k76:List (Nat×Pat):=[k156]
abbrev zcq.S:LSpec:=⟨⟨[(0, .ptr 0),(3, .ptr 3),(13, .own 1),k169,k180],k52⟩,[⟨[],k54⟩,⟨k76,k54⟩],[(.exit 0), .ret],f261.ntmps⟩
abbrev zcq.D:Type:=(k232×k238)
abbrev zcq.R:Type:=(((Unit)×k219)⊕(k229×k219))
def zcq (w:W)(d:zcq.D):Option (zcq.D⊕zcq.R):=(bif (w.odec (d.1.2.2.2.2.1<d.1.2.2.2.1)) then(bif w.odec (0≤d.1.2.2.2.2.1∧d.1.2.2.2.2.1<(d.2.2.1.length:Int)) then((d.2.2.1[d.1.2.2.2.2.1.toNat]?).bind fun x6=>(onS x6 fun n7=>((d.2.2.2.2.2.1[n7]?).bind fun e8=>(((zdd w) (((),()),e8)).bind fun r9=>(((zf3 w) ((d.2.2.2.2.1,r9.1),())).bind fun r10=>(bif (!r10.1.1) then some (.inr (.inl ((),d.2.1,d.2.2.2.2.1,d.2.2.1,d.2.2.2.1,(d.2.2.2.2.2.1.set n7 r9.2),()))) else(onS x6 fun n11=>(((d.2.2.2.2.2.1.set n7 r9.2)[n11]?).bind fun e12=>(((zdf w) (((),d.2.2.2.2.1.2.2.1,()),e12)).bind fun r13=>(bif (w.odec (r13.1.1≥d.2.2.2.2.1.2.2.2.2.2.2.1)) then some (.inr (.inr ((true,()),d.2.1,d.2.2.2.2.1,d.2.2.1,d.2.2.2.1,((d.2.2.2.2.2.1.set n7 r9.2).set n11 r13.2),()))) else(bif r13.1.2.1 then some (.inr (.inl ((),d.2.1,(d.2.2.2.2.1.1,d.2.2.2.2.1.2.1,d.2.2.2.2.1.2.2.1,d.2.2.2.2.1.2.2.2.1,d.2.2.2.2.1.2.2.2.2.1,d.2.2.2.2.1.2.2.2.2.2.1,(w.wr .i64 (d.2.2.2.2.1.2.2.2.2.2.2.1-r13.1.1)),d.2.2.2.2.1.2.2.2.2.2.2.2),d.2.2.1,d.2.2.2.1,((d.2.2.2.2.2.1.set n7 r9.2).set n11 r13.2),()))) else some (.inl (((),(),(),d.1.2.2.2.1,(w.wr .i64 (d.1.2.2.2.2.1+1)),()),d.2.1,d.2.2.1,d.2.2.2.1,(d.2.2.2.2.1.1,d.2.2.2.2.1.2.1,d.2.2.2.2.1.2.2.1,d.2.2.2.2.1.2.2.2.1,d.2.2.2.2.1.2.2.2.2.1,d.2.2.2.2.1.2.2.2.2.2.1,(w.wr .i64 (d.2.2.2.2.1.2.2.2.2.2.2.1-r13.1.1)),d.2.2.2.2.1.2.2.2.2.2.2.2),((d.2.2.2.2.2.1.set n7 r9.2).set n11 r13.2),()))))))))))))) else none) else some (.inr (.inl ((),d.2.1,d.2.2.2.2.1,d.2.2.1,d.2.2.2.1,d.2.2.2.2.2))))
abbrev zb0.S:LSpec:=⟨⟨[(0, .ptr 0),(3, .ptr 3),(13, .own 2),k169,k180],k52⟩,[⟨[],k54⟩,⟨k76,k54⟩],[(.exit 0), .ret],f261.ntmps⟩
abbrev zb0.D:Type:=(k232×k238)
abbrev zb0.R:Type:=(((Unit)×k219)⊕(k229×k219))
def zb0 (w:W)(d:zb0.D):Option (zb0.D⊕zb0.R):=(bif (w.odec (d.1.2.2.2.2.1<d.1.2.2.2.1)) then(bif w.odec (0≤d.1.2.2.2.2.1∧d.1.2.2.2.2.1<(d.2.2.2.1.length:Int)) then((d.2.2.2.1[d.1.2.2.2.2.1.toNat]?).bind fun x17=>(onS x17 fun n18=>((d.2.2.2.2.2.1[n18]?).bind fun e19=>(((zdd w) (((),()),e19)).bind fun r20=>(((zf3 w) ((d.2.2.2.2.1,r20.1),())).bind fun r21=>(bif (!r21.1.1) then some (.inr (.inl ((),d.2.1,d.2.2.2.2.1,d.2.2.1,d.2.2.2.1,(d.2.2.2.2.2.1.set n18 r20.2),()))) else(onS x17 fun n22=>(((d.2.2.2.2.2.1.set n18 r20.2)[n22]?).bind fun e23=>(((zdf w) (((),d.2.2.2.2.1.2.2.1,()),e23)).bind fun r24=>(bif (w.odec (r24.1.1≥d.2.2.2.2.1.2.2.2.2.2.2.1)) then some (.inr (.inr ((true,()),d.2.1,d.2.2.2.2.1,d.2.2.1,d.2.2.2.1,((d.2.2.2.2.2.1.set n18 r20.2).set n22 r24.2),()))) else(bif r24.1.2.1 then some (.inr (.inl ((),d.2.1,(d.2.2.2.2.1.1,d.2.2.2.2.1.2.1,d.2.2.2.2.1.2.2.1,d.2.2.2.2.1.2.2.2.1,d.2.2.2.2.1.2.2.2.2.1,d.2.2.2.2.1.2.2.2.2.2.1,(w.wr .i64 (d.2.2.2.2.1.2.2.2.2.2.2.1-r24.1.1)),d.2.2.2.2.1.2.2.2.2.2.2.2),d.2.2.1,d.2.2.2.1,((d.2.2.2.2.2.1.set n18 r20.2).set n22 r24.2),()))) else some (.inl (((),(),(),d.1.2.2.2.1,(w.wr .i64 (d.1.2.2.2.2.1+1)),()),d.2.1,d.2.2.1,d.2.2.2.1,(d.2.2.2.2.1.1,d.2.2.2.2.1.2.1,d.2.2.2.2.1.2.2.1,d.2.2.2.2.1.2.2.2.1,d.2.2.2.2.1.2.2.2.2.1,d.2.2.2.2.1.2.2.2.2.2.1,(w.wr .i64 (d.2.2.2.2.1.2.2.2.2.2.2.1-r24.1.1)),d.2.2.2.2.1.2.2.2.2.2.2.2),((d.2.2.2.2.2.1.set n18 r20.2).set n22 r24.2),()))))))))))))) else none) else some (.inr (.inl ((),d.2.1,d.2.2.2.2.1,d.2.2.1,d.2.2.2.1,d.2.2.2.2.2))))
abbrev zeu.S:FSpec:=⟨⟨k74,k38⟩,[⟨k12,k39⟩],true⟩
abbrev zeu.D:Type:=(k268×k214)
abbrev zeu.R:Type:=(k229×k214)
def zeu (w:W)(d:zeu.D):Option zeu.R:=(((zdc w) d).bind fun r1=>(match r1 with| .inl r2=>none| .inr r3=>(match r3 with| .inl r4=>((w.loopFix (L:=zcq.D) (zcq w) (((),(),(),(r4.2.2.1.length:Int),0,()),r4.2.1,r4.2.2.1,r4.2.2.2.1,d.1.2.1,r4.2.2.2.2)).bind fun r14=>(match r14 with| .inl r15=>some (((false,()),r15.2.1,r15.2.2.2))| .inr r16=>some ((r16.1,r16.2.1,r16.2.2.2))))| .inr r5=>((w.loopFix (L:=zb0.D) (zb0 w) (((),(),(),(r5.2.2.2.1.length:Int),0,()),r5.2.1,r5.2.2.1,r5.2.2.2.1,d.1.2.1,r5.2.2.2.2)).bind fun r25=>(match r25 with| .inl r26=>some (((false,()),r26.2.1,r26.2.2.2))| .inr r27=>some ((r27.1,r27.2.1,r27.2.2.2)))))))
theorem zeu.bod:bodyB f261=true:=by kernel_rfl
abbrev zcq.env {α:Type}:Env α:=mE [(260,[⟨zdd.S,(zdd W0),none⟩]),(259,[⟨zf3.S,(zf3 W0),none⟩]),(269,[⟨zdf.S,(zdf W0),none⟩])] []
theorem zcq.ok (d:zcq.D):lB prog zcq.S zcq.env f261 2 d=(zcq W0) d:=by kernel_rfl
theorem zcq.sok:LSpec.ok zcq.S=true:=by kernel_rfl
theorem zcq.con (base:Nat):rO prog base f261 2 zcq.S (zcq W0):=lK zcq.sok zeu.bod mixed (cC (cc0 zdd.sok (zdd.con base) cn) (cC (cc0 zf3.sok (zf3.con base) cn) (cC (cc0 zdf.sok (zdf.con base) cn) cN))) lN zcq.ok
abbrev zb0.env {α:Type}:Env α:=mE [(260,[⟨zdd.S,(zdd W0),none⟩]),(259,[⟨zf3.S,(zf3 W0),none⟩]),(269,[⟨zdf.S,(zdf W0),none⟩])] []
theorem zb0.ok (d:zb0.D):lB prog zb0.S zb0.env f261 2 d=(zb0 W0) d:=by kernel_rfl
theorem zb0.sok:LSpec.ok zb0.S=true:=by kernel_rfl
theorem zb0.con (base:Nat):rO prog base f261 2 zb0.S (zb0 W0):=lK zb0.sok zeu.bod mixed (cC (cc0 zdd.sok (zdd.con base) cn) (cC (cc0 zf3.sok (zf3.con base) cn) (cC (cc0 zdf.sok (zdf.con base) cn) cN))) lN zb0.ok
abbrev zeu.env {α:Type}:Env α:=mE [(258,[⟨zdc.S,(zdc W0),none⟩])] [(2,[⟨zcq.S,(zcq W0)⟩,⟨zb0.S,(zb0 W0)⟩])]
theorem zeu.ok (d:zeu.D):fB prog zeu.S zeu.env f261 d=(zeu W0) d:=by kernel_rfl
theorem zeu.sok:FSpec.ok zeu.S=true:=by kernel_rfl
theorem zeu.con (base:Nat):fO prog base 261 zeu.S (zeu W0):=fC (fn:=f261) rfl (by decide) (by kernel_rfl) mixed (cC (cc0 zdc.sok (zdc.con base) cn) cN) (lC (lc zcq.sok (zcq.con base) (lc zb0.sok (zb0.con base) ln)) lN) zeu.ok
abbrev zdg.S:FSpec:=⟨⟨k74,k38⟩,[⟨k2,k39⟩],true⟩
abbrev zdg.D:Type:=(k268×k214)
abbrev zdg.R:Type:=(k231×k214)
def zdg (w:W)(d:zdg.D):Option zdg.R:=(((zhb w) (d.1.2,())).bind fun r1=>(bif (!w.odec (r1.1.1=0)) then some (((1,()),d.2)) else(bif (!w.odec (d.1.2.1.2.2.2.2.2.2.2.2.1=0)) then some (((1,()),d.2)) else(((zfg w) (((),d.1.2.1.1,d.1.2.1.2.1,()),d.2)).bind fun r2=>(bif r2.1.2.1 then some (((5,()),r2.2)) else(((zh2 w) (d.1.2,())).bind fun r3=>(bif r3.1.1 then(((zf2 w) (((),()),r2.2)).bind fun r4=>(bif (w.odec (r4.1.1≥64)) then some (((4,()),r4.2)) else(((zdc w) (d.1,r4.2)).bind fun r5=>(match r5 with| .inl r6=>none| .inr r7=>(match r7 with| .inl r8=>(bif (w.odec (d.1.2.1.2.2.2.2.1=5)) then(bif (w.odec ((r8.2.2.1.length:Int)>0)) then(bif w.odec (0≤(0:Int)∧(0:Int)<(r8.2.2.1.length:Int)) then((r8.2.2.1[(0:Int).toNat]?).bind fun x10=>(onS x10 fun n11=>((r8.2.2.2.2.1[n11]?).bind fun e12=>(((zdd w) (((),()),e12)).bind fun r13=>(((zf3 w) ((d.1.2.1,r13.1),())).bind fun r14=>(bif r14.1.1 then some (((11,()),r8.2.1,r8.2.2.1,r8.2.2.2.1,(r8.2.2.2.2.1.set n11 r13.2),())) else(bif (w.odec (d.1.2.1.2.2.2.2.1=4)) then(((zeu w) (d.1,r8.2.1,r8.2.2.1,r8.2.2.2.1,(r8.2.2.2.2.1.set n11 r13.2),())).bind fun r15=>(bif (!r15.1.1) then some (((12,()),r15.2)) else some (((0,()),r15.2)))) else some (((0,()),r8.2.1,r8.2.2.1,r8.2.2.2.1,(r8.2.2.2.2.1.set n11 r13.2),()))))))))) else none) else(bif (w.odec (d.1.2.1.2.2.2.2.1=4)) then(((zeu w) (d.1,r8.2)).bind fun r16=>(bif (!r16.1.1) then some (((12,()),r16.2)) else some (((0,()),r16.2)))) else some (((0,()),r8.2)))) else(bif (w.odec (d.1.2.1.2.2.2.2.1=4)) then(((zeu w) (d.1,r8.2)).bind fun r17=>(bif (!r17.1.1) then some (((12,()),r17.2)) else some (((0,()),r17.2)))) else some (((0,()),r8.2))))| .inr r9=>(bif (w.odec (d.1.2.1.2.2.2.2.1=5)) then(bif (w.odec ((r9.2.2.2.1.length:Int)>0)) then(bif w.odec (0≤(0:Int)∧(0:Int)<(r9.2.2.2.1.length:Int)) then((r9.2.2.2.1[(0:Int).toNat]?).bind fun x18=>(onS x18 fun n19=>((r9.2.2.2.2.1[n19]?).bind fun e20=>(((zdd w) (((),()),e20)).bind fun r21=>(((zf3 w) ((d.1.2.1,r21.1),())).bind fun r22=>(bif r22.1.1 then some (((11,()),r9.2.1,r9.2.2.1,r9.2.2.2.1,(r9.2.2.2.2.1.set n19 r21.2),())) else(bif (w.odec (d.1.2.1.2.2.2.2.1=4)) then(((zeu w) (d.1,r9.2.1,r9.2.2.1,r9.2.2.2.1,(r9.2.2.2.2.1.set n19 r21.2),())).bind fun r23=>(bif (!r23.1.1) then some (((12,()),r23.2)) else some (((0,()),r23.2)))) else some (((0,()),r9.2.1,r9.2.2.1,r9.2.2.2.1,(r9.2.2.2.2.1.set n19 r21.2),()))))))))) else none) else(bif (w.odec (d.1.2.1.2.2.2.2.1=4)) then(((zeu w) (d.1,r9.2)).bind fun r24=>(bif (!r24.1.1) then some (((12,()),r24.2)) else some (((0,()),r24.2)))) else some (((0,()),r9.2)))) else(bif (w.odec (d.1.2.1.2.2.2.2.1=4)) then(((zeu w) (d.1,r9.2)).bind fun r25=>(bif (!r25.1.1) then some (((12,()),r25.2)) else some (((0,()),r25.2)))) else some (((0,()),r9.2))))))))) else(((zdc w) (d.1,r2.2)).bind fun r26=>(match r26 with| .inl r27=>none| .inr r28=>(match r28 with| .inl r29=>(bif (w.odec (d.1.2.1.2.2.2.2.1=5)) then(bif (w.odec ((r29.2.2.1.length:Int)>0)) then(bif w.odec (0≤(0:Int)∧(0:Int)<(r29.2.2.1.length:Int)) then((r29.2.2.1[(0:Int).toNat]?).bind fun x31=>(onS x31 fun n32=>((r29.2.2.2.2.1[n32]?).bind fun e33=>(((zdd w) (((),()),e33)).bind fun r34=>(((zf3 w) ((d.1.2.1,r34.1),())).bind fun r35=>(bif r35.1.1 then some (((11,()),r29.2.1,r29.2.2.1,r29.2.2.2.1,(r29.2.2.2.2.1.set n32 r34.2),())) else(bif (w.odec (d.1.2.1.2.2.2.2.1=4)) then(((zeu w) (d.1,r29.2.1,r29.2.2.1,r29.2.2.2.1,(r29.2.2.2.2.1.set n32 r34.2),())).bind fun r36=>(bif (!r36.1.1) then some (((12,()),r36.2)) else some (((0,()),r36.2)))) else some (((0,()),r29.2.1,r29.2.2.1,r29.2.2.2.1,(r29.2.2.2.2.1.set n32 r34.2),()))))))))) else none) else(bif (w.odec (d.1.2.1.2.2.2.2.1=4)) then(((zeu w) (d.1,r29.2)).bind fun r37=>(bif (!r37.1.1) then some (((12,()),r37.2)) else some (((0,()),r37.2)))) else some (((0,()),r29.2)))) else(bif (w.odec (d.1.2.1.2.2.2.2.1=4)) then(((zeu w) (d.1,r29.2)).bind fun r38=>(bif (!r38.1.1) then some (((12,()),r38.2)) else some (((0,()),r38.2)))) else some (((0,()),r29.2))))| .inr r30=>(bif (w.odec (d.1.2.1.2.2.2.2.1=5)) then(bif (w.odec ((r30.2.2.2.1.length:Int)>0)) then(bif w.odec (0≤(0:Int)∧(0:Int)<(r30.2.2.2.1.length:Int)) then((r30.2.2.2.1[(0:Int).toNat]?).bind fun x39=>(onS x39 fun n40=>((r30.2.2.2.2.1[n40]?).bind fun e41=>(((zdd w) (((),()),e41)).bind fun r42=>(((zf3 w) ((d.1.2.1,r42.1),())).bind fun r43=>(bif r43.1.1 then some (((11,()),r30.2.1,r30.2.2.1,r30.2.2.2.1,(r30.2.2.2.2.1.set n40 r42.2),())) else(bif (w.odec (d.1.2.1.2.2.2.2.1=4)) then(((zeu w) (d.1,r30.2.1,r30.2.2.1,r30.2.2.2.1,(r30.2.2.2.2.1.set n40 r42.2),())).bind fun r44=>(bif (!r44.1.1) then some (((12,()),r44.2)) else some (((0,()),r44.2)))) else some (((0,()),r30.2.1,r30.2.2.1,r30.2.2.2.1,(r30.2.2.2.2.1.set n40 r42.2),()))))))))) else none) else(bif (w.odec (d.1.2.1.2.2.2.2.1=4)) then(((zeu w) (d.1,r30.2)).bind fun r45=>(bif (!r45.1.1) then some (((12,()),r45.2)) else some (((0,()),r45.2)))) else some (((0,()),r30.2)))) else(bif (w.odec (d.1.2.1.2.2.2.2.1=4)) then(((zeu w) (d.1,r30.2)).bind fun r46=>(bif (!r46.1.1) then some (((12,()),r46.2)) else some (((0,()),r46.2)))) else some (((0,()),r30.2))))))))))))))
theorem zdg.bod:bodyB f252=true:=by kernel_rfl
abbrev zdg.env {α:Type}:Env α:=mE [(225,[⟨zhb.S,(zhb W0),none⟩]),(231,[⟨zfg.S,(zfg W0),none⟩]),(254,[⟨zh2.S,(zh2 W0),none⟩]),(69,[⟨zf2.S,(zf2 W0),none⟩]),(258,[⟨zdc.S,(zdc W0),none⟩]),(260,[⟨zdd.S,(zdd W0),none⟩]),(259,[⟨zf3.S,(zf3 W0),none⟩]),(261,[⟨zeu.S,(zeu W0),none⟩])] []
theorem zdg.ok (d:zdg.D):fB prog zdg.S zdg.env f252 d=(zdg W0) d:=by kernel_rfl
theorem zdg.sok:FSpec.ok zdg.S=true:=by kernel_rfl
theorem zdg.con (base:Nat):fO prog base 252 zdg.S (zdg W0):=fC (fn:=f252) rfl (by decide) (by kernel_rfl) mixed (cC (cc0 zhb.sok (zhb.con base) cn) (cC (cc0 zfg.sok (zfg.con base) cn) (cC (cc0 zh2.sok (zh2.con base) cn) (cC (cc0 zf2.sok (zf2.con base) cn) (cC (cc0 zdc.sok (zdc.con base) cn) (cC (cc0 zdd.sok (zdd.con base) cn) (cC (cc0 zf3.sok (zf3.con base) cn) (cC (cc0 zeu.sok (zeu.con base) cn) cN)))))))) lN zdg.ok
abbrev zik.S:FSpec:=⟨⟨k71,[]⟩,[⟨k2,[]⟩],true⟩
abbrev zik.D:Type:=((De3×Unit)×(Unit))
abbrev zik.R:Type:=k263
def zik (w:W)(d:zik.D):Option zik.R:=(bif (w.odec (d.1.1.2.2.2.2.2.2.2.1>0)) then some ((((w.imin d.1.1.2.2.2.2.2.2.2.1 d.1.1.2.2.2.2.2.2.1),()),())) else some (((d.1.1.2.2.2.2.2.2.1,()),())))
theorem zik.bod:bodyB f273=true:=by kernel_rfl
abbrev zik.env {α:Type}:Env α:=mE [] []
theorem zik.ok (d:zik.D):fB prog zik.S zik.env f273 d=(zik W0) d:=by kernel_rfl
theorem zik.sok:FSpec.ok zik.S=true:=by kernel_rfl
theorem zik.con (base:Nat):fO prog base 273 zik.S (zik W0):=fC (fn:=f273) rfl (by decide) (by kernel_rfl) mixed cN lN zik.ok
abbrev zev.S:FSpec:=⟨⟨k74,k43⟩,[⟨[],k42⟩],true⟩
abbrev zev.D:Type:=(k268×k217)
abbrev zev.R:Type:=((Unit)×k217)
def zev (w:W)(d:zev.D):Option zev.R:=(((zik w) (d.1.2,())).bind fun r1=>(bif w.odec (((d.2.2.1.length+([(d.1.2.1,r1.1)]:List (De3×Int×Unit)).length:Nat):Int)*(80:Nat)≤room) then some (((),d.2.1,(d.2.2.1++([(d.1.2.1,r1.1)]:List (De3×Int×Unit))),())) else none))
theorem zev.bod:bodyB f268=true:=by kernel_rfl
abbrev zev.env {α:Type}:Env α:=mE [(273,[⟨zik.S,(zik W0),none⟩])] []
theorem zev.ok (d:zev.D):fB prog zev.S zev.env f268 d=(zev W0) d:=by kernel_rfl
theorem zev.sok:FSpec.ok zev.S=true:=by kernel_rfl
theorem zev.con (base:Nat):fO prog base 268 zev.S (zev W0):=fC (fn:=f268) rfl (by decide) (by kernel_rfl) mixed (cC (cc0 zik.sok (zik.con base) cn) cN) lN zev.ok
abbrev zd4.S:FSpec:=⟨⟨k23,k43⟩,[⟨[],k42⟩],true⟩
abbrev zd4.D:Type:=(k225×k217)
abbrev zd4.R:Type:=((Unit)×k217)
def zd4 (w:W)(d:zd4.D):Option zd4.R:=(bif w.odec (0≤(0:Int)∧(0:Int)<(d.2.2.1.length:Int)) then((d.2.2.1[(0:Int).toNat]?).bind fun x1=>((d.2.2.1[(0:Int).toNat]?).bind fun x2=>(((d.2.2.1.set (0:Int).toNat ((x2.1.1,x2.1.2.1,x2.1.2.2.1,x2.1.2.2.2.1,x2.1.2.2.2.2.1,x2.1.2.2.2.2.2.1,(w.wr .i64 (x1.1.2.2.2.2.2.2.1-d.1.2.1)),x2.1.2.2.2.2.2.2.2),x2.2))[(0:Int).toNat]?).bind fun x3=>(((d.2.2.1.set (0:Int).toNat ((x2.1.1,x2.1.2.1,x2.1.2.2.1,x2.1.2.2.2.1,x2.1.2.2.2.2.1,x2.1.2.2.2.2.2.1,(w.wr .i64 (x1.1.2.2.2.2.2.2.1-d.1.2.1)),x2.1.2.2.2.2.2.2.2),x2.2))[(0:Int).toNat]?).bind fun x4=>((((d.2.2.1.set (0:Int).toNat ((x2.1.1,x2.1.2.1,x2.1.2.2.1,x2.1.2.2.2.1,x2.1.2.2.2.2.1,x2.1.2.2.2.2.2.1,(w.wr .i64 (x1.1.2.2.2.2.2.2.1-d.1.2.1)),x2.1.2.2.2.2.2.2.2),x2.2)).set (0:Int).toNat (x4.1,(w.wr .i64 (x3.2.1-d.1.2.1)),()))[(0:Int).toNat]?).bind fun x5=>(bif (w.odec (x5.2.1>0)) then some (((),d.2.1,((d.2.2.1.set (0:Int).toNat ((x2.1.1,x2.1.2.1,x2.1.2.2.1,x2.1.2.2.2.1,x2.1.2.2.2.2.1,x2.1.2.2.2.2.2.1,(w.wr .i64 (x1.1.2.2.2.2.2.2.1-d.1.2.1)),x2.1.2.2.2.2.2.2.2),x2.2)).set (0:Int).toNat (x4.1,(w.wr .i64 (x3.2.1-d.1.2.1)),())),())) else((((d.2.2.1.set (0:Int).toNat ((x2.1.1,x2.1.2.1,x2.1.2.2.1,x2.1.2.2.2.1,x2.1.2.2.2.2.1,x2.1.2.2.2.2.2.1,(w.wr .i64 (x1.1.2.2.2.2.2.2.1-d.1.2.1)),x2.1.2.2.2.2.2.2.2),x2.2)).set (0:Int).toNat (x4.1,(w.wr .i64 (x3.2.1-d.1.2.1)),()))[(0:Int).toNat]?).bind fun x6=>(((zaj w) (((),0,1,()),((d.2.2.1.set (0:Int).toNat ((x2.1.1,x2.1.2.1,x2.1.2.2.1,x2.1.2.2.2.1,x2.1.2.2.2.2.1,x2.1.2.2.2.2.2.1,(w.wr .i64 (x1.1.2.2.2.2.2.2.1-d.1.2.1)),x2.1.2.2.2.2.2.2.2),x2.2)).set (0:Int).toNat (x4.1,(w.wr .i64 (x3.2.1-d.1.2.1)),())),())).bind fun r7=>(bif (w.odec (x6.1.2.2.2.2.2.2.1>0)) then(((zev w) (((),x6.1,()),d.2.1,r7.2)).bind fun r8=>some (r8)) else some (((),d.2.1,r7.2))))))))))) else none)
theorem zd4.bod:bodyB f270=true:=by kernel_rfl
abbrev zd4.env {α:Type}:Env α:=mE [(250,[⟨zaj.S,(zaj W0),none⟩]),(268,[⟨zev.S,(zev W0),none⟩])] []
theorem zd4.ok (d:zd4.D):fB prog zd4.S zd4.env f270 d=(zd4 W0) d:=by kernel_rfl
theorem zd4.sok:FSpec.ok zd4.S=true:=by kernel_rfl
theorem zd4.con (base:Nat):fO prog base 270 zd4.S (zd4 W0):=fC (fn:=f270) rfl (by decide) (by kernel_rfl) mixed (cC (cc0 zaj.sok (zaj.con base) cn) (cC (cc0 zev.sok (zev.con base) cn) cN)) lN zd4.ok
abbrev k77:List (Nat×OPat):=[k181,k173,(51, .row (.cons ty3 (.cons (.int .i64) .nil)))]
abbrev zb1.S:LSpec:=⟨⟨[(0, .ptr 0),k138,k139,(8, .own 2)],[k161,k162,(2, .row (.cons ty3 (.cons (.int .i64) .nil)))]⟩,[⟨[(6, .own 51),(7, .hole .bool)],k77⟩,⟨[(8, .hole (.deep (.cons ty3 (.cons (.int .i64) .nil))))],k42⟩],[.ret,(.exit 0)],f262.ntmps⟩
abbrev k288:Type:=((Int×Unit×Unit)×k239×k239×Unit)
abbrev zb1.D:Type:=((Unit×Int×Int×Unit×Unit)×k288)
abbrev zb1.R:Type:=((k247×k288)⊕((k239×Unit)×k217))
def zb1 (w:W)(d:zb1.D):Option (zb1.D⊕zb1.R):=(bif (w.odec (d.1.2.2.1>0)) then(bif (w.odec ((d.2.2.1.length:Int)>0)) then(bif w.odec (0≤(0:Int)∧(0:Int)<(d.2.2.1.length:Int)) then((d.2.2.1[(0:Int).toNat]?).bind fun x1=>(bif (w.odec (x1.1.2.2.1=d.1.2.1)) then some (.inr (.inl (((),true,()),d.2))) else(bif w.odec (((d.2.2.2.1.length+([(x1.1,(w.imin d.1.2.2.1 x1.2.1),())]:List (De3×Int×Unit)).length:Nat):Int)*(80:Nat)≤room) then(((zd4 w) (((),(w.imin d.1.2.2.1 x1.2.1),()),d.2.1,d.2.2.1,())).bind fun r2=>some (.inl (((),d.1.2.1,(w.wr .i64 (d.1.2.2.1-(w.imin d.1.2.2.1 x1.2.1))),(),()),r2.2.1,r2.2.2.1,(d.2.2.2.1++([(x1.1,(w.imin d.1.2.2.1 x1.2.1),())]:List (De3×Int×Unit))),()))) else none))) else none) else some (.inr (.inr (d.2.2.2,d.2.1,d.2.2.1,())))) else some (.inr (.inr (d.2.2.2,d.2.1,d.2.2.1,()))))
abbrev zd5.S:FSpec:=⟨⟨k57,k43⟩,[⟨[(0, .own 51),k154],k77⟩,⟨[k171,k154],k42⟩],false⟩
abbrev zd5.D:Type:=(k226×k217)
abbrev zd5.R:Type:=((k247×k288)⊕((k239×Bool×Unit)×k217))
def zd5 (w:W)(d:zd5.D):Option zd5.R:=((w.loopFix (L:=zb1.D) (zb1 w) (((),d.1.2.1,d.1.2.2.1,(),()),d.2.1,d.2.2.1,([]:List (De3×Int×Unit)),())).bind fun r3=>(match r3 with| .inl r4=>some ((.inl r4))| .inr r5=>some ((.inr ((r5.1.1,false,()),r5.2)))))
theorem zd5.bod:bodyB f262=true:=by kernel_rfl
abbrev zb1.env {α:Type}:Env α:=mE [(270,[⟨zd4.S,(zd4 W0),none⟩])] []
theorem zb1.ok (d:zb1.D):lB prog zb1.S zb1.env f262 2 d=(zb1 W0) d:=by kernel_rfl
theorem zb1.sok:LSpec.ok zb1.S=true:=by kernel_rfl
theorem zb1.con (base:Nat):rO prog base f262 2 zb1.S (zb1 W0):=lK zb1.sok zd5.bod mixed (cC (cc0 zd4.sok (zd4.con base) cn) cN) lN zb1.ok
abbrev zd5.env {α:Type}:Env α:=mE [] [(2,[⟨zb1.S,(zb1 W0)⟩])]
theorem zd5.ok (d:zd5.D):fB prog zd5.S zd5.env f262 d=(zd5 W0) d:=by kernel_rfl
theorem zd5.sok:FSpec.ok zd5.S=true:=by kernel_rfl
theorem zd5.con (base:Nat):fO prog base 262 zd5.S (zd5 W0):=fC (fn:=f262) rfl (by decide) (by kernel_rfl) mixed cN (lC (lc zb1.sok (zb1.con base) ln) lN) zd5.ok
abbrev k78:List (Nat×OPat):=[k206,(1, .row (.ref 197)),k177,(3, .var (.hole ty3)),(4, .row ty11),k145]
abbrev k79:List (Nat×OPat):=[k164,(3, .var (.hole ty3)),k165,k143,(52, .row ty11),k145]
abbrev zcr.S:LSpec:=⟨⟨[(0, .ptr 0),(3, .ptr 3),(7, .own 4),(8, .pth 0 [.fld 0, .fld 0]),k168,(11, .hole .bool),(56, .hole (.deep (.cons ty3 (.cons (.int .i64) .nil)))),(57, .hole (.int .i64)),(58, .hole (.int .i64))],k78⟩,[⟨[(0, .ptr 0),(3, .ptr 3),(7, .own 52),(8, .pth 0 [.fld 0, .fld 0]),(11, .hole .bool)],k79⟩],[(.exit 2)],f253.ntmps⟩
abbrev k252:Type:=(k213×(List Nat)×(List Nat)×De3×(List De11)×(List E197)×Unit)
abbrev zcr.D:Type:=((Unit×Unit×Unit×Unit×Int×Bool×k239×Int×Int×Unit)×k252)
abbrev k253:Type:=(k213×De3×(List Nat)×(List Nat)×(List De11)×(List E197)×Unit)
abbrev zcr.R:Type:=((Unit×Unit×Unit×Unit×Bool×Unit)×k253)
def zcr (w:W)(d:zcr.D):Option (zcr.D⊕zcr.R):=(bif (w.odec (d.1.2.2.2.2.2.2.2.2.1<d.1.2.2.2.2.2.2.2.1)) then(bif w.odec (0≤d.1.2.2.2.2.2.2.2.2.1) then((d.1.2.2.2.2.2.2.1[d.1.2.2.2.2.2.2.2.2.1.toNat]?).bind fun x21=>(bif w.odec (((d.2.2.2.2.2.1.length+([(x21.1,d.2.2.2.2.1,d.1.2.2.2.2.1,x21.2.1,(w.wr .i64 (d.2.1.2.2.1+1)),())]:List De11).length:Nat):Int)*(168:Nat)≤room) then some (.inl (((),(),(),(),d.1.2.2.2.2.1,d.1.2.2.2.2.2.1,d.1.2.2.2.2.2.2.1,d.1.2.2.2.2.2.2.2.1,(w.wr .i64 (d.1.2.2.2.2.2.2.2.2.1+1)),()),(((),(),()),d.1.2.2.2.2.1,(w.wr .i64 (d.2.1.2.2.1+1)),()),d.2.2.1,d.2.2.2.1,(d.2.2.2.2.1.1,d.2.2.2.2.1.2.1,d.2.2.2.2.1.2.2.1,d.2.2.2.2.1.2.2.2.1,d.2.2.2.2.1.2.2.2.2.1,d.2.2.2.2.1.2.2.2.2.2.1,(w.wr .i64 (d.2.2.2.2.1.2.2.2.2.2.2.1-x21.2.1)),d.2.2.2.2.1.2.2.2.2.2.2.2),(d.2.2.2.2.2.1++([(x21.1,d.2.2.2.2.1,d.1.2.2.2.2.1,x21.2.1,(w.wr .i64 (d.2.1.2.2.1+1)),())]:List De11)),d.2.2.2.2.2.2)) else none)) else none) else some (.inr (((),(),(),(),d.1.2.2.2.2.2.1,()),d.2.1,d.2.2.2.2.1,d.2.2.1,d.2.2.2.1,d.2.2.2.2.2)))
abbrev k80:List (Nat×Pat):=[(4, .own 52),k140,(6, .hole .bool)]
abbrev k81:List (Nat×Pat):=[(3, .ptr 3),(7, .hole (.deep ty11))]
abbrev zcs.S:LSpec:=⟨⟨[(0, .ptr 0),(3, .ptr 3),(7, .own 4),(8, .pth 0 [.fld 0, .fld 0])],k78⟩,[⟨k80,k79⟩,⟨k81,k54⟩],[.ret,(.exit 0)],f253.ntmps⟩
abbrev zcs.D:Type:=((Unit×Unit×Unit×Unit×Unit)×k252)
abbrev k293:Type:=(((Unit×Int×Bool×Unit)×k253)⊕((Unit×(List De11)×Unit)×k219))
abbrev zcs.R:Type:=k293
def zcs (w:W)(d:zcs.D):Option (zcs.D⊕zcs.R):=(bif (w.odec (d.2.2.2.2.1.2.2.2.2.2.2.1>0)) then(bif (w.odec ((d.2.2.1.length:Int)>0)) then(bif w.odec (0≤(0:Int)∧(0:Int)<(d.2.2.1.length:Int)) then((d.2.2.1[(0:Int).toNat]?).bind fun x6=>(onS x6 fun n7=>((d.2.2.2.2.2.2.1[n7]?).bind fun e8=>(((zdd w) (((),()),e8)).bind fun r9=>(((zf3 w) ((d.2.2.2.2.1,r9.1),())).bind fun r10=>(bif r10.1.1 then(bif w.odec (0≤(0:Int)∧(0:Int)<(d.2.2.1.length:Int)) then((d.2.2.1[(0:Int).toNat]?).bind fun x11=>(onS x11 fun n12=>(((d.2.2.2.2.2.2.1.set n7 r9.2)[n12]?).bind fun e13=>(((zdd w) (((),()),e13)).bind fun r14=>(bif w.odec (0≤(0:Int)∧(0:Int)<(d.2.2.1.length:Int)) then((d.2.2.1[(0:Int).toNat]?).bind fun x15=>(onS x15 fun n16=>((((d.2.2.2.2.2.2.1.set n7 r9.2).set n12 r14.2)[n16]?).bind fun e17=>(((zd5 w) (((),d.2.2.2.2.1.2.2.1,d.2.2.2.2.1.2.2.2.2.2.2.1,()),e17)).bind fun r18=>(match r18 with| .inl r19=>((w.loopFix (L:=zcr.D) (zcr w) (((),(),(),(),r14.1.1,r19.1.2.1,r19.2.2.2.1,(r19.2.2.2.1.length:Int),0,()),d.2.1,d.2.2.1,d.2.2.2.1,d.2.2.2.2.1,d.2.2.2.2.2.1,(((d.2.2.2.2.2.2.1.set n7 r9.2).set n12 r14.2).set n16 (r19.2.1,r19.2.2.1,())),())).bind fun r22=>(((zhy w) (((),0,()),r22.2.1,r22.2.2.2.1,r22.2.2.2.2.1,r22.2.2.2.2.2.2)).bind fun r23=>(bif r22.1.2.2.2.2.1 then some (.inr (.inl (((),r22.2.2.1.2.2.2.2.2.2.1,true,()),r23.2.1,r22.2.2.1,r23.2.2.1,r23.2.2.2.1,r22.2.2.2.2.2.1,r23.2.2.2.2))) else some (.inl (((),(),(),(),()),r23.2.1,r23.2.2.1,r23.2.2.2.1,r22.2.2.1,r22.2.2.2.2.2.1,r23.2.2.2.2)))))| .inr r20=>((w.loopFix (L:=zcr.D) (zcr w) (((),(),(),(),r14.1.1,r20.1.2.1,r20.1.1,(r20.1.1.length:Int),0,()),d.2.1,d.2.2.1,d.2.2.2.1,d.2.2.2.2.1,d.2.2.2.2.2.1,(((d.2.2.2.2.2.2.1.set n7 r9.2).set n12 r14.2).set n16 r20.2),())).bind fun r24=>(((zhy w) (((),0,()),r24.2.1,r24.2.2.2.1,r24.2.2.2.2.1,r24.2.2.2.2.2.2)).bind fun r25=>(bif r24.1.2.2.2.2.1 then some (.inr (.inl (((),r24.2.2.1.2.2.2.2.2.2.1,true,()),r25.2.1,r24.2.2.1,r25.2.2.1,r25.2.2.2.1,r24.2.2.2.2.2.1,r25.2.2.2.2))) else some (.inl (((),(),(),(),()),r25.2.1,r25.2.2.1,r25.2.2.2.1,r24.2.2.1,r24.2.2.2.2.2.1,r25.2.2.2.2)))))))))) else none))))) else none) else some (.inr (.inr (((),d.2.2.2.2.2.1,()),d.2.1,d.2.2.2.2.1,d.2.2.1,d.2.2.2.1,(d.2.2.2.2.2.2.1.set n7 r9.2),()))))))))) else none) else some (.inr (.inr (((),d.2.2.2.2.2.1,()),d.2.1,d.2.2.2.2.1,d.2.2.1,d.2.2.2.1,d.2.2.2.2.2.2)))) else some (.inr (.inr (((),d.2.2.2.2.2.1,()),d.2.1,d.2.2.2.2.1,d.2.2.1,d.2.2.2.1,d.2.2.2.2.2.2))))
abbrev zb2.S:LSpec:=⟨⟨[(0, .ptr 0),(3, .ptr 3),(7, .own 4),(8, .pth 0 [.fld 0, .fld 1]),k168,(11, .hole .bool),(56, .hole (.deep (.cons ty3 (.cons (.int .i64) .nil)))),(57, .hole (.int .i64)),(58, .hole (.int .i64))],k78⟩,[⟨[(0, .ptr 0),(3, .ptr 3),(7, .own 52),(8, .pth 0 [.fld 0, .fld 1]),(11, .hole .bool)],k79⟩],[(.exit 2)],f253.ntmps⟩
abbrev zb2.D:Type:=((Unit×Unit×Unit×Unit×Int×Bool×k239×Int×Int×Unit)×k252)
abbrev zb2.R:Type:=((Unit×Unit×Unit×Unit×Bool×Unit)×k253)
def zb2 (w:W)(d:zb2.D):Option (zb2.D⊕zb2.R):=(bif (w.odec (d.1.2.2.2.2.2.2.2.2.1<d.1.2.2.2.2.2.2.2.1)) then(bif w.odec (0≤d.1.2.2.2.2.2.2.2.2.1) then((d.1.2.2.2.2.2.2.1[d.1.2.2.2.2.2.2.2.2.1.toNat]?).bind fun x44=>(bif w.odec (((d.2.2.2.2.2.1.length+([(x44.1,d.2.2.2.2.1,d.1.2.2.2.2.1,x44.2.1,(w.wr .i64 (d.2.1.2.2.1+1)),())]:List De11).length:Nat):Int)*(168:Nat)≤room) then some (.inl (((),(),(),(),d.1.2.2.2.2.1,d.1.2.2.2.2.2.1,d.1.2.2.2.2.2.2.1,d.1.2.2.2.2.2.2.2.1,(w.wr .i64 (d.1.2.2.2.2.2.2.2.2.1+1)),()),(((),(),()),d.1.2.2.2.2.1,(w.wr .i64 (d.2.1.2.2.1+1)),()),d.2.2.1,d.2.2.2.1,(d.2.2.2.2.1.1,d.2.2.2.2.1.2.1,d.2.2.2.2.1.2.2.1,d.2.2.2.2.1.2.2.2.1,d.2.2.2.2.1.2.2.2.2.1,d.2.2.2.2.1.2.2.2.2.2.1,(w.wr .i64 (d.2.2.2.2.1.2.2.2.2.2.2.1-x44.2.1)),d.2.2.2.2.1.2.2.2.2.2.2.2),(d.2.2.2.2.2.1++([(x44.1,d.2.2.2.2.1,d.1.2.2.2.2.1,x44.2.1,(w.wr .i64 (d.2.1.2.2.1+1)),())]:List De11)),d.2.2.2.2.2.2)) else none)) else none) else some (.inr (((),(),(),(),d.1.2.2.2.2.2.1,()),d.2.1,d.2.2.2.2.1,d.2.2.1,d.2.2.2.1,d.2.2.2.2.2)))
abbrev zb3.S:LSpec:=⟨⟨[(0, .ptr 0),(3, .ptr 3),(7, .own 4),(8, .pth 0 [.fld 0, .fld 1])],k78⟩,[⟨k80,k79⟩,⟨k81,k54⟩],[.ret,(.exit 0)],f253.ntmps⟩
abbrev zb3.D:Type:=((Unit×Unit×Unit×Unit×Unit)×k252)
abbrev zb3.R:Type:=k293
def zb3 (w:W)(d:zb3.D):Option (zb3.D⊕zb3.R):=(bif (w.odec (d.2.2.2.2.1.2.2.2.2.2.2.1>0)) then(bif (w.odec ((d.2.2.2.1.length:Int)>0)) then(bif w.odec (0≤(0:Int)∧(0:Int)<(d.2.2.2.1.length:Int)) then((d.2.2.2.1[(0:Int).toNat]?).bind fun x29=>(onS x29 fun n30=>((d.2.2.2.2.2.2.1[n30]?).bind fun e31=>(((zdd w) (((),()),e31)).bind fun r32=>(((zf3 w) ((d.2.2.2.2.1,r32.1),())).bind fun r33=>(bif r33.1.1 then(bif w.odec (0≤(0:Int)∧(0:Int)<(d.2.2.2.1.length:Int)) then((d.2.2.2.1[(0:Int).toNat]?).bind fun x34=>(onS x34 fun n35=>(((d.2.2.2.2.2.2.1.set n30 r32.2)[n35]?).bind fun e36=>(((zdd w) (((),()),e36)).bind fun r37=>(bif w.odec (0≤(0:Int)∧(0:Int)<(d.2.2.2.1.length:Int)) then((d.2.2.2.1[(0:Int).toNat]?).bind fun x38=>(onS x38 fun n39=>((((d.2.2.2.2.2.2.1.set n30 r32.2).set n35 r37.2)[n39]?).bind fun e40=>(((zd5 w) (((),d.2.2.2.2.1.2.2.1,d.2.2.2.2.1.2.2.2.2.2.2.1,()),e40)).bind fun r41=>(match r41 with| .inl r42=>((w.loopFix (L:=zb2.D) (zb2 w) (((),(),(),(),r37.1.1,r42.1.2.1,r42.2.2.2.1,(r42.2.2.2.1.length:Int),0,()),d.2.1,d.2.2.1,d.2.2.2.1,d.2.2.2.2.1,d.2.2.2.2.2.1,(((d.2.2.2.2.2.2.1.set n30 r32.2).set n35 r37.2).set n39 (r42.2.1,r42.2.2.1,())),())).bind fun r45=>(((zf0 w) (((),0,()),r45.2.1,r45.2.2.2.1,r45.2.2.2.2.1,r45.2.2.2.2.2.2)).bind fun r46=>(bif r45.1.2.2.2.2.1 then some (.inr (.inl (((),r45.2.2.1.2.2.2.2.2.2.1,true,()),r46.2.1,r45.2.2.1,r46.2.2.1,r46.2.2.2.1,r45.2.2.2.2.2.1,r46.2.2.2.2))) else some (.inl (((),(),(),(),()),r46.2.1,r46.2.2.1,r46.2.2.2.1,r45.2.2.1,r45.2.2.2.2.2.1,r46.2.2.2.2)))))| .inr r43=>((w.loopFix (L:=zb2.D) (zb2 w) (((),(),(),(),r37.1.1,r43.1.2.1,r43.1.1,(r43.1.1.length:Int),0,()),d.2.1,d.2.2.1,d.2.2.2.1,d.2.2.2.2.1,d.2.2.2.2.2.1,(((d.2.2.2.2.2.2.1.set n30 r32.2).set n35 r37.2).set n39 r43.2),())).bind fun r47=>(((zf0 w) (((),0,()),r47.2.1,r47.2.2.2.1,r47.2.2.2.2.1,r47.2.2.2.2.2.2)).bind fun r48=>(bif r47.1.2.2.2.2.1 then some (.inr (.inl (((),r47.2.2.1.2.2.2.2.2.2.1,true,()),r48.2.1,r47.2.2.1,r48.2.2.1,r48.2.2.2.1,r47.2.2.2.2.2.1,r48.2.2.2.2))) else some (.inl (((),(),(),(),()),r48.2.1,r48.2.2.1,r48.2.2.2.1,r47.2.2.1,r47.2.2.2.2.2.1,r48.2.2.2.2)))))))))) else none))))) else none) else some (.inr (.inr (((),d.2.2.2.2.2.1,()),d.2.1,d.2.2.2.2.1,d.2.2.1,d.2.2.2.1,(d.2.2.2.2.2.2.1.set n30 r32.2),()))))))))) else none) else some (.inr (.inr (((),d.2.2.2.2.2.1,()),d.2.1,d.2.2.2.2.1,d.2.2.1,d.2.2.2.1,d.2.2.2.2.2.2)))) else some (.inr (.inr (((),d.2.2.2.2.2.1,()),d.2.1,d.2.2.2.2.1,d.2.2.1,d.2.2.2.1,d.2.2.2.2.2.2))))
abbrev zew.S:FSpec:=⟨⟨k74,k38⟩,[⟨[(0, .own 52),k138,(2, .hole .bool)],[k164,k165,k143,(52, .row ty11),k145]⟩,⟨[(0, .hole (.deep ty11)),k138,(2, .hole .bool)],k39⟩],false⟩
abbrev zew.D:Type:=(k268×k214)
abbrev zew.R:Type:=(((Unit×Int×Bool×Unit)×(k213×(List Nat)×(List Nat)×(List De11)×(List E197)×Unit))⊕(((List De11)×Int×Bool×Unit)×k214))
def zew (w:W)(d:zew.D):Option zew.R:=(((zdc w) d).bind fun r1=>(match r1 with| .inl r2=>none| .inr r3=>(match r3 with| .inl r4=>((w.loopFix (L:=zcs.D) (zcs w) (((),(),(),(),()),r4.2.1,r4.2.2.1,r4.2.2.2.1,d.1.2.1,([]:List De11),r4.2.2.2.2)).bind fun r26=>(match r26 with| .inl r27=>some ((.inl (r27.1,r27.2.1,r27.2.2.2)))| .inr r28=>some ((.inr ((r28.1.2.1,r28.2.2.1.2.2.2.2.2.2.1,false,()),r28.2.1,r28.2.2.2)))))| .inr r5=>((w.loopFix (L:=zb3.D) (zb3 w) (((),(),(),(),()),r5.2.1,r5.2.2.1,r5.2.2.2.1,d.1.2.1,([]:List De11),r5.2.2.2.2)).bind fun r49=>(match r49 with| .inl r50=>some ((.inl (r50.1,r50.2.1,r50.2.2.2)))| .inr r51=>some ((.inr ((r51.1.2.1,r51.2.2.1.2.2.2.2.2.2.1,false,()),r51.2.1,r51.2.2.2))))))))
theorem zew.bod:bodyB f253=true:=by kernel_rfl
abbrev zcr.env {α:Type}:Env α:=mE [] []
theorem zcr.ok (d:zcr.D):lB prog zcr.S zcr.env f253 7 d=(zcr W0) d:=by kernel_rfl
theorem zcr.sok:LSpec.ok zcr.S=true:=by kernel_rfl
theorem zcr.con (base:Nat):rO prog base f253 7 zcr.S (zcr W0):=lK zcr.sok zew.bod mixed cN lN zcr.ok
abbrev zcs.env {α:Type}:Env α:=mE [(260,[⟨zdd.S,(zdd W0),none⟩]),(259,[⟨zf3.S,(zf3 W0),none⟩]),(262,[⟨zd5.S,(zd5 W0),none⟩]),(241,[⟨zhy.S,(zhy W0),none⟩])] [(7,[⟨zcr.S,(zcr W0)⟩])]
theorem zcs.ok (d:zcs.D):lB prog zcs.S zcs.env f253 3 d=(zcs W0) d:=by kernel_rfl
theorem zcs.sok:LSpec.ok zcs.S=true:=by kernel_rfl
theorem zcs.con (base:Nat):rO prog base f253 3 zcs.S (zcs W0):=lK zcs.sok zew.bod mixed (cC (cc0 zdd.sok (zdd.con base) cn) (cC (cc0 zf3.sok (zf3.con base) cn) (cC (cc0 zd5.sok (zd5.con base) cn) (cC (cc0 zhy.sok (zhy.con base) cn) cN)))) (lC (lc zcr.sok (zcr.con base) ln) lN) zcs.ok
abbrev zb2.env {α:Type}:Env α:=mE [] []
theorem zb2.ok (d:zb2.D):lB prog zb2.S zb2.env f253 7 d=(zb2 W0) d:=by kernel_rfl
theorem zb2.sok:LSpec.ok zb2.S=true:=by kernel_rfl
theorem zb2.con (base:Nat):rO prog base f253 7 zb2.S (zb2 W0):=lK zb2.sok zew.bod mixed cN lN zb2.ok
abbrev zb3.env {α:Type}:Env α:=mE [(260,[⟨zdd.S,(zdd W0),none⟩]),(259,[⟨zf3.S,(zf3 W0),none⟩]),(262,[⟨zd5.S,(zd5 W0),none⟩]),(241,[⟨zf0.S,(zf0 W0),none⟩])] [(7,[⟨zb2.S,(zb2 W0)⟩])]
theorem zb3.ok (d:zb3.D):lB prog zb3.S zb3.env f253 3 d=(zb3 W0) d:=by kernel_rfl
theorem zb3.sok:LSpec.ok zb3.S=true:=by kernel_rfl
theorem zb3.con (base:Nat):rO prog base f253 3 zb3.S (zb3 W0):=lK zb3.sok zew.bod mixed (cC (cc0 zdd.sok (zdd.con base) cn) (cC (cc0 zf3.sok (zf3.con base) cn) (cC (cc0 zd5.sok (zd5.con base) cn) (cC (cc0 zf0.sok (zf0.con base) cn) cN)))) (lC (lc zb2.sok (zb2.con base) ln) lN) zb3.ok
abbrev zew.env {α:Type}:Env α:=mE [(258,[⟨zdc.S,(zdc W0),none⟩])] [(3,[⟨zcs.S,(zcs W0)⟩,⟨zb3.S,(zb3 W0)⟩])]
theorem zew.ok (d:zew.D):fB prog zew.S zew.env f253 d=(zew W0) d:=by kernel_rfl
theorem zew.sok:FSpec.ok zew.S=true:=by kernel_rfl
theorem zew.con (base:Nat):fO prog base 253 zew.S (zew W0):=fC (fn:=f253) rfl (by decide) (by kernel_rfl) mixed (cC (cc0 zdc.sok (zdc.con base) cn) cN) (lC (lc zcs.sok (zcs.con base) (lc zb3.sok (zb3.con base) ln)) lN) zew.ok
abbrev zgf.S:FSpec:=⟨⟨k1,[]⟩,[⟨k12,[]⟩],true⟩
abbrev zgf.D:Type:=((Int×Int×Int×Unit)×(Unit))
abbrev zgf.R:Type:=k248
def zgf (w:W)(d:zgf.D):Option zgf.R:=(bif (w.odec (d.1.1=1)) then some ((((w.odec (d.1.2.1>d.1.2.2.1)),()),())) else some ((((w.odec (d.1.2.1<d.1.2.2.1)),()),())))
theorem zgf.bod:bodyB f265=true:=by kernel_rfl
abbrev zgf.env {α:Type}:Env α:=mE [] []
theorem zgf.ok (d:zgf.D):fB prog zgf.S zgf.env f265 d=(zgf W0) d:=by kernel_rfl
theorem zgf.sok:FSpec.ok zgf.S=true:=by kernel_rfl
theorem zgf.con (base:Nat):fO prog base 265 zgf.S (zgf W0):=fC (fn:=f265) rfl (by decide) (by kernel_rfl) mixed cN lN zgf.ok
abbrev zd6.S:FSpec:=⟨⟨[(0, .ptr 0),(1, .ptr 2)],[k161,k162,(2, .var (.hole ty3))]⟩,[⟨k12,[k181,(2, .var (.hole ty3)),k173]⟩],true⟩
abbrev zd6.D:Type:=(k228×((Int×Unit×Unit)×k239×De3×Unit))
abbrev zd6.R:Type:=(k229×((Int×Unit×Unit)×De3×k239×Unit))
def zd6 (w:W)(d:zd6.D):Option zd6.R:=(((zdd w) (((),()),d.2.1,d.2.2.1,())).bind fun r1=>(((zgf w) ((d.2.2.2.1.2.2.2.1,r1.1.1,d.2.2.2.1.2.2.2.2.2.1,()),())).bind fun r2=>some ((((!r2.1.1),()),r1.2.1,d.2.2.2.1,r1.2.2))))
theorem zd6.bod:bodyB f264=true:=by kernel_rfl
abbrev zd6.env {α:Type}:Env α:=mE [(260,[⟨zdd.S,(zdd W0),none⟩]),(265,[⟨zgf.S,(zgf W0),none⟩])] []
theorem zd6.ok (d:zd6.D):fB prog zd6.S zd6.env f264 d=(zd6 W0) d:=by kernel_rfl
theorem zd6.sok:FSpec.ok zd6.S=true:=by kernel_rfl
theorem zd6.con (base:Nat):fO prog base 264 zd6.S (zd6 W0):=fC (fn:=f264) rfl (by decide) (by kernel_rfl) mixed (cC (cc0 zdd.sok (zdd.con base) cn) (cC (cc0 zgf.sok (zgf.con base) cn) cN)) lN zd6.ok
abbrev k82:List (Nat×OPat):=[(0, .var (.hole ty3)),k145]
abbrev zab.S:LSpec:=⟨⟨[(0, .hole (.deep (.ref 197))),(1, .clo (.func 264) [.ptr 0]),k141,k172],k82⟩,[⟨k59,k82⟩,⟨[],k82⟩],[.ret,(.exit 0)],f263.ntmps⟩
abbrev k281:Type:=(De3×(List E197)×Unit)
abbrev zab.D:Type:=(((List Nat)×k221×Int×Int×Unit)×k281)
abbrev zab.R:Type:=((k231×k281)⊕((Unit)×k281))
def zab (w:W)(d:zab.D):Option (zab.D⊕zab.R):=(bif (w.odec (d.1.2.2.2.1<d.1.2.2.1)) then(bif w.odec (0≤d.1.2.2.2.1) then((d.1.1[d.1.2.2.2.1.toNat]?).bind fun x1=>(onS x1 fun n2=>((d.2.2.1[n2]?).bind fun e3=>(((zd6 w) (((),(),()),e3.1,e3.2.1,d.2.1,())).bind fun r4=>(bif r4.1.1 then some (.inr (.inl (d.1.2.2.2,r4.2.2.1,(d.2.2.1.set n2 (r4.2.1,r4.2.2.2)),()))) else some (.inl ((d.1.1,((),()),d.1.2.2.1,(w.wr .i64 (d.1.2.2.2.1+1)),()),r4.2.2.1,(d.2.2.1.set n2 (r4.2.1,r4.2.2.2)),()))))))) else none) else some (.inr (.inr ((),d.2))))
abbrev zae.S:FSpec:=⟨⟨[(0, .hole (.deep (.ref 197))),(1, .clo (.func 264) [.ptr 0])],k82⟩,[⟨k2,k82⟩],true⟩
abbrev zae.D:Type:=(((List Nat)×k221×Unit)×k281)
abbrev zae.R:Type:=(k231×k281)
def zae (w:W)(d:zae.D):Option zae.R:=((w.loopFix (L:=zab.D) (zab w) ((d.1.1,((),()),(d.1.1.length:Int),0,()),d.2)).bind fun r5=>(match r5 with| .inl r6=>some (r6)| .inr r7=>some ((((-1),()),r7.2))))
theorem zae.bod:bodyB f263=true:=by kernel_rfl
abbrev zab.env {α:Type}:Env α:=mE [(264,[⟨zd6.S,(zd6 W0),none⟩])] []
theorem zab.ok (d:zab.D):lB prog zab.S zab.env f263 2 d=(zab W0) d:=by kernel_rfl
theorem zab.sok:LSpec.ok zab.S=true:=by kernel_rfl
theorem zab.con (base:Nat):rO prog base f263 2 zab.S (zab W0):=lK zab.sok zae.bod mixed (cC (cc0 zd6.sok (zd6.con base) cn) cN) lN zab.ok
abbrev zae.env {α:Type}:Env α:=mE [] [(2,[⟨zab.S,(zab W0)⟩])]
theorem zae.ok (d:zae.D):fB prog zae.S zae.env f263 d=(zae W0) d:=by kernel_rfl
theorem zae.sok:FSpec.ok zae.S=true:=by kernel_rfl
theorem zae.con (base:Nat):fO prog base 263 zae.S (zae W0):=fC (fn:=f263) rfl (by decide) (by kernel_rfl) mixed cN (lC (lc zab.sok (zab.con base) ln) lN) zae.ok
abbrev zil.S:FSpec:=⟨⟨k2,[]⟩,[⟨[(0, .ptr 50)],[(50, .var (.agg [.hole (.int .i64), .own 51])),(51, .row (.cons ty3 (.cons (.int .i64) .nil)))]⟩],true⟩
abbrev zil.D:Type:=k263
abbrev zil.R:Type:=(k221×k217)
def zil (w:W)(d:zil.D):Option zil.R:=some ((((),()),(d.1.1,(),()),([]:List (De3×Int×Unit)),()))
theorem zil.bod:bodyB f267=true:=by kernel_rfl
abbrev zil.env {α:Type}:Env α:=mE [] []
theorem zil.ok (d:zil.D):fB prog zil.S zil.env f267 d=(zil W0) d:=by kernel_rfl
theorem zil.sok:FSpec.ok zil.S=true:=by kernel_rfl
theorem zil.con (base:Nat):fO prog base 267 zil.S (zil W0):=fC (fn:=f267) rfl (by decide) (by kernel_rfl) mixed cN lN zil.ok
abbrev zi4.S:FSpec:=⟨⟨[(0, .own 0),k138,(2, .own 1)],[(0, .row (.ref 197)),(1, .row (.ref 197)),k145]⟩,[⟨[(0, .own 50)],k62⟩],true⟩
def zi4 (w:W)(d:((Unit×Int×Unit×Unit)×((List Nat)×(List Nat)×(List E197)×Unit))):Option ((Unit×Unit)×((List Nat)×(List E197)×Unit)):=bif w.odec (0≤d.1.2.1∧d.1.2.1≤(d.2.1.length:Int)∧0<d.2.2.1.length∧(((d.2.1.length+d.2.2.1.length:Nat):Int)*8≤room)) then some (((),()),((d.2.1.take d.1.2.1.toNat++(d.2.2.1++d.2.1.drop d.1.2.1.toNat)),d.2.2.2.1,())) else none
theorem zi4.sok:FSpec.ok zi4.S=true:=by kernel_rfl
theorem zi4.con (base:Nat):fO prog base 266 zi4.S (zi4 W0):=ins_con base 197 ep197 zi4.sok fun d zs=>by kernel_rfl
abbrev zfi.S:FSpec:=⟨⟨k74,k38⟩,[⟨[],k39⟩],true⟩
abbrev zfi.D:Type:=(k268×k214)
abbrev zfi.R:Type:=((Unit)×k214)
def zfi (w:W)(d:zfi.D):Option zfi.R:=(((zfb w) (((),d.1.2.1.2.2.2.1,()),d.2)).bind fun r1=>(match r1 with| .inl r2=>none| .inr r3=>(match r3 with| .inl r4=>(((zae w) ((r4.2.2.1,((),()),()),d.1.2.1,r4.2.2.2.2)).bind fun r6=>(bif (w.odec (r6.1.1<0)) then(bif (w.odec ((r4.2.2.1.length:Int)=(r4.2.2.1.length:Int))) then(((zil w) ((r6.2.1.2.2.2.2.2.1,()),())).bind fun r7=>(((zi4 w) (((),(r4.2.2.1.length:Int),(),()),r4.2.2.1,([(r6.2.2.1.length+1)]:List Nat),(r6.2.2.1++ [r7.2]),())).bind fun r8=>(bif w.odec (0≤(r4.2.2.1.length:Int)∧(r4.2.2.1.length:Int)<(r8.2.1.length:Int)) then((r8.2.1[(r4.2.2.1.length:Int).toNat]?).bind fun x9=>(onS x9 fun n10=>((r8.2.2.1[n10]?).bind fun e11=>(((zev w) (((),r6.2.1,()),e11)).bind fun r12=>some (((),r4.2.1,r8.2.1,r4.2.2.2.1,(r8.2.2.1.set n10 r12.2),())))))) else none))) else(bif w.odec (0≤(r4.2.2.1.length:Int)∧(r4.2.2.1.length:Int)<(r4.2.2.1.length:Int)) then((r4.2.2.1[(r4.2.2.1.length:Int).toNat]?).bind fun x13=>(onS x13 fun n14=>((r6.2.2.1[n14]?).bind fun e15=>(((zdd w) (((),()),e15)).bind fun r16=>(bif (!w.odec (r16.1.1=r6.2.1.2.2.2.2.2.1)) then(((zil w) ((r6.2.1.2.2.2.2.2.1,()),())).bind fun r17=>(((zi4 w) (((),(r4.2.2.1.length:Int),(),()),r4.2.2.1,([((r6.2.2.1.set n14 r16.2).length+1)]:List Nat),((r6.2.2.1.set n14 r16.2)++ [r17.2]),())).bind fun r18=>(bif w.odec (0≤(r4.2.2.1.length:Int)∧(r4.2.2.1.length:Int)<(r18.2.1.length:Int)) then((r18.2.1[(r4.2.2.1.length:Int).toNat]?).bind fun x19=>(onS x19 fun n20=>((r18.2.2.1[n20]?).bind fun e21=>(((zev w) (((),r6.2.1,()),e21)).bind fun r22=>some (((),r4.2.1,r18.2.1,r4.2.2.2.1,(r18.2.2.1.set n20 r22.2),())))))) else none))) else(bif w.odec (0≤(r4.2.2.1.length:Int)∧(r4.2.2.1.length:Int)<(r4.2.2.1.length:Int)) then((r4.2.2.1[(r4.2.2.1.length:Int).toNat]?).bind fun x23=>(onS x23 fun n24=>(((r6.2.2.1.set n14 r16.2)[n24]?).bind fun e25=>(((zev w) (((),r6.2.1,()),e25)).bind fun r26=>some (((),r4.2.1,r4.2.2.1,r4.2.2.2.1,((r6.2.2.1.set n14 r16.2).set n24 r26.2),())))))) else none)))))) else none)) else(bif (w.odec (r6.1.1=(r4.2.2.1.length:Int))) then(((zil w) ((r6.2.1.2.2.2.2.2.1,()),())).bind fun r27=>(((zi4 w) (((),r6.1.1,(),()),r4.2.2.1,([(r6.2.2.1.length+1)]:List Nat),(r6.2.2.1++ [r27.2]),())).bind fun r28=>(bif w.odec (0≤r6.1.1∧r6.1.1<(r28.2.1.length:Int)) then((r28.2.1[r6.1.1.toNat]?).bind fun x29=>(onS x29 fun n30=>((r28.2.2.1[n30]?).bind fun e31=>(((zev w) (((),r6.2.1,()),e31)).bind fun r32=>some (((),r4.2.1,r28.2.1,r4.2.2.2.1,(r28.2.2.1.set n30 r32.2),())))))) else none))) else(bif w.odec (0≤r6.1.1∧r6.1.1<(r4.2.2.1.length:Int)) then((r4.2.2.1[r6.1.1.toNat]?).bind fun x33=>(onS x33 fun n34=>((r6.2.2.1[n34]?).bind fun e35=>(((zdd w) (((),()),e35)).bind fun r36=>(bif (!w.odec (r36.1.1=r6.2.1.2.2.2.2.2.1)) then(((zil w) ((r6.2.1.2.2.2.2.2.1,()),())).bind fun r37=>(((zi4 w) (((),r6.1.1,(),()),r4.2.2.1,([((r6.2.2.1.set n34 r36.2).length+1)]:List Nat),((r6.2.2.1.set n34 r36.2)++ [r37.2]),())).bind fun r38=>(bif w.odec (0≤r6.1.1∧r6.1.1<(r38.2.1.length:Int)) then((r38.2.1[r6.1.1.toNat]?).bind fun x39=>(onS x39 fun n40=>((r38.2.2.1[n40]?).bind fun e41=>(((zev w) (((),r6.2.1,()),e41)).bind fun r42=>some (((),r4.2.1,r38.2.1,r4.2.2.2.1,(r38.2.2.1.set n40 r42.2),())))))) else none))) else(bif w.odec (0≤r6.1.1∧r6.1.1<(r4.2.2.1.length:Int)) then((r4.2.2.1[r6.1.1.toNat]?).bind fun x43=>(onS x43 fun n44=>(((r6.2.2.1.set n34 r36.2)[n44]?).bind fun e45=>(((zev w) (((),r6.2.1,()),e45)).bind fun r46=>some (((),r4.2.1,r4.2.2.1,r4.2.2.2.1,((r6.2.2.1.set n34 r36.2).set n44 r46.2),())))))) else none)))))) else none))))| .inr r5=>(((zae w) ((r5.2.2.2.1,((),()),()),d.1.2.1,r5.2.2.2.2)).bind fun r47=>(bif (w.odec (r47.1.1<0)) then(bif (w.odec ((r5.2.2.2.1.length:Int)=(r5.2.2.2.1.length:Int))) then(((zil w) ((r47.2.1.2.2.2.2.2.1,()),())).bind fun r48=>(((zi4 w) (((),(r5.2.2.2.1.length:Int),(),()),r5.2.2.2.1,([(r47.2.2.1.length+1)]:List Nat),(r47.2.2.1++ [r48.2]),())).bind fun r49=>(bif w.odec (0≤(r5.2.2.2.1.length:Int)∧(r5.2.2.2.1.length:Int)<(r49.2.1.length:Int)) then((r49.2.1[(r5.2.2.2.1.length:Int).toNat]?).bind fun x50=>(onS x50 fun n51=>((r49.2.2.1[n51]?).bind fun e52=>(((zev w) (((),r47.2.1,()),e52)).bind fun r53=>some (((),r5.2.1,r5.2.2.1,r49.2.1,(r49.2.2.1.set n51 r53.2),())))))) else none))) else(bif w.odec (0≤(r5.2.2.2.1.length:Int)∧(r5.2.2.2.1.length:Int)<(r5.2.2.2.1.length:Int)) then((r5.2.2.2.1[(r5.2.2.2.1.length:Int).toNat]?).bind fun x54=>(onS x54 fun n55=>((r47.2.2.1[n55]?).bind fun e56=>(((zdd w) (((),()),e56)).bind fun r57=>(bif (!w.odec (r57.1.1=r47.2.1.2.2.2.2.2.1)) then(((zil w) ((r47.2.1.2.2.2.2.2.1,()),())).bind fun r58=>(((zi4 w) (((),(r5.2.2.2.1.length:Int),(),()),r5.2.2.2.1,([((r47.2.2.1.set n55 r57.2).length+1)]:List Nat),((r47.2.2.1.set n55 r57.2)++ [r58.2]),())).bind fun r59=>(bif w.odec (0≤(r5.2.2.2.1.length:Int)∧(r5.2.2.2.1.length:Int)<(r59.2.1.length:Int)) then((r59.2.1[(r5.2.2.2.1.length:Int).toNat]?).bind fun x60=>(onS x60 fun n61=>((r59.2.2.1[n61]?).bind fun e62=>(((zev w) (((),r47.2.1,()),e62)).bind fun r63=>some (((),r5.2.1,r5.2.2.1,r59.2.1,(r59.2.2.1.set n61 r63.2),())))))) else none))) else(bif w.odec (0≤(r5.2.2.2.1.length:Int)∧(r5.2.2.2.1.length:Int)<(r5.2.2.2.1.length:Int)) then((r5.2.2.2.1[(r5.2.2.2.1.length:Int).toNat]?).bind fun x64=>(onS x64 fun n65=>(((r47.2.2.1.set n55 r57.2)[n65]?).bind fun e66=>(((zev w) (((),r47.2.1,()),e66)).bind fun r67=>some (((),r5.2.1,r5.2.2.1,r5.2.2.2.1,((r47.2.2.1.set n55 r57.2).set n65 r67.2),())))))) else none)))))) else none)) else(bif (w.odec (r47.1.1=(r5.2.2.2.1.length:Int))) then(((zil w) ((r47.2.1.2.2.2.2.2.1,()),())).bind fun r68=>(((zi4 w) (((),r47.1.1,(),()),r5.2.2.2.1,([(r47.2.2.1.length+1)]:List Nat),(r47.2.2.1++ [r68.2]),())).bind fun r69=>(bif w.odec (0≤r47.1.1∧r47.1.1<(r69.2.1.length:Int)) then((r69.2.1[r47.1.1.toNat]?).bind fun x70=>(onS x70 fun n71=>((r69.2.2.1[n71]?).bind fun e72=>(((zev w) (((),r47.2.1,()),e72)).bind fun r73=>some (((),r5.2.1,r5.2.2.1,r69.2.1,(r69.2.2.1.set n71 r73.2),())))))) else none))) else(bif w.odec (0≤r47.1.1∧r47.1.1<(r5.2.2.2.1.length:Int)) then((r5.2.2.2.1[r47.1.1.toNat]?).bind fun x74=>(onS x74 fun n75=>((r47.2.2.1[n75]?).bind fun e76=>(((zdd w) (((),()),e76)).bind fun r77=>(bif (!w.odec (r77.1.1=r47.2.1.2.2.2.2.2.1)) then(((zil w) ((r47.2.1.2.2.2.2.2.1,()),())).bind fun r78=>(((zi4 w) (((),r47.1.1,(),()),r5.2.2.2.1,([((r47.2.2.1.set n75 r77.2).length+1)]:List Nat),((r47.2.2.1.set n75 r77.2)++ [r78.2]),())).bind fun r79=>(bif w.odec (0≤r47.1.1∧r47.1.1<(r79.2.1.length:Int)) then((r79.2.1[r47.1.1.toNat]?).bind fun x80=>(onS x80 fun n81=>((r79.2.2.1[n81]?).bind fun e82=>(((zev w) (((),r47.2.1,()),e82)).bind fun r83=>some (((),r5.2.1,r5.2.2.1,r79.2.1,(r79.2.2.1.set n81 r83.2),())))))) else none))) else(bif w.odec (0≤r47.1.1∧r47.1.1<(r5.2.2.2.1.length:Int)) then((r5.2.2.2.1[r47.1.1.toNat]?).bind fun x84=>(onS x84 fun n85=>(((r47.2.2.1.set n75 r77.2)[n85]?).bind fun e86=>(((zev w) (((),r47.2.1,()),e86)).bind fun r87=>some (((),r5.2.1,r5.2.2.1,r5.2.2.2.1,((r47.2.2.1.set n75 r77.2).set n85 r87.2),())))))) else none)))))) else none)))))))
theorem zfi.bod:bodyB f255=true:=by kernel_rfl
abbrev zfi.env {α:Type}:Env α:=mE [(66,[⟨zfb.S,(zfb W0),none⟩]),(263,[⟨zae.S,(zae W0),none⟩]),(267,[⟨zil.S,(zil W0),some (0,197,ep197)⟩]),(266,[⟨zi4.S,(zi4 W0),none⟩]),(268,[⟨zev.S,(zev W0),none⟩]),(260,[⟨zdd.S,(zdd W0),none⟩])] []
theorem zfi.ok (d:zfi.D):fB prog zfi.S zfi.env f255 d=(zfi W0) d:=by kernel_rfl
theorem zfi.sok:FSpec.ok zfi.S=true:=by kernel_rfl
theorem zfi.con (base:Nat):fO prog base 255 zfi.S (zfi W0):=fC (fn:=f255) rfl (by decide) (by kernel_rfl) mixed (cC (cc0 zfb.sok (zfb.con base) cn) (cC (cc0 zae.sok (zae.con base) cn) (cC (cc0 zil.sok (zil.con base) cn) (cC (cc0 zi4.sok (zi4.con base) cn) (cC (cc0 zev.sok (zev.con base) cn) (cC (cc0 zdd.sok (zdd.con base) cn) cN)))))) lN zfi.ok
abbrev k83:List (Nat×Pat):=[(0, .hole ty13)]
abbrev zf4.S:FSpec:=⟨⟨k74,k38⟩,[⟨k83,k39⟩],false⟩
abbrev zf4.D:Type:=(k268×k214)
abbrev zf4.R:Type:=((De13×Unit)×k214)
def zf4 (w:W)(d:zf4.D):Option zf4.R:=(((zdg w) d).bind fun r1=>(bif (!w.odec (r1.1.1=0)) then some ((((d.1.2.1,([]:List De11),d.1.2.1.2.2.2.2.2.2.1,false,false,false,r1.1),()),r1.2)) else(((zew w) (d.1,r1.2)).bind fun r2=>(match r2 with| .inl r3=>(bif (w.odec (r3.1.2.1>0)) then(bif (!r3.1.2.2.1) then(((zh2 w) (d.1.2,())).bind fun r5=>(bif r5.1.1 then(((zfi w) (((),(d.1.2.1.1,d.1.2.1.2.1,d.1.2.1.2.2.1,d.1.2.1.2.2.2.1,d.1.2.1.2.2.2.2.1,d.1.2.1.2.2.2.2.2.1,r3.1.2.1,(w.imin d.1.2.1.2.2.2.2.2.2.2.1 r3.1.2.1),d.1.2.1.2.2.2.2.2.2.2.2),()),r3.2.1,r3.2.2.1,r3.2.2.2.1,r3.2.2.2.2.2)).bind fun r6=>some ((((d.1.2.1,r3.2.2.2.2.1,r3.1.2.1,r5.1.1,false,r3.1.2.2.1,r1.1),()),r6.2))) else some ((((d.1.2.1,r3.2.2.2.2.1,r3.1.2.1,r5.1.1,false,r3.1.2.2.1,r1.1),()),r3.2.1,r3.2.2.1,r3.2.2.2.1,r3.2.2.2.2.2)))) else some ((((d.1.2.1,r3.2.2.2.2.1,r3.1.2.1,false,false,r3.1.2.2.1,r1.1),()),r3.2.1,r3.2.2.1,r3.2.2.2.1,r3.2.2.2.2.2))) else some ((((d.1.2.1,r3.2.2.2.2.1,r3.1.2.1,false,false,r3.1.2.2.1,r1.1),()),r3.2.1,r3.2.2.1,r3.2.2.2.1,r3.2.2.2.2.2)))| .inr r4=>(bif (w.odec (r4.1.2.1>0)) then(bif (!r4.1.2.2.1) then(((zh2 w) (d.1.2,())).bind fun r7=>(bif r7.1.1 then(((zfi w) (((),(d.1.2.1.1,d.1.2.1.2.1,d.1.2.1.2.2.1,d.1.2.1.2.2.2.1,d.1.2.1.2.2.2.2.1,d.1.2.1.2.2.2.2.2.1,r4.1.2.1,(w.imin d.1.2.1.2.2.2.2.2.2.2.1 r4.1.2.1),d.1.2.1.2.2.2.2.2.2.2.2),()),r4.2)).bind fun r8=>some ((((d.1.2.1,r4.1.1,r4.1.2.1,r7.1.1,false,r4.1.2.2.1,r1.1),()),r8.2))) else some ((((d.1.2.1,r4.1.1,r4.1.2.1,r7.1.1,false,r4.1.2.2.1,r1.1),()),r4.2)))) else some ((((d.1.2.1,r4.1.1,r4.1.2.1,false,false,r4.1.2.2.1,r1.1),()),r4.2))) else some ((((d.1.2.1,r4.1.1,r4.1.2.1,false,false,r4.1.2.2.1,r1.1),()),r4.2)))))))
theorem zf4.bod:bodyB f246=true:=by kernel_rfl
abbrev zf4.env {α:Type}:Env α:=mE [(252,[⟨zdg.S,(zdg W0),none⟩]),(253,[⟨zew.S,(zew W0),none⟩]),(254,[⟨zh2.S,(zh2 W0),none⟩]),(255,[⟨zfi.S,(zfi W0),none⟩])] []
theorem zf4.ok (d:zf4.D):fB prog zf4.S zf4.env f246 d=(zf4 W0) d:=by kernel_rfl
theorem zf4.sok:FSpec.ok zf4.S=true:=by kernel_rfl
theorem zf4.con (base:Nat):fO prog base 246 zf4.S (zf4 W0):=fC (fn:=f246) rfl (by decide) (by kernel_rfl) mixed (cC (cc0 zdg.sok (zdg.con base) cn) (cC (cc0 zew.sok (zew.con base) cn) (cC (cc0 zh2.sok (zh2.con base) cn) (cC (cc0 zfi.sok (zfi.con base) cn) cN)))) lN zf4.ok
abbrev zct.S:FSpec:=⟨⟨k74,k50⟩,[⟨k83,k51⟩],false⟩
abbrev zct.D:Type:=(k268×k218)
abbrev zct.R:Type:=((De13×Unit)×k220)
def zct (w:W)(d:zct.D):Option zct.R:=(((zf4 w) (((),(d.1.2.1.1,d.1.2.1.2.1,d.1.2.1.2.2.1,d.1.2.1.2.2.2.1,d.1.2.1.2.2.2.2.1,d.1.2.1.2.2.2.2.2.1,d.1.2.1.2.2.2.2.2.2.1,d.1.2.1.2.2.2.2.2.2.2.1,0,()),()),d.2.2.1,d.2.2.2.1,d.2.2.2.2.1,d.2.2.2.2.2.2)).bind fun r1=>some ((((d.1.2.1,r1.1.1.2),()),((),(),()),r1.2.1,d.2.2.2.2.2.1,r1.2.2)))
theorem zct.bod:bodyB f228=true:=by kernel_rfl
abbrev zct.env {α:Type}:Env α:=mE [(246,[⟨zf4.S,(zf4 W0),none⟩])] []
theorem zct.ok (d:zct.D):fB prog zct.S zct.env f228 d=(zct W0) d:=by kernel_rfl
theorem zct.sok:FSpec.ok zct.S=true:=by kernel_rfl
theorem zct.con (base:Nat):fO prog base 228 zct.S (zct W0):=fC (fn:=f228) rfl (by decide) (by kernel_rfl) mixed (cC (cc0 zf4.sok (zf4.con base) cn) cN) lN zct.ok
abbrev zay.S:LSpec:=⟨⟨[(1, .ptr 0),(3, .own 6)],[(0, .var (.ptr 1)),(1, .var (.agg [.ptr 2, .own 5])),(2, .var (.agg [.agg [.own 3, .own 4], .hole (.int .i64), .hole (.int .i64)])),(3, .row (.ref 197)),(4, .row (.ref 197)),(5, .row ty3),(6, .row ty13),k145]⟩,[⟨[(2, .own 53)],[(0, .var (.ptr 1)),(1, .var (.agg [.ptr 2, .own 50])),(2, .var (.agg [.agg [.own 51, .own 52], .hole (.int .i64), .hole (.int .i64)])),(50, .row ty3),k143,k144,(53, .row ty13),k145]⟩],[.ret],f229.ntmps⟩
abbrev zay.D:Type:=(k228×(Unit×k228×k213×(List Nat)×(List Nat)×(List De3)×(List De13)×(List E197)×Unit))
abbrev zay.R:Type:=(k221×(Unit×k228×k213×(List De3)×(List Nat)×(List Nat)×(List De13)×(List E197)×Unit))
def zay (w:W)(d:zay.D):Option (zay.D⊕zay.R):=(((zag w) ((d.2.2.2.2.2.2.1,(((),(),()),()),()),d.2.2.2.1,d.2.2.2.2.1,d.2.2.2.2.2.1,d.2.2.2.2.2.2.2.2)).bind fun r1=>(bif (w.odec (r1.1.1<0)) then some (.inr (((),()),(),((),(),()),r1.2.1,d.2.2.2.2.2.2.1,r1.2.2.1,r1.2.2.2.1,d.2.2.2.2.2.2.2.1,r1.2.2.2.2)) else(bif w.odec (0≤r1.1.1∧r1.1.1<(d.2.2.2.2.2.2.1.length:Int)) then((d.2.2.2.2.2.2.1[r1.1.1.toNat]?).bind fun x2=>(((zar w) (((),r1.1.1,(w.wr .i64 (r1.1.1+1)),()),d.2.2.2.2.2.2.1,())).bind fun r3=>(((zct w) (((),x2,()),((),(),()),r1.2.1,r1.2.2.1,r1.2.2.2.1,r3.2.1,r1.2.2.2.2)).bind fun r4=>(bif w.odec (((d.2.2.2.2.2.2.2.1.length+([r4.1.1]:List De13).length:Nat):Int)*(120:Nat)≤room) then some (.inl (((),(),()),(),((),(),()),r4.2.2.1,r4.2.2.2.2.1,r4.2.2.2.2.2.1,r4.2.2.2.1,(d.2.2.2.2.2.2.2.1++([r4.1.1]:List De13)),r4.2.2.2.2.2.2)) else none)))) else none)))
abbrev k84:List (Nat×OPat):=[(0, .var (.agg [.ptr 1, .own 50])),k207,(50, .row ty3),k143,k144,(53, .row ty13),k145]
abbrev za1.S:FSpec:=⟨⟨[(0, .ptr 0)],k50⟩,[⟨[(0, .own 53)],k84⟩],false⟩
abbrev za1.D:Type:=(k221×k218)
abbrev k260:Type:=(k228×k213×(List De3)×(List Nat)×(List Nat)×(List De13)×(List E197)×Unit)
abbrev za1.R:Type:=(k221×k260)
def za1 (w:W)(d:za1.D):Option za1.R:=((w.loopFix (L:=zay.D) (zay w) (((),(),()),(),((),(),()),d.2.2.1,d.2.2.2.1,d.2.2.2.2.1,d.2.2.2.2.2.1,([]:List De13),d.2.2.2.2.2.2)).bind fun r5=>some ((((),()),r5.2.2)))
theorem za1.bod:bodyB f229=true:=by kernel_rfl
abbrev zay.env {α:Type}:Env α:=mE [(242,[⟨zag.S,(zag W0),none⟩]),(215,[⟨zar.S,(zar W0),none⟩]),(228,[⟨zct.S,(zct W0),none⟩])] []
theorem zay.ok (d:zay.D):lB prog zay.S zay.env f229 2 d=(zay W0) d:=by kernel_rfl
theorem zay.sok:LSpec.ok zay.S=true:=by kernel_rfl
theorem zay.con (base:Nat):rO prog base f229 2 zay.S (zay W0):=lK zay.sok za1.bod mixed (cC (cc0 zag.sok (zag.con base) cn) (cC (cc0 zar.sok (zar.con base) cn) (cC (cc0 zct.sok (zct.con base) cn) cN))) lN zay.ok
abbrev za1.env {α:Type}:Env α:=mE [] [(2,[⟨zay.S,(zay W0)⟩])]
theorem za1.ok (d:za1.D):fB prog za1.S za1.env f229 d=(za1 W0) d:=by kernel_rfl
theorem za1.sok:FSpec.ok za1.S=true:=by kernel_rfl
theorem za1.con (base:Nat):fO prog base 229 za1.S (za1 W0):=fC (fn:=f229) rfl (by decide) (by kernel_rfl) mixed cN (lC (lc zay.sok (zay.con base) ln) lN) za1.ok
abbrev zd7.S:FSpec:=⟨⟨k74,k50⟩,[⟨[(0, .own 53)],k84⟩],false⟩
abbrev zd7.D:Type:=(k268×k218)
abbrev zd7.R:Type:=(k221×k260)
def zd7 (w:W)(d:zd7.D):Option zd7.R:=(((zbo w) d).bind fun r1=>(bif (!w.odec (r1.1.1=0)) then(((za1 w) (((),()),((),(),()),r1.2.2.1,r1.2.2.2.2.1,r1.2.2.2.2.2.1,r1.2.2.2.1,r1.2.2.2.2.2.2)).bind fun r2=>(bif w.odec (((([(d.1.2.1,([]:List De11),d.1.2.1.2.2.2.2.2.2.1,false,false,false,r1.1)]:List De13).length+r2.2.2.2.2.2.2.1.length:Nat):Int)*(120:Nat)≤room) then some ((((),()),((),(),()),r2.2.2.1,r2.2.2.2.1,r2.2.2.2.2.1,r2.2.2.2.2.2.1,(([(d.1.2.1,([]:List De11),d.1.2.1.2.2.2.2.2.2.1,false,false,false,r1.1)]:List De13)++r2.2.2.2.2.2.2.1),r2.2.2.2.2.2.2.2)) else none)) else(bif (w.odec (d.1.2.1.2.2.2.2.2.2.2.2.1>0)) then(((zfh w) (((),()),r1.2.2.1,r1.2.2.2.2)).bind fun r3=>(((zij w) ((d.1.2.1,r3.1),())).bind fun r4=>(bif (!r4.1.1) then(bif w.odec (((r1.2.2.2.1.length+([d.1.2.1]:List De3).length:Nat):Int)*(72:Nat)≤room) then(((za1 w) (((),()),((),(),()),r3.2.1,r3.2.2.1,r3.2.2.2.1,(r1.2.2.2.1++([d.1.2.1]:List De3)),r3.2.2.2.2)).bind fun r5=>(bif w.odec (((([(d.1.2.1,([]:List De11),d.1.2.1.2.2.2.2.2.2.1,false,true,false,r1.1)]:List De13).length+r5.2.2.2.2.2.2.1.length:Nat):Int)*(120:Nat)≤room) then some ((((),()),((),(),()),r5.2.2.1,r5.2.2.2.1,r5.2.2.2.2.1,r5.2.2.2.2.2.1,(([(d.1.2.1,([]:List De11),d.1.2.1.2.2.2.2.2.2.1,false,true,false,r1.1)]:List De13)++r5.2.2.2.2.2.2.1),r5.2.2.2.2.2.2.2)) else none)) else none) else(((zct w) (d.1,((),(),()),r3.2.1,r3.2.2.1,r3.2.2.2.1,r1.2.2.2.1,r3.2.2.2.2)).bind fun r6=>(((za1 w) (((),()),((),(),()),r6.2.2.1,r6.2.2.2.2.1,r6.2.2.2.2.2.1,r6.2.2.2.1,r6.2.2.2.2.2.2)).bind fun r7=>(bif w.odec (((([r6.1.1]:List De13).length+r7.2.2.2.2.2.2.1.length:Nat):Int)*(120:Nat)≤room) then some ((((),()),((),(),()),r7.2.2.1,r7.2.2.2.1,r7.2.2.2.2.1,r7.2.2.2.2.2.1,(([r6.1.1]:List De13)++r7.2.2.2.2.2.2.1),r7.2.2.2.2.2.2.2)) else none)))))) else(((zct w) (d.1,((),(),()),r1.2.2.1,r1.2.2.2.2.1,r1.2.2.2.2.2.1,r1.2.2.2.1,r1.2.2.2.2.2.2)).bind fun r8=>(((za1 w) (((),()),((),(),()),r8.2.2.1,r8.2.2.2.2.1,r8.2.2.2.2.2.1,r8.2.2.2.1,r8.2.2.2.2.2.2)).bind fun r9=>(bif w.odec (((([r8.1.1]:List De13).length+r9.2.2.2.2.2.2.1.length:Nat):Int)*(120:Nat)≤room) then some ((((),()),((),(),()),r9.2.2.1,r9.2.2.2.1,r9.2.2.2.2.1,r9.2.2.2.2.2.1,(([r8.1.1]:List De13)++r9.2.2.2.2.2.2.1),r9.2.2.2.2.2.2.2)) else none))))))
theorem zd7.bod:bodyB f207=true:=by kernel_rfl
abbrev zd7.env {α:Type}:Env α:=mE [(227,[⟨zbo.S,(zbo W0),none⟩]),(229,[⟨za1.S,(za1 W0),none⟩]),(34,[⟨zfh.S,(zfh W0),none⟩]),(33,[⟨zij.S,(zij W0),none⟩]),(228,[⟨zct.S,(zct W0),none⟩])] []
theorem zd7.ok (d:zd7.D):fB prog zd7.S zd7.env f207 d=(zd7 W0) d:=by kernel_rfl
theorem zd7.sok:FSpec.ok zd7.S=true:=by kernel_rfl
theorem zd7.con (base:Nat):fO prog base 207 zd7.S (zd7 W0):=fC (fn:=f207) rfl (by decide) (by kernel_rfl) mixed (cC (cc0 zbo.sok (zbo.con base) cn) (cC (cc0 za1.sok (za1.con base) cn) (cC (cc0 zfh.sok (zfh.con base) cn) (cC (cc0 zij.sok (zij.con base) cn) (cC (cc0 zct.sok (zct.con base) cn) cN))))) lN zd7.ok
abbrev zgg.S:FSpec:=⟨⟨[(0, .pth 0 [.fld 1, .idx, .idx]),k138,k139,k142],k64⟩,[⟨k12,k64⟩],true⟩
abbrev zgg.D:Type:=(((Nat×Nat×Unit)×Int×Int×Int×Unit)×k262)
abbrev zgg.R:Type:=(k229×k262)
def zgg (w:W)(d:zgg.D):Option zgg.R:=((d.2.1.2.1[d.1.1.1]?).bind fun x1=>((x1[d.1.1.2.1]?).bind fun x2=>(bif (w.odec ((w.wr .i64 (x2+d.1.2.1))<d.1.2.2.1)) then some (((false,()),d.2)) else(bif (w.odec ((w.wr .i64 (x2+d.1.2.1))>d.1.2.2.2.1)) then some (((false,()),d.2)) else((d.2.1.2.1[d.1.1.1]?).bind fun x3=>((x3[d.1.1.2.1]?).bind fun x4=>some (((true,()),(d.2.1.1,(d.2.1.2.1.set d.1.1.1 (x3.set d.1.1.2.1 (w.wr .i64 (x2+d.1.2.1)))),()),()))))))))
abbrev zgg.env {α:Type}:Env α:=mE [] []
theorem zgg.ok (d:zgg.D):fB prog zgg.S zgg.env f232 d=(zgg W0) d:=by kernel_rfl
theorem zgg.sok:FSpec.ok zgg.S=true:=by kernel_rfl
theorem zgg.con (base:Nat):fO prog base 232 zgg.S (zgg W0):=fC (fn:=f232) rfl (by decide) (by kernel_rfl) mixed cN lN zgg.ok
abbrev zdh.S:FSpec:=⟨⟨k70,k64⟩,[⟨k12,k64⟩],true⟩
abbrev zdh.D:Type:=((Unit×Int×Int×Int×Int×Unit)×k262)
abbrev zdh.R:Type:=(k229×k262)
def zdh (w:W)(d:zdh.D):Option zdh.R:=(((zhz w) ((d.1.2.1,d.1.2.2.1,()),())).bind fun r1=>(bif (!r1.1.1) then some (((false,()),d.2)) else(bif (w.odec (d.1.2.2.2.2.1<1)) then some (((false,()),d.2)) else(bif (w.odec (d.1.2.2.2.2.1>1048576)) then some (((false,()),d.2)) else(bif (!w.odec (d.1.2.2.2.1=1)) then(bif (!w.odec (d.1.2.2.2.1=2)) then some (((false,()),d.2)) else(bif (w.odec (d.1.2.2.2.1=2)) then(bif w.odec (0≤d.1.2.1∧d.1.2.1<(32:Nat)) then(bif w.odec (0≤d.1.2.2.1∧d.1.2.2.1<(8:Nat)) then(((zgg w) (((d.1.2.1.toNat,d.1.2.2.1.toNat,()),(w.wr .i64 (0-d.1.2.2.2.2.1)),(-1099511627776),1099511627776,()),d.2)).bind fun r2=>some (r2)) else none) else none) else(bif w.odec (0≤d.1.2.1∧d.1.2.1<(32:Nat)) then(bif w.odec (0≤d.1.2.2.1∧d.1.2.2.1<(8:Nat)) then(((zgg w) (((d.1.2.1.toNat,d.1.2.2.1.toNat,()),d.1.2.2.2.2.1,(-1099511627776),1099511627776,()),d.2)).bind fun r3=>some (r3)) else none) else none))) else(bif (w.odec (d.1.2.2.2.1=2)) then(bif w.odec (0≤d.1.2.1∧d.1.2.1<(32:Nat)) then(bif w.odec (0≤d.1.2.2.1∧d.1.2.2.1<(8:Nat)) then(((zgg w) (((d.1.2.1.toNat,d.1.2.2.1.toNat,()),(w.wr .i64 (0-d.1.2.2.2.2.1)),(-1099511627776),1099511627776,()),d.2)).bind fun r4=>some (r4)) else none) else none) else(bif w.odec (0≤d.1.2.1∧d.1.2.1<(32:Nat)) then(bif w.odec (0≤d.1.2.2.1∧d.1.2.2.1<(8:Nat)) then(((zgg w) (((d.1.2.1.toNat,d.1.2.2.1.toNat,()),d.1.2.2.2.2.1,(-1099511627776),1099511627776,()),d.2)).bind fun r5=>some (r5)) else none) else none)))))))
theorem zdh.bod:bodyB f230=true:=by kernel_rfl
abbrev zdh.env {α:Type}:Env α:=mE [(63,[⟨zhz.S,(zhz W0),none⟩]),(232,[⟨zgg.S,(zgg W0),none⟩])] []
theorem zdh.ok (d:zdh.D):fB prog zdh.S zdh.env f230 d=(zdh W0) d:=by kernel_rfl
theorem zdh.sok:FSpec.ok zdh.S=true:=by kernel_rfl
theorem zdh.con (base:Nat):fO prog base 230 zdh.S (zdh W0):=fC (fn:=f230) rfl (by decide) (by kernel_rfl) mixed (cC (cc0 zhz.sok (zhz.con base) cn) (cC (cc0 zgg.sok (zgg.con base) cn) cN)) lN zdh.ok
abbrev zb4.S:LSpec:=⟨⟨[(0, .ptr 0),k138,(7, .own 4),(9, .ptr 3),(13, .hole (.deep ty13)),k169,k180,(20, .hole (.deep ty11)),k150,(22, .hole (.int .i64))],[k182,k183,k184,(3, .var (.hole ty13)),(4, .row ty12),k147,k148,k149]⟩,[⟨[(0, .ptr 0),k138,(7, .own 50),(9, .ptr 3),(13, .hole (.deep ty13)),k169,k180],[k182,k183,k184,(3, .var (.hole ty13)),(50, .row ty12),k147,k148,k149]⟩],[(.exit 2)],f208.ntmps⟩
abbrev k278:Type:=(k216×k233×k215×De13×(List De12)×(List E135)×(List E168)×(List E255)×Unit)
abbrev zb4.D:Type:=((Unit×Int×Unit×Unit×(List De13)×Int×Int×(List De11)×Int×Int×Unit)×k278)
abbrev zb4.R:Type:=((Unit×Int×Unit×Unit×(List De13)×Int×Int×Unit)×k278)
def zb4 (w:W)(d:zb4.D):Option (zb4.D⊕zb4.R):=(bif (w.odec (d.1.2.2.2.2.2.2.2.2.2.1<d.1.2.2.2.2.2.2.2.2.1)) then(bif w.odec (0≤d.1.2.2.2.2.2.2.2.2.2.1) then((d.1.2.2.2.2.2.2.2.1[d.1.2.2.2.2.2.2.2.2.2.1.toNat]?).bind fun x2=>(((zdh w) (((),x2.1.1,d.1.2.1,x2.1.2.2.2.1,x2.2.2.2.1,()),d.2.2.2.1,())).bind fun r3=>(((zdh w) (((),x2.2.1.1,d.1.2.1,x2.2.1.2.2.2.1,x2.2.2.2.1,()),r3.2)).bind fun r4=>(bif w.odec (((d.2.2.2.2.2.1.length+([(1,d.1.2.1,x2,(0,0,0,0,0,0,0,0,0,()),())]:List De12).length:Nat):Int)*(256:Nat)≤room) then some (.inl (((),d.1.2.1,(),(),d.1.2.2.2.2.1,d.1.2.2.2.2.2.1,d.1.2.2.2.2.2.2.1,d.1.2.2.2.2.2.2.2.1,d.1.2.2.2.2.2.2.2.2.1,(w.wr .i64 (d.1.2.2.2.2.2.2.2.2.2.1+1)),()),d.2.1,d.2.2.1,r4.2.1,d.2.2.2.2.1,(d.2.2.2.2.2.1++([(1,d.1.2.1,x2,(0,0,0,0,0,0,0,0,0,()),())]:List De12)),d.2.2.2.2.2.2)) else none)))) else none) else some (.inr (((),d.1.2.1,(),(),d.1.2.2.2.2.1,d.1.2.2.2.2.2.1,d.1.2.2.2.2.2.2.1,()),d.2)))
abbrev zb5.S:LSpec:=⟨⟨[(0, .ptr 0),k138,(7, .own 3),(13, .hole (.deep ty13)),k169,k180],k67⟩,[⟨k68,k22⟩],[(.exit 0)],f208.ntmps⟩
abbrev zb5.D:Type:=((Unit×Int×Unit×(List De13)×Int×Int×Unit)×k261)
abbrev zb5.R:Type:=((Unit×Int×(List De12)×Unit)×k211)
end
end AM
