/- An abstract machine over programs of the model, and its soundness: what it tells of a function, the model's machine does. Conditions: none. -/
import GoSem.Claim
import Derived.Calls
import Derived.Laws.Sem
import Derived.KernelRfl
import Derived.Laws.Entries
import Derived.ChangeKeysEq
import Derived.Laws.Cells
import Derived.Laws.IdiomCopy
import Derived.Below
import Derived.Laws.Slices
import Derived.Laws.IdiomStrings
import Derived.Laws.MakeOwn
set_option linter.unusedVariables false
set_option linter.unusedSimpArgs false
namespace AM
open Go
inductive Ty where
 |int (k:IntKind)|bool|str|nil|cons (a b:Ty)|arr (n:Nat) (t:Ty)|deep (t:Ty)
 |ref (tag:Nat)
 deriving DecidableEq
def Ty.den:Ty→Type
 | .int _=>Int| .bool=>Bool| .str=>ByteArray| .nil=>Unit| .cons a b=>a.den×b.den| .arr _ t=>List t.den| .deep t=>List t.den| .ref _=>Nat
def Ty.size:Ty→Nat
 | .int _=>1| .bool=>1| .str=>1| .nil=>0| .cons a b=>a.size+b.size| .arr n t=>n*t.size| .deep _=>1| .ref _=>1
def Ty.ks:Ty→List Nat
 | .cons a b=>a.ks++b.ks
 | .arr _ t=>t.ks
 | .deep t=>t.ks
 | .ref g=> [g]
 |_=> []
def castL (t t':Ty)(xs:List t.den):Option (List t'.den):=if h:t=t' then some (h▸xs) else none
noncomputable def odec (p:Prop):Bool:= @decide p (Classical.propDecidable p)
theorem odec_iff {p:Prop}:odec p=true↔p:= @decide_eq_true_iff p (Classical.propDecidable p)
theorem odec_eq (p:Prop) [h:Decidable p]:odec p=decide p:=by
 cases h with
 |isTrue h=>rw[odec_iff.2 h];rfl
 |isFalse h=>
  have:odec p=false:=by
   cases e:odec p with
   |false=>rfl
   |true=>exact absurd (odec_iff.1 e) h
  rw[this];rfl
noncomputable def wr (k:IntKind)(n:Int):Int:=Classical.choose (⟨k.wrap n,rfl⟩: ∃m,m=k.wrap n)
theorem wr_eq (k:IntKind)(n:Int):wr k n=k.wrap n:=Classical.choose_spec (⟨k.wrap n,rfl⟩: ∃m,m=k.wrap n)
noncomputable def imin (a b:Int):Int:=bif odec (b<a) then b else a
noncomputable def imax (a b:Int):Int:=bif odec (b>a) then b else a
noncomputable def band (k:IntKind)(a b:Int):Int:=wr k ((BitVec.ofInt k.bits a&&&BitVec.ofInt k.bits b).toNat)
noncomputable def bor (k:IntKind)(a b:Int):Int:=wr k ((BitVec.ofInt k.bits a|||BitVec.ofInt k.bits b).toNat)
noncomputable def bxor (k:IntKind)(a b:Int):Int:=wr k ((BitVec.ofInt k.bits a^^^BitVec.ofInt k.bits b).toNat)
noncomputable def bandn (k:IntKind)(a b:Int):Int:=wr k ((BitVec.ofInt k.bits a&&& ~~~BitVec.ofInt k.bits b).toNat)
noncomputable def shr (k:IntKind)(a b:Int):Int:=Classical.choose (⟨a.fdiv (2^(min b.toNat k.bits)),rfl⟩: ∃m:Int,m=a.fdiv (2^(min b.toNat k.bits)))
theorem shr_eq (k:IntKind)(a b:Int):shr k a b=a.fdiv (2^(min b.toNat k.bits)):=Classical.choose_spec (⟨a.fdiv (2^(min b.toNat k.bits)),rfl⟩: ∃m:Int,m=a.fdiv (2^(min b.toNat k.bits)))
noncomputable def shl (k:IntKind)(a b:Int):Int:=wr k (a*2^(min b.toNat k.bits))
def ones (k:IntKind):Int:=if k.signed then-1 else k.max
inductive Step where
 |fld (n:Nat)|idx (i:Nat)
inductive AV where
 |undef
 |val (v:Value)
 |ptr (id:Nat) (path:List Step)
 |tail (id:Nat) (off:Nat)
 |slice (id:Nat) (path:List Step) (off len:Nat)
 |dp (t:Ty) (xs:List t.den)
 |rptr (v:AV)
 |agg (fs:List AV)
 |arr (n:Nat) (t:Ty) (xs:List t.den)
 |tup (vs:List AV)
 |clo (fn:Fn) (captured:List AV)
 |ubool
 |vsl (id:Nat) (n:Nat)
 |bnd (fn:Fn) (first:List AV)
 |fad (id:Nat) (path:List Step) (f off:Nat)
 |rf (tag n c:Nat)
mutual
def AV.size:AV→Nat
 | .agg fs=>AV.sizes fs
 | .arr n t _=>n*t.size
 |_=>1
def AV.sizes:List AV→Nat
 | []=>0
 |x::xs=>x.size+AV.sizes xs
end
def AV.isAgg:AV→Bool
 | .agg _| .arr _ _ _=>true
 |_=>false
mutual
def AV.ids:AV→List Nat
 | .tail i _=> [i]
 | .slice i _ _ _=> [i]
 | .vsl i _=> [i]
 | .agg fs=>AV.idsL fs
 |_=> []
def AV.idsL:List AV→List Nat
 | []=> []
 |x::xs=>x.ids++AV.idsL xs
end
def enc:(t:Ty)→t.den→AV
 | .int k,n=> .val (.int k n)
 | .bool,b=> .val (.bool b)
 | .str,s=> .val (.string s)
 | .nil,_=> .agg []
 | .cons a b,p=>match enc b p.2 with| .agg l=> .agg (enc a p.1::l)|v=> .agg [enc a p.1,v]
 | .arr n t,xs=> .arr n t xs
 | .deep t,xs=> .dp t xs
 | .ref g,n=> .rf g n 50
inductive PStep where
 |fld (n:Nat)|idx
inductive Pat where
 |hole (t:Ty)|const (v:Value)|ptr (c:Nat)|own (c:Nat)|slc (c:Nat)|agg (ps:List Pat)|rhole (t:Ty)
 |pth (c:Nat) (p:List PStep)
 |clo (fn:Fn) (ps:List Pat)|vsl (c n:Nat)
 |skip|rpt (p:Pat)
inductive OPat where
 |var (p:Pat)|row (t:Ty)|store (ep:List (Nat×OPat))
def PStep.dens:List PStep→Type
 | []=>Unit
 | .fld _::p=>PStep.dens p
 | .idx::p=>Nat×PStep.dens p
mutual
def Pat.den:Pat→Type
 | .hole t=>t.den
 | .rhole t=>t.den
 | .agg ps=>Pat.dens ps
 | .clo _ ps=>Pat.dens ps
 | .slc _=>Nat
 | .pth _ p=>PStep.dens p
 | .rpt p=>p.den
 |_=>Unit
def Pat.dens:List Pat→Type
 | []=>Unit
 |p::ps=>p.den×Pat.dens ps
end
mutual
def OPat.den:OPat→Type
 | .var p=>p.den
 | .row t=>List t.den
 | .store ep=>List (hD_ ep)
def hD_:List (Nat×OPat)→Type
 | []=>Unit
 |(_,p)::os=>p.den×hD_ os
end
def PStep.mk:(p:List PStep)→PStep.dens p→List Step
 | [],_=> []
 | .fld n::p,d=> .fld n::PStep.mk p d
 | .idx::p,d=> .idx d.1::PStep.mk p d.2
mutual
def Pat.mk (b:Nat→Nat):(p:Pat)→p.den→AV
 | .hole t,x=>enc t x
 | .rhole t,x=> .rptr (enc t x)
 | .const v,_=> .val v
 | .ptr c,_=> .ptr (b c) []
 | .own c,_=> .tail (b c) 0
 | .slc c,n=> .slice (b c) [] 0 n
 | .agg ps,d=> .agg (Pat.mks b ps d)
 | .pth c p,d=> .ptr (b c) (PStep.mk p d)
 | .clo fn ps,d=> .clo fn (Pat.mks b ps d)
 | .vsl c n,_=> .vsl (b c) n
 | .skip,_=> .undef
 | .rpt p,d=> .rptr (Pat.mk b p d)
def Pat.mks (b:Nat→Nat):(ps:List Pat)→Pat.dens ps→List AV
 | [],_=> []
 |p::ps,d=>Pat.mk b p d.1::Pat.mks b ps d.2
end
inductive AObj where
 |var (v:AV)
 |row (ro:Bool) (t:Ty) (xs:List t.den)
 |dead
 |store (ep:List (Nat×OPat)) (xs:List (hD_ ep))
 |void
structure St where
 t:Nat→AV
 h:Nat→Option AObj
 ep:Nat
 nt:Nat
def St.put (s:St)(d:Option Tmp)(v:AV):St:=match d with
 |some d=>if d<s.nt then{s with t:=fun x=>if x=d then v else s.t x} else s
 |none=>s
def St.set (s:St)(id:Nat)(o:AObj):St:={s with h:=fun x=>if x=id then some o else s.h x}
def St.ev (s:St):Operand→AV
 | .tmp t=>s.t t
 | .const v=> .val v
 | .func f=> .val (.func (.func f) #[] #[])
 | .global _=> .undef
def SB:Nat:=100000000000000
def name (ep slot j:Nat):Nat:=(ep*1000+slot)*100+j
section
variable {α:Type}
def St.new (s:St)(id:Nat)(o:AObj)(k:St→Option α):Option α:=match s.h id with|none=>k (s.set id o)|some _=>none
def getP:List Step→AV→(AV→Option α)→Option α
 | [],v,k=>k v
 | .fld n::p, .agg fs,k=>match fs[n]? with|some v=>getP p v k|none=>none
 | .idx i::p, .arr _ t xs,k=>match xs[i]? with|some x=>getP p (enc t x) k|none=>none
 |_,_,_=>none
def St.get (s:St)(id:Nat)(p:List Step)(k:AV→Option α):Option α:=
 match s.h id with
 |some (.var v)=>getP p v k
 |some (.row _ t xs)=>(match p with
  | .idx i::p=>(match xs[i]? with|some x=>getP p (enc t x) k|none=>none)
  |_=>none)
 |_=>none
def isRow (s:St)(i:Nat):Bool:=match s.h i with|some (.row _ _ _)=>true|_=>false
def rdSlice (s:St)(t:Ty):AV→(List t.den→List Nat→Option α)→Option α
 | .dp t' xs,k=>match castL t' t xs with|some ys=>k ys []|none=>none
 | .val (.slice none 0 0),k=>k [] []
 | .tail id off,k=>match s.h id with
  |some (.row _ t' xs)=>(match castL t' t xs with|some ys=>k (ys.drop off) [id]|none=>none)
  |_=>none
 | .slice id p off len,k=>match p.isEmpty&&isRow s id with
  |true=>(match s.h id with
   |some (.row _ t' xs)=>(match castL t' t xs with|some ys=>k ((ys.drop off).take len) [id]|none=>none)
   |_=>none)
  |false=>s.get id p fun u=>(match u with
   | .arr _ t' xs=>(match castL t' t xs with|some ys=>k ((ys.drop off).take len) [id]|none=>none)
   |_=>none)
 |_,_=>none
def decL {β:Type}(f:AV→(β→List Nat→Option α)→Option α):List AV→(List β→List Nat→Option α)→Option α
 | [],k=>k [] []
 |v::vs,k=>f v fun x i=>decL f vs fun xs j=>k (x::xs) (i++j)
def rdDeep (s:St)(t:Ty)(f:AV→(t.den→List Nat→Option α)→Option α)(v:AV)(k:List t.den→List Nat→Option α):Option α:=match v with
 | .vsl id n=>(match s.h id with
  |some (.var (.agg vs))=>(match decide (vs.length=n) with|true=>decL f vs fun xs ids=>k xs (id::ids)|false=>none)
  |_=>none)
 |v=>rdSlice s t v k
mutual
def decK (s:St):(t:Ty)→AV→(t.den→List Nat→Option α)→Option α
 | .int k',v,k=>match v with| .val (.int k'' n)=>(if k''=k' then k n [] else none)|_=>none
 | .bool,v,k=>match v with| .val (.bool b)=>k b []|_=>none
 | .str,v,k=>match v with| .val (.string b)=>k b []|_=>none
 | .nil,v,k=>match v with| .agg []=>k () []|_=>none
 | .cons a b,v,k=>match v with
  | .agg (x::l)=>decK s a x fun p i=>decK s b (.agg l) fun q j=>k (p,q) (i++j)
  |_=>none
 | .arr n t,v,k=>match v with
  | .arr n' t' xs=>(if n'=n then(match castL t' t xs with|some ys=>k ys []|none=>none) else none)
  |_=>none
 | .deep t,v,k=>rdDeep s t (decK s t) v k
 | .ref g,v,k=>match v with| .rf g' n 50=>(if g'=g then k n [] else none)| .val (.pointer none)=>k (0:Nat) []|_=>none
end
def St.freeze (s:St):List Nat→Option St
 | []=>some s
 |i::l=>match s.h i with
  |some (.row _ t xs)=>(s.set i (.row true t xs)).freeze l
  |_=>none
mutual
def AV.shapeEq:AV→AV→Bool
 | .agg fs, .agg gs=>AV.shapesEq fs gs
 | .arr n t _, .arr n' t' _=>decide (n=n')&&decide (t=t')
 | .agg _,_=>false
 | .arr _ _ _,_=>false
 | .tup _,_=>false
 | .undef,_=>false
 |_, .agg _=>false
 |_, .arr _ _ _=>false
 |_, .tup _=>false
 |_, .undef=>false
 |_,_=>true
def AV.shapesEq:List AV→List AV→Bool
 | [],[]=>true
 |x::xs,y::ys=>x.shapeEq y&&AV.shapesEq xs ys
 |_,_=>false
end
def setP (s:St):List Step→AV→AV→(AV→Option α)→Option α
 | [],u,v,k=>match v.shapeEq u with|true=>k u|false=>none
 | .fld n::p,u, .agg fs,k=>match fs[n]? with|some v=>setP s p u v fun v'=>k (.agg (fs.set n v'))|none=>none
 | .idx i::p,u, .arr n t xs,k=>match xs[i]? with
  |some x=>setP s p u (enc t x) fun v'=>decK s t v' fun x' ids=>(match ids with| []=>k (.arr n t (xs.set i x'))|_=>none)
  |none=>none
 |_,_,_,_=>none
def St.store (s:St)(id:Nat)(p:List Step)(u:AV)(k:St→Option α):Option α:=
 match s.h id with
 |some (.var v)=>setP s p u v fun v'=>k (s.set id (.var v'))
 |some (.row false t xs)=>(match p with
  | .idx i::p=>(match xs[i]? with
   |some x=>setP s p u (enc t x) fun v'=>decK s t v' fun x' ids=>(match ids.contains id||!(ids.all fun j=>u.ids.contains j) with
    |true=>none
    |false=>match s.freeze ids with
     |some s=>k (s.set id (.row false t (xs.set i x')))
     |none=>none)
   |none=>none)
  |_=>none)
 |_=>none
inductive Sh where
 |one|agg (l:List Sh)|arr (n:Nat) (e:Sh)
mutual
def Sh.size:Sh→Nat
 | .one=>1
 | .agg l=>Sh.sizes l
 | .arr n e=>n*e.size
def Sh.sizes:List Sh→Nat
 | []=>0
 |x::xs=>x.size+Sh.sizes xs
end
def tsh:Ty→Sh
 | .nil=> .agg []
 | .cons a b=>match tsh b with| .agg l=> .agg (tsh a::l)|v=> .agg [tsh a,v]
 | .arr n t=> .arr n (tsh t)
 |_=> .one
mutual
def AV.sh:AV→Sh
 | .agg fs=> .agg (AV.shs fs)
 | .arr n t _=> .arr n (tsh t)
 |_=> .one
def AV.shs:List AV→List Sh
 | []=> []
 |x::xs=>x.sh::AV.shs xs
end
def shP:List Step→Sh→Option Sh
 | [],s=>some s
 | .fld n::p, .agg l=>match l[n]? with|some s=>shP p s|none=>none
 | .idx _::p, .arr _ e=>shP p e
 |_,_=>none
def St.shape (s:St)(id:Nat)(p:List Step):Option Sh:=
 match s.h id with
 |some (.var v)=>shP p v.sh
 |some (.row _ t _)=>(match p with| .idx _::p=>shP p (tsh t)|_=>none)
 |_=>none
def isSliceT (P:Program)(t:TypeId):Bool:=match P.underlying t with|some (.slice _)=>true|_=>false
def tyOf (P:Program):Nat→TypeId→Option Ty
 |0,_=>none
 |n+1,t=>match P.underlying t with
  |some (.int k)=>some (.int k)
  |some .bool=>some .bool
  |some .string=>some .str
  |some (.struct fs)=>fs.toList.foldr (fun f acc=>match tyOf P n f.type,acc with|some a,some b=>some (.cons a b)|_,_=>none) (some .nil)
  |some (.array m e)=>(tyOf P n e).map (.arr m)
  |some (.slice e)=>(tyOf P n e).map .deep
  |some (.pointer e)=>some (.ref e)
  |_=>none
def zeroD:(t:Ty)→t.den
 | .int _=>(0:Int)| .bool=>false| .str=>ByteArray.empty| .nil=>()| .cons a b=>(zeroD a,zeroD b)| .arr n t=>List.replicate n (zeroD t)| .deep _=> []| .ref _=>(0:Nat)
def zeroOf (P:Program):Nat→TypeId→Option AV
 |0,_=>none
 |n+1,t=>match P.underlying t with
  |some (.int k)=>some (.val (.int k 0))
  |some .bool=>some (.val (.bool false))
  |some .string=>some (.val (.string ByteArray.empty))
  |some (.pointer _)=>some (.val (.pointer none))
  |some (.slice _)=>some (.val (.slice none 0 0))
  |some (.struct fs)=>(fs.toList.foldr (fun f acc=>match zeroOf P n f.type,acc with|some a,some b=>some (a::b)|_,_=>none) (some [])).map .agg
  |some (.array m e)=>(match isSliceT P e with
   |true=>some (.agg (List.replicate m (.val (.slice none 0 0))))
   |false=>(tyOf P n e).map fun t=> .arr m t (List.replicate m (zeroD t)))
  |_=>none
def flatD:(t:Ty)→t.den→List Value
 | .int k,n=> [.int k n]
 | .bool,b=> [.bool b]
 | .str,s=> [.string s]
 | .nil,_=> []
 | .cons a b,p=>flatD a p.1++flatD b p.2
 | .arr _ t,xs=>xs.flatMap (flatD t)
 | .deep _,_=> [.slice none 0 0]
 | .ref _,_=> [.pointer none]
mutual
def flatV:AV→List Value
 | .val v=> [v]
 | .agg fs=>flatVs fs
 | .arr _ t xs=>xs.flatMap (flatD t)
 |_=> [.nilFunc]
def flatVs:List AV→List Value
 | []=> []
 |x::xs=>flatV x++flatVs xs
end
def veq:Value→Value→Bool
 | .int k a, .int k' b=>decide (k=k')&&decide (a=b)
 | .bool a, .bool b=>a==b
 | .string a, .string b=>a.data.toList==b.data.toList
 | .pointer none, .pointer none=>true
 | .slice none a b, .slice none c d=>decide (a=c)&&decide (b=d)
 |_,_=>false
def veqs:List Value→List Value→Bool
 | [],[]=>true
 |x::xs,y::ys=>veq x y&&veqs xs ys
 |_,_=>false
def zeroV (P:Program)(t:TypeId)(k:AV→Option α):Option α:=
 match(P.info? t).bind (·.zero),zeroOf P 12 t with
 |some z,some v=>(match veqs z.cells.toList (flatV v) with|true=>k v|false=>none)
 |_,_=>none
mutual
def AV.solid:AV→Bool
 | .undef=>false
 | .tup _=>false
 | .val v=>v.oneCell'
 | .agg fs=>AV.solids fs
 |_=>true
def AV.solids:List AV→Bool
 | []=>true
 |x::xs=>x.solid&&AV.solids xs
end
def isAggT (P:Program)(t:TypeId):Bool:=match P.underlying t with|some (.struct _)|some (.array _ _)=>true|_=>false
def fitsT (P:Program)(t:TypeId)(v:AV):Bool:=
 v.solid&& (v.isAgg==isAggT P t)&&decide (v.size=P.cellsOf t)&& (P.underlying t).isSome
noncomputable def intEq (a b:Int):Bool:=odec (a=b)
def boolEq (a b:Bool):Bool:=a==b
def strEq (a b:ByteArray):Bool:=a.toList==b.toList
noncomputable def teq:(t:Ty)→t.den→t.den→Bool
 | .int _,a,b=>intEq a b
 | .bool,a,b=>boolEq a b
 | .str,a,b=>strEq a b
 | .nil,_,_=>true
 | .cons a b,x,y=>teq a x.1 y.1&&teq b x.2 y.2
 | .arr _ t,xs,ys=>(xs.zip ys).all fun p=>teq t p.1 p.2
 | .deep _,_,_=>false
 | .ref _,_,_=>false
def isIntTy:Ty→Bool
 | .int _=>true
 |_=>false
def flatEq:Ty→Bool
 | .int _=>true| .bool=>true| .nil=>true| .cons a b=>flatEq a&&flatEq b| .arr _ t=>flatEq t|_=>false
noncomputable def aeq (P:Program):Nat→TypeId→AV→AV→Option Bool
 |0,_,_,_=>none
 |d+1,t,x,y=>match P.underlying t,x,y with
  |some (.int k), .val (.int ka a), .val (.int kb b)=>if ka=k∧kb=k then some (intEq a b) else none
  |some .bool, .val (.bool a), .val (.bool b)=>some (boolEq a b)
  |some .string, .val (.string a), .val (.string b)=>some (strEq a b)
  |some (.struct fs), .agg xs, .agg ys=>(match P.stoodInHeld t with|true=>none|false=>aeqs P d fs.toList 0 xs ys)
  |some (.array n e), .arr m t xs, .arr m' t' ys=>(match tyOf P 12 e,castL t' t ys with
   |some te,some ys=>if te=t∧m=n∧m'=n∧isIntTy t=true∧1≤d∧P.cellsOf e=1∧(P.info? e).isSome=true then some ((xs.zip ys).all fun p=>teq t p.1 p.2) else none
   |_,_=>none)
  |_,_,_=>none
 where aeqs (P:Program) (d:Nat):List Field→Nat→List AV→List AV→Option Bool
 | [],_,[],[]=>some true
 |f::fs,off,x::xs,y::ys=>if f.name= "_" ∨f.offset≠off then none else
  match fitsT P f.type x&&fitsT P f.type y&&decide (x.size=y.size) with
  |false=>none
  |true=>match aeq P d f.type x y,aeqs P d fs (off+x.size) xs ys with|some a,some b=>some (a&&b)|_,_=>none
 |_,_,_,_=>none
noncomputable def aeqT (P:Program)(t:TypeId)(x y:AV):Option Bool:=match x.isAgg&&y.isAgg with
 |true=>(match P.eqGuardType P.depth t with|true=>none|false=>aeq P 12 t x y)
 |false=>none
def isSlI (P:Program)(t:TypeId):Bool:=match P.underlying t with|some (.slice e)=>(P.info? e).isSome|_=>false
def isSlOf (P:Program)(t:TypeId)(n:Nat):Bool:=match P.underlying t with|some (.slice e)=>(P.info? e).isSome&&decide (P.cellsOf e=n)|_=>false
def isArOf (P:Program)(t:TypeId)(m n:Nat):Bool:=match P.underlying t with|some (.array m' e)=>(P.info? e).isSome&&decide (m'=m)&&decide (P.cellsOf e=n)|_=>false
def isArOf' (P:Program)(t:TypeId)(m n:Nat):Bool:=match P.underlying t with|some (.pointer t')=>isArOf P t' m n|_=>isArOf P t m n
def arElem (P:Program)(t:TypeId)(m:Nat)(te:Ty):Bool:=match P.underlying t with|some (.array m' e)=>decide (m'=m)&& (match tyOf P 12 e with|some te'=>decide (te'=te)&&decide (P.cellsOf e=te.size)|none=>false)|_=>false
def slSize (s:St)(id:Nat)(p:List Step):Option Nat:=match s.h id,p with
 |some (.row _ te _),[]=>some te.size
 |_,p=>match s.shape id p with|some (.arr _ e)=>some e.size|_=>none
def alen (P:Program)(s:St)(t:TypeId):AV→(Int→Option α)→Option α
 | .dp _ xs,k=>(match isSliceT P t with|true=>k xs.length|false=>none)
 | .val (.slice none 0 0),k=>(match isSliceT P t with|true=>k 0|false=>none)
 | .val (.string b),k=>(match P.underlying t with|some .string=>k b.size|_=>none)
 | .tail id off,k=>match s.h id with|some (.row _ _ xs)=>(match isSliceT P t with|true=>k ((xs.length-off:Nat):Int)|false=>none)|_=>none
 | .slice _ _ _ len,k=>(match isSliceT P t with|true=>k len|false=>none)
 | .vsl _ n,k=>(match isSliceT P t with|true=>k n|false=>none)
 | .arr n _ _,k=>(match P.underlying t with|some (.array m _)=>(if m=n then k n else none)|_=>none)
 |_,_=>none
def fieldOff (P:Program)(s:TypeId)(f:Nat):Option Nat:=
 match P.underlying s with
 |some (.struct fs)=>match fs[f]? with
  |some fd=>if P.cellsOf fd.type=0 then none else some fd.offset
  |none=>none
 |_=>none
def fitsF (P:Program)(s:TypeId)(f:Nat)(v:AV):Bool:=
 match P.underlying s with
 |some (.struct fs)=>match fs[f]? with
  |some fd=>fitsT P fd.type v
  |none=>false
 |_=>false
def hasZero (P:Program)(e:TypeId)(n:Nat):Bool:=match(P.info? e).bind (·.zero) with|some z=>decide (z.cells.size=n)|none=>false
def elemT (P:Program)(t:TypeId):Option (TypeId×Ty):=
 match P.underlying t with
 |some (.slice e)=>match tyOf P 12 e with|some te=>(if te.size=P.cellsOf e∧1≤P.bytesOf e∧hasZero P e te.size=true then some (e,te) else none)|none=>none
 |_=>none
def nat?:AV→(Int→Option α)→Option α
 | .val (.int _ n),k=>k n
 |_,_=>none
def opt? (s:St)(x:Option Operand)(d:Int)(k:Int→Option α):Option α:=match x with|none=>k d|some x=>nat? (s.ev x) k
def ifk (c:Bool)(k:Option α):Option α:=match c with|true=>k|false=>none
def elems (s:St)(t:Ty):List AV→(List t.den→List Nat→Option α)→Option α
 | [],k=>k [] []
 |v::vs,k=>decK s t v fun x i=>elems s t vs fun xs j=>k (x::xs) (i++j)
def setAll (sz:Nat):List AV→List (Nat×AV)→Option (List AV)
 |l,[]=>some l
 |l,(i,u)::ps=>match decide (i<l.length)&&u.solid&&decide (u.size=sz) with|true=>setAll sz (l.set i u) ps|false=>none
def fillAgg (fs:List AV):List (Nat×AV)→Option (List AV)
 | []=>some fs
 |(i,u)::ps=>match fs[i]? with|some v=>(match v.shapeEq u&&u.solid with|true=>fillAgg (fs.set i u) ps|false=>none)|none=>none
def fillArr (s:St)(t:Ty)(xs:List t.den):List (Nat×AV)→(List t.den→Option α)→Option α
 | [],k=>k xs
 |(i,u)::ps,k=>decK s t u fun x ids=>match ids with| []=>(match decide (i<xs.length)&&u.solid with|true=>fillArr s t (xs.set i x) ps k|false=>none)|_=>none
def fieldsFit (P:Program):List Field→Nat→List AV→Bool
 | [],_,[]=>true
 |f::fs,off,v::vs=>decide (f.offset=off)&&decide (P.cellsOf f.type=v.size)&& (P.info? f.type).isSome&&fieldsFit P fs (off+v.size) vs
 |_,_,_=>false
def room:Nat:=2^46
def bytesOfInts (xs:List Int):ByteArray:=⟨(xs.map fun n=>n.toNat.toUInt8).toArray⟩
noncomputable def opInt (s:St)(op:BinOp)(ka kb:IntKind)(a b:Int)(k:AV→St→Option α):Option α:=match op with
 | .shl=>(match odec (b<0) with|true=>none|false=>k (.val (.int ka (shl ka a b))) s)
 | .shr=>(match odec (b<0) with|true=>none|false=>k (.val (.int ka (shr ka a b))) s)
 |op=>if ka=kb then(match op with
  | .add=>k (.val (.int ka (wr ka (a+b)))) s
  | .sub=>k (.val (.int ka (wr ka (a-b)))) s
  | .mul=>k (.val (.int ka (wr ka (a*b)))) s
  | .quo=>(match odec (b=0) with|true=>none|false=>k (.val (.int ka (wr ka (a.tdiv b)))) s)
  | .rem=>(match odec (b=0) with|true=>none|false=>k (.val (.int ka (a.tmod b))) s)
  | .and=>k (.val (.int ka (band ka a b))) s
  | .or=>k (.val (.int ka (bor ka a b))) s
  | .xor=>k (.val (.int ka (bxor ka a b))) s
  | .andNot=>k (.val (.int ka (bandn ka a b))) s
  | .eql=>k (.val (.bool (odec (a=b)))) s
  | .neq=>k (.val (.bool (!odec (a=b)))) s
  | .lss=>k (.val (.bool (odec (a<b)))) s
  | .leq=>k (.val (.bool (odec (a≤b)))) s
  | .gtr=>k (.val (.bool (odec (a>b)))) s
  | .geq=>k (.val (.bool (odec (a≥b)))) s
  |_=>none) else none
def eqk (s:St)(op:BinOp)(r:Bool)(k:AV→St→Option α):Option α:=match op with
 | .eql=>k (.val (.bool r)) s
 | .neq=>k (.val (.bool (!r))) s
 |_=>none
def isPtrT (P:Program)(t:TypeId):Bool:=match P.underlying t with|some (.pointer _)=>true|_=>false
noncomputable def slNil (P:Program)(s:St)(op:BinOp)(t:TypeId)(x:AV)(k:AV→St→Option α):Option α:=match isSliceT P t with
 |false=>none
 |true=>alen P s t x fun n=>match odec (n=0) with
  |true=>(match op with| .eql=>k .ubool s| .neq=>k .ubool s|_=>none)
  |false=>eqk s op false k
noncomputable def opBin (P:Program)(s:St)(op:BinOp)(t:TypeId)(x y:AV)(k:AV→St→Option α):Option α:=match x,y with
 | .val (.int ka a), .val (.int kb b)=>opInt s op ka kb a b k
 | .val (.bool a), .val (.bool b)=>(match P.underlying t with|some .bool=>eqk s op (boolEq a b) k|_=>none)
 | .val (.string a), .val (.string b)=>eqk s op (strEq a b) k
 | .val (.pointer none), .val (.pointer none)=>(match isPtrT P t with|true=>eqk s op true k|false=>none)
 | .val (.slice none _ _), .val (.slice none _ _)=>(match isSliceT P t with|true=>eqk s op true k|false=>none)
 | .ptr _ _, .val (.pointer none)=>(match isPtrT P t with|true=>eqk s op false k|false=>none)
 | .val (.pointer none), .ptr _ _=>(match isPtrT P t with|true=>eqk s op false k|false=>none)
 | .rf _ n _, .val (.pointer none)=>(match isPtrT P t with|true=>eqk s op (odec (n=0)) k|false=>none)
 | .val (.pointer none), .rf _ n _=>(match isPtrT P t with|true=>eqk s op (odec (n=0)) k|false=>none)
 | .dp te xs, .val (.slice none _ _)=>slNil P s op t (.dp te xs) k
 | .tail i off, .val (.slice none _ _)=>slNil P s op t (.tail i off) k
 | .slice i p off len, .val (.slice none _ _)=>slNil P s op t (.slice i p off len) k
 |a,b=>(match aeqT P t a b with|some r=>eqk s op r k|none=>none)
def opFieldAddr (P:Program)(s:St)(t:TypeId)(x:AV)(f:Nat)(k:AV→St→Option α):Option α:=match x,fieldOff P t f with
 | .ptr i p,some off=>(match s.h i with
  |some .dead=>k (.fad i p f off) s
  |_=>(match s.shape i p with|some (.agg fs)=>(match decide (Sh.sizes (fs.take f)=off∧f<fs.length) with|true=>k (.ptr i (p++ [.fld f])) s|false=>none)|_=>none))
 | .rptr (.agg fs),some off=>(match decide (AV.sizes (fs.take f)=off) with|true=>(match fs[f]? with|some v=>k (.rptr v) s|none=>none)|false=>none)
 |_,_=>none
def opField (P:Program)(s:St)(t:TypeId)(x:AV)(f:Nat)(k:AV→St→Option α):Option α:=match x,fieldOff P t f with
 | .agg fs,some off=>(match decide (AV.sizes (fs.take f)=off) with|true=>(match fs[f]? with|some v=>(match fitsF P t f v with|true=>k v s|false=>none)|none=>none)|false=>none)
 |_,_=>none
def opLoad (P:Program)(s:St)(t:TypeId)(x:AV)(k:AV→St→Option α):Option α:=match x with
 | .ptr i p=>s.get i p fun v=>(match fitsT P t v with|true=>k v s|false=>none)
 | .rptr v=>(match fitsT P t v with|true=>k v s|false=>none)
 |_=>none
def opStore (P:Program)(s:St)(t:TypeId)(x y:AV)(k:AV→St→Option α):Option α:=match x with
 | .ptr i p=>(match fitsT P t y with|true=>s.store i p y fun s'=>k (.val Go.undef) s'|false=>none)
 |_=>none
def opAlloc (P:Program)(s:St)(id:Nat)(t:TypeId)(k:AV→St→Option α):Option α:=zeroV P t fun v=>s.new id (.var v) fun s=>k (.ptr id []) s
def opBox (s:St)(id:Nat)(v:AV)(k:AV→St→Option α):Option α:=match v.solid with
 |true=>s.new id (.var v) fun s=>k (.ptr id []) s
 |false=>none
def opBuild (P:Program)(s:St)(t:TypeId)(parts:List (Nat×AV))(k:AV→St→Option α):Option α:=zeroV P t fun z=>match P.underlying t,z with
 |some (.struct fl), .agg fs=>(match fieldsFit P fl.toList 0 fs with|true=>(match fillAgg fs parts with|some fs=>k (.agg fs) s|none=>none)|false=>none)
 |some (.array m e), .arr n te xs=>(match decide (m=n)&&decide (P.cellsOf e=te.size)&& (P.info? e).isSome with|true=>fillArr s te xs parts fun xs=>k (.arr n te xs) s|false=>none)
 |_,_=>none
def AV.isPtrs:AV→Bool
 | .ptr _ _=>true
 | .agg (.ptr _ _::_)=>true
 |_=>false
def AV.isTl:AV→Bool
 | .tail _ _=>true
 | .slice _ _ _ _=>true
 |_=>false
def vslNew (s:St)(id len sz:Nat)(l:List AV)(k:AV→St→Option α):Option α:=match decide (0<len*sz∧len*sz≤1000) with|true=>s.new id (.var (.agg l)) fun s=>k (.vsl id len) s|false=>none
def opBuildSlice (P:Program)(s:St)(id:Nat)(t:TypeId)(len:Nat)(parts:List (Nat×AV))(k:AV→St→Option α):Option α:=match elemT P t with
 |some (e,te)=>zeroV P e fun z=>match setAll te.size (List.replicate len z) parts with
  |none=>none
  |some l=>match l.any AV.isPtrs||(decide (2≤len)&&l.any AV.isTl) with
   |true=>vslNew s id len te.size l k
   |false=>elems s te l fun xs ids=>(match ids.all (isRow s) with
    |true=>(match s.freeze ids with
     |some s=>(match decide (len*te.size≤1000)&&ids.all (fun j=>(parts.flatMap fun p=>p.2.ids).contains j) with|true=>s.new id (.row false te xs) fun s=>k (.tail id 0) s|false=>none)
     |none=>none)
    |false=>vslNew s id len te.size l k)
 |none=>none
noncomputable def opMakeSlice (P:Program)(s:St)(id:Nat)(t:TypeId)(l c:AV)(k:AV→St→Option α):Option α:=match elemT P t with
 |some (e,te)=>nat? l fun n=>nat? c fun m=>
  (match odec (n=m∧0≤n∧n*P.bytesOf e≤room) with
  |true=>zeroV P e fun _=>s.new id (.row false te (List.replicate n.toNat (zeroD te))) fun s=>k (.tail id 0) s
  |false=>none)
 |none=>none
noncomputable def pickN (i:Int)(k:Nat→Option α):Nat→Nat→Option α
 |0,_=>none
 |f+1,j=>match odec (i=j) with|true=>k j|false=>pickN i k f (j+1)
def evenSh (l:List Sh)(n:Nat):Bool:=l.all fun e=>decide (e.size=n)
def headSz (l:List Sh):Nat:=match l with|e::_=>e.size| []=>0
noncomputable def opIndexAddr (P:Program)(s:St)(t:TypeId)(x ix:AV)(k:AV→St→Option α):Option α:=nat? ix fun i=>match x with
 | .dp te xs=>(match isSlOf P t te.size with|false=>none|true=>match odec (0≤i) with|true=>(match xs[i.toNat]? with|some x=>k (.rptr (enc te x)) s|none=>none)|false=>none)
 | .tail id off=>(match s.h id with
  |some (.row _ te xs)=>(match isSlOf P t te.size with|false=>none|true=>match odec (0≤i∧i<((xs.length-off:Nat):Int)) with|true=>k (.ptr id [.idx (i.toNat+off)]) s|false=>none)
  |_=>none)
 | .slice id p off len=>(match slSize s id p with
  |some n=>(match isSlOf P t n with|false=>none|true=>match odec (0≤i∧i<len) with|true=>k (.ptr id (p++ [.idx (i.toNat+off)])) s|false=>none)
  |none=>none)
 | .ptr id p=>(match s.shape id p with
  |some (.arr n e)=>(match isArOf P t n e.size with|false=>none|true=>match odec (0≤i∧i<n) with|true=>k (.ptr id (p++ [.idx i.toNat])) s|false=>none)
  |some (.agg l)=>(match isArOf P t l.length (headSz l)&&evenSh l (headSz l) with|false=>none|true=>pickN i (fun j=>k (.ptr id (p++ [.fld j])) s) l.length 0)
  |_=>none)
 | .vsl id n=>(match s.shape id [] with
  |some (.agg l)=>(match isSlOf P t (headSz l)&&evenSh l (headSz l)&&decide (l.length=n) with|false=>none|true=>pickN i (fun j=>k (.ptr id [.fld j]) s) l.length 0)
  |_=>none)
 | .rptr (.arr n te xs)=>(match isArOf P t n te.size with|false=>none|true=>match odec (0≤i∧i<n) with|true=>(match xs[i.toNat]? with|some x=>k (.rptr (enc te x)) s|none=>none)|false=>none)
 |_=>none
def arFits (P:Program)(t:TypeId)(fs:List AV):Bool:=match P.underlying t with|some (.array m e)=>decide (m=fs.length)&&fs.all (fun v=>fitsT P e v)|_=>false
noncomputable def opIndex (P:Program)(s:St)(t:TypeId)(x ix:AV)(k:AV→St→Option α):Option α:=nat? ix fun i=>match x with
 | .arr n te xs=>(match arElem P t n te with|false=>none|true=>match odec (0≤i∧i<n) with|true=>(match xs[i.toNat]? with|some x=>k (enc te x) s|none=>none)|false=>none)
 | .agg fs=>(match arFits P t fs with|false=>none|true=>pickN i (fun j=>match fs[j]? with|some v=>k v s|none=>none) fs.length 0)
 |_=>none
def cutL {β:Type}(lo hi:Option Operand)(l h:Int)(xs:List β):List β:=match lo,hi with|none,none=>xs|none,some _=>xs.take h.toNat|some _,none=>xs.drop l.toNat|some _,some _=>(xs.take h.toNat).drop l.toNat
def sroom (s:St)(id:Nat)(p:List Step)(off len:Nat):Nat:=match s.h id,p with|some (.row _ _ xs),[]=>xs.length-off|_,_=>len
noncomputable def opSlice3 (P:Program)(s:St)(t:TypeId)(x:AV)(lo hi:Option Operand)(mx:Operand)(k:AV→St→Option α):Option α:=opt? s lo 0 fun l=>match hi with
 |none=>none
 |some hi=>nat? (s.ev hi) fun h=>nat? (s.ev mx) fun m=>match x with
  | .tail id off=>(match s.h id with
   |some (.row _ te xs)=>(match isSlOf P t te.size with|false=>none|true=>match odec (0≤l∧l≤h∧h≤m∧m≤((xs.length-off:Nat):Int)) with|true=>k .undef s|false=>none)
   |_=>none)
  |_=>none
noncomputable def opSlice (P:Program)(s:St)(t:TypeId)(x:AV)(lo hi:Option Operand)(k:AV→St→Option α):Option α:=opt? s lo 0 fun l=>match x with
 | .dp te xs=>(match isSlOf P t te.size with|false=>none|true=>opt? s hi xs.length fun h=>(match odec (0≤l∧l≤h∧h≤xs.length) with
  |true=>k (.dp te (cutL lo hi l h xs)) s
  |false=>none))
 | .val (.slice none 0 0)=>(match isSlI P t with|false=>none|true=>opt? s hi 0 fun h=>(match odec (l=0∧h=0) with|true=>k (.val (.slice none 0 0)) s|false=>none))
 | .tail id off=>(match s.h id with
  |some (.row _ te xs)=>(match isSlOf P t te.size with|false=>none|true=>match hi with
   |none=>(match odec (0≤l∧l≤((xs.length-off:Nat):Int)) with|true=>k (.tail id (l.toNat+off)) s|false=>none)
   |some hi=>nat? (s.ev hi) fun h=>(match odec (0≤l∧l≤h∧h≤((xs.length-off:Nat):Int)) with|true=>k (.slice id [] (l.toNat+off) (h-l).toNat) s|false=>none))
  |_=>none)
 | .slice id p off len=>(match slSize s id p with
  |some n=>(match isSlOf P t n with|false=>none|true=>opt? s hi len fun h=>(match odec (0≤l∧l≤h∧h≤sroom s id p off len) with|true=>k (.slice id p (l.toNat+off) (h-l).toNat) s|false=>none))
  |none=>none)
 | .ptr id p=>(match s.shape id p with
  |some (.arr n e)=>(match isArOf' P t n e.size with|false=>none|true=>opt? s hi n fun h=>(match odec (0≤l∧l≤h∧h≤n) with|true=>k (.slice id p l.toNat (h-l).toNat) s|false=>none))
  |_=>none)
 | .rptr (.arr n te xs)=>(match isArOf' P t n te.size with|false=>none|true=>opt? s hi n fun h=>(match odec (0≤l∧l≤h∧h≤n) with|true=>k (.dp te ((xs.take h.toNat).drop l.toNat)) s|false=>none))
 |_=>none
noncomputable def opConvert (P:Program)(s:St)(id:Nat)(src dst:TypeId)(x:AV)(k:AV→St→Option α):Option α:=match x with
 | .val (.int _ n)=>(match P.underlying src,P.underlying dst with|some (.int _),some (.int kd)=>k (.val (.int kd (wr kd n))) s|_,_=>none)
 | .val (.string b)=>(match P.underlying src,P.underlying dst with
  |some .string,some .string=>k (.val (.string b)) s
  |some .string,some (.slice e)=>(match P.underlying e with
   |some (.int .u8)=>s.new id (.row false (.int .u8) (b.data.toList.map fun c=>((c.toNat:Nat):Int))) fun s=>k (.tail id 0) s
   |_=>none)
  |_,_=>none)
 |v=>(match P.underlying src,P.underlying dst with
  |some (.slice e),some .string=>(match P.underlying e with
   |some (.int .u8)=>rdSlice s (.int .u8) v fun xs _=>k (.val (.string (bytesOfInts xs))) s
   |_=>none)
  |some (.slice _),some (.slice e)=>(match P.underlying e,decide (src=dst),v with
   |some (.int .u8),true, .tail j off=>(match s.h j with
    |some (.row false (.int .u8) xs)=>(match decide (off<xs.length) with|true=>k (.tail j off) s|false=>none)
    |_=>none)
   |_,_,_=>none)
  |_,_=>none)
def notInt (P:Program)(t:TypeId):Bool:=match P.underlying t with|some (.int _)=>false|some _=>true|none=>false
noncomputable def inPlace (s:St)(i off len:Nat)(te:Ty)(xs ys:List te.den)(k:AV→St→Option α):Option α:=
 match odec (off+len+ys.length≤xs.length) with
 |true=>k (.slice i [] off (len+ys.length)) (s.set i (.row false te (xs.take (off+len)++ys++xs.drop (off+len+ys.length))))
 |false=>none
noncomputable def grow (P:Program)(s:St)(id:Nat)(e:TypeId)(te:Ty)(base ys:List te.den)(k:AV→St→Option α):Option α:=
 match odec (((base.length+ys.length:Nat):Int)*P.bytesOf e≤room) with
 |true=>s.new id (.row false te (base++ys)) fun s=>k (.tail id 0) s
 |false=>none
noncomputable def grown (P:Program)(s:St)(id:Nat)(ty:TypeId)(e:TypeId)(te:Ty)(base:List te.den)(y:AV)(k:AV→St→Option α):Option α:=match y with
 | .val (.int .i64 n)=>(match P.underlying ty with
  |some (.int _)=>(match odec (0≤n∧((base.length:Int)+n)*P.bytesOf e≤room) with
   |true=>zeroV P e fun _=>s.new id (.row false te (base++List.replicate n.toNat (zeroD te))) fun s=>k (.tail id 0) s
   |false=>none)
  |_=>none)
 | .val (.string b)=>(match notInt P ty,castL (.int .u8) te (b.data.toList.map fun c=>((c.toNat:Nat):Int)) with
  |true,some ys=>grow P s id e te base ys k
  |_,_=>none)
 |v=>(match notInt P ty with|false=>none|true=>rdSlice s te v fun ys _=>grow P s id e te base ys k)
noncomputable def opAppend (P:Program)(s:St)(id:Nat)(tx ty:TypeId)(x y:AV)(k:AV→St→Option α):Option α:=match elemT P tx with
 |some (e,te)=>(match x with
  | .val (.slice none 0 0)=>grown P s id ty e te [] y k
  | .tail i off=>(match s.h i with
   |some (.row false t' xs)=>(match castL t' te xs with
    |some xs=>grown P (s.set i .dead) id ty e te (xs.drop off) y k
    |none=>none)
   |_=>none)
  | .slice i [] off len=>(match s.h i with
   |some (.row false t' xs)=>(match castL t' te xs with
    |some xs=>(match notInt P ty with|false=>none|true=>rdSlice s te y fun ys _=>inPlace s i off len te xs ys k)
    |none=>none)
   |_=>none)
  |_=>none)
 |none=>none
noncomputable def opCopy (P:Program)(s:St)(tx:TypeId)(x y:AV)(k:AV→St→Option α):Option α:=match elemT P tx with
 |some (_,te)=>rdSlice s te y fun ys _=>(match x with
  | .tail id off=>(match s.h id with
   |some (.row false t' xs)=>(match decide (off=0) with|false=>none|true=>match castL t' te xs with
    |some xs=>k (.val (.int .i64 ((min ys.length xs.length:Nat):Int))) (s.set id (.row false te (ys.take xs.length++xs.drop ys.length)))
    |none=>none)
   |_=>none)
  | .slice id p off len=>(match p.isEmpty&&isRow s id with
   |true=>none
   |false=>s.get id p fun u=>(match u with
    | .arr n t' xs=>(match castL t' te xs with
     |some xs=>s.store id p (.arr n te (xs.take off++(ys.take len++xs.drop (off+min ys.length len)))) fun s=>k (.val (.int .i64 ((min ys.length len:Nat):Int))) s
     |none=>none)
    |_=>none))
  |_=>none)
 |none=>none
noncomputable def opClear (P:Program)(s:St)(t:TypeId)(x:AV)(k:AV→St→Option α):Option α:=match elemT P t with
 |some (e,te)=>zeroV P e fun _=>(match x with
  | .slice i [] off len=>(match s.h i with
   |some (.row false t' xs)=>(match castL t' te xs with
    |some xs=>k (.tup []) (s.set i (.row false te (xs.take off++List.replicate len (zeroD te)++xs.drop (off+len))))
    |none=>none)
   |_=>none)
  |_=>none)
 |none=>none
noncomputable def opBuiltin (P:Program)(s:St)(id:Nat)(b:Builtin)(args:List AV)(tys:List TypeId)(k:AV→St→Option α):Option α:=match b,args,tys with
 | .len,[x],t::_=>alen P s t x fun n=>k (.val (.int .i64 n)) s
 | .cap,[x],t::_=>(match x with| .val (.slice none 0 0)=>(match isSliceT P t with|true=>k (.val (.int .i64 0)) s|false=>none)|_=>none)
 | .min,[x,y],_=>(match x,y with| .val (.int ka a), .val (.int kb b)=>(if ka=kb then k (.val (.int ka (imin a b))) s else none)|_,_=>none)
 | .max,[x,y],_=>(match x,y with| .val (.int ka a), .val (.int kb b)=>(if ka=kb then k (.val (.int ka (imax a b))) s else none)|_,_=>none)
 | .append,[x,y],tx::ty::_=>opAppend P s id tx ty x y k
 | .copy,[x,y],tx::_=>opCopy P s tx x y k
 | .clear,[x],tx::_=>opClear P s tx x k
 |_,_,_=>none
noncomputable def aop (P:Program)(s:St)(o:Oper)(k:AV→St→Option α):Option α:=
 match o.op with
 | .move x=>k (s.ev x) s
 | .assign x=>k (s.ev x) s
 | .nilCheck x=>(match s.ev x with| .ptr i p=>k (.ptr i p) s| .rptr v=>k (.rptr v) s| .rf g n c=>(match odec (n=0) with|true=>none|false=>k (.rf g n c) s)|_=>none)
 | .fieldAddr t x f=>opFieldAddr P s t (s.ev x) f k
 | .field t x f=>opField P s t (s.ev x) f k
 | .load t x=>opLoad P s t (s.ev x) k
 | .store t x y=>opStore P s t (s.ev x) (s.ev y) k
 | .pick c a b=>(match s.ev c with| .val (.bool t)=>(match t with|true=>k (s.ev a) s|false=>k (s.ev b) s)|_=>none)
 | .binOp op t x y _=>opBin P s op t (s.ev x) (s.ev y) k
 | .unOp op _ x=>(match op,s.ev x with
  | .not, .val (.bool b)=>k (.val (.bool (!b))) s
  | .neg, .val (.int ki n)=>k (.val (.int ki (wr ki (0-n)))) s
  | .xor, .val (.int ki n)=>k (.val (.int ki (bxor ki (ones ki) n))) s
  |_,_=>none)
 | .convert src dst x=>opConvert P s (name s.ep (o.dst.getD 999) 0) src dst (s.ev x) k
 | .extract x i=>(match s.ev x with| .tup vs=>(match vs[i]? with|some v=>k v s|none=>none)|_=>none)
 | .alloc t=>opAlloc P s (name s.ep (o.dst.getD 999) 0) t k
 | .box _ x=>opBox s (name s.ep (o.dst.getD 999) 0) (s.ev x) k
 | .build t parts=>opBuild P s t (parts.toList.map fun p=>(p.1,s.ev p.2)) k
 | .buildSlice t len parts=>opBuildSlice P s (name s.ep (o.dst.getD 999) 0) t len (parts.toList.map fun p=>(p.1,s.ev p.2)) k
 | .makeSlice t l c=>opMakeSlice P s (name s.ep (o.dst.getD 999) 0) t (s.ev l) (s.ev c) k
 | .indexAddr t x ix=>opIndexAddr P s t (s.ev x) (s.ev ix) k
 | .index t x ix=>opIndex P s t (s.ev x) (s.ev ix) k
 | .slice t x lo hi none=>opSlice P s t (s.ev x) lo hi k
 | .slice t x lo hi (some mx)=>opSlice3 P s t (s.ev x) lo hi mx k
 | .makeFunc fn first captured=>(match first.size,captured.size with|0,_=>k (.clo fn (captured.toList.map s.ev)) s|_,0=>k (.bnd fn (first.toList.map s.ev)) s|_,_=>none)
 | .call {callee:= .builtin b,args,argTypes}=>opBuiltin P s (name s.ep (o.dst.getD 999) 0) b (args.toList.map s.ev) argTypes.toList k
 |_=>none
inductive Item where
 |code (c:Code)
 |ops (all:Array Oper) (rest:List Oper)
 |dops (all:Array Oper) (i:Nat) (rest:List Oper) (fps:List (Nat×(List Nat×List Nat)×Option Nat))
 |blk (id:Nat)
inductive Out where
 |norm|ret|exit (id:Nat)
def unwind (id:Nat):List Item→Option (List Item)
 | []=>none
 | .blk i::k=>if i=id then some k else unwind id k
 |_::k=>unwind id k
structure Env (α:Type) where
 call:FuncId→List AV→St→(fresh:Nat)→(AV→St→Option α)→Option α
 loop:Nat→St→(Out→St→Option α)→Option α
 fp:FuncId→List AV→St→Nat→List Nat×List Nat
def firstRegion:Code→Option Nat
 | .region id _ _=>some id
 | .seq a b=>match firstRegion a with|some i=>some i|none=>firstRegion b
 | .cond _ a b=>match firstRegion a with|some i=>some i|none=>firstRegion b
 | .block _ c| .loop c| .scope c=>firstRegion c
 |_=>none
def idsOf:AV→List Nat
 | .ptr i _| .tail i _| .slice i _ _ _| .vsl i _| .fad i _ _ _=> [i]
 |_=> []
def opW (s:St)(o:Oper):List Nat:=
 match o.op with
 | .store _ x y=>idsOf (s.ev x)++(s.ev y).ids
 | .buildSlice _ _ ps=>ps.toList.flatMap fun p=>(s.ev p.2).ids
 | .call {callee:= .builtin .append,args,argTypes:=_}=>args.toList.flatMap fun x=>idsOf (s.ev x)
 | .call {callee:= .builtin .copy,args,argTypes:=_}=>args.toList.flatMap fun x=>idsOf (s.ev x)
 | .call {callee:= .builtin .clear,args,argTypes:=_}=>args.toList.flatMap fun x=>idsOf (s.ev x)
 |_=> []
def makes (o:Oper):Bool:=
 match o.op with
 | .alloc _| .box _ _| .makeSlice _ _ _| .convert _ _ _| .buildSlice _ _ _=>true
 | .call {callee:= .builtin .append,args:=_,argTypes:=_}=>true
 | .call {callee:= .value _,args:=_,argTypes:=_}=>true
 |_=>false
def inNew (ep:Nat)(o:Oper)(id:Nat):Bool:=makes o&&decide (id/100=ep*1000+o.dst.getD 999)
def opTmps (o:Oper):List Nat:=o.op.operands.toList.filterMap fun| .tmp t=>some t|_=>none
def normAV (h:Nat→Option AObj):AV→AV
 | .fad i p f off=>match St.shape ⟨fun _=> .undef,h,0,0⟩ i p with
  |some (.agg fs)=>(match decide (Sh.sizes (fs.take f)=off∧f<fs.length) with|true=> .ptr i (p++ [.fld f])|false=> .fad i p f off)
  |_=> .fad i p f off
 |v=>v
def normSt (s:St):St:={s with t:=fun x=>normAV s.h (s.t x)}
def restrH (s:St)(o:Oper)(fp:List Nat×List Nat):Nat→Option AObj:=fun id=>if fp.1.contains id||fp.2.contains id||inNew s.ep o id then s.h id else some .dead
def restr (s:St)(o:Oper)(fp:List Nat×List Nat):St:=
 {t:=fun x=>if(opTmps o).contains x then normAV (restrH s o fp) (s.t x) else .undef,h:=restrH s o fp,ep:=s.ep,nt:=s.nt}
def merge (s:St)(o:Oper)(W:List Nat)(s':St):St:={s with h:=fun id=>if W.contains id||inNew s.ep o id then s'.h id else s.h id}
noncomputable def fpOp (env:Env α)(s:St)(o:Oper):List Nat×List Nat:=
 match o.op with
 | .load _ x| .fieldAddr _ x _| .indexAddr _ x _| .slice _ x _ _ _| .convert _ _ x=>(idsOf (s.ev x),opW s o)
 | .call {callee:= .builtin _,args,argTypes:=_}=>(args.toList.flatMap fun x=>idsOf (s.ev x),opW s o)
 | .call {callee:= .value f,args,argTypes:=_}=>match s.ev f with
  | .val (.func (.func f) _ _)=>env.fp f (args.toList.map s.ev) s (name s.ep (o.dst.getD 999) 0)
  | .clo (.func f) cs=>env.fp f (args.toList.map s.ev++cs) s (name s.ep (o.dst.getD 999) 0)
  |_=>([],[])
 |_=>([],opW s o)
abbrev Fp:=(List Nat×List Nat)×Option Nat
def keyOf (ep:Nat)(o:Oper):Option Nat:=if makes o then some (ep*1000+o.dst.getD 999) else none
def inKey (k:Option Nat)(l:List Nat):Bool:=match k with|none=>false|some k=>l.any fun i=>decide (i/100=k)
def clash (a b:Fp):Bool:=
 a.1.2.any (fun i=>b.1.1.contains i||b.1.2.contains i)||b.1.2.any (fun i=>a.1.1.contains i)||
 inKey a.2 (b.1.1++b.1.2)||inKey b.2 (a.1.1++a.1.2)||(match a.2,b.2 with|some k,some k'=>decide (k=k')|_,_=>false)
def fpsOk (bj:Nat)(f:Fp)(fps:List (Nat×Fp)):Bool:=
 fps.all fun p=>bj.testBit p.1||!clash p.2 f
noncomputable def anyOp (P:Program)(env:Env α)(st:St)(o:Oper)(k:AV→St→Option α):Option α:=match o.op with
 | .call {callee:= .value f,args,argTypes:=_}=>(match st.ev f with
  | .val (.func (.func f) first captured)=>(match first.size+captured.size with|0=>env.call f (args.toList.map st.ev) st (name st.ep (o.dst.getD 999) 0) k|_=>none)
  | .clo (.func f) cs=>env.call f (args.toList.map st.ev++cs) st (name st.ep (o.dst.getD 999) 0) k
  |_=>none)
 |_=>aop P st o k
noncomputable def guarded (all:Array Oper)(o:Oper)(st:St)(next:St→Option α)(skip:St→Option α):Option α:=match o.guard with
 |none=>next st
 |some (j,want)=>match(all[j]?).bind (·.dst) with
  |none=>none
  |some slot=>match st.t slot with
   | .val (.bool b)=>(match b with
    |true=>(match want with|true=>next (st.put (some slot) (.val (.bool true)))|false=>skip ((st.put (some slot) (.val (.bool true))).put o.dst (.val Go.undef)))
    |false=>(match want with|false=>next (st.put (some slot) (.val (.bool false)))|true=>skip ((st.put (some slot) (.val (.bool false))).put o.dst (.val Go.undef))))
   | .val (.tuple _)=>skip (st.put o.dst (.val Go.undef))
   |_=>none
noncomputable def exec (P:Program)(env:Env α):Nat→List Item→St→(Out→St→Option α)→Option α
 |0,_,_,_=>none
 |n+1,todo,st,K=>
  match todo with
  | []=>K .norm st
  | .blk _::k=>exec P env n k st K
  | .ops all rest::k=>(match rest with
   | []=>exec P env n k st K
   |o::rest=>guarded all o st (fun st=>anyOp P env st o fun v st'=>exec P env n (.ops all rest::k) (st'.put o.dst v) K) (fun st=>exec P env n (.ops all rest::k) st K))
  | .dops all i rest fps::k=>(match rest with
   | []=>exec P env n k (normSt st) K
   |o::rest=>guarded all o st
    (fun st=>match fpsOk ((Region.before all).getD i 0) (fpOp env (normSt st) o,keyOf st.ep o) fps with
     |true=>match(fpOp env (restr st o (fpOp env (normSt st) o)) o).2.all (fun i=>(fpOp env (normSt st) o).2.contains i) with|false=>none|true=>anyOp P env (restr st o (fpOp env (normSt st) o)) o fun v st'=>exec P env n (.dops all (i+1) rest ((i,fpOp env (normSt st) o,keyOf st.ep o)::fps)::k) ((merge st o (fpOp env (normSt st) o).2 st').put o.dst v) K
     |false=>(match o.op with
      | .fieldAddr _ _ _=>(match fpsOk ((Region.before all).getD i 0) (([],[]),keyOf st.ep o) fps with
       |true=>anyOp P env (restr st o ([],[])) o fun v st'=>exec P env n (.dops all (i+1) rest ((i,([],[]),keyOf st.ep o)::fps)::k) ((merge st o [] st').put o.dst v) K
       |false=>none)
      |_=>none))
    (fun st=>exec P env n (.dops all (i+1) rest fps::k) st K))
  | .code c::k=>match c with
   | .skip=>exec P env n k st K
   | .label _=>exec P env n k st K
   | .seq a b=>exec P env n (.code a:: .code b::k) st K
   | .region _ ops draw=>(match draw with
    |false=>exec P env n (.ops ops ops.toList::k) {st with ep:=st.ep+1} K
    |true=>exec P env n (.dops ops 0 ops.toList []::k) {st with ep:=st.ep+1} K)
   | .cond c x y=>(match st.ev c with
    | .val (.bool b)=>(match b with|true=>exec P env n (.code x::k) st K|false=>exec P env n (.code y::k) st K)
    | .ubool=>(match odec (exec P env n (.code x::k) st K=exec P env n (.code y::k) st K) with|true=>exec P env n (.code x::k) st K|false=>none)
    |_=>none)
   | .block id c=>exec P env n (.code c:: .blk id::k) st K
   | .exit id=>(match unwind id k with|some k'=>exec P env n k' st K|none=>K (.exit id) st)
   | .ret=>K .ret st
   | .loop c=>(match firstRegion c with
    |some id=>env.loop id st fun out st=>(match out with
     | .norm=>none
     | .ret=>K .ret st
     | .exit id=>(match unwind id k with|some k'=>exec P env n k' st K|none=>K (.exit id) st))
    |none=>none)
   |_=>none
end
end AM
namespace AM
open Go
def sdens:List (Nat×Pat)→Type
 | []=>Unit
 |o::os=>o.2.den×sdens os
structure SPat where
 slots:List (Nat×Pat)
 heap:List (Nat×OPat)
def SPat.den (s:SPat):Type:=sdens s.slots×hD_ s.heap
def eD:List SPat→Type
 | []=>Empty
 | [e]=>e.den
 |e::es=>e.den⊕eD es
def OPat.mk (b:Nat→Nat):(p:OPat)→p.den→AObj
 | .var p,d=> .var (p.mk b d)
 | .row t,d=> .row false t d
 | .store ep,d=> .store ep d
def mkH (b:Nat→Nat):(l:List (Nat×OPat))→hD_ l→(Nat→Option AObj)→(Nat→Option AObj)
 | [],_,h=>h
 |(c,p)::os,d,h=>fun x=>if x=b c then some (p.mk b d.1) else mkH b os d.2 h x
def mkT (b:Nat→Nat):(l:List (Nat×Pat))→sdens l→Nat→AV
 | [],_,_=> .undef
 |o::os,d,x=>if x=o.1 then o.2.mk b d.1 else mkT b os d.2 x
def SPat.st (s:SPat)(nt:Nat)(d:s.den):St:={t:=mkT id s.slots d.1,h:=mkH id s.heap d.2 (fun _=>none),ep:=0,nt}
inductive Tgt where
 |at_ (i:Nat)|tl (i off:Nat)|nil|sl (i off len:Nat)
abbrev Bnd:=List (Nat×Tgt)
def Bnd.get (b:Bnd)(c:Nat):Option Tgt:=match b with| []=>none|p::ps=>if p.1=c then some p.2 else Bnd.get ps c
def Bnd.add (b:Bnd)(c:Nat)(g:Tgt):Option Bnd:=match b.get c,g with
 |none,g=>some ((c,g)::b)
 |some (.at_ i), .at_ j=>if i=j then some b else none
 |some (.tl i 0), .tl j 0=>if i=j then some b else none
 |some _,_=>none
def Bnd.look (b:Bnd)(c:Nat):Option Tgt:=match decide (SB≤c) with|true=>some (.at_ c)|false=>b.get c
mutual
def Pat.beq:Pat→Pat→Bool
 | .hole t, .hole t'=>decide (t=t')
 | .ptr c, .ptr c'=>decide (c=c')
 | .own c, .own c'=>decide (c=c')
 | .agg ps, .agg ps'=>Pat.beqs ps ps'
 |_,_=>false
def Pat.beqs:List Pat→List Pat→Bool
 | [],[]=>true
 |p::ps,q::qs=>p.beq q&&Pat.beqs ps qs
 |_,_=>false
end
mutual
def OPat.beq:OPat→OPat→Bool
 | .var p, .var q=>p.beq q
 | .row t, .row t'=>decide (t=t')
 | .store e, .store e'=>hbeq e e'
 |_,_=>false
def hbeq:List (Nat×OPat)→List (Nat×OPat)→Bool
 | [],[]=>true
 |(c,p)::os,(c',p')::os'=>decide (c=c')&&p.beq p'&&hbeq os os'
 |_,_=>false
end
mutual
theorem Pat.beq_eq: ∀{p q:Pat},p.beq q=true→p=q
 | .hole t,q,h=>by cases q<;>simp[Pat.beq] at h;subst h;rfl
 | .ptr c,q,h=>by cases q<;>simp[Pat.beq] at h;subst h;rfl
 | .own c,q,h=>by cases q<;>simp[Pat.beq] at h;subst h;rfl
 | .agg ps,q,h=>by cases q<;>simp[Pat.beq] at h;rw[Pat.beqs_eq h]
 | .const _,q,h=>by simp[Pat.beq] at h
 | .slc _,q,h=>by simp[Pat.beq] at h
 | .rhole _,q,h=>by simp[Pat.beq] at h
 | .pth _ _,q,h=>by simp[Pat.beq] at h
 | .clo _ _,q,h=>by simp[Pat.beq] at h
 | .vsl _ _,q,h=>by simp[Pat.beq] at h
 | .skip,q,h=>by simp[Pat.beq] at h
 | .rpt _,q,h=>by simp[Pat.beq] at h
theorem Pat.beqs_eq: ∀{ps qs:List Pat},Pat.beqs ps qs=true→ps=qs
 | [],qs,h=>by cases qs<;>simp[Pat.beqs] at h;rfl
 |p::ps,qs,h=>by
  cases qs<;>simp[Pat.beqs] at h
  rw[Pat.beq_eq h.1,Pat.beqs_eq h.2]
end
mutual
theorem OPat.beq_eq: ∀{p q:OPat},p.beq q=true→p=q
 | .var p,q,h=>by cases q<;>simp[OPat.beq] at h;rw[Pat.beq_eq h]
 | .row t,q,h=>by cases q<;>simp[OPat.beq] at h;subst h;rfl
 | .store e,q,h=>by cases q<;>simp[OPat.beq] at h;rw[hbeq_eq h]
theorem hbeq_eq: ∀{l m:List (Nat×OPat)},hbeq l m=true→l=m
 | [],m,h=>by cases m<;>simp[hbeq] at h;rfl
 |(c,p)::os,m,h=>by
  cases m with
  |nil=>simp[hbeq] at h
  |cons x xs=>
   obtain⟨c',p'⟩:=x
   simp[hbeq] at h
   rw[h.1.1,OPat.beq_eq h.1.2,hbeq_eq h.2]
end
def castS (e e':List (Nat×OPat))(xs:List (hD_ e)):Option (List (hD_ e')):=if h:hbeq e e'=true then some (hbeq_eq h▸xs) else none
section
variable {α:Type}
def tyFits:Ty→AV→Bool
 | .int _, .val (.int _ _)=>true
 | .bool, .val (.bool _)=>true
 | .str, .val (.string _)=>true
 | .nil, .agg _=>true
 | .cons _ _, .agg _=>true
 | .arr _ _, .arr _ _ _=>true
 | .deep _, .val (.slice _ _ _)=>true
 | .deep _, .tail _ _=>true
 | .deep _, .slice _ _ _ _=>true
 | .deep _, .dp _ _=>true
 | .deep _, .vsl _ _=>true
 | .ref _, .rf _ _ _=>true
 | .ref _, .val (.pointer none)=>true
 |_,_=>false
def fnIs:Fn→Fn→Bool
 | .func f, .func g=>decide (f=g)
 |_,_=>false
def matchPath:(p:List PStep)→List Step→(PStep.dens p→Option α)→Option α→Option α
 | [],[],k,_=>k ()
 | .fld n::p, .fld m::q,k,f=>(match decide (n=m) with|true=>matchPath p q k f|false=>f)
 | .idx::p, .idx i::q,k,f=>matchPath p q (fun d=>k (i,d)) f
 |_,_,_,f=>f
def decF (s:St)(t:Ty)(v:AV)(k:t.den→List Nat→Option α)(fail:Option α):Option α:=
 match tyFits t v with|true=>decK s t v k|false=>fail
mutual
def matchP (s:St):(p:Pat)→AV→Bnd→(p.den→List Nat→Bnd→Option α)→Option α→Option α
 | .hole t,v,b,k,f=>decF s t v (fun x i=>k x i b) f
 | .rhole t,v,b,k,f=>match v with
  | .ptr i p=>s.get i p fun u=>decK s t u fun x ids=>k x (i::ids) b
  | .rptr u=>decK s t u fun x ids=>k x ids b
  |_=>f
 | .const c,v,b,k,f=>match v with| .val v=>(match veq c v with|true=>k () [] b|false=>f)|_=>f
 | .ptr c,v,b,k,f=>match v with| .ptr i []=>(match b.add c (.at_ i) with|some b=>k () [] b|none=>f)|_=>f
 | .own c,v,b,k,f=>match v with
  | .tail i off=>(match b.add c (.tl i off) with|some b=>k () [] b|none=>f)
  | .val (.slice none 0 0)=>(match b.add c .nil with|some b=>k () [] b|none=>f)
  | .slice i [] off len=>(match isRow s i with|true=>(match b.add c (.sl i off len) with|some b=>k () [] b|none=>f)|false=>f)
  |_=>f
 | .slc c,v,b,k,f=>match v with
  | .slice i [] off len=>(match decide (off=0) with|true=>(match b.add c (.tl i 0) with|some b=>k len [] b|none=>f)|false=>f)
  |_=>f
 | .agg ps,v,b,k,f=>match v with| .agg vs=>matchPs s ps vs b k f|_=>f
 | .pth c p,v,b,k,f=>match v with| .ptr i q=>matchPath p q (fun d=>match b.add c (.at_ i) with|some b=>k d [] b|none=>f) f|_=>f
 | .clo fn ps,v,b,k,f=>match v with| .clo fn' vs=>(match fnIs fn fn' with|true=>matchPs s ps vs b k f|false=>f)|_=>f
 | .vsl c n,v,b,k,f=>match v with| .vsl i m=>(match decide (n=m) with|true=>(match b.add c (.at_ i) with|some b=>k () [] b|none=>f)|false=>f)|_=>f
 | .skip,v,b,k,f=>match v.sh with| .one=>k () [] b|_=>f
 | .rpt p,v,b,k,f=>match v with
  | .ptr i q=>s.get i q fun u=>matchP s p u b (fun x ids b=>k x (i::ids) b) f
  | .rptr u=>matchP s p u b k f
  |_=>f
def matchPs (s:St):(ps:List Pat)→List AV→Bnd→(Pat.dens ps→List Nat→Bnd→Option α)→Option α→Option α
 | [],[],b,k,_=>k () [] b
 |p::ps,v::vs,b,k,f=>matchP s p v b (fun x i b=>matchPs s ps vs b (fun y j b=>k (x,y) (i++j) b) f) f
 |_,_,_,_,f=>f
end
def matchS (s:St):(l:List (Nat×Pat))→Bnd→(sdens l→List Nat→Bnd→Option α)→Option α→Option α
 | [],b,k,_=>k () [] b
 |o::os,b,k,f=>matchP s o.2 (s.t o.1) b (fun x i b=>matchS s os b (fun y j b=>k (x,y) (i++j) b) f) f
def matchO (s:St)(f:Option α):(p:OPat)→Tgt→Bnd→(p.den→List Nat→Bnd→Option α)→Option α
 | .var p, .at_ i,b,k=>match s.h i with|some (.var v)=>matchP s p v b k f|_=>none
 | .row t, .tl i off,b,k=>match s.h i with
  |some (.row false t' xs)=>(match castL t' t xs with|some ys=>k (ys.drop off) [] b|none=>none)
  |_=>none
 | .row t, .sl i off len,b,k=>match s.h i with
  |some (.row false t' xs)=>(match castL t' t xs with|some ys=>k ((ys.drop off).take len) [] b|none=>none)
  |_=>none
 | .row _, .nil,b,k=>k [] [] b
 | .store ep, .at_ i,b,k=>match decide (SB≤i) with
  |true=>(match s.h i with
   |some (.store ep' xs)=>(match castS ep' ep xs with|some ys=>k ys [] b|none=>none)
   |none=>k [] [] b
   |some .void=>k [] [] b
   |_=>none)
  |false=>none
 |_,_,_,_=>none
def matchH (s:St)(f:Option α):(l:List (Nat×OPat))→Bnd→(hD_ l→List Nat→Bnd→Option α)→Option α
 | [],b,k=>k () [] b
 |(c,p)::os,b,k=>match b.look c with
  |some g=>matchO s f p g b fun x i b=>matchH s f os b fun y j b=>k (x,y) (i++j) b
  |none=>none
def Tgt.ids:Tgt→List Nat
 | .at_ i=> [i]| .tl i _=> [i]| .nil=> []| .sl i _ _=> [i]
def rI (l:List (Nat×OPat))(b:Bnd):List Nat:=l.flatMap fun o=>match b.look o.1 with|some g=>g.ids|none=> []
def nodup:List Nat→Bool
 | []=>true
 |x::xs=>!xs.contains x&&nodup xs
def isObj (s:St)(i:Nat):Bool:=match s.h i with|some (.var _)=>true|some (.row _ _ _)=>true|_=>false
def matchSt (sp:SPat)(s:St)(b:Bnd)(k:sp.den→List Nat→Bnd→Option α)(fail:Option α):Option α:=
 matchS s sp.slots b (fun x i b=>matchH s fail sp.heap b fun y j b=>
  match nodup (rI sp.heap b)&& (i++j).all (fun i=>!(rI sp.heap b).contains i&&isObj s i) with
  |true=>k (x,y) (i++j) b
  |false=>none) fail
def tryEx (s:St)(b:Bnd):(es:List SPat)→(eD es→Option α)→Option α
 | [],_=>none
 | [e],k=>matchSt e s b (fun d _ _=>k d) none
 |e::e'::es,k=>matchSt e s b (fun d _ _=>k (.inl d)) (tryEx s b (e'::es) fun d=>k (.inr d))
def caseEx:(es:List SPat)→eD es→((e:SPat)→Nat→e.den→Option α)→Option α
 | [],d,_=>nomatch d
 | [e],d,k=>k e 0 d
 |e::e'::es,d,k=>match d with
  | .inl d=>k e 0 d
  | .inr d=>caseEx (e'::es) d fun e n d=>k e (n+1) d
def iter {L R:Type}(b:L→Option (L⊕R)):Nat→L→Option R
 |0,_=>none
 |n+1,l=>match b l with
  |none=>none
  |some (.inr r)=>some r
  |some (.inl l)=>iter b n l
open Classical in
noncomputable def loopFix {L R:Type}(b:L→Option (L⊕R))(l:L):Option R:=if h: ∃r,∃n,iter b n l=some r then some h.choose else none
theorem iter_more {L R:Type}{b:L→Option (L⊕R)}{r:R}: ∀{n m:Nat} {l:L},iter b n l=some r→n≤m→iter b m l=some r
 |0,_,_,h,_=>by simp[iter] at h
 |n+1,0,_,_,hm=>by omega
 |n+1,m+1,l,h,hm=>by
  simp only[iter] at h⊢
  split at h
  ·cases h
  ·exact h
  ·exact iter_more h (by omega)
theorem loopFix_iff {L R:Type}{b:L→Option (L⊕R)}{l:L}{r:R}:loopFix b l=some r↔∃n,iter b n l=some r:=by
 unfold loopFix
 constructor
 ·intro h
  split at h
  ·rename_i hx
   injection h with h
   subst h
   exact hx.choose_spec
  ·cases h
 ·rintro⟨n,hn⟩
  have hx: ∃r,∃n,iter b n l=some r:=⟨r,n,hn⟩
  rw[dif_pos hx]
  obtain⟨m,hm⟩:=hx.choose_spec
  have h1:=iter_more hm (Nat.le_max_left m n)
  have h2:=iter_more hn (Nat.le_max_right m n)
  rw[h1] at h2
  exact h2
theorem loopFix_eq {L R:Type}(b:L→Option (L⊕R))(l:L):loopFix b l=match b l with|none=>none|some (.inr r)=>some r|some (.inl l')=>loopFix b l':=by
 cases h:b l with
 |none=>
  cases h2:loopFix b l with
  |none=>rfl
  |some r=>
   obtain⟨n,hn⟩:=loopFix_iff.1 h2
   cases n<;>simp[iter,h] at hn
 |some x=>
  cases x with
  |inr r=>exact loopFix_iff.2 ⟨1,by simp[iter,h]⟩
  |inl l'=>
   show _=loopFix b l'
   cases h2:loopFix b l' with
   |some r=>
    obtain⟨n,hn⟩:=loopFix_iff.1 h2
    exact loopFix_iff.2 ⟨n+1,by simp[iter,h,hn]⟩
   |none=>
    cases h3:loopFix b l with
    |none=>rfl
    |some r=>
     obtain⟨n,hn⟩:=loopFix_iff.1 h3
     cases n with
     |zero=>simp[iter] at hn
     |succ n=>
      simp only[iter,h] at hn
      rw[loopFix_iff.2 ⟨n,hn⟩] at h2
      cases h2
def back (b:Bnd)(fresh c:Nat):Nat:=match decide (c<50) with
 |true=>(match b.get c with|some (.at_ i)=>i|_=>0)
 |false=>(match decide (SB≤c) with|true=>c|false=>fresh+(c-50))
def killAll (h:Nat→Option AObj):List Nat→(Nat→Option AObj)
 | []=>h
 |i::l=>fun x=>if x=i then some .dead else killAll h l x
def freezeAll (h:Nat→Option AObj):List Nat→(Nat→Option AObj)
 | []=>h
 |i::l=>fun x=>if x=i then(match h i with|some (.row _ t xs)=>some (.row true t xs)|_=>some .dead) else freezeAll h l x
structure FSpec where
 pre:SPat
 exits:List SPat
 light:Bool
def absent:Option AObj→Bool
 |none=>true
 |some .void=>true
 |_=>false
def freeNew (h:Nat→Option AObj)(fresh:Nat)(pre l:List (Nat×OPat)):Bool:=l.all fun o=>decide (o.1<50)||(match decide (SB≤o.1) with
 |true=>(pre.any fun q=>decide (q.1=o.1))||absent (h o.1)
 |false=>decide (o.1<150)&& (h (fresh+(o.1-50))).isNone)
def resAV:List AV→AV
 | [v]=>v
 |vs=> .tup vs
def exSt (sp:FSpec):List Nat:=sp.exits.flatMap fun e=>(e.heap.map (·.1)).filter fun c=>decide (SB≤c)
def fpBy (sp:FSpec)(args:List AV)(st:St)(fail:List Nat×List Nat):List Nat×List Nat:=
 (matchSt sp.pre {t:=fun i=>(args[i]?).getD .undef,h:=st.h,ep:=0,nt:=0} [] (fun _ ro b=>some (match sp.light with|true=>(ro,rI sp.pre.heap b++exSt sp)|false=>([],rI sp.pre.heap b++(ro++exSt sp)))) (some fail)).getD ([],[])
def retH (lt:Bool)(h:Nat→Option AObj)(pre:SPat)(b:Bnd)(ro:List Nat):Nat→Option AObj:=match lt with|true=>killAll h (rI pre.heap b)|false=>freezeAll (killAll h (rI pre.heap b)) ro
def callG (sp:FSpec)(f:sp.pre.den→Option (eD sp.exits))(args:List AV)(st:St)(W:List Nat)(fresh:Nat)(k:SPat→List Nat→AV→St→Option α)(fail:Option α):Option α:=
 match decide (args.length=sp.pre.slots.length) with
 |false=>none
 |true=>matchSt sp.pre {t:=fun i=>(args[i]?).getD .undef,h:=st.h,ep:=0,nt:=0} [] (fun d ro b=>
  match f d with
  |none=>none
  |some r=>match(rI sp.pre.heap b++(match sp.light with|true=> []|false=>ro)).all (fun i=>W.contains i) with
   |false=>none
   |true=>caseEx sp.exits r fun e _ d'=>
    match freeNew st.h fresh sp.pre.heap e.heap&&e.heap.all (fun o=>!decide (SB≤o.1)||W.contains o.1) with
    |false=>none
    |true=>k e (e.heap.map fun o=>back b fresh o.1) (resAV (e.slots.map fun o=>mkT (back b fresh) e.slots d'.1 o.1)) {st with h:=mkH (back b fresh) e.heap d'.2 (retH sp.light st.h sp.pre b ro)}) fail
mutual
def Pat.ks:Pat→List Nat
 | .hole t=>t.ks
 | .rhole t=>t.ks
 | .agg ps=>Pat.kss ps
 | .clo _ ps=>Pat.kss ps
 | .rpt p=>p.ks
 |_=> []
def Pat.kss:List Pat→List Nat
 | []=> []
 |p::ps=>p.ks++Pat.kss ps
end
def OPat.ks:OPat→List Nat
 | .var p=>p.ks
 | .row t=>t.ks
 | .store _=> []
def noK (ks l:List Nat):Bool:=l.all fun g=>!ks.contains g
def nests (ep:List (Nat×OPat)):List Nat:=ep.filterMap fun o=>match o.2 with| .store _=>some (o.1-SB)|_=>none
def iS (ep:List (Nat×OPat))(x:Nat):Bool:=ep.any fun o=>decide (o.1=x)&& (match o.2 with| .store _=>true|_=>false)
def leakOk (e:SPat)(ids rw:List Nat)(ks:List Nat):Bool:=
 (e.slots.all fun o=>noK ks o.2.ks)&& ((e.heap.zip ids).all fun p=>rw.contains p.2||(noK ks p.1.2.ks&& (match p.1.2 with| .store _=>false|_=>true)))
def OPat.isSt:OPat→Bool
 | .store _=>true
 |_=>false
mutual
def Pat.cs:Pat→List Nat
 | .ptr c=> [c]| .own c=> [c]| .slc c=> [c]| .pth c _=> [c]| .vsl c _=> [c]
 | .agg ps=>Pat.css ps
 | .clo _ ps=>Pat.css ps
 | .rpt p=>p.cs
 |_=> []
def Pat.css:List Pat→List Nat
 | []=> []
 |p::ps=>p.cs++Pat.css ps
end
def OPat.cs:OPat→List Nat
 | .var p=>p.cs
 |_=> []
def slotCs (l:List (Nat×Pat)):List Nat:=l.flatMap fun o=>o.2.cs
def slotKs (l:List (Nat×Pat)):List Nat:=l.flatMap fun o=>o.2.ks
def heapCs (l:List (Nat×OPat)):List Nat:=l.flatMap fun o=>o.2.cs
def heapKs (l:List (Nat×OPat)):List Nat:=l.flatMap fun o=>o.2.ks
def SPat.closed (sp:SPat):Bool:=((slotCs sp.slots++heapCs sp.heap).all fun c=>decide (c<SB)&&sp.heap.any fun e=>decide (e.1=c))&& ((slotKs sp.slots++heapKs sp.heap).all fun g=>iS sp.heap (SB+g))&&sp.heap.all fun e=>e.2.isSt==decide (SB≤e.1)
def epOk (ep:List (Nat×OPat)):Bool:=(SPat.mk [] ep).closed&& (ep.all fun o=>o.2.isSt||(decide (50≤o.1)&&decide (o.1<90)))&&nodup (ep.map (·.1))
def epB (off:Nat)(ep:List (Nat×OPat)):Bnd:=ep.filterMap fun o=>match o.2 with| .var _=>some (o.1, .at_ (off+(o.1-50)))|_=>none
def varAt (ep:List (Nat×OPat))(c:Nat):Bool:=ep.any fun o=>decide (o.1=c)&& (match o.2 with| .var _=>true|_=>false)
def convAV (g n off:Nat)(ep:List (Nat×OPat)):AV→AV
 | .ptr i []=>(match decide (off≤i)&&varAt ep (i-off+50) with|true=> .rf g n (i-off+50)|false=> .ptr i [])
 |v=>v
def resL:AV→List AV
 | .tup vs=>vs
 |v=> [v]
def convR (f:AV→AV):AV→AV
 | .tup vs=> .tup (vs.map f)
 |v=>f v
def parkH (h:Nat→Option AObj)(ep:List (Nat×OPat))(rw:List Nat)(g:Nat)(o:AObj):Nat→Option AObj:=fun x=>
 if x=SB+g then some o else match iS ep x with|true=>some .void|false=>if rw.contains x then some .dead else h x
def setS {ep:List (Nat×OPat)}(xs:List (hD_ ep))(n:Nat)(d:hD_ ep):List (hD_ ep):=xs.set n d
def snocS {ep:List (Nat×OPat)}(xs:List (hD_ ep))(d:hD_ ep):List (hD_ ep):=xs++ [d]
def lenS {ep:List (Nat×OPat)}(xs:List (hD_ ep)):Nat:=xs.length
def isDead:Option AObj→Bool
 |some .dead=>true
 |_=>false
def inW (W:List Nat)(fresh:Nat)(l:List Nat):Bool:=l.all fun i=>W.contains i||decide (i/100=fresh/100)
def putK (W:List Nat)(fresh g n off:Nat)(ep:List (Nat×OPat))(xs:List (hD_ ep))(e:SPat)(ids:List Nat)(av:AV)(st:St)(k:AV→St→Option α):Option α:=
 matchSt ⟨[],ep⟩ st (epB off ep) (fun d ro b=>match ro.isEmpty&&leakOk e ids (rI ep b) (nests ep)&&!(rI ep b).contains (SB+g)&&ep.all (fun o=>o.2.isSt||(rI ep b).contains (back [] off o.1)||isDead (st.h (back [] off o.1)))&&inW W fresh (rI ep b) with
  |false=>none
  |true=>k (convR (convAV g (n+1) off ep) av) {st with h:=parkH st.h ep (rI ep b) g (.store ep (setS xs n d.2))}) none
def depAV (g n:Nat)(vs:List AV)(i:Nat):AV:=resAV (vs.set i (.rf g n 50))
def storeAt (ep:List (Nat×OPat))(o:Option AObj)(k:List (hD_ ep)→Option α):Option α:=match o with
 |some (.store ep' xs)=>(match castS ep' ep xs with|some ys=>k ys|none=>none)
 |none=>k []
 |some .void=>k []
 |_=>none
def depK (W:List Nat)(fresh i g:Nat)(ep:List (Nat×OPat))(e:SPat)(ids:List Nat)(av:AV)(st:St)(k:AV→St→Option α):Option α:=
 match(resL av)[i]? with
 |some (.ptr j [])=>storeAt ep (st.h (SB+g)) fun xs=>matchSt ⟨[],ep⟩ st [(50, .at_ j)] (fun d ro b=>
  match ro.isEmpty&&leakOk e ids (rI ep b) (nests ep)&&!(rI ep b).contains (SB+g)&&varAt ep 50&&!iS ep (SB+g)&&inW W fresh (rI ep b) with
  |false=>none
  |true=>k (depAV g (lenS (ep:=ep) xs+1) (resL av) i) {st with h:=parkH st.h ep (rI ep b) g (.store ep (snocS xs d.2))}) none
 |some (.val (.pointer none))=>k av st
 |_=>none
structure FCon where
 sp:FSpec
 f:sp.pre.den→Option (eD sp.exits)
 dep:Option (Nat×Nat×List (Nat×OPat))
def findRf:List AV→List (Nat×Pat)→Nat→Option (Nat×Nat×Nat×Nat)
 | .rf g n c::vs,(_, .ptr _)::ps,j=>some (j,g,n,c)
 |_::vs,_::ps,j=>findRf vs ps (j+1)
 |_,_,_=>none
def PStep.dflt:(p:List PStep)→PStep.dens p
 | []=>()
 | .fld _::p=>PStep.dflt p
 | .idx::p=>((0:Nat),PStep.dflt p)
mutual
def Pat.dflt:(p:Pat)→p.den
 | .hole t=>zeroD t
 | .rhole t=>zeroD t
 | .agg ps=>Pat.dflts ps
 | .clo _ ps=>Pat.dflts ps
 | .slc _=>(0:Nat)
 | .pth _ p=>PStep.dflt p
 | .const _=>()
 | .ptr _=>()
 | .own _=>()
 | .vsl _ _=>()
 | .skip=>()
 | .rpt p=>p.dflt
def Pat.dflts:(ps:List Pat)→Pat.dens ps
 | []=>()
 |p::ps=>(p.dflt,Pat.dflts ps)
end
def OPat.dflt:(p:OPat)→p.den
 | .var p=>p.dflt
 | .row _=> []
 | .store _=> []
def hdflt:(l:List (Nat×OPat))→hD_ l
 | []=>()
 |(_,p)::os=>(p.dflt,hdflt os)
def takeSt (st:St)(g off:Nat)(ep:List (Nat×OPat))(d:hD_ ep):St:={st with h:=mkH (back [] off) ep d (killAll st.h [SB+g])}
def fpX (con:FCon)(args:List AV)(st:St)(fresh:Nat)(fail:List Nat×List Nat):List Nat×List Nat:=match findRf args con.sp.pre.slots 0 with
 |none=>(match con.dep with
  |none=>fpBy con.sp args st fail
  |some (_,g,ep)=>((fpBy con.sp args st fail).1,(SB+g)::(ep.map (·.1)++(fpBy con.sp args st fail).2)))
 |some (j,g,_,c)=>match st.h (SB+g) with
  |some (.store ep _)=>
    let fp:=fpBy con.sp (args.set j (.ptr (back [] (fresh+60) c) [])) (takeSt st g (fresh+60) ep (hdflt ep)) fail
    (fp.1,(SB+g)::(ep.map (fun o=>back [] (fresh+60) o.1)++fp.2))
  |_=>([],[])
def callX (con:FCon)(args:List AV)(st:St)(W:List Nat)(fresh:Nat)(k:AV→St→Option α)(fail:Option α):Option α:=match findRf args con.sp.pre.slots 0 with
 |none=>(match con.dep with
  |none=>callG con.sp con.f args st W fresh (fun _ _ av st'=>k av st') fail
  |some (i,g,ep)=>match W.contains (SB+g)&&ep.all (fun o=>W.contains o.1)&&epOk ep&&ep.all (fun o=>!o.2.isSt||absent (st.h o.1)) with
   |true=>callG con.sp con.f args st W fresh (fun e ids av st'=>depK W fresh i g ep e ids av st' k) fail
   |false=>none)
 |some (j,g,n,c)=>match st.h (SB+g) with
  |some (.store ep xs)=>(match n with
   |0=>none
   |n+1=>match xs[n]? with
    |none=>none
    |some d=>match epOk ep&&freeNew st.h (fresh+60) [] ep&&W.contains (SB+g)&&ep.all (fun o=>W.contains (back [] (fresh+60) o.1))&&varAt ep c with
     |false=>none
     |true=>callG con.sp con.f (args.set j (.ptr (back [] (fresh+60) c) [])) (takeSt st g (fresh+60) ep d) W fresh (fun e ids av st'=>putK W fresh g n (fresh+60) ep xs e ids av st' k) fail)
  |_=>none
def onS {β:Type}(n:Nat)(k:Nat→Option β):Option β:=match n with|0=>none|m+1=>k m
structure LSpec where
 pre:SPat
 exits:List SPat
 outs:List Out
 nt:Nat
noncomputable def loopBy (sp:LSpec)(f:sp.pre.den→Option (sp.pre.den⊕eD sp.exits))(st:St)(k:Out→St→Option α)(fail:Option α):Option α:=
 match decide (st.nt=sp.nt) with
 |false=>none
 |true=>matchSt sp.pre st [] (fun d ro b=>
  match loopFix f d with
  |none=>none
  |some r=>caseEx sp.exits r fun e n d'=>
   match freeNew st.h (name (st.ep+1) 998 0) sp.pre.heap e.heap with
   |false=>none
   |true=>k ((sp.outs[n]?).getD .norm) {t:=mkT (back b (name (st.ep+1) 998 0)) e.slots d'.1,h:=mkH (back b (name (st.ep+1) 998 0)) e.heap d'.2 (retH false st.h sp.pre b ro),ep:=st.ep+1,nt:=st.nt}) fail
def keepB (sp:SPat):Bnd:=sp.heap.filterMap fun o=>match o.2 with| .var _=>(match decide (o.1<50) with|true=>some (o.1, .at_ o.1)|false=>none)|_=>none
def resultsOf (P:Program)(st:St):List ResultVar→(List AV→Option α)→Option α
 | [],k=>k []
 | .tmp t::l,k=>resultsOf P st l fun vs=>k (st.t t::vs)
 | .cell a t::l,k=>match st.t a with| .ptr i p=>st.get i p fun v=>(match fitsT P t v with|true=>resultsOf P st l fun vs=>k (v::vs)|false=>none)|_=>none
def funK (P:Program)(sp:FSpec)(fn:Func)(o:Out)(st:St):Option (eD sp.exits):=
 match o with
 | .exit _=>none
 |_=>resultsOf P st fn.results.toList fun vs=>tryEx {st with t:=fun i=>(vs[i]?).getD .undef} (keepB sp.pre) sp.exits some
noncomputable def fB (P:Program)(sp:FSpec)(env:Env (eD sp.exits))(fn:Func)(d:sp.pre.den):Option (eD sp.exits):=
 match fn.body with
 |some c=>exec P env 100000 [.code c] (sp.pre.st fn.ntmps d) (funK P sp fn)
 |none=>none
def fL_ (id:Nat):Code→Option Code
 | .seq a b=>match fL_ id a with|some c=>some c|none=>fL_ id b
 | .cond _ a b=>match fL_ id a with|some c=>some c|none=>fL_ id b
 | .block _ c=>fL_ id c
 | .scope c=>fL_ id c
 | .loop c=>if firstRegion c=some id then some c else fL_ id c
 |_=>none
def loopAt (id:Nat)(fn:Func):Code:=match fn.body with|some c=>(fL_ id c).getD .skip|none=> .skip
structure LCon where
 sp:LSpec
 f:sp.pre.den→Option (sp.pre.den⊕eD sp.exits)
def lookN {β:Type}(n:Nat):List (Nat×β)→Option β
 | []=>none
 |p::l=>if p.1=n then some p.2 else lookN n l
noncomputable def loopsBy (st:St)(k:Out→St→Option α):List LCon→Option α
 | []=>none
 |l::ls=>loopBy l.sp l.f st k (loopsBy st k ls)
def callsX (args:List AV)(st:St)(W:List Nat)(fresh:Nat)(k:AV→St→Option α):List FCon→Option α
 | []=>none
 |c::cs=>callX c args st W fresh k (callsX args st W fresh k cs)
def fpsX (args:List AV)(st:St)(fresh:Nat):List FCon→List Nat×List Nat
 | []=>([],[])
 |c::cs=>fpX c args st fresh (fpsX args st fresh cs)
noncomputable def mE (calls:List (Nat×List FCon))(loops:List (Nat×List LCon)):Env α where
 call f args st fresh k:=match lookN f calls with
  |some cs=>callsX args st (fpsX args st fresh cs).2 fresh k cs
  |none=>none
 loop id st k:=match lookN id loops with
  |some ls=>loopsBy st k ls
  |none=>none
 fp f args st fresh:=match lookN f calls with
  |some cs=>fpsX args st fresh cs
  |none=>([],[])
def outEq:Out→Out→Bool
 | .norm, .norm=>true| .ret, .ret=>true| .exit i, .exit j=>decide (i=j)|_,_=>false
def tryOuts (s:St)(b:Bnd)(o:Out):(es:List SPat)→List Out→(eD es→Option α)→Option α
 | [],_,_=>none
 | [e],outs,k=>match outs with|o'::_=>(match outEq o o' with|true=>matchSt e s b (fun d _ _=>k d) none|false=>none)| []=>none
 |e::e'::es,outs,k=>match outs with
  |o'::outs=>(match outEq o o' with
   |true=>matchSt e s b (fun d _ _=>k (.inl d)) (tryOuts s b o (e'::es) outs fun d=>k (.inr d))
   |false=>tryOuts s b o (e'::es) outs fun d=>k (.inr d))
  | []=>none
def loopK (sp:LSpec)(o:Out)(st:St):Option (sp.pre.den⊕eD sp.exits):=
 match decide (st.nt=sp.nt) with
 |false=>none
 |true=>match o with
  | .norm=>matchSt sp.pre st (keepB sp.pre) (fun d _ _=>some (.inl d)) none
  |o=>tryOuts st (keepB sp.pre) o sp.exits sp.outs fun d=>some (.inr d)
noncomputable def lB (P:Program)(sp:LSpec)(env:Env (sp.pre.den⊕eD sp.exits))(fn:Func)(id:Nat)(d:sp.pre.den):Option (sp.pre.den⊕eD sp.exits):=
 exec P env 100000 [.code (loopAt id fn)] (sp.pre.st sp.nt d) (loopK sp)
end
end AM
namespace AM
open Go
structure Nm where
 base:Option Addr
 sh:Sh
 row:Bool
 len:Nat
 cap:Nat
structure Nm_ where
 at_:List (Nat×Nat)→Nat→Option Nm
instance :CoeFun Nm_ (fun _=>Nat→Option Nm):=⟨fun N=>N.at_ []⟩
def Nm_.sub (N:Nm_)(g k:Nat):Nm_:=⟨fun p=>N.at_ ((g,k)::p)⟩
def Nm_.up (N:Nm_)(f:Nat→Option Nm):Nm_:=⟨fun p=>match p with| []=>f|q::p=>N.at_ (q::p)⟩
def Nm_.nil:Nm_:=⟨fun _ _=>none⟩
def Nm_.subLe (N N':Nm_):Prop:= ∀g k c nm,N.sub g k c=some nm→nm.row=false→N'.sub g k c=some nm
structure Nm_.le (N N':Nm_):Prop where
 st: ∀i nm,N i=some nm→N' i=some nm
 sub:N.subLe N'
instance {N N':Nm_}:CoeFun (N.le N') (fun _=> ∀i nm,N i=some nm→N' i=some nm):=⟨fun h=>h.st⟩
theorem Nm_.le_refl (N:Nm_):N.le N:=⟨fun _ _ h=>h,fun _ _ _ _ h _=>h⟩
theorem Nm_.le.trans {N N' N'':Nm_}(h:N.le N')(h':N'.le N''):N.le N'':=⟨fun _ _ e=>h'.st _ _ (h.st _ _ e),fun g k c nm e r=>h'.sub g k c nm (h.sub g k c nm e r) r⟩
theorem Nm_.le_up {N:Nm_}{f:Nat→Option Nm}(h: ∀i nm,N i=some nm→f i=some nm):N.le (N.up f):=⟨h,fun _ _ _ _ e _=>e⟩
def oS:List Step→Sh→Option Nat
 | [],_=>some 0
 | .fld n::p, .agg l=>match l[n]? with|some s=>(oS p s).map (Sh.sizes (l.take n)+·)|none=>none
 | .idx i::p, .arr n e=>if i<n then(oS p e).map (i*e.size+·) else none
 |_,_=>none
def Nm.off (nm:Nm):List Step→Option Nat
 | .idx i::p=>if nm.row then(if i<nm.len then(oS p nm.sh).map (i*nm.sh.size+·) else none) else oS (.idx i::p) nm.sh
 |p=>if nm.row then none else oS p nm.sh
def Nm.shp (nm:Nm)(p:List Step):Option Sh:=if nm.row then(match p with| .idx _::p=>shP p nm.sh|_=>none) else shP p nm.sh
def Addr.at_ (a:Addr)(n:Nat):Addr:=⟨a.block,a.off+n,none⟩
def cA (w:World)(a:Addr)(j:Nat):Option Value:=w.cell? ⟨a.block,a.off+j,none⟩
abbrev lget {β:Type}(xs:List β)(i:Nat):Option β:=xs[i]?
abbrev llen {β:Type}(xs:List β):Nat:=xs.length
def SlAt (ad:Addr)(len room:Nat)(v:Value):Prop:= ∃a cap,v= .slice (some a) len cap∧len≤cap∧cap=room∧(a=ad∨cap=0)
section
variable (N:Nm_)(D:Nat→Prop)(w:World)
def RfAt (tag n c:Nat)(v:Option Value):Prop:=match n with
 |0=>v=some (.pointer none)
 |k+1=> ∃nm a,N.sub tag k c=some nm∧nm.row=false∧nm.base=some a∧v=some (.pointer (some (Addr.at_ a 0)))
def TRel:(t:Ty)→t.den→(Nat→Option Value)→Prop
 | .int k,n,g=>g 0=some (.int k n)
 | .bool,b,g=>g 0=some (.bool b)
 | .str,s,g=>g 0=some (.string s)
 | .nil,_,_=>True
 | .cons a b,p,g=>TRel a p.1 g∧TRel b p.2 (fun j=>g (a.size+j))
 | .arr n t,xs,g=>llen (β:=t.den) xs=n∧∀i (x:t.den),lget (β:=t.den) xs i=some x→TRel t x (fun j=>g (i*t.size+j))
 | .deep t,xs,g=> ∃a cap,g 0=some (.slice a (llen (β:=t.den) xs) cap)∧llen (β:=t.den) xs≤cap∧(a=none→cap=0)∧
   ∀ad,a=some ad→llen (β:=t.den) xs≠0→ad.spot=none∧D ad.block∧∀i (x:t.den),lget (β:=t.den) xs i=some x→TRel t x (fun j=>cA w ad (i*t.size+j))
 | .ref g,n,c=>RfAt N g n 50 (c 0)
def DRel (t:Ty)(xs:List t.den)(v:Value):Prop:=TRel N D w (.deep t) xs (fun _=>some v)
end
def vrel (agg:Bool)(size:Nat)(R:(Nat→Option Value)→Prop)(v:Value):Prop:=
 match agg with
 |true=> ∃cells:Array Value,v= .agg cells∧cells.size=size∧R (cells[·]?)
 |false=>R (fun _=>some v)
section
variable (N:Nm_)(D:Nat→Prop)(w:World)
mutual
def RA:AV→(Nat→Option Value)→Prop
 | .undef,_=>True
 | .val v,g=>g 0=some v
 | .ptr id p,g=> ∃nm a o,N id=some nm∧nm.base=some a∧nm.off p=some o∧g 0=some (.pointer (some (Addr.at_ a o)))
 | .tail id off,g=> ∃nm,N id=some nm∧nm.row=true∧off≤nm.len∧nm.len≤nm.cap∧
   match nm.base with
   |none=>nm.len=0∧g 0=some (.slice none 0 0)
   |some a=> ∃v room,g 0=some v∧off+room≤nm.cap∧SlAt (Addr.at_ a (off*nm.sh.size)) (nm.len-off) room v
 | .slice id p off len,g=> ∃nm,N id=some nm∧match nm.base with
  |none=>(nm.row&&p.isEmpty)=true∧off=0∧len=0∧nm.len=0∧g 0=some (.slice none 0 0)
  |some a=>
   if(nm.row&&p.isEmpty)=true then off+len≤nm.len∧nm.len≤nm.cap∧∃v room,g 0=some v∧off+room≤nm.cap∧nm.len≤off+room∧SlAt (Addr.at_ a (off*nm.sh.size)) len room v
   else∃o n e v room,nm.off p=some o∧nm.shp p=some (.arr n e)∧off+len≤n∧g 0=some v∧off+room=n∧SlAt (Addr.at_ a (o+off*e.size)) len room v
 | .dp t xs,g=>TRel N D w (.deep t) xs g
 | .rptr v,g=> ∃a,g 0=some (.pointer (some a))∧a.spot=none∧D a.block∧RA v (cA w a)
 | .agg fs,g=>RL fs g
 | .arr n t xs,g=>TRel N D w (.arr n t) xs g
 | .rf tag n c,g=>RfAt N tag n c (g 0)
 | .tup vs,g=> ∃cs:Array Value,g 0=some (.tuple cs)∧RE vs cs.toList
 | .clo fn vs,g=> ∃cs:Array Value,g 0=some (.func fn #[] cs)∧RE vs cs.toList
 | .ubool,g=> ∃b,g 0=some (.bool b)
 | .fad id p f off,g=> ∃nm a o,N id=some nm∧nm.base=some a∧nm.off p=some o∧g 0=some (.pointer (some (Addr.at_ a (o+off))))
 | .bnd fn vs,g=> ∃cs:Array Value,g 0=some (.func fn cs #[])∧RE vs cs.toList
 | .vsl id n,g=> ∃nm a,N id=some nm∧nm.base=some a∧nm.row=false∧g 0=some (.slice (some a) n n)
def RL:List AV→(Nat→Option Value)→Prop
 | [],_=>True
 |x::xs,g=>RA x g∧RL xs (fun j=>g (x.size+j))
def RE:List AV→List Value→Prop
 | [],cs=>cs=[]
 |x::xs,cs=> ∃c cs',cs=c::cs'∧vrel x.isAgg x.size (RA x) c∧RE xs cs'
end
def VRel (x:AV)(v:Value):Prop:=vrel x.isAgg x.size (RA N D w x) v
end
theorem RfAt_mono {N N':Nm_}(hN:N.subLe N'){tag n c:Nat}{v:Option Value}(h:RfAt N tag n c v):RfAt N' tag n c v:=by
 cases n with
 |zero=>exact h
 |succ k=>obtain⟨nm,a,h1,h2,h3⟩:=h;exact⟨nm,a,hN _ _ _ _ h1 h2,h2,h3⟩
def SubOn (ks:List Nat)(N N':Nm_):Prop:= ∀g∈ks,∀k c nm,N.sub g k c=some nm→nm.row=false→N'.sub g k c=some nm
theorem Nm_.subLe.on {N N':Nm_}(h:N.subLe N')(ks:List Nat):SubOn ks N N':=fun g _=>h g
theorem SubOn.left {ks ks':List Nat}{N N':Nm_}(h:SubOn (ks++ks') N N'):SubOn ks N N':=fun g hg=>h g (List.mem_append_left _ hg)
theorem SubOn.right {ks ks':List Nat}{N N':Nm_}(h:SubOn (ks++ks') N N'):SubOn ks' N N':=fun g hg=>h g (List.mem_append_right _ hg)
theorem TmK {N N':Nm_}{D D':Nat→Prop}{w w':World}(hD: ∀b,D b→D' b)(hw: ∀b,D b→w'.heap[b]?=w.heap[b]?): ∀(t:Ty) (x:t.den) (g:Nat→Option Value),SubOn t.ks N N'→TRel N D w t x g→TRel N' D' w' t x g
 | .int _,_,_,_,h=>by simp only[TRel] at*;exact h
 | .bool,_,_,_,h=>by simp only[TRel] at*;exact h
 | .str,_,_,_,h=>by simp only[TRel] at*;exact h
 | .nil,_,_,_,_=>by simp only[TRel]
 | .cons a b,p,g,hN,h=>⟨TmK hD hw a p.1 g hN.left h.1,TmK hD hw b p.2 _ hN.right h.2⟩
 | .arr n t,xs,g,hN,h=>⟨h.1,fun i x hx=>TmK hD hw t x _ hN (h.2 i x hx)⟩
 | .deep t,xs,g,hN,h=>by
  obtain⟨a,cap,h1,h2,h3,h4⟩:=h
  refine⟨a,cap,h1,h2,h3,fun ad ha hx=>?_⟩
  obtain⟨h5,h6,h7⟩:=h4 ad ha hx
  refine⟨h5,hD _ h6,fun i x hi=>?_⟩
  have:=TmK hD hw t x _ hN (h7 i x hi)
  have e:(fun j=>cA w ad (i*t.size+j))=fun j=>cA w' ad (i*t.size+j):=by
   funext j;simp only[cA,World.cell?,hw _ h6]
  rw[←e];exact this
 | .ref g,n,c,hN,h=>by
  show RfAt N' g n 50 (c 0)
  have h:RfAt N g n 50 (c 0):=h
  cases n with
  |zero=>exact h
  |succ k=>obtain⟨nm,a,h1,h2,h3⟩:=h;exact⟨nm,a,hN g (List.mem_singleton.2 rfl) _ _ _ h1 h2,h2,h3⟩
theorem TRel_monoE {N N':Nm_}{D D':Nat→Prop}{w w':World}(hN:N.subLe N')(hD: ∀b,D b→D' b)(hw: ∀b,D b→w'.heap[b]?=w.heap[b]?)(t:Ty)(x:t.den)(g:Nat→Option Value)(h:TRel N D w t x g):TRel N' D' w' t x g:=
 TmK hD hw t x g (hN.on _) h
theorem TRel_mono {N N':Nm_}{D D':Nat→Prop}{w w':World}(hN:N.le N')(hD: ∀b,D b→D' b)(hw: ∀b,D b→w'.heap[b]?=w.heap[b]?)(t:Ty)(x:t.den)(g:Nat→Option Value)(h:TRel N D w t x g):TRel N' D' w' t x g:=
 TRel_monoE hN.sub hD hw t x g h
theorem Tc_ {N:Nm_}{D:Nat→Prop}{w:World}: ∀(t:Ty) (x:t.den) (g g':Nat→Option Value),(∀j,j<t.size→g j=g' j)→TRel N D w t x g→TRel N D w t x g'
 | .int _,_,g,g',hg,h=>by simp only[TRel] at*;rw[←hg 0 (by simp[Ty.size])];exact h
 | .bool,_,g,g',hg,h=>by simp only[TRel] at*;rw[←hg 0 (by simp[Ty.size])];exact h
 | .str,_,g,g',hg,h=>by simp only[TRel] at*;rw[←hg 0 (by simp[Ty.size])];exact h
 | .nil,_,_,_,_,_=>by simp only[TRel]
 | .cons a b,p,g,g',hg,h=>⟨Tc_ a p.1 g g' (fun j hj=>hg j (by simp[Ty.size];omega)) h.1,Tc_ b p.2 _ _ (fun j hj=>hg _ (by simp[Ty.size];omega)) h.2⟩
 | .arr n t,xs,g,g',hg,h=>by
  refine⟨h.1,fun i x hx=>Tc_ t x _ _ (fun j hj=>hg _ ?_) (h.2 i x hx)⟩
  have hi:i<llen (β:=t.den) xs:=(List.getElem?_eq_some_iff.1 hx).1
  have:i+1≤n:=by have:=h.1;omega
  have:=Nat.mul_le_mul_right t.size this
  simp only[Ty.size]
  rw[Nat.add_mul] at this
  omega
 | .deep t,xs,g,g',hg,h=>by
  obtain⟨a,cap,h1,h2⟩:=h
  exact⟨a,cap,by rw[←hg 0 (by simp[Ty.size])];exact h1,h2⟩
 | .ref _,_,g,g',hg,h=>by simp only[TRel] at*;rw[←hg 0 (by simp[Ty.size])];exact h
theorem vrel_imp {agg:Bool}{size:Nat}{R R':(Nat→Option Value)→Prop}(h: ∀g,R g→R' g){v:Value}(hv:vrel agg size R v):vrel agg size R' v:=by
 cases agg with
 |true=>obtain⟨c,h1,h2,h3⟩:=hv;exact⟨c,h1,h2,h _ h3⟩
 |false=>exact h _ hv
section
variable {N N':Nm_}{D D':Nat→Prop}{w w':World}
mutual
theorem RelAt_mono (hN:N.le N')(hD: ∀b,D b→D' b)(hw: ∀b,D b→w'.heap[b]?=w.heap[b]?):
  ∀(x:AV) (g:Nat→Option Value),RA N D w x g→RA N' D' w' x g
 | .undef,_,_=>by simp only[RA]
 | .val v,g,h=>by simp only[RA] at*;exact h
 | .ptr id p,g,h=>by
  simp only[RA] at*
  obtain⟨nm,a,o,h1,h2⟩:=h
  exact⟨nm,a,o,hN _ _ h1,h2⟩
 | .tail id off,g,h=>by
  simp only[RA] at*
  obtain⟨nm,h1,h2⟩:=h
  exact⟨nm,hN _ _ h1,h2⟩
 | .slice id p off len,g,h=>by
  simp only[RA] at*
  obtain⟨nm,h1,h2⟩:=h
  exact⟨nm,hN _ _ h1,h2⟩
 | .dp t xs,g,h=>by simp only[RA] at*;exact TRel_mono hN hD hw _ _ _ h
 | .rptr v,g,h=>by
  simp only[RA] at*
  obtain⟨a,h1,h2,h3,h4⟩:=h
  refine⟨a,h1,h2,hD _ h3,?_⟩
  have e:cA w a=cA w' a:=by funext j;simp only[cA,World.cell?,hw _ h3]
  rw[←e]
  exact RelAt_mono hN hD hw v _ h4
 | .agg fs,g,h=>by simp only[RA] at*;exact RelAll_mono hN hD hw fs g h
 | .arr n t xs,g,h=>by simp only[RA] at*;exact TRel_mono hN hD hw _ _ _ h
 | .tup vs,g,h=>by
  simp only[RA] at*
  obtain⟨cs,h1,h2⟩:=h
  exact⟨cs,h1,RelEach_mono hN hD hw vs _ h2⟩
 | .clo fn vs,g,h=>by
  simp only[RA] at*
  obtain⟨cs,h1,h2⟩:=h
  exact⟨cs,h1,RelEach_mono hN hD hw vs _ h2⟩
 | .ubool,g,h=>by simp only[RA] at*;exact h
 | .fad id p f off,g,h=>by
  simp only[RA] at*
  obtain⟨nm,a,o,h1,h2⟩:=h
  exact⟨nm,a,o,hN _ _ h1,h2⟩
 | .bnd fn vs,g,h=>by
  simp only[RA] at*
  obtain⟨cs,h1,h2⟩:=h
  exact⟨cs,h1,RelEach_mono hN hD hw vs cs.toList h2⟩
 | .vsl id n,g,h=>by
  simp only[RA] at*
  obtain⟨nm,a,h1,h2⟩:=h
  exact⟨nm,a,hN _ _ h1,h2⟩
 | .rf _ _ _,g,h=>by simp only[RA] at*;exact RfAt_mono hN.sub h
theorem RelAll_mono (hN:N.le N')(hD: ∀b,D b→D' b)(hw: ∀b,D b→w'.heap[b]?=w.heap[b]?):
  ∀(l:List AV) (g:Nat→Option Value),RL N D w l g→RL N' D' w' l g
 | [],_,_=>by simp only[RL]
 |x::xs,g,h=>by
  simp only[RL] at*
  exact⟨RelAt_mono hN hD hw x g h.1,RelAll_mono hN hD hw xs _ h.2⟩
theorem RelEach_mono (hN:N.le N')(hD: ∀b,D b→D' b)(hw: ∀b,D b→w'.heap[b]?=w.heap[b]?):
  ∀(l:List AV) (cs:List Value),RE N D w l cs→RE N' D' w' l cs
 | [],_,h=>by simp only[RE] at*;exact h
 |x::xs,cs,h=>by
  simp only[RE] at*
  obtain⟨c,cs',h1,h2,h3⟩:=h
  exact⟨c,cs',h1,vrel_imp (fun g hg=>RelAt_mono hN hD hw x g hg) h2,RelEach_mono hN hD hw xs cs' h3⟩
end
theorem VRel_mono (hN:N.le N')(hD: ∀b,D b→D' b)(hw: ∀b,D b→w'.heap[b]?=w.heap[b]?){x:AV}{v:Value}(h:VRel N D w x v):VRel N' D' w' x v:=
 vrel_imp (fun g hg=>RelAt_mono hN hD hw x g hg) h
mutual
theorem Rc_: ∀(x:AV) (g g':Nat→Option Value),(∀j,j<x.size→g j=g' j)→RA N D w x g→RA N D w x g'
 | .undef,_,_,_,_=>by simp only[RA]
 | .val v,g,g',hg,h=>by simp only[RA] at*;rw[←hg 0 (by simp[AV.size])];exact h
 | .ptr id p,g,g',hg,h=>by simp only[RA] at*;rw[←hg 0 (by simp[AV.size])];exact h
 | .tail id off,g,g',hg,h=>by simp only[RA] at*;rw[←hg 0 (by simp[AV.size])];exact h
 | .slice id p off len,g,g',hg,h=>by simp only[RA] at*;rw[←hg 0 (by simp[AV.size])];exact h
 | .dp t xs,g,g',hg,h=>by simp only[RA] at*;exact Tc_ _ _ _ _ (fun j hj=>hg j (by simpa [AV.size,Ty.size] using hj)) h
 | .rptr v,g,g',hg,h=>by simp only[RA] at*;rw[←hg 0 (by simp[AV.size])];exact h
 | .agg fs,g,g',hg,h=>by simp only[RA] at*;exact RelAll_congr fs g g' (fun j hj=>hg j (by simpa [AV.size] using hj)) h
 | .arr n t xs,g,g',hg,h=>by simp only[RA] at*;exact Tc_ _ _ _ _ (fun j hj=>hg j (by simpa [AV.size,Ty.size] using hj)) h
 | .tup vs,g,g',hg,h=>by simp only[RA] at*;rw[←hg 0 (by simp[AV.size])];exact h
 | .clo fn vs,g,g',hg,h=>by simp only[RA] at*;rw[←hg 0 (by simp[AV.size])];exact h
 | .ubool,g,g',hg,h=>by simp only[RA] at*;rw[←hg 0 (by simp[AV.size])];exact h
 | .fad id p f off,g,g',hg,h=>by simp only[RA] at*;rw[←hg 0 (by simp[AV.size])];exact h
 | .bnd fn vs,g,g',hg,h=>by simp only[RA] at*;rw[←hg 0 (by simp[AV.size])];exact h
 | .vsl id n,g,g',hg,h=>by simp only[RA] at*;rw[←hg 0 (by simp[AV.size])];exact h
 | .rf _ _ _,g,g',hg,h=>by simp only[RA] at*;rw[←hg 0 (by simp[AV.size])];exact h
theorem RelAll_congr: ∀(l:List AV) (g g':Nat→Option Value),(∀j,j<AV.sizes l→g j=g' j)→RL N D w l g→RL N D w l g'
 | [],_,_,_,_=>by simp only[RL]
 |x::xs,g,g',hg,h=>by
  simp only[RL] at*
  exact⟨Rc_ x g g' (fun j hj=>hg j (by simp[AV.sizes];omega)) h.1,RelAll_congr xs _ _ (fun j hj=>hg _ (by simp[AV.sizes];omega)) h.2⟩
end
end
end AM
namespace AM
open Go
theorem tS_: ∀t:Ty,(tsh t).size=t.size
 | .int _=>by simp[tsh,Sh.size,Ty.size]
 | .bool=>by simp[tsh,Sh.size,Ty.size]
 | .str=>by simp[tsh,Sh.size,Ty.size]
 | .nil=>by simp[tsh,Sh.size,Sh.sizes,Ty.size]
 | .deep _=>by simp[tsh,Sh.size,Ty.size]
 | .ref _=>by simp[tsh,Sh.size,Ty.size]
 | .arr n t=>by simp[tsh,Sh.size,Ty.size,tS_ t]
 | .cons a b=>by
  have ha:=tS_ a
  have hb:=tS_ b
  unfold tsh
  cases h:tsh b<;>simp[h,Sh.size,Sh.sizes,Ty.size] at* <;>omega
theorem enc_size: ∀(t:Ty) (x:t.den),(enc t x).size=t.size
 | .int _,_=>by simp[enc,AV.size,Ty.size]
 | .bool,_=>by simp[enc,AV.size,Ty.size]
 | .str,_=>by simp[enc,AV.size,Ty.size]
 | .nil,_=>by simp[enc,AV.size,AV.sizes,Ty.size]
 | .deep _,_=>by simp[enc,AV.size,Ty.size]
 | .ref _,_=>by simp[enc,AV.size,Ty.size]
 | .arr n t,_=>by simp[enc,AV.size,Ty.size]
 | .cons a b,p=>by
  have ha:=enc_size a p.1
  have hb:=enc_size b p.2
  unfold enc
  cases h:enc b p.2<;>simp[h,AV.size,AV.sizes,Ty.size] at* <;>omega
theorem enc_sh: ∀(t:Ty) (x:t.den),(enc t x).sh=tsh t
 | .int _,_=>by simp[enc,AV.sh,tsh]
 | .bool,_=>by simp[enc,AV.sh,tsh]
 | .str,_=>by simp[enc,AV.sh,tsh]
 | .nil,_=>by simp[enc,AV.sh,AV.shs,tsh]
 | .deep _,_=>by simp[enc,AV.sh,tsh]
 | .ref _,_=>by simp[enc,AV.sh,tsh]
 | .arr n t,_=>by simp[enc,AV.sh,tsh]
 | .cons a b,p=>by
  have ha:=enc_sh a p.1
  have hb:=enc_sh b p.2
  unfold enc tsh
  cases h:enc b p.2<;>simp[h,AV.sh,AV.shs] at hb⊢ <;>simp[←hb,ha]
mutual
theorem sh_size: ∀v:AV,v.sh.size=v.size
 | .undef=>by simp[AV.sh,Sh.size,AV.size]
 | .val _=>by simp[AV.sh,Sh.size,AV.size]
 | .ptr _ _=>by simp[AV.sh,Sh.size,AV.size]
 | .tail _ _=>by simp[AV.sh,Sh.size,AV.size]
 | .slice _ _ _ _=>by simp[AV.sh,Sh.size,AV.size]
 | .dp _ _=>by simp[AV.sh,Sh.size,AV.size]
 | .rptr _=>by simp[AV.sh,Sh.size,AV.size]
 | .tup _=>by simp[AV.sh,Sh.size,AV.size]
 | .clo _ _=>by simp[AV.sh,Sh.size,AV.size]
 | .ubool=>by simp[AV.sh,Sh.size,AV.size]
 | .fad _ _ _ _=>by simp[AV.sh,Sh.size,AV.size]
 | .bnd _ _=>by simp[AV.sh,Sh.size,AV.size]
 | .vsl _ _=>by simp[AV.sh,Sh.size,AV.size]
 | .rf _ _ _=>by simp[AV.sh,Sh.size,AV.size]
 | .arr n t _=>by simp[AV.sh,Sh.size,AV.size,tS_]
 | .agg fs=>by simp[AV.sh,Sh.size,AV.size,shs_size fs]
theorem shs_size: ∀l:List AV,Sh.sizes (AV.shs l)=AV.sizes l
 | []=>by simp[AV.shs,Sh.sizes,AV.sizes]
 |x::xs=>by simp[AV.shs,Sh.sizes,AV.sizes,sh_size x,shs_size xs]
end
theorem shs_take: ∀(l:List AV) (n:Nat),AV.shs (l.take n)=(AV.shs l).take n
 | [],n=>by simp[AV.shs]
 |x::xs,0=>by simp[AV.shs]
 |x::xs,n+1=>by simp[AV.shs,shs_take xs n]
theorem shs_get: ∀(l:List AV) (n:Nat),(AV.shs l)[n]?=(l[n]?).map AV.sh
 | [],n=>by simp[AV.shs]
 |x::xs,0=>by simp[AV.shs]
 |x::xs,n+1=>by simp[AV.shs,shs_get xs n]
theorem shs_length: ∀(l:List AV),(AV.shs l).length=l.length
 | []=>by simp[AV.shs]
 |x::xs=>by simp[AV.shs,shs_length xs]
section
variable {N:Nm_}{D:Nat→Prop}{w:World}
theorem enc_rel: ∀(t:Ty) (x:t.den) (g:Nat→Option Value),RA N D w (enc t x) g↔TRel N D w t x g
 | .int _,_,_=>by simp[enc,RA,TRel]
 | .bool,_,_=>by simp[enc,RA,TRel]
 | .str,_,_=>by simp[enc,RA,TRel]
 | .nil,_,_=>by simp[enc,RA,RL,TRel]
 | .deep _,_,_=>by simp[enc,RA]
 | .ref _,_,_=>by simp[enc,RA,TRel]
 | .arr n t,_,_=>by simp[enc,RA]
 | .cons a b,⟨p,q⟩,g=>by
  have ha:=enc_rel a p g
  have hb:=enc_rel b q (fun j=>g (a.size+j))
  have hs:=enc_size a p
  have e:enc (.cons a b) (p,q)=match enc b q with| .agg l=> .agg (enc a p::l)|v=> .agg [enc a p,v]:=rfl
  have e2:TRel N D w (.cons a b) (p,q) g=(TRel N D w a p g∧TRel N D w b q (fun j=>g (a.size+j))):=rfl
  rw[e,e2,←ha,←hb,←hs]
  cases h:enc b q<;>simp only[RA,RL,and_true]
theorem RelAll_take: ∀(l:List AV) (n:Nat) (v:AV) (g:Nat→Option Value),l[n]?=some v→RL N D w l g→RA N D w v (fun j=>g (AV.sizes (l.take n)+j))
 | [],n,v,g,h,_=>by simp at h
 |x::xs,0,v,g,h,hr=>by
  simp at h;subst h
  simp only[RL] at hr
  simpa [AV.sizes] using hr.1
 |x::xs,n+1,v,g,h,hr=>by
  simp only[RL] at hr
  have:=RelAll_take xs n v _ (by simpa using h) hr.2
  simpa [AV.sizes,Nat.add_assoc] using this
end
theorem sizes_take_le: ∀(l:List AV) (n:Nat) (v:AV),l[n]?=some v→AV.sizes (l.take n)+v.size≤AV.sizes l
 | [],n,v,h=>by simp at h
 |x::xs,0,v,h=>by simp at h;subst h;simp[AV.sizes]
 |x::xs,n+1,v,h=>by
  have:=sizes_take_le xs n v (by simpa using h)
  simp[AV.sizes];omega
section
variable (N:Nm_)(D:Nat→Prop)(w:World)(base:Nat)
def VarAt (id:Nat)(v:AV):Prop:= ∃nm a,N id=some nm∧nm.base=some a∧nm.row=false∧nm.sh=v.sh∧a.spot=none∧a.off=0∧base≤a.block∧¬D a.block∧
   (∃c ty,w.heap[a.block]?=some (.cells c ty (0,0))∧c.size=v.size)∧RA N D w v (cA w a)
def RowIs (id:Nat)(ro:Bool)(t:Ty)(xs:List t.den):Prop:= ∃nm,N id=some nm∧nm.row=true∧nm.sh=tsh t∧nm.len=llen (β:=t.den) xs∧nm.len≤nm.cap∧
   match nm.base with
   |none=>nm.len=0
   |some a=>a.spot=none∧(∃c ty fz,w.heap[a.block]?=some (.cells c ty fz)∧a.off+nm.cap*t.size≤c.size∧(ro=false→fz=(0,0)∨c.size≤fz.1∧t= .int .u8))∧
     (if ro=true then D a.block else base≤a.block∧¬D a.block)∧∀i (x:t.den),lget (β:=t.den) xs i=some x→TRel N D w t x (fun j=>cA w a (i*t.size+j))
def NmBlk (id b:Nat):Prop:= ∃nm a,N id=some nm∧nm.base=some a∧a.block=b
mutual
def OwnP (N:Nm_)(c:Nat):(p:OPat)→p.den→Nat→Prop
 | .var _,_,b=>NmBlk N c b
 | .row _,_,b=>NmBlk N c b
 | .store ep,xs,b=> ∃(k:Nat) (d:hD_ ep),lget (β:=hD_ ep) xs k=some d∧OwnH (N.sub (c-SB) k) ep d b
def OwnH (N:Nm_):(l:List (Nat×OPat))→hD_ l→Nat→Prop
 | [],_,_=>False
 |(c,p)::os,d,b=>OwnP N c p d.1 b∨OwnH N os d.2 b
end
def NamedIn (M:Nm_)(ep:List (Nat×OPat)):Prop:=(∀c nm,M c=some nm→∃e∈ep,e.1=c∧e.2.isSt=false)∧∀g,(∀e∈ep,e.1≠SB+g)→∀k,M.sub g k=Nm_.nil
mutual
def ParkP (N:Nm_)(c:Nat):(p:OPat)→p.den→Prop
 | .var p,d=>VarAt N D w base c (p.mk (fun c=>c) d)
 | .row t,xs=>RowIs N D w base c false t xs
 | .store ep,xs=>SB≤c∧(∀(k:Nat) (d:hD_ ep),lget (β:=hD_ ep) xs k=some d→ParkH (N.sub (c-SB) k) ep d∧NamedIn (N.sub (c-SB) k) ep)∧(∀k,llen (β:=hD_ ep) xs≤k→N.sub (c-SB) k=Nm_.nil)∧
   ∀(k k':Nat) (d d':hD_ ep) (b:Nat),lget (β:=hD_ ep) xs k=some d→lget (β:=hD_ ep) xs k'=some d'→OwnH (N.sub (c-SB) k) ep d b→OwnH (N.sub (c-SB) k') ep d' b→k=k'
def ParkH (N:Nm_):(l:List (Nat×OPat))→hD_ l→Prop
 | [],_=>True
 |(c,p)::os,d=>ParkP N c p d.1∧ParkH N os d.2∧∀b,OwnP N c p d.1 b→OwnH N os d.2 b→False
end
def ObjAt (id:Nat):AObj→Prop
 | .dead=>True
 | .void=>True
 | .store ep xs=>ParkP D w base N id (.store ep) xs
 | .var v=>VarAt N D w base id v
 | .row ro t xs=>RowIs N D w base id ro t xs
def OwnO (id:Nat):AObj→Nat→Prop
 | .var _,b=>NmBlk N id b
 | .row false _ _,b=>NmBlk N id b
 | .store ep xs,b=>OwnP N id (.store ep) xs b
 |_,_=>False
def AObj.rw:AObj→Bool
 | .var _=>true| .row ro _ _=>!ro|_=>false
def Own (h:Nat→Option AObj)(b:Nat):Prop:= ∃id o,h id=some o∧OwnO N id o b
structure Sim (h:Nat→Option AObj):Prop where
 obj: ∀id o,h id=some o→ObjAt N D w base id o
 apart: ∀id id' o o' b,h id=some o→h id'=some o'→OwnO N id o b→OwnO N id' o' b→id=id'
 frozen: ∀b,D b→b<w.heap.size
 named: ∀id nm,N id=some nm→h id≠none
 size:base≤w.heap.size
 absent: ∀g,AM.absent (h (SB+g))=true→∀k,N.sub g k=Nm_.nil
structure SRel (st:St)(a:Act):Prop where
 sim:Sim N D w base st.h
 tmps: ∀x,VRel N D w (st.t x) (a.tmps.getD x Go.undef)
 nt:a.tmps.size=st.nt
 defers:a.defers=[]
end
theorem OwnO.of {N:Nm_}{id:Nat}{o:AObj}{nm:Nm}{a:Addr}(hr:o.rw=true)(hn:N id=some nm)(hb:nm.base=some a):OwnO N id o a.block:=by
 cases o with
 |var v=>exact⟨nm,a,hn,hb,rfl⟩
 |row ro t xs=>cases ro<;>simp[AObj.rw] at hr;exact⟨nm,a,hn,hb,rfl⟩
 |dead=>cases hr
 |void=>cases hr
 |store ep xs=>cases hr
structure Ext (N:Nm_)(D:Nat→Prop)(w:World)(h:Nat→Option AObj)(N':Nm_)(D':Nat→Prop)(w':World)(h':Nat→Option AObj):Prop where
 names:N.le N'
 frozen: ∀b,D b→D' b
 os:w'.os=w.os
 tape:w'.tape=w.tape
 output:w'.output=w.output
 size:w.heap.size≤w'.heap.size
 keep: ∀b,b<w.heap.size→¬Own N h b→w'.heap[b]?=w.heap[b]?
 own: ∀b,b<w.heap.size→Own N' h' b→Own N h b
 frz: ∀b,D' b→D b∨Own N h b∨w.heap.size≤b
 fresh: ∀i nm,N' i=some nm→N i=some nm∨h i=none
 live: ∀i,h' i=none→h i=none
 hid: ∀g,h (SB+g)=some .dead→h' (SB+g)=some .dead∧∀k,N'.sub g k=N.sub g k
theorem Ext.refl (N:Nm_)(D:Nat→Prop)(w:World)(h:Nat→Option AObj):Ext N D w h N D w h:=
 ⟨Nm_.le_refl N,fun _ h=>h,rfl,rfl,rfl,Nat.le_refl _,fun _ _ _=>rfl,fun _ _ h=>h,fun _ h=> .inl h,fun _ _ h=> .inl h,fun _ h=>h,fun _ h=>⟨h,fun _=>rfl⟩⟩
theorem Ext.trans {N N' N'':Nm_}{D D' D'':Nat→Prop}{w w' w'':World}{h h' h'':Nat→Option AObj}(x:Ext N D w h N' D' w' h')(y:Ext N' D' w' h' N'' D'' w'' h''):Ext N D w h N'' D'' w'' h'' where
 names:=x.names.trans y.names
 frozen b e:=y.frozen b (x.frozen b e)
 os:=y.os.trans x.os
 tape:=y.tape.trans x.tape
 output:=y.output.trans x.output
 size:=Nat.le_trans x.size y.size
 keep b hb ho:=by
  rw[y.keep b (Nat.lt_of_lt_of_le hb x.size) (fun o=>ho (x.own b hb o)),x.keep b hb ho]
 own b hb o:=x.own b hb (y.own b (Nat.lt_of_lt_of_le hb x.size) o)
 frz b hb:=by
  rcases y.frz b hb with h1|h1|h1
  ·exact x.frz b h1
  ·rcases Nat.lt_or_ge b w.heap.size with h2|h2
   ·exact .inr (.inl (x.own b h2 h1))
   ·exact .inr (.inr h2)
  ·exact .inr (.inr (Nat.le_trans x.size h1))
 fresh i nm hi:=by
  rcases y.fresh i nm hi with h1|h1
  ·exact x.fresh i nm h1
  ·exact .inr (x.live i h1)
 live i hi:=x.live i (y.live i hi)
 hid g e:=⟨(y.hid g (x.hid g e).1).1,fun k=>((y.hid g (x.hid g e).1).2 k).trans ((x.hid g e).2 k)⟩
def Lives (D:Nat→Prop)(w:World)(base b:Nat):Prop:= ¬D b∧base≤b∧b<w.heap.size
theorem VarAt.lives {N:Nm_}{D:Nat→Prop}{w:World}{base id:Nat}{v:AV}(h:VarAt N D w base id v){b:Nat}(ho:NmBlk N id b):Lives D w base b:=by
 obtain⟨nm,a,h3,h4,rfl⟩:=ho
 obtain⟨nm',a',e1,e2,_,_,_,_,h6,h7,⟨c,ty,h8,_⟩,_⟩:=h
 rw[h3] at e1;cases e1
 rw[h4] at e2;cases e2
 exact⟨h7,h6,(Array.getElem?_eq_some_iff.1 h8).1⟩
theorem RowIs.lives {N:Nm_}{D:Nat→Prop}{w:World}{base id:Nat}{t:Ty}{xs:List t.den}(h:RowIs N D w base id false t xs){b:Nat}(ho:NmBlk N id b):Lives D w base b:=by
 obtain⟨nm,a,h3,h4,rfl⟩:=ho
 obtain⟨nm',e1,_,_,_,_,h6⟩:=h
 rw[h3] at e1;cases e1
 rw[h4] at h6
 obtain⟨_,⟨c,ty,fz,h8,_⟩,h7,_⟩:=h6
 simp at h7
 exact⟨h7.2,h7.1,(Array.getElem?_eq_some_iff.1 h8).1⟩
mutual
theorem ParkP.lives {D:Nat→Prop}{w:World}{base:Nat}: ∀{N:Nm_} {c:Nat} {p:OPat} {d:p.den},ParkP D w base N c p d→∀{b:Nat},OwnP N c p d b→Lives D w base b
 |_,_, .var _,_,h,_,ho=>VarAt.lives (by simpa only[ParkP] using h) (by simpa only[OwnP] using ho)
 |_,_, .row _,_,h,_,ho=>RowIs.lives (by simpa only[ParkP] using h) (by simpa only[OwnP] using ho)
 |N,c, .store ep,xs,h,b,ho=>by
  simp only[ParkP] at h
  simp only[OwnP] at ho
  obtain⟨k,d,h1,h2⟩:=ho
  exact ParkH.lives (h.2.1 k d h1).1 h2
theorem ParkH.lives {D:Nat→Prop}{w:World}{base:Nat}: ∀{N:Nm_} {l:List (Nat×OPat)} {d:hD_ l},ParkH D w base N l d→∀{b:Nat},OwnH N l d b→Lives D w base b
 |_,[],_,_,_,ho=>by simp only[OwnH] at ho
 |_,(c,p)::os,d,h,b,ho=>by
  simp only[ParkH] at h
  simp only[OwnH] at ho
  rcases ho with ho|ho
  ·exact ParkP.lives h.1 ho
  ·exact ParkH.lives h.2.1 ho
end
theorem Sim.lives {N:Nm_}{D:Nat→Prop}{w:World}{base:Nat}{h:Nat→Option AObj}(s:Sim N D w base h){id:Nat}{o:AObj}(hi:h id=some o){b:Nat}(ho:OwnO N id o b):Lives D w base b:=by
 have:=s.obj id o hi
 cases o with
 |dead=>exact ho.elim
 |void=>exact ho.elim
 |var v=>exact VarAt.lives this ho
 |row ro t xs=>
  cases ro with
  |true=>exact ho.elim
  |false=>exact RowIs.lives this ho
 |store ep xs=>exact ParkP.lives this ho
theorem Sim.own_live {N:Nm_}{D:Nat→Prop}{w:World}{base:Nat}{h:Nat→Option AObj}(s:Sim N D w base h){b:Nat}(o:Own N h b): ¬D b∧base≤b:=by
 obtain⟨id,o,h1,h2⟩:=o
 exact⟨(s.lives h1 h2).1,(s.lives h1 h2).2.1⟩
theorem Ext.keepD {N N':Nm_}{D D':Nat→Prop}{w w':World}{base:Nat}{h h':Nat→Option AObj}(x:Ext N D w h N' D' w' h')(s:Sim N D w base h): ∀b,D b→w'.heap[b]?=w.heap[b]?:=
 fun b hb=>x.keep b (s.frozen b hb) (fun o=>(s.own_live o).1 hb)
theorem Ext.val {N N':Nm_}{D D':Nat→Prop}{w w':World}{base:Nat}{h h':Nat→Option AObj}(x:Ext N D w h N' D' w' h')(s:Sim N D w base h){u:AV}{v:Value}(hv:VRel N D w u v):VRel N' D' w' u v:=
 VRel_mono x.names x.frozen (x.keepD s) hv
theorem St.put_h (s:St)(d:Option Tmp)(v:AV):(s.put d v).h=s.h:=by
 cases d with
 |none=>rfl
 |some d=>simp only[St.put];split<;>rfl
theorem St.put_nt (s:St)(d:Option Tmp)(v:AV):(s.put d v).nt=s.nt:=by
 cases d with
 |none=>rfl
 |some d=>simp only[St.put];split<;>rfl
theorem St.put_ep (s:St)(d:Option Tmp)(v:AV):(s.put d v).ep=s.ep:=by
 cases d with
 |none=>rfl
 |some d=>simp only[St.put];split<;>rfl
theorem SRel.put {N N':Nm_}{D D':Nat→Prop}{w w':World}{base:Nat}{st st':St}{a:Act}(s:SRel N D w base st a)(x:Ext N D w st.h N' D' w' st'.h)(hs:Sim N' D' w' base st'.h)(ht:st'.t=st.t)(hn:st'.nt=st.nt)
  (d:Option Tmp) {u:AV} {v:Value} (hv:VRel N' D' w' u v):SRel N' D' w' base (st'.put d u) (a.put d v):=by
 refine⟨by rw[St.put_h];exact hs,fun y=>?_,?_,?_⟩
 ·cases d with
  |none=>simp only[St.put,Act.put,ht];exact x.val s.sim (s.tmps y)
  |some d=>
   have hsz:a.tmps.size=st'.nt:=by rw[s.nt,hn]
   simp only[St.put,Act.put]
   by_cases hd:d<st'.nt
   ·rw[if_pos hd]
    have hd':d<a.tmps.size:=by rw[hsz];exact hd
    by_cases e:y=d
    ·subst e
     simp[hd'];exact hv
    ·have:(a.tmps.setIfInBounds d v).getD y Go.undef=a.tmps.getD y Go.undef:=by
      simp[Array.getElem?_setIfInBounds_ne (Ne.symm e)]
     simp only[if_neg e]
     rw[this,ht];exact x.val s.sim (s.tmps y)
   ·rw[if_neg hd]
    rw[Array.setIfInBounds_eq_of_size_le (by rw[hsz];exact Nat.le_of_not_lt hd),ht]
    exact x.val s.sim (s.tmps y)
 ·rw[St.put_nt,hn,←s.nt]
  cases d<;>simp[Act.put]
 ·cases d<;>simp only[Act.put]<;>exact s.defers
theorem SRel.ev {N:Nm_}{D:Nat→Prop}{w:World}{base:Nat}{st:St}{a:Act}(s:SRel N D w base st a)(x:Operand)(hx: ∀v,x= .const v→(∀c,v≠ .agg c)):VRel N D w (st.ev x) (a.eval x):=by
 cases x with
 |tmp t=>exact s.tmps t
 |const v=>simp[St.ev,Act.eval,VRel,AV.isAgg,vrel,RA]
 |global g=>simp[St.ev,Act.eval,VRel,AV.isAgg,vrel,RA]
 |func f=>simp[St.ev,Act.eval,VRel,AV.isAgg,vrel,RA]
end AM
namespace AM
open Go
section
variable {N:Nm_}{D:Nat→Prop}{w:World}{v c:Value}
theorem VRel_undef:VRel N D w .undef c:=by simp[VRel,AV.isAgg,vrel,RA]
theorem Vv:VRel N D w (.val v) c↔c=v:=by simp[VRel,AV.isAgg,vrel,RA]
theorem Vp {id:Nat}{p:List Step}:VRel N D w (.ptr id p) c↔∃nm a o,N id=some nm∧nm.base=some a∧nm.off p=some o∧c= .pointer (some (Addr.at_ a o)):=by
 simp[VRel,AV.isAgg,vrel,RA]
theorem VRel_rptr {x:AV}:VRel N D w (.rptr x) c↔∃a,c= .pointer (some a)∧a.spot=none∧D a.block∧RA N D w x (cA w a):=by
 simp[VRel,AV.isAgg,vrel,RA]
theorem VRel_tup {vs:List AV}:VRel N D w (.tup vs) c↔∃cs:Array Value,c= .tuple cs∧RE N D w vs cs.toList:=by
 simp[VRel,AV.isAgg,vrel,RA]
theorem VRel_agg {fs:List AV}:VRel N D w (.agg fs) c↔∃cells:Array Value,c= .agg cells∧cells.size=AV.sizes fs∧RL N D w fs (cells[·]?):=by
 simp[VRel,AV.isAgg,vrel,RA,AV.size]
theorem VRel_arr {n:Nat}{t:Ty}{xs:List t.den}:VRel N D w (.arr n t xs) c↔∃cells:Array Value,c= .agg cells∧cells.size=n*t.size∧TRel N D w (.arr n t) xs (cells[·]?):=by
 simp[VRel,AV.isAgg,vrel,RA,AV.size]
theorem VRel_dp {t:Ty}{xs:List t.den}:VRel N D w (.dp t xs) c↔TRel N D w (.deep t) xs (fun _=>some c):=by
 simp[VRel,AV.isAgg,vrel,RA]
theorem RelEach_get: ∀(vs:List AV) (cs:List Value) (i:Nat) (u:AV),RE N D w vs cs→vs[i]?=some u→∃c,cs[i]?=some c∧VRel N D w u c
 | [],_,_,_,_,h=>by simp at h
 |x::xs,cs,0,u,hr,h=>by
  simp only[RE] at hr
  obtain⟨c,cs',rfl,h2,_⟩:=hr
  simp at h;subst h
  exact⟨c,by simp,h2⟩
 |x::xs,cs,i+1,u,hr,h=>by
  simp only[RE] at hr
  obtain⟨c,cs',rfl,_,h3⟩:=hr
  obtain⟨c',h4,h5⟩:=RelEach_get xs cs' i u h3 (by simpa using h)
  exact⟨c',by simpa using h4,h5⟩
end
def OpOK (P:Program)(base:Nat)(o:Oper)(st:St)(av:AV)(st':St):Prop:=
 st'.t=st.t∧st'.nt=st.nt∧st'.ep=st.ep∧(∀id,id∉opW st o→inNew st.ep o id=false→st'.h id=st.h id)∧∀N D w a,SRel N D w base st a→∃N' D' w' v,
  ((execOp a.eval o).run P w= .ok (.value v) w'∨((execOp a.eval o).run P w= .ok .skip w'∧v=Go.undef))∧
  Ext N D w st.h N' D' w' st'.h∧Sim N' D' w' base st'.h∧VRel N' D' w' av v
theorem OpOK.pure {P:Program}{base:Nat}{o:Oper}{st:St}{av:AV}(h: ∀N D w a,SRel N D w base st a→∃v,(execOp a.eval o).run P w= .ok (.value v) w∧VRel N D w av v):OpOK P base o st av st:=
 ⟨rfl,rfl,rfl,fun _ _ _=>rfl,fun N D w a s=>let ⟨v,h1,h2⟩:=h N D w a s;⟨N,D,w,v, .inl h1,Ext.refl _ _ _ _,s.sim,h2⟩⟩
theorem SRel.ev' {N:Nm_}{D:Nat→Prop}{w:World}{base:Nat}{st:St}{a:Act}(s:SRel N D w base st a)(x:Operand):VRel N D w (st.ev x) (a.eval x):=by
 cases x with
 |tmp t=>exact s.tmps t
 |const v=>simp[St.ev,Act.eval,Vv]
 |global g=>exact VRel_undef
 |func f=>simp[St.ev,Act.eval,Vv]
variable {α:Type}{P:Program}{base:Nat}
abbrev Fine (P:Program)(base:Nat)(o:Oper)(st:St)(k:AV→St→Option α)(r:α):Prop:= ∃av st',k av st'=some r∧OpOK P base o st av st'
theorem fine_int {dst ty pos after guard}{op:BinOp}{xT yT:TypeId}{x y:Operand}{st:St}{ka kb:IntKind}{a b:Int}(hx:st.ev x= .val (.int ka a))(hy:st.ev y= .val (.int kb b)){k:AV→St→Option α}{r:α}
  (h:opInt st op ka kb a b k=some r):Fine P base ⟨dst, .binOp op xT x y yT,ty,pos,after,guard⟩ st k r:=by
 have key: ∀u:Value,(∀w,(Go.binOp op xT (.int ka a) (.int kb b)).run P w= .ok u w)→k (.val u) st=some r→Fine P base ⟨dst, .binOp op xT x y yT,ty,pos,after,guard⟩ st k r:=by
  intro u hu hk
  refine⟨_,_,hk,OpOK.pure fun N D w act s=>⟨u,?_,Vv.2 rfl⟩⟩
  have e1:=Vv.1 (hx▸s.ev' x)
  have e2:=Vv.1 (hy▸s.ev' y)
  simp[execOp,e1,e2,eqGuard_at_int,hu]
 have cond: ∀(b:Bool) (p:Prop) (z:Option α),b=odec p→(match b with|true=>none|false=>z)=some r→¬p∧z=some r:=by
  intro b p z hb hz
  cases b with
  |true=>simp at hz
  |false=>exact⟨fun hp=>(by rw[odec_iff.2 hp] at hb;exact absurd hb (by simp)),hz⟩
 have sel: ∀z:Option α,(if ka=kb then z else none)=some r→ka=kb∧z=some r:=by
  intro z hz;split at hz
  ·exact⟨‹_›,hz⟩
  ·cases hz
 have hb: ∀(p:Prop) [Decidable p],odec p=decide p:=fun p _=>odec_eq p
 cases op<;>simp only[opInt] at h
 case shl=>replace h:=cond _ _ _ rfl h;obtain⟨hn,h⟩:=h;exact key _ (fun w=>by simp[binOp_shl,Op.shift,hn,shl,wr_eq]) h
 case shr=>replace h:=cond _ _ _ rfl h;obtain⟨hn,h⟩:=h;exact key _ (fun w=>by simp[binOp_shr,Op.shift,hn,shr_eq]) h
 case add=>replace h:=sel _ h;obtain⟨rfl,h⟩:=h;exact key _ (fun w=>by simp[binOp_add,Op.intArith,wr_eq]) h
 case sub=>replace h:=sel _ h;obtain⟨rfl,h⟩:=h;exact key _ (fun w=>by simp[binOp_sub,Op.intArith,wr_eq]) h
 case mul=>replace h:=sel _ h;obtain⟨rfl,h⟩:=h;exact key _ (fun w=>by simp[binOp_mul,Op.intArith,wr_eq]) h
 case quo=>replace h:=sel _ h;obtain⟨rfl,h⟩:=h;replace h:=cond _ _ _ rfl h;obtain⟨hn,h⟩:=h;exact key _ (fun w=>by simp[binOp_quo,Op.intDiv,hn,wr_eq]) h
 case rem=>replace h:=sel _ h;obtain⟨rfl,h⟩:=h;replace h:=cond _ _ _ rfl h;obtain⟨hn,h⟩:=h;exact key _ (fun w=>by simp[binOp_rem,Op.intDiv,hn]) h
 case and=>replace h:=sel _ h;obtain⟨rfl,h⟩:=h;exact key _ (fun w=>by simp[binOp_and,Op.intBits,band,wr_eq]) h
 case or=>replace h:=sel _ h;obtain⟨rfl,h⟩:=h;exact key _ (fun w=>by simp[binOp_or,Op.intBits,bor,wr_eq]) h
 case xor=>replace h:=sel _ h;obtain⟨rfl,h⟩:=h;exact key _ (fun w=>by simp[binOp_xor,Op.intBits,bxor,wr_eq]) h
 case andNot=>replace h:=sel _ h;obtain⟨rfl,h⟩:=h;exact key _ (fun w=>by simp[binOp_andNot,Op.intBits,bandn,wr_eq]) h
 case eql=>replace h:=sel _ h;obtain⟨rfl,h⟩:=h;exact key _ (fun w=>by simp[binOp_eql,hb];rfl) h
 case neq=>replace h:=sel _ h;obtain⟨rfl,h⟩:=h;exact key _ (fun w=>by simp[binOp_neq,hb];rfl) h
 case lss=>replace h:=sel _ h;obtain⟨rfl,h⟩:=h;exact key _ (fun w=>by simp[binOp_lss,hb]) h
 case leq=>replace h:=sel _ h;obtain⟨rfl,h⟩:=h;exact key _ (fun w=>by simp[binOp_leq,hb]) h
 case gtr=>replace h:=sel _ h;obtain⟨rfl,h⟩:=h;exact key _ (fun w=>by simp[binOp_gtr,hb]) h
 case geq=>replace h:=sel _ h;obtain⟨rfl,h⟩:=h;exact key _ (fun w=>by simp[binOp_geq,hb]) h
end AM
namespace AM
open Go
theorem relAt_fun {N:Nm_}{D:Nat→Prop}{w:World}{x:AV}{g g':Nat→Option Value}(h:RA N D w x g)(e: ∀j,g j=g' j):RA N D w x g':=by
 have:g=g':=funext e
 subst this;exact h
theorem getP_sound {α:Type}: ∀(p:List Step) (v:AV) (k:AV→Option α) (r:α),getP p v k=some r→
  ∃u,k u=some r∧shP p v.sh=some u.sh∧∀N D w g o,RA N D w v g→oS p v.sh=some o→RA N D w u (fun j=>g (o+j))∧o+u.size≤v.size
 | [],v,k,r,h=>by
  simp only[getP] at h
  refine⟨v,h,rfl,fun N D w g o hr ho=>?_⟩
  simp only[oS,Option.some.injEq] at ho
  subst ho
  exact⟨by simpa using hr,by omega⟩
 | .fld n::p,v,k,r,h=>by
  cases v<;>simp only[getP] at h<;>try (cases h;done)
  rename_i fs
  cases hv:fs[n]? with
  |none=>simp[hv] at h
  |some x=>
   simp only[hv] at h
   obtain⟨u,h1,h2,h3⟩:=getP_sound p x k r h
   refine⟨u,h1,by simp only[AV.sh,shP,shs_get,hv,Option.map_some];exact h2,fun N D w g o hr ho=>?_⟩
   simp only[AV.sh,oS,shs_get,hv,Option.map_some] at ho
   cases ho':oS p x.sh with
   |none=>simp[ho'] at ho
   |some o'=>
    simp only[ho',Option.map_some,Option.some.injEq] at ho
    rw[←shs_take,shs_size] at ho
    subst ho
    simp only[RA] at hr
    have:=RelAll_take fs n x g hv hr
    obtain⟨h4,h5⟩:=h3 N D w _ o' this ho'
    exact⟨relAt_fun h4 (fun j=>by rw[Nat.add_assoc]),by have:=sizes_take_le fs n x hv;simp only[AV.size];omega⟩
 | .idx i::p,v,k,r,h=>by
  cases v<;>simp only[getP] at h<;>try (cases h;done)
  rename_i n t xs
  cases hv:(show List t.den from xs)[i]? with
  |none=>simp[hv] at h
  |some x=>
   simp only[hv] at h
   obtain⟨u,h1,h2,h3⟩:=getP_sound p (enc t x) k r h
   refine⟨u,h1,by simp only[AV.sh,shP];rw[←enc_sh t x];exact h2,fun N D w g o hr ho=>?_⟩
   simp only[AV.sh,oS] at ho
   by_cases hi:i<n
   ·simp only[hi,if_true] at ho
    cases ho':oS p (tsh t) with
    |none=>simp[ho'] at ho
    |some o'=>
     simp only[ho',Option.map_some,Option.some.injEq,tS_] at ho
     subst ho
     simp only[RA,TRel] at hr
     have:=(enc_rel (N:=N) t x _).2 (hr.2 i x hv)
     obtain⟨h4,h5⟩:=h3 N D w _ o' this (by rw[enc_sh];exact ho')
     refine⟨relAt_fun h4 (fun j=>by rw[Nat.add_assoc]),?_⟩
     rw[enc_size] at h5
     have:(i+1)*t.size≤n*t.size:=Nat.mul_le_mul_right _ hi
     rw[Nat.add_mul] at this
     simp only[AV.size];omega
   ·simp only[hi,if_false] at ho;cases ho
theorem get_sound {α:Type}{s:St}{id:Nat}{p:List Step}{k:AV→Option α}{r:α}(h:s.get id p k=some r):
  ∃u,k u=some r∧s.shape id p=some u.sh∧∀N D w base,Sim N D w base s.h→∀nm a o,N id=some nm→nm.base=some a→nm.off p=some o→
   a.spot=none∧RA N D w u (fun j=>cA w a (o+j))∧∃c ty fz,w.heap[a.block]?=some (.cells c ty fz)∧a.off+o+u.size≤c.size:=by
 unfold St.get at h
 cases ho:s.h id with
 |none=>simp[ho] at h
 |some ob=>
  cases ob with
  |dead=>simp[ho] at h
  |store _ _=>simp[ho] at h
  |void=>simp[ho] at h
  |var v=>
   simp only[ho] at h
   obtain⟨u,h1,h2,h3⟩:=getP_sound p v k r h
   refine⟨u,h1,by simp only[St.shape,ho];exact h2,fun N D w base S nm a o hn hb hoff=>?_⟩
   have:=S.obj id _ ho
   obtain⟨nm',a',e1,e2,e3,e4,e5,e6,_,_,⟨c,ty,e7,e8⟩,e9⟩:=this
   rw[hn] at e1;cases e1
   rw[hb] at e2;cases e2
   have hof:oS p v.sh=some o:=by
    have:nm.off p=oS p nm.sh:=by
     unfold Nm.off
     split<;>simp[e3]
    rw[this,e4] at hoff;exact hoff
   obtain⟨h4,h5⟩:=h3 N D w _ o e9 hof
   exact⟨e5,h4,c,ty,_,e7,by rw[e8,e6];omega⟩
  |row ro t xs=>
   simp only[ho] at h
   cases p with
   |nil=>simp at h
   |cons st p=>
    cases st with
    |fld n=>simp at h
    |idx i=>
     simp only at h
     cases hv:(show List t.den from xs)[i]? with
     |none=>simp[hv] at h
     |some x=>
      simp only[hv] at h
      obtain⟨u,h1,h2,h3⟩:=getP_sound p (enc t x) k r h
      refine⟨u,h1,by simp only[St.shape,ho];rw[←enc_sh t x];exact h2,fun N D w base S nm a o hn hb hoff=>?_⟩
      have:=S.obj id _ ho
      obtain⟨nm',e1,e2,e3,e4,e5,e6⟩:=this
      rw[hn] at e1;cases e1
      rw[hb] at e6
      obtain⟨e7,⟨c,ty,fz,e8,e9,_⟩,_,e10⟩:=e6
      simp only[Nm.off,e2,if_true] at hoff
      by_cases hi:i<nm.len
      ·simp only[hi,if_true] at hoff
       cases ho':oS p nm.sh with
       |none=>simp[ho'] at hoff
       |some o'=>
        simp only[ho',Option.map_some,Option.some.injEq] at hoff
        rw[e3,tS_] at hoff
        subst hoff
        have hx:=(enc_rel (N:=N) t x _).2 (e10 i x hv)
        obtain⟨h4,h5⟩:=h3 N D w _ o' hx (by rw[enc_sh,←e3];exact ho')
        refine⟨e7,relAt_fun h4 (fun j=>by rw[Nat.add_assoc]),c,ty,fz,e8,?_⟩
        rw[enc_size] at h5
        have:(i+1)*t.size≤nm.cap*t.size:=Nat.mul_le_mul_right _ (by omega)
        rw[Nat.add_mul] at this
        omega
      ·simp only[hi,if_false] at hoff;cases hoff
end AM
namespace AM
open Go
theorem RfAt_cell {N:Nm_}{tag n c:Nat}{v:Option Value}(h:RfAt N tag n c v): ∃c,v=some c∧c.oneCell'=true:=by
 cases n with
 |zero=>exact⟨_,h,rfl⟩
 |succ k=>obtain⟨_,_,_,_,_,h⟩:=h;exact⟨_,h,rfl⟩
theorem TRel_cells {N:Nm_}{D:Nat→Prop}{w:World}: ∀(t:Ty) (x:t.den) (g:Nat→Option Value),TRel N D w t x g→∀j,j<t.size→∃c,g j=some c∧c.oneCell'=true
 | .int k,n,g,h,j,hj=>by simp[Ty.size] at hj;subst hj;exact⟨_,h,rfl⟩
 | .bool,n,g,h,j,hj=>by simp[Ty.size] at hj;subst hj;exact⟨_,h,rfl⟩
 | .str,n,g,h,j,hj=>by simp[Ty.size] at hj;subst hj;exact⟨_,h,rfl⟩
 | .nil,n,g,h,j,hj=>by simp[Ty.size] at hj
 | .deep t,xs,g,h,j,hj=>by
  simp[Ty.size] at hj;subst hj
  obtain⟨a,cap,h1,_⟩:=h
  exact⟨_,h1,rfl⟩
 | .ref _,n,g,h,j,hj=>by simp[Ty.size] at hj;subst hj;exact RfAt_cell h
 | .cons a b,p,g,h,j,hj=>by
  by_cases hja:j<a.size
  ·exact TRel_cells a p.1 g h.1 j hja
  ·have:=TRel_cells b p.2 _ h.2 (j-a.size) (by simp[Ty.size] at hj;omega)
   rwa [show a.size+(j-a.size)=j by omega] at this
 | .arr n t,xs,g,h,j,hj=>by
  simp only[Ty.size] at hj
  have hp:0<t.size:=by
   rcases Nat.eq_zero_or_pos t.size with e|e
   ·rw[e] at hj;omega
   ·exact e
  have hi:j/t.size<llen (β:=t.den) xs:=by rw[h.1];exact(Nat.div_lt_iff_lt_mul hp).2 hj
  have:=TRel_cells t _ _ (h.2 (j/t.size) _ (List.getElem?_eq_getElem hi)) (j%t.size) (Nat.mod_lt _ hp)
  rwa [show j/t.size*t.size+j%t.size=j by rw[Nat.mul_comm];exact Nat.div_add_mod j t.size] at this
mutual
theorem solid_cells {N:Nm_}{D:Nat→Prop}{w:World}: ∀(v:AV) (g:Nat→Option Value),v.solid=true→RA N D w v g→∀j,j<v.size→∃c,g j=some c∧c.oneCell'=true
 | .undef,_,hs,_,_,_=>by simp[AV.solid] at hs
 | .tup _,_,hs,_,_,_=>by simp[AV.solid] at hs
 | .val v,g,hs,h,j,hj=>by simp[AV.size] at hj;subst hj;simp only[RA] at h;exact⟨_,h,by simpa [AV.solid] using hs⟩
 | .ptr id p,g,hs,h,j,hj=>by simp[AV.size] at hj;subst hj;simp only[RA] at h;obtain⟨_,_,_,_,_,_,h⟩:=h;exact⟨_,h,rfl⟩
 | .tail id off,g,hs,h,j,hj=>by
  simp[AV.size] at hj;subst hj;simp only[RA] at h
  obtain⟨nm,_,_,_,_,h⟩:=h
  cases hb:nm.base with
  |none=>rw[hb] at h;exact⟨_,h.2,rfl⟩
  |some a=>rw[hb] at h;obtain⟨v,room,h1,_,a',cap,rfl,_⟩:=h;exact⟨_,h1,rfl⟩
 | .slice id p off len,g,hs,h,j,hj=>by
  simp[AV.size] at hj;subst hj;simp only[RA] at h
  obtain⟨nm,_,h⟩:=h
  cases hb:nm.base with
  |none=>rw[hb] at h;obtain⟨_,_,_,_,h⟩:=h;exact⟨_,h,rfl⟩
  |some a=>
  rw[hb] at h
  simp only at h
  split at h
  ·obtain⟨_,_,v,room,h1,_,_,a',cap,rfl,_⟩:=h;exact⟨_,h1,rfl⟩
  ·obtain⟨_,_,_,v,room,_,_,_,h1,_,a',cap,rfl,_⟩:=h;exact⟨_,h1,rfl⟩
 | .dp t xs,g,hs,h,j,hj=>by simp only[RA] at h;exact TRel_cells _ _ _ h j (by simpa [AV.size,Ty.size] using hj)
 | .rptr v,g,hs,h,j,hj=>by simp[AV.size] at hj;subst hj;simp only[RA] at h;obtain⟨_,h,_⟩:=h;exact⟨_,h,rfl⟩
 | .clo _ _,g,hs,h,j,hj=>by simp[AV.size] at hj;subst hj;simp only[RA] at h;obtain⟨_,h,_⟩:=h;exact⟨_,h,rfl⟩
 | .fad _ _ _ _,g,hs,h,j,hj=>by simp[AV.size] at hj;subst hj;simp only[RA] at h;obtain⟨_,_,_,_,_,_,h⟩:=h;exact⟨_,h,rfl⟩
 | .bnd _ _,g,hs,h,j,hj=>by simp[AV.size] at hj;subst hj;simp only[RA] at h;obtain⟨_,h,_⟩:=h;exact⟨_,h,rfl⟩
 | .ubool,g,hs,h,j,hj=>by simp[AV.size] at hj;subst hj;simp only[RA] at h;obtain⟨_,h⟩:=h;exact⟨_,h,rfl⟩
 | .vsl _ _,g,hs,h,j,hj=>by simp[AV.size] at hj;subst hj;simp only[RA] at h;obtain⟨_,_,_,_,_,h⟩:=h;exact⟨_,h,rfl⟩
 | .rf _ _ _,g,hs,h,j,hj=>by simp[AV.size] at hj;subst hj;simp only[RA] at h;exact RfAt_cell h
 | .arr n t xs,g,hs,h,j,hj=>by simp only[RA] at h;exact TRel_cells _ _ _ h j (by simpa [AV.size,Ty.size] using hj)
 | .agg fs,g,hs,h,j,hj=>by simp only[RA] at h;exact solids_cells fs g (by simpa [AV.solid] using hs) h j (by simpa [AV.size] using hj)
theorem solids_cells {N:Nm_}{D:Nat→Prop}{w:World}: ∀(l:List AV) (g:Nat→Option Value),AV.solids l=true→RL N D w l g→∀j,j<AV.sizes l→∃c,g j=some c∧c.oneCell'=true
 | [],_,_,_,j,hj=>by simp[AV.sizes] at hj
 |x::xs,g,hs,h,j,hj=>by
  simp only[AV.solids,Bool.and_eq_true] at hs
  simp only[RL] at h
  by_cases hjx:j<x.size
  ·exact solid_cells x g hs.1 h.1 j hjx
  ·have:=solids_cells xs _ hs.2 h.2 (j-x.size) (by simp[AV.sizes] at hj;omega)
   rwa [show x.size+(j-x.size)=j by omega] at this
end
theorem not_agg_size {v:AV}(hs:v.solid=true)(h:v.isAgg=false):v.size=1:=by cases v<;>simp_all [AV.isAgg,AV.size]
theorem fitsT_spec {P:Program}{t:TypeId}{v:AV}(h:fitsT P t v=true):v.solid=true∧v.isAgg=isAggT P t∧v.size=P.cellsOf t∧∃d,P.underlying t=some d:=by
 simp only[fitsT,Bool.and_eq_true,beq_iff_eq,decide_eq_true_eq] at h
 exact⟨h.1.1.1,h.1.1.2,h.1.2,Option.isSome_iff_exists.1 h.2⟩
theorem addr_add (b o n:Nat):(⟨b,o,none⟩:Addr).add n=⟨b,o+n,none⟩:=Addr.add_lit b o n
theorem load_run {P:Program}{N:Nm_}{D:Nat→Prop}{w:World}{t:TypeId}{v:AV}{ad:Addr}(ha:ad.spot=none)(hf:fitsT P t v=true)(hr:RA N D w v (cA w ad)):
  ∃c,(Instr.loadAt t (.pointer (some ad))).run P w= .ok c w∧VRel N D w v c:=by
 obtain⟨hs,h1,h2,d,hd⟩:=fitsT_spec hf
 obtain⟨i,hi⟩:=info_of_underlying hd
 obtain⟨b,o,sp⟩:=ad
 simp only at ha;subst ha
 have hc:=solid_cells v _ hs hr
 have hisagg:(isAgg t).run P w= .ok (isAggT P t) w:=by
  simp only[isAgg,Sem.run_bind,run_underlying hd,Result.andThen_ok,isAggT,hd]
  cases d<;>rfl
 simp only[Instr.loadAt,Instr.sureAddr,Sem.run_bind,Sem.run_pure,Result.andThen_ok,loadVar,hisagg]
 cases hag:v.isAgg with
 |true=>
  rw[←h1,hag]
  have hc': ∀j,j<v.size→w.cell? ((⟨b,o,none⟩:Addr).add j)=some ((cA w ⟨b,o,none⟩ j).getD Go.undef):=by
   intro j hj
   obtain⟨c,h3,_⟩:=hc j hj
   rw[addr_add,h3];exact h3
  have hl:=run_loadCells (P:=P) w ⟨b,o,none⟩ v.size (fun j=>(cA w ⟨b,o,none⟩ j).getD Go.undef) hc'
  refine⟨.agg ((List.range v.size).map fun j=>(cA w ⟨b,o,none⟩ j).getD Go.undef).toArray,?_,?_⟩
  ·simp only[if_true,Sem.run_bind,run_sizeOf w hi,Result.andThen_ok,←h2,hl,Sem.run_pure]
  ·unfold VRel
   rw[hag]
   refine⟨_,rfl,by simp,Rc_ v _ _ (fun j hj=>?_) hr⟩
   obtain⟨c,h3,_⟩:=hc j hj
   simp[hj,h3]
 |false=>
  rw[←h1,hag]
  obtain⟨c,h3,_⟩:=hc 0 (by rw[not_agg_size hs hag];omega)
  have h3':w.cell? ⟨b,o,none⟩=some c:=h3
  refine⟨c,by simp[h3'],?_⟩
  unfold VRel
  rw[hag]
  refine Rc_ v _ _ (fun j hj=>?_) hr
  rw[not_agg_size hs hag] at hj
  obtain rfl:j=0:=by omega
  exact h3
end AM
namespace AM
open Go
theorem cLs {t t':Ty}{xs:List t.den}{ys:List t'.den}(h:castL t t' xs=some ys): ∃e:t=t',ys=e▸xs:=by
 unfold castL at h
 split at h
 ·rename_i e;exact⟨e,(Option.some.inj h).symm⟩
 ·cases h
def FrozenIn (N:Nm_)(D':Nat→Prop)(ids:List Nat):Prop:= ∀id∈ids,∀nm a,N id=some nm→nm.base=some a→D' a.block
def DecIs (R:(Nat→Prop)→World→Prop)(N:Nm_)(D:Nat→Prop)(w:World)(ids:List Nat):Prop:= ∀D':Nat→Prop,(∀b,D b→D' b)→FrozenIn N D' ids→R D' w
theorem deep_of_row {N:Nm_}{D':Nat→Prop}{w:World}{t:Ty}{xs:List t.den}{a:Addr}{off len room:Nat}{v:Value}(hD:D' a.block)(hx: ∀i (x:t.den),lget (β:=t.den) xs i=some x→TRel N D' w t x (fun j=>cA w a (i*t.size+j)))
  (hv:SlAt (Addr.at_ a (off*t.size)) len room v) (hl:off+len≤llen (β:=t.den) xs):TRel N D' w (.deep t) ((xs.drop off).take len:List t.den) (fun _=>some v):=by
 obtain⟨a',cap,rfl,h1,rfl,h2⟩:=hv
 have e:llen (β:=t.den) ((xs.drop off).take len)=len:=by simp only[llen,List.length_take,List.length_drop];simp only[llen] at hl;omega
 refine⟨some a',cap,by rw[e],by rw[e];exact h1,(by intro h;cases h),fun ad had hne=>?_⟩
 cases had
 rw[e] at hne
 rcases h2 with rfl|h2
 ·refine⟨rfl,hD,fun i x hi=>?_⟩
  have hi':lget (β:=t.den) xs (off+i)=some x:=by
   simp only[lget] at hi⊢
   rw[List.getElem?_take] at hi
   split at hi
   ·rwa [List.getElem?_drop] at hi
   ·cases hi
  have:=hx (off+i) x hi'
  have e2:(fun j=>cA w (Addr.at_ a (off*t.size)) (i*t.size+j))=fun j=>cA w a ((off+i)*t.size+j):=by
   funext j
   simp only[cA,Addr.at_]
   congr 2
   rw[Nat.add_mul];omega
  rw[e2];exact this
 ·omega
theorem shape_shp {s:St}{id:Nat}{p:List Step}{sh:Sh}(h:s.shape id p=some sh){N:Nm_}{D:Nat→Prop}{w:World}{base:Nat}(S:Sim N D w base s.h){nm:Nm}(hn:N id=some nm):nm.shp p=some sh:=by
 unfold St.shape at h
 split at h
 ·rename_i v ho
  obtain⟨nm',a,h1,h2,h3,h4,_⟩:=S.obj id _ ho
  rw[hn] at h1;cases h1
  unfold Nm.shp;rw[h3,h4];exact h
 ·rename_i ro t xs ho
  obtain⟨nm',h1,h2,h3,_⟩:=S.obj id _ ho
  rw[hn] at h1;cases h1
  unfold Nm.shp;rw[h2,h3];simp only[if_true]
  split at h
  ·exact h
  ·cases h
 ·cases h
theorem slice_place {s:St}{id:Nat}{p:List Step}{sh:Sh}(hr:(p.isEmpty&&isRow s id)=false)(h:s.shape id p=some sh){N:Nm_}{D:Nat→Prop}{w:World}{base:Nat}(S:Sim N D w base s.h){nm:Nm}(hn:N id=some nm):(nm.row&&p.isEmpty)=false:=by
 unfold St.shape at h
 split at h
 ·rename_i v ho
  obtain⟨nm',a,h1,h2,h3,h4,_⟩:=S.obj id _ ho
  rw[hn] at h1;cases h1
  rw[h3];rfl
 ·rename_i ro t xs ho
  have:isRow s id=true:=by unfold isRow;rw[ho]
  rw[this,Bool.and_true] at hr
  rw[hr,Bool.and_false]
 ·cases h
theorem rdSlice_sound {α:Type}{s:St}{t:Ty}{v:AV}{k:List t.den→List Nat→Option α}{r:α}(h:rdSlice s t v k=some r):
  ∃xs ids,k xs ids=some r∧∀N D w base,Sim N D w base s.h→∀c,VRel N D w v c→DecIs (fun D' w=>TRel N D' w (.deep t) xs (fun _=>some c)) N D w ids:=by
 unfold rdSlice at h
 split at h
 ·rename_i t' zs
  split at h
  ·rename_i ys hc
   obtain⟨rfl,rfl⟩:=cLs hc
   exact⟨_,_,h,fun N D w base S c hv D' hD _=>TRel_mono (Nm_.le_refl _) hD (fun _ _=>rfl) _ _ _ (VRel_dp.1 hv)⟩
  ·cases h
 ·refine⟨_,_,h,fun N D w base S c hv D' hD _=>?_⟩
  rw[Vv.1 hv]
  exact⟨none,0,rfl,by simp[llen],fun _=>rfl,(by intro ad ha;cases ha)⟩
 ·rename_i id off
  split at h
  ·rename_i ro t' xs ho
   split at h
   ·rename_i ys hc
    obtain⟨rfl,rfl⟩:=cLs hc
    refine⟨_,_,h,fun N D w base S c hv D' hD hF=>?_⟩
    simp only[VRel,AV.isAgg,vrel,RA] at hv
    obtain⟨nm,h1,h2,h3,h4,h5⟩:=hv
    obtain⟨nm',e1,e2,e3,e4,e5,e6⟩:=S.obj id _ ho
    rw[h1] at e1;cases e1
    cases hb:nm.base with
    |none=>
     rw[hb] at h5
     obtain⟨h6,h7⟩:=h5
     have hx0:llen (β:=t'.den) ys=0:=by omega
     have hxe:ys=[]:=List.eq_nil_of_length_eq_zero hx0
     subst hxe
     simp only[Option.some.injEq] at h7
     subst h7
     exact⟨none,0,by simp[llen],by simp[llen],fun _=>rfl,(by intro ad ha;cases ha)⟩
    |some a=>
     rw[hb] at h5 e6
     obtain⟨u,room,h6,h7,h8⟩:=h5
     simp only[Option.some.injEq] at h6;subst h6
     obtain⟨_,_,_,e10⟩:=e6
     rw[e3,tS_] at h8
     have:=deep_of_row (off:=off) (len:=nm.len-off) (hF id (by simp) nm a h1 hb) (fun i x hi=>TRel_mono (Nm_.le_refl _) hD (fun _ _=>rfl) _ _ _ (e10 i x hi)) h8 (by omega)
     rwa [List.take_of_length_le (by simp only[llen] at e4;simp;omega)] at this
   ·cases h
  ·cases h
 ·rename_i id p off len
  split at h
  ·rename_i hrow
   simp only[Bool.and_eq_true,List.isEmpty_iff] at hrow
   obtain⟨rfl,hrow⟩:=hrow
   split at h
   rotate_left
   ·cases h
   rename_i ro t' xs ho
   split at h
   ·rename_i ys hc
    obtain⟨rfl,rfl⟩:=cLs hc
    refine⟨_,_,h,fun N D w base S c hv D' hD hF=>?_⟩
    simp only[VRel,AV.isAgg,vrel,RA] at hv
    obtain⟨nm,h1,hv⟩:=hv
    obtain⟨nm',e1,e2,e3,e4,e5,e6⟩:=S.obj id _ ho
    rw[h1] at e1;cases e1
    cases h2:nm.base with
    |none=>
     rw[h2] at hv
     obtain⟨_,rfl,rfl,_,h7⟩:=hv
     simp only[Option.some.injEq] at h7
     subst h7
     exact⟨none,0,by simp[llen],by simp[llen],fun _=>rfl,(by intro ad ha;cases ha)⟩
    |some a=>
    rw[h2] at hv
    simp only at hv
    rw[if_pos (by simp[e2])] at hv
    obtain⟨h4,h5,u,room,h6,h7,h8,h9⟩:=hv
    rw[h2] at e6
    simp only[Option.some.injEq] at h6;subst h6
    obtain⟨_,_,_,e10⟩:=e6
    rw[e3,tS_] at h9
    exact deep_of_row (off:=off) (len:=len) (hF id (by simp) nm a h1 h2) (fun i x hi=>TRel_mono (Nm_.le_refl _) hD (fun _ _=>rfl) _ _ _ (e10 i x hi)) h9 (by omega)
   ·cases h
  ·rename_i hrow
   obtain⟨u,h,hsh,hget⟩:=get_sound h
   split at h
   rotate_left
   ·cases h
   rename_i n t' xs
   split at h
   rotate_left
   ·cases h
   rename_i ys hc
   obtain⟨rfl,rfl⟩:=cLs hc
   refine⟨_,_,h,fun N D w base S c hv D' hD hF=>?_⟩
   simp only[VRel,AV.isAgg,vrel,RA] at hv
   obtain⟨nm,h1,hv⟩:=hv
   have hnr:=slice_place hrow hsh S h1
   cases h2:nm.base with
   |none=>
    rw[h2] at hv
    obtain⟨h3,_⟩:=hv
    rw[hnr] at h3;cases h3
   |some a=>
    rw[h2] at hv
    simp only at hv
    rw[if_neg (by rw[hnr];simp)] at hv
    obtain⟨o,n',e,u,room,h3,h4,h5,h6,h7,h8⟩:=hv
    simp only[Option.some.injEq] at h6;subst h6
    obtain⟨g1,g2,_⟩:=hget N D w base S nm a o h1 h2 h3
    simp only[RA,TRel] at g2
    have hse:=shape_shp hsh S h1
    rw[h4] at hse
    simp only[AV.sh,Option.some.injEq,Sh.arr.injEq] at hse
    obtain⟨rfl,rfl⟩:=hse
    have hlen:llen (β:=t'.den) ys=n':=g2.1
    refine deep_of_row (a:=Addr.at_ a o) (off:=off) (len:=len) (room:=room) (by simpa [Addr.at_] using hF id (by simp) nm a h1 h2) (fun i x hi=>?_) (by rw[tS_] at h8;simpa [Addr.at_,Nat.add_assoc] using h8) (by omega)
    refine Tc_ _ _ _ _ (fun j _=>?_) (TRel_mono (Nm_.le_refl _) hD (fun _ _=>rfl) _ _ _ (g2.2 i x hi))
    simp only[cA,Addr.at_,Nat.add_assoc]
 ·cases h
theorem FrozenIn.left {N:Nm_}{D':Nat→Prop}{i j:List Nat}(h:FrozenIn N D' (i++j)):FrozenIn N D' i:=fun id hid=>h id (by simp[hid])
theorem FrozenIn.right {N:Nm_}{D':Nat→Prop}{i j:List Nat}(h:FrozenIn N D' (i++j)):FrozenIn N D' j:=fun id hid=>h id (by simp[hid])
theorem rdSlice_size {α:Type}{s:St}{t:Ty}{v:AV}{k:List t.den→List Nat→Option α}{r:α}(h:rdSlice s t v k=some r):v.isAgg=false∧v.size=1∧v≠ .undef:=by
 cases v<;>first
  |(refine⟨rfl,by simp[AV.size],?_⟩;intro h0;cases h0;done)
  |(unfold rdSlice at h;simp at h;done)
theorem RfAt_some {N:Nm_}{tag n c:Nat}{v:Option Value}(h:RfAt N tag n c v): ∃c,v=some c:=by
 obtain⟨c,h,_⟩:=RfAt_cell h
 exact⟨c,h⟩
theorem RelAt_cell {N:Nm_}{D:Nat→Prop}{w:World}{v:AV}{g:Nat→Option Value}(h1:v.isAgg=false)(h2:v≠ .undef)(h:RA N D w v g): ∃c,g 0=some c:=by
 cases v<;>simp only[RA] at h<;>first
  |exact absurd rfl h2
  |exact RfAt_some h
  |exact⟨_,h⟩
  |(obtain⟨_,_,_,_,_,_,h⟩:=h;exact⟨_,h⟩)
  |(obtain⟨a,cap,e,_⟩:=h;exact⟨_,e⟩)
  |(obtain⟨_,e,_⟩:=h;exact⟨_,e⟩)
  |(obtain⟨_,e⟩:=h;exact⟨_,e⟩)
  |(obtain⟨_,_,_,_,_,e⟩:=h;exact⟨_,e⟩)
  |(simp[AV.isAgg] at h1;done)
  |skip
 ·obtain⟨nm,_,_,_,_,h⟩:=h
  cases hb:nm.base with
  |none=>rw[hb] at h;exact⟨_,h.2⟩
  |some a=>rw[hb] at h;obtain⟨u,room,e,_⟩:=h;exact⟨_,e⟩
 ·obtain⟨nm,_,h⟩:=h
  cases hb:nm.base with
  |none=>rw[hb] at h;obtain⟨_,_,_,_,h⟩:=h;exact⟨_,h⟩
  |some a=>
  rw[hb] at h
  simp only at h
  split at h
  ·obtain⟨_,_,u,room,e,_⟩:=h;exact⟨_,e⟩
  ·obtain⟨_,_,_,u,room,_,_,_,e,_⟩:=h;exact⟨_,e⟩
theorem deep_slice {α:Type}{s:St}{t:Ty}{v:AV}{k:List t.den→List Nat→Option α}{r:α}(h:rdSlice s t v k=some r):v.size=Ty.size (.deep t)∧∃x ids,k x ids=some r∧∀N D w base,Sim N D w base s.h→∀g,RA N D w v g→DecIs (fun D' w=>TRel N D' w (.deep t) x g) N D w ids:=by
 have hna:=rdSlice_size h
 obtain⟨xs,ids,h1,h2⟩:=rdSlice_sound h
 refine⟨by rw[hna.2.1];simp[Ty.size],xs,ids,h1,fun N D w base S g hv D' hD hF=>?_⟩
 obtain⟨c,hc⟩:=RelAt_cell hna.1 hna.2.2 hv
 have hv':VRel N D w v c:=by
  unfold VRel
  rw[hna.1]
  refine Rc_ v _ _ (fun j hj=>?_) hv
  rw[hna.2.1] at hj
  obtain rfl:j=0:=by omega
  exact hc
 exact Tc_ _ _ _ _ (fun j hj=>by simp only[Ty.size] at hj;have hj0:j=0:=(by omega);subst hj0;exact hc.symm) (h2 N D w base S c hv' D' hD hF)
theorem decL_sound {α:Type}{s:St}{t:Ty}(IH: ∀(v:AV) (k:t.den→List Nat→Option α) (r:α),decK s t v k=some r→v.size=t.size∧∃x ids,k x ids=some r∧∀N D w base,Sim N D w base s.h→∀g,RA N D w v g→DecIs (fun D' w=>TRel N D' w t x g) N D w ids):
  ∀(vs:List AV) (k:List t.den→List Nat→Option α) (r:α),decL (decK s t) vs k=some r→∃(xs:List t.den) (ids:List Nat),k xs ids=some r∧xs.length=vs.length∧
   ∀N D w base,Sim N D w base s.h→∀D':Nat→Prop,(∀b,D b→D' b)→FrozenIn N D' ids→∀g,RL N D w vs g→∀i (x:t.den),lget (β:=t.den) xs i=some x→TRel N D' w t x (fun j=>g (i*t.size+j))
 | [],k,r,h=>⟨[],[],h,rfl,fun N D w base S D' _ _ g _ i x hx=>by simp[lget] at hx⟩
 |v::vs,k,r,h=>by
  unfold decL at h
  obtain⟨hsz,x,ids,h1,h2⟩:=IH v _ r h
  obtain⟨xs,ids',h3,h4,h5⟩:=decL_sound IH vs _ r h1
  refine⟨x::xs,ids++ids',h3,by simp[h4],fun N D w base S D' hD hF g hg i y hy=>?_⟩
  simp only[RL] at hg
  cases i with
  |zero=>
   simp only[lget,List.getElem?_cons_zero,Option.some.injEq] at hy
   subst hy
   exact Tc_ _ _ _ _ (fun j _=>by simp) (h2 N D w base S g hg.1 D' hD (fun q hq=>hF q (List.mem_append.2 (.inl hq))))
  |succ i=>
   refine Tc_ _ _ _ _ (fun j _=>congrArg g (by rw[hsz,Nat.add_mul];omega)) (h5 N D w base S D' hD (fun q hq=>hF q (List.mem_append.2 (.inr hq))) _ hg.2 i y (by simpa [lget] using hy))
theorem decK_sound {α:Type}{s:St}: ∀(t:Ty) (v:AV) (k:t.den→List Nat→Option α) (r:α),decK s t v k=some r→
  v.size=t.size∧∃x ids,k x ids=some r∧∀N D w base,Sim N D w base s.h→∀g,RA N D w v g→DecIs (fun D' w=>TRel N D' w t x g) N D w ids
 | .int k',v,k,r,h=>by
  unfold decK at h
  split at h
  ·split at h
   ·rename_i k'' n e;subst e
    exact⟨by simp[AV.size,Ty.size],_,_,h,fun N D w base S g hv D' hD _=>by simp only[RA] at hv;exact hv⟩
   ·cases h
  ·cases h
 | .bool,v,k,r,h=>by
  unfold decK at h
  split at h
  ·exact⟨by simp[AV.size,Ty.size],_,_,h,fun N D w base S g hv D' hD _=>by simp only[RA] at hv;exact hv⟩
  ·cases h
 | .str,v,k,r,h=>by
  unfold decK at h
  split at h
  ·exact⟨by simp[AV.size,Ty.size],_,_,h,fun N D w base S g hv D' hD _=>by simp only[RA] at hv;exact hv⟩
  ·cases h
 | .nil,v,k,r,h=>by
  unfold decK at h
  split at h
  ·exact⟨by simp[AV.size,AV.sizes,Ty.size],_,_,h,fun N D w base S g hv D' hD _=>trivial⟩
  ·cases h
 | .cons a b,v,k,r,h=>by
  unfold decK at h
  split at h
  ·rename_i x l
   obtain⟨hsz,p,i,h1,h2⟩:=decK_sound a x _ r h
   obtain⟨hsl,q,j,h3,h4⟩:=decK_sound b (.agg l) _ r h1
   refine⟨by simp only[AV.size,AV.sizes,Ty.size] at*;omega,_,_,h3,fun N D w base S g hv D' hD hF=>?_⟩
   simp only[RA,RL] at hv
   have hp:=h2 N D w base S g hv.1 D' hD hF.left
   refine⟨hp,?_⟩
   have:=h4 N D w base S (fun j=>g (x.size+j)) (by simp only[RA];exact hv.2) D' hD hF.right
   rwa [hsz] at this
  ·cases h
 | .arr n t,v,k,r,h=>by
  unfold decK at h
  split at h
  ·rename_i n' t' xs
   split at h
   ·rename_i e;subst e
    split at h
    ·rename_i ys hc
     obtain⟨rfl,rfl⟩:=cLs hc
     exact⟨by simp[AV.size,Ty.size],_,_,h,fun N D w base S g hv D' hD _=>by simp only[RA] at hv;exact TRel_mono (Nm_.le_refl _) hD (fun _ _=>rfl) _ _ _ hv⟩
    ·cases h
   ·cases h
  ·cases h
 | .deep t,v,k,r,h=>by
  unfold decK rdDeep at h
  split at h
  rotate_left
  ·exact deep_slice h
  rename_i id n
  split at h
  rotate_left
  ·cases h
  rename_i vs ho
  split at h
  rotate_left
  ·cases h
  rename_i hn
  simp only[decide_eq_true_eq] at hn
  obtain⟨xs,ids,h1,h2,h3⟩:=decL_sound (fun v k r hv=>decK_sound t v k r hv) vs _ r h
  refine⟨by simp[AV.size,Ty.size],xs,id::ids,h1,fun N D w base S g hv D' hD hF=>?_⟩
  simp only[RA] at hv
  obtain⟨nm,a,e1,e2,e3,e4⟩:=hv
  obtain⟨nm',a',f1,f2,f3,f4,f5,f6,_,_,_,f7⟩:=S.obj id _ ho
  rw[e1] at f1;cases f1
  rw[e2] at f2;cases f2
  simp only[RA] at f7
  have hlen:llen (β:=t.den) xs=n:=by rw[←hn];exact h2
  refine⟨some a,n,by rw[hlen];exact e4,by rw[hlen];exact Nat.le_refl _,(by intro h;cases h),fun ad had hne=>?_⟩
  cases had
  exact⟨f5,hF id (by simp) nm a e1 e2,h3 N D w base S D' hD (fun q hq=>hF q (List.mem_cons_of_mem _ hq)) _ f7⟩
 | .ref g,v,k,r,h=>by
  unfold decK at h
  split at h
  ·split at h
   ·rename_i e;subst e
    exact⟨by simp[AV.size,Ty.size],_,_,h,fun N D w base S g hv D' hD _=>by simp only[RA] at hv;exact hv⟩
   ·cases h
  ·exact⟨by simp[AV.size,Ty.size],_,_,h,fun N D w base S g hv D' hD _=>by simp only[RA] at hv;exact hv⟩
  ·cases h
end AM
namespace AM
open Go
mutual
theorem shapeEq_sh: ∀(v u:AV),v.shapeEq u=true→v.sh=u.sh
 | .agg fs,u,h=>by
  cases u<;>simp only[AV.shapeEq] at h<;>first|(cases h;done)|skip
  simp only[AV.sh];rw[shapesEq_shs _ _ h]
 | .arr n t xs,u,h=>by
  cases u<;>simp only[AV.shapeEq] at h<;>first|(cases h;done)|skip
  simp only[Bool.and_eq_true,decide_eq_true_eq] at h
  simp only[AV.sh,h.1,h.2]
 | .undef,u,h=>by cases u<;>simp[AV.shapeEq] at h
 | .tup _,u,h=>by cases u<;>simp[AV.shapeEq] at h
 | .val _,u,h=>by cases u<;>simp[AV.shapeEq] at h<;>simp[AV.sh]
 | .ptr _ _,u,h=>by cases u<;>simp[AV.shapeEq] at h<;>simp[AV.sh]
 | .tail _ _,u,h=>by cases u<;>simp[AV.shapeEq] at h<;>simp[AV.sh]
 | .slice _ _ _ _,u,h=>by cases u<;>simp[AV.shapeEq] at h<;>simp[AV.sh]
 | .dp _ _,u,h=>by cases u<;>simp[AV.shapeEq] at h<;>simp[AV.sh]
 | .rptr _,u,h=>by cases u<;>simp[AV.shapeEq] at h<;>simp[AV.sh]
 | .clo _ _,u,h=>by cases u<;>simp[AV.shapeEq] at h<;>simp[AV.sh]
 | .ubool,u,h=>by cases u<;>simp[AV.shapeEq] at h<;>simp[AV.sh]
 | .fad _ _ _ _,u,h=>by cases u<;>simp[AV.shapeEq] at h<;>simp[AV.sh]
 | .bnd _ _,u,h=>by cases u<;>simp[AV.shapeEq] at h<;>simp[AV.sh]
 | .vsl _ _,u,h=>by cases u<;>simp[AV.shapeEq] at h<;>simp[AV.sh]
 | .rf _ _ _,u,h=>by cases u<;>simp[AV.shapeEq] at h<;>simp[AV.sh]
theorem shapesEq_shs: ∀(l m:List AV),AV.shapesEq l m=true→AV.shs l=AV.shs m
 | [],m,h=>by cases m<;>simp[AV.shapesEq] at h<;>simp[AV.shs]
 |x::xs,m,h=>by
  cases m with
  |nil=>simp[AV.shapesEq] at h
  |cons y ys=>
   simp only[AV.shapesEq,Bool.and_eq_true] at h
   simp only[AV.shs,shapeEq_sh _ _ h.1,shapesEq_shs _ _ h.2]
end
theorem shs_set: ∀(l:List AV) (n:Nat) (v v':AV),l[n]?=some v→v'.sh=v.sh→AV.shs (l.set n v')=AV.shs l
 | [],_,_,_,h,_=>by simp at h
 |x::xs,0,v,v',h,e=>by simp at h;subst h;simp[AV.shs,e]
 |x::xs,n+1,v,v',h,e=>by simp[AV.shs,shs_set xs n v v' (by simpa using h) e]
theorem RelAll_set {N:Nm_}{D:Nat→Prop}{w:World}: ∀(l:List AV) (n:Nat) (v v':AV) (g g':Nat→Option Value),l[n]?=some v→v'.size=v.size→RL N D w l g→
  (∀j,(j<AV.sizes (l.take n)∨AV.sizes (l.take n)+v.size≤j)→g' j=g j)→RA N D w v' (fun j=>g' (AV.sizes (l.take n)+j))→RL N D w (l.set n v') g'
 | [],_,_,_,_,_,h,_,_,_,_=>by simp at h
 |x::xs,0,v,v',g,g',h,e,hr,hg,hv=>by
  simp at h;subst h
  simp only[List.set,RL] at*
  refine⟨relAt_fun hv (fun j=>by simp[AV.sizes]),?_⟩
  refine RelAll_congr xs _ _ (fun j _=>?_) hr.2
  rw[hg _ (.inr (by simp[AV.sizes];omega)),e]
 |x::xs,n+1,v,v',g,g',h,e,hr,hg,hv=>by
  simp only[List.set,RL] at*
  refine⟨Rc_ x _ _ (fun j hj=>(hg j (.inl (by simp[AV.sizes];omega))).symm) hr.1,?_⟩
  refine RelAll_set xs n v v' (fun j=>g (x.size+j)) (fun j=>g' (x.size+j)) (by simpa using h) e hr.2 (fun j hj=>hg _ ?_) (relAt_fun hv (fun j=>by simp[AV.sizes,Nat.add_assoc]))
  simp only[List.take_succ_cons,AV.sizes];omega
theorem shs_take_le: ∀(l:List Sh) (n:Nat) (v:Sh),l[n]?=some v→Sh.sizes (l.take n)+v.size≤Sh.sizes l
 | [],n,v,h=>by simp at h
 |z::zs,0,v,h=>by simp at h;subst h;simp[Sh.sizes]
 |z::zs,n+1,v,h=>by have:=shs_take_le zs n v (by simpa using h);simp[Sh.sizes];omega
theorem offSh_le: ∀(p:List Step) (sh:Sh) (o:Nat) (t:Sh),oS p sh=some o→shP p sh=some t→o+t.size≤sh.size:=by
 intro p
 induction p with
 |nil=>intro sh o t h1 h2;simp only[oS,shP,Option.some.injEq] at h1 h2;subst h1;subst h2;omega
 |cons st p ih=>
  intro sh o t h1 h2
  cases st with
  |fld n=>
   cases sh<;>simp only[oS,shP] at h1 h2<;>try (cases h1;done)
   rename_i l
   cases hl:l[n]? with
   |none=>simp[hl] at h1
   |some y=>
    simp only[hl] at h1 h2
    cases h5:oS p y with
    |none=>simp[h5] at h1
    |some o2=>
     simp only[h5,Option.map_some,Option.some.injEq] at h1
     have:=ih y o2 t h5 h2
     have:=shs_take_le l n y hl
     simp only[Sh.size];omega
  |idx i=>
   cases sh<;>simp only[oS,shP] at h1 h2<;>try (cases h1;done)
   rename_i n e
   by_cases hi:i<n
   ·simp only[hi,if_true] at h1
    cases h5:oS p e with
    |none=>simp[h5] at h1
    |some o2=>
     simp only[h5,Option.map_some,Option.some.injEq] at h1
     have:=ih e o2 t h5 h2
     have h6:(i+1)*e.size≤n*e.size:=Nat.mul_le_mul_right _ hi
     rw[Nat.add_mul] at h6
     simp only[Sh.size];omega
   ·simp only[hi,if_false] at h1;cases h1
theorem setP_sound {α:Type}{s:St}: ∀(p:List Step) (u v:AV) (k:AV→Option α) (r:α),setP s p u v k=some r→
  ∃v',k v'=some r∧v'.sh=v.sh∧shP p v.sh=some u.sh∧∀N D w base,Sim N D w base s.h→∀g g' o,RA N D w v g→oS p v.sh=some o→
   (∀j,(j<o∨o+u.size≤j)→g' j=g j)→RA N D w u (fun j=>g' (o+j))→RA N D w v' g'
 | [],u,v,k,r,h=>by
  simp only[setP] at h
  cases hs:v.shapeEq u with
  |false=>simp[hs] at h
  |true=>
   simp only[hs] at h
   refine⟨u,h,(shapeEq_sh _ _ hs).symm,by rw[shP,shapeEq_sh _ _ hs],fun N D w base S g g' o hv ho hg hu=>?_⟩
   simp only[oS,Option.some.injEq] at ho
   subst ho
   exact relAt_fun hu (fun j=>by simp)
 | .fld n::p,u,v,k,r,h=>by
  cases v<;>simp only[setP] at h<;>try (cases h;done)
  rename_i fs
  cases hv:fs[n]? with
  |none=>simp[hv] at h
  |some x=>
   simp only[hv] at h
   obtain⟨v',h1,h2,h3,h4⟩:=setP_sound p u x _ r h
   have hsz:v'.size=x.size:=by rw[←sh_size,←sh_size,h2]
   refine⟨_,h1,by simp only[AV.sh,shs_set fs n x v' hv h2],by simp only[AV.sh,shP,shs_get,hv,Option.map_some];exact h3,fun N D w base S g g' o hr ho hg hu=>?_⟩
   simp only[AV.sh,oS,shs_get,hv,Option.map_some] at ho
   cases ho':oS p x.sh with
   |none=>simp[ho'] at ho
   |some o'=>
    simp only[ho',Option.map_some,Option.some.injEq] at ho
    rw[←shs_take,shs_size] at ho
    subst ho
    simp only[RA] at hr⊢
    have hx:=RelAll_take fs n x g hv hr
    have hin:o'+u.size≤x.size:=by
     have:=offSh_le p x.sh o' u.sh ho' h3
     rwa [sh_size,sh_size] at this
    have:=h4 N D w base S _ (fun j=>g' (AV.sizes (fs.take n)+j)) o' hx ho' (fun j hj=>hg _ (by omega)) (relAt_fun hu (fun j=>by rw[Nat.add_assoc]))
    exact RelAll_set fs n x v' g g' hv hsz hr (fun j hj=>hg j (by omega)) this
 | .idx i::p,u,v,k,r,h=>by
  cases v<;>simp only[setP] at h<;>try (cases h;done)
  rename_i n t xs
  cases hv:(show List t.den from xs)[i]? with
  |none=>simp[hv] at h
  |some x=>
   simp only[hv] at h
   obtain⟨v',h1,h2,h3,h4⟩:=setP_sound p u (enc t x) _ r h
   obtain⟨_,x',ids,h5,h6⟩:=decK_sound t v' _ r h1
   cases ids with
   |cons _ _=>simp at h5
   |nil=>
    simp only at h5
    refine⟨_,h5,by simp only[AV.sh],by simp only[AV.sh,shP];rw[←enc_sh t x];exact h3,fun N D w base S g g' o hr ho hg hu=>?_⟩
    simp only[AV.sh,oS] at ho
    by_cases hi:i<n
    ·simp only[hi,if_true] at ho
     cases ho':oS p (tsh t) with
     |none=>simp[ho'] at ho
     |some o'=>
      simp only[ho',Option.map_some,Option.some.injEq,tS_] at ho
      subst ho
      simp only[RA,TRel] at hr⊢
      have hx:=(enc_rel (N:=N) t x _).2 (hr.2 i x hv)
      have hin:o'+u.size≤t.size:=by
       have:=offSh_le p (tsh t) o' u.sh ho' (by rw[←enc_sh t x];exact h3)
       rwa [sh_size,tS_] at this
      have:=h4 N D w base S _ (fun j=>g' (i*t.size+j)) o' hx (by rw[enc_sh];exact ho') (fun j hj=>hg _ (by omega)) (relAt_fun hu (fun j=>by rw[Nat.add_assoc]))
      have hx':=h6 N D w base S _ this D (fun _ h=>h) (by intro id hid;simp at hid)
      refine⟨by simp only[llen,List.length_set];exact hr.1,fun i' y hy=>?_⟩
      by_cases hii:i=i'
      ·subst hii
       have hlt:i<(show List t.den from xs).length:=(List.getElem?_eq_some_iff.1 hv).1
       simp only[lget,List.getElem?_set_self hlt,Option.some.injEq] at hy
       subst hy
       exact hx'
      ·simp only[lget,List.getElem?_set_ne hii] at hy
       refine Tc_ t y _ _ (fun j hj=>?_) (hr.2 i' y hy)
       refine(hg _ ?_).symm
       rcases Nat.lt_or_gt_of_ne hii with hlt|hlt
       ·right
        have:(i+1)*t.size≤i'*t.size:=Nat.mul_le_mul_right _ hlt
        rw[Nat.add_mul] at this;omega
       ·left
        have:(i'+1)*t.size≤i*t.size:=Nat.mul_le_mul_right _ hlt
        rw[Nat.add_mul] at this;omega
    ·simp only[hi,if_false] at ho;cases ho
end AM
namespace AM
open Go
theorem VarAt.congr {N N':Nm_}{D D':Nat→Prop}{w w':World}{base:Nat}{id:Nat}{v:AV}(h:VarAt N D w base id v)(hN:N.le N')(hD: ∀b,D b→D' b)(hw: ∀b,D b→w'.heap[b]?=w.heap[b]?)
  (hb: ∀b,NmBlk N id b→w'.heap[b]?=w.heap[b]?∧(¬D b→¬D' b)):VarAt N' D' w' base id v:=by
 obtain⟨nm,a,h1,h2,h3,h4,h5,h6,h7,h8,⟨c,ty,h9,h10⟩,h11⟩:=h
 obtain⟨e1,e2⟩:=hb _ ⟨nm,a,h1,h2,rfl⟩
 refine⟨nm,a,hN _ _ h1,h2,h3,h4,h5,h6,h7,e2 h8,⟨c,ty,by rw[e1];exact h9,h10⟩,?_⟩
 refine relAt_fun (RelAt_mono hN hD hw v _ h11) (fun j=>?_)
 simp only[cA,World.cell?,e1]
theorem RowIs.congr {N N':Nm_}{D D':Nat→Prop}{w w':World}{base:Nat}{id:Nat}{ro:Bool}{t:Ty}{xs:List t.den}(h:RowIs N D w base id ro t xs)(hN:N.le N')(hD: ∀b,D b→D' b)(hw: ∀b,D b→w'.heap[b]?=w.heap[b]?)
  (hb:ro=false→∀b,NmBlk N id b→w'.heap[b]?=w.heap[b]?∧(¬D b→¬D' b)):RowIs N' D' w' base id ro t xs:=by
 obtain⟨nm,h1,h2,h3,h4,h5,h6⟩:=h
 refine⟨nm,hN _ _ h1,h2,h3,h4,h5,?_⟩
 cases hbase:nm.base with
 |none=>rw[hbase] at h6;exact h6
 |some a=>
  rw[hbase] at h6
  obtain⟨h7,⟨c,ty,fz,h8,h9⟩,h10,h11⟩:=h6
  have e1:w'.heap[a.block]?=w.heap[a.block]?:=by
   cases ro with
   |true=>simp only[if_true] at h10;exact hw _ h10
   |false=>exact(hb rfl _ ⟨nm,a,h1,hbase,rfl⟩).1
  refine⟨h7,⟨c,ty,fz,by rw[e1];exact h8,h9⟩,?_,fun i x hx=>?_⟩
  ·cases ro with
   |true=>simp only[if_true] at h10⊢;exact hD _ h10
   |false=>simp at h10⊢;exact⟨h10.1,(hb rfl _ ⟨nm,a,h1,hbase,rfl⟩).2 h10.2⟩
  ·have:=TRel_mono hN hD hw t x _ (h11 i x hx)
   have e:(fun j=>cA w' a (i*t.size+j))=fun j=>cA w a (i*t.size+j):=by
    funext j;simp only[cA,World.cell?,e1]
   rw[e];exact this
mutual
theorem ParkP.congr {D D':Nat→Prop}{w w':World}{base:Nat}(hD: ∀b,D b→D' b)(hw: ∀b,D b→w'.heap[b]?=w.heap[b]?): ∀{N:Nm_} {c:Nat} {p:OPat} {d:p.den},ParkP D w base N c p d→
  (∀b,OwnP N c p d b→w'.heap[b]?=w.heap[b]?∧(¬D b→¬D' b))→ParkP D' w' base N c p d
 |_,_, .var _,_,h,hb=>by
  simp only[ParkP,OwnP] at*
  exact h.congr (Nm_.le_refl _) hD hw hb
 |_,_, .row _,_,h,hb=>by
  simp only[ParkP,OwnP] at*
  exact h.congr (Nm_.le_refl _) hD hw fun _=>hb
 |N,c, .store ep,xs,h,hb=>by
  simp only[ParkP] at*
  refine⟨h.1,fun k d hk=>⟨ParkH.congr hD hw (h.2.1 k d hk).1 fun b ho=>hb b ?_,(h.2.1 k d hk).2⟩,h.2.2.1,h.2.2.2⟩
  simp only[OwnP]
  exact⟨k,d,hk,ho⟩
theorem ParkH.congr {D D':Nat→Prop}{w w':World}{base:Nat}(hD: ∀b,D b→D' b)(hw: ∀b,D b→w'.heap[b]?=w.heap[b]?): ∀{N:Nm_} {l:List (Nat×OPat)} {d:hD_ l},ParkH D w base N l d→
  (∀b,OwnH N l d b→w'.heap[b]?=w.heap[b]?∧(¬D b→¬D' b))→ParkH D' w' base N l d
 |_,[],_,_,_=>by simp only[ParkH]
 |N,(c,p)::os,d,h,hb=>by
  simp only[ParkH,OwnH] at*
  exact⟨ParkP.congr hD hw h.1 fun b ho=>hb b (.inl ho),ParkH.congr hD hw h.2.1 fun b ho=>hb b (.inr ho),h.2.2⟩
end
mutual
theorem ParkP.namesEq {D:Nat→Prop}{w:World}{base:Nat}{N N':Nm_}{c:Nat}{ep:List (Nat×OPat)}{xs:List (hD_ ep)}(h:ParkP D w base N c (.store ep) xs)(e: ∀k,N'.sub (c-SB) k=N.sub (c-SB) k):ParkP D w base N' c (.store ep) xs:=by
 simp only[ParkP,e] at*
 exact h
end
theorem OwnP.namesEq {N N':Nm_}{c:Nat}{ep:List (Nat×OPat)}{xs:List (hD_ ep)}{b:Nat}(e: ∀k,N'.sub (c-SB) k=N.sub (c-SB) k):OwnP N' c (.store ep) xs b↔OwnP N c (.store ep) xs b:=by
 simp only[OwnP,e]
theorem ObjAt_congr {N N':Nm_}{D D':Nat→Prop}{w w':World}{base:Nat}{id:Nat}{o:AObj}(h:ObjAt N D w base id o)(hN:N.le N')(hD: ∀b,D b→D' b)(hw: ∀b,D b→w'.heap[b]?=w.heap[b]?)
  (hb: ∀b,OwnO N id o b→w'.heap[b]?=w.heap[b]?∧(¬D b→¬D' b)) (hs: ∀ep xs,o= .store ep xs→∀k,N'.sub (id-SB) k=N.sub (id-SB) k):ObjAt N' D' w' base id o:=by
 cases o with
 |dead=>trivial
 |void=>trivial
 |store ep xs=>exact(ParkP.congr hD hw (show ParkP D w base N id (.store ep) xs from h) hb).namesEq (hs ep xs rfl)
 |var v=>exact VarAt.congr h hN hD hw hb
 |row ro t xs=>exact RowIs.congr h hN hD hw fun e=>by subst e;exact hb
def upd (h:Nat→Option AObj)(id:Nat)(o:AObj):Nat→Option AObj:=fun x=>if x=id then some o else h x
theorem St.set_h (s:St)(id:Nat)(o:AObj):(s.set id o).h=upd s.h id o:=rfl
theorem upd_live {h:Nat→Option AObj}{id i:Nat}{o:AObj}(e:upd h id o i=none):h i=none:=by
 unfold upd at e
 split at e
 ·cases e
 ·exact e
theorem NmBlk.eq {N N':Nm_}{i b:Nat}(h:N' i=N i):NmBlk N' i b↔NmBlk N i b:=by unfold NmBlk;rw[h]
theorem OwnO.names {N N':Nm_}{i:Nat}{o:AObj}{b:Nat}(h1:N' i=N i)(h2: ∀k,N'.sub (i-SB) k=N.sub (i-SB) k):OwnO N' i o b↔OwnO N i o b:=by
 cases o with
 |dead=>exact Iff.rfl
 |void=>exact Iff.rfl
 |var v=>exact NmBlk.eq h1
 |row ro t xs=>
  cases ro with
  |true=>exact Iff.rfl
  |false=>exact NmBlk.eq h1
 |store ep xs=>exact OwnP.namesEq h2
theorem OwnO.at_ {N:Nm_}{i:Nat}{o:AObj}{nm:Nm}{a:Addr}{b:Nat}(hr:o.rw=true)(hn:N i=some nm)(hb:nm.base=some a)(h:OwnO N i o b):b=a.block:=by
 have key:NmBlk N i b→b=a.block:=by
  rintro⟨nm',a',h1,h2,rfl⟩
  rw[hn] at h1;cases h1
  rw[hb] at h2;cases h2
  rfl
 cases o with
 |dead=>exact h.elim
 |void=>exact h.elim
 |var v=>exact key h
 |row ro t xs=>cases ro<;>first|exact key h|exact h.elim
 |store ep xs=>cases hr
theorem Sim.write {N:Nm_}{D:Nat→Prop}{w w':World}{base:Nat}{h:Nat→Option AObj}(S:Sim N D w base h){id:Nat}{o o':AObj}{nm:Nm}{a:Addr}(ho:h id=some o)(hrw:o.rw=true)(hn:N id=some nm)(hb:nm.base=some a)
  (hos:w'.os=w.os) (htape:w'.tape=w.tape) (hout:w'.output=w.output) (hsize:w'.heap.size=w.heap.size) (hother: ∀b,b≠a.block→w'.heap[b]?=w.heap[b]?) (hobj:ObjAt N D w' base id o') (hr':o'.rw=true:=by rfl):
  Sim N D w' base (upd h id o')∧Ext N D w h N D w' (upd h id o'):=by
 have hown:OwnO N id o a.block:=OwnO.of hrw hn hb
 have hOwn:Own N h a.block:=⟨id,o,ho,hown⟩
 have hnd:=(S.own_live hOwn).1
 have hD: ∀b,D b→w'.heap[b]?=w.heap[b]?:=fun b hb'=>hother b (fun e=>hnd (e▸hb'))
 have key: ∀i oi b,upd h id o' i=some oi→OwnO N i oi b→∃o2,h i=some o2∧OwnO N i o2 b:=by
  intro i oi b hi ri
  by_cases e:i=id
  ·subst e
   simp[upd] at hi;subst hi
   rw[OwnO.at_ hr' hn hb ri]
   exact⟨o,ho,hown⟩
  ·simp only[upd,if_neg e] at hi;exact⟨oi,hi,ri⟩
 have hdead: ∀x,upd h id o' x≠h x→∃o2,upd h id o' x=some o2∧o2.rw=true∧∃o3,h x=some o3∧o3.rw=true:=by
  intro x hx
  by_cases e:x=id
  ·subst e;exact⟨o',by simp[upd],hr',o,ho,hrw⟩
  ·simp[upd,e] at hx
 constructor
 ·refine⟨fun id' o'' h'=>?_,?_,fun b hb'=>by rw[hsize];exact S.frozen b hb',fun id' nm' hn'=>?_,by rw[hsize];exact S.size,fun g hg=>?_⟩
  ·by_cases e:id'=id
   ·subst e;simp[upd] at h';subst h';exact hobj
   ·simp only[upd,if_neg e] at h'
    refine ObjAt_congr (S.obj id' o'' h') (Nm_.le_refl N) (fun _ h=>h) hD (fun b hO=>⟨hother _ (fun eb=>e ?_),fun h=>h⟩) (fun _ _ _ _=>rfl)
    exact S.apart id' id o'' o b h' ho hO (eb▸hown)
  ·intro i j oi oj b hi hj ri rj
   obtain⟨o1,h1,r1⟩:=key i oi b hi ri
   obtain⟨o2,h2,r2⟩:=key j oj b hj rj
   exact S.apart i j o1 o2 b h1 h2 r1 r2
  ·by_cases e:id'=id
   ·simp[upd,e]
   ·simp only[upd,if_neg e];exact S.named id' nm' hn'
  ·by_cases e:SB+g=id
   ·simp only[upd,if_pos e] at hg
    cases o'<;>simp[AM.absent] at hg
    cases hr'
   ·simp only[upd,if_neg e] at hg;exact S.absent g hg
 ·refine⟨Nm_.le_refl N,fun _ h=>h,hos,htape,hout,by rw[hsize];exact Nat.le_refl _,fun b _ hno=>hother b (fun e=>hno (e▸hOwn)),fun b _ hO=>?_,fun _ h=> .inl h,fun _ _ h=> .inl h,fun _ h=>upd_live h,fun g hg=>⟨?_,fun _=>rfl⟩⟩
  ·obtain⟨i,oi,hi,ri⟩:=hO
   obtain⟨o2,h2,r2⟩:=key i oi b hi ri
   exact⟨i,o2,h2,r2⟩
  ·by_cases e:SB+g=id
   ·subst e;rw[ho] at hg;cases hg;cases hrw
   ·simp only[upd,if_neg e];exact hg
theorem Sim.kill {N:Nm_}{D:Nat→Prop}{w:World}{base:Nat}{h:Nat→Option AObj}(S:Sim N D w base h)(id:Nat):Sim N D w base (upd h id .dead)∧Ext N D w h N D w (upd h id .dead):=by
 have key: ∀i oi b,upd h id .dead i=some oi→OwnO N i oi b→h i=some oi:=by
  intro i oi b hi ri
  by_cases e:i=id
  ·subst e;simp[upd] at hi;subst hi;exact ri.elim
  ·simpa only[upd,if_neg e] using hi
 constructor
 ·refine⟨fun i o hi=>?_,?_,S.frozen,fun i nm hn=>?_,S.size,fun g hg=>?_⟩
  ·by_cases e:i=id
   ·subst e;simp[upd] at hi;subst hi;trivial
   ·simp only[upd,if_neg e] at hi;exact S.obj i o hi
  ·intro i j oi oj b hi hj ri rj
   exact S.apart i j oi oj b (key i oi b hi ri) (key j oj b hj rj) ri rj
  ·by_cases e:i=id
   ·simp[upd,e]
   ·simp only[upd,if_neg e];exact S.named i nm hn
  ·by_cases e:SB+g=id
   ·simp[upd,if_pos e,AM.absent] at hg
   ·simp only[upd,if_neg e] at hg;exact S.absent g hg
 ·refine⟨Nm_.le_refl N,fun _ h=>h,rfl,rfl,rfl,Nat.le_refl _,fun _ _ _=>rfl,fun b _ hO=>?_,fun _ h=> .inl h,fun _ _ h=> .inl h,fun _ h=>upd_live h,fun g hg=>⟨?_,fun _=>rfl⟩⟩
  ·obtain⟨i,oi,hi,ri⟩:=hO
   exact⟨i,oi,key i oi b hi ri,ri⟩
  ·by_cases e:SB+g=id
   ·simp[upd,if_pos e]
   ·simp only[upd,if_neg e];exact hg
theorem Sim.freeze1 {N:Nm_}{D:Nat→Prop}{w:World}{base:Nat}{h:Nat→Option AObj}(S:Sim N D w base h){id:Nat}{ro:Bool}{t:Ty}{xs:List t.den}(ho:h id=some (.row ro t xs)):
  ∃D':Nat→Prop,(∀b,D b→D' b)∧FrozenIn N D' [id]∧Sim N D' w base (upd h id (.row true t xs))∧Ext N D w h N D' w (upd h id (.row true t xs)):=by
 have hobj:=S.obj id _ ho
 have key: ∀i oi b,upd h id (.row true t xs) i=some oi→OwnO N i oi b→i≠id∧h i=some oi:=by
  intro i oi b hi ri
  by_cases e:i=id
  ·subst e;simp[upd] at hi;subst hi;exact ri.elim
  ·exact⟨e,by simpa only[upd,if_neg e] using hi⟩
 let D':Nat→Prop:=fun b=>D b∨∃nm a,N id=some nm∧nm.base=some a∧a.block=b
 have hlt: ∀nm a,N id=some nm→nm.base=some a→a.block<w.heap.size:=by
  intro nm a hn hb
  obtain⟨nm',h1,_,_,_,_,h6⟩:=hobj
  rw[hn] at h1;cases h1
  rw[hb] at h6
  obtain⟨_,⟨c,ty,fz,h8,_⟩,_⟩:=h6
  exact(Array.getElem?_eq_some_iff.1 h8).1
 refine⟨D',fun b h=> .inl h,?_,?_,?_⟩
 ·intro i hi nm a hn hb
  simp at hi;subst hi
  exact .inr ⟨nm,a,hn,hb,rfl⟩
 ·refine⟨fun i o hi=>?_,?_,?_,fun i nm hn=>?_,S.size,fun g hg=>?_⟩
  ·by_cases e:i=id
   ·subst e;simp[upd] at hi;subst hi
    obtain⟨nm,h1,h2,h3,h4,h5,h6⟩:=hobj
    refine⟨nm,h1,h2,h3,h4,h5,?_⟩
    cases hb:nm.base with
    |none=>rw[hb] at h6;exact h6
    |some a=>
     rw[hb] at h6
     obtain⟨h7,⟨c,ty,fz,h8,h9,_⟩,_,h11⟩:=h6
     refine⟨h7,⟨c,ty,fz,h8,h9,by simp⟩,by simp only[if_true];exact .inr ⟨nm,a,h1,hb,rfl⟩,fun i x hx=>TRel_mono (Nm_.le_refl _) (fun b h=> .inl h) (fun _ _=>rfl) _ _ _ (h11 i x hx)⟩
   ·simp only[upd,if_neg e] at hi
    refine ObjAt_congr (S.obj i o hi) (Nm_.le_refl N) (fun b h=> .inl h) (fun _ _=>rfl) (fun b hO=>⟨rfl,fun hnd hd'=>?_⟩) (fun _ _ _ _=>rfl)
    rcases hd' with hd'|⟨nm,a,hn,hb,hblk⟩
    ·exact hnd hd'
    ·cases ro with
     |true=>
      obtain⟨nm2,h1,_,_,_,_,h6⟩:=hobj
      rw[hn] at h1;cases h1
      rw[hb] at h6
      obtain⟨_,_,h10,_⟩:=h6
      simp only[if_true] at h10
      exact hnd (hblk▸h10)
     |false=>exact e (S.apart i id o _ b hi ho hO ⟨nm,a,hn,hb,hblk⟩)
  ·intro i j oi oj b hi hj ri rj
   exact S.apart i j oi oj b (key i oi b hi ri).2 (key j oj b hj rj).2 ri rj
  ·rintro b (hb|⟨nm,a,hn,hb,rfl⟩)
   ·exact S.frozen b hb
   ·exact hlt nm a hn hb
  ·by_cases e:i=id
   ·simp[upd,e]
   ·simp only[upd,if_neg e];exact S.named i nm hn
  ·by_cases e:SB+g=id
   ·simp[upd,if_pos e,AM.absent] at hg
   ·simp only[upd,if_neg e] at hg;exact S.absent g hg
 ·refine⟨Nm_.le_refl N,fun b h=> .inl h,rfl,rfl,rfl,Nat.le_refl _,fun _ _ _=>rfl,fun b _ hO=>?_,fun b hb=>?_,fun _ _ h=> .inl h,fun _ h=>upd_live h,fun g hg=>⟨?_,fun _=>rfl⟩⟩
  case refine_2=>
   rcases hb with hb|⟨nm,a,hn,hb,rfl⟩
   ·exact .inl hb
   ·cases ro with
    |true=>
     obtain⟨nm2,h1,_,_,_,_,h6⟩:=hobj
     rw[hn] at h1;cases h1
     rw[hb] at h6
     obtain⟨_,_,h10,_⟩:=h6
     exact .inl (by simpa using h10)
    |false=>exact .inr (.inl ⟨id,_,ho,⟨nm,a,hn,hb,rfl⟩⟩)
  ·obtain⟨i,oi,hi,ri⟩:=hO
   exact⟨i,oi,(key i oi b hi ri).2,ri⟩
  ·by_cases e:SB+g=id
   ·subst e;rw[ho] at hg;cases hg
   ·simp only[upd,if_neg e];exact hg
theorem freeze_sound: ∀(ids:List Nat) (s s':St),s.freeze ids=some s'→s'.t=s.t∧s'.nt=s.nt∧s'.ep=s.ep∧∀N D w base,Sim N D w base s.h→
  ∃D':Nat→Prop,(∀b,D b→D' b)∧FrozenIn N D' ids∧Sim N D' w base s'.h∧Ext N D w s.h N D' w s'.h
 | [],s,s',h=>by
  simp only[St.freeze,Option.some.injEq] at h
  subst h
  exact⟨rfl,rfl,rfl,fun N D w base S=>⟨D,fun _ h=>h,by intro i hi;simp at hi,S,Ext.refl _ _ _ _⟩⟩
 |i::l,s,s',h=>by
  simp only[St.freeze] at h
  split at h
  ·rename_i ro t xs ho
   obtain⟨h1,h2,h3,h4⟩:=freeze_sound l _ s' h
   refine⟨h1,h2,h3,fun N D w base S=>?_⟩
   obtain⟨D1,e1,e2,e3,e4⟩:=S.freeze1 ho
   obtain⟨D2,f1,f2,f3,f4⟩:=h4 N D1 w base (by rw[St.set_h];exact e3)
   refine⟨D2,fun b hb=>f1 b (e1 b hb),fun id hid nm a hn hb=>?_,f3,e4.trans f4⟩
   rcases List.mem_cons.1 hid with rfl|hid
   ·exact f1 _ (e2 id (by simp) nm a hn hb)
   ·exact f2 id hid nm a hn hb
  ·cases h
theorem Nm_.up_at {N:Nm_}{id:Nat}{nm:Nm}:(N.up fun i=>if i=id then some nm else N i) id=some nm:=by show(if id=id then some nm else N id)=_;simp
theorem Nm_.le_new {N:Nm_}{id:Nat}{nm:Nm}(hNn:N id=none):N.le (N.up fun i=>if i=id then some nm else N i):=Nm_.le_up fun i nm' h'=>by
 by_cases e:i=id
 ·subst e;rw[hNn] at h';cases h'
 ·rw[if_neg e];exact h'
theorem Sim.make {N:Nm_}{D:Nat→Prop}{w w':World}{base:Nat}{h:Nat→Option AObj}(S:Sim N D w base h){id:Nat}{o:AObj}{nm:Nm}(hfree:h id=none)(hos:w'.os=w.os)(htape:w'.tape=w.tape)(hout:w'.output=w.output)
  (hsize:w.heap.size≤w'.heap.size) (hother: ∀b,b<w.heap.size→w'.heap[b]?=w.heap[b]?) (hnew: ∀a,nm.base=some a→w.heap.size≤a.block∧a.block<w'.heap.size)
  (hobj:ObjAt (N.up fun i=>if i=id then some nm else N i) D w' base id o) (hr:o.rw=true:=by rfl):
  ∃N':Nm_,N' id=some nm∧Sim N' D w' base (upd h id o)∧Ext N D w h N' D w' (upd h id o):=by
 have hNn:N id=none:=by
  cases e:N id with
  |none=>rfl
  |some nm'=>exact absurd hfree (S.named id nm' e)
 have hN:N.le (N.up fun i=>if i=id then some nm else N i):=Nm_.le_up fun i nm' h'=>by
  by_cases e:i=id
  ·subst e;rw[hNn] at h';cases h'
  ·rw[if_neg e];exact h'
 have hNid:(N.up fun i=>if i=id then some nm else N i) id=some nm:=by show(if id=id then some nm else N id)=_;simp
 have hNne: ∀i,i≠id→(N.up fun i=>if i=id then some nm else N i) i=N i:=fun i e=>if_neg e
 have hold: ∀i oi b,i≠id→OwnO (N.up fun i=>if i=id then some nm else N i) i oi b→OwnO N i oi b:=fun i oi b e=>(OwnO.names (hNne i e) (fun _=>rfl)).1
 have hnewb: ∀b,OwnO (N.up fun i=>if i=id then some nm else N i) id o b→w.heap.size≤b:=by
  intro b hO
  cases hb:nm.base with
  |some a=>rw[OwnO.at_ hr hNid hb hO];exact(hnew a hb).1
  |none=>
   have key:NmBlk (N.up fun i=>if i=id then some nm else N i) id b→False:=by
    rintro⟨nm',a',h1,h2,_⟩
    rw[hNid] at h1;cases h1
    rw[hb] at h2;cases h2
   cases o with
   |dead=>exact hO.elim
   |void=>exact hO.elim
   |var v=>exact(key hO).elim
   |row ro t xs=>cases ro<;>first|exact(key hO).elim|exact hO.elim
   |store ep xs=>cases hr
 refine⟨N.up fun i=>if i=id then some nm else N i,hNid,⟨fun i oi hi=>?_,?_,fun b hb=>Nat.lt_of_lt_of_le (S.frozen b hb) hsize,fun i nm' hn=>?_,Nat.le_trans S.size hsize,fun g hg=>?_⟩,⟨hN,fun _ h=>h,hos,htape,hout,hsize,fun b hb _=>hother b hb,fun b hb hO=>?_,fun _ h=> .inl h,fun i nm' hn=>?_,fun _ h=>upd_live h,fun g hg=>⟨?_,fun _=>rfl⟩⟩⟩
 ·by_cases e:i=id
  ·subst e;simp[upd] at hi;subst hi;exact hobj
  ·simp only[upd,if_neg e] at hi
   exact ObjAt_congr (S.obj i oi hi) hN (fun _ h=>h) (fun b hb=>hother b (S.frozen b hb)) (fun b hO=>⟨hother _ (S.lives hi hO).2.2,fun h=>h⟩) (fun _ _ _ _=>rfl)
 ·intro i j oi oj b hi hj ri rj
  by_cases ei:i=id<;>by_cases ej:j=id
  ·rw[ei,ej]
  ·exfalso
   subst ei
   simp[upd] at hi;subst hi
   simp only[upd,if_neg ej] at hj
   have:=(S.lives hj (hold j oj b ej rj)).2.2
   have:=hnewb b ri
   omega
  ·exfalso
   subst ej
   simp[upd] at hj;subst hj
   simp only[upd,if_neg ei] at hi
   have:=(S.lives hi (hold i oi b ei ri)).2.2
   have:=hnewb b rj
   omega
  ·simp only[upd,if_neg ei] at hi
   simp only[upd,if_neg ej] at hj
   exact S.apart i j oi oj b hi hj (hold i oi b ei ri) (hold j oj b ej rj)
 ·by_cases e:i=id
  ·simp[upd,e]
  ·simp only[upd,if_neg e]
   rw[hNne i e] at hn
   exact S.named i nm' hn
 ·by_cases e:SB+g=id
  ·simp only[upd,if_pos e] at hg
   cases o<;>simp[AM.absent] at hg
   cases hr
  ·simp only[upd,if_neg e] at hg;exact S.absent g hg
 ·obtain⟨i,oi,hi,ri⟩:=hO
  by_cases e:i=id
  ·subst e
   simp[upd] at hi;subst hi
   have:=hnewb b ri
   omega
  ·simp only[upd,if_neg e] at hi
   exact⟨i,oi,hi,hold i oi b e ri⟩
 ·by_cases e:i=id
  ·subst e;exact .inr hfree
  ·rw[hNne i e] at hn;exact .inl hn
 ·by_cases e:SB+g=id
  ·subst e;rw[hfree] at hg;cases hg
  ·simp only[upd,if_neg e];exact hg
end AM
namespace AM
open Go
variable {α:Type}{P:Program}{base:Nat}
def eqRes (op:BinOp)(b:Bool):Bool:=match op with| .eql=>b|_=>!b
theorem SRel.evv {N:Nm_}{D:Nat→Prop}{w:World}{st:St}{a:Act}(s:SRel N D w base st a){x:Operand}{v:Value}(h:st.ev x= .val v):a.eval x=v:=by
 have:=s.ev' x
 rw[h] at this
 exact Vv.1 this
theorem SRel.evr {N:Nm_}{D:Nat→Prop}{w:World}{st:St}{a:Act}(s:SRel N D w base st a){x:Operand}{v:AV}(h:st.ev x=v):VRel N D w v (a.eval x):=h▸s.ev' x
theorem equal_run {t:TypeId}{x y:Value}{b:Bool}{w:World}(h:(Op.equalIn (9999+1) t x y).run P w= .ok b w):(Op.equal t x y).run P w= .ok b w:=h
section
variable {t:TypeId}{w:World}(d:Nat)
theorem equalIn_bool (hu:P.underlying t=some .bool)(a b:Bool):(Op.equalIn (d+1) t (.bool a) (.bool b)).run P w= .ok (a==b) w:=by simp[Op.equalIn,run_underlying hu]
theorem equalIn_nilp {e:TypeId}(hu:P.underlying t=some (.pointer e))(b:Option Addr):(Op.equalIn (d+1) t (.pointer none) (.pointer b)).run P w= .ok b.isNone w:=by simp[Op.equalIn,run_underlying hu]
theorem equalIn_pnil {e:TypeId}(hu:P.underlying t=some (.pointer e))(b:Addr):(Op.equalIn (d+1) t (.pointer (some b)) (.pointer none)).run P w= .ok false w:=by simp[Op.equalIn,run_underlying hu]
theorem equalIn_snil {e:TypeId}(hu:P.underlying t=some (.slice e))(a:Option Addr)(n m n' m':Nat):(Op.equalIn (d+1) t (.slice a n m) (.slice none n' m')).run P w= .ok a.isNone w:=by cases a<;>simp[Op.equalIn,run_underlying hu]
theorem equalIn_nils {e:TypeId}(hu:P.underlying t=some (.slice e))(n m n' m':Nat):(Op.equalIn (d+1) t (.slice none n m) (.slice none n' m')).run P w= .ok true w:=by simp[Op.equalIn,run_underlying hu]
end
theorem eql_run {op:BinOp}{t:TypeId}{x y:Value}{b:Bool}{w:World}(hop:op= .eql∨op= .neq)(hx: ∀k n,x≠ .int k n)(hf: ∀k n,x≠ .float k n)(hcx: ∀k n m,x≠ .complex k n m)(hs: ∀s,x≠ .string s)
  (h:(Op.equal t x y).run P w= .ok b w):(Go.binOp op t x y).run P w= .ok (.bool (eqRes op b)) w:=by
 rcases hop with rfl|rfl<;>cases x<;>first
  |(exfalso;first|exact hx _ _ rfl|exact hf _ _ rfl|exact hcx _ _ _ rfl|exact hs _ rfl)
  |(cases y<;>simp[Go.binOp,h,eqRes])
theorem fine_eqk {dst ty pos after guard}{op:BinOp}{t yT:TypeId}{x y:Operand}{st:St}{b:Bool}{k:AV→St→Option α}{r:α}(h:eqk st op b k=some r)
  (he: ∀N D w a,SRel N D w base st a→(op= .eql∨op= .neq)→(do eqGuard op t x y (a.eval x) (a.eval y);Go.binOp op t (a.eval x) (a.eval y):Sem Value).run P w= .ok (.bool (eqRes op b)) w):
  Fine P base ⟨dst, .binOp op t x y yT,ty,pos,after,guard⟩ st k r:=by
 unfold eqk at h
 split at h
 ·refine⟨_,_,h,OpOK.pure fun N D w a s=>⟨_,?_,Vv.2 rfl⟩⟩
  have:=he N D w a s (.inl rfl)
  simp only[execOp]
  rw[Sem.run_bind,this];rfl
 ·refine⟨_,_,h,OpOK.pure fun N D w a s=>⟨_,?_,Vv.2 rfl⟩⟩
  have:=he N D w a s (.inr rfl)
  simp only[execOp]
  rw[Sem.run_bind,this];rfl
 ·cases h
theorem isPtrT_spec {t:TypeId}(h:isPtrT P t=true): ∃e,P.underlying t=some (.pointer e):=by
 unfold isPtrT at h;split at h
 ·exact⟨_,‹_›⟩
 ·cases h
theorem isSliceT_spec {t:TypeId}(h:isSliceT P t=true): ∃e,P.underlying t=some (.slice e):=by
 unfold isSliceT at h;split at h
 ·exact⟨_,‹_›⟩
 ·cases h
theorem alen_slice {s:St}{t:TypeId}{x:AV}{k:Int→Option α}{r:α}(h:alen P s t x k=some r)(hx:(∃te xs,x= .dp te xs)∨(∃i off,x= .tail i off)∨∃i p off len,x= .slice i p off len):
  ∃n:Int,k n=some r∧∀N D w,Sim N D w base s.h→∀c,VRel N D w x c→∃a m cap,c= .slice a m cap∧(n≠0→a≠none):=by
 rcases hx with⟨te,xs,rfl⟩|⟨i,off,rfl⟩|⟨i,p,off,len,rfl⟩
 ·simp only[alen] at h
  split at h
  ·refine⟨_,h,fun N D w S c hc=>?_⟩
   obtain⟨a,cap,h1,h2,h3,_⟩:=VRel_dp.1 hc
   simp only[Option.some.injEq] at h1
   refine⟨a,_,cap,h1,fun hn ha=>hn ?_⟩
   have:=h3 ha
   simp only[llen] at h2
   omega
  ·cases h
 ·simp only[alen] at h
  split at h
  ·rename_i ro t' xs ho
   split at h
   ·refine⟨_,h,fun N D w S c hc=>?_⟩
    simp only[VRel,AV.isAgg,vrel,RA] at hc
    obtain⟨nm,h1,h2,h3,h4,h5⟩:=hc
    obtain⟨nm',e1,e2,e3,e4,e5,e6⟩:=S.obj i _ ho
    rw[h1] at e1;cases e1
    cases hb:nm.base with
    |none=>
     rw[hb] at h5
     obtain⟨h6,h7⟩:=h5
     simp only[Option.some.injEq] at h7
     refine⟨none,0,0,h7,fun hn=>absurd ?_ hn⟩
     simp only[llen] at e4
     omega
    |some a=>
     rw[hb] at h5
     obtain⟨u,room,h6,h7,a',cap,h8,_⟩:=h5
     simp only[Option.some.injEq] at h6
     exact⟨_,_,_,h6.trans h8,fun _=>by simp⟩
   ·cases h
  ·cases h
 ·simp only[alen] at h
  split at h
  ·refine⟨_,h,fun N D w S c hc=>?_⟩
   simp only[VRel,AV.isAgg,vrel,RA] at hc
   obtain⟨nm,h1,hc⟩:=hc
   cases hb:nm.base with
   |none=>
    rw[hb] at hc
    obtain⟨_,_,h6,_,h7⟩:=hc
    simp only[Option.some.injEq] at h7
    exact⟨none,0,0,h7,fun hn=>absurd (by omega) hn⟩
   |some a=>
    rw[hb] at hc
    simp only at hc
    split at hc
    ·obtain⟨_,_,u,room,h6,_,_,a',cap,h8,_⟩:=hc
     simp only[Option.some.injEq] at h6
     exact⟨_,_,_,h6.trans h8,fun _=>by simp⟩
    ·obtain⟨_,_,_,u,room,_,_,_,h6,_,a',cap,h8,_⟩:=hc
     simp only[Option.some.injEq] at h6
     exact⟨_,_,_,h6.trans h8,fun _=>by simp⟩
  ·cases h
theorem slNil_run {op:BinOp}{t:TypeId}{e:TypeId}(hu:P.underlying t=some (.slice e))(hop:op= .eql∨op= .neq)(a:Option Addr)(n c n' c':Nat)(w:World):(Go.binOp op t (.slice a n c) (.slice none n' c')).run P w= .ok (.bool (eqRes op a.isNone)) w:=by
 exact eql_run hop (by simp) (by simp) (by simp) (by simp) (equal_run (equalIn_snil 9999 hu a n c n' c'))
theorem fine_slNil {dst ty pos after guard}{op:BinOp}{t yT:TypeId}{x y:Operand}{st:St}{k:AV→St→Option α}{r:α}{u:AV}{c d:Nat}(h:slNil P st op t u k=some r)(e1:st.ev x=u)(e2:st.ev y= .val (.slice none c d))
  (hu:(∃te xs,u= .dp te xs)∨(∃i off,u= .tail i off)∨∃i p off len,u= .slice i p off len):
  Fine P base ⟨dst, .binOp op t x y yT,ty,pos,after,guard⟩ st k r:=by
 unfold slNil at h
 split at h
 ·cases h
 rename_i hs
 obtain⟨e,hue⟩:=isSliceT_spec hs
 obtain⟨n,h,hlen⟩:=alen_slice (base:=base) h hu
 have run: ∀N D w act,SRel N D w base st act→(op= .eql∨op= .neq)→∃a m cap,act.eval x= .slice a m cap∧(n≠0→a≠none)∧(do eqGuard op t x y (act.eval x) (act.eval y);Go.binOp op t (act.eval x) (act.eval y):Sem Value).run P w= .ok (.bool (eqRes op a.isNone)) w:=by
  intro N D w act s hop
  obtain⟨a,m,cap,h1,h2⟩:=hlen N D w s.sim _ (s.evr e1)
  refine⟨a,m,cap,h1,h2,?_⟩
  rw[h1,s.evv e2]
  simp only[eqGuard_at_slice,Sem.run_bind,Sem.run_pure,Result.andThen_ok]
  exact slNil_run hue hop a m cap c d w
 split at h
 ·have key: ∀hop:(op= .eql∨op= .neq),k .ubool st=some r→Fine P base ⟨dst, .binOp op t x y yT,ty,pos,after,guard⟩ st k r:=by
   intro hop h
   refine⟨_,_,h,OpOK.pure fun N D w act s=>?_⟩
   obtain⟨a,m,cap,_,_,h3⟩:=run N D w act s hop
   refine⟨.bool (eqRes op a.isNone),?_,by unfold VRel;simp only[AV.isAgg,vrel,RA];exact⟨_,rfl⟩⟩
   simp only[execOp]
   rw[Sem.run_bind,h3];rfl
  split at h
  ·exact key (.inl rfl) h
  ·exact key (.inr rfl) h
  ·cases h
 ·rename_i hn
  refine fine_eqk h fun N D w act s hop=>?_
  obtain⟨a,m,cap,_,h2,h3⟩:=run N D w act s hop
  have ha:a≠none:=h2 fun e=>by rw[odec_iff.2 e] at hn;cases hn
  cases a with
  |none=>exact absurd rfl ha
  |some a=>exact h3
theorem VRel_rf {N:Nm_}{D:Nat→Prop}{w:World}{g n c:Nat}{v:Value}(h:VRel N D w (.rf g n c) v):(n=0∧v= .pointer none)∨(n≠0∧∃a,v= .pointer (some a)):=by
 unfold VRel at h
 simp only[AV.isAgg,vrel,RA,RfAt] at h
 cases n with
 |zero=>simp only[Option.some.injEq] at h;exact .inl ⟨rfl,h⟩
 |succ k=>
  obtain⟨_,_,_,_,_,h⟩:=h
  simp only[Option.some.injEq] at h
  exact .inr ⟨by simp,_,h⟩
theorem odec_ne {p:Prop}(h: ¬p):odec p=false:=by
 cases e:odec p with
 |false=>rfl
 |true=>exact absurd (odec_iff.1 e) h
theorem fine_bin {dst ty pos after guard}{op:BinOp}{t yT:TypeId}{x y:Operand}{st:St}{k:AV→St→Option α}{r:α}(h:opBin P st op t (st.ev x) (st.ev y) k=some r)
  (hagg: ∀b,aeqT P t (st.ev x) (st.ev y)=some b→∀N D w a,SRel N D w base st a→(op= .eql∨op= .neq)→(do eqGuard op t x y (a.eval x) (a.eval y);Go.binOp op t (a.eval x) (a.eval y):Sem Value).run P w= .ok (.bool (eqRes op b)) w):
  Fine P base ⟨dst, .binOp op t x y yT,ty,pos,after,guard⟩ st k r:=by
 unfold opBin at h
 split at h
 ·rename_i ka a kb b e1 e2
  exact fine_int e1 e2 h
 ·rename_i a b e1 e2
  split at h
  ·rename_i hu
   refine fine_eqk h fun N D w act s hop=>?_
   rw[s.evv e1,s.evv e2]
   simp only[eqGuard_at_bool,Sem.run_bind,Sem.run_pure,Result.andThen_ok]
   exact eql_run hop (by simp) (by simp) (by simp) (by simp) (equal_run (equalIn_bool 9999 hu a b))
  ·cases h
 ·rename_i a b e1 e2
  refine fine_eqk h fun N D w act s hop=>?_
  rw[s.evv e1,s.evv e2]
  simp only[eqGuard_at_string,Sem.run_bind,Sem.run_pure,Result.andThen_ok]
  rcases hop with rfl|rfl<;>simp[Go.binOp,Op.stringOp,strEq,eqRes]
 ·rename_i e1 e2
  split at h
  ·rename_i hp
   obtain⟨e,hu⟩:=isPtrT_spec hp
   refine fine_eqk h fun N D w act s hop=>?_
   rw[s.evv e1,s.evv e2]
   simp only[eqGuard_at_pointer,Sem.run_bind,Sem.run_pure,Result.andThen_ok]
   exact eql_run hop (by simp) (by simp) (by simp) (by simp) (equal_run (equalIn_nilp 9999 hu none))
  ·cases h
 ·rename_i e1 e2
  split at h
  ·rename_i hp
   obtain⟨e,hu⟩:=isSliceT_spec hp
   refine fine_eqk h fun N D w act s hop=>?_
   rw[s.evv e1,s.evv e2]
   simp only[eqGuard_at_slice,Sem.run_bind,Sem.run_pure,Result.andThen_ok]
   exact eql_run hop (by simp) (by simp) (by simp) (by simp) (equal_run (equalIn_nils 9999 hu _ _ _ _))
  ·cases h
 ·rename_i id p e1 e2
  split at h
  ·rename_i hp
   obtain⟨e,hu⟩:=isPtrT_spec hp
   refine fine_eqk h fun N D w act s hop=>?_
   obtain⟨nm,a,o,_,_,_,e3⟩:=Vp.1 (s.evr e1)
   rw[e3,s.evv e2]
   simp only[eqGuard_at_pointer,Sem.run_bind,Sem.run_pure,Result.andThen_ok]
   exact eql_run hop (by simp) (by simp) (by simp) (by simp) (equal_run (equalIn_pnil 9999 hu _))
  ·cases h
 ·rename_i id p e1 e2
  split at h
  ·rename_i hp
   obtain⟨e,hu⟩:=isPtrT_spec hp
   refine fine_eqk h fun N D w act s hop=>?_
   obtain⟨nm,a,o,_,_,_,e3⟩:=Vp.1 (s.evr e2)
   rw[e3,s.evv e1]
   simp only[eqGuard_at_pointer,Sem.run_bind,Sem.run_pure,Result.andThen_ok]
   exact eql_run hop (by simp) (by simp) (by simp) (by simp) (equal_run (equalIn_nilp 9999 hu (some _)))
  ·cases h
 ·rename_i g n c e1 e2
  split at h
  ·rename_i hp
   obtain⟨e,hu⟩:=isPtrT_spec hp
   refine fine_eqk h fun N D w act s hop=>?_
   rcases VRel_rf (s.evr e1) with⟨hn,e3⟩|⟨hn,ad,e3⟩
   ·rw[e3,s.evv e2,odec_iff.2 hn]
    simp only[eqGuard_at_pointer,Sem.run_bind,Sem.run_pure,Result.andThen_ok]
    exact eql_run hop (by simp) (by simp) (by simp) (by simp) (equal_run (equalIn_nilp 9999 hu none))
   ·rw[e3,s.evv e2,odec_ne hn]
    simp only[eqGuard_at_pointer,Sem.run_bind,Sem.run_pure,Result.andThen_ok]
    exact eql_run hop (by simp) (by simp) (by simp) (by simp) (equal_run (equalIn_pnil 9999 hu _))
  ·cases h
 ·rename_i g n c e1 e2
  split at h
  ·rename_i hp
   obtain⟨e,hu⟩:=isPtrT_spec hp
   refine fine_eqk h fun N D w act s hop=>?_
   rcases VRel_rf (s.evr e2) with⟨hn,e3⟩|⟨hn,ad,e3⟩
   ·rw[e3,s.evv e1,odec_iff.2 hn]
    simp only[eqGuard_at_pointer,Sem.run_bind,Sem.run_pure,Result.andThen_ok]
    exact eql_run hop (by simp) (by simp) (by simp) (by simp) (equal_run (equalIn_nilp 9999 hu none))
   ·rw[e3,s.evv e1,odec_ne hn]
    simp only[eqGuard_at_pointer,Sem.run_bind,Sem.run_pure,Result.andThen_ok]
    exact eql_run hop (by simp) (by simp) (by simp) (by simp) (equal_run (equalIn_nilp 9999 hu (some _)))
  ·cases h
 ·rename_i te xs c d e1 e2
  exact fine_slNil h e1 e2 (.inl ⟨_,_,rfl⟩)
 ·rename_i i off c d e1 e2
  exact fine_slNil h e1 e2 (.inr (.inl ⟨_,_,rfl⟩))
 ·rename_i i p off len c d e1 e2
  exact fine_slNil h e1 e2 (.inr (.inr ⟨_,_,_,_,rfl⟩))
 ·split at h
  ·rename_i b hb
   exact fine_eqk h fun N D w act s hop=>hagg b hb N D w act s hop
  ·cases h
theorem fieldOff_spec {t:TypeId}{f off:Nat}(h:fieldOff P t f=some off): ∃fs fd,P.underlying t=some (.struct fs)∧fs[f]?=some fd∧P.cellsOf fd.type≠0∧fd.offset=off:=by
 unfold fieldOff at h
 split at h
 ·rename_i fs hu
  split at h
  ·rename_i fd hf
   split at h
   ·cases h
   ·exact⟨fs,fd,hu,hf,‹_›,Option.some.inj h⟩
  ·cases h
 ·cases h
theorem info_of_cells {t:TypeId}(h:P.cellsOf t≠0): ∃i,P.info? t=some i:=by
 unfold Program.cellsOf at h
 cases e:P.info? t with
 |none=>simp[e] at h
 |some i=>exact⟨i,rfl⟩
theorem fieldAt_run {t:TypeId}{f off:Nat}(h:fieldOff P t f=some off){a:Addr}(ha:a.spot=none)(w:World):(Instr.fieldAt t (.pointer (some a)) f).run P w= .ok (.pointer (some (Addr.at_ a off))) w:=by
 obtain⟨fs,fd,hu,hf,hc,ho⟩:=fieldOff_spec h
 obtain⟨i,hi⟩:=info_of_cells hc
 obtain⟨b,o,sp⟩:=a
 simp only at ha;subst ha
 simp only[Instr.fieldAt,Sem.run_bind,run_underlying hu,Result.andThen_ok,hf,Instr.sureAddr,Sem.run_pure,fieldPlace,run_sizeOf w hi,hc,if_false,addr_add,ho,Addr.at_]
theorem shape_sound {s:St}{id:Nat}{p:List Step}{sh:Sh}(h:s.shape id p=some sh){N:Nm_}{D:Nat→Prop}{w:World}{base:Nat}(S:Sim N D w base s.h){nm:Nm}(hn:N id=some nm):nm.shp p=some sh:=by
 unfold St.shape at h
 split at h
 ·rename_i v ho
  obtain⟨nm',a,h1,h2,h3,h4,_⟩:=S.obj id _ ho
  rw[hn] at h1;cases h1
  unfold Nm.shp;rw[h3,h4];exact h
 ·rename_i ro t xs ho
  obtain⟨nm',h1,h2,h3,_⟩:=S.obj id _ ho
  rw[hn] at h1;cases h1
  unfold Nm.shp;rw[h2,h3];simp only[if_true]
  split at h
  ·exact h
  ·cases h
 ·cases h
theorem offSh_snoc_fld: ∀(p:List Step) (s:Sh) (o:Nat) (l:List Sh) (n:Nat),oS p s=some o→shP p s=some (.agg l)→n<l.length→oS (p++ [.fld n]) s=some (o+Sh.sizes (l.take n))
 | [],s,o,l,n,h1,h2,h3=>by
  simp only[oS,shP,Option.some.injEq] at h1 h2
  subst h1;subst h2
  simp[oS,List.getElem?_eq_getElem h3]
 | .fld m::p,s,o,l,n,h1,h2,h3=>by
  cases s<;>simp only[oS,shP] at h1 h2<;>try (cases h1;done)
  rename_i l'
  cases hl:l'[m]? with
  |none=>simp[hl] at h1
  |some y=>
   simp only[hl] at h1 h2
   cases h5:oS p y with
   |none=>simp[h5] at h1
   |some o2=>
    simp only[h5,Option.map_some,Option.some.injEq] at h1
    have:=offSh_snoc_fld p y o2 l n h5 h2 h3
    simp only[List.cons_append,oS,hl,this,Option.map_some]
    congr 1;omega
 | .idx i::p,s,o,l,n,h1,h2,h3=>by
  cases s<;>simp only[oS,shP] at h1 h2<;>try (cases h1;done)
  rename_i m e
  by_cases hi:i<m
  ·simp only[hi,if_true] at h1
   cases h5:oS p e with
   |none=>simp[h5] at h1
   |some o2=>
    simp only[h5,Option.map_some,Option.some.injEq] at h1
    have:=offSh_snoc_fld p e o2 l n h5 h2 h3
    simp only[List.cons_append,oS,hi,if_true,this,Option.map_some]
    congr 1;omega
  ·simp only[hi,if_false] at h1;cases h1
theorem offSh_snoc_idx: ∀(p:List Step) (s:Sh) (o:Nat) (m i:Nat) (e:Sh),oS p s=some o→shP p s=some (.arr m e)→i<m→oS (p++ [.idx i]) s=some (o+i*e.size)
 | [],s,o,m,i,e,h1,h2,h3=>by
  simp only[oS,shP,Option.some.injEq] at h1 h2
  subst h1;subst h2
  simp[oS,h3]
 | .fld k::p,s,o,m,i,e,h1,h2,h3=>by
  cases s<;>simp only[oS,shP] at h1 h2<;>try (cases h1;done)
  rename_i l'
  cases hl:l'[k]? with
  |none=>simp[hl] at h1
  |some y=>
   simp only[hl] at h1 h2
   cases h5:oS p y with
   |none=>simp[h5] at h1
   |some o2=>
    simp only[h5,Option.map_some,Option.some.injEq] at h1
    have:=offSh_snoc_idx p y o2 m i e h5 h2 h3
    simp only[List.cons_append,oS,hl,this,Option.map_some]
    congr 1;omega
 | .idx j::p,s,o,m,i,e,h1,h2,h3=>by
  cases s<;>simp only[oS,shP] at h1 h2<;>try (cases h1;done)
  rename_i m' e'
  by_cases hi:j<m'
  ·simp only[hi,if_true] at h1
   cases h5:oS p e' with
   |none=>simp[h5] at h1
   |some o2=>
    simp only[h5,Option.map_some,Option.some.injEq] at h1
    have:=offSh_snoc_idx p e' o2 m i e h5 h2 h3
    simp only[List.cons_append,oS,hi,if_true,this,Option.map_some]
    congr 1;omega
  ·simp only[hi,if_false] at h1;cases h1
theorem off_snoc_fld {nm:Nm}{p:List Step}{o:Nat}{l:List Sh}{n:Nat}(h1:nm.off p=some o)(h2:nm.shp p=some (.agg l))(h3:n<l.length):
  nm.off (p++ [.fld n])=some (o+Sh.sizes (l.take n)):=by
 cases hr:nm.row with
 |false=>
  simp only[Nm.shp,hr] at h2
  have e: ∀p,nm.off p=oS p nm.sh:=by intro p;unfold Nm.off;split<;>simp[hr]
  rw[e] at h1⊢
  exact offSh_snoc_fld p _ o l n h1 h2 h3
 |true=>
  simp only[Nm.shp,hr,if_true] at h2
  split at h2
  ·rename_i i p'
   simp only[Nm.off,hr,if_true,List.cons_append] at h1⊢
   by_cases hi:i<nm.len
   ·simp only[hi,if_true] at h1⊢
    cases h5:oS p' nm.sh with
    |none=>simp[h5] at h1
    |some o2=>
     simp only[h5,Option.map_some,Option.some.injEq] at h1
     rw[offSh_snoc_fld p' _ o2 l n h5 h2 h3]
     simp only[Option.map_some];congr 1;omega
   ·simp only[hi,if_false] at h1;cases h1
  ·cases h2
theorem fine_fieldAddr {dst ty pos after guard}{t:TypeId}{x:Operand}{f:Nat}{st:St}{k:AV→St→Option α}{r:α}(h:opFieldAddr P st t (st.ev x) f k=some r):Fine P base ⟨dst, .fieldAddr t x f,ty,pos,after,guard⟩ st k r:=by
 unfold opFieldAddr at h
 split at h
 ·rename_i i p off e1 e2
  split at h
  ·refine⟨_,_,h,OpOK.pure fun N D w a s=>?_⟩
   obtain⟨nm,ad,o,h1,h2,h3,h4⟩:=Vp.1 (s.evr e1)
   refine⟨.pointer (some (Addr.at_ (Addr.at_ ad o) off)),by simp only[execOp,h4,Sem.run_bind,fieldAt_run (a:=Addr.at_ ad o) e2 rfl,Result.andThen_ok,Sem.run_pure],?_⟩
   unfold VRel
   simp only[AV.isAgg,vrel,RA]
   exact⟨nm,ad,o,h1,h2,h3,by simp only[Addr.at_,Nat.add_assoc]⟩
  ·split at h
   ·rename_i fs hs
    split at h
    ·rename_i hd
     simp only[decide_eq_true_eq] at hd
     refine⟨_,_,h,OpOK.pure fun N D w a s=>?_⟩
     obtain⟨nm,ad,o,h1,h2,h3,h4⟩:=Vp.1 (s.evr e1)
     have hsh:=shape_sound hs s.sim h1
     refine⟨.pointer (some (Addr.at_ (Addr.at_ ad o) off)),by simp only[execOp,h4,Sem.run_bind,fieldAt_run (a:=Addr.at_ ad o) e2 rfl,Result.andThen_ok,Sem.run_pure],Vp.2 ⟨nm,ad,_,h1,h2,off_snoc_fld h3 hsh hd.2,?_⟩⟩
     simp only[Addr.at_,hd.1,Nat.add_assoc]
    ·cases h
   ·cases h
 ·rename_i fs off e1 e2
  split at h
  ·rename_i hd
   simp only[decide_eq_true_eq] at hd
   split at h
   ·rename_i v hv
    refine⟨_,_,h,OpOK.pure fun N D w a s=>?_⟩
    obtain⟨ad,h1,h2,h3,h4⟩:=VRel_rptr.1 (s.evr e1)
    refine⟨.pointer (some (Addr.at_ ad off)),by simp only[execOp,h1,Sem.run_bind,fieldAt_run e2 h2,Result.andThen_ok,Sem.run_pure],VRel_rptr.2 ⟨_,rfl,rfl,h3,?_⟩⟩
    simp only[RA] at h4
    refine relAt_fun (RelAll_take fs f v _ hv h4) (fun j=>?_)
    simp only[cA,Addr.at_,hd,Nat.add_assoc]
   ·cases h
  ·cases h
 ·cases h
theorem fine_load {dst ty pos after guard}{t:TypeId}{x:Operand}{st:St}{k:AV→St→Option α}{r:α}(h:opLoad P st t (st.ev x) k=some r):Fine P base ⟨dst, .load t x,ty,pos,after,guard⟩ st k r:=by
 unfold opLoad at h
 split at h
 ·rename_i i p e1
  obtain⟨v,h1,_,h3⟩:=get_sound h
  split at h1
  ·rename_i hf
   refine⟨_,_,h1,OpOK.pure fun N D w a s=>?_⟩
   obtain⟨nm,ad,o,g1,g2,g3,g4⟩:=Vp.1 (s.evr e1)
   obtain⟨g5,g6,_⟩:=h3 N D w base s.sim nm ad o g1 g2 g3
   obtain⟨c,g7,g8⟩:=load_run (P:=P) (ad:=Addr.at_ ad o) rfl hf (relAt_fun g6 (fun j=>by simp only[cA,Addr.at_,Nat.add_assoc]))
   exact⟨c,by simp only[execOp,g4,Sem.run_bind,g7,Result.andThen_ok,Sem.run_pure],g8⟩
  ·cases h1
 ·rename_i v e1
  split at h
  ·rename_i hf
   refine⟨_,_,h,OpOK.pure fun N D w a s=>?_⟩
   obtain⟨ad,h1,h2,h3,h4⟩:=VRel_rptr.1 (s.evr e1)
   obtain⟨c,g7,g8⟩:=load_run (P:=P) h2 hf h4
   exact⟨c,by simp only[execOp,h1,Sem.run_bind,g7,Result.andThen_ok,Sem.run_pure],g8⟩
  ·cases h
 ·cases h
end AM
namespace AM
open Go
variable {α:Type}{P:Program}{base:Nat}
theorem setCells_size (b:Nat): ∀(vs:List Value) (o:Nat) (w:World),(w.setCells b o vs).heap.size=w.heap.size
 | [],_,_=>rfl
 |v::r,o,w=>by rw[World.setCells,setCells_size b r];simp[World.setCell]
theorem setCells_ne (b:Nat): ∀(vs:List Value) (o:Nat) (w:World) (b':Nat),b'≠b→(w.setCells b o vs).heap[b']?=w.heap[b']?
 | [],_,_,_,_=>rfl
 |v::r,o,w,b',h=>by
  rw[World.setCells,setCells_ne b r _ _ b' h]
  simp only[World.setCell,Array.getElem?_modify]
  rw[if_neg (by simpa using Ne.symm h)]
theorem setCells_os (b:Nat): ∀(vs:List Value) (o:Nat) (w:World),(w.setCells b o vs).os=w.os∧(w.setCells b o vs).tape=w.tape∧(w.setCells b o vs).output=w.output
 | [],_,_=>⟨rfl,rfl,rfl⟩
 |v::r,o,w=>by
  obtain⟨h1,h2,h3⟩:=setCells_os b r (o+1) (w.setCell ⟨b,o,none⟩ v)
  exact⟨by rw[World.setCells,h1];rfl,by rw[World.setCells,h2];rfl,by rw[World.setCells,h3];rfl⟩
theorem setCells_block (b:Nat): ∀(vs:List Value) (o:Nat) (w:World) (c:Array Value) (ty:TypeId) (fz:Nat×Nat),w.heap[b]?=some (.cells c ty fz)→∃c',(w.setCells b o vs).heap[b]?=some (.cells c' ty fz)∧c'.size=c.size
 | [],_,_,c,ty,fz,h=>⟨c,h,rfl⟩
 |v::r,o,w,c,ty,fz,h=>by
  have h1:(w.setCell ⟨b,o,none⟩ v).heap[b]?=some (.cells (c.setIfInBounds o v) ty fz):=by
   simp[World.setCell,Array.getElem?_modify,h]
  obtain⟨c',h2,h3⟩:=setCells_block b r (o+1) _ _ ty fz h1
  exact⟨c',h2,by rw[h3];simp⟩
theorem cells_isSome {w:World}{b o:Nat}{c:Array Value}{ty:TypeId}{fz:Nat×Nat}(h:w.heap[b]?=some (.cells c ty fz))(ho:o<c.size):(w.cell? ⟨b,o,none⟩).isSome=true:=by
 simp[World.cell?,h,ho]
theorem not_frozen {w:World}{b o:Nat}{c:Array Value}{ty:TypeId}{fz:Nat×Nat}(h:w.heap[b]?=some (.cells c ty fz))(hz:fz=(0,0)∨c.size≤fz.1)(ho:o<c.size):w.frozen? ⟨b,o,none⟩=false:=by
 obtain⟨lo,hi⟩:=fz
 simp only[World.frozen?,h]
 rcases hz with hz|hz
 ·cases hz;simp
 ·simp only at hz
  have: ¬lo≤o:=by omega
  simp[this]
theorem VRel_cells {N:Nm_}{D:Nat→Prop}{w:World}{u:AV}{c:Value}(hs:u.solid=true)(h:VRel N D w u c):c.cells.size=u.size∧RA N D w u (c.cells[·]?)∧∀x∈c.cells.toList,x.oneCell'=true:=by
 unfold VRel at h
 cases hag:u.isAgg with
 |true=>
  rw[hag] at h
  obtain⟨cs,rfl,h2,h3⟩:=h
  refine⟨h2,h3,fun x hx=>?_⟩
  change x∈cs.toList at hx
  obtain⟨j,hj,rfl⟩:=List.getElem_of_mem hx
  have hj':j<cs.size:=by simpa using hj
  obtain⟨y,h4,h5⟩:=solid_cells u _ hs h3 j (by omega)
  simp only[Array.getElem?_eq_getElem hj',Option.some.injEq] at h4
  subst h4
  simpa using h5
 |false=>
  rw[hag] at h
  have hsz:=not_agg_size hs hag
  obtain⟨y,h4,h5⟩:=solid_cells u _ hs h 0 (by omega)
  simp only[Option.some.injEq] at h4
  subst h4
  have hc:c.cells= #[c]:=by cases c<;>first|rfl|(simp[Value.oneCell'] at h5;done)
  rw[hc]
  refine⟨by simp[hsz],Rc_ u _ _ (fun j hj=>?_) h,fun x hx=>by simp at hx;subst hx;exact h5⟩
  obtain rfl:j=0:=by omega
  simp
theorem storeAt_run {t:TypeId}{u:AV}{ad:Addr}{c:Value}{w:World}{N:Nm_}{D:Nat→Prop}(ha:ad.spot=none)(hf:fitsT P t u=true)(hv:VRel N D w u c){cs:Array Value}{ty:TypeId}{fz:Nat×Nat}(hb:w.heap[ad.block]?=some (.cells cs ty fz))(hz:fz=(0,0)∨cs.size≤fz.1)(hsz:ad.off+u.size≤cs.size):
  (Instr.storeAt t (.pointer (some ad)) c).run P w= .ok () (w.setCells ad.block ad.off c.cells.toList):=by
 obtain⟨hs,_,h2,d,hd⟩:=fitsT_spec hf
 obtain⟨i,hi⟩:=info_of_underlying hd
 obtain⟨h3,_,h5⟩:=VRel_cells hs hv
 obtain⟨b,o,sp⟩:=ad
 simp only at ha;subst ha
 simp only[Instr.storeAt,Instr.sureAddr,Sem.run_bind,Sem.run_pure,Result.andThen_ok,storeVar,run_sizeOf w hi]
 rw[if_neg (by rw[h3,h2];simp)]
 have:=run_storeCells_cells (P:=P) b o c.cells.toList 0 w (fun j hj=>by
   refine cells_isSome hb ?_
   simp at hj;simp only at hsz;omega) (fun j hj=>not_frozen hb hz (by simp at hj;simp only at hsz;omega)) h5
 simpa using this
theorem store_sound {s:St}{id:Nat}{p:List Step}{u:AV}{k:St→Option α}{r:α}(h:s.store id p u k=some r)(hsol:u.solid=true):
  ∃s',k s'=some r∧s'.t=s.t∧s'.nt=s.nt∧s'.ep=s.ep∧(∀j,j≠id→j∉u.ids→s'.h j=s.h j)∧∀N D w base,Sim N D w base s.h→∀nm a o c,N id=some nm→nm.base=some a→nm.off p=some o→VRel N D w u c→
   a.spot=none∧(∃cs ty fz,w.heap[a.block]?=some (.cells cs ty fz)∧(fz=(0,0)∨cs.size≤fz.1)∧a.off+o+u.size≤cs.size)∧
   ∃D',Sim N D' (w.setCells a.block (a.off+o) c.cells.toList) base s'.h∧Ext N D w s.h N D' (w.setCells a.block (a.off+o) c.cells.toList) s'.h:=by
 unfold St.store at h
 split at h
 ·rename_i v ho
  obtain⟨v',h1,h2,h3,h4⟩:=setP_sound p u v _ r h
  refine⟨_,h1,rfl,rfl,rfl,fun j hj _=>by simp[St.set,hj],fun N D w base S nm a o c hn hb hoff hc=>?_⟩
  obtain⟨nm',a',e1,e2,e3,e4,e5,e6,e7,e8,⟨cs,ty,e9,e10⟩,e11⟩:=S.obj id _ ho
  rw[hn] at e1;cases e1
  rw[hb] at e2;cases e2
  have hof:oS p v.sh=some o:=by
   have:nm.off p=oS p nm.sh:=by unfold Nm.off;split<;>simp[e3]
   rw[this,e4] at hoff;exact hoff
  have hin:=offSh_le p v.sh o u.sh hof h3
  rw[sh_size,sh_size] at hin
  obtain⟨g1,g2,g3⟩:=VRel_cells hsol hc
  have hlen:c.cells.toList.length=u.size:=by simpa using g1
  refine⟨e5,⟨cs,ty,_,e9, .inl rfl,by omega⟩,D,?_⟩
  obtain⟨cs',f1,f2⟩:=setCells_block a.block c.cells.toList (a.off+o) w cs ty _ e9
  obtain⟨o1,o2,o3⟩:=setCells_os a.block c.cells.toList (a.off+o) w
  have hD: ∀b,D b→(w.setCells a.block (a.off+o) c.cells.toList).heap[b]?=w.heap[b]?:=fun b hb'=>setCells_ne _ _ _ _ _ (fun e=>e8 (e▸hb'))
  rw[St.set_h]
  refine S.write ho rfl hn hb o1 o2 o3 (setCells_size _ _ _ _) (fun b hne=>setCells_ne _ _ _ _ _ hne) ?_
  refine⟨nm,a,hn,hb,e3,by rw[e4,h2],e5,e6,e7,e8,⟨cs',ty,f1,by rw[f2,e10,←sh_size,←sh_size,h2]⟩,?_⟩
  refine RelAt_mono (Nm_.le_refl _) (fun _ h=>h) hD v' _ ?_
  refine h4 N D w base S (cA w a) _ o e11 hof (fun j hj=>?_) ?_
  ·simp only[cA]
   exact World.cell?_setCells_out _ _ _ _ _ (fun _ _=>by simp only;rw[hlen];omega)
  ·refine Rc_ u _ _ (fun j hj=>?_) g2
   have hj':j<c.cells.toList.length:=by omega
   have:=World.cell?_setCells_in a.block c.cells.toList (a.off+o) w (fun j hj=>cells_isSome e9 (by rw[hlen] at hj;omega)) j hj'
   simp only[cA]
   rw[show a.off+(o+j)=a.off+o+j by omega,this]
   simp at hj'⊢
 ·rename_i t xs ho
  split at h
  ·rename_i i p'
   split at h
   ·rename_i x hx
    obtain⟨v',h1,h2,h3,h4⟩:=setP_sound p' u (enc t x) _ r h
    obtain⟨_,x',ids,h5,h6⟩:=decK_sound t v' _ r h1
    split at h5
    ·cases h5
    rename_i hnc
    split at h5
    ·rename_i s1 hfz
     obtain⟨z1,z2,z3,z4⟩:=freeze_sound ids s s1 hfz
     simp only[Bool.or_eq_false_iff,Bool.not_eq_eq_eq_not,Bool.not_false,List.all_eq_true,List.contains_iff_mem] at hnc
     obtain⟨hnc,hsub⟩:=hnc
     have hkey: ∀(ids:List Nat) (s s1:St),s.freeze ids=some s1→∀j,j∉ids→s1.h j=s.h j:=by
      intro ids
      induction ids with
      |nil=>intro s s1 hz j _;simp only[St.freeze,Option.some.injEq] at hz;subst hz;rfl
      |cons q l ih=>
       intro s s1 hz j hj
       simp only[List.mem_cons,not_or] at hj
       simp only[St.freeze] at hz
       split at hz
       ·rw[ih _ s1 hz j hj.2];simp[St.set,hj.1]
       ·cases hz
     refine⟨_,h5,z1,z2,z3,fun j hj hj2=>by
      have:=hkey ids s s1 hfz j (fun hm=>hj2 (hsub j hm))
      simp[St.set,hj,this],fun N D w base S nm a o c hn hb hoff hc=>?_⟩
     obtain⟨nm',e1,e2,e3,e4,e5,e6⟩:=S.obj id _ ho
     rw[hn] at e1;cases e1
     rw[hb] at e6
     obtain⟨e7,⟨cs,ty,fz,e8,e9,e10⟩,e11,e12⟩:=e6
     replace e10:=e10 rfl
     simp only[Bool.false_eq_true,if_false] at e11
     simp only[Nm.off,e2,if_true] at hoff
     by_cases hi:i<nm.len
     ·simp only[hi,if_true] at hoff
      cases ho':oS p' nm.sh with
      |none=>simp[ho'] at hoff
      |some o'=>
       simp only[ho',Option.map_some,Option.some.injEq] at hoff
       rw[e3,tS_] at hoff
       subst hoff
       have hof':oS p' (enc t x).sh=some o':=by rw[enc_sh,←e3];exact ho'
       have hin:=offSh_le p' (tsh t) o' u.sh (by rw[←e3];exact ho') (by rw[←enc_sh t x];exact h3)
       rw[sh_size,tS_] at hin
       have hcap:(i+1)*t.size≤nm.cap*t.size:=Nat.mul_le_mul_right _ (by omega)
       rw[Nat.add_mul] at hcap
       obtain⟨g1,g2,g3⟩:=VRel_cells hsol hc
       have hlen:c.cells.toList.length=u.size:=by simpa using g1
       refine⟨e7,⟨cs,ty,fz,e8,e10.imp_right And.left,by omega⟩,?_⟩
       generalize hw':w.setCells a.block (a.off+(i*t.size+o')) c.cells.toList=w'
       obtain⟨cs',f1,f2⟩:=setCells_block a.block c.cells.toList (a.off+(i*t.size+o')) w cs ty _ e8
       obtain⟨o1,o2,o3⟩:=setCells_os a.block c.cells.toList (a.off+(i*t.size+o')) w
       have osz:=setCells_size a.block c.cells.toList (a.off+(i*t.size+o')) w
       have one:=setCells_ne a.block c.cells.toList (a.off+(i*t.size+o')) w
       have hout: ∀j,(j<i*t.size+o'∨i*t.size+o'+u.size≤j)→cA w' a j=cA w a j:=by
        intro j hj
        simp only[cA,←hw']
        exact World.cell?_setCells_out _ _ _ _ _ (fun _ _=>by simp only;rw[hlen];omega)
       have hins:RA N D w u (fun j=>cA w' a (i*t.size+o'+j)):=by
        refine Rc_ u _ _ (fun j hj=>?_) g2
        have hj':j<c.cells.toList.length:=by omega
        have:=World.cell?_setCells_in a.block c.cells.toList (a.off+(i*t.size+o')) w (fun j hj=>cells_isSome e8 (by rw[hlen] at hj;omega)) j hj'
        simp only[cA,←hw']
        rw[show a.off+(i*t.size+o'+j)=a.off+(i*t.size+o')+j by omega,this]
        simp at hj'⊢
       rw[hw'] at f1 o1 o2 o3 osz one
       obtain⟨D',d1,d2,d3,d4⟩:=z4 N D w base S
       have hrel:=h4 N D w base S (fun j=>cA w a (i*t.size+j)) (fun j=>cA w' a (i*t.size+j)) o' ((enc_rel t x _).2 (e12 i x hx)) hof' (fun j hj=>hout _ (by omega)) (relAt_fun hins (fun j=>by rw[Nat.add_assoc]))
       have hx':=h6 N D w base S _ hrel D' d1 d2
       have ho1:s1.h id=some (.row false t xs):=by
        rw[hkey ids s s1 hfz id (by simpa using hnc)];exact ho
       have hgo:True:=trivial
       refine⟨D',?_⟩
       have hnd: ¬D' a.block:=(d3.own_live ⟨id,_,ho1,OwnO.of rfl hn hb⟩).1
       have hDw: ∀b,D' b→w'.heap[b]?=w.heap[b]?:=fun b hb'=>one b (fun e=>hnd (e▸hb'))
       rw[St.set_h]
       have:=d3.write (o':= .row false t (xs.set i x')) ho1 rfl hn hb o1 o2 o3 osz (fun b hne=>one b hne) ?_
       ·exact⟨this.1,d4.trans this.2⟩
       ·refine⟨nm,hn,e2,e3,by rw[e4];simp[llen],e5,?_⟩
        rw[hb]
        refine⟨e7,⟨cs',ty,_,f1,by rw[f2];exact e9,fun _=>by rw[f2];exact e10⟩,by simp;exact⟨e11.1,hnd⟩,fun i' y hy=>?_⟩
        by_cases hii:i=i'
        ·subst hii
         have hlt:i<(show List t.den from xs).length:=(List.getElem?_eq_some_iff.1 hx).1
         simp only[lget,List.getElem?_set_self hlt,Option.some.injEq] at hy
         subst hy
         exact TRel_mono (Nm_.le_refl _) (fun _ h=>h) hDw _ _ _ hx'
        ·simp only[lget,List.getElem?_set_ne hii] at hy
         refine TRel_mono (Nm_.le_refl _) (fun _ h=>h) hDw _ _ _ (Tc_ t y _ _ (fun j hj=>(hout _ ?_).symm) (TRel_mono (Nm_.le_refl _) d1 (fun _ _=>rfl) _ _ _ (e12 i' y hy)))
         rcases Nat.lt_or_gt_of_ne hii with hlt|hlt
         ·right
          have:(i+1)*t.size≤i'*t.size:=Nat.mul_le_mul_right _ hlt
          rw[Nat.add_mul] at this;omega
         ·left
          have:(i'+1)*t.size≤i*t.size:=Nat.mul_le_mul_right _ hlt
          rw[Nat.add_mul] at this;omega
     ·simp only[hi,if_false] at hoff;cases hoff
    ·cases h5
   ·cases h
  ·cases h
 ·cases h
end AM
namespace AM
open Go
variable {α:Type}{P:Program}{base:Nat}
theorem fine_store {dst ty pos after guard}{t:TypeId}{x y:Operand}{st:St}{k:AV→St→Option α}{r:α}(h:opStore P st t (st.ev x) (st.ev y) k=some r):Fine P base ⟨dst, .store t x y,ty,pos,after,guard⟩ st k r:=by
 unfold opStore at h
 split at h
 ·rename_i i p e1
  split at h
  ·rename_i hf
   obtain⟨s',h1,h2,h3,h4,hfr,h5⟩:=store_sound h (fitsT_spec hf).1
   refine⟨_,_,h1,h2,h3,h4,fun j hj _=>hfr j (fun e=>hj (by simp[opW,e1,idsOf,e])) (fun e=>hj (by simp[opW,e])),fun N D w a s=>?_⟩
   obtain⟨nm,ad,o,g1,g2,g3,g4⟩:=Vp.1 (s.evr e1)
   have hv:=s.ev' y
   obtain⟨g5,⟨cs,cty,fz,g6,g6z,g7⟩,D',g8,g9⟩:=h5 N D w base s.sim nm ad o _ g1 g2 g3 hv
   have e5:=storeAt_run (P:=P) (ad:=Addr.at_ ad o) rfl hf hv g6 g6z (by simpa [Addr.at_] using g7)
   refine⟨N,D',_,Go.undef, .inr ⟨?_,rfl⟩,g9,g8,Vv.2 rfl⟩
   simp only[execOp,g4]
   rw[Sem.run_bind,e5]
   rfl
  ·cases h
 ·cases h
theorem new_var {s:St}{id:Nat}{v:AV}{k:St→Option α}{r:α}(h:s.new id (.var v) k=some r):
  ∃s',k s'=some r∧s'.t=s.t∧s'.nt=s.nt∧s'.ep=s.ep∧(∀j,j≠id→s'.h j=s.h j)∧∀N D w base,Sim N D w base s.h→∀(cells:Array Value) (ty:TypeId),cells.size=v.size→RA N D w v (cells[·]?)→
   ∃N',Sim N' D (w.alloc (.cells cells ty)) base s'.h∧Ext N D w s.h N' D (w.alloc (.cells cells ty)) s'.h∧VRel N' D (w.alloc (.cells cells ty)) (.ptr id []) (.pointer (some ⟨w.heap.size,0,none⟩)):=by
 unfold St.new at h
 split at h
 ·rename_i hfree
  refine⟨_,h,rfl,rfl,rfl,fun j hj=>by simp[St.set,hj],fun N D w base S cells ty hsz hr=>?_⟩
  have hheap:(w.alloc (.cells cells ty)).heap=w.heap.push (.cells cells ty):=rfl
  have hnew:(w.alloc (.cells cells ty)).heap[w.heap.size]?=some (.cells cells ty (0,0)):=by rw[hheap];simp
  have hother: ∀b,b<w.heap.size→(w.alloc (.cells cells ty)).heap[b]?=w.heap[b]?:=fun b hb=>by rw[hheap,Array.getElem?_push,if_neg (by omega)]
  let nm:Nm:=⟨some ⟨w.heap.size,0,none⟩,v.sh,false,0,0⟩
  have hNn:N id=none:=by
   cases e:N id with
   |none=>rfl
   |some nm'=>exact absurd hfree (S.named id nm' e)
  obtain⟨N',n1,n2,n3⟩:=S.make (w':=w.alloc (.cells cells ty)) (o:= .var v) (nm:=nm) hfree rfl rfl rfl (by rw[hheap];simp) hother (fun a ha=>by cases ha;rw[hheap];simp) (by
   refine⟨nm,⟨w.heap.size,0,none⟩,Nm_.up_at,rfl,rfl,rfl,rfl,rfl,S.size,fun hd=>Nat.lt_irrefl _ (S.frozen _ hd),⟨cells,ty,hnew,hsz⟩,?_⟩
   refine RelAt_mono (Nm_.le_new hNn) (fun _ h=>h) (fun b hb=>hother b (S.frozen b hb)) v _ (Rc_ v _ _ (fun j hj=>?_) hr)
   ·unfold cA World.cell?
    rw[hnew]
    simp)
  refine⟨N',by rw[St.set_h];exact n2,by rw[St.set_h];exact n3,Vp.2 ⟨nm,_,0,n1,rfl,by simp[Nm.off,nm,oS],rfl⟩⟩
 ·cases h
theorem name_new (ep slot:Nat):name ep slot 0/100=ep*1000+slot:=by
 unfold name;omega
theorem fine_box {dst ty pos after guard}{t:TypeId}{x:Operand}{st:St}{id:Nat}(hid:id=name st.ep (dst.getD 999) 0){k:AV→St→Option α}{r:α}(h:opBox st id (st.ev x) k=some r):Fine P base ⟨dst, .box t x,ty,pos,after,guard⟩ st k r:=by
 unfold opBox at h
 split at h
 ·rename_i hs
  obtain⟨s',h1,h2,h3,h4,hfr,h5⟩:=new_var h
  refine⟨_,_,h1,h2,h3,h4,fun j _ hj=>hfr j (fun e=>by subst e;subst hid;simp[inNew,makes,name_new] at hj),fun N D w a s=>?_⟩
  obtain⟨g1,g2,_⟩:=VRel_cells hs (s.ev' x)
  obtain⟨N',n1,n2,n3⟩:=h5 N D w base s.sim _ t g1 g2
  exact⟨N',D,_,_, .inl (by simp only[execOp,Instr.box,newVar,newRow,Sem.run_bind,run_newObj,Result.andThen_ok,Sem.run_pure];rfl),n2,n1,n3⟩
 ·cases h
theorem veq_eq: ∀{x y:Value},veq x y=true→x=y:=by
 intro x y h
 unfold veq at h
 split at h<;>first
  |(simp only[Bool.and_eq_true,decide_eq_true_eq] at h;rw[h.1,h.2])
  |(simp at h;rw[h])
  |rfl
  |(rename_i a b;have:a.data.toList=b.data.toList:=(by simpa using h);congr 1;cases a;cases b;congr 1;exact Array.toList_inj.1 this)
  |(cases h;done)
theorem veqs_eq: ∀{l m:List Value},veqs l m=true→l=m
 | [],[],_=>rfl
 | [],_::_,h=>by simp[veqs] at h
 |_::_,[],h=>by simp[veqs] at h
 |x::xs,y::ys,h=>by
  simp only[veqs,Bool.and_eq_true] at h
  rw[veq_eq h.1,veqs_eq h.2]
end AM
namespace AM
open Go
variable {α:Type}{P:Program}{base:Nat}
theorem flatMap_replicate {β γ:Type}(f:β→List γ)(x:β)(s:Nat)(hs:(f x).length=s): ∀n i j,i<n→j<s→((List.replicate n x).flatMap f)[i*s+j]?=(f x)[j]?
 |0,i,j,h,_=>by omega
 |n+1,0,j,_,hj=>by
  simp only[List.replicate_succ,List.flatMap_cons,Nat.zero_mul,Nat.zero_add]
  rw[List.getElem?_append_left (by omega)]
 |n+1,i+1,j,hi,hj=>by
  simp only[List.replicate_succ,List.flatMap_cons]
  rw[List.getElem?_append_right (by rw[hs,Nat.add_mul];omega)]
  rw[show(i+1)*s+j-(f x).length=i*s+j by rw[hs,Nat.add_mul];omega]
  exact flatMap_replicate f x s hs n i j (by omega) hj
theorem flatMap_replicate_len {β γ:Type}(f:β→List γ)(x:β): ∀n,((List.replicate n x).flatMap f).length=n*(f x).length
 |0=>by simp
 |n+1=>by simp[List.replicate_succ,List.flatMap_cons,flatMap_replicate_len f x n,Nat.add_mul,Nat.add_comm]
theorem zeroD_len: ∀t:Ty,(flatD t (zeroD t)).length=t.size
 | .int _=>rfl| .bool=>rfl| .str=>rfl| .nil=>rfl| .deep _=>rfl| .ref _=>rfl
 | .cons a b=>by simp only[flatD,zeroD,List.length_append,Ty.size,zeroD_len a,zeroD_len b]
 | .arr n t=>by
  have:=flatMap_replicate_len (flatD t) (zeroD t) n
  rw[zeroD_len t] at this
  exact this
theorem zeroD_rel {N:Nm_}{D:Nat→Prop}{w:World}: ∀(t:Ty) (g:Nat→Option Value),(∀j,j<t.size→g j=(flatD t (zeroD t))[j]?)→TRel N D w t (zeroD t) g
 | .int k,g,h=>h 0 (by simp[Ty.size])
 | .bool,g,h=>h 0 (by simp[Ty.size])
 | .str,g,h=>h 0 (by simp[Ty.size])
 | .nil,g,h=>trivial
 | .deep t,g,h=>⟨none,0,h 0 (by simp[Ty.size]),Nat.le_refl _,fun _=>rfl,fun ad ha=>by cases ha⟩
 | .ref _,g,h=>h 0 (by simp[Ty.size])
 | .cons a b,g,h=>by
  refine⟨zeroD_rel a g fun j hj=>?_,zeroD_rel b _ fun j hj=>?_⟩
  ·rw[h j (by simp only[Ty.size];omega)]
   have e:=List.getElem?_append_left (l₁:=flatD a (zeroD a)) (l₂:=flatD b (zeroD b)) (i:=j) (by rw[zeroD_len];exact hj)
   exact e
  ·rw[h _ (by simp only[Ty.size];omega)]
   have:=List.getElem?_append_right (l₁:=flatD a (zeroD a)) (l₂:=flatD b (zeroD b)) (i:=a.size+j) (by rw[zeroD_len];omega)
   rw[zeroD_len,Nat.add_sub_cancel_left] at this
   exact this
 | .arr n t,g,h=>by
  refine⟨List.length_replicate,fun i x hx=>?_⟩
  have hi:i<n:=by
   have:=(List.getElem?_eq_some_iff.1 hx).1
   simpa [zeroD] using this
  have hx':x=zeroD t:=by
   have h2:(List.replicate n (zeroD t))[i]?=some x:=hx
   rw[List.getElem?_replicate,if_pos hi] at h2
   exact(Option.some.inj h2).symm
  subst hx'
  refine zeroD_rel t _ fun j hj=>?_
  have hb:(i+1)*t.size≤n*t.size:=Nat.mul_le_mul_right _ hi
  rw[Nat.add_mul] at hb
  rw[h _ (by simp only[Ty.size];omega)]
  exact flatMap_replicate (flatD t) (zeroD t) t.size (zeroD_len t) n i j hi hj
theorem flatV_agg (fs:List AV):flatV (.agg fs)=flatVs fs:=by simp[flatV]
theorem tyOf_size:True:=trivial
def ZeroLike (v:AV):Prop:=(flatV v).length=v.size∧∀(N:Nm_) (D:Nat→Prop) (w:World) (g:Nat→Option Value),(∀j,j<v.size→g j=(flatV v)[j]?)→RA N D w v g
theorem ZeroLike.val (x:Value):ZeroLike (.val x):=⟨rfl,fun N D w g h=>by simp only[RA];exact h 0 (by simp[AV.size])⟩
def ZeroLikes (l:List AV):Prop:=(flatVs l).length=AV.sizes l∧∀(N:Nm_) (D:Nat→Prop) (w:World) (g:Nat→Option Value),(∀j,j<AV.sizes l→g j=(flatVs l)[j]?)→RL N D w l g
theorem ZeroLikes.cons {v:AV}{l:List AV}(h1:ZeroLike v)(h2:ZeroLikes l):ZeroLikes (v::l):=by
 refine⟨by simp only[flatVs,List.length_append,AV.sizes,h1.1,h2.1],fun N D w g h=>?_⟩
 simp only[RL]
 refine⟨h1.2 N D w g fun j hj=>?_,h2.2 N D w _ fun j hj=>?_⟩
 ·rw[h j (by simp only[AV.sizes];omega)]
  simp only[flatVs]
  exact List.getElem?_append_left (by rw[h1.1];exact hj)
 ·rw[h _ (by simp only[AV.sizes];omega)]
  have:=List.getElem?_append_right (l₁:=flatV v) (l₂:=flatVs l) (i:=v.size+j) (by rw[h1.1];omega)
  rw[h1.1,Nat.add_sub_cancel_left] at this
  simpa only[flatVs] using this
theorem zeroOf_like: ∀(n:Nat) (t:TypeId) (v:AV),zeroOf P n t=some v→ZeroLike v
 |0,_,_,h=>by simp[zeroOf] at h
 |n+1,t,v,h=>by
  unfold zeroOf at h
  split at h<;>first
   |(simp only[Option.some.injEq] at h;subst h;exact ZeroLike.val _)
   |skip
  ·rename_i fs _
   have key: ∀(l:List Field) (vs:List AV),l.foldr (fun f acc=>match zeroOf P n f.type,acc with|some a,some b=>some (a::b)|_,_=>none) (some [])=some vs→ZeroLikes vs:=by
    intro l
    induction l with
    |nil=>intro vs h;simp only[List.foldr_nil,Option.some.injEq] at h;subst h;exact⟨rfl,fun _ _ _ _ _=>by simp only[RL]⟩
    |cons f l ih=>
     intro vs h
     simp only[List.foldr_cons] at h
     split at h
     ·rename_i a b h1 h2
      simp only[Option.some.injEq] at h;subst h
      exact ZeroLikes.cons (zeroOf_like n _ _ h1) (ih _ h2)
     ·cases h
   simp only[Option.map_eq_some_iff] at h
   obtain⟨vs,h1,rfl⟩:=h
   obtain⟨h2,h3⟩:=key _ _ h1
   exact⟨by simpa [flatV,AV.size] using h2,fun N D w g hg=>by simp only[RA];exact h3 N D w g (fun j hj=>by rw[hg j (by simpa [AV.size] using hj),flatV_agg])⟩
  ·rename_i m e _
   split at h
   ·simp only[Option.some.injEq] at h
    subst h
    have key: ∀m,ZeroLikes (List.replicate m (.val (.slice none 0 0))):=by
     intro m
     induction m with
     |zero=>exact⟨rfl,fun _ _ _ _ _=>by simp only[List.replicate,RL]⟩
     |succ m ih=>exact ZeroLikes.cons (ZeroLike.val _) ih
    obtain⟨h2,h3⟩:=key m
    exact⟨by simpa [flatV,AV.size] using h2,fun N D w g hg=>by simp only[RA];exact h3 N D w g (fun j hj=>by rw[hg j (by simpa [AV.size] using hj),flatV_agg])⟩
   simp only[Option.map_eq_some_iff] at h
   obtain⟨te,_,rfl⟩:=h
   refine⟨?_,fun N D w g hg=>?_⟩
   ·have:=zeroD_len (.arr m te)
    simpa only[flatV,AV.size,Ty.size,flatD,zeroD] using this
   ·simp only[RA]
    refine zeroD_rel (.arr m te) g fun j hj=>?_
    rw[hg j (by simpa only[AV.size,Ty.size] using hj)]
    simp only[flatV,flatD,zeroD]
  ·cases h
theorem zeroV_spec {t:TypeId}{k:AV→Option α}{r:α}(h:zeroV P t k=some r): ∃v i z,k v=some r∧P.info? t=some i∧i.zero=some z∧zeroOf P 12 t=some v∧z.cells.toList=flatV v∧z.cells.size=v.size∧∀N D w,RA N D w v (z.cells[·]?):=by
 unfold zeroV at h
 split at h
 ·rename_i z v hz hv
  split at h
  ·rename_i hq
   obtain⟨i,hi,hz'⟩:=Option.bind_eq_some_iff.1 hz
   have e:=veqs_eq hq
   obtain⟨l1,l2⟩:=zeroOf_like 12 t v hv
   refine⟨v,i,z,h,hi,hz',hv,e,by rw[←l1,←e];simp,fun N D w=>l2 N D w _ fun j hj=>?_⟩
   rw[←e];simp
  ·cases h
 ·cases h
theorem fine_alloc {dst ty pos after guard}{t:TypeId}{st:St}{id:Nat}(hid:id=name st.ep (dst.getD 999) 0){k:AV→St→Option α}{r:α}(h:opAlloc P st id t k=some r):Fine P base ⟨dst, .alloc t,ty,pos,after,guard⟩ st k r:=by
 unfold opAlloc at h
 obtain⟨v,i,z,h,hi,hz,_,_,g1,g2⟩:=zeroV_spec h
 obtain⟨s',h1,h2,h3,h4,hfr,h5⟩:=new_var h
 refine⟨_,_,h1,h2,h3,h4,fun j _ hj=>hfr j (fun e=>by subst e;subst hid;simp[inNew,makes,name_new] at hj),fun N D w a s=>?_⟩
 obtain⟨N',n1,n2,n3⟩:=h5 N D w base s.sim _ t g1 (g2 N D w)
 exact⟨N',D,_,_, .inl (by simp only[execOp,Instr.alloc,newVar,newRow,zeroValue,typeInfo,Sem.run_bind,run_newObj,Result.andThen_ok,Sem.run_pure];simp[hi,hz]),n2,n1,n3⟩
theorem fine_move {dst ty pos after guard}{x:Operand}{st:St}{k:AV→St→Option α}{r:α}(h:k (st.ev x) st=some r):Fine P base ⟨dst, .move x,ty,pos,after,guard⟩ st k r:=
 ⟨_,_,h,OpOK.pure fun N D w a s=>⟨a.eval x,by simp only[execOp,Sem.run_pure],s.ev' x⟩⟩
theorem fine_assign {dst ty pos after guard}{x:Operand}{st:St}{k:AV→St→Option α}{r:α}(h:k (st.ev x) st=some r):Fine P base ⟨dst, .assign x,ty,pos,after,guard⟩ st k r:=
 ⟨_,_,h,OpOK.pure fun N D w a s=>⟨a.eval x,by simp only[execOp,Sem.run_pure],s.ev' x⟩⟩
theorem fine_nilCheck {dst ty pos after guard}{x:Operand}{st:St}{k:AV→St→Option α}{r:α}(h:(match st.ev x with| .ptr i p=>k (.ptr i p) st| .rptr v=>k (.rptr v) st| .rf g n c=>(match odec (n=0) with|true=>none|false=>k (.rf g n c) st)|_=>none)=some r):Fine P base ⟨dst, .nilCheck x,ty,pos,after,guard⟩ st k r:=by
 split at h
 ·rename_i i p e1
  refine⟨_,_,h,OpOK.pure fun N D w a s=>?_⟩
  have hv:=s.evr e1
  obtain⟨nm,ad,o,h1,h2,h3,h4⟩:=Vp.1 hv
  exact⟨a.eval x,by simp only[execOp,h4,Sem.run_pure],hv⟩
 ·rename_i v e1
  refine⟨_,_,h,OpOK.pure fun N D w a s=>?_⟩
  have hv:=s.evr e1
  obtain⟨ad,h1,_⟩:=VRel_rptr.1 hv
  exact⟨a.eval x,by simp only[execOp,h1,Sem.run_pure],hv⟩
 ·rename_i g n c e1
  split at h
  ·cases h
  ·rename_i hn
   refine⟨_,_,h,OpOK.pure fun N D w a s=>?_⟩
   have hv:=s.evr e1
   rcases VRel_rf hv with⟨h1,_⟩|⟨_,ad,h1⟩
   ·rw[odec_iff.2 h1] at hn;cases hn
   ·exact⟨a.eval x,by simp only[execOp,h1,Sem.run_pure],hv⟩
 ·cases h
theorem fine_pick {dst ty pos after guard}{c x y:Operand}{st:St}{k:AV→St→Option α}{r:α}(h:(match st.ev c with| .val (.bool t)=>(match t with|true=>k (st.ev x) st|false=>k (st.ev y) st)|_=>none)=some r):Fine P base ⟨dst, .pick c x y,ty,pos,after,guard⟩ st k r:=by
 split at h
 ·rename_i t e1
  cases t with
  |true=>exact⟨_,_,h,OpOK.pure fun N D w a s=>⟨a.eval x,by simp[execOp,s.evv e1,asBool],s.ev' x⟩⟩
  |false=>exact⟨_,_,h,OpOK.pure fun N D w a s=>⟨a.eval y,by simp[execOp,s.evv e1,asBool],s.ev' y⟩⟩
 ·cases h
theorem fine_unOp {dst ty pos after guard}{op:UnOp}{t:TypeId}{x:Operand}{st:St}{k:AV→St→Option α}{r:α}(h:(match op,st.ev x with
  | .not, .val (.bool b)=>k (.val (.bool (!b))) st
  | .neg, .val (.int ki n)=>k (.val (.int ki (wr ki (0-n)))) st
  | .xor, .val (.int ki n)=>k (.val (.int ki (bxor ki (ones ki) n))) st
  |_,_=>none)=some r):Fine P base ⟨dst, .unOp op t x,ty,pos,after,guard⟩ st k r:=by
 split at h
 ·rename_i b e1
  exact⟨_,_,h,OpOK.pure fun N D w a s=>⟨_,by simp[execOp,s.evv e1,Op.unary];first|rfl|done,Vv.2 rfl⟩⟩
 ·rename_i ki n e1
  exact⟨_,_,h,OpOK.pure fun N D w a s=>⟨_,by simp[execOp,s.evv e1,Op.unary,Op.intArith];first|rfl|done,Vv.2 (by simp[wr_eq])⟩⟩
 ·rename_i ki n e1
  exact⟨_,_,h,OpOK.pure fun N D w a s=>⟨_,by simp[execOp,s.evv e1,Op.unary,Op.intBits];first|rfl|done,Vv.2 (by simp[bxor,ones,wr_eq])⟩⟩
 ·cases h
theorem fine_extract {dst ty pos after guard}{x:Operand}{i:Nat}{st:St}{k:AV→St→Option α}{r:α}(h:(match st.ev x with| .tup vs=>(match vs[i]? with|some v=>k v st|none=>none)|_=>none)=some r):Fine P base ⟨dst, .extract x i,ty,pos,after,guard⟩ st k r:=by
 split at h
 ·rename_i vs e1
  split at h
  ·rename_i v hv
   refine⟨_,_,h,OpOK.pure fun N D w a s=>?_⟩
   obtain⟨cs,h1,h2⟩:=VRel_tup.1 (s.evr e1)
   obtain⟨c,h3,h4⟩:=RelEach_get vs _ i v h2 hv
   refine⟨c,?_,h4⟩
   have h5:cs[i]?=some c:=by simpa using h3
   simp[execOp,h1,Instr.extract,h5]
  ·cases h
 ·cases h
theorem RelEach_map {N:Nm_}{D:Nat→Prop}{w:World}{st:St}{a:Act}(s:SRel N D w base st a): ∀l:List Operand,RE N D w (l.map st.ev) (l.map a.eval)
 | []=>by simp[RE]
 |x::xs=>by
  simp only[List.map_cons,RE]
  exact⟨_,_,rfl,s.ev' x,RelEach_map s xs⟩
theorem fine_makeFunc {dst ty pos after guard}{fn:Fn}{first captured:Array Operand}{st:St}{k:AV→St→Option α}{r:α}(h:(match first.size,captured.size with|0,_=>k (.clo fn (captured.toList.map st.ev)) st|_,0=>k (.bnd fn (first.toList.map st.ev)) st|_,_=>none)=some r):Fine P base ⟨dst, .makeFunc fn first captured,ty,pos,after,guard⟩ st k r:=by
 split at h
 ·rename_i h0
  refine⟨_,_,h,OpOK.pure fun N D w a s=>⟨.func fn #[] (captured.map a.eval),?_,?_⟩⟩
  ·have:first= #[]:=Array.eq_empty_of_size_eq_zero h0
   subst this
   simp[execOp,Instr.makeFunc]
  ·unfold VRel
   simp only[AV.isAgg,vrel,RA]
   refine⟨_,rfl,?_⟩
   have:=RelEach_map s captured.toList
   simpa using this
 ·rename_i h0 _
  refine⟨_,_,h,OpOK.pure fun N D w a s=>⟨.func fn (first.map a.eval) #[],?_,?_⟩⟩
  ·have:captured= #[]:=Array.eq_empty_of_size_eq_zero h0
   subst this
   simp[execOp,Instr.makeFunc]
  ·unfold VRel
   simp only[AV.isAgg,vrel,RA]
   refine⟨_,rfl,?_⟩
   have:=RelEach_map s first.toList
   simpa using this
 ·cases h
end AM
namespace AM
open Go
variable {α:Type}{P:Program}{base:Nat}
theorem part_run {N:Nm_}{D:Nat→Prop}{w:World}{t:TypeId}{v:AV}{cs:Array Value}{off:Nat}(hf:fitsT P t v=true)(hr:RA N D w v (fun j=>cs[off+j]?)): ∃c,(part t cs off).run P w= .ok c w∧VRel N D w v c:=by
 obtain⟨hs,h1,h2,d,hd⟩:=fitsT_spec hf
 obtain⟨i,hi⟩:=info_of_underlying hd
 have hisagg:(isAgg t).run P w= .ok (isAggT P t) w:=by
  simp only[isAgg,Sem.run_bind,run_underlying hd,Result.andThen_ok,isAggT,hd]
  cases d<;>rfl
 have hc:=solid_cells v _ hs hr
 cases hag:v.isAgg with
 |true=>
  refine⟨.agg (cs.extract off (off+v.size)),?_,?_⟩
  ·simp only[part,Sem.run_bind,hisagg,Result.andThen_ok,←h1,hag,if_true,run_sizeOf w hi,Sem.run_pure,h2]
  ·unfold VRel;rw[hag]
   have hle:v.size=0∨off+v.size≤cs.size:=by
    by_cases e:v.size=0
    ·exact .inl e
    ·obtain⟨c,h3,_⟩:=hc (v.size-1) (by omega)
     have:=(Array.getElem?_eq_some_iff.1 h3).1
     right;omega
   refine⟨_,rfl,by simp;omega,Rc_ v _ _ (fun j hj=>?_) hr⟩
   simp[Array.getElem?_extract]
   intro hh;omega
 |false=>
  obtain⟨c,h3,_⟩:=hc 0 (by rw[not_agg_size hs hag];omega)
  simp only[Nat.add_zero] at h3
  refine⟨c,by simp[part,hisagg,←h1,hag,h3],?_⟩
  unfold VRel;rw[hag]
  refine Rc_ v _ _ (fun j hj=>?_) hr
  rw[not_agg_size hs hag] at hj
  obtain rfl:j=0:=by omega
  exact h3
theorem fitsF_spec {t:TypeId}{f:Nat}{v:AV}(h:fitsF P t f v=true): ∃fs fd,P.underlying t=some (.struct fs)∧fs[f]?=some fd∧fitsT P fd.type v=true:=by
 unfold fitsF at h
 split at h
 ·rename_i fs hu
  split at h
  ·rename_i fd hf
   exact⟨fs,fd,hu,hf,h⟩
  ·cases h
 ·cases h
theorem fine_field {dst ty pos after guard}{t:TypeId}{x:Operand}{f:Nat}{st:St}{k:AV→St→Option α}{r:α}(h:opField P st t (st.ev x) f k=some r):Fine P base ⟨dst, .field t x f,ty,pos,after,guard⟩ st k r:=by
 unfold opField at h
 split at h
 ·rename_i fs off e1 e2
  split at h
  ·rename_i hd
   simp only[decide_eq_true_eq] at hd
   split at h
   ·rename_i v hv
    split at h
    ·rename_i hfit
     refine⟨_,_,h,OpOK.pure fun N D w a s=>?_⟩
     obtain⟨cells,h1,h2,h3⟩:=VRel_agg.1 (s.evr e1)
     obtain⟨fs',fd,hu,hf,hft⟩:=fitsF_spec hfit
     obtain⟨fs2,fd2,hu2,hf2,_,ho⟩:=fieldOff_spec e2
     rw[hu] at hu2;cases hu2
     rw[hf] at hf2;cases hf2
     have:=RelAll_take fs f v _ hv h3
     rw[hd] at this
     subst ho
     obtain⟨c,h4,h5⟩:=part_run (P:=P) hft this
     refine⟨c,?_,h5⟩
     simp only[execOp,h1,Instr.field,Sem.run_bind,run_underlying hu,Result.andThen_ok,hf,asAgg,Sem.run_pure,h4]
    ·cases h
   ·cases h
  ·cases h
 ·cases h
theorem nat?_spec {x:AV}{k:Int→Option α}{r:α}(h:nat? x k=some r): ∃ki n,x= .val (.int ki n)∧k n=some r:=by
 unfold nat? at h
 split at h
 ·exact⟨_,_,rfl,h⟩
 ·cases h
theorem isSlOf_spec {t:TypeId}{n:Nat}(h:isSlOf P t n=true): ∃e i,P.underlying t=some (.slice e)∧P.info? e=some i∧P.cellsOf e=n:=by
 unfold isSlOf at h
 split at h
 ·rename_i e hu
  simp only[Bool.and_eq_true,decide_eq_true_eq] at h
  obtain⟨i,hi⟩:=Option.isSome_iff_exists.1 h.1
  exact⟨e,i,hu,hi,h.2⟩
 ·cases h
theorem isArOf_spec {t:TypeId}{m n:Nat}(h:isArOf P t m n=true): ∃e i,P.underlying t=some (.array m e)∧P.info? e=some i∧P.cellsOf e=n:=by
 unfold isArOf at h
 split at h
 ·rename_i m' e hu
  simp only[Bool.and_eq_true,decide_eq_true_eq] at h
  obtain⟨i,hi⟩:=Option.isSome_iff_exists.1 h.1.1
  exact⟨e,i,by rw[hu,h.1.2],hi,h.2⟩
 ·cases h
theorem indexAt_sl {t e:TypeId}{i:TypeInfo}(hu:P.underlying t=some (.slice e))(hi:P.info? e=some i){k:IntKind}{n:Int}{a:Addr}{len cap:Nat}(h0:0≤n)(h1:n<len)(w:World):
  (Instr.indexAt t (.slice (some a) len cap) (.int k n)).run P w= .ok (.pointer (some (a.add (n.toNat*P.cellsOf e)))) w:=by
 simp[Instr.indexAt,asIntOf,run_underlying hu,h0,h1,run_sizeOf w hi]
theorem indexAt_ar {t e:TypeId}{m:Nat}{i:TypeInfo}(hu:P.underlying t=some (.array m e))(hi:P.info? e=some i){k:IntKind}{n:Int}{a:Addr}(h0:0≤n)(h1:n<m)(w:World):
  (Instr.indexAt t (.pointer (some a)) (.int k n)).run P w= .ok (.pointer (some (a.add (n.toNat*P.cellsOf e)))) w:=by
 simp[Instr.indexAt,asIntOf,run_underlying hu,h0,h1,run_sizeOf w hi,Instr.sureAddr]
theorem off_snoc_idx {nm:Nm}{p:List Step}{o m i:Nat}{e:Sh}(h1:nm.off p=some o)(h2:nm.shp p=some (.arr m e))(h3:i<m):
  nm.off (p++ [.idx i])=some (o+i*e.size):=by
 cases hr:nm.row with
 |false=>
  simp only[Nm.shp,hr] at h2
  have e': ∀p,nm.off p=oS p nm.sh:=by intro p;unfold Nm.off;split<;>simp[hr]
  rw[e'] at h1⊢
  exact offSh_snoc_idx p _ o m i e h1 h2 h3
 |true=>
  simp only[Nm.shp,hr,if_true] at h2
  split at h2
  ·rename_i j p'
   simp only[Nm.off,hr,if_true,List.cons_append] at h1⊢
   by_cases hi:j<nm.len
   ·simp only[hi,if_true] at h1⊢
    cases h5:oS p' nm.sh with
    |none=>simp[h5] at h1
    |some o2=>
     simp only[h5,Option.map_some,Option.some.injEq] at h1
     rw[offSh_snoc_idx p' _ o2 m i e h5 h2 h3]
     simp only[Option.map_some];congr 1;omega
   ·simp only[hi,if_false] at h1;cases h1
  ·cases h2
theorem at_add (b:Addr)(n m:Nat):(Addr.at_ b n).add m=Addr.at_ b (n+m):=by
 simp only[Addr.at_,addr_add,Nat.add_assoc]
theorem slAt_pos {ad:Addr}{len room:Nat}{v:Value}(h:SlAt ad len room v)(hl:0<len):v= .slice (some ad) len room:=by
 obtain⟨a,cap,rfl,h2,h3,h4⟩:=h
 rcases h4 with h4|h4
 ·rw[h4,h3]
 ·omega
end AM
namespace AM
open Go
variable {α:Type}{P:Program}{base:Nat}
theorem oM {p:Prop}{z:Option α}{r:α}(h:(match odec p with|true=>z|false=>none)=some r):p∧z=some r:=by
 split at h
 ·exact⟨odec_iff.1 ‹_›,h⟩
 ·cases h
theorem bM {b:Bool}{z:Option α}{r:α}(h:(match b with|false=>none|true=>z)=some r):b=true∧z=some r:=by
 cases b with
 |true=>exact⟨rfl,h⟩
 |false=>cases h
theorem pickN_spec {i:Int}{k:Nat→Option α}{r:α}: ∀{f j:Nat},pickN i k f j=some r→∃m,j≤m∧m<j+f∧i=m∧k m=some r
 |0,j,h=>by simp[pickN] at h
 |f+1,j,h=>by
  unfold pickN at h
  split at h
  ·exact⟨j,Nat.le_refl _,by omega,odec_iff.1 ‹_›,h⟩
  ·obtain⟨m,h1,h2,h3⟩:=pickN_spec h
   exact⟨m,by omega,by omega,h3⟩
theorem even_take {n:Nat}: ∀{l:List Sh},evenSh l n=true→∀{j:Nat},j≤l.length→Sh.sizes (l.take j)=j*n
 | [],_,j,hj=>by simp at hj;subst hj;simp[Sh.sizes]
 |e::l,h,0,_=>by simp[Sh.sizes]
 |e::l,h,j+1,hj=>by
  have h':e.size=n∧evenSh l n=true:=by simpa [evenSh] using h
  have ih:=even_take h'.2 (j:=j) (by simpa using hj)
  simp only[List.take_succ_cons,Sh.sizes,ih,h'.1,Nat.add_mul]
  omega
theorem slSize_spec {s:St}{id:Nat}{p:List Step}{n:Nat}(h:slSize s id p=some n){N:Nm_}{D:Nat→Prop}{w:World}{base:Nat}(S:Sim N D w base s.h){nm:Nm}(hn:N id=some nm):
  ((nm.row&&p.isEmpty)=true∧nm.sh.size=n)∨(¬(nm.row&&p.isEmpty)=true∧∃m e,nm.shp p=some (.arr m e)∧e.size=n):=by
 unfold slSize at h
 split at h
 ·rename_i ro te xs ho
  obtain⟨nm',h1,h2,h3,_⟩:=S.obj id _ ho
  rw[hn] at h1;cases h1
  left
  refine⟨by simp[h2],?_⟩
  rw[h3,tS_];exact Option.some.inj h
 ·rename_i hp
  split at h
  ·rename_i m e hs
   right
   refine⟨?_,m,e,shape_sound hs S hn,Option.some.inj h⟩
   cases hrow:nm.row with
   |false=>simp
   |true=>
    have hsh:=shape_sound hs S hn
    intro hp2
    simp only[Bool.true_and,List.isEmpty_iff] at hp2
    rw[hp2] at hsh
    simp[Nm.shp,hrow] at hsh
  ·cases h
theorem fine_indexAddr {dst ty pos after guard}{t:TypeId}{x ix:Operand}{st:St}{k:AV→St→Option α}{r:α}(h:opIndexAddr P st t (st.ev x) (st.ev ix) k=some r):Fine P base ⟨dst, .indexAddr t x ix,ty,pos,after,guard⟩ st k r:=by
 unfold opIndexAddr at h
 obtain⟨ki,n,ei,h⟩:=nat?_spec h
 split at h
 ·rename_i te xs e1
  replace h:=bM h;obtain⟨hsl,h⟩:=h
  replace h:=oM h;obtain⟨h0,h⟩:=h
  split at h
  ·rename_i y hy
   obtain⟨e,i,hu,hi,hsz⟩:=isSlOf_spec hsl
   refine⟨_,_,h,OpOK.pure fun N D w a s=>?_⟩
   obtain⟨ba,cap,g1,g2,g3,g4⟩:=VRel_dp.1 (s.evr e1)
   simp only[Option.some.injEq] at g1
   have hlt:n.toNat<llen (β:=te.den) xs:=(List.getElem?_eq_some_iff.1 hy).1
   cases ba with
   |none=>have:=g3 rfl;omega
   |some ba=>
    obtain⟨f1,f2,f3⟩:=g4 ba rfl (by omega)
    obtain⟨b,o,sp⟩:=ba
    simp only at f1;subst f1
    refine⟨.pointer (some ⟨b,o+n.toNat*te.size,none⟩),?_,VRel_rptr.2 ⟨_,rfl,rfl,f2,?_⟩⟩
    ·simp only[execOp,s.evv ei,g1,Sem.run_bind,indexAt_sl hu hi h0 (show n<(llen (β:=te.den) xs:Int) by omega),Result.andThen_ok,Sem.run_pure,addr_add,hsz]
    ·rw[enc_rel]
     have e2:(fun j=>cA w ⟨b,o,none⟩ (n.toNat*te.size+j))=cA w ⟨b,o+n.toNat*te.size,none⟩:=by
      funext j;simp only[cA,Nat.add_assoc]
     rw[←e2];exact f3 n.toNat y hy
  ·cases h
 ·rename_i id off e1
  split at h
  ·rename_i ro te xs ho
   replace h:=bM h;obtain⟨hsl,h⟩:=h
   replace h:=oM h;obtain⟨h0,h⟩:=h
   obtain⟨e,i,hu,hi,hsz⟩:=isSlOf_spec hsl
   refine⟨_,_,h,OpOK.pure fun N D w a s=>?_⟩
   have hv:=s.evr e1
   unfold VRel at hv
   simp only[AV.isAgg,vrel,RA] at hv
   obtain⟨nm,g1,g2,g3,g4,g5⟩:=hv
   obtain⟨nm',h1,h2,h3,h4,_⟩:=s.sim.obj id _ ho
   rw[g1] at h1;cases h1
   cases hb:nm.base with
   |none=>rw[hb] at g5;obtain⟨g5,_⟩:=g5;exfalso;have:=h0.2;simp only[llen] at h4;omega
   |some ba=>
    rw[hb] at g5
    obtain⟨v,room,g6,g7,g8⟩:=g5
    simp only[Option.some.injEq] at g6
    have hlt:n<((nm.len-off:Nat):Int):=by rw[h4];exact h0.2
    have e3:=slAt_pos g8 (by omega)
    rw[e3] at g6
    refine⟨.pointer (some (Addr.at_ ba (off*nm.sh.size+n.toNat*te.size))),?_,Vp.2 ⟨nm,ba,_,g1,hb,?_,rfl⟩⟩
    ·simp only[execOp,s.evv ei,g6,Sem.run_bind,indexAt_sl hu hi h0.1 hlt,Result.andThen_ok,Sem.run_pure,at_add,hsz]
    ·simp only[Nm.off,g2,if_true]
     rw[if_pos (by omega),h3,tS_]
     simp only[oS,Option.map_some,Option.some.injEq,Nat.add_zero]
     rw[←Nat.add_mul,Nat.add_comm]
  ·cases h
 ·rename_i id p off len e1
  split at h
  ·rename_i m hsz1
   replace h:=bM h;obtain⟨hsl,h⟩:=h
   replace h:=oM h;obtain⟨h0,h⟩:=h
   obtain⟨e,i,hu,hi,hsz⟩:=isSlOf_spec hsl
   refine⟨_,_,h,OpOK.pure fun N D w a s=>?_⟩
   have hv:=s.evr e1
   unfold VRel at hv
   simp only[AV.isAgg,vrel,RA] at hv
   obtain⟨nm,g1,g3⟩:=hv
   cases g2:nm.base with
   |none=>rw[g2] at g3;obtain⟨_,_,rfl,_⟩:=g3;omega
   |some ba=>
   rw[g2] at g3
   simp only at g3
   rcases slSize_spec hsz1 s.sim g1 with⟨hp,hsz2⟩|⟨hp,m',e',hsz2,hsz3⟩
   ·rw[if_pos hp] at g3
    simp only[Bool.and_eq_true,List.isEmpty_iff] at hp
    obtain⟨hrow,rfl⟩:=hp
    obtain⟨g4,g5,v,room,g6,g7,g8,g9⟩:=g3
    simp only[Option.some.injEq] at g6
    have e3:=slAt_pos g9 (by omega)
    rw[e3] at g6
    refine⟨.pointer (some (Addr.at_ ba (off*nm.sh.size+n.toNat*nm.sh.size))),?_,Vp.2 ⟨nm,ba,_,g1,g2,?_,rfl⟩⟩
    ·simp only[execOp,s.evv ei,g6,Sem.run_bind,indexAt_sl hu hi h0.1 h0.2,Result.andThen_ok,Sem.run_pure,at_add,hsz,hsz2]
    ·simp only[Nm.off,hrow,if_true,List.nil_append]
     rw[if_pos (by omega)]
     simp only[oS,Option.map_some,Option.some.injEq,Nat.add_zero]
     rw[←Nat.add_mul,Nat.add_comm]
   ·rw[if_neg hp] at g3
    obtain⟨o,m2,e2,v,room,g4,hshp,g7,g8,g9,g10⟩:=g3
    simp only[Option.some.injEq] at g8
    have e3:=slAt_pos g10 (by omega)
    rw[e3] at g8
    rw[hshp] at hsz2;cases hsz2
    refine⟨.pointer (some (Addr.at_ ba (o+off*e'.size+n.toNat*e'.size))),?_,Vp.2 ⟨nm,ba,_,g1,g2,off_snoc_idx g4 hshp (show n.toNat+off<m' by omega),?_⟩⟩
    ·simp only[execOp,s.evv ei,g8,Sem.run_bind,indexAt_sl hu hi h0.1 h0.2,Result.andThen_ok,Sem.run_pure,at_add,hsz,hsz3]
    ·rw[Nat.add_mul,Nat.add_assoc,Nat.add_comm (n.toNat*e'.size)]
  ·cases h
 ·rename_i id p e1
  split at h
  ·rename_i m e' hs
   replace h:=bM h;obtain⟨hsl,h⟩:=h
   replace h:=oM h;obtain⟨h0,h⟩:=h
   obtain⟨e,i,hu,hi,hsz⟩:=isArOf_spec hsl
   refine⟨_,_,h,OpOK.pure fun N D w a s=>?_⟩
   obtain⟨nm,ad,o,h1,h2,h3,h4⟩:=Vp.1 (s.evr e1)
   refine⟨.pointer (some (Addr.at_ ad (o+n.toNat*e'.size))),?_,Vp.2 ⟨nm,ad,_,h1,h2,off_snoc_idx h3 (shape_sound hs s.sim h1) (show n.toNat<m by omega),rfl⟩⟩
   simp only[execOp,s.evv ei,h4,Sem.run_bind,indexAt_ar hu hi h0.1 h0.2,Result.andThen_ok,Sem.run_pure,at_add,hsz]
  ·rename_i l hs
   replace h:=bM h;obtain⟨hsl,h⟩:=h
   rw[Bool.and_eq_true] at hsl
   obtain⟨m,_,hlt,hm,h⟩:=pickN_spec h
   rw[Nat.zero_add] at hlt
   obtain⟨e,i,hu,hi,hsz⟩:=isArOf_spec hsl.1
   refine⟨_,_,h,OpOK.pure fun N D w a s=>?_⟩
   obtain⟨nm,ad,o,h1,h2,h3,h4⟩:=Vp.1 (s.evr e1)
   refine⟨.pointer (some (Addr.at_ ad (o+n.toNat*headSz l))),?_,Vp.2 ⟨nm,ad,_,h1,h2,off_snoc_fld h3 (shape_sound hs s.sim h1) hlt,?_⟩⟩
   ·simp only[execOp,s.evv ei,h4,Sem.run_bind,indexAt_ar hu hi (show 0≤n by omega) (show n<l.length by omega),Result.andThen_ok,Sem.run_pure,at_add,hsz]
   ·rw[even_take hsl.2 (Nat.le_of_lt hlt),hm];rfl
  ·cases h
 ·rename_i id m0 e1
  split at h
  ·rename_i l hs
   replace h:=bM h;obtain⟨hsl,h⟩:=h
   simp only[Bool.and_eq_true,decide_eq_true_eq] at hsl
   obtain⟨m,_,hlt,hm,h⟩:=pickN_spec h
   rw[Nat.zero_add] at hlt
   obtain⟨e,i,hu,hi,hsz⟩:=isSlOf_spec hsl.1.1
   refine⟨_,_,h,OpOK.pure fun N D w a s=>?_⟩
   have hv:=s.evr e1
   unfold VRel at hv
   simp only[AV.isAgg,vrel,RA] at hv
   obtain⟨nm,ad,h1,h2,h3,h4⟩:=hv
   simp only[Option.some.injEq] at h4
   have hoff:nm.off []=some 0:=by simp[Nm.off,h3,oS]
   have hsh:=shape_sound hs s.sim h1
   have hspot:ad.spot=none:=by
    have: ∃v,st.h id=some (.var v):=by
     unfold St.shape at hs
     split at hs
     ·exact⟨_,‹_›⟩
     ·cases hs
     ·cases hs
    obtain⟨v,hv⟩:=this
    obtain⟨nm',a',q1,q2,_,_,q5,_⟩:=s.sim.obj id _ hv
    rw[h1] at q1;cases q1
    rw[h2] at q2;cases q2
    exact q5
   obtain⟨bb,oo,sp⟩:=ad
   simp only at hspot;subst hspot
   refine⟨.pointer (some ⟨bb,oo+n.toNat*headSz l,none⟩),?_,Vp.2 ⟨nm,_,_,h1,h2,off_snoc_fld (p:=[]) hoff hsh hlt,?_⟩⟩
   ·simp only[execOp,s.evv ei,h4,Sem.run_bind,indexAt_sl hu hi (show 0≤n by omega) (show n<m0 by omega),Result.andThen_ok,Sem.run_pure,addr_add,hsz]
   ·rw[even_take hsl.1.2 (Nat.le_of_lt hlt),hm];simp[Addr.at_]
  ·cases h
 ·rename_i m te xs e1
  replace h:=bM h;obtain⟨hsl,h⟩:=h
  replace h:=oM h;obtain⟨h0,h⟩:=h
  split at h
  ·rename_i y hy
   obtain⟨e,i,hu,hi,hsz⟩:=isArOf_spec hsl
   refine⟨_,_,h,OpOK.pure fun N D w a s=>?_⟩
   obtain⟨ad,h1,h2,h3,h4⟩:=VRel_rptr.1 (s.evr e1)
   obtain⟨b,o,sp⟩:=ad
   simp only at h2;subst h2
   simp only[RA] at h4
   refine⟨.pointer (some ⟨b,o+n.toNat*te.size,none⟩),?_,VRel_rptr.2 ⟨_,rfl,rfl,h3,?_⟩⟩
   ·simp only[execOp,s.evv ei,h1,Sem.run_bind,indexAt_ar hu hi h0.1 h0.2,Result.andThen_ok,Sem.run_pure,addr_add,hsz]
   ·rw[enc_rel]
    have e2:(fun j=>cA w ⟨b,o,none⟩ (n.toNat*te.size+j))=cA w ⟨b,o+n.toNat*te.size,none⟩:=by
     funext j;simp only[cA,Nat.add_assoc]
    rw[←e2];exact h4.2 n.toNat y hy
  ·cases h
 ·cases h
theorem fine_len {dst ty pos after guard}{x:Operand}{args:Array Operand}{tys:Array TypeId}{t:TypeId}{tys':List TypeId}{st:St}{k:AV→St→Option α}{r:α}(ha:args.toList=[x])(ht:tys.toList=t::tys')
  (h:alen P st t (st.ev x) (fun n=>k (.val (.int .i64 n)) st)=some r):Fine P base ⟨dst, .call ⟨.builtin .len,args,tys⟩,ty,pos,after,guard⟩ st k r:=by
 have hargs:args= #[x]:=by cases args;simp at ha;subst ha;rfl
 have htys:tys[0]?=some t:=by cases tys;simp at ht;subst ht;simp
 subst hargs
 have slk: ∀(n:Nat),isSliceT P t=true→k (.val (.int .i64 n)) st=some r→(∀N D w a,SRel N D w base st a→∃b c,a.eval x= .slice b n c)→Fine P base ⟨dst, .call ⟨.builtin .len,#[x],tys⟩,ty,pos,after,guard⟩ st k r:=by
  intro n hs hk hrel
  obtain⟨e,hu⟩:=isSliceT_spec hs
  refine⟨_,_,hk,OpOK.pure fun N D w a s=>⟨.int .i64 n,?_,Vv.2 rfl⟩⟩
  obtain⟨b,c,e2⟩:=hrel N D w a s
  simp[execOp,resolve,invoke,builtin,Builtin.len_,htys,e2,run_underlying hu,goInt]
 unfold alen at h
 split at h
 ·rename_i te xs e1
  split at h
  ·rename_i hs
   refine slk _ hs h fun N D w a s=>?_
   obtain⟨ba,cap,g1,_⟩:=VRel_dp.1 (s.evr e1)
   simp only[Option.some.injEq] at g1
   exact⟨_,_,g1⟩
  ·cases h
 ·rename_i e1
  split at h
  ·rename_i hs
   exact slk 0 hs h fun N D w a s=>⟨_,_,s.evv e1⟩
  ·cases h
 ·rename_i b e1
  split at h
  ·rename_i hu
   refine⟨_,_,h,OpOK.pure fun N D w a s=>⟨_,?_,Vv.2 rfl⟩⟩
   simp[execOp,resolve,invoke,builtin,Builtin.len_,htys,s.evv e1,run_underlying hu,goInt]
  ·cases h
 ·rename_i id off e1
  split at h
  ·rename_i ro te xs ho
   split at h
   ·rename_i hs
    refine slk _ hs h fun N D w a s=>?_
    have hv:=s.evr e1
    unfold VRel at hv
    simp only[AV.isAgg,vrel,RA] at hv
    obtain⟨nm,g1,g2,g3,g4,g5⟩:=hv
    obtain⟨nm',h1,h2,h3,h4,_⟩:=s.sim.obj id _ ho
    rw[g1] at h1;cases h1
    cases hb:nm.base with
    |none=>
     rw[hb] at g5
     obtain⟨g5,g6⟩:=g5
     simp only[Option.some.injEq] at g6
     have e0:llen (β:=te.den) xs-off=0:=by rw[←h4];omega
     have e2:a.eval x= .slice none (llen (β:=te.den) xs-off) 0:=by rw[e0];exact g6
     exact⟨_,_,e2⟩
    |some ba=>
     rw[hb] at g5
     obtain⟨v,room,g6,g7,a',cap,rfl,_⟩:=g5
     simp only[Option.some.injEq] at g6
     rw[h4] at g6
     exact⟨_,_,g6⟩
   ·cases h
  ·cases h
 ·rename_i id p off len e1
  split at h
  ·rename_i hs
   refine slk _ hs h fun N D w a s=>?_
   have hv:=s.evr e1
   unfold VRel at hv
   simp only[AV.isAgg,vrel,RA] at hv
   obtain⟨nm,g1,g3⟩:=hv
   cases g2:nm.base with
   |none=>rw[g2] at g3;obtain⟨_,_,rfl,_,g3⟩:=g3;simp only[Option.some.injEq] at g3;exact⟨_,_,g3⟩
   |some ba=>
   rw[g2] at g3
   simp only at g3
   split at g3
   ·obtain⟨_,_,v,room,g6,_,_,a',cap,rfl,_⟩:=g3
    simp only[Option.some.injEq] at g6
    exact⟨_,_,g6⟩
   ·obtain⟨_,_,_,v,room,_,_,_,g6,_,a',cap,rfl,_⟩:=g3
    simp only[Option.some.injEq] at g6
    exact⟨_,_,g6⟩
  ·cases h
 ·rename_i id n e1
  split at h
  ·rename_i hs
   refine slk _ hs h fun N D w a s=>?_
   have hv:=s.evr e1
   unfold VRel at hv
   simp only[AV.isAgg,vrel,RA] at hv
   obtain⟨nm,ad,_,_,_,h4⟩:=hv
   simp only[Option.some.injEq] at h4
   exact⟨_,_,h4⟩
  ·cases h
 ·rename_i n te xs e1
  split at h
  ·rename_i m e hu
   split at h
   ·rename_i hmn
    subst hmn
    refine⟨_,_,h,OpOK.pure fun N D w a s=>⟨.int .i64 m,?_,Vv.2 rfl⟩⟩
    obtain⟨cells,h1,_⟩:=VRel_arr.1 (s.evr e1)
    simp[execOp,resolve,invoke,builtin,Builtin.len_,htys,h1,run_underlying hu,goInt]
   ·cases h
  ·cases h
 ·cases h
end AM
namespace AM
open Go
variable {α:Type}{P:Program}{base:Nat}
theorem enc_solid: ∀(t:Ty) (x:t.den),(enc t x).solid=true
 | .int _,_=>by simp[enc,AV.solid,Value.oneCell']
 | .bool,_=>by simp[enc,AV.solid,Value.oneCell']
 | .str,_=>by simp[enc,AV.solid,Value.oneCell']
 | .nil,_=>by simp[enc,AV.solid,AV.solids]
 | .deep _,_=>by simp[enc,AV.solid]
 | .ref _,_=>by simp[enc,AV.solid]
 | .arr n t,_=>by simp[enc,AV.solid]
 | .cons a b,p=>by
  have ha:=enc_solid a p.1
  have hb:=enc_solid b p.2
  unfold enc
  cases h:enc b p.2<;>simp[h,AV.solid,AV.solids] at* <;>simp[*]
theorem tyOf_agg: ∀(n:Nat) (t:TypeId) (te:Ty),tyOf P n t=some te→(∃d,P.underlying t=some d)∧∀x:te.den,(enc te x).isAgg=isAggT P t
 |0,_,_,h=>by simp[tyOf] at h
 |n+1,t,te,h=>by
  unfold tyOf at h
  split at h
  ·rename_i k hu;simp only[Option.some.injEq] at h;subst h;exact⟨⟨_,hu⟩,fun x=>by simp[enc,AV.isAgg,isAggT,hu]⟩
  ·rename_i hu;simp only[Option.some.injEq] at h;subst h;exact⟨⟨_,hu⟩,fun x=>by simp[enc,AV.isAgg,isAggT,hu]⟩
  ·rename_i hu;simp only[Option.some.injEq] at h;subst h;exact⟨⟨_,hu⟩,fun x=>by simp[enc,AV.isAgg,isAggT,hu]⟩
  ·rename_i fs hu
   refine⟨⟨_,hu⟩,?_⟩
   have key: ∀(l:List Field) (te:Ty),l.foldr (fun f acc=>match tyOf P n f.type,acc with|some a,some b=>some (Ty.cons a b)|_,_=>none) (some .nil)=some te→∀x:te.den,∃l,enc te x= .agg l:=by
    intro l
    induction l with
    |nil=>intro te h;simp only[List.foldr_nil,Option.some.injEq] at h;subst h;intro x;exact⟨[],rfl⟩
    |cons f l ih=>
     intro te h
     simp only[List.foldr_cons] at h
     split at h
     ·rename_i a b h1 h2
      simp only[Option.some.injEq] at h;subst h
      intro x
      obtain⟨l',hl⟩:=ih b h2 x.2
      exact⟨enc a x.1::l',by have e:enc (.cons a b) x=(match enc b x.2 with| .agg l=> .agg (enc a x.1::l)|v=> .agg [enc a x.1,v]):=rfl;rw[e,hl]⟩
     ·cases h
   intro x
   obtain⟨l,hl⟩:=key _ _ h x
   simp[hl,AV.isAgg,isAggT,hu]
  ·rename_i m e hu
   simp only[Option.map_eq_some_iff] at h
   obtain⟨te',_,rfl⟩:=h
   exact⟨⟨_,hu⟩,fun x=>by simp[enc,AV.isAgg,isAggT,hu]⟩
  ·rename_i e hu
   simp only[Option.map_eq_some_iff] at h
   obtain⟨te',_,rfl⟩:=h
   exact⟨⟨_,hu⟩,fun x=>by simp[enc,AV.isAgg,isAggT,hu]⟩
  ·rename_i hu;simp only[Option.some.injEq] at h;subst h;exact⟨⟨_,hu⟩,fun x=>by simp[enc,AV.isAgg,isAggT,hu]⟩
  ·cases h
theorem fits_of_ty {t:TypeId}{te:Ty}(h:tyOf P 12 t=some te)(hs:te.size=P.cellsOf t)(x:te.den):fitsT P t (enc te x)=true:=by
 obtain⟨⟨d,hd⟩,h2⟩:=tyOf_agg 12 t te h
 simp only[fitsT,Bool.and_eq_true,beq_iff_eq,decide_eq_true_eq]
 exact⟨⟨⟨enc_solid _ _,h2 x⟩,by rw[enc_size,hs]⟩,by rw[hd];rfl⟩
theorem sizes_const' {sz:Nat}: ∀(l:List AV),(∀v∈l,v.size=sz)→AV.sizes l=l.length*sz
 | [],_=>by simp[AV.sizes]
 |x::xs,h=>by
  have ih:=sizes_const' xs fun v hv=>h v (List.mem_cons_of_mem _ hv)
  simp only[AV.sizes,List.length_cons,ih,h x (List.mem_cons_self ..),Nat.add_mul]
  omega
theorem fine_index {dst ty pos after guard}{t:TypeId}{x ix:Operand}{st:St}{k:AV→St→Option α}{r:α}(h:opIndex P st t (st.ev x) (st.ev ix) k=some r):Fine P base ⟨dst, .index t x ix,ty,pos,after,guard⟩ st k r:=by
 unfold opIndex at h
 obtain⟨ki,n,ei,h⟩:=nat?_spec h
 split at h
 ·rename_i m te xs e1
  replace h:=bM h;obtain⟨hel,h⟩:=h
  replace h:=oM h;obtain⟨h0,h⟩:=h
  split at h
  ·rename_i y hy
   unfold arElem at hel
   split at hel
   ·rename_i m' e hu
    simp only[Bool.and_eq_true,decide_eq_true_eq] at hel
    obtain⟨rfl,hel⟩:=hel
    split at hel
    ·rename_i te' hte
     simp only[Bool.and_eq_true,decide_eq_true_eq] at hel
     obtain⟨rfl,hsz⟩:=hel
     refine⟨_,_,h,OpOK.pure fun N D w a s=>?_⟩
     obtain⟨cells,h1,h2,h3⟩:=VRel_arr.1 (s.evr e1)
     have hfit:=fits_of_ty hte hsz.symm y
     obtain⟨⟨d,hd⟩,_⟩:=tyOf_agg 12 e _ hte
     obtain⟨i,hi⟩:=info_of_underlying hd
     obtain⟨c,h4,h5⟩:=part_run (P:=P) (N:=N) (off:=n.toNat*te'.size) hfit ((enc_rel te' y _).2 (h3.2 n.toNat y hy))
     refine⟨c,?_,h5⟩
     simp only[execOp,s.evv ei,h1,Instr.index,asIntOf,Sem.run_bind,Sem.run_pure,Result.andThen_ok,run_underlying hu,h0,and_self,if_true,run_sizeOf w hi,hsz,h4]
    ·cases hel
   ·cases hel
  ·cases h
 ·rename_i fs e1
  replace h:=bM h;obtain⟨hel,h⟩:=h
  obtain⟨m,_,hlt,hm,h⟩:=pickN_spec h
  rw[Nat.zero_add] at hlt
  split at h
  ·rename_i v hv
   unfold arFits at hel
   split at hel
   ·rename_i m' e hu
    simp only[Bool.and_eq_true,decide_eq_true_eq,List.all_eq_true] at hel
    obtain⟨rfl,hel⟩:=hel
    refine⟨_,_,h,OpOK.pure fun N D w a s=>?_⟩
    obtain⟨cells,h1,h2,h3⟩:=VRel_agg.1 (s.evr e1)
    have hfit:=hel v (List.mem_of_getElem? hv)
    obtain⟨_,_,hsz,d,hd⟩:=fitsT_spec hfit
    obtain⟨i,hi⟩:=info_of_underlying hd
    have hsizes:AV.sizes (fs.take m)=m*P.cellsOf e:=by
     have:=sizes_const' (sz:=P.cellsOf e) (fs.take m) fun u hu'=>(fitsT_spec (hel u (List.mem_of_mem_take hu'))).2.2.1
     rw[this,List.length_take,Nat.min_eq_left (Nat.le_of_lt hlt)]
    have hr:=RelAll_take fs m v _ hv h3
    rw[hsizes] at hr
    obtain⟨c,h4,h5⟩:=part_run (P:=P) (N:=N) (off:=m*P.cellsOf e) hfit hr
    refine⟨c,?_,h5⟩
    have hn:n.toNat=m:=by omega
    simp only[execOp,s.evv ei,h1,Instr.index,asIntOf,Sem.run_bind,Sem.run_pure,Result.andThen_ok,run_underlying hu,show(0≤n∧n<fs.length) from⟨by omega,by omega⟩,and_self,if_true,run_sizeOf w hi,hn,h4]
   ·cases hel
  ·cases h
 ·cases h
theorem opt?_spec {s:St}{x:Option Operand}{d:Int}{k:Int→Option α}{r:α}(h:opt? s x d k=some r): ∃n,k n=some r∧((x=none∧n=d)∨∃o ki,x=some o∧s.ev o= .val (.int ki n)):=by
 unfold opt? at h
 split at h
 ·exact⟨d,h, .inl ⟨rfl,rfl⟩⟩
 ·obtain⟨ki,n,e,h⟩:=nat?_spec h
  exact⟨n,h, .inr ⟨_,ki,rfl,e⟩⟩
def OptIs (v:Option Value)(d n:Int):Prop:=(v=none∧n=d)∨∃ki,v=some (.int ki n)
theorem OptIs.of {N:Nm_}{D:Nat→Prop}{w:World}{st:St}{a:Act}(s:SRel N D w base st a){x:Option Operand}{d n:Int}(h:(x=none∧n=d)∨∃o ki,x=some o∧st.ev o= .val (.int ki n)):OptIs (x.map a.eval) d n:=by
 rcases h with⟨rfl,rfl⟩|⟨o,ki,rfl,e⟩
 ·exact .inl ⟨rfl,rfl⟩
 ·exact .inr ⟨ki,by simp[s.evv e]⟩
theorem bounds_run {lo hi:Option Value}{l h:Int}{sl:Bool}{len cap:Nat}(hl:OptIs lo 0 l)(hh:OptIs hi len h)(h0:0≤l)(h1:l≤h)(h2:h≤cap)(w:World):
  (Instr.sliceBounds sl len cap lo hi none).run P w= .ok (l.toNat,h.toNat,cap) w:=by
 have hbh: ∀(y:Nat) ki code,(h≤y)→(Instr.sliceBound (.int ki h) y code).run P w= .ok h.toNat w:=fun y ki code hy=>run_sliceBound w ki h y code (by omega) hy
 have hbl: ∀ki code,(Instr.sliceBound (.int ki l) h.toNat code).run P w= .ok l.toNat w:=fun ki code=>run_sliceBound w ki l h.toNat code h0 (by omega)
 rcases hl with⟨rfl,rfl⟩|⟨kl,rfl⟩<;>rcases hh with⟨rfl,rfl⟩|⟨kh,rfl⟩
 ·simp[Instr.sliceBounds]
 ·simp[Instr.sliceBounds,hbh cap kh _ h2]
 ·have:=run_sliceBound (P:=P) w kl l len .sliceB h0 h1
  simp[Instr.sliceBounds,this]
 ·simp[Instr.sliceBounds,hbh cap kh _ h2,hbl]
theorem sliceAt_sl {t e:TypeId}{i:TypeInfo}(hu:P.underlying t=some (.slice e))(hi:P.info? e=some i){lo hi':Option Value}{l h:Int}{a:Option Addr}{len cap:Nat}(hl:OptIs lo 0 l)(hh:OptIs hi' len h)(h0:0≤l)(h1:l≤h)(h2:h≤cap)(w:World):
  (Instr.sliceAt t (.slice a len cap) lo hi' none).run P w= .ok (.slice (if cap=l.toNat then a else a.map (·.add (l.toNat*P.cellsOf e))) (h.toNat-l.toNat) (cap-l.toNat)) w:=by
 simp only[Instr.sliceAt,Sem.run_bind,run_underlying hu,Result.andThen_ok,Instr.slice,bounds_run hl hh h0 h1 h2,run_sizeOf w hi,Sem.run_pure]
theorem sliceAt_ar {t e:TypeId}{i:TypeInfo}{m:Nat}(hu:P.underlying t=some (.array m e))(hi:P.info? e=some i){lo hi':Option Value}{l h:Int}{a:Addr}(hl:OptIs lo 0 l)(hh:OptIs hi' m h)(h0:0≤l)(h1:l≤h)(h2:h≤m)(w:World):
  (Instr.sliceAt t (.pointer (some a)) lo hi' none).run P w= .ok (.slice (some (if m=l.toNat then a else a.add (l.toNat*P.cellsOf e))) (h.toNat-l.toNat) (m-l.toNat)) w:=by
 simp only[Instr.sliceAt,Sem.run_bind,run_underlying hu,Result.andThen_ok,Instr.sureAddr,bounds_run hl hh h0 h1 h2,run_sizeOf w hi,Sem.run_pure]
theorem sliceAt_par {t t' e:TypeId}{i:TypeInfo}{m:Nat}(ht:P.underlying t=some (.pointer t'))(hu:P.underlying t'=some (.array m e))(hi:P.info? e=some i){lo hi':Option Value}{l h:Int}{a:Addr}(hl:OptIs lo 0 l)(hh:OptIs hi' m h)(h0:0≤l)(h1:l≤h)(h2:h≤m)(w:World):
  (Instr.sliceAt t (.pointer (some a)) lo hi' none).run P w= .ok (.slice (some (if m=l.toNat then a else a.add (l.toNat*P.cellsOf e))) (h.toNat-l.toNat) (m-l.toNat)) w:=by
 simp only[Instr.sliceAt,Sem.run_bind,run_underlying ht,run_underlying hu,Result.andThen_ok,Instr.slice,asAddr,bounds_run hl hh h0 h1 h2,run_sizeOf w hi,Sem.run_pure]
theorem isArOf'_run {t:TypeId}{m n:Nat}(ht:isArOf' P t m n=true){lo hi':Option Value}{l h:Int}{a:Addr}(hl:OptIs lo 0 l)(hh:OptIs hi' m h)(h0:0≤l)(h1:l≤h)(h2:h≤m)(w:World):
  (Instr.sliceAt t (.pointer (some a)) lo hi' none).run P w= .ok (.slice (some (if m=l.toNat then a else a.add (l.toNat*n))) (h.toNat-l.toNat) (m-l.toNat)) w:=by
 unfold isArOf' at ht
 split at ht
 ·rename_i t' hp
  obtain⟨e,i,hu,hi,rfl⟩:=isArOf_spec ht
  exact sliceAt_par hp hu hi hl hh h0 h1 h2 w
 ·obtain⟨e,i,hu,hi,rfl⟩:=isArOf_spec ht
  exact sliceAt_ar hu hi hl hh h0 h1 h2 w
theorem slAt_part {b:Addr}{o n len room:Nat}{a:Addr}{l h:Nat}(h1:l≤h)(h2:h≤len)(h3:len≤room)(ha:a=Addr.at_ b o∨room=0):
  SlAt (Addr.at_ b (o+l*n)) (h-l) (room-l) (.slice (if room=l then some a else(some a).map (·.add (l*n))) (h-l) (room-l)):=by
 by_cases e:room=l
 ·rw[if_pos e]
  exact⟨a,room-l,rfl,by omega,rfl, .inr (by omega)⟩
 ·rw[if_neg e]
  rcases ha with rfl|ha
  ·exact⟨_,room-l,rfl,by omega,rfl, .inl (at_add _ _ _)⟩
  ·omega
end AM
namespace AM
open Go
variable {α:Type}{P:Program}{base:Nat}
theorem sroom_row {s:St}{id:Nat}{p:List Step}{off len:Nat}{N:Nm_}{D:Nat→Prop}{w:World}(S:Sim N D w base s.h){nm:Nm}(hn:N id=some nm)(hp:(nm.row&&p.isEmpty)=true):sroom s id p off len=nm.len-off∨sroom s id p off len=len:=by
 unfold sroom
 split
 ·rename_i xs ho
  obtain⟨nm',h1,_,_,h4,_⟩:=S.obj id _ ho
  rw[hn] at h1;cases h1
  exact .inl (by rw[h4])
 ·exact .inr rfl
theorem sroom_not {s:St}{id:Nat}{p:List Step}{off len:Nat}{N:Nm_}{D:Nat→Prop}{w:World}(S:Sim N D w base s.h){nm:Nm}(hn:N id=some nm)(hp: ¬(nm.row&&p.isEmpty)=true):sroom s id p off len=len:=by
 unfold sroom
 split
 ·rename_i xs ho
  obtain⟨nm',h1,h2,_⟩:=S.obj id _ ho
  rw[hn] at h1;cases h1
  simp[h2] at hp
 ·rfl
theorem fine_slice {dst ty pos after guard}{t:TypeId}{x:Operand}{lo hj:Option Operand}{st:St}{k:AV→St→Option α}{r:α}(h:opSlice P st t (st.ev x) lo hj k=some r):Fine P base ⟨dst, .slice t x lo hj none,ty,pos,after,guard⟩ st k r:=by
 unfold opSlice at h
 obtain⟨l,h,hl⟩:=opt?_spec h
 split at h
 ·rename_i te xs e1
  replace h:=bM h;obtain⟨hsl,h⟩:=h
  obtain⟨hh,h,hh'⟩:=opt?_spec h
  replace h:=oM h;obtain⟨⟨h0,h1,h2⟩,h⟩:=h
  obtain⟨e,i,hu,hi,hsz⟩:=isSlOf_spec hsl
  have hxs:cutL (β:=te.den) lo hj l hh xs=(xs.take hh.toNat).drop l.toNat:=by
   rcases hl with⟨rfl,rfl⟩|⟨o,ki,rfl,_⟩<;>rcases hh' with⟨rfl,rfl⟩|⟨o',ki',rfl,_⟩<;>simp[cutL]
  rw[hxs] at h
  refine⟨_,_,h,OpOK.pure fun N D w a s=>?_⟩
  obtain⟨ba,cap,g1,g2,g3,g4⟩:=VRel_dp.1 (s.evr e1)
  simp only[Option.some.injEq] at g1
  have hrun:=sliceAt_sl (P:=P) (a:=ba) (len:=llen (β:=te.den) xs) (cap:=cap) hu hi (OptIs.of s hl) (OptIs.of s hh') h0 h1 (by simp only[llen] at g2⊢;omega) w
  refine⟨_,by simp only[execOp,g1,Sem.run_bind,Option.map_none,hrun,Result.andThen_ok,Sem.run_pure];rfl,VRel_dp.2 ?_⟩
  have hlen:llen (β:=te.den) ((xs.take hh.toNat).drop l.toNat)=hh.toNat-l.toNat:=by
   simp only[llen,List.length_drop,List.length_take];simp only[llen] at g2;omega
  refine⟨_,_,by rw[hlen],by rw[hlen];simp only[llen] at g2;omega,?_,?_⟩
  ·intro hn
   split at hn
   ·rw[g3 hn];omega
   ·cases hb:ba with
    |none=>rw[g3 hb];omega
    |some b=>rw[hb] at hn;cases hn
  ·intro ad had hne
   rw[hlen] at hne
   split at had
   ·exfalso;simp only[llen] at g2;omega
   ·cases hb:ba with
    |none=>rw[hb] at had;cases had
    |some b=>
     rw[hb] at had
     simp only[Option.map_some,Option.some.injEq] at had
     obtain⟨f1,f2,f3⟩:=g4 b hb (by simp only[llen];omega)
     obtain⟨bb,oo,sp⟩:=b
     simp only at f1;subst f1
     rw[addr_add] at had
     subst had
     refine⟨rfl,f2,fun j y hy=>?_⟩
     have hy':lget (β:=te.den) xs (l.toNat+j)=some y:=by
      simp only[lget] at hy⊢
      rw[List.getElem?_drop,List.getElem?_take] at hy
      split at hy
      ·exact hy
      ·cases hy
     have:=f3 _ y hy'
     rw[hsz]
     have e2:(fun q=>cA w ⟨bb,oo,none⟩ ((l.toNat+j)*te.size+q))=fun q=>cA w ⟨bb,oo+l.toNat*te.size,none⟩ (j*te.size+q):=by
      funext q;simp only[cA,Nat.add_mul,Nat.add_assoc]
     rw[←e2];exact this
 ·rename_i e1
  replace h:=bM h;obtain⟨hsl,h⟩:=h
  obtain⟨hh,h,hh'⟩:=opt?_spec h
  obtain⟨⟨hl0,hh0⟩,hk⟩:=oM h
  subst hl0
  subst hh0
  unfold isSlI at hsl
  split at hsl
  ·rename_i e hu
   obtain⟨i,hi⟩:=Option.isSome_iff_exists.1 hsl
   refine⟨_,_,hk,OpOK.pure fun N D w a s=>?_⟩
   have hrun:=sliceAt_sl (P:=P) (a:=none) (len:=0) (cap:=0) hu hi (OptIs.of s hl) (OptIs.of s hh') (Int.le_refl _) (Int.le_refl _) (Int.le_refl _) w
   exact⟨_,by simp only[execOp,s.evv e1,Sem.run_bind,Option.map_none,hrun,Result.andThen_ok,Sem.run_pure];rfl,Vv.2 (by simp)⟩
  ·cases hsl
 ·rename_i id off e1
  split at h
  ·rename_i ro te xs ho
   replace h:=bM h;obtain⟨hsl,h⟩:=h
   obtain⟨e,i,hu,hi,hsz⟩:=isSlOf_spec hsl
   split at h
   ·replace h:=oM h;obtain⟨⟨h0,h1⟩,h⟩:=h
    refine⟨_,_,h,OpOK.pure fun N D w a s=>?_⟩
    have hv:=s.evr e1
    unfold VRel at hv
    simp only[AV.isAgg,vrel,RA] at hv
    obtain⟨nm,g1,g2,g3,g4,g5⟩:=hv
    obtain⟨nm',i1,i2,i3,i4,_⟩:=s.sim.obj id _ ho
    rw[g1] at i1;cases i1
    cases hb:nm.base with
    |none=>
     rw[hb] at g5
     obtain⟨g5,g6⟩:=g5
     simp only[Option.some.injEq] at g6
     have hl0:l=0:=by simp only[llen] at i4;omega
     subst hl0
     have hrun:=sliceAt_sl (P:=P) (a:=none) (len:=0) (cap:=0) hu hi (OptIs.of s hl) (hi':=none) (.inl ⟨rfl,rfl⟩) (Int.le_refl _) (Int.le_refl _) (Int.le_refl _) w
     refine⟨_,by simp only[execOp,g6,Sem.run_bind,Option.map_none,hrun,Result.andThen_ok,Sem.run_pure];rfl,?_⟩
     unfold VRel
     simp only[AV.isAgg,vrel,RA]
     refine⟨nm,g1,g2,by simpa using g3,g4,?_⟩
     rw[hb]
     exact⟨g5,by simp⟩
    |some ba=>
     rw[hb] at g5
     obtain⟨v,room,g6,g7,a',cap,rfl,g8,rfl,g9⟩:=g5
     simp only[Option.some.injEq] at g6
     have hlen:(l:Int)≤((nm.len-off:Nat):Int):=by rw[i4];exact h1
     have hrun:=sliceAt_sl (P:=P) (a:=some a') (len:=nm.len-off) (cap:=cap) hu hi (OptIs.of s hl) (hi':=none) (h:=((nm.len-off:Nat):Int)) (.inl ⟨rfl,rfl⟩) h0 hlen (by omega) w
     refine⟨_,by simp only[execOp,g6,Sem.run_bind,Option.map_none,hrun,Result.andThen_ok,Sem.run_pure];rfl,?_⟩
     unfold VRel
     simp only[AV.isAgg,vrel,RA]
     refine⟨nm,g1,g2,by omega,g4,?_⟩
     rw[hb]
     have:=slAt_part (b:=ba) (n:=nm.sh.size) (l:=l.toNat) (h:=nm.len-off) (by omega) (Nat.le_refl _) g8 g9
     refine⟨_,cap-l.toNat,rfl,by omega,?_⟩
     rw[Int.toNat_natCast,hsz,show nm.len-(l.toNat+off)=nm.len-off-l.toNat by omega,show(l.toNat+off)*nm.sh.size=off*nm.sh.size+l.toNat*nm.sh.size by rw[Nat.add_mul,Nat.add_comm]]
     rw[i3,tS_] at this⊢
     exact this
   ·rename_i hi'
    obtain⟨kh,hh,eh,h⟩:=nat?_spec h
    replace h:=oM h;obtain⟨⟨h0,h1,h2⟩,h⟩:=h
    refine⟨_,_,h,OpOK.pure fun N D w a s=>?_⟩
    have hv:=s.evr e1
    unfold VRel at hv
    simp only[AV.isAgg,vrel,RA] at hv
    obtain⟨nm,g1,g2,g3,g4,g5⟩:=hv
    obtain⟨nm',i1,i2,i3,i4,_⟩:=s.sim.obj id _ ho
    rw[g1] at i1;cases i1
    cases hb:nm.base with
    |none=>
     rw[hb] at g5
     obtain⟨g5,g6⟩:=g5
     simp only[Option.some.injEq] at g6
     have hl0:l=0∧hh=0:=by simp only[llen] at i4;omega
     obtain⟨rfl,rfl⟩:=hl0
     have hrun:=sliceAt_sl (P:=P) (a:=none) (len:=0) (cap:=0) hu hi (OptIs.of s hl) (hi':=some (.int kh 0)) (.inr ⟨kh,rfl⟩) (Int.le_refl _) (Int.le_refl _) (Int.le_refl _) w
     refine⟨_,by simp only[execOp,g6,Sem.run_bind,Option.map_none,Option.map_some,s.evv eh,hrun,Result.andThen_ok,Sem.run_pure];rfl,?_⟩
     unfold VRel
     simp only[AV.isAgg,vrel,RA]
     refine⟨nm,g1,?_⟩
     rw[hb]
     exact⟨by simp[g2],by simp;omega,by simp,g5,by simp⟩
    |some ba=>
     rw[hb] at g5
     obtain⟨v,room,g6,g7,a',cap,rfl,g8,rfl,g9⟩:=g5
     simp only[Option.some.injEq] at g6
     have hlen:(hh:Int)≤((nm.len-off:Nat):Int):=by rw[i4];exact h2
     have hrun:=sliceAt_sl (P:=P) (a:=some a') (len:=nm.len-off) (cap:=cap) hu hi (OptIs.of s hl) (hi':=some (.int kh hh)) (.inr ⟨kh,rfl⟩) h0 h1 (by omega) w
     refine⟨_,by simp only[execOp,g6,Sem.run_bind,Option.map_none,Option.map_some,s.evv eh,hrun,Result.andThen_ok,Sem.run_pure];rfl,?_⟩
     unfold VRel
     simp only[AV.isAgg,vrel,RA]
     refine⟨nm,g1,?_⟩
     rw[hb];simp only
     rw[if_pos (by simp[g2])]
     have:=slAt_part (b:=ba) (n:=nm.sh.size) (l:=l.toNat) (h:=hh.toNat) (by omega) (by omega) g8 g9
     refine⟨by omega,g4,_,cap-l.toNat,rfl,by omega,by omega,?_⟩
     rw[hsz,show(l.toNat+off)*nm.sh.size=off*nm.sh.size+l.toNat*nm.sh.size by rw[Nat.add_mul,Nat.add_comm],show(hh-l).toNat=hh.toNat-l.toNat by omega]
     rw[i3,tS_] at this⊢
     exact this
  ·cases h
 ·rename_i id p off len e1
  split at h
  ·rename_i m hsz1
   replace h:=bM h;obtain⟨hsl,h⟩:=h
   obtain⟨hh,h,hh'⟩:=opt?_spec h
   replace h:=oM h;obtain⟨⟨h0,h1,h2⟩,h⟩:=h
   obtain⟨e,i,hu,hi,hsz⟩:=isSlOf_spec hsl
   refine⟨_,_,h,OpOK.pure fun N D w a s=>?_⟩
   have hv:=s.evr e1
   unfold VRel at hv
   simp only[AV.isAgg,vrel,RA] at hv
   obtain⟨nm,g1,g3⟩:=hv
   cases g2:nm.base with
   |none=>
    rw[g2] at g3
    obtain⟨g3,rfl,rfl,g4,g6⟩:=g3
    simp only[Option.some.injEq] at g6
    have hrm:=sroom_row (p:=p) (off:=0) (len:=0) s.sim g1 g3
    have hl0:l=0∧hh=0:=by omega
    obtain⟨rfl,rfl⟩:=hl0
    have hrun:=sliceAt_sl (P:=P) (a:=none) (len:=0) (cap:=0) hu hi (OptIs.of s hl) (OptIs.of s hh') (Int.le_refl _) (Int.le_refl _) (Int.le_refl _) w
    refine⟨_,by simp only[execOp,g6,Sem.run_bind,Option.map_none,hrun,Result.andThen_ok,Sem.run_pure];rfl,?_⟩
    unfold VRel
    simp only[AV.isAgg,vrel,RA]
    refine⟨nm,g1,?_⟩
    rw[g2]
    exact⟨g3,by simp,by simp,g4,by simp⟩
   |some ba=>
   rw[g2] at g3
   simp only at g3
   rcases slSize_spec hsz1 s.sim g1 with⟨hp,hsz2⟩|⟨hp,m',e',hsz2,hsz3⟩
   ·rw[if_pos hp] at g3
    obtain⟨g4,g5,v,room,g6,g7,g8,a',cap,rfl,g9,rfl,g10⟩:=g3
    simp only[Option.some.injEq] at g6
    have hrm:=sroom_row (off:=off) (len:=len) s.sim g1 hp
    have hrun:=sliceAt_sl (P:=P) (a:=some a') (len:=len) (cap:=cap) hu hi (OptIs.of s hl) (OptIs.of s hh') h0 h1 (by omega) w
    refine⟨_,by simp only[execOp,g6,Sem.run_bind,Option.map_none,hrun,Result.andThen_ok,Sem.run_pure];rfl,?_⟩
    unfold VRel
    simp only[AV.isAgg,vrel,RA]
    refine⟨nm,g1,?_⟩
    rw[g2];simp only
    rw[if_pos hp]
    have:=slAt_part (b:=ba) (n:=nm.sh.size) (l:=l.toNat) (h:=hh.toNat) (len:=cap) (by omega) (by omega) (Nat.le_refl _) g10
    refine⟨by omega,g5,_,cap-l.toNat,rfl,by omega,by omega,?_⟩
    rw[hsz,show(l.toNat+off)*nm.sh.size=off*nm.sh.size+l.toNat*nm.sh.size by rw[Nat.add_mul,Nat.add_comm],show(hh-l).toNat=hh.toNat-l.toNat by omega]
    rw[hsz2] at this⊢
    exact this
   ·rw[if_neg hp] at g3
    obtain⟨o,m2,e2,v,room,g4,hshp,g7,g8,g9,a',cap,rfl,g10,rfl,g11⟩:=g3
    simp only[Option.some.injEq] at g8
    rw[hshp] at hsz2;cases hsz2
    rw[sroom_not s.sim g1 hp] at h2
    have hrun:=sliceAt_sl (P:=P) (a:=some a') (len:=len) (cap:=cap) hu hi (OptIs.of s hl) (OptIs.of s hh') h0 h1 (by omega) w
    refine⟨_,by simp only[execOp,g8,Sem.run_bind,Option.map_none,hrun,Result.andThen_ok,Sem.run_pure];rfl,?_⟩
    unfold VRel
    simp only[AV.isAgg,vrel,RA]
    refine⟨nm,g1,?_⟩
    rw[g2];simp only
    rw[if_neg hp]
    have:=slAt_part (b:=ba) (n:=e'.size) (l:=l.toNat) (h:=hh.toNat) (by omega) (by omega) g10 g11
    refine⟨o,m',e',_,cap-l.toNat,g4,hshp,by omega,rfl,by omega,?_⟩
    rw[hsz,show o+(l.toNat+off)*e'.size=o+off*e'.size+l.toNat*e'.size by rw[Nat.add_mul,Nat.add_assoc,Nat.add_comm (l.toNat*e'.size)],show(hh-l).toNat=hh.toNat-l.toNat by omega]
    rw[hsz3] at this⊢
    exact this
  ·cases h
 ·rename_i id p e1
  split at h
  ·rename_i m e' hs
   replace h:=bM h;obtain⟨hsl,h⟩:=h
   obtain⟨hh,h,hh'⟩:=opt?_spec h
   replace h:=oM h;obtain⟨⟨h0,h1,h2⟩,h⟩:=h
   refine⟨_,_,h,OpOK.pure fun N D w a s=>?_⟩
   obtain⟨nm,ad,o,g1,g2,g3,g4⟩:=Vp.1 (s.evr e1)
   have hshp:=shape_sound hs s.sim g1
   have hrun:=isArOf'_run (P:=P) (a:=Addr.at_ ad o) hsl (OptIs.of s hl) (OptIs.of s hh') h0 h1 h2 w
   refine⟨_,by simp only[execOp,g4,Sem.run_bind,Option.map_none,hrun,Result.andThen_ok,Sem.run_pure];rfl,?_⟩
   unfold VRel
   simp only[AV.isAgg,vrel,RA]
   refine⟨nm,g1,?_⟩
   rw[g2];simp only
   have hp: ¬(nm.row&&p.isEmpty)=true:=by
    intro hp
    simp only[Bool.and_eq_true,List.isEmpty_iff] at hp
    simp[Nm.shp,hp.1,hp.2] at hshp
   rw[if_neg hp]
   have:=slAt_part (b:=ad) (o:=o) (n:=e'.size) (l:=l.toNat) (h:=hh.toNat) (len:=m) (room:=m) (a:=Addr.at_ ad o) (by omega) (by omega) (Nat.le_refl _) (.inl rfl)
   refine⟨o,m,e',_,m-l.toNat,g3,hshp,by omega,rfl,by omega,?_⟩
   rw[show(hh-l).toNat=hh.toNat-l.toNat by omega]
   by_cases hm:m=l.toNat
   ·rw[if_pos hm] at this⊢;exact this
   ·rw[if_neg hm] at this⊢;exact this
  ·cases h
 ·rename_i m te xs e1
  replace h:=bM h;obtain⟨hsl,h⟩:=h
  obtain⟨hh,h,hh'⟩:=opt?_spec h
  replace h:=oM h;obtain⟨⟨h0,h1,h2⟩,h⟩:=h
  refine⟨_,_,h,OpOK.pure fun N D w a s=>?_⟩
  obtain⟨ad,g1,g2,g3,g4⟩:=VRel_rptr.1 (s.evr e1)
  have hrun:=isArOf'_run (P:=P) (a:=ad) hsl (OptIs.of s hl) (OptIs.of s hh') h0 h1 h2 w
  refine⟨_,by simp only[execOp,g1,Sem.run_bind,Option.map_none,hrun,Result.andThen_ok,Sem.run_pure];rfl,VRel_dp.2 ?_⟩
  simp only[RA] at g4
  obtain⟨g5,g6⟩:=g4
  have hlen:llen (β:=te.den) ((xs.take hh.toNat).drop l.toNat)=hh.toNat-l.toNat:=by
   simp only[llen,List.length_drop,List.length_take];simp only[llen] at g5;omega
  refine⟨_,_,by rw[hlen],by rw[hlen];omega,fun h=>(by cases h),?_⟩
  intro ad' had hne
  rw[hlen] at hne
  rw[if_neg (by omega)] at had
  simp only[Option.some.injEq] at had
  obtain⟨bb,oo,sp⟩:=ad
  simp only at g2;subst g2
  rw[addr_add] at had
  subst had
  refine⟨rfl,g3,fun j y hy=>?_⟩
  have hy':lget (β:=te.den) xs (l.toNat+j)=some y:=by
   simp only[lget] at hy⊢
   rw[List.getElem?_drop,List.getElem?_take] at hy
   split at hy
   ·exact hy
   ·cases hy
  have:=g6 _ y hy'
  have e2:(fun q=>cA w ⟨bb,oo,none⟩ ((l.toNat+j)*te.size+q))=fun q=>cA w ⟨bb,oo+l.toNat*te.size,none⟩ (j*te.size+q):=by
   funext q;simp only[cA,Nat.add_mul,Nat.add_assoc]
  rw[←e2];exact this
 ·cases h
theorem fine_slice3 {dst ty pos after guard}{t:TypeId}{x mx:Operand}{lo hj:Option Operand}{st:St}{k:AV→St→Option α}{r:α}(h:opSlice3 P st t (st.ev x) lo hj mx k=some r):Fine P base ⟨dst, .slice t x lo hj (some mx),ty,pos,after,guard⟩ st k r:=by
 unfold opSlice3 at h
 obtain⟨l,h,hl⟩:=opt?_spec h
 split at h
 ·cases h
 obtain⟨kh,hh,eh,h⟩:=nat?_spec h
 obtain⟨km,m,em,h⟩:=nat?_spec h
 split at h
 ·rename_i id off e1
  split at h
  ·rename_i ro te xs ho
   replace h:=bM h;obtain⟨hsl,h⟩:=h
   obtain⟨e,i,hu,hi,hsz⟩:=isSlOf_spec hsl
   replace h:=oM h;obtain⟨⟨h0,h1,h2,h3⟩,h⟩:=h
   refine⟨_,_,h,OpOK.pure fun N D w a s=>?_⟩
   have hv:=s.evr e1
   unfold VRel at hv
   simp only[AV.isAgg,vrel,RA] at hv
   obtain⟨nm,g1,g2,g3,g4,g5⟩:=hv
   obtain⟨nm',i1,i2,i3,i4,_⟩:=s.sim.obj id _ ho
   rw[g1] at i1;cases i1
   have hx: ∃b n c,a.eval x= .slice b n c∧m≤c:=by
    cases hb:nm.base with
    |none=>
     rw[hb] at g5
     obtain⟨g5,g6⟩:=g5
     simp only[Option.some.injEq] at g6
     exact⟨_,_,_,g6,by simp only[llen] at i4;omega⟩
    |some ba=>
     rw[hb] at g5
     obtain⟨v,room,g6,g7,a',cap,rfl,g8,rfl,g9⟩:=g5
     simp only[Option.some.injEq] at g6
     exact⟨_,_,_,g6,by simp only[llen] at i4;omega⟩
   obtain⟨b,n,c,hx,hmc⟩:=hx
   have r1:(Instr.sliceBound (.int km m) c .slice3Acap).run P w= .ok m.toNat w:=run_sliceBound w km m c .slice3Acap (by omega) hmc
   have r2:(Instr.sliceBound (.int kh hh) m.toNat .slice3B).run P w= .ok hh.toNat w:=run_sliceBound w kh hh m.toNat .slice3B (by omega) (by omega)
   have hb:(Instr.sliceBounds true n c (lo.map a.eval) (some (.int kh hh)) (some (.int km m))).run P w= .ok (l.toNat,hh.toNat,m.toNat) w:=by
    rcases OptIs.of s hl with⟨q1,rfl⟩|⟨kl,q1⟩
    ·rw[q1];simp[Instr.sliceBounds,r1,r2]
    ·have r3:(Instr.sliceBound (.int kl l) hh.toNat .slice3C).run P w= .ok l.toNat w:=run_sliceBound w kl l hh.toNat .slice3C h0 (by omega)
     rw[q1];simp[Instr.sliceBounds,r1,r2,r3]
   refine⟨_,by simp only[execOp,hx,Sem.run_bind,Option.map_some,s.evv eh,s.evv em,Instr.sliceAt,run_underlying hu,Result.andThen_ok,Instr.slice,hb,run_sizeOf w hi,Sem.run_pure];rfl,VRel_undef⟩
  ·cases h
 ·cases h
end AM
namespace AM
open Go
variable {α:Type}{P:Program}{base:Nat}
def RowAt (N:Nm_)(D:Nat→Prop)(w:World)(t:Ty)(xs:List t.den)(g:Nat→Option Value):Prop:= ∀i (x:t.den),lget (β:=t.den) xs i=some x→TRel N D w t x (fun j=>g (i*t.size+j))
theorem idx_lt {i n s j:Nat}(hi:i<n)(hj:j<s):i*s+j<n*s:=by
 have:(i+1)*s≤n*s:=Nat.mul_le_mul_right _ hi
 rw[Nat.add_mul] at this;omega
theorem TRel.func {N:Nm_}{D:Nat→Prop}{w:World}{t:Ty}{x:t.den}{g g':Nat→Option Value}(h:TRel N D w t x g)(e: ∀j,g j=g' j):TRel N D w t x g':=by
 rw[←funext e];exact h
section
variable {N:Nm_}{D:Nat→Prop}{w:World}{t:Ty}
theorem lget_lt {xs:List t.den}{i:Nat}{x:t.den}(h:lget (β:=t.den) xs i=some x):i<llen (β:=t.den) xs:=(List.getElem?_eq_some_iff.1 h).1
theorem RowAt.congr {xs:List t.den}{g g':Nat→Option Value}(h:RowAt N D w t xs g)(e: ∀j,j<llen (β:=t.den) xs*t.size→g j=g' j):RowAt N D w t xs g':=
 fun i x hx=>Tc_ t x _ _ (fun j hj=>e _ (idx_lt (lget_lt hx) hj)) (h i x hx)
theorem RowAt.mono {D':Nat→Prop}{w':World}{xs:List t.den}{g:Nat→Option Value}(h:RowAt N D w t xs g)(hD: ∀b,D b→D' b)(hw: ∀b,D b→w'.heap[b]?=w.heap[b]?):RowAt N D' w' t xs g:=
 fun i x hx=>TRel_mono (Nm_.le_refl _) hD hw _ _ _ (h i x hx)
theorem RowAt.monoN {N':Nm_}{D':Nat→Prop}{w':World}{xs:List t.den}{g:Nat→Option Value}(h:RowAt N D w t xs g)(hN:N.le N')(hD: ∀b,D b→D' b)(hw: ∀b,D b→w'.heap[b]?=w.heap[b]?):RowAt N' D' w' t xs g:=
 fun i x hx=>TRel_mono hN hD hw _ _ _ (h i x hx)
theorem RowAt.cell {xs:List t.den}{g:Nat→Option Value}(h:RowAt N D w t xs g){j:Nat}(hj:j<llen (β:=t.den) xs*t.size): ∃c,g j=some c∧c.oneCell'=true:=
 TRel_cells (.arr (llen (β:=t.den) xs) t) xs g ⟨rfl,h⟩ j hj
theorem RowAt.cells {xs:List t.den}{g:Nat→Option Value}(h:RowAt N D w t xs g): ∃cs:List Value,cs.length=llen (β:=t.den) xs*t.size∧(∀j v,cs[j]?=some v→g j=some v)∧RowAt N D w t xs (cs[·]?)∧∀v∈cs,v.oneCell'=true:=by
 refine⟨(List.range (llen (β:=t.den) xs*t.size)).map fun j=>(g j).getD Go.undef,by simp,fun j v hv=>?_,h.congr fun j hj=>?_,fun v hv=>?_⟩
 ·simp only[List.getElem?_map,Option.map_eq_some_iff] at hv
  obtain⟨i,hi,rfl⟩:=hv
  obtain⟨hi1,hi2⟩:=List.getElem?_eq_some_iff.1 hi
  simp at hi1 hi2
  subst hi2
  obtain⟨c,h1,_⟩:=h.cell hi1
  rw[h1];rfl
 ·obtain⟨c,h1,_⟩:=h.cell hj
  simp[hj,h1]
 ·simp only[List.mem_map,List.mem_range] at hv
  obtain⟨j,hj,rfl⟩:=hv
  obtain⟨c,h1,h2⟩:=h.cell hj
  rw[h1];exact h2
theorem RowAt.nil {g:Nat→Option Value}:RowAt N D w t [] g:=fun i x hx=>by simp[lget] at hx
theorem RowAt.append {xs ys:List t.den}{g:Nat→Option Value}(h1:RowAt N D w t xs g)(h2:RowAt N D w t ys (fun j=>g (llen (β:=t.den) xs*t.size+j))):RowAt N D w t (xs++ys:List t.den) g:=by
 intro i x hx
 by_cases hi:i<llen (β:=t.den) xs
 ·exact h1 i x (by simp only[lget] at hx⊢;rwa [List.getElem?_append_left hi] at hx)
 ·have hx':lget (β:=t.den) ys (i-llen (β:=t.den) xs)=some x:=by
   simp only[lget] at hx⊢
   rwa [List.getElem?_append_right (Nat.le_of_not_lt hi)] at hx
  have:=h2 _ x hx'
  refine this.func fun j=>?_
  simp only
  rw[←Nat.add_assoc,←Nat.add_mul,Nat.add_sub_cancel' (Nat.le_of_not_lt hi)]
theorem RowAt.append_cells {xs ys:List t.den}{cs ds:List Value}(h1:RowAt N D w t xs (cs[·]?))(hl:cs.length=llen (β:=t.den) xs*t.size)(h2:RowAt N D w t ys (ds[·]?)):RowAt N D w t (xs++ys:List t.den) ((cs++ds)[·]?):=by
 refine RowAt.append (h1.congr fun j hj=>?_) ?_
 ·rw[List.getElem?_append_left (by omega)]
 ·have e:(fun j=>(cs++ds)[llen (β:=t.den) xs*t.size+j]?)=(ds[·]?):=by
   funext j
   rw[←hl,List.getElem?_append_right (by omega),Nat.add_sub_cancel_left]
  rw[e];exact h2
theorem RowAt.more {xs:List t.den}{cs ds:List Value}(h1:RowAt N D w t xs (cs[·]?))(hl:cs.length=llen (β:=t.den) xs*t.size):RowAt N D w t xs ((cs++ds)[·]?):=
 h1.congr fun j hj=>by rw[List.getElem?_append_left (by omega)]
theorem RowAt.take {xs:List t.den}{g:Nat→Option Value}(n:Nat)(h:RowAt N D w t xs g):RowAt N D w t (xs.take n:List t.den) g:=fun i x hx=>h i x (by
 simp only[lget] at hx⊢
 rw[List.getElem?_take] at hx
 split at hx
 ·exact hx
 ·cases hx)
theorem RowAt.drop {xs:List t.den}{g:Nat→Option Value}(n:Nat)(h:RowAt N D w t xs g):RowAt N D w t (xs.drop n:List t.den) (fun j=>g (n*t.size+j)):=fun i x hx=>by
 have:=h (n+i) x (by simp only[lget] at hx⊢;rwa [List.getElem?_drop] at hx)
 rw[show(fun j=>g (n*t.size+(i*t.size+j)))=fun j=>g ((n+i)*t.size+j) by funext j;rw[Nat.add_mul,Nat.add_assoc]]
 exact this
theorem RowAt.zeros (n:Nat){z:Array Value}(hz:z.toList=flatD t (zeroD t)){g:Nat→Option Value}(hg: ∀j,j<n*t.size→g j=z[j%t.size]?):RowAt N D w t (List.replicate n (zeroD t)) g:=by
 intro i x hx
 have hi:i<n:=by have:=lget_lt hx;simpa [llen] using this
 simp only[lget,List.getElem?_replicate,hi,if_true,Option.some.injEq] at hx
 subst hx
 refine zeroD_rel t _ fun j hj=>?_
 rw[hg _ (idx_lt hi hj),Nat.mul_comm,Nat.mul_add_mod,Nat.mod_eq_of_lt hj,←hz]
 simp
end
def Now (N:Nm_)(D:Nat→Prop)(w:World)(t:Ty)(xs:List t.den)(c:Value):Prop:= ∃a cap,c= .slice a (llen (β:=t.den) xs) cap∧llen (β:=t.den) xs≤cap∧(a=none→cap=0)∧∀ad,a=some ad→llen (β:=t.den) xs≠0→ad.spot=none∧RowAt N D w t xs (cA w ad)
theorem now_of_row {N:Nm_}{D:Nat→Prop}{w:World}{t:Ty}{xs:List t.den}{a:Addr}{off len room:Nat}{v:Value}(hx:RowAt N D w t xs (cA w a))
  (hv:SlAt (Addr.at_ a (off*t.size)) len room v) (hl:off+len≤llen (β:=t.den) xs):Now N D w t ((xs.drop off).take len:List t.den) v:=by
 obtain⟨a',cap,rfl,h1,rfl,h2⟩:=hv
 have e:llen (β:=t.den) ((xs.drop off).take len)=len:=by simp only[llen,List.length_take,List.length_drop];simp only[llen] at hl;omega
 refine⟨some a',cap,by rw[e],by rw[e];exact h1,(by intro h;cases h),fun ad had hne=>?_⟩
 cases had
 rw[e] at hne
 rcases h2 with rfl|h2
 ·refine⟨rfl,?_⟩
  have:=(hx.drop off).take len
  have e2:(fun j=>cA w a (off*t.size+j))=cA w (Addr.at_ a (off*t.size)):=by
   funext j;simp only[cA,Addr.at_,Nat.add_assoc]
  rw[←e2];exact this
 ·omega
theorem rdSlice_now {s:St}{t:Ty}{v:AV}{k:List t.den→List Nat→Option α}{r:α}(h:rdSlice s t v k=some r):
  ∃xs ids,k xs ids=some r∧∀N D w base,Sim N D w base s.h→∀c,VRel N D w v c→Now N D w t xs c:=by
 unfold rdSlice at h
 split at h
 ·rename_i t' zs
  split at h
  ·rename_i ys hc
   obtain⟨rfl,rfl⟩:=cLs hc
   refine⟨_,_,h,fun N D w base S c hv=>?_⟩
   obtain⟨a,cap,h1,h2,h3,h4⟩:=VRel_dp.1 hv
   simp only[Option.some.injEq] at h1
   exact⟨a,cap,h1,h2,h3,fun ad ha hne=>⟨(h4 ad ha hne).1,(h4 ad ha hne).2.2⟩⟩
  ·cases h
 ·refine⟨_,_,h,fun N D w base S c hv=>?_⟩
  rw[Vv.1 hv]
  exact⟨none,0,rfl,by simp[llen],fun _=>rfl,(by intro ad ha;cases ha)⟩
 ·rename_i id off
  split at h
  ·rename_i ro t' xs ho
   split at h
   ·rename_i ys hc
    obtain⟨rfl,rfl⟩:=cLs hc
    refine⟨_,_,h,fun N D w base S c hv=>?_⟩
    simp only[VRel,AV.isAgg,vrel,RA] at hv
    obtain⟨nm,h1,h2,h3,h4,h5⟩:=hv
    obtain⟨nm',e1,e2,e3,e4,e5,e6⟩:=S.obj id _ ho
    rw[h1] at e1;cases e1
    cases hb:nm.base with
    |none=>
     rw[hb] at h5
     obtain⟨h6,h7⟩:=h5
     have hx0:llen (β:=t'.den) ys=0:=by omega
     have hxe:ys=[]:=List.eq_nil_of_length_eq_zero hx0
     subst hxe
     simp only[Option.some.injEq] at h7
     subst h7
     exact⟨none,0,by simp[llen],by simp[llen],fun _=>rfl,(by intro ad ha;cases ha)⟩
    |some a=>
     rw[hb] at h5 e6
     obtain⟨u,room,h6,h7,h8⟩:=h5
     simp only[Option.some.injEq] at h6;subst h6
     obtain⟨_,_,_,e10⟩:=e6
     rw[e3,tS_] at h8
     have:=now_of_row (off:=off) (len:=nm.len-off) e10 h8 (by omega)
     rwa [List.take_of_length_le (by simp only[llen] at e4;simp;omega)] at this
   ·cases h
  ·cases h
 ·rename_i id p off len
  split at h
  ·rename_i hrow
   simp only[Bool.and_eq_true,List.isEmpty_iff] at hrow
   obtain⟨rfl,hrow⟩:=hrow
   split at h
   rotate_left
   ·cases h
   rename_i ro t' xs ho
   split at h
   ·rename_i ys hc
    obtain⟨rfl,rfl⟩:=cLs hc
    refine⟨_,_,h,fun N D w base S c hv=>?_⟩
    simp only[VRel,AV.isAgg,vrel,RA] at hv
    obtain⟨nm,h1,hv⟩:=hv
    obtain⟨nm',e1,e2,e3,e4,e5,e6⟩:=S.obj id _ ho
    rw[h1] at e1;cases e1
    cases h2:nm.base with
    |none=>
     rw[h2] at hv
     obtain⟨_,rfl,rfl,_,h7⟩:=hv
     simp only[Option.some.injEq] at h7
     subst h7
     exact⟨none,0,by simp[llen],by simp[llen],fun _=>rfl,(by intro ad ha;cases ha)⟩
    |some a=>
    rw[h2] at hv
    simp only at hv
    rw[if_pos (by simp[e2])] at hv
    obtain⟨h4,h5,u,room,h6,h7,h8,h9⟩:=hv
    rw[h2] at e6
    simp only[Option.some.injEq] at h6;subst h6
    obtain⟨_,_,_,e10⟩:=e6
    rw[e3,tS_] at h9
    exact now_of_row (off:=off) (len:=len) e10 h9 (by omega)
   ·cases h
  ·rename_i hrow
   obtain⟨u,h,hsh,hget⟩:=get_sound h
   split at h
   rotate_left
   ·cases h
   rename_i n t' xs
   split at h
   rotate_left
   ·cases h
   rename_i ys hc
   obtain⟨rfl,rfl⟩:=cLs hc
   refine⟨_,_,h,fun N D w base S c hv=>?_⟩
   simp only[VRel,AV.isAgg,vrel,RA] at hv
   obtain⟨nm,h1,hv⟩:=hv
   have hnr:=slice_place (by simpa using hrow) hsh S h1
   cases h2:nm.base with
   |none=>
    rw[h2] at hv
    obtain⟨h3,_⟩:=hv
    rw[hnr] at h3;cases h3
   |some a=>
    rw[h2] at hv
    simp only at hv
    rw[if_neg (by rw[hnr];simp)] at hv
    obtain⟨o,n',e,u,room,h3,h4,h5,h6,h7,h8⟩:=hv
    simp only[Option.some.injEq] at h6;subst h6
    obtain⟨g1,g2,_⟩:=hget N D w base S nm a o h1 h2 h3
    simp only[RA,TRel] at g2
    have hse:=shape_shp hsh S h1
    rw[h4] at hse
    simp only[AV.sh,Option.some.injEq,Sh.arr.injEq] at hse
    obtain⟨rfl,rfl⟩:=hse
    have hlen:llen (β:=t'.den) ys=n':=g2.1
    refine now_of_row (a:=Addr.at_ a o) (off:=off) (len:=len) (room:=room) (fun i x hi=>?_) (by rw[tS_] at h8;simpa [Addr.at_,Nat.add_assoc] using h8) (by omega)
    refine Tc_ _ _ _ _ (fun j _=>?_) (g2.2 i x hi)
    simp only[cA,Addr.at_,Nat.add_assoc]
 ·cases h
theorem Sim.newN {N:Nm_}{D:Nat→Prop}{w:World}{base:Nat}{h:Nat→Option AObj}(S:Sim N D w base h){id:Nat}(hfree:h id=none)(nm:Nm):N.le (N.up fun i=>if i=id then some nm else N i):=
 Nm_.le_up fun i nm' h'=>by
 by_cases e:i=id
 ·subst e;exact absurd hfree (S.named _ _ h')
 ·rw[if_neg e];exact h'
theorem Sim.makeRow {N:Nm_}{D:Nat→Prop}{w:World}{base:Nat}{h:Nat→Option AObj}(S:Sim N D w base h){id:Nat}{t:Ty}{xs:List t.den}(hfree:h id=none)(w1:World)(cells:Array Value)(ty:TypeId)(fz:Nat×Nat)(cap:Nat)
  (hw1:w1.heap=w.heap) (hos:w1.os=w.os) (htp:w1.tape=w.tape) (hout:w1.output=w.output) (hle:llen (β:=t.den) xs≤cap) (hsz:cap*t.size≤cells.size) (hfz:fz=(0,0)∨cells.size≤fz.1∧t= .int .u8) (hr:RowAt N D w t xs (cells[·]?)):
   ∃N',Sim N' D (w1.alloc (.cells cells ty fz)) base (upd h id (.row false t xs))∧Ext N D w h N' D (w1.alloc (.cells cells ty fz)) (upd h id (.row false t xs))∧VRel N' D (w1.alloc (.cells cells ty fz)) (.tail id 0) (.slice (some ⟨w.heap.size,0,none⟩) (llen (β:=t.den) xs) cap):=by
 have hheap:(w1.alloc (.cells cells ty fz)).heap=w.heap.push (.cells cells ty fz):=by rw[←hw1];rfl
 have hnew:(w1.alloc (.cells cells ty fz)).heap[w.heap.size]?=some (.cells cells ty fz):=by rw[hheap];simp
 have hother: ∀b,b<w.heap.size→(w1.alloc (.cells cells ty fz)).heap[b]?=w.heap[b]?:=fun b hb=>by rw[hheap,Array.getElem?_push,if_neg (by omega)]
 let nm:Nm:=⟨some ⟨w.heap.size,0,none⟩,tsh t,true,llen (β:=t.den) xs,cap⟩
 obtain⟨N',n1,n2,n3⟩:=S.make (w':=w1.alloc (.cells cells ty fz)) (o:= .row false t xs) (nm:=nm) hfree hos htp hout (by rw[hheap];simp) hother (fun a ha=>by cases ha;rw[hheap];simp) (by
  refine⟨nm,Nm_.up_at,rfl,rfl,rfl,hle,?_⟩
  show _∧_∧_∧_
  refine⟨rfl,⟨cells,ty,fz,hnew,by simpa [nm] using hsz,fun _=>hfz⟩,?_,fun i x hx=>?_⟩
  ·simp only[Bool.false_eq_true,if_false]
   exact⟨S.size,fun hd=>Nat.lt_irrefl _ (S.frozen _ hd)⟩
  ·have e:(fun j=>cA (w1.alloc (.cells cells ty fz)) ⟨w.heap.size,0,none⟩ (i*t.size+j))=fun j=>cells[i*t.size+j]?:=by
    funext j
    unfold cA World.cell?
    rw[hnew]
    simp
   rw[e]
   exact TRel_mono (S.newN hfree nm) (fun _ h=>h) (fun b hb=>hother b (S.frozen b hb)) _ _ _ (hr i x hx))
 refine⟨N',n2,n3,?_⟩
 unfold VRel
 simp only[AV.isAgg,vrel,RA]
 refine⟨nm,n1,rfl,Nat.zero_le _,hle,?_⟩
 show∃v room,_
 exact⟨_,cap,rfl,by simp[nm],_,_,rfl,hle,rfl, .inl (by simp[Addr.at_])⟩
theorem new_spec {s:St}{id:Nat}{o:AObj}{k:St→Option α}{r:α}(h:s.new id o k=some r):s.h id=none∧k (s.set id o)=some r:=by
 unfold St.new at h
 split at h
 ·exact⟨‹_›,h⟩
 ·cases h
theorem new_row {s:St}{id:Nat}{t:Ty}{xs:List t.den}{k:St→Option α}{r:α}(h:s.new id (.row false t xs) k=some r):
  ∃s',k s'=some r∧s'.t=s.t∧s'.nt=s.nt∧s'.ep=s.ep∧(∀j,j≠id→s'.h j=s.h j)∧∀N D w base,Sim N D w base s.h→∀(w1:World) (cells:Array Value) (ty:TypeId) (fz:Nat×Nat) (cap:Nat),
   w1.heap=w.heap→w1.os=w.os→w1.tape=w.tape→w1.output=w.output→llen (β:=t.den) xs≤cap→cap*t.size≤cells.size→(fz=(0,0)∨cells.size≤fz.1∧t= .int .u8)→RowAt N D w t xs (cells[·]?)→
   ∃N',Sim N' D (w1.alloc (.cells cells ty fz)) base s'.h∧Ext N D w s.h N' D (w1.alloc (.cells cells ty fz)) s'.h∧VRel N' D (w1.alloc (.cells cells ty fz)) (.tail id 0) (.slice (some ⟨w.heap.size,0,none⟩) (llen (β:=t.den) xs) cap):=by
 obtain⟨hfree,hk⟩:=new_spec h
 exact⟨_,hk,rfl,rfl,rfl,fun j hj=>by simp[St.set,hj],fun N D w base S w1 cells ty fz cap h1 h2 h3 h4 h5 h6 h7 h8=>S.makeRow hfree w1 cells ty fz cap h1 h2 h3 h4 h5 h6 h7 h8⟩
theorem zero_flat: ∀(n:Nat) (t:TypeId) (te:Ty) (v:AV),tyOf P n t=some te→zeroOf P n t=some v→flatV v=flatD te (zeroD te)
 |0,_,_,_,h,_=>by simp[tyOf] at h
 |n+1,t,te,v,h1,h2=>by
  unfold tyOf at h1
  unfold zeroOf at h2
  split at h1
  ·rename_i k hu;rw[hu] at h2;simp only[Option.some.injEq] at h1 h2;subst h1;subst h2;simp[flatV,flatD,zeroD]
  ·rename_i hu;rw[hu] at h2;simp only[Option.some.injEq] at h1 h2;subst h1;subst h2;simp[flatV,flatD,zeroD]
  ·rename_i hu;rw[hu] at h2;simp only[Option.some.injEq] at h1 h2;subst h1;subst h2;simp[flatV,flatD,zeroD]
  ·rename_i fs hu
   rw[hu] at h2
   simp only[Option.map_eq_some_iff] at h2
   obtain⟨vs,h2,rfl⟩:=h2
   have key: ∀(l:List Field) (te:Ty) (vs:List AV),l.foldr (fun f acc=>match tyOf P n f.type,acc with|some a,some b=>some (Ty.cons a b)|_,_=>none) (some .nil)=some te→
     l.foldr (fun f acc=>match zeroOf P n f.type,acc with|some a,some b=>some (a::b)|_,_=>none) (some [])=some vs→flatVs vs=flatD te (zeroD te):=by
    intro l
    induction l with
    |nil=>intro te vs h1 h2;simp only[List.foldr_nil,Option.some.injEq] at h1 h2;subst h1;subst h2;rfl
    |cons f l ih=>
     intro te vs h1 h2
     simp only[List.foldr_cons] at h1 h2
     split at h1
     ·rename_i a b g1 g2
      simp only[Option.some.injEq] at h1;subst h1
      split at h2
      ·rename_i a' b' g3 g4
       simp only[Option.some.injEq] at h2;subst h2
       simp only[flatVs,zero_flat n _ _ _ g1 g3,ih _ _ g2 g4,flatD,zeroD]
      ·cases h2
     ·cases h1
   rw[flatV_agg];exact key _ _ _ h1 h2
  ·rename_i m e hu
   rw[hu] at h2
   simp only[Option.map_eq_some_iff] at h1
   obtain⟨te1,g1,rfl⟩:=h1
   simp only at h2
   split at h2
   ·rename_i hs
    simp only[Option.some.injEq] at h2;subst h2
    have hz:zeroOf P n e=some (.val (.slice none 0 0)):=by
     unfold isSliceT at hs
     split at hs
     ·rename_i e' hu'
      cases n with
      |zero=>simp[tyOf] at g1
      |succ n=>unfold zeroOf;rw[hu']
     ·cases hs
    have ih:=zero_flat n e te1 _ g1 hz
    have key: ∀m,flatVs (List.replicate m (.val (.slice none 0 0)))=(List.replicate m (zeroD te1)).flatMap (flatD te1):=by
     intro m
     induction m with
     |zero=>rfl
     |succ m ihm=>simp only[List.replicate_succ,flatVs,List.flatMap_cons,ihm,ih]
    rw[flatV_agg,key]
    simp only[flatD,zeroD]
   ·simp only[Option.map_eq_some_iff] at h2
    obtain⟨te2,g2,rfl⟩:=h2
    rw[g1] at g2;cases g2
    simp only[flatV,flatD,zeroD]
  ·rename_i e hu
   rw[hu] at h2
   simp only[Option.map_eq_some_iff] at h1
   obtain⟨te1,g1,rfl⟩:=h1
   simp only[Option.some.injEq] at h2;subst h2;simp[flatV,flatD,zeroD]
  ·rename_i hu;rw[hu] at h2;simp only[Option.some.injEq] at h1 h2;subst h1;subst h2;simp[flatV,flatD,zeroD]
  ·cases h1
end AM
namespace AM
open Go
variable {α:Type}{P:Program}{base:Nat}
theorem elemT_spec {t e:TypeId}{te:Ty}(h:elemT P t=some (e,te)):P.underlying t=some (.slice e)∧tyOf P 12 e=some te∧te.size=P.cellsOf e∧1≤P.bytesOf e∧∃i,P.info? e=some i∧i.size=te.size∧i.bytes=P.bytesOf e∧∃z,i.zero=some z∧z.cells.size=te.size:=by
 unfold elemT at h
 split at h
 ·rename_i e' hu
  split at h
  ·rename_i te' ht
   split at h
   ·rename_i hs
    simp only[Option.some.injEq,Prod.mk.injEq] at h
    obtain⟨rfl,rfl⟩:=h
    obtain⟨⟨d,hd⟩,_⟩:=tyOf_agg 12 _ _ ht
    obtain⟨i,hi⟩:=info_of_underlying hd
    refine⟨hu,ht,hs.1,hs.2.1,i,hi,?_,?_,?_⟩
    ·rw[hs.1];simp[Program.cellsOf,hi]
    ·simp[Program.bytesOf,hi]
    ·have hz:=hs.2.2
     unfold hasZero at hz
     split at hz
     ·rename_i z hz2
      rw[hi] at hz2
      exact⟨z,hz2,by simpa using hz⟩
     ·cases hz
   ·cases h
  ·cases h
 ·cases h
theorem room_eq:room=70368744177664:=by decide
theorem fine_makeSlice {dst ty pos after guard}{t:TypeId}{x y:Operand}{st:St}{id:Nat}(hid:id=name st.ep (dst.getD 999) 0){k:AV→St→Option α}{r:α}(h:opMakeSlice P st id t (st.ev x) (st.ev y) k=some r):Fine P base ⟨dst, .makeSlice t x y,ty,pos,after,guard⟩ st k r:=by
 unfold opMakeSlice at h
 split at h
 ·rename_i e te he
  obtain⟨hu,hte,hsz,hb,i,hi,his,hib,_⟩:=elemT_spec he
  obtain⟨ka,n,ea,h⟩:=nat?_spec h
  obtain⟨kb,m,eb,h⟩:=nat?_spec h
  obtain⟨⟨h1,h2,h3⟩,hk⟩:=oM h
  subst h1
  obtain⟨v,i',z,hk2,hi',hz,hzo,hzl,_,_⟩:=zeroV_spec hk
  rw[hi] at hi';cases hi'
  obtain⟨s',g1,g2,g3,g4,hfr,g5⟩:=new_row hk2
  refine⟨_,_,g1,g2,g3,g4,fun j _ hj=>hfr j (fun e=>by subst e;subst hid;simp[inNew,makes,name_new] at hj),fun N D w a s=>?_⟩
  have hfl:=zero_flat 12 e te v hte hzo
  rw[←hzl] at hfl
  have hzs:z.cells.size=te.size:=by rw[←zeroD_len te,←hfl];simp
  rw[room_eq] at h3
  have hn:n≤70368744177664:=by
   have:n*1≤n*(P.bytesOf e:Int):=Int.mul_le_mul_of_nonneg_left (by omega) h2
   omega
  have hrun:=run_make (P:=P) w t e i z hu hi hz ka kb n n h2 (Int.le_refl _) (by rw[hib,Int.mul_comm];omega) (by omega)
  obtain⟨N',n1,n2,n3⟩:=g5 N D w base s.sim w (madeCells z.cells (n.toNat*i.size)) e (0,0) n.toNat rfl rfl rfl rfl (by simp[llen]) (by rw[size_madeCells,his];exact Nat.le_refl _) (.inl rfl) (by
   refine RowAt.zeros n.toNat hfl fun j hj=>?_
   have hp:0<te.size:=by
    rcases Nat.eq_zero_or_pos te.size with q|q
    ·rw[q] at hj;omega
    ·exact q
   have hm:j%te.size<z.cells.size:=by rw[hzs];exact Nat.mod_lt _ hp
   simp only[madeCells,his]
   rw[Array.getElem?_map,Array.getElem?_range,if_pos hj]
   rw[hzs,Option.map_some,getElem!_pos z.cells _ hm,Array.getElem?_eq_getElem hm])
  rw[show llen (β:=te.den) (List.replicate n.toNat (zeroD te))=n.toNat by simp[llen]] at n3
  refine⟨N',D,_,_, .inl ?_,n2,n1,n3⟩
  simp only[execOp,s.evv ea,s.evv eb,Sem.run_bind,hrun,Result.andThen_ok,Sem.run_pure,his]
 ·cases h
end AM
namespace AM
open Go
variable {α:Type}{P:Program}{base:Nat}
structure AppSrc (P:Program)(tys:Array TypeId)(rt e:TypeId)(i:TypeInfo)(z:Value)(w:World)(x:Value)(n:Nat)(cs:List Value):Prop where
 fits: ∀b sLen sCap,sLen+n≤sCap→(Builtin.append_ tys rt #[.slice b sLen sCap,x]).run P w=(match b with|none=> .ok (.slice b (sLen+n) sCap) w|some a=>((storeCells (a.add (sLen*i.size)) cs).run P w).andThen fun _ w'=> .ok (.slice b (sLen+n) sCap) w')
 grows: ∀b sLen sCap,sCap<sLen+n→(sLen+n)*i.bytes≤70368744177664→∀olds:List Value,(Builtin.firstCells i.size sLen (.slice b sLen sCap)).run P w.drew= .ok olds.toArray w.drew→
  (Builtin.append_ tys rt #[.slice b sLen sCap,x]).run P w= .ok (.slice (some ⟨w.heap.size,0,none⟩) (sLen+n) (grownCap w (sLen+n) sCap e)) (w.drew.alloc (.cells (olds++cs++(Builtin.zeroCells z.cells (grownCap w (sLen+n) sCap e-(sLen+n))).toList).toArray e))
theorem arr3 (a:Array Value)(cs:List Value)(b:Array Value):a++cs.toArray++b=(a.toList++cs++b.toList).toArray:=by
 apply Array.ext';simp
theorem AppSrc.of {tys:Array TypeId}{t u rt e:TypeId}{i:TypeInfo}{z:Value}{w:World}{x:Value}{n:Nat}{cs:List Value}(h0:tys[0]?=some t)(h1:tys[1]?=some u)(ht:P.underlying t=some (.slice e))(hi:P.info? e=some i)(hz:i.zero=some z)(hb:1≤i.bytes)
  {d:TypeDesc} (hu:P.underlying u=some d) (hd: ∀k,d≠ .int k) (hl: ∀w',(Builtin.lenOf x).run P w'= .ok n w') (hf:(Builtin.firstCells i.size n x).run P w= .ok cs.toArray w) (hf2:(Builtin.firstCells i.size n x).run P w.drew= .ok cs.toArray w.drew):AppSrc P tys rt e i z w x n cs:=by
 constructor
 ·intro b sLen sCap hfit
  simp only[Builtin.append_,h0,h1]
  cases b<;>simp[run_underlying ht,run_underlying hu,Go.sizeOf,typeInfo,hi,hl,hfit,hf]
 ·intro b sLen sCap hg hby olds ho
  have hsum:sLen+n≤70368744177664:=by
   have:(sLen+n)*1≤(sLen+n)*i.bytes:=Nat.mul_le_mul_left _ hb
   omega
  have h48: ¬(281474976710656<Builtin.nextslicecap (sLen+n) sCap*i.bytes):=by
   have:=growslice_fits (old:=sCap) (need:=sLen+n) (bytes:=i.bytes) hg (by omega)
   omega
  have hn: ¬(sLen+n≤sCap):=by omega
  have h63: ¬(9223372036854775807<((sLen:Int)+(n:Int))):=by omega
  simp only[Builtin.append_,h0,h1]
  simp[run_underlying ht,run_underlying hu,Go.sizeOf,typeInfo,zeroValue,hi,hz,hl,hn,h63,h48,Question.forced,hf2,ho,newRow,grownCap]
  congr 2
  apply Array.ext'
  simp
theorem wrap_small {n:Int}(h0:0≤n)(h1:n≤70368744177664):IntKind.i64.wrap n=n:=by rw[IntKind.wrap_i64];omega
theorem AppSrc.zeros {tys:Array TypeId}{t u rt e:TypeId}{i:TypeInfo}{z:Value}{w:World}{n:Int}(h0:tys[0]?=some t)(h1:tys[1]?=some u)(ht:P.underlying t=some (.slice e))(hi:P.info? e=some i)(hz:i.zero=some z)(hb:1≤i.bytes)
  {k k':IntKind} (hu:P.underlying u=some (.int k)) (hn0:0≤n) (hn1:n*(i.bytes:Int)≤70368744177664) (hs:z.cells.size=i.size):AppSrc P tys rt e i z w (.int k' n) n.toNat (Builtin.zeroCells z.cells n.toNat).toList:=by
 have hnn:n≤70368744177664:=by
  have:n*1≤n*(i.bytes:Int):=Int.mul_le_mul_of_nonneg_left (by omega) hn0
  omega
 have hw:=wrap_small hn0 hnn
 have hneg: ¬n<0:=by omega
 have hbig: ¬(281474976710656<n*(i.bytes:Int)):=by omega
 have hzero:n.toNat*i.size=0→(Builtin.zeroCells z.cells n.toNat)= #[]:=by
  intro h
  apply Array.eq_empty_of_size_eq_zero
  rw[size_zeroCells,hs];exact h
 constructor
 ·intro b sLen sCap hfit
  simp only[Builtin.append_,h0,h1]
  by_cases hq:n.toNat*i.size=0
  ·cases b<;>simp[run_underlying ht,run_underlying hu,Go.sizeOf,typeInfo,hi,asInt,asIntOf,hw,hneg,hbig,hfit,hq,hzero hq]
  ·cases b<;>simp[run_underlying ht,run_underlying hu,Go.sizeOf,typeInfo,zeroValue,hz,hi,asInt,asIntOf,hw,hneg,hbig,hfit,hq]
 ·intro b sLen sCap hg hby olds ho
  have hsum:sLen+n.toNat≤70368744177664:=by
   have:(sLen+n.toNat)*1≤(sLen+n.toNat)*i.bytes:=Nat.mul_le_mul_left _ hb
   omega
  have h48: ¬(281474976710656<Builtin.nextslicecap (sLen+n.toNat) sCap*i.bytes):=by
   have:=growslice_fits (old:=sCap) (need:=sLen+n.toNat) (bytes:=i.bytes) hg (by omega)
   omega
  have hn: ¬(sLen+n.toNat≤sCap):=by omega
  have h63: ¬(9223372036854775807<((sLen:Int)+(n.toNat:Int))):=by omega
  have h63': ¬(9223372036854775807<((sLen:Int)+n)):=by omega
  have h63'': ¬(9223372036854775807<((sLen:Int)+max n 0)):=by omega
  simp only[Builtin.append_,h0,h1]
  by_cases hq:n.toNat*i.size=0
  ·simp[run_underlying ht,run_underlying hu,Go.sizeOf,typeInfo,zeroValue,hi,hz,asInt,asIntOf,hw,hneg,hbig,hn,h63,h63',h63'',h48,Question.forced,hq,hzero hq,ho,newRow,grownCap]
   congr 2
   apply Array.ext'
   simp
  ·simp[run_underlying ht,run_underlying hu,Go.sizeOf,typeInfo,zeroValue,hi,hz,asInt,asIntOf,hw,hneg,hbig,hn,h63,h63',h63'',h48,Question.forced,hq,ho,newRow,grownCap]
   congr 2
   apply Array.ext'
   simp
end AM
namespace AM
open Go
variable {α:Type}{P:Program}{base:Nat}
theorem Sim.move {N:Nm_}{D:Nat→Prop}{w w':World}{base:Nat}{h:Nat→Option AObj}(S:Sim N D w base h){i id:Nat}{o o':AObj}{nm nm':Nm}{a a':Addr}(ho:h i=some o)(hrw:o.rw=true)(hn:N i=some nm)(hb:nm.base=some a)(hfree:upd h i .dead id=none)
  (hb':nm'.base=some a') (hblk:a'.block=a.block)
  (hos:w'.os=w.os) (htape:w'.tape=w.tape) (hout:w'.output=w.output) (hsize:w'.heap.size=w.heap.size) (hother: ∀b,b≠a.block→w'.heap[b]?=w.heap[b]?) (hobj:ObjAt (N.up fun j=>if j=id then some nm' else N j) D w' base id o') (hr':o'.rw=true:=by rfl):
  ∃N':Nm_,N' id=some nm'∧Sim N' D w' base (upd (upd h i .dead) id o')∧Ext N D w h N' D w' (upd (upd h i .dead) id o'):=by
 have hownO:OwnO N i o a.block:=OwnO.of hrw hn hb
 have hown:Own N h a.block:=⟨i,o,ho,hownO⟩
 have hnd:=(S.own_live hown).1
 have hD: ∀b,D b→w'.heap[b]?=w.heap[b]?:=fun b hb'=>hother b (fun e=>hnd (e▸hb'))
 have hne:id≠i:=by intro e;subst e;simp[upd] at hfree
 have hfree':h id=none:=by simpa only[upd,if_neg hne] using hfree
 have hNn:N id=none:=by
  cases e:N id with
  |none=>rfl
  |some nm'=>exact absurd hfree' (S.named id nm' e)
 have hN:N.le (N.up fun j=>if j=id then some nm' else N j):=Nm_.le_new hNn
 have hNne: ∀j,j≠id→(N.up fun j=>if j=id then some nm' else N j) j=N j:=fun j e=>if_neg e
 have hold: ∀j oj b,j≠id→OwnO (N.up fun j=>if j=id then some nm' else N j) j oj b→OwnO N j oj b:=fun j oj b e=>(OwnO.names (hNne j e) (fun _=>rfl)).1
 have hnewb: ∀b,OwnO (N.up fun j=>if j=id then some nm' else N j) id o' b→b=a.block:=fun b hO=>by rw[OwnO.at_ hr' Nm_.up_at hb' hO,hblk]
 have key: ∀j oj b,upd (upd h i .dead) id o' j=some oj→OwnO N j oj b→j≠id→j≠i∧h j=some oj:=by
  intro j oj b hj rj e
  simp only[upd,if_neg e] at hj
  by_cases e2:j=i
  ·subst e2;simp at hj;subst hj;exact rj.elim
  ·exact⟨e2,by simpa only[if_neg e2] using hj⟩
 refine⟨N.up fun j=>if j=id then some nm' else N j,Nm_.up_at,⟨fun j oj hj=>?_,?_,fun b hb=>by rw[hsize];exact S.frozen b hb,fun j nm2 hn2=>?_,by rw[hsize];exact S.size,fun g hg=>?_⟩,⟨hN,fun _ h=>h,hos,htape,hout,by rw[hsize];exact Nat.le_refl _,fun b _ hno=>hother b (fun e=>hno (e▸hown)),fun b _ hO=>?_,fun _ h=> .inl h,fun j nm2 hn2=>?_,fun _ h=>upd_live (upd_live h),fun g hg=>⟨?_,fun _=>rfl⟩⟩⟩
 ·by_cases e:j=id
  ·subst e;simp[upd] at hj;subst hj;exact hobj
  ·simp only[upd,if_neg e] at hj
   by_cases e2:j=i
   ·subst e2;simp at hj;subst hj;trivial
   ·simp only[if_neg e2] at hj
    refine ObjAt_congr (S.obj j oj hj) hN (fun _ h=>h) hD (fun b hO=>⟨hother _ (fun eb=>e2 ?_),fun h=>h⟩) (fun _ _ _ _=>rfl)
    exact S.apart j i oj o b hj ho hO (eb▸hownO)
 ·intro j1 j2 o1 o2 b h1 h2 r1 r2
  by_cases e1:j1=id<;>by_cases e2:j2=id
  ·rw[e1,e2]
  ·exfalso
   subst e1
   simp[upd] at h1;subst h1
   have e4:=hnewb b r1
   have r2:=hold j2 o2 b e2 r2
   obtain⟨e3,h3⟩:=key j2 o2 b h2 r2 e2
   exact e3 (S.apart j2 i o2 o b h3 ho r2 (e4▸hownO))
  ·exfalso
   subst e2
   simp[upd] at h2;subst h2
   have e4:=hnewb b r2
   have r1:=hold j1 o1 b e1 r1
   obtain⟨e3,h3⟩:=key j1 o1 b h1 r1 e1
   exact e3 (S.apart j1 i o1 o b h3 ho r1 (e4▸hownO))
  ·have r1:=hold j1 o1 b e1 r1
   have r2:=hold j2 o2 b e2 r2
   exact S.apart j1 j2 o1 o2 b (key j1 o1 b h1 r1 e1).2 (key j2 o2 b h2 r2 e2).2 r1 r2
 ·by_cases e:j=id
  ·simp[upd,e]
  ·simp only[upd,if_neg e]
   rw[hNne j e] at hn2
   by_cases e2:j=i
   ·simp[e2]
   ·simp only[if_neg e2];exact S.named j nm2 hn2
 ·by_cases e:SB+g=id
  ·simp only[upd,if_pos e] at hg
   cases o'<;>simp[AM.absent] at hg
   cases hr'
  ·simp only[upd,if_neg e] at hg
   by_cases e2:SB+g=i
   ·simp[if_pos e2,AM.absent] at hg
   ·simp only[if_neg e2] at hg;exact S.absent g hg
 ·obtain⟨j,oj,hj,rj⟩:=hO
  by_cases e:j=id
  ·subst e
   simp[upd] at hj;subst hj
   rw[hnewb b rj];exact hown
  ·have rj:=hold j oj b e rj
   exact⟨j,oj,(key j oj b hj rj e).2,rj⟩
 ·by_cases e:j=id
  ·subst e;exact .inr hfree'
  ·rw[hNne j e] at hn2;exact .inl hn2
 ·by_cases e:SB+g=id
  ·subst e;rw[hfree'] at hg;cases hg
  ·by_cases e2:SB+g=i
   ·subst e2;rw[ho] at hg;cases hg;cases hrw
   ·simp only[upd,if_neg e,if_neg e2];exact hg
theorem Sim.makeNil {N:Nm_}{D:Nat→Prop}{w:World}{base:Nat}{h:Nat→Option AObj}(S:Sim N D w base h){id:Nat}{t:Ty}{xs:List t.den}(hxs:llen (β:=t.den) xs=0)(hfree:h id=none):
  ∃N':Nm_,Sim N' D w base (upd h id (.row false t xs))∧Ext N D w h N' D w (upd h id (.row false t xs))∧VRel N' D w (.tail id 0) (.slice none 0 0):=by
 obtain⟨N',n1,n2,n3⟩:=S.make (w':=w) (o:= .row false t xs) (nm:=⟨none,tsh t,true,0,0⟩) hfree rfl rfl rfl (Nat.le_refl _) (fun _ _=>rfl) (fun a ha=>by cases ha) ⟨_,Nm_.up_at,rfl,rfl,hxs.symm,Nat.le_refl _,rfl⟩
 refine⟨N',n2,n3,?_⟩
 unfold VRel
 simp only[AV.isAgg,vrel,RA]
 exact⟨_,n1,rfl,Nat.le_refl _,Nat.le_refl _,by simp⟩
theorem Ext.mid {N N' N'':Nm_}{D D' D'':Nat→Prop}{w w' w'':World}{h h' h'':Nat→Option AObj}(x:Ext N D w h N' D' w' h')(y:Ext N' D' w' h' N'' D'' w'' h''):Ext N D w h N'' D'' w'' h'':=x.trans y
theorem firstCells_of {N:Nm_}{w:World}{t:Ty}{xs:List t.den}{D:Nat→Prop}{c:Value}{cs:List Value}{size:Nat}(hs:size=t.size)(h:Now N D w t xs c){w':World}(hw:w'.heap=w.heap)(hl:cs.length=llen (β:=t.den) xs*t.size)(hc: ∀a n cap,c= .slice (some a) n cap→llen (β:=t.den) xs≠0→∀j v,cs[j]?=some v→w.cell? (a.add j)=some v):
  (Builtin.firstCells size (llen (β:=t.den) xs) c).run P w'= .ok cs.toArray w':=by
 obtain⟨a,cap,rfl,h1,h2,h3⟩:=h
 subst hs
 by_cases h0:llen (β:=t.den) xs=0
 ·have hcs:cs=[]:=List.eq_nil_of_length_eq_zero (by rw[hl,h0];simp)
  subst hcs
  rw[h0]
  cases a with
  |none=>exact run_firstCells_none (P:=P) w' _ _ _ _
  |some a=>exact run_firstCells_some (P:=P) w' t.size 0 a _ cap [] (by simp) (by simp)
 ·cases a with
  |none=>have:=h2 rfl;omega
  |some a=>
   refine run_firstCells_some (P:=P) w' t.size _ a _ cap cs hl fun j v hv=>?_
   have:=hc a _ _ rfl h0 j v hv
   rw[←this]
   simp only[World.cell?,hw]
theorem Now.cells {N:Nm_}{w:World}{t:Ty}{xs:List t.den}{D:Nat→Prop}{c:Value}(h:Now N D w t xs c): ∃cs:List Value,cs.length=llen (β:=t.den) xs*t.size∧RowAt N D w t xs (cs[·]?)∧(∀v∈cs,v.oneCell'=true)∧
  ∀w':World,w'.heap=w.heap→(Builtin.firstCells t.size (llen (β:=t.den) xs) c).run P w'= .ok cs.toArray w':=by
 have h':=h
 obtain⟨a,cap,rfl,h1,h2,h3⟩:=h
 by_cases h0:llen (β:=t.den) xs=0
 ·have hxs:xs=[]:=List.eq_nil_of_length_eq_zero h0
  refine⟨[],by rw[h0];simp,?_,by simp,fun w' hw=>firstCells_of rfl h' hw (by rw[h0];simp) (by simp)⟩
  subst hxs;exact RowAt.nil
 ·cases a with
  |none=>have:=h2 rfl;omega
  |some a=>
   obtain⟨f1,f2⟩:=h3 a rfl h0
   obtain⟨cs,g1,g2,g3,g4⟩:=f2.cells
   refine⟨cs,g1,g3,g4,fun w' hw=>firstCells_of rfl h' hw g1 fun a' n cap' e _ j v hv=>?_⟩
   cases e
   obtain⟨b,o,sp⟩:=a
   simp only at f1;subst f1
   rw[addr_add];exact g2 j v hv
end AM
namespace AM
open Go
variable {α:Type}{P:Program}{base:Nat}
structure Src (P:Program)(tys:Array TypeId)(rt e:TypeId)(i:TypeInfo)(z:Value)(N:Nm_)(D:Nat→Prop)(w:World)(te:Ty)(ys:List te.den)(x:Value)(cs:List Value):Prop where
 app:AppSrc P tys rt e i z w x (llen (β:=te.den) ys) cs
 len:cs.length=llen (β:=te.den) ys*te.size
 row:RowAt N D w te ys (cs[·]?)
 one: ∀v∈cs,v.oneCell'=true
def AppOut (P:Program)(tys:Array TypeId)(rt:TypeId)(base:Nat)(N:Nm_)(D:Nat→Prop)(w:World)(h:Nat→Option AObj)(v x:Value)(h':Nat→Option AObj)(u:AV):Prop:=
 ∃N' D' w' v',(Builtin.append_ tys rt #[v,x]).run P w= .ok v' w'∧Ext N D w h N' D' w' h'∧Sim N' D' w' base h'∧VRel N' D' w' u v'
section
variable {tys:Array TypeId}{rt e:TypeId}{i:TypeInfo}{z:Value}{N:Nm_}{D:Nat→Prop}{w:World}{te:Ty}{h:Nat→Option AObj}
theorem app_grown (S:Sim N D w base h){id:Nat}(hfree:h id=none)(his:i.size=te.size)(hzs:z.cells.size=te.size){bs ys:List te.den}{olds cs:List Value}{x:Value}{b:Option Addr}{cap:Nat}(src:Src P tys rt e i z N D w te ys x cs)
  (hg:cap<llen (β:=te.den) bs+llen (β:=te.den) ys) (hby:(llen (β:=te.den) bs+llen (β:=te.den) ys)*i.bytes≤70368744177664) (ho:(Builtin.firstCells i.size (llen (β:=te.den) bs) (.slice b (llen (β:=te.den) bs) cap)).run P w.drew= .ok olds.toArray w.drew)
  (hol:olds.length=llen (β:=te.den) bs*te.size) (hor:RowAt N D w te bs (olds[·]?)):AppOut P tys rt base N D w h (.slice b (llen (β:=te.den) bs) cap) x (upd h id (.row false te (bs++ys:List te.den))) (.tail id 0):=by
 have hrun:=src.app.grows b _ cap hg hby olds ho
 have hge:=grownCap_ge w (llen (β:=te.den) bs+llen (β:=te.den) ys) cap e
 have hll:llen (β:=te.den) (bs++ys)=llen (β:=te.den) bs+llen (β:=te.den) ys:=by simp[llen]
 obtain⟨N',n1,n2,n3⟩:=S.makeRow (t:=te) (xs:=(bs++ys:List te.den)) hfree w.drew e (0,0) (grownCap w (llen (β:=te.den) bs+llen (β:=te.den) ys) cap e) rfl rfl rfl rfl (by rw[hll];exact hge)
  (cells:=(olds++cs++(Builtin.zeroCells z.cells (grownCap w (llen (β:=te.den) bs+llen (β:=te.den) ys) cap e-(llen (β:=te.den) bs+llen (β:=te.den) ys))).toList).toArray)
  (by
   simp only[List.size_toArray,List.length_append,hol,src.len,Array.length_toList,size_zeroCells,hzs,←Nat.add_mul]
   exact Nat.mul_le_mul_right _ (by omega)) (.inl rfl) (by
   have h1:=(hor.append_cells hol src.row).more (ds:=(Builtin.zeroCells z.cells (grownCap w (llen (β:=te.den) bs+llen (β:=te.den) ys) cap e-(llen (β:=te.den) bs+llen (β:=te.den) ys))).toList) (by rw[List.length_append,hol,src.len,hll,Nat.add_mul])
   refine h1.congr fun j _=>?_
   simp)
 rw[hll] at n3
 exact⟨N',D,_,_,hrun,n2,n1,n3⟩
theorem app_nil (S:Sim N D w base h){id:Nat}(hfree:h id=none)(his:i.size=te.size)(hzs:z.cells.size=te.size){ys:List te.den}{cs:List Value}{x:Value}(src:Src P tys rt e i z N D w te ys x cs)
  (hby:(llen (β:=te.den) ys)*i.bytes≤70368744177664):AppOut P tys rt base N D w h (.slice none 0 0) x (upd h id (.row false te ys)) (.tail id 0):=by
 by_cases hn:llen (β:=te.den) ys=0
 ·obtain⟨N',n1,n2,n3⟩:=S.makeNil hn hfree
  have:=src.app.fits none 0 0 (by omega)
  refine⟨N',D,w,_,this,n2,n1,by rw[hn];exact n3⟩
 ·have:=app_grown (bs:=[]) (olds:=[]) (b:=none) (cap:=0) S hfree his hzs src (by simp only[llen,List.length_nil];simp only[llen] at hn;omega) (by simpa [llen] using hby) (run_firstCells_none (P:=P) w.drew _ _ _ _) (by simp[llen]) RowAt.nil
  simpa [llen] using this
theorem AppOut.after {N':Nm_}{D':Nat→Prop}{w':World}{h' h'':Nat→Option AObj}{v x:Value}{u:AV}(hw:w'=w)(a:AppOut P tys rt base N' D' w' h' v x h'' u)(y:Ext N D w h N' D' w' h'):AppOut P tys rt base N D w h v x h'' u:=by
 subst hw
 obtain⟨N2,D2,w2,v2,h1,h2,h3,h4⟩:=a
 exact⟨N2,D2,w2,v2,h1,y.trans h2,h3,h4⟩
theorem storeCells_run {b o:Nat}{cs:List Value}{C:Array Value}{ty:TypeId}{fz:Nat×Nat}(hb:w.heap[b]?=some (.cells C ty fz))(hz:fz=(0,0)∨C.size≤fz.1)(hl:o+cs.length≤C.size)(h1: ∀v∈cs,v.oneCell'=true):
  (storeCells ⟨b,o,none⟩ cs).run P w= .ok () (w.setCells b o cs):=by
 have:=run_storeCells_cells (P:=P) b o cs 0 w (fun j hj=>cells_isSome hb (by omega)) (fun j hj=>not_frozen hb hz (by omega)) h1
 simpa using this
theorem app_tail (S:Sim N D w base h){id q off:Nat}{xs:List te.den}(ho:h q=some (.row false te xs))(hfree:upd h q .dead id=none)(his:i.size=te.size)(hzs:z.cells.size=te.size){ys:List te.den}{cs:List Value}{x v:Value}(src:Src P tys rt e i z N D w te ys x cs)
  (hv:VRel N D w (.tail q off) v) (hby:(llen (β:=te.den) (xs.drop off)+llen (β:=te.den) ys)*i.bytes≤70368744177664):AppOut P tys rt base N D w h v x (upd (upd h q .dead) id (.row false te (xs.drop off++ys:List te.den))) (.tail id 0):=by
 unfold VRel at hv
 simp only[AV.isAgg,vrel,RA] at hv
 obtain⟨nm,g1,g2,g3,g4,g5⟩:=hv
 obtain⟨nm',i1,i2,i3,i4,i5,i6⟩:=S.obj q _ ho
 rw[g1] at i1;cases i1
 obtain⟨kS,kE⟩:=S.kill q
 have hlen:llen (β:=te.den) (xs.drop off)=nm.len-off:=by simp only[llen,List.length_drop];simp only[llen] at i4;omega
 cases hb:nm.base with
 |none=>
  rw[hb] at g5
  obtain⟨g5,g6⟩:=g5
  simp only[Option.some.injEq] at g6
  subst g6
  have hnil:(xs.drop off:List te.den)=[]:=List.eq_nil_of_length_eq_zero (by have:=hlen;simp only[llen] at this;omega)
  rw[hnil,List.nil_append]
  rw[hnil] at hby
  exact(app_nil kS hfree his hzs src (by simpa [llen] using hby)).after rfl kE
 |some a=>
  rw[hb] at g5 i6
  obtain⟨v',cap,g6,g7,a',cap',rfl,g8,rfl,g9⟩:=g5
  simp only[Option.some.injEq] at g6
  subst g6
  obtain⟨j1,⟨C,cty,fz,j2,j3,j4⟩,j5,j6⟩:=i6
  replace j4:=j4 rfl
  simp only[Bool.false_eq_true,if_false] at j5
  have hrow:RowAt N D w te xs (cA w a):=j6
  have hnow:=now_of_row (len:=nm.len-off) hrow (by rw[←tS_ te,←i3];exact⟨a',cap',rfl,g8,rfl,g9⟩) (by rw[←i4];omega)
  have htk:((xs.drop off).take (nm.len-off):List te.den)=xs.drop off:=List.take_of_length_le (by have:=hlen;simp only[llen] at this;omega)
  rw[htk] at hnow
  by_cases hfit:nm.len-off+llen (β:=te.den) ys≤cap'
  ·have hrun:=src.app.fits (some a') _ cap' hfit
   simp only at hrun
   have hcap:off*te.size+cap'*te.size≤nm.cap*te.size:=by rw[←Nat.add_mul];exact Nat.mul_le_mul_right _ g7
   have hin:(nm.len-off)*te.size+cs.length≤cap'*te.size:=by rw[src.len,←Nat.add_mul];exact Nat.mul_le_mul_right _ hfit
   have hst:(storeCells (a'.add ((nm.len-off)*i.size)) cs).run P w= .ok () (w.setCells a.block (a.off+off*te.size+(nm.len-off)*te.size) cs):=by
    by_cases hc:cs=[]
    ·subst hc;rfl
    ·have hne:cap'≠0:=by
      intro e0
      have:llen (β:=te.den) ys=0:=by omega
      have:=src.len
      rw[‹llen (β:=te.den) ys=0›,Nat.zero_mul] at this
      exact hc (List.eq_nil_of_length_eq_zero this)
     rcases g9 with rfl|g9
     ·rw[i3,tS_,at_add,his]
      simp only[Addr.at_]
      rw[storeCells_run j2 (j4.imp_right And.left) (by omega) src.one,Nat.add_assoc]
     ·exact absurd g9 hne
   rw[hst] at hrun
   simp only[Result.andThen_ok] at hrun
   obtain⟨o1,o2,o3⟩:=setCells_os a.block cs (a.off+off*te.size+(nm.len-off)*te.size) w
   obtain⟨C',f1,f2⟩:=setCells_block a.block cs (a.off+off*te.size+(nm.len-off)*te.size) w C cty fz j2
   have osz:=setCells_size a.block cs (a.off+off*te.size+(nm.len-off)*te.size) w
   have one:=setCells_ne a.block cs (a.off+off*te.size+(nm.len-off)*te.size) w
   have hD: ∀b,D b→(w.setCells a.block (a.off+off*te.size+(nm.len-off)*te.size) cs).heap[b]?=w.heap[b]?:=fun b hb'=>one b (fun e=>j5.2 (e▸hb'))
   have hll:llen (β:=te.den) (xs.drop off++ys)=nm.len-off+llen (β:=te.den) ys:=by rw[←hlen];simp[llen]
   obtain⟨N',n1,n2,n3⟩:=S.move (id:=id) (nm':=⟨some (Addr.at_ a (off*te.size)),tsh te,true,nm.len-off+llen (β:=te.den) ys,cap'⟩) (a':=Addr.at_ a (off*te.size)) (o':= .row false te (xs.drop off++ys:List te.den)) ho rfl g1 hb hfree rfl rfl o1 o2 o3 osz one (by
    refine⟨_,Nm_.up_at,rfl,rfl,hll.symm,hfit,?_⟩
    show _∧_∧_∧_
    refine⟨rfl,⟨C',cty,fz,f1,by simp only[Addr.at_];rw[f2];omega,fun _=>by rw[f2];exact j4⟩,by simp only[Bool.false_eq_true,if_false];exact j5,?_⟩
    have hA:RowAt N D w te (xs.drop off:List te.den) (cA w (Addr.at_ a (off*te.size))):=by
     have:=hrow.drop off
     have e2:(fun j=>cA w a (off*te.size+j))=cA w (Addr.at_ a (off*te.size)):=by
      funext j;simp only[cA,Addr.at_,Nat.add_assoc]
     rw[←e2];exact this
    refine RowAt.append ((hA.monoN ((S.kill q).1.newN hfree _) (fun _ h=>h) hD).congr fun j hj=>?_) ((src.row.monoN ((S.kill q).1.newN hfree _) (fun _ h=>h) hD).congr fun j hj=>?_)
    ·rw[hlen] at hj
     simp only[cA,Addr.at_]
     exact(World.cell?_setCells_out _ _ _ _ _ (fun _ _=>by simp only;omega)).symm
    ·rw[←src.len] at hj
     have:=World.cell?_setCells_in a.block cs (a.off+off*te.size+(nm.len-off)*te.size) w (fun j hj=>cells_isSome j2 (by omega)) j hj
     simp only[cA,Addr.at_]
     rw[hlen,←Nat.add_assoc,this]
     simp)
   refine⟨N',D,_,_,hrun,n3,n2,?_⟩
   unfold VRel
   simp only[AV.isAgg,vrel,RA]
   refine⟨_,n1,rfl,Nat.zero_le _,hfit,?_⟩
   show∃v room,_
   refine⟨_,cap',rfl,by simp,a',cap',by simp,by simpa using hfit,rfl,?_⟩
   rcases g9 with rfl|g9
   ·left;rw[i3,tS_];simp[Addr.at_]
   ·exact .inr g9
  ·obtain⟨olds,k1,k2,_,k4⟩:=Now.cells (P:=P) hnow
   have hby':(llen (β:=te.den) (xs.drop off)+llen (β:=te.den) ys)*i.bytes≤70368744177664:=hby
   have:=app_grown (P:=P) (tys:=tys) (rt:=rt) (e:=e) (z:=z) kS hfree his hzs (bs:=(xs.drop off:List te.den)) (olds:=olds) (b:=some a') (cap:=cap') (x:=x) src (by rw[hlen];omega) hby' (by
    have:=k4 w.drew rfl
    rw[his]
    rw[hlen] at this⊢
    exact this) k1 k2
   rw[hlen] at this
   exact this.after rfl kE
end
end AM
