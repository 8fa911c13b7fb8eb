/- An abstract machine over programs of the model, and its soundness: what it tells of a function, the model's machine does. Conditions: none. -/
import GoSem.Claim
import Derived.Calls
import Derived.Laws.Sem
import Derived.KernelRfl
import Derived.Laws.Entries
import Derived.ChangeKeysEq
import Derived.Laws.Cells
import Derived.Laws.IdiomCopy
import Derived.Below
import Derived.Laws.Slices
import Derived.Laws.IdiomStrings
import Derived.Laws.MakeOwn
set_option linter.unusedVariables false
set_option linter.unusedSimpArgs false
namespace AM
theorem zdM.{u,v} {α : Type u} {β : Type v} (a : α) (f : α → Option β) : (some a).bind f = f a := rfl
theorem zdN.{u} {α : Sort u} (a b : α) : cond false a b = b := rfl
theorem zdO.{u} {α : Sort u} (a b : α) : cond true a b = a := rfl
theorem zdP (n : Nat) : ((n : Int)).toNat = n := rfl
theorem zdQ : (!true) = false := rfl
theorem zdR : (!false) = true := rfl
theorem zdS.{u} {α : Type u} {l : List α} {i : Nat} (h : i < l.length) : l[i]? = some l[i] := List.getElem?_eq_getElem h
theorem zdT.{u} {α : Type u} (a b : α) : (some a = some b) = (a = b) := Option.some.injEq a b
theorem zdU : (false = true) = False := Bool.false_eq_true
theorem zdV (a b : Bool) : ((a && b) = true) = (a = true ∧ b = true) := Bool.and_eq_true a b
theorem zdW.{u} {α : Type u} {a b : List α} : (a ++ b).length = a.length + b.length := List.length_append
theorem zdX.{u} {α : Type u} {a : α} {b : List α} : (a :: b).length = b.length + 1 := rfl
theorem zdY.{u} {α : Type u} : ([] : List α).length = 0 := rfl
theorem zdZ.{u} {α : Type u} (y : α) {a : α} {l : List α} (h : a ∈ l) : a ∈ y :: l := List.mem_cons_of_mem y h
theorem zd0.{u} {α : Type u} {a : α} {l : List α} : a ∈ a :: l := List.mem_cons_self
theorem zd1 {p : Prop} [Decidable p] : (decide p = true) = p := decide_eq_true_eq
theorem zd2.{u,v} {α : Type u} {β : Type v} {a : α} {f : α → β} : (some a).map f = some (f a) := rfl
theorem zd3.{u} {α : Type u} {l : List α} {i : Nat} {a : α} : l.getD i a = l[i]?.getD a := List.getD_eq_getElem?_getD
open Go
abbrev zd4:=@List.mem_append_left
abbrev zd5:=@List.mem_append_right
abbrev zd6:=@Nat.mul_le_mul_right
abbrev zd7:=@Nat.add_mul
abbrev zd8:=@Nat.add_assoc
abbrev zd9:=@Nat.le_refl
abbrev zea:=@Nat.le_trans
abbrev zeb:=@Nat.lt_of_lt_of_le
abbrev zec:=@Nat.lt_or_ge
abbrev zed:=@Nat.eq_zero_or_pos
abbrev zee:=@Sem.run_bind
abbrev zef:=@Result.andThen_ok
abbrev zeg:=@Sem.run_pure
abbrev zeh:=@List.length_take
abbrev zei:=@List.length_drop
abbrev zej:=@List.getElem?_take
abbrev zek:=@List.getElem?_drop
abbrev zel:=@Bool.and_false
abbrev zem:=@List.eq_nil_of_length_eq_zero
abbrev zen:=@List.take_of_length_le
abbrev zeo:=@List.isEmpty_iff
abbrev zep:=@List.getElem?_cons_zero
abbrev zeq:=@List.length_set
abbrev zer:=@List.getElem?_set_ne
abbrev zes:=@List.cons_append
abbrev zet:=@Array.getElem?_modify
abbrev zeu:=@List.getElem_of_mem
abbrev zev:=@Array.getElem?_eq_getElem
abbrev zew:=@List.all_eq_true
abbrev zex:=@List.mem_cons
abbrev zey:=@Array.getElem?_push
abbrev zez:=@List.replicate_succ
abbrev zeA:=@List.flatMap_cons
abbrev zeB:=@Nat.zero_mul
abbrev zeC:=@Nat.zero_add
abbrev zeD:=@List.getElem?_append_left
abbrev zeE:=@List.getElem?_append_right
abbrev zeF:=@Nat.add_comm
abbrev zeG:=@List.length_replicate
abbrev zeH:=@List.getElem?_replicate
abbrev zeI:=@List.foldr_cons
abbrev zeJ:=@Option.map_eq_some_iff
abbrev zeK:=@List.map_cons
abbrev zeL:=@Array.eq_empty_of_size_eq_zero
abbrev zeM:=@Nat.add_zero
abbrev zeN:=@List.nil_append
abbrev zeO:=@List.mem_of_getElem?
abbrev zeP:=@List.mem_of_mem_take
abbrev zeQ:=@Nat.min_eq_left
abbrev zeR:=@Option.map_none
abbrev zeS:=@Int.le_refl
abbrev zeT:=@List.getElem?_map
abbrev zeU:=@Nat.zero_le
abbrev zeV:=@Nat.mul_one
abbrev zeW:=@List.foldl_cons
abbrev zeX:=@List.length_map
abbrev zeY:=@Bool.or_eq_true
abbrev zeZ:=@List.mem_or_eq_of_mem_set
abbrev ze0:=@List.getElem_mem
abbrev ze1:=@List.replicate_zero
abbrev ze2:=@List.contains_eq_mem
abbrev ze3:=@Option.isSome_none
abbrev ze4:=@List.take_length
abbrev ze5:=@List.take_append_drop
abbrev ze6:=@Array.getD_eq_getD_getElem?
abbrev ze7:=@Option.getD_some
abbrev ze8:=@Nat.lt_succ_self
abbrev ze9:=@Bool.and_self
abbrev zfa:=@List.mem_append
abbrev zfb:=@List.mem_singleton
abbrev zfc:=@Bool.not_eq_true'
abbrev zfd:=@Bool.false_or
abbrev zfe:=@List.append_nil
abbrev zff:=@Nat.le_add_right
abbrev zfg:=@List.filterMap_cons
abbrev zfh:=@List.mem_of_mem_drop
abbrev zfi:=@List.drop_eq_nil_of_le
abbrev zfj:=@List.getElem?_set
abbrev zfk:=@List.take_add_one
abbrev zfl:=@Int.natCast_zero
abbrev zfm:=@Nat.eq_of_beq_eq_true
abbrev zfn:=@List.drop_zero
abbrev zfo:=@List.set_set
abbrev zfp:=@List.append_assoc
abbrev zfq:=@List.singleton_append
abbrev zfr:=@List.eraseIdx_eq_take_drop_succ
abbrev zfs:=@List.length_eraseIdx_of_lt
abbrev zft:=@List.findIdx?_eq_none_iff
abbrev zfu:=@List.findIdx?_eq_some_iff_getElem
abbrev zfv:=@Int.le_trans
abbrev zfw:=@List.map_append
abbrev zfx:=@Bool.false_and
abbrev zfy:=@List.drop_eq_getElem_cons
abbrev zfz:=@Option.isSome_some
abbrev zfA:=@List.suffix_refl
abbrev zfB:=@List.pairwise_cons
abbrev zfC:=@List.set_eq_take_append_cons_drop
abbrev zfD:=@List.eraseIdx_sublist
abbrev zfE:=@List.length_singleton
abbrev zfF:=@Int.eq_ofNat_of_zero_le
end AM
namespace AM
open Go
inductive Ty where
 |int (k:IntKind)|bool|str|nil|cons (a b:Ty)|arr (n:Nat) (t:Ty)|deep (t:Ty)
 |ref (tag:Nat)
 deriving DecidableEq
def Ty.den:Ty->Type
 | .int _=>Int| .bool=>Bool| .str=>ByteArray| .nil=>Unit| .cons a b=>a.den×b.den| .arr _ t=>List t.den| .deep t=>List t.den| .ref _=>Nat
def Ty.size:Ty->Nat
 | .int _=>1| .bool=>1| .str=>1| .nil=>0| .cons a b=>a.size+b.size| .arr n t=>n*t.size| .deep _=>1| .ref _=>1
def Ty.ks:Ty->List Nat
 | .cons a b=>a.ks++b.ks
 | .arr _ t=>t.ks
 | .deep t=>t.ks
 | .ref g=> [g]
 |_=> []
def ta (t t':Ty)(xs:List t.den):Option (List t'.den):=if h:t=t' then some (h▸xs) else none
noncomputable def aa (p:Prop):Bool:= @decide p (Classical.propDecidable p)
theorem kR {p:Prop}:aa p=true↔p:= @decide_eq_true_iff p (Classical.propDecidable p)
theorem ke (p:Prop) [h:Decidable p]:aa p=decide p:=by
 cases h with
 |isTrue h=>rw[kR.2 h];rfl
 |isFalse h=>
  have:aa p=false:=by
   cases e:aa p with
   |false=>rfl
   |true=>exact absurd (kR.1 e) h
  rw[this];rfl
noncomputable def wr (k:IntKind)(n:Int):Int:=Classical.choose (⟨k.wrap n,rfl⟩: ∃m,m=k.wrap n)
theorem pI (k:IntKind)(n:Int):wr k n=k.wrap n:=Classical.choose_spec (⟨k.wrap n,rfl⟩: ∃m,m=k.wrap n)
noncomputable def qM (a b:Int):Int:=bif aa (b<a) then b else a
noncomputable def imax (a b:Int):Int:=bif aa (b>a) then b else a
noncomputable def sP (k:IntKind)(a b:Int):Int:=wr k ((BitVec.ofInt k.bits a&&&BitVec.ofInt k.bits b).toNat)
noncomputable def AO (k:IntKind)(a b:Int):Int:=wr k ((BitVec.ofInt k.bits a|||BitVec.ofInt k.bits b).toNat)
noncomputable def py (k:IntKind)(a b:Int):Int:=wr k ((BitVec.ofInt k.bits a^^^BitVec.ofInt k.bits b).toNat)
noncomputable def Di (k:IntKind)(a b:Int):Int:=wr k ((BitVec.ofInt k.bits a&&& ~~~BitVec.ofInt k.bits b).toNat)
noncomputable def shr (k:IntKind)(a b:Int):Int:=Classical.choose (⟨a.fdiv (2^(min b.toNat k.bits)),rfl⟩: ∃m:Int,m=a.fdiv (2^(min b.toNat k.bits)))
theorem QT (k:IntKind)(a b:Int):shr k a b=a.fdiv (2^(min b.toNat k.bits)):=Classical.choose_spec (⟨a.fdiv (2^(min b.toNat k.bits)),rfl⟩: ∃m:Int,m=a.fdiv (2^(min b.toNat k.bits)))
noncomputable def shl (k:IntKind)(a b:Int):Int:=wr k (a*2^(min b.toNat k.bits))
def QU (k:IntKind):Int:=if k.signed then-1 else k.max
inductive Step where
 |ir (n:Nat)|idx (i:Nat)
inductive AV where
 |undef
 |val (v:Value)
 |ptr (id:Nat) (path:List Step)
 |tail (id:Nat) (off:Nat)
 |slice (id:Nat) (path:List Step) (off len:Nat)
 |dp (t:Ty) (xs:List t.den)
 |tP (v:AV)
 |agg (fs:List AV)
 |arr (n:Nat) (t:Ty) (xs:List t.den)
 |AP (vs:List AV)
 |wZ (fn:Fn) (captured:List AV)
 |xm
 |uu (id:Nat) (n:Nat)
 |Cz (fn:Fn) (first:List AV)
 |QJ (id:Nat) (path:List Step) (f off:Nat)
 |rf (tag n c:Nat)
mutual
def AV.size:AV->Nat
 | .agg fs=>AV.dX fs
 | .arr n t _=>n*t.size
 |_=>1
def AV.dX:List AV->Nat
 | []=>0
 |x::xs=>x.size+AV.dX xs
end
def AV.isAgg:AV->Bool
 | .agg _| .arr _ _ _=>true
 |_=>false
mutual
def AV.ids:AV->List Nat
 | .tail i _=> [i]
 | .slice i _ _ _=> [i]
 | .uu i _=> [i]
 | .agg fs=>AV.XH fs
 |_=> []
def AV.XH:List AV->List Nat
 | []=> []
 |x::xs=>x.ids++AV.XH xs
end
def enc:(t:Ty)->t.den->AV
 | .int k,n=> .val (.int k n)
 | .bool,b=> .val (.bool b)
 | .str,s=> .val (.string s)
 | .nil,_=> .agg []
 | .cons a b,p=>match enc b p.2 with| .agg l=> .agg (enc a p.1::l)|v=> .agg [enc a p.1,v]
 | .arr n t,xs=> .arr n t xs
 | .deep t,xs=> .dp t xs
 | .ref g,n=> .rf g n 50
inductive oh where
 |ir (n:Nat)|idx
inductive cp where
 |hole (t:Ty)|const (v:Value)|ptr (c:Nat)|own (c:Nat)|Fj (c:Nat)|agg (ps:List cp)|vn (t:Ty)
 |kf (c:Nat) (p:List oh)
 |wZ (fn:Fn) (ps:List cp)|uu (c n:Nat)
 |skip|I1 (p:cp)
inductive aK where
 |var (p:cp)|row (t:Ty)|store (ep:List (Nat×aK))
def oh.xa:List oh->Type
 | []=>Unit
 | .ir _::p=>oh.xa p
 | .idx::p=>Nat×oh.xa p
mutual
def cp.den:cp->Type
 | .hole t=>t.den
 | .vn t=>t.den
 | .agg ps=>cp.xa ps
 | .wZ _ ps=>cp.xa ps
 | .Fj _=>Nat
 | .kf _ p=>oh.xa p
 | .I1 p=>p.den
 |_=>Unit
def cp.xa:List cp->Type
 | []=>Unit
 |p::ps=>p.den×cp.xa ps
end
mutual
def aK.den:aK->Type
 | .var p=>p.den
 | .row t=>List t.den
 | .store ep=>List (cT ep)
def cT:List (Nat×aK)->Type
 | []=>Unit
 |(_,p)::os=>p.den×cT os
end
def oh.mk:(p:List oh)->oh.xa p->List Step
 | [],_=> []
 | .ir n::p,d=> .ir n::oh.mk p d
 | .idx::p,d=> .idx d.1::oh.mk p d.2
mutual
def cp.mk (b:Nat->Nat):(p:cp)->p.den->AV
 | .hole t,x=>enc t x
 | .vn t,x=> .tP (enc t x)
 | .const v,_=> .val v
 | .ptr c,_=> .ptr (b c) []
 | .own c,_=> .tail (b c) 0
 | .Fj c,n=> .slice (b c) [] 0 n
 | .agg ps,d=> .agg (cp.qS b ps d)
 | .kf c p,d=> .ptr (b c) (oh.mk p d)
 | .wZ fn ps,d=> .wZ fn (cp.qS b ps d)
 | .uu c n,_=> .uu (b c) n
 | .skip,_=> .undef
 | .I1 p,d=> .tP (cp.mk b p d)
def cp.qS (b:Nat->Nat):(ps:List cp)->cp.xa ps->List AV
 | [],_=> []
 |p::ps,d=>cp.mk b p d.1::cp.qS b ps d.2
end
inductive fO where
 |var (v:AV)
 |row (ro:Bool) (t:Ty) (xs:List t.den)
 |dead
 |store (ep:List (Nat×aK)) (xs:List (cT ep))
 |void
structure St where
 t:Nat->AV
 h:Nat->Option fO
 ep:Nat
 nt:Nat
def St.put (s:St)(d:Option Tmp)(v:AV):St:=match d with
 |some d=>if d<s.nt then{s with t:=λx=>if x=d then v else s.t x} else s
 |none=>s
def St.set (s:St)(id:Nat)(o:fO):St:={s with h:=λx=>if x=id then some o else s.h x}
def St.ev (s:St):Operand->AV
 | .tmp t=>s.t t
 | .const v=> .val v
 | .func f=> .val (.func (.func f) #[] #[])
 | .global _=> .undef
def SB:Nat:=100000000000000
def name (ep slot j:Nat):Nat:=(ep*1000+slot)*100+j
section
variable {α:Type}
def St.new (s:St)(id:Nat)(o:fO)(k:St->Option α):Option α:=match s.h id with|none=>k (s.set id o)|some _=>none
def I2:List Step->AV->(AV->Option α)->Option α
 | [],v,k=>k v
 | .ir n::p, .agg fs,k=>match fs[n]? with|some v=>I2 p v k|none=>none
 | .idx i::p, .arr _ t xs,k=>match xs[i]? with|some x=>I2 p (enc t x) k|none=>none
 |_,_,_=>none
def St.get (s:St)(id:Nat)(p:List Step)(k:AV->Option α):Option α:=
 match s.h id with
 |some (.var v)=>I2 p v k
 |some (.row _ t xs)=>(match p with
  | .idx i::p=>(match xs[i]? with|some x=>I2 p (enc t x) k|none=>none)
  |_=>none)
 |_=>none
def zB (s:St)(i:Nat):Bool:=match s.h i with|some (.row _ _ _)=>true|_=>false
def qg (s:St)(t:Ty):AV->(List t.den->List Nat->Option α)->Option α
 | .dp t' xs,k=>match ta t' t xs with|some ys=>k ys []|none=>none
 | .val (.slice none 0 0),k=>k [] []
 | .tail id off,k=>match s.h id with
  |some (.row _ t' xs)=>(match ta t' t xs with|some ys=>k (ys.drop off) [id]|none=>none)
  |_=>none
 | .slice id p off len,k=>match p.isEmpty&&zB s id with
  |true=>(match s.h id with
   |some (.row _ t' xs)=>(match ta t' t xs with|some ys=>k ((ys.drop off).take len) [id]|none=>none)
   |_=>none)
  |false=>s.get id p λu=>(match u with
   | .arr _ t' xs=>(match ta t' t xs with|some ys=>k ((ys.drop off).take len) [id]|none=>none)
   |_=>none)
 |_,_=>none
def UA {β:Type}(f:AV->(β->List Nat->Option α)->Option α):List AV->(List β->List Nat->Option α)->Option α
 | [],k=>k [] []
 |v::vs,k=>f v λx i=>UA f vs λxs j=>k (x::xs) (i++j)
def KS (s:St)(t:Ty)(f:AV->(t.den->List Nat->Option α)->Option α)(v:AV)(k:List t.den->List Nat->Option α):Option α:=match v with
 | .uu id n=>(match s.h id with
  |some (.var (.agg vs))=>(match decide (vs.length=n) with|true=>UA f vs λxs ids=>k xs (id::ids)|false=>none)
  |_=>none)
 |v=>qg s t v k
mutual
def qN (s:St):(t:Ty)->AV->(t.den->List Nat->Option α)->Option α
 | .int k',v,k=>match v with| .val (.int k'' n)=>(if k''=k' then k n [] else none)|_=>none
 | .bool,v,k=>match v with| .val (.bool b)=>k b []|_=>none
 | .str,v,k=>match v with| .val (.string b)=>k b []|_=>none
 | .nil,v,k=>match v with| .agg []=>k () []|_=>none
 | .cons a b,v,k=>match v with
  | .agg (x::l)=>qN s a x λp i=>qN s b (.agg l) λq j=>k (p,q) (i++j)
  |_=>none
 | .arr n t,v,k=>match v with
  | .arr n' t' xs=>(if n'=n then(match ta t' t xs with|some ys=>k ys []|none=>none) else none)
  |_=>none
 | .deep t,v,k=>KS s t (qN s t) v k
 | .ref g,v,k=>match v with| .rf g' n 50=>(if g'=g then k n [] else none)| .val (.pointer none)=>k (0:Nat) []|_=>none
end
def St.freeze (s:St):List Nat->Option St
 | []=>some s
 |i::l=>match s.h i with
  |some (.row _ t xs)=>(s.set i (.row true t xs)).freeze l
  |_=>none
mutual
def AV.lu:AV->AV->Bool
 | .agg fs, .agg gs=>AV.vo fs gs
 | .arr n t _, .arr n' t' _=>decide (n=n')&&decide (t=t')
 | .agg _,_=>false
 | .arr _ _ _,_=>false
 | .AP _,_=>false
 | .undef,_=>false
 |_, .agg _=>false
 |_, .arr _ _ _=>false
 |_, .AP _=>false
 |_, .undef=>false
 |_,_=>true
def AV.vo:List AV->List AV->Bool
 | [],[]=>true
 |x::xs,y::ys=>x.lu y&&AV.vo xs ys
 |_,_=>false
end
def I3 (s:St):List Step->AV->AV->(AV->Option α)->Option α
 | [],u,v,k=>match v.lu u with|true=>k u|false=>none
 | .ir n::p,u, .agg fs,k=>match fs[n]? with|some v=>I3 s p u v λv'=>k (.agg (fs.set n v'))|none=>none
 | .idx i::p,u, .arr n t xs,k=>match xs[i]? with
  |some x=>I3 s p u (enc t x) λv'=>qN s t v' λx' ids=>(match ids with| []=>k (.arr n t (xs.set i x'))|_=>none)
  |none=>none
 |_,_,_,_=>none
def St.store (s:St)(id:Nat)(p:List Step)(u:AV)(k:St->Option α):Option α:=
 match s.h id with
 |some (.var v)=>I3 s p u v λv'=>k (s.set id (.var v'))
 |some (.row false t xs)=>(match p with
  | .idx i::p=>(match xs[i]? with
   |some x=>I3 s p u (enc t x) λv'=>qN s t v' λx' ids=>(match ids.contains id||!(ids.all λj=>u.ids.contains j) with
    |true=>none
    |false=>match s.freeze ids with
     |some s=>k (s.set id (.row false t (xs.set i x')))
     |none=>none)
   |none=>none)
  |_=>none)
 |_=>none
inductive Sh where
 |one|agg (l:List Sh)|arr (n:Nat) (e:Sh)
mutual
def Sh.size:Sh->Nat
 | .one=>1
 | .agg l=>Sh.dX l
 | .arr n e=>n*e.size
def Sh.dX:List Sh->Nat
 | []=>0
 |x::xs=>x.size+Sh.dX xs
end
def sr:Ty->Sh
 | .nil=> .agg []
 | .cons a b=>match sr b with| .agg l=> .agg (sr a::l)|v=> .agg [sr a,v]
 | .arr n t=> .arr n (sr t)
 |_=> .one
mutual
def AV.sh:AV->Sh
 | .agg fs=> .agg (AV.yG fs)
 | .arr n t _=> .arr n (sr t)
 |_=> .one
def AV.yG:List AV->List Sh
 | []=> []
 |x::xs=>x.sh::AV.yG xs
end
def zC:List Step->Sh->Option Sh
 | [],s=>some s
 | .ir n::p, .agg l=>match l[n]? with|some s=>zC p s|none=>none
 | .idx _::p, .arr _ e=>zC p e
 |_,_=>none
def St.shape (s:St)(id:Nat)(p:List Step):Option Sh:=
 match s.h id with
 |some (.var v)=>zC p v.sh
 |some (.row _ t _)=>(match p with| .idx _::p=>zC p (sr t)|_=>none)
 |_=>none
def m9 (P:Program)(t:TypeId):Bool:=match P.underlying t with|some (.slice _)=>true|_=>false
def vp (P:Program):Nat->TypeId->Option Ty
 |0,_=>none
 |n+1,t=>match P.underlying t with
  |some (.int k)=>some (.int k)
  |some .bool=>some .bool
  |some .string=>some .str
  |some (.struct fs)=>fs.toList.foldr (λf acc=>match vp P n f.type,acc with|some a,some b=>some (.cons a b)|_,_=>none) (some .nil)
  |some (.array m e)=>(vp P n e).map (.arr m)
  |some (.slice e)=>(vp P n e).map .deep
  |some (.pointer e)=>some (.ref e)
  |_=>none
def iA:(t:Ty)->t.den
 | .int _=>(0:Int)| .bool=>false| .str=>ByteArray.empty| .nil=>()| .cons a b=>(iA a,iA b)| .arr n t=>List.replicate n (iA t)| .deep _=> []| .ref _=>(0:Nat)
def zeroOf (P:Program):Nat->TypeId->Option AV
 |0,_=>none
 |n+1,t=>match P.underlying t with
  |some (.int k)=>some (.val (.int k 0))
  |some .bool=>some (.val (.bool false))
  |some .string=>some (.val (.string ByteArray.empty))
  |some (.pointer _)=>some (.val (.pointer none))
  |some (.slice _)=>some (.val (.slice none 0 0))
  |some (.struct fs)=>(fs.toList.foldr (λf acc=>match zeroOf P n f.type,acc with|some a,some b=>some (a::b)|_,_=>none) (some [])).map .agg
  |some (.array m e)=>(match m9 P e with
   |true=>some (.agg (List.replicate m (.val (.slice none 0 0))))
   |false=>(vp P n e).map λt=> .arr m t (List.replicate m (iA t)))
  |_=>none
def mV:(t:Ty)->t.den->List Value
 | .int k,n=> [.int k n]
 | .bool,b=> [.bool b]
 | .str,s=> [.string s]
 | .nil,_=> []
 | .cons a b,p=>mV a p.1++mV b p.2
 | .arr _ t,xs=>xs.flatMap (mV t)
 | .deep _,_=> [.slice none 0 0]
 | .ref _,_=> [.pointer none]
mutual
def qT:AV->List Value
 | .val v=> [v]
 | .agg fs=>rM fs
 | .arr _ t xs=>xs.flatMap (mV t)
 |_=> [.nilFunc]
def rM:List AV->List Value
 | []=> []
 |x::xs=>qT x++rM xs
end
def veq:Value->Value->Bool
 | .int k a, .int k' b=>decide (k=k')&&decide (a=b)
 | .bool a, .bool b=>a==b
 | .string a, .string b=>a.data.toList==b.data.toList
 | .pointer none, .pointer none=>true
 | .slice none a b, .slice none c d=>decide (a=c)&&decide (b=d)
 |_,_=>false
def ON:List Value->List Value->Bool
 | [],[]=>true
 |x::xs,y::ys=>veq x y&&ON xs ys
 |_,_=>false
def zeroV (P:Program)(t:TypeId)(k:AV->Option α):Option α:=
 match(P.info? t).bind (·.zero),zeroOf P 12 t with
 |some z,some v=>(match ON z.cells.toList (qT v) with|true=>k v|false=>none)
 |_,_=>none
mutual
def AV.nv:AV->Bool
 | .undef=>false
 | .AP _=>false
 | .val v=>v.oneCell'
 | .agg fs=>AV.AQ fs
 |_=>true
def AV.AQ:List AV->Bool
 | []=>true
 |x::xs=>x.nv&&AV.AQ xs
end
def qU (P:Program)(t:TypeId):Bool:=match P.underlying t with|some (.struct _)|some (.array _ _)=>true|_=>false
def su (P:Program)(t:TypeId)(v:AV):Bool:=
 v.nv&& (v.isAgg==qU P t)&&decide (v.size=P.cellsOf t)&& (P.underlying t).isSome
noncomputable def ak (a b:Int):Bool:=aa (a=b)
def Dj (a b:Bool):Bool:=a==b
def I4 (a b:ByteArray):Bool:=a.toList==b.toList
noncomputable def yR:(t:Ty)->t.den->t.den->Bool
 | .int _,a,b=>ak a b
 | .bool,a,b=>Dj a b
 | .str,a,b=>I4 a b
 | .nil,_,_=>true
 | .cons a b,x,y=>yR a x.1 y.1&&yR b x.2 y.2
 | .arr _ t,xs,ys=>(xs.zip ys).all λp=>yR t p.1 p.2
 | .deep _,_,_=>false
 | .ref _,_,_=>false
def Nb:Ty->Bool
 | .int _=>true
 |_=>false
noncomputable def Ua (P:Program):Nat->TypeId->AV->AV->Option Bool
 |0,_,_,_=>none
 |d+1,t,x,y=>match P.underlying t,x,y with
  |some (.int k), .val (.int ka a), .val (.int kb b)=>if ka=k/\kb=k then some (ak a b) else none
  |some .bool, .val (.bool a), .val (.bool b)=>some (Dj a b)
  |some .string, .val (.string a), .val (.string b)=>some (I4 a b)
  |some (.struct fs), .agg xs, .agg ys=>(match P.stoodInHeld t with|true=>none|false=>KT P d fs.toList 0 xs ys)
  |some (.array n e), .arr m t xs, .arr m' t' ys=>(match vp P 12 e,ta t' t ys with
   |some te,some ys=>if te=t/\m=n/\m'=n/\Nb t=true/\1<=d/\P.cellsOf e=1/\(P.info? e).isSome=true then some ((xs.zip ys).all λp=>yR t p.1 p.2) else none
   |_,_=>none)
  |_,_,_=>none
 where KT (P:Program) (d:Nat):List Field->Nat->List AV->List AV->Option Bool
 | [],_,[],[]=>some true
 |f::fs,off,x::xs,y::ys=>if f.name= "_" \/f.offset≠off then none else
  match su P f.type x&&su P f.type y&&decide (x.size=y.size) with
  |false=>none
  |true=>match Ua P d f.type x y,KT P d fs (off+x.size) xs ys with|some a,some b=>some (a&&b)|_,_=>none
 |_,_,_,_=>none
noncomputable def UB (P:Program)(t:TypeId)(x y:AV):Option Bool:=match x.isAgg&&y.isAgg with
 |true=>(match P.eqGuardType P.depth t with|true=>none|false=>Ua P 12 t x y)
 |false=>none
def WL (P:Program)(t:TypeId):Bool:=match P.underlying t with|some (.slice e)=>(P.info? e).isSome|_=>false
def uT (P:Program)(t:TypeId)(n:Nat):Bool:=match P.underlying t with|some (.slice e)=>(P.info? e).isSome&&decide (P.cellsOf e=n)|_=>false
def yS (P:Program)(t:TypeId)(m n:Nat):Bool:=match P.underlying t with|some (.array m' e)=>(P.info? e).isSome&&decide (m'=m)&&decide (P.cellsOf e=n)|_=>false
def CU (P:Program)(t:TypeId)(m n:Nat):Bool:=match P.underlying t with|some (.pointer t')=>yS P t' m n|_=>yS P t m n
def QV (P:Program)(t:TypeId)(m:Nat)(te:Ty):Bool:=match P.underlying t with|some (.array m' e)=>decide (m'=m)&& (match vp P 12 e with|some XI=>decide (XI=te)&&decide (P.cellsOf e=te.size)|none=>false)|_=>false
def G6 (s:St)(id:Nat)(p:List Step):Option Nat:=match s.h id,p with
 |some (.row _ te _),[]=>some te.size
 |_,p=>match s.shape id p with|some (.arr _ e)=>some e.size|_=>none
def I5 (P:Program)(s:St)(t:TypeId):AV->(Int->Option α)->Option α
 | .dp _ xs,k=>(match m9 P t with|true=>k xs.length|false=>none)
 | .val (.slice none 0 0),k=>(match m9 P t with|true=>k 0|false=>none)
 | .val (.string b),k=>(match P.underlying t with|some .string=>k b.size|_=>none)
 | .tail id off,k=>match s.h id with|some (.row _ _ xs)=>(match m9 P t with|true=>k ((xs.length-off:Nat):Int)|false=>none)|_=>none
 | .slice _ _ _ len,k=>(match m9 P t with|true=>k len|false=>none)
 | .uu _ n,k=>(match m9 P t with|true=>k n|false=>none)
 | .arr n _ _,k=>(match P.underlying t with|some (.array m _)=>(if m=n then k n else none)|_=>none)
 |_,_=>none
def xn (P:Program)(s:TypeId)(f:Nat):Option Nat:=
 match P.underlying s with
 |some (.struct fs)=>match fs[f]? with
  |some fd=>if P.cellsOf fd.type=0 then none else some fd.offset
  |none=>none
 |_=>none
def QW (P:Program)(s:TypeId)(f:Nat)(v:AV):Bool:=
 match P.underlying s with
 |some (.struct fs)=>match fs[f]? with
  |some fd=>su P fd.type v
  |none=>false
 |_=>false
def Nd (P:Program)(e:TypeId)(n:Nat):Bool:=match(P.info? e).bind (·.zero) with|some z=>decide (z.cells.size=n)|none=>false
def zD (P:Program)(t:TypeId):Option (TypeId×Ty):=
 match P.underlying t with
 |some (.slice e)=>match vp P 12 e with|some te=>(if te.size=P.cellsOf e/\1<=P.bytesOf e/\Nd P e te.size=true then some (e,te) else none)|none=>none
 |_=>none
def nat?:AV->(Int->Option α)->Option α
 | .val (.int _ n),k=>k n
 |_,_=>none
def G7 (s:St)(x:Option Operand)(d:Int)(k:Int->Option α):Option α:=match x with|none=>k d|some x=>nat? (s.ev x) k
def elems (s:St)(t:Ty):List AV->(List t.den->List Nat->Option α)->Option α
 | [],k=>k [] []
 |v::vs,k=>qN s t v λx i=>elems s t vs λxs j=>k (x::xs) (i++j)
def Dk (sz:Nat):List AV->List (Nat×AV)->Option (List AV)
 |l,[]=>some l
 |l,(i,u)::ps=>match decide (i<l.length)&&u.nv&&decide (u.size=sz) with|true=>Dk sz (l.set i u) ps|false=>none
def zE (fs:List AV):List (Nat×AV)->Option (List AV)
 | []=>some fs
 |(i,u)::ps=>match fs[i]? with|some v=>(match v.lu u&&u.nv with|true=>zE (fs.set i u) ps|false=>none)|none=>none
def CV (s:St)(t:Ty)(xs:List t.den):List (Nat×AV)->(List t.den->Option α)->Option α
 | [],k=>k xs
 |(i,u)::ps,k=>qN s t u λx ids=>match ids with| []=>(match decide (i<xs.length)&&u.nv with|true=>CV s t (xs.set i x) ps k|false=>none)|_=>none
def tD (P:Program):List Field->Nat->List AV->Bool
 | [],_,[]=>true
 |f::fs,off,v::vs=>decide (f.offset=off)&&decide (P.cellsOf f.type=v.size)&& (P.info? f.type).isSome&&tD P fs (off+v.size) vs
 |_,_,_=>false
def room:Nat:=2^46
def uF (xs:List Int):ByteArray:=⟨(xs.map λn=>n.toNat.toUInt8).toArray⟩
noncomputable def QX (s:St)(op:BinOp)(ka kb:IntKind)(a b:Int)(k:AV->St->Option α):Option α:=match op with
 | .shl=>(match aa (b<0) with|true=>none|false=>k (.val (.int ka (shl ka a b))) s)
 | .shr=>(match aa (b<0) with|true=>none|false=>k (.val (.int ka (shr ka a b))) s)
 |op=>if ka=kb then(match op with
  | .add=>k (.val (.int ka (wr ka (a+b)))) s
  | .sub=>k (.val (.int ka (wr ka (a-b)))) s
  | .mul=>k (.val (.int ka (wr ka (a*b)))) s
  | .quo=>(match aa (b=0) with|true=>none|false=>k (.val (.int ka (wr ka (a.tdiv b)))) s)
  | .rem=>(match aa (b=0) with|true=>none|false=>k (.val (.int ka (a.tmod b))) s)
  | .and=>k (.val (.int ka (sP ka a b))) s
  | .or=>k (.val (.int ka (AO ka a b))) s
  | .xor=>k (.val (.int ka (py ka a b))) s
  | .andNot=>k (.val (.int ka (Di ka a b))) s
  | .eql=>k (.val (.bool (aa (a=b)))) s
  | .neq=>k (.val (.bool (!aa (a=b)))) s
  | .lss=>k (.val (.bool (aa (a<b)))) s
  | .leq=>k (.val (.bool (aa (a<=b)))) s
  | .gtr=>k (.val (.bool (aa (a>b)))) s
  | .geq=>k (.val (.bool (aa (a>=b)))) s
  |_=>none) else none
def QK (s:St)(op:BinOp)(r:Bool)(k:AV->St->Option α):Option α:=match op with
 | .eql=>k (.val (.bool r)) s
 | .neq=>k (.val (.bool (!r))) s
 |_=>none
def yU (P:Program)(t:TypeId):Bool:=match P.underlying t with|some (.pointer _)=>true|_=>false
noncomputable def I6 (P:Program)(s:St)(op:BinOp)(t:TypeId)(x:AV)(k:AV->St->Option α):Option α:=match m9 P t with
 |false=>none
 |true=>I5 P s t x λn=>match aa (n=0) with
  |true=>(match op with| .eql=>k .xm s| .neq=>k .xm s|_=>none)
  |false=>QK s op false k
noncomputable def QY (P:Program)(s:St)(op:BinOp)(t:TypeId)(x y:AV)(k:AV->St->Option α):Option α:=match x,y with
 | .val (.int ka a), .val (.int kb b)=>QX s op ka kb a b k
 | .val (.bool a), .val (.bool b)=>(match P.underlying t with|some .bool=>QK s op (Dj a b) k|_=>none)
 | .val (.string a), .val (.string b)=>QK s op (I4 a b) k
 | .val (.pointer none), .val (.pointer none)=>(match yU P t with|true=>QK s op true k|false=>none)
 | .val (.slice none _ _), .val (.slice none _ _)=>(match m9 P t with|true=>QK s op true k|false=>none)
 | .ptr _ _, .val (.pointer none)=>(match yU P t with|true=>QK s op false k|false=>none)
 | .val (.pointer none), .ptr _ _=>(match yU P t with|true=>QK s op false k|false=>none)
 | .rf _ n _, .val (.pointer none)=>(match yU P t with|true=>QK s op (aa (n=0)) k|false=>none)
 | .val (.pointer none), .rf _ n _=>(match yU P t with|true=>QK s op (aa (n=0)) k|false=>none)
 | .dp te xs, .val (.slice none _ _)=>I6 P s op t (.dp te xs) k
 | .tail i off, .val (.slice none _ _)=>I6 P s op t (.tail i off) k
 | .slice i p off len, .val (.slice none _ _)=>I6 P s op t (.slice i p off len) k
 |a,b=>(match UB P t a b with|some r=>QK s op r k|none=>none)
def xp (P:Program)(s:St)(t:TypeId)(x:AV)(f:Nat)(k:AV->St->Option α):Option α:=match x,xn P t f with
 | .ptr i p,some off=>(match s.h i with
  |some .dead=>k (.QJ i p f off) s
  |_=>(match s.shape i p with|some (.agg fs)=>(match decide (Sh.dX (fs.take f)=off/\f<fs.length) with|true=>k (.ptr i (p++ [.ir f])) s|false=>none)|_=>none))
 | .tP (.agg fs),some off=>(match decide (AV.dX (fs.take f)=off) with|true=>(match fs[f]? with|some v=>k (.tP v) s|none=>none)|false=>none)
 |_,_=>none
def G8 (P:Program)(s:St)(t:TypeId)(x:AV)(f:Nat)(k:AV->St->Option α):Option α:=match x,xn P t f with
 | .agg fs,some off=>(match decide (AV.dX (fs.take f)=off) with|true=>(match fs[f]? with|some v=>(match QW P t f v with|true=>k v s|false=>none)|none=>none)|false=>none)
 |_,_=>none
def KU (P:Program)(s:St)(t:TypeId)(x:AV)(k:AV->St->Option α):Option α:=match x with
 | .ptr i p=>s.get i p λv=>(match su P t v with|true=>k v s|false=>none)
 | .tP v=>(match su P t v with|true=>k v s|false=>none)
 |_=>none
def St.live (s:St)(i:Nat):Bool:=match s.h i with
 |some (.var (.agg fs))=>(match fs.all (λv=>match v with| .tail _ _=>true|_=>false) with
  |true=>fs.all λv=>match v with| .tail j _=>(match s.h j with|some .dead=>false|_=>true)|_=>true
  |false=>true)
 |_=>true
def G9 (P:Program)(s:St)(t:TypeId)(x y:AV)(k:AV->St->Option α):Option α:=match x with
 | .ptr i p=>(match su P t y with|true=>s.store i p y λs'=>(match s'.live i with|true=>k (.val Go.undef) s'|false=>none)|false=>none)
 |_=>none
def Ha (P:Program)(s:St)(id:Nat)(t:TypeId)(k:AV->St->Option α):Option α:=zeroV P t λv=>s.new id (.var v) λs=>k (.ptr id []) s
def QZ (s:St)(id:Nat)(v:AV)(k:AV->St->Option α):Option α:=match v.nv with
 |true=>s.new id (.var v) λs=>k (.ptr id []) s
 |false=>none
def Hb (P:Program)(s:St)(t:TypeId)(parts:List (Nat×AV))(k:AV->St->Option α):Option α:=zeroV P t λz=>match P.underlying t,z with
 |some (.struct fl), .agg fs=>(match tD P fl.toList 0 fs with|true=>(match zE fs parts with|some fs=>k (.agg fs) s|none=>none)|false=>none)
 |some (.array m e), .arr n te xs=>(match decide (m=n)&&decide (P.cellsOf e=te.size)&& (P.info? e).isSome with|true=>CV s te xs parts λxs=>k (.arr n te xs) s|false=>none)
 |_,_=>none
def AV.XJ:AV->Bool
 | .ptr _ _=>true
 | .agg (.ptr _ _::_)=>true
 |_=>false
def AV.zbZ:AV->Bool
 | .tail _ _=>true
 | .slice _ _ _ _=>true
 |_=>false
def Hc (s:St)(id len sz:Nat)(l:List AV)(k:AV->St->Option α):Option α:=match decide (0<len*sz/\len*sz<=1000) with|true=>s.new id (.var (.agg l)) λs=>k (.uu id len) s|false=>none
def vV (P:Program)(s:St)(id:Nat)(t:TypeId)(len:Nat)(parts:List (Nat×AV))(k:AV->St->Option α):Option α:=match zD P t with
 |some (e,te)=>zeroV P e λz=>match Dk te.size (List.replicate len z) parts with
  |none=>none
  |some l=>match l.any AV.XJ||(decide (2<=len)&&l.any AV.zbZ) with
   |true=>Hc s id len te.size l k
   |false=>elems s te l λxs ids=>(match ids.all (zB s) with
    |true=>(match s.freeze ids with
     |some s=>(match decide (len*te.size<=1000)&&ids.all (λj=>(parts.flatMap λp=>p.2.ids).contains j) with|true=>s.new id (.row false te xs) λs=>k (.tail id 0) s|false=>none)
     |none=>none)
    |false=>Hc s id len te.size l k)
 |none=>none
noncomputable def xq (P:Program)(s:St)(id:Nat)(t:TypeId)(l c:AV)(k:AV->St->Option α):Option α:=match zD P t with
 |some (e,te)=>nat? l λn=>nat? c λm=>
  (match aa (n=m/\0<=n/\n*P.bytesOf e<=room) with
  |true=>zeroV P e λ_=>s.new id (.row false te (List.replicate n.toNat (iA te))) λs=>k (.tail id 0) s
  |false=>none)
 |none=>none
noncomputable def Dl (i:Int)(k:Nat->Option α):Nat->Nat->Option α
 |0,_=>none
 |f+1,j=>match aa (i=j) with|true=>k j|false=>Dl i k f (j+1)
def Dm (l:List Sh)(n:Nat):Bool:=l.all λe=>decide (e.size=n)
def AR (l:List Sh):Nat:=match l with|e::_=>e.size| []=>0
noncomputable def xr (P:Program)(s:St)(t:TypeId)(x ix:AV)(k:AV->St->Option α):Option α:=nat? ix λi=>match x with
 | .dp te xs=>(match uT P t te.size with|false=>none|true=>match aa (0<=i) with|true=>(match xs[i.toNat]? with|some x=>k (.tP (enc te x)) s|none=>none)|false=>none)
 | .tail id off=>(match s.h id with
  |some (.row _ te xs)=>(match uT P t te.size with|false=>none|true=>match aa (0<=i/\i<((xs.length-off:Nat):Int)) with|true=>k (.ptr id [.idx (i.toNat+off)]) s|false=>none)
  |_=>none)
 | .slice id p off len=>(match G6 s id p with
  |some n=>(match uT P t n with|false=>none|true=>match aa (0<=i/\i<len) with|true=>k (.ptr id (p++ [.idx (i.toNat+off)])) s|false=>none)
  |none=>none)
 | .ptr id p=>(match s.shape id p with
  |some (.arr n e)=>(match yS P t n e.size with|false=>none|true=>match aa (0<=i/\i<n) with|true=>k (.ptr id (p++ [.idx i.toNat])) s|false=>none)
  |some (.agg l)=>(match yS P t l.length (AR l)&&Dm l (AR l) with|false=>none|true=>Dl i (λj=>k (.ptr id (p++ [.ir j])) s) l.length 0)
  |_=>none)
 | .uu id n=>(match s.shape id [] with
  |some (.agg l)=>(match uT P t (AR l)&&Dm l (AR l)&&decide (l.length=n) with|false=>none|true=>Dl i (λj=>k (.ptr id [.ir j]) s) l.length 0)
  |_=>none)
 | .tP (.arr n te xs)=>(match yS P t n te.size with|false=>none|true=>match aa (0<=i/\i<n) with|true=>(match xs[i.toNat]? with|some x=>k (.tP (enc te x)) s|none=>none)|false=>none)
 |_=>none
def Q0 (P:Program)(t:TypeId)(fs:List AV):Bool:=match P.underlying t with|some (.array m e)=>decide (m=fs.length)&&fs.all (λv=>su P e v)|_=>false
noncomputable def Hd (P:Program)(s:St)(t:TypeId)(x ix:AV)(k:AV->St->Option α):Option α:=nat? ix λi=>match x with
 | .arr n te xs=>(match QV P t n te with|false=>none|true=>match aa (0<=i/\i<n) with|true=>(match xs[i.toNat]? with|some x=>k (enc te x) s|none=>none)|false=>none)
 | .agg fs=>(match Q0 P t fs with|false=>none|true=>Dl i (λj=>match fs[j]? with|some v=>k v s|none=>none) fs.length 0)
 |_=>none
def XK {β:Type}(lo hi:Option Operand)(l h:Int)(xs:List β):List β:=match lo,hi with|none,none=>xs|none,some _=>xs.take h.toNat|some _,none=>xs.drop l.toNat|some _,some _=>(xs.take h.toNat).drop l.toNat
def F3 (s:St)(id:Nat)(p:List Step)(off len:Nat):Nat:=match s.h id,p with|some (.row _ _ xs),[]=>xs.length-off|_,_=>len
noncomputable def Dn (P:Program)(s:St)(t:TypeId)(x:AV)(lo hi:Option Operand)(mx:Operand)(k:AV->St->Option α):Option α:=G7 s lo 0 λl=>match hi with
 |none=>none
 |some hi=>nat? (s.ev hi) λh=>nat? (s.ev mx) λm=>match x with
  | .tail id off=>(match s.h id with
   |some (.row _ te xs)=>(match uT P t te.size with|false=>none|true=>match aa (0<=l/\l<=h/\h<=m/\m<=((xs.length-off:Nat):Int)) with|true=>k .undef s|false=>none)
   |_=>none)
  |_=>none
noncomputable def He (P:Program)(s:St)(t:TypeId)(x:AV)(lo hi:Option Operand)(k:AV->St->Option α):Option α:=G7 s lo 0 λl=>match x with
 | .dp te xs=>(match uT P t te.size with|false=>none|true=>G7 s hi xs.length λh=>(match aa (0<=l/\l<=h/\h<=xs.length) with
  |true=>k (.dp te (XK lo hi l h xs)) s
  |false=>none))
 | .val (.slice none 0 0)=>(match WL P t with|false=>none|true=>G7 s hi 0 λh=>(match aa (l=0/\h=0) with|true=>k (.val (.slice none 0 0)) s|false=>none))
 | .tail id off=>(match s.h id with
  |some (.row _ te xs)=>(match uT P t te.size with|false=>none|true=>match hi with
   |none=>(match aa (0<=l/\l<=((xs.length-off:Nat):Int)) with|true=>k (.tail id (l.toNat+off)) s|false=>none)
   |some hi=>nat? (s.ev hi) λh=>(match aa (0<=l/\l<=h/\h<=((xs.length-off:Nat):Int)) with|true=>k (.slice id [] (l.toNat+off) (h-l).toNat) s|false=>none))
  |_=>none)
 | .slice id p off len=>(match G6 s id p with
  |some n=>(match uT P t n with|false=>none|true=>G7 s hi len λh=>(match aa (0<=l/\l<=h/\h<=F3 s id p off len) with|true=>k (.slice id p (l.toNat+off) (h-l).toNat) s|false=>none))
  |none=>none)
 | .ptr id p=>(match s.shape id p with
  |some (.arr n e)=>(match CU P t n e.size with|false=>none|true=>G7 s hi n λh=>(match aa (0<=l/\l<=h/\h<=n) with|true=>k (.slice id p l.toNat (h-l).toNat) s|false=>none))
  |_=>none)
 | .tP (.arr n te xs)=>(match CU P t n te.size with|false=>none|true=>G7 s hi n λh=>(match aa (0<=l/\l<=h/\h<=n) with|true=>k (.dp te ((xs.take h.toNat).drop l.toNat)) s|false=>none))
 |_=>none
noncomputable def AS (P:Program)(s:St)(id:Nat)(src dst:TypeId)(x:AV)(k:AV->St->Option α):Option α:=match x with
 | .val (.int _ n)=>(match P.underlying src,P.underlying dst with|some (.int _),some (.int kd)=>k (.val (.int kd (wr kd n))) s|_,_=>none)
 | .val (.string b)=>(match P.underlying src,P.underlying dst with
  |some .string,some .string=>k (.val (.string b)) s
  |some .string,some (.slice e)=>(match P.underlying e with
   |some (.int .u8)=>s.new id (.row false (.int .u8) (b.data.toList.map λc=>((c.toNat:Nat):Int))) λs=>k (.tail id 0) s
   |_=>none)
  |_,_=>none)
 |v=>(match P.underlying src,P.underlying dst with
  |some (.slice e),some .string=>(match P.underlying e with
   |some (.int .u8)=>qg s (.int .u8) v λxs _=>k (.val (.string (uF xs))) s
   |_=>none)
  |some (.slice _),some (.slice e)=>(match P.underlying e,decide (src=dst),v with
   |some (.int .u8),true, .tail j off=>(match s.h j with
    |some (.row false (.int .u8) xs)=>(match decide (off<xs.length) with|true=>k (.tail j off) s|false=>none)
    |_=>none)
   |_,_,_=>none)
  |_,_=>none)
def yV (P:Program)(t:TypeId):Bool:=match P.underlying t with|some (.int _)=>false|some _=>true|none=>false
noncomputable def inPlace (s:St)(i off len:Nat)(te:Ty)(xs ys:List te.den)(k:AV->St->Option α):Option α:=
 match aa (off+len+ys.length<=xs.length) with
 |true=>k (.slice i [] off (len+ys.length)) (s.set i (.row false te (xs.take (off+len)++ys++xs.drop (off+len+ys.length))))
 |false=>none
noncomputable def grow (P:Program)(s:St)(id:Nat)(e:TypeId)(te:Ty)(base ys:List te.den)(k:AV->St->Option α):Option α:=
 match aa (((base.length+ys.length:Nat):Int)*P.bytesOf e<=room) with
 |true=>s.new id (.row false te (base++ys)) λs=>k (.tail id 0) s
 |false=>none
noncomputable def grown (P:Program)(s:St)(id:Nat)(ty:TypeId)(e:TypeId)(te:Ty)(base:List te.den)(y:AV)(k:AV->St->Option α):Option α:=match y with
 | .val (.int .i64 n)=>(match P.underlying ty with
  |some (.int _)=>(match aa (0<=n/\((base.length:Int)+n)*P.bytesOf e<=room) with
   |true=>zeroV P e λ_=>s.new id (.row false te (base++List.replicate n.toNat (iA te))) λs=>k (.tail id 0) s
   |false=>none)
  |_=>none)
 | .val (.string b)=>(match yV P ty,ta (.int .u8) te (b.data.toList.map λc=>((c.toNat:Nat):Int)) with
  |true,some ys=>grow P s id e te base ys k
  |_,_=>none)
 |v=>(match yV P ty with|false=>none|true=>qg s te v λys _=>grow P s id e te base ys k)
noncomputable def Dp (P:Program)(s:St)(id:Nat)(tx ty:TypeId)(x y:AV)(k:AV->St->Option α):Option α:=match zD P tx with
 |some (e,te)=>(match x with
  | .val (.slice none 0 0)=>grown P s id ty e te [] y k
  | .tail i off=>(match s.h i with
   |some (.row false t' xs)=>(match ta t' te xs with
    |some xs=>grown P (s.set i .dead) id ty e te (xs.drop off) y k
    |none=>none)
   |_=>none)
  | .slice i [] off len=>(match s.h i with
   |some (.row false t' xs)=>(match ta t' te xs with
    |some xs=>(match yV P ty with|false=>none|true=>qg s te y λys _=>inPlace s i off len te xs ys k)
    |none=>none)
   |_=>none)
  |_=>none)
 |none=>none
noncomputable def KV (P:Program)(s:St)(tx:TypeId)(x y:AV)(k:AV->St->Option α):Option α:=match zD P tx with
 |some (_,te)=>qg s te y λys _=>(match x with
  | .tail id off=>(match s.h id with
   |some (.row false t' xs)=>(match decide (off=0) with|false=>none|true=>match ta t' te xs with
    |some xs=>k (.val (.int .i64 ((min ys.length xs.length:Nat):Int))) (s.set id (.row false te (ys.take xs.length++xs.drop ys.length)))
    |none=>none)
   |_=>none)
  | .slice id p off len=>(match p.isEmpty&&zB s id with
   |true=>none
   |false=>s.get id p λu=>(match u with
    | .arr n t' xs=>(match ta t' te xs with
     |some xs=>s.store id p (.arr n te (xs.take off++(ys.take len++xs.drop (off+min ys.length len)))) λs=>k (.val (.int .i64 ((min ys.length len:Nat):Int))) s
     |none=>none)
    |_=>none))
  |_=>none)
 |none=>none
noncomputable def Hf (P:Program)(s:St)(t:TypeId)(x:AV)(k:AV->St->Option α):Option α:=match zD P t with
 |some (e,te)=>zeroV P e λ_=>(match x with
  | .slice i [] off len=>(match s.h i with
   |some (.row false t' xs)=>(match ta t' te xs with
    |some xs=>k (.AP []) (s.set i (.row false te (xs.take off++List.replicate len (iA te)++xs.drop (off+len))))
    |none=>none)
   |_=>none)
  |_=>none)
 |none=>none
noncomputable def AT (P:Program)(s:St)(id:Nat)(b:Builtin)(args:List AV)(tys:List TypeId)(k:AV->St->Option α):Option α:=match b,args,tys with
 | .len,[x],t::_=>I5 P s t x λn=>k (.val (.int .i64 n)) s
 | .cap,[x],t::_=>(match x with| .val (.slice none 0 0)=>(match m9 P t with|true=>k (.val (.int .i64 0)) s|false=>none)|_=>none)
 | .min,[x,y],_=>(match x,y with| .val (.int ka a), .val (.int kb b)=>(if ka=kb then k (.val (.int ka (qM a b))) s else none)|_,_=>none)
 | .max,[x,y],_=>(match x,y with| .val (.int ka a), .val (.int kb b)=>(if ka=kb then k (.val (.int ka (imax a b))) s else none)|_,_=>none)
 | .append,[x,y],tx::ty::_=>Dp P s id tx ty x y k
 | .copy,[x,y],tx::_=>KV P s tx x y k
 | .clear,[x],tx::_=>Hf P s tx x k
 |_,_,_=>none
noncomputable def aop (P:Program)(s:St)(o:Oper)(k:AV->St->Option α):Option α:=
 match o.op with
 | .move x=>k (s.ev x) s
 | .assign x=>k (s.ev x) s
 | .nilCheck x=>(match s.ev x with| .ptr i p=>k (.ptr i p) s| .tP v=>k (.tP v) s| .rf g n c=>(match aa (n=0) with|true=>none|false=>k (.rf g n c) s)|_=>none)
 | .fieldAddr t x f=>xp P s t (s.ev x) f k
 | .field t x f=>G8 P s t (s.ev x) f k
 | .load t x=>KU P s t (s.ev x) k
 | .store t x y=>G9 P s t (s.ev x) (s.ev y) k
 | .pick c a b=>(match s.ev c with| .val (.bool t)=>(match t with|true=>k (s.ev a) s|false=>k (s.ev b) s)|_=>none)
 | .binOp op t x y _=>QY P s op t (s.ev x) (s.ev y) k
 | .unOp op _ x=>(match op,s.ev x with
  | .not, .val (.bool b)=>k (.val (.bool (!b))) s
  | .neg, .val (.int ki n)=>k (.val (.int ki (wr ki (0-n)))) s
  | .xor, .val (.int ki n)=>k (.val (.int ki (py ki (QU ki) n))) s
  |_,_=>none)
 | .convert src dst x=>AS P s (name s.ep (o.dst.getD 999) 0) src dst (s.ev x) k
 | .extract x i=>(match s.ev x with| .AP vs=>(match vs[i]? with|some v=>k v s|none=>none)|_=>none)
 | .alloc t=>Ha P s (name s.ep (o.dst.getD 999) 0) t k
 | .box _ x=>QZ s (name s.ep (o.dst.getD 999) 0) (s.ev x) k
 | .build t parts=>Hb P s t (parts.toList.map λp=>(p.1,s.ev p.2)) k
 | .buildSlice t len parts=>vV P s (name s.ep (o.dst.getD 999) 0) t len (parts.toList.map λp=>(p.1,s.ev p.2)) k
 | .makeSlice t l c=>xq P s (name s.ep (o.dst.getD 999) 0) t (s.ev l) (s.ev c) k
 | .indexAddr t x ix=>xr P s t (s.ev x) (s.ev ix) k
 | .index t x ix=>Hd P s t (s.ev x) (s.ev ix) k
 | .slice t x lo hi none=>He P s t (s.ev x) lo hi k
 | .slice t x lo hi (some mx)=>Dn P s t (s.ev x) lo hi mx k
 | .makeFunc fn first captured=>(match first.size,captured.size with|0,_=>k (.wZ fn (captured.toList.map s.ev)) s|_,0=>k (.Cz fn (first.toList.map s.ev)) s|_,_=>none)
 | .call {callee:= .builtin b,args,argTypes}=>AT P s (name s.ep (o.dst.getD 999) 0) b (args.toList.map s.ev) argTypes.toList k
 |_=>none
inductive Item where
 |code (c:Code)
 |ops (all:Array Oper) (rest:List Oper)
 |zF (all:Array Oper) (i:Nat) (rest:List Oper) (Dq:List (Nat×(List Nat×List Nat)×Option Nat))
 |Nf (id:Nat)
inductive Out where
 |norm|ret|exit (id:Nat)
def unwind (id:Nat):List Item->Option (List Item)
 | []=>none
 | .Nf i::k=>if i=id then some k else unwind id k
 |_::k=>unwind id k
structure Env (α:Type) where
 call:FuncId->List AV->St->(fresh:Nat)->(AV->St->Option α)->Option α
 loop:Nat->St->(Out->St->Option α)->Option α
 fp:FuncId->List AV->St->Nat->List Nat×List Nat
def mn:Code->Option Nat
 | .region id _ _=>some id
 | .seq a b=>match mn a with|some i=>some i|none=>mn b
 | .cond _ a b=>match mn a with|some i=>some i|none=>mn b
 | .block _ c| .loop c| .scope c=>mn c
 |_=>none
def uG:AV->List Nat
 | .ptr i _| .tail i _| .slice i _ _ _| .uu i _| .QJ i _ _ _=> [i]
 |_=> []
def KW (s:St)(o:Oper):List Nat:=
 match o.op with
 | .store _ x y=>uG (s.ev x)++(s.ev y).ids
 | .buildSlice _ _ ps=>ps.toList.flatMap λp=>(s.ev p.2).ids
 | .call {callee:= .builtin .append,args,argTypes:=_}=>args.toList.flatMap λx=>uG (s.ev x)
 | .call {callee:= .builtin .copy,args,argTypes:=_}=>args.toList.flatMap λx=>uG (s.ev x)
 | .call {callee:= .builtin .clear,args,argTypes:=_}=>args.toList.flatMap λx=>uG (s.ev x)
 |_=> []
def makes (o:Oper):Bool:=
 match o.op with
 | .alloc _| .box _ _| .makeSlice _ _ _| .convert _ _ _| .buildSlice _ _ _=>true
 | .call {callee:= .builtin .append,args:=_,argTypes:=_}=>true
 | .call {callee:= .value _,args:=_,argTypes:=_}=>true
 |_=>false
def qz (ep:Nat)(o:Oper)(id:Nat):Bool:=makes o&&decide (id/100=ep*1000+o.dst.getD 999)
def Q1 (o:Oper):List Nat:=o.op.operands.toList.filterMap fun| .tmp t=>some t|_=>none
def Hg (h:Nat->Option fO):AV->AV
 | .QJ i p f off=>match St.shape ⟨λ_=> .undef,h,0,0⟩ i p with
  |some (.agg fs)=>(match decide (Sh.dX (fs.take f)=off/\f<fs.length) with|true=> .ptr i (p++ [.ir f])|false=> .QJ i p f off)
  |_=> .QJ i p f off
 |v=>v
def rN (s:St):St:={s with t:=λx=>Hg s.h (s.t x)}
def Dr (s:St)(o:Oper)(fp:List Nat×List Nat):Nat->Option fO:=λid=>if fp.1.contains id||fp.2.contains id||qz s.ep o id then s.h id else some .dead
def wM (s:St)(o:Oper)(fp:List Nat×List Nat):St:=
 {t:=λx=>if(Q1 o).contains x then Hg (Dr s o fp) (s.t x) else .undef,h:=Dr s o fp,ep:=s.ep,nt:=s.nt}
def merge (s:St)(o:Oper)(W:List Nat)(s':St):St:={s with h:=λid=>if W.contains id||qz s.ep o id then s'.h id else s.h id}
def Q2 (s:St)(i:Nat):List Nat:=match s.h i with
 |some (.var (.agg fs))=>(match fs.all (λv=>match v with| .tail _ _=>true|_=>false) with|true=>AV.XH fs|false=> [])
 |_=> []
noncomputable def yy (env:Env α)(s:St)(o:Oper):List Nat×List Nat:=
 match o.op with
 | .load _ x| .fieldAddr _ x _| .indexAddr _ x _| .slice _ x _ _ _| .convert _ _ x=>(uG (s.ev x),KW s o)
 | .store _ x _=>((uG (s.ev x)).flatMap (Q2 s),KW s o)
 | .call {callee:= .builtin _,args,argTypes:=_}=>(args.toList.flatMap λx=>uG (s.ev x),KW s o)
 | .call {callee:= .value f,args,argTypes:=_}=>match s.ev f with
  | .val (.func (.func f) _ _)=>env.fp f (args.toList.map s.ev) s (name s.ep (o.dst.getD 999) 0)
  | .wZ (.func f) cs=>env.fp f (args.toList.map s.ev++cs) s (name s.ep (o.dst.getD 999) 0)
  |_=>([],[])
 |_=>([],KW s o)
abbrev Fp:=(List Nat×List Nat)×Option Nat
def keyOf (ep:Nat)(o:Oper):Option Nat:=if makes o then some (ep*1000+o.dst.getD 999) else none
def WM (k:Option Nat)(l:List Nat):Bool:=match k with|none=>false|some k=>l.any λi=>decide (i/100=k)
def yH (a b:Fp):Bool:=
 a.1.2.any (λi=>b.1.1.contains i||b.1.2.contains i)||b.1.2.any (λi=>a.1.1.contains i)||
 WM a.2 (b.1.1++b.1.2)||WM b.2 (a.1.1++a.1.2)||(match a.2,b.2 with|some k,some k'=>decide (k=k')|_,_=>false)
def WN (bj:Nat)(f:Fp)(Dq:List (Nat×Fp)):Bool:=
 Dq.all λp=>bj.testBit p.1||!yH p.2 f
noncomputable def I7 (P:Program)(env:Env α)(st:St)(o:Oper)(k:AV->St->Option α):Option α:=match o.op with
 | .call {callee:= .value f,args,argTypes:=_}=>(match st.ev f with
  | .val (.func (.func f) first captured)=>(match first.size+captured.size with|0=>env.call f (args.toList.map st.ev) st (name st.ep (o.dst.getD 999) 0) k|_=>none)
  | .wZ (.func f) cs=>env.call f (args.toList.map st.ev++cs) st (name st.ep (o.dst.getD 999) 0) k
  |_=>none)
 |_=>aop P st o k
noncomputable def guarded (all:Array Oper)(o:Oper)(st:St)(next:St->Option α)(skip:St->Option α):Option α:=match o.guard with
 |none=>next st
 |some (j,want)=>match(all[j]?).bind (·.dst) with
  |none=>none
  |some slot=>match st.t slot with
   | .val (.bool b)=>(match b with
    |true=>(match want with|true=>next (st.put (some slot) (.val (.bool true)))|false=>skip ((st.put (some slot) (.val (.bool true))).put o.dst (.val Go.undef)))
    |false=>(match want with|false=>next (st.put (some slot) (.val (.bool false)))|true=>skip ((st.put (some slot) (.val (.bool false))).put o.dst (.val Go.undef))))
   | .val (.tuple _)=>skip (st.put o.dst (.val Go.undef))
   |_=>none
noncomputable def exec (P:Program)(env:Env α):Nat->List Item->St->(Out->St->Option α)->Option α
 |0,_,_,_=>none
 |n+1,todo,st,K=>
  match todo with
  | []=>K .norm st
  | .Nf _::k=>exec P env n k st K
  | .ops all rest::k=>(match rest with
   | []=>exec P env n k st K
   |o::rest=>guarded all o st (λst=>I7 P env st o λv fe=>exec P env n (.ops all rest::k) (fe.put o.dst v) K) (λst=>exec P env n (.ops all rest::k) st K))
  | .zF all i rest Dq::k=>(match rest with
   | []=>exec P env n k (rN st) K
   |o::rest=>guarded all o st
    (λst=>match WN ((Region.before all).getD i 0) (yy env (rN st) o,keyOf st.ep o) Dq with
     |true=>match(yy env (wM st o (yy env (rN st) o)) o).2.all (λi=>(yy env (rN st) o).2.contains i) with|false=>none|true=>I7 P env (wM st o (yy env (rN st) o)) o λv fe=>exec P env n (.zF all (i+1) rest ((i,yy env (rN st) o,keyOf st.ep o)::Dq)::k) ((merge st o (yy env (rN st) o).2 fe).put o.dst v) K
     |false=>(match o.op with
      | .fieldAddr _ _ _=>(match WN ((Region.before all).getD i 0) (([],[]),keyOf st.ep o) Dq with
       |true=>I7 P env (wM st o ([],[])) o λv fe=>exec P env n (.zF all (i+1) rest ((i,([],[]),keyOf st.ep o)::Dq)::k) ((merge st o [] fe).put o.dst v) K
       |false=>none)
      |_=>none))
    (λst=>exec P env n (.zF all (i+1) rest Dq::k) st K))
  | .code c::k=>match c with
   | .skip=>exec P env n k st K
   | .label _=>exec P env n k st K
   | .seq a b=>exec P env n (.code a:: .code b::k) st K
   | .region _ ops draw=>(match draw with
    |false=>exec P env n (.ops ops ops.toList::k) {st with ep:=st.ep+1} K
    |true=>exec P env n (.zF ops 0 ops.toList []::k) {st with ep:=st.ep+1} K)
   | .cond c x y=>(match st.ev c with
    | .val (.bool b)=>(match b with|true=>exec P env n (.code x::k) st K|false=>exec P env n (.code y::k) st K)
    | .xm=>(match aa (exec P env n (.code x::k) st K=exec P env n (.code y::k) st K) with|true=>exec P env n (.code x::k) st K|false=>none)
    |_=>none)
   | .block id c=>exec P env n (.code c:: .Nf id::k) st K
   | .exit id=>(match unwind id k with|some k'=>exec P env n k' st K|none=>K (.exit id) st)
   | .ret=>K .ret st
   | .loop c=>(match mn c with
    |some id=>env.loop id st λout st=>(match out with
     | .norm=>none
     | .ret=>K .ret st
     | .exit id=>(match unwind id k with|some k'=>exec P env n k' st K|none=>K (.exit id) st))
    |none=>none)
   |_=>none
end
end AM
namespace AM
open Go
def wN:List (Nat×cp)->Type
 | []=>Unit
 |o::os=>o.2.den×wN os
structure jw where
 jP:List (Nat×cp)
 heap:List (Nat×aK)
def jw.den (s:jw):Type:=wN s.jP×cT s.heap
def gT:List jw->Type
 | []=>Empty
 | [e]=>e.den
 |e::es=>e.den⊕gT es
def aK.mk (b:Nat->Nat):(p:aK)->p.den->fO
 | .var p,d=> .var (p.mk b d)
 | .row t,d=> .row false t d
 | .store ep,d=> .store ep d
def mR (b:Nat->Nat):(l:List (Nat×aK))->cT l->(Nat->Option fO)->(Nat->Option fO)
 | [],_,h=>h
 |(c,p)::os,d,h=>λx=>if x=b c then some (p.mk b d.1) else mR b os d.2 h x
def yW (b:Nat->Nat):(l:List (Nat×cp))->wN l->Nat->AV
 | [],_,_=> .undef
 |o::os,d,x=>if x=o.1 then o.2.mk b d.1 else yW b os d.2 x
def jw.st (s:jw)(nt:Nat)(d:s.den):St:={t:=yW id s.jP d.1,h:=mR id s.heap d.2 (λ_=>none),ep:=0,nt}
inductive xb where
 |at_ (i:Nat)|tl (i off:Nat)|nil|sl (i off len:Nat)
abbrev kz:=List (Nat×xb)
def kz.get (b:kz)(c:Nat):Option xb:=match b with| []=>none|p::ps=>if p.1=c then some p.2 else kz.get ps c
def kz.add (b:kz)(c:Nat)(g:xb):Option kz:=match b.get c,g with
 |none,g=>some ((c,g)::b)
 |some (.at_ i), .at_ j=>if i=j then some b else none
 |some (.tl i 0), .tl j 0=>if i=j then some b else none
 |some _,_=>none
def kz.look (b:kz)(c:Nat):Option xb:=match decide (SB<=c) with|true=>some (.at_ c)|false=>b.get c
mutual
def cp.beq:cp->cp->Bool
 | .hole t, .hole t'=>decide (t=t')
 | .ptr c, .ptr c'=>decide (c=c')
 | .own c, .own c'=>decide (c=c')
 | .agg ps, .agg XL=>cp.Q3 ps XL
 |_,_=>false
def cp.Q3:List cp->List cp->Bool
 | [],[]=>true
 |p::ps,q::qs=>p.beq q&&cp.Q3 ps qs
 |_,_=>false
end
mutual
def aK.beq:aK->aK->Bool
 | .var p, .var q=>p.beq q
 | .row t, .row t'=>decide (t=t')
 | .store e, .store e'=>KX e e'
 |_,_=>false
def KX:List (Nat×aK)->List (Nat×aK)->Bool
 | [],[]=>true
 |(c,p)::os,(c',p')::os'=>decide (c=c')&&p.beq p'&&KX os os'
 |_,_=>false
end
mutual
theorem cp.beq_eq: ∀{p q:cp},p.beq q=true->p=q
 | .hole t,q,h=>by cases q<;>simp[cp.beq] at h;subst h;rfl
 | .ptr c,q,h=>by cases q<;>simp[cp.beq] at h;subst h;rfl
 | .own c,q,h=>by cases q<;>simp[cp.beq] at h;subst h;rfl
 | .agg ps,q,h=>by cases q<;>simp[cp.beq] at h;rw[cp.Ng h]
 | .const _,q,h=>by simp[cp.beq] at h
 | .Fj _,q,h=>by simp[cp.beq] at h
 | .vn _,q,h=>by simp[cp.beq] at h
 | .kf _ _,q,h=>by simp[cp.beq] at h
 | .wZ _ _,q,h=>by simp[cp.beq] at h
 | .uu _ _,q,h=>by simp[cp.beq] at h
 | .skip,q,h=>by simp[cp.beq] at h
 | .I1 _,q,h=>by simp[cp.beq] at h
theorem cp.Ng: ∀{ps qs:List cp},cp.Q3 ps qs=true->ps=qs
 | [],qs,h=>by cases qs<;>simp[cp.Q3] at h;rfl
 |p::ps,qs,h=>by
  cases qs<;>simp[cp.Q3] at h
  rw[cp.beq_eq h.1,cp.Ng h.2]
end
mutual
theorem aK.beq_eq: ∀{p q:aK},p.beq q=true->p=q
 | .var p,q,h=>by cases q<;>simp[aK.beq] at h;rw[cp.beq_eq h]
 | .row t,q,h=>by cases q<;>simp[aK.beq] at h;subst h;rfl
 | .store e,q,h=>by cases q<;>simp[aK.beq] at h;rw[CW h]
theorem CW: ∀{l m:List (Nat×aK)},KX l m=true->l=m
 | [],m,h=>by cases m<;>simp[KX] at h;rfl
 |(c,p)::os,m,h=>by
  cases m with
  |nil=>simp[KX] at h
  |cons x xs=>
   obtain⟨c',p'⟩:=x;simp[KX] at h;rw[h.1.1,aK.beq_eq h.1.2,CW h.2]
end
def Nh (e e':List (Nat×aK))(xs:List (cT e)):Option (List (cT e')):=if h:KX e e'=true then some (CW h▸xs) else none
section
variable {α:Type}
def XM:Ty->AV->Bool
 | .int _, .val (.int _ _)=>true
 | .bool, .val (.bool _)=>true
 | .str, .val (.string _)=>true
 | .nil, .agg _=>true
 | .cons _ _, .agg _=>true
 | .arr _ _, .arr _ _ _=>true
 | .deep _, .val (.slice _ _ _)=>true
 | .deep _, .tail _ _=>true
 | .deep _, .slice _ _ _ _=>true
 | .deep _, .dp _ _=>true
 | .deep _, .uu _ _=>true
 | .ref _, .rf _ _ _=>true
 | .ref _, .val (.pointer none)=>true
 |_,_=>false
def XN:Fn->Fn->Bool
 | .func f, .func g=>decide (f=g)
 |_,_=>false
def nD:(p:List oh)->List Step->(oh.xa p->Option α)->Option α->Option α
 | [],[],k,_=>k ()
 | .ir n::p, .ir m::q,k,f=>(match decide (n=m) with|true=>nD p q k f|false=>f)
 | .idx::p, .idx i::q,k,f=>nD p q (λd=>k (i,d)) f
 |_,_,_,f=>f
def zaa (s:St)(t:Ty)(v:AV)(k:t.den->List Nat->Option α)(fail:Option α):Option α:=
 match XM t v with|true=>qN s t v k|false=>fail
mutual
def oK (s:St):(p:cp)->AV->kz->(p.den->List Nat->kz->Option α)->Option α->Option α
 | .hole t,v,b,k,f=>zaa s t v (λx i=>k x i b) f
 | .vn t,v,b,k,f=>match v with
  | .ptr i p=>s.get i p λu=>qN s t u λx ids=>k x (i::ids) b
  | .tP u=>qN s t u λx ids=>k x ids b
  |_=>f
 | .const c,v,b,k,f=>match v with| .val v=>(match veq c v with|true=>k () [] b|false=>f)|_=>f
 | .ptr c,v,b,k,f=>match v with| .ptr i []=>(match b.add c (.at_ i) with|some b=>k () [] b|none=>f)|_=>f
 | .own c,v,b,k,f=>match v with
  | .tail i off=>(match b.add c (.tl i off) with|some b=>k () [] b|none=>f)
  | .val (.slice none 0 0)=>(match b.add c .nil with|some b=>k () [] b|none=>f)
  | .slice i [] off len=>(match zB s i with|true=>(match b.add c (.sl i off len) with|some b=>k () [] b|none=>f)|false=>f)
  |_=>f
 | .Fj c,v,b,k,f=>match v with
  | .slice i [] off len=>(match decide (off=0) with|true=>(match b.add c (.tl i 0) with|some b=>k len [] b|none=>f)|false=>f)
  |_=>f
 | .agg ps,v,b,k,f=>match v with| .agg vs=>uH s ps vs b k f|_=>f
 | .kf c p,v,b,k,f=>match v with| .ptr i q=>nD p q (λd=>match b.add c (.at_ i) with|some b=>k d [] b|none=>f) f|_=>f
 | .wZ fn ps,v,b,k,f=>match v with| .wZ fn' vs=>(match XN fn fn' with|true=>uH s ps vs b k f|false=>f)|_=>f
 | .uu c n,v,b,k,f=>match v with| .uu i m=>(match decide (n=m) with|true=>(match b.add c (.at_ i) with|some b=>k () [] b|none=>f)|false=>f)|_=>f
 | .skip,v,b,k,f=>match v.sh with| .one=>k () [] b|_=>f
 | .I1 p,v,b,k,f=>match v with
  | .ptr i q=>s.get i q λu=>oK s p u b (λx ids b=>k x (i::ids) b) f
  | .tP u=>oK s p u b k f
  |_=>f
def uH (s:St):(ps:List cp)->List AV->kz->(cp.xa ps->List Nat->kz->Option α)->Option α->Option α
 | [],[],b,k,_=>k () [] b
 |p::ps,v::vs,b,k,f=>oK s p v b (λx i b=>uH s ps vs b (λy j b=>k (x,y) (i++j) b) f) f
 |_,_,_,_,f=>f
end
def Hh (s:St):(l:List (Nat×cp))->kz->(wN l->List Nat->kz->Option α)->Option α->Option α
 | [],b,k,_=>k () [] b
 |o::os,b,k,f=>oK s o.2 (s.t o.1) b (λx i b=>Hh s os b (λy j b=>k (x,y) (i++j) b) f) f
def KY (s:St)(f:Option α):(p:aK)->xb->kz->(p.den->List Nat->kz->Option α)->Option α
 | .var p, .at_ i,b,k=>match s.h i with|some (.var v)=>oK s p v b k f|_=>none
 | .row t, .tl i off,b,k=>match s.h i with
  |some (.row false t' xs)=>(match ta t' t xs with|some ys=>k (ys.drop off) [] b|none=>none)
  |_=>none
 | .row t, .sl i off len,b,k=>match s.h i with
  |some (.row false t' xs)=>(match ta t' t xs with|some ys=>k ((ys.drop off).take len) [] b|none=>none)
  |_=>none
 | .row _, .nil,b,k=>k [] [] b
 | .store ep, .at_ i,b,k=>match decide (SB<=i) with
  |true=>(match s.h i with
   |some (.store Fk xs)=>(match Nh Fk ep xs with|some ys=>k ys [] b|none=>none)
   |none=>k [] [] b
   |some .void=>k [] [] b
   |_=>none)
  |false=>none
 |_,_,_,_=>none
def Hi (s:St)(f:Option α):(l:List (Nat×aK))->kz->(cT l->List Nat->kz->Option α)->Option α
 | [],b,k=>k () [] b
 |(c,p)::os,b,k=>match b.look c with
  |some g=>KY s f p g b λx i b=>Hi s f os b λy j b=>k (x,y) (i++j) b
  |none=>none
def xb.ids:xb->List Nat
 | .at_ i=> [i]| .tl i _=> [i]| .nil=> []| .sl i _ _=> [i]
def iN (l:List (Nat×aK))(b:kz):List Nat:=l.flatMap λo=>match b.look o.1 with|some g=>g.ids|none=> []
def nodup:List Nat->Bool
 | []=>true
 |x::xs=>!xs.contains x&&nodup xs
def isObj (s:St)(i:Nat):Bool:=match s.h i with|some (.var _)=>true|some (.row _ _ _)=>true|_=>false
def oN (sp:jw)(s:St)(b:kz)(k:sp.den->List Nat->kz->Option α)(fail:Option α):Option α:=
 Hh s sp.jP b (λx i b=>Hi s fail sp.heap b λy j b=>
  match nodup (iN sp.heap b)&& (i++j).all (λi=>!(iN sp.heap b).contains i&&isObj s i) with
  |true=>k (x,y) (i++j) b
  |false=>none) fail
def Ds (s:St)(b:kz):(es:List jw)->(gT es->Option α)->Option α
 | [],_=>none
 | [e],k=>oN e s b (λd _ _=>k d) none
 |e::e'::es,k=>oN e s b (λd _ _=>k (.inl d)) (Ds s b (e'::es) λd=>k (.inr d))
def Hj:(es:List jw)->gT es->((e:jw)->Nat->e.den->Option α)->Option α
 | [],d,_=>nomatch d
 | [e],d,k=>k e 0 d
 |e::e'::es,d,k=>match d with
  | .inl d=>k e 0 d
  | .inr d=>Hj (e'::es) d λe n d=>k e (n+1) d
def iter {L R:Type}(b:L->Option (L⊕R)):Nat->L->Option R
 |0,_=>none
 |n+1,l=>match b l with
  |none=>none
  |some (.inr r)=>some r
  |some (.inl l)=>iter b n l
open Classical in
noncomputable def ag {L R:Type}(b:L->Option (L⊕R))(l:L):Option R:=if h: ∃r,∃n,iter b n l=some r then some h.choose else none
theorem AU {L R:Type}{b:L->Option (L⊕R)}{r:R}: ∀{n m:Nat} {l:L},iter b n l=some r->n<=m->iter b m l=some r
 |0,_,_,h,_=>by simp[iter] at h
 |n+1,0,_,_,hm=>by omega
 |n+1,m+1,l,h,hm=>by
  simp only[iter] at h⊢;split at h
  ·cases h
  ·exact h
  ·exact AU h (by omega)
theorem oY {L R:Type}{b:L->Option (L⊕R)}{l:L}{r:R}:ag b l=some r↔∃n,iter b n l=some r:=by
 unfold ag;constructor
 ·intro h
  split at h
  ·rename_i hx
   injection h with h;subst h;exact hx.choose_spec
  ·cases h
 ·rintro⟨n,hn⟩
  have hx: ∃r,∃n,iter b n l=some r:=⟨r,n,hn⟩;rw[dif_pos hx];obtain⟨m,hm⟩:=hx.choose_spec;have h1:=AU hm (Nat.le_max_left m n);have h2:=AU hn (Nat.le_max_right m n);rw[h1] at h2;exact h2
theorem ar {L R:Type}(b:L->Option (L⊕R))(l:L):ag b l=match b l with|none=>none|some (.inr r)=>some r|some (.inl l')=>ag b l':=by
 cases h:b l with
 |none=>
  cases h2:ag b l with
  |none=>rfl
  |some r=>
   obtain⟨n,hn⟩:=oY.1 h2;cases n<;>simp[iter,h] at hn
 |some x=>
  cases x with
  |inr r=>exact oY.2 ⟨1,by simp[iter,h]⟩
  |inl l'=>
   show _=ag b l'
   cases h2:ag b l' with
   |some r=>
    obtain⟨n,hn⟩:=oY.1 h2;exact oY.2 ⟨n+1,by simp[iter,h,hn]⟩
   |none=>
    cases h3:ag b l with
    |none=>rfl
    |some r=>
     obtain⟨n,hn⟩:=oY.1 h3;cases n with
     |zero=>simp[iter] at hn
     |succ n=>
      simp only[iter,h] at hn;rw[oY.2 ⟨n,hn⟩] at h2;cases h2
def back (b:kz)(fresh c:Nat):Nat:=match decide (c<50) with
 |true=>(match b.get c with|some (.at_ i)=>i|_=>0)
 |false=>(match decide (SB<=c) with|true=>c|false=>fresh+(c-50))
def rZ (h:Nat->Option fO):List Nat->(Nat->Option fO)
 | []=>h
 |i::l=>λx=>if x=i then some .dead else rZ h l x
def tE (h:Nat->Option fO):List Nat->(Nat->Option fO)
 | []=>h
 |i::l=>λx=>if x=i then(match h i with|some (.row _ t xs)=>some (.row true t xs)|_=>some .dead) else tE h l x
structure al where
 pre:jw
 je:List jw
 zG:Bool
def iK:Option fO->Bool
 |none=>true
 |some .void=>true
 |_=>false
def oO (h:Nat->Option fO)(fresh:Nat)(pre l:List (Nat×aK)):Bool:=l.all λo=>decide (o.1<50)||(match decide (SB<=o.1) with
 |true=>(pre.any λq=>decide (q.1=o.1))||iK (h o.1)
 |false=>decide (o.1<150)&& (h (fresh+(o.1-50))).isNone)
def qV:List AV->AV
 | [v]=>v
 |vs=> .AP vs
def zab (sp:al):List Nat:=sp.je.flatMap λe=>(e.heap.map (·.1)).filter λc=>decide (SB<=c)
def UC (sp:al)(args:List AV)(st:St)(fail:List Nat×List Nat):List Nat×List Nat:=
 (oN sp.pre {t:=λi=>(args[i]?).getD .undef,h:=st.h,ep:=0,nt:=0} [] (λ_ ro b=>some (match sp.zG with|true=>(ro,iN sp.pre.heap b++zab sp)|false=>([],iN sp.pre.heap b++(ro++zab sp)))) (some fail)).getD ([],[])
def tQ (lt:Bool)(h:Nat->Option fO)(pre:jw)(b:kz)(ro:List Nat):Nat->Option fO:=match lt with|true=>rZ h (iN pre.heap b)|false=>tE (rZ h (iN pre.heap b)) ro
def Dt (sp:al)(f:sp.pre.den->Option (gT sp.je))(args:List AV)(st:St)(W:List Nat)(fresh:Nat)(k:jw->List Nat->AV->St->Option α)(fail:Option α):Option α:=
 match decide (args.length=sp.pre.jP.length) with
 |false=>none
 |true=>oN sp.pre {t:=λi=>(args[i]?).getD .undef,h:=st.h,ep:=0,nt:=0} [] (λd ro b=>
  match f d with
  |none=>none
  |some r=>match(iN sp.pre.heap b++(match sp.zG with|true=> []|false=>ro)).all (λi=>W.contains i) with
   |false=>none
   |true=>Hj sp.je r λe _ d'=>
    match oO st.h fresh sp.pre.heap e.heap&&e.heap.all (λo=>!decide (SB<=o.1)||W.contains o.1) with
    |false=>none
    |true=>k e (e.heap.map λo=>back b fresh o.1) (qV (e.jP.map λo=>yW (back b fresh) e.jP d'.1 o.1)) {st with h:=mR (back b fresh) e.heap d'.2 (tQ sp.zG st.h sp.pre b ro)}) fail
mutual
def cp.ks:cp->List Nat
 | .hole t=>t.ks
 | .vn t=>t.ks
 | .agg ps=>cp.Q4 ps
 | .wZ _ ps=>cp.Q4 ps
 | .I1 p=>p.ks
 |_=> []
def cp.Q4:List cp->List Nat
 | []=> []
 |p::ps=>p.ks++cp.Q4 ps
end
def aK.ks:aK->List Nat
 | .var p=>p.ks
 | .row t=>t.ks
 | .store _=> []
def WO (ks l:List Nat):Bool:=l.all λg=>!ks.contains g
def xt (ep:List (Nat×aK)):List Nat:=ep.filterMap λo=>match o.2 with| .store _=>some (o.1-SB)|_=>none
def da (ep:List (Nat×aK))(x:Nat):Bool:=ep.any λo=>decide (o.1=x)&& (match o.2 with| .store _=>true|_=>false)
def AW (e:jw)(ids rw:List Nat)(ks:List Nat):Bool:=
 (e.jP.all λo=>WO ks o.2.ks)&& ((e.heap.zip ids).all λp=>rw.contains p.2||(WO ks p.1.2.ks&& (match p.1.2 with| .store _=>false|_=>true)))
def aK.mY:aK->Bool
 | .store _=>true
 |_=>false
mutual
def cp.cs:cp->List Nat
 | .ptr c=> [c]| .own c=> [c]| .Fj c=> [c]| .kf c _=> [c]| .uu c _=> [c]
 | .agg ps=>cp.UD ps
 | .wZ _ ps=>cp.UD ps
 | .I1 p=>p.cs
 |_=> []
def cp.UD:List cp->List Nat
 | []=> []
 |p::ps=>p.cs++cp.UD ps
end
def aK.cs:aK->List Nat
 | .var p=>p.cs
 |_=> []
def AX (l:List (Nat×cp)):List Nat:=l.flatMap λo=>o.2.cs
def Du (l:List (Nat×cp)):List Nat:=l.flatMap λo=>o.2.ks
def AY (l:List (Nat×aK)):List Nat:=l.flatMap λo=>o.2.cs
def Dv (l:List (Nat×aK)):List Nat:=l.flatMap λo=>o.2.ks
def jw.closed (sp:jw):Bool:=((AX sp.jP++AY sp.heap).all λc=>decide (c<SB)&&sp.heap.any λe=>decide (e.1=c))&& ((Du sp.jP++Dv sp.heap).all λg=>da sp.heap (SB+g))&&sp.heap.all λe=>e.2.mY==decide (SB<=e.1)
def OO (ep:List (Nat×aK)):Bool:=(jw.mk [] ep).closed&& (ep.all λo=>o.2.mY||(decide (50<=o.1)&&decide (o.1<90)))&&nodup (ep.map (·.1))
def Z7 (off:Nat)(ep:List (Nat×aK)):kz:=ep.filterMap λo=>match o.2 with| .var _=>some (o.1, .at_ (off+(o.1-50)))|_=>none
def F4 (ep:List (Nat×aK))(c:Nat):Bool:=ep.any λo=>decide (o.1=c)&& (match o.2 with| .var _=>true|_=>false)
def KZ (g n off:Nat)(ep:List (Nat×aK)):AV->AV
 | .ptr i []=>(match decide (off<=i)&&F4 ep (i-off+50) with|true=> .rf g n (i-off+50)|false=> .ptr i [])
 |v=>v
def XO:AV->List AV
 | .AP vs=>vs
 |v=> [v]
def WQ (f:AV->AV):AV->AV
 | .AP vs=> .AP (vs.map f)
 |v=>f v
def tR (h:Nat->Option fO)(ep:List (Nat×aK))(rw:List Nat)(g:Nat)(o:fO):Nat->Option fO:=λx=>
 if x=SB+g then some o else match da ep x with|true=>some .void|false=>if rw.contains x then some .dead else h x
def I8 {ep:List (Nat×aK)}(xs:List (cT ep))(n:Nat)(d:cT ep):List (cT ep):=xs.set n d
def BN {ep:List (Nat×aK)}(xs:List (cT ep))(d:cT ep):List (cT ep):=xs++ [d]
def K0 {ep:List (Nat×aK)}(xs:List (cT ep)):Nat:=xs.length
def Q5:Option fO->Bool
 |some .dead=>true
 |_=>false
def inW (W:List Nat)(fresh:Nat)(l:List Nat):Bool:=l.all λi=>W.contains i||decide (i/100=fresh/100)
def XP (W:List Nat)(fresh g n off:Nat)(ep:List (Nat×aK))(xs:List (cT ep))(e:jw)(ids:List Nat)(av:AV)(st:St)(k:AV->St->Option α):Option α:=
 oN ⟨[],ep⟩ st (Z7 off ep) (λd ro b=>match ro.isEmpty&&AW e ids (iN ep b) (xt ep)&&!(iN ep b).contains (SB+g)&&ep.all (λo=>o.2.mY||(iN ep b).contains (back [] off o.1)||Q5 (st.h (back [] off o.1)))&&inW W fresh (iN ep b) with
  |false=>none
  |true=>k (WQ (KZ g (n+1) off ep) av) {st with h:=tR st.h ep (iN ep b) g (.store ep (I8 xs n d.2))}) none
def WR (g n:Nat)(vs:List AV)(i:Nat):AV:=qV (vs.set i (.rf g n 50))
def storeAt (ep:List (Nat×aK))(o:Option fO)(k:List (cT ep)->Option α):Option α:=match o with
 |some (.store Fk xs)=>(match Nh Fk ep xs with|some ys=>k ys|none=>none)
 |none=>k []
 |some .void=>k []
 |_=>none
def XQ (W:List Nat)(fresh i g:Nat)(ep:List (Nat×aK))(e:jw)(ids:List Nat)(av:AV)(st:St)(k:AV->St->Option α):Option α:=
 match(XO av)[i]? with
 |some (.ptr j [])=>storeAt ep (st.h (SB+g)) λxs=>oN ⟨[],ep⟩ st [(50, .at_ j)] (λd ro b=>
  match ro.isEmpty&&AW e ids (iN ep b) (xt ep)&&!(iN ep b).contains (SB+g)&&F4 ep 50&&!da ep (SB+g)&&inW W fresh (iN ep b) with
  |false=>none
  |true=>k (WR g (K0 (ep:=ep) xs+1) (XO av) i) {st with h:=tR st.h ep (iN ep b) g (.store ep (BN xs d.2))}) none
 |some (.val (.pointer none))=>k av st
 |_=>none
structure oZ where
 sp:al
 f:sp.pre.den->Option (gT sp.je)
 dep:Option (Nat×Nat×List (Nat×aK))
def xu:List AV->List (Nat×cp)->Nat->Option (Nat×Nat×Nat×Nat)
 | .rf g n c::vs,(_, .ptr _)::ps,j=>some (j,g,n,c)
 |_::vs,_::ps,j=>xu vs ps (j+1)
 |_,_,_=>none
def oh.Hk:(p:List oh)->oh.xa p
 | []=>()
 | .ir _::p=>oh.Hk p
 | .idx::p=>((0:Nat),oh.Hk p)
mutual
def cp.Hk:(p:cp)->p.den
 | .hole t=>iA t
 | .vn t=>iA t
 | .agg ps=>cp.Q6 ps
 | .wZ _ ps=>cp.Q6 ps
 | .Fj _=>(0:Nat)
 | .kf _ p=>oh.Hk p
 | .const _=>()
 | .ptr _=>()
 | .own _=>()
 | .uu _ _=>()
 | .skip=>()
 | .I1 p=>p.Hk
def cp.Q6:(ps:List cp)->cp.xa ps
 | []=>()
 |p::ps=>(p.Hk,cp.Q6 ps)
end
def aK.Hk:(p:aK)->p.den
 | .var p=>p.Hk
 | .row _=> []
 | .store _=> []
def WS:(l:List (Nat×aK))->cT l
 | []=>()
 |(_,p)::os=>(p.Hk,WS os)
def tS (st:St)(g off:Nat)(ep:List (Nat×aK))(d:cT ep):St:={st with h:=mR (back [] off) ep d (rZ st.h [SB+g])}
def fpX (oP:oZ)(args:List AV)(st:St)(fresh:Nat)(fail:List Nat×List Nat):List Nat×List Nat:=match xu args oP.sp.pre.jP 0 with
 |none=>(match oP.dep with
  |none=>UC oP.sp args st fail
  |some (_,g,ep)=>((UC oP.sp args st fail).1,(SB+g)::(ep.map (·.1)++(UC oP.sp args st fail).2)))
 |some (j,g,_,c)=>match st.h (SB+g) with
  |some (.store ep _)=>
    let fp:=UC oP.sp (args.set j (.ptr (back [] (fresh+60) c) [])) (tS st g (fresh+60) ep (WS ep)) fail
    (fp.1,(SB+g)::(ep.map (λo=>back [] (fresh+60) o.1)++fp.2))
  |_=>([],[])
def Q7 (oP:oZ)(args:List AV)(st:St)(W:List Nat)(fresh:Nat)(k:AV->St->Option α)(fail:Option α):Option α:=match xu args oP.sp.pre.jP 0 with
 |none=>(match oP.dep with
  |none=>Dt oP.sp oP.f args st W fresh (λ_ _ av fe=>k av fe) fail
  |some (i,g,ep)=>match W.contains (SB+g)&&ep.all (λo=>W.contains o.1)&&OO ep&&ep.all (λo=>!o.2.mY||iK (st.h o.1)) with
   |true=>Dt oP.sp oP.f args st W fresh (λe ids av fe=>XQ W fresh i g ep e ids av fe k) fail
   |false=>none)
 |some (j,g,n,c)=>match st.h (SB+g) with
  |some (.store ep xs)=>(match n with
   |0=>none
   |n+1=>match xs[n]? with
    |none=>none
    |some d=>match OO ep&&oO st.h (fresh+60) [] ep&&W.contains (SB+g)&&ep.all (λo=>W.contains (back [] (fresh+60) o.1))&&F4 ep c with
     |false=>none
     |true=>Dt oP.sp oP.f (args.set j (.ptr (back [] (fresh+60) c) [])) (tS st g (fresh+60) ep d) W fresh (λe ids av fe=>XP W fresh g n (fresh+60) ep xs e ids av fe k) fail)
  |_=>none
def mH {β:Type}(n:Nat)(k:Nat->Option β):Option β:=match n with|0=>none|m+1=>k m
structure bO where
 pre:jw
 je:List jw
 outs:List Out
 nt:Nat
noncomputable def K1 (sp:bO)(f:sp.pre.den->Option (sp.pre.den⊕gT sp.je))(st:St)(k:Out->St->Option α)(fail:Option α):Option α:=
 match decide (st.nt=sp.nt) with
 |false=>none
 |true=>oN sp.pre st [] (λd ro b=>
  match ag f d with
  |none=>none
  |some r=>Hj sp.je r λe n d'=>
   match oO st.h (name (st.ep+1) 998 0) sp.pre.heap e.heap with
   |false=>none
   |true=>k ((sp.outs[n]?).getD .norm) {t:=yW (back b (name (st.ep+1) 998 0)) e.jP d'.1,h:=mR (back b (name (st.ep+1) 998 0)) e.heap d'.2 (tQ false st.h sp.pre b ro),ep:=st.ep+1,nt:=st.nt}) fail
def BO (sp:jw):kz:=sp.heap.filterMap λo=>match o.2 with| .var _=>(match decide (o.1<50) with|true=>some (o.1, .at_ o.1)|false=>none)|_=>none
def tF (P:Program)(st:St):List ResultVar->(List AV->Option α)->Option α
 | [],k=>k []
 | .tmp t::l,k=>tF P st l λvs=>k (st.t t::vs)
 | .cell a t::l,k=>match st.t a with| .ptr i p=>st.get i p λv=>(match su P t v with|true=>tF P st l λvs=>k (v::vs)|false=>none)|_=>none
def Q8 (P:Program)(sp:al)(fn:Func)(o:Out)(st:St):Option (gT sp.je):=
 match o with
 | .exit _=>none
 |_=>tF P st fn.results.toList λvs=>Ds {st with t:=λi=>(vs[i]?).getD .undef} (BO sp.pre) sp.je some
noncomputable def qh (P:Program)(sp:al)(env:Env (gT sp.je))(fn:Func)(d:sp.pre.den):Option (gT sp.je):=
 match fn.body with
 |some c=>exec P env 100000 [.code c] (sp.pre.st fn.ntmps d) (Q8 P sp fn)
 |none=>none
def dm (id:Nat):Code->Option Code
 | .seq a b=>match dm id a with|some c=>some c|none=>dm id b
 | .cond _ a b=>match dm id a with|some c=>some c|none=>dm id b
 | .block _ c=>dm id c
 | .scope c=>dm id c
 | .loop c=>if mn c=some id then some c else dm id c
 |_=>none
def qW (id:Nat)(fn:Func):Code:=match fn.body with|some c=>(dm id c).getD .skip|none=> .skip
structure uU where
 sp:bO
 f:sp.pre.den->Option (sp.pre.den⊕gT sp.je)
def uI {β:Type}(n:Nat):List (Nat×β)->Option β
 | []=>none
 |p::l=>if p.1=n then some p.2 else uI n l
noncomputable def CX (st:St)(k:Out->St->Option α):List uU->Option α
 | []=>none
 |l::ls=>K1 l.sp l.f st k (CX st k ls)
def AZ (args:List AV)(st:St)(W:List Nat)(fresh:Nat)(k:AV->St->Option α):List oZ->Option α
 | []=>none
 |c::cs=>Q7 c args st W fresh k (AZ args st W fresh k cs)
def OP (args:List AV)(st:St)(fresh:Nat):List oZ->List Nat×List Nat
 | []=>([],[])
 |c::cs=>fpX c args st fresh (OP args st fresh cs)
noncomputable def rH (calls:List (Nat×List oZ))(loops:List (Nat×List uU)):Env α where
 call f args st fresh k:=match uI f calls with
  |some cs=>AZ args st (OP args st fresh cs).2 fresh k cs
  |none=>none
 loop id st k:=match uI id loops with
  |some ls=>CX st k ls
  |none=>none
 fp f args st fresh:=match uI f calls with
  |some cs=>OP args st fresh cs
  |none=>([],[])
def Ni:Out->Out->Bool
 | .norm, .norm=>true| .ret, .ret=>true| .exit i, .exit j=>decide (i=j)|_,_=>false
def qX (s:St)(b:kz)(o:Out):(es:List jw)->List Out->(gT es->Option α)->Option α
 | [],_,_=>none
 | [e],outs,k=>match outs with|o'::_=>(match Ni o o' with|true=>oN e s b (λd _ _=>k d) none|false=>none)| []=>none
 |e::e'::es,outs,k=>match outs with
  |o'::outs=>(match Ni o o' with
   |true=>oN e s b (λd _ _=>k (.inl d)) (qX s b o (e'::es) outs λd=>k (.inr d))
   |false=>qX s b o (e'::es) outs λd=>k (.inr d))
  | []=>none
def Q9 (sp:bO)(o:Out)(st:St):Option (sp.pre.den⊕gT sp.je):=
 match decide (st.nt=sp.nt) with
 |false=>none
 |true=>match o with
  | .norm=>oN sp.pre st (BO sp.pre) (λd _ _=>some (.inl d)) none
  |o=>qX st (BO sp.pre) o sp.je sp.outs λd=>some (.inr d)
noncomputable def vq (P:Program)(sp:bO)(env:Env (sp.pre.den⊕gT sp.je))(fn:Func)(id:Nat)(d:sp.pre.den):Option (sp.pre.den⊕gT sp.je):=
 exec P env 100000 [.code (qW id fn)] (sp.pre.st sp.nt d) (Q9 sp)
end
end AM
namespace AM
open Go
structure Nm where
 base:Option Addr
 sh:Sh
 row:Bool
 len:Nat
 cap:Nat
structure Names where
 at_:List (Nat×Nat)->Nat->Option Nm
instance :CoeFun Names (λ_=>Nat->Option Nm):=⟨λN=>N.at_ []⟩
def Names.sub (N:Names)(g k:Nat):Names:=⟨λp=>N.at_ ((g,k)::p)⟩
def Names.up (N:Names)(f:Nat->Option Nm):Names:=⟨λp=>match p with| []=>f|q::p=>N.at_ (q::p)⟩
def Names.nil:Names:=⟨λ_ _=>none⟩
def Names.I9 (N N':Names):Prop:= ∀g k c nm,N.sub g k c=some nm->nm.row=false->N'.sub g k c=some nm
structure Names.le (N N':Names):Prop where
 st: ∀i nm,N i=some nm->N' i=some nm
 sub:N.I9 N'
instance {N N':Names}:CoeFun (N.le N') (λ_=> ∀i nm,N i=some nm->N' i=some nm):=⟨λh=>h.st⟩
theorem Names.le_refl (N:Names):N.le N:=⟨λ_ _ h=>h,λ_ _ _ _ h _=>h⟩
theorem Names.le.trans {N N' N'':Names}(h:N.le N')(h':N'.le N''):N.le N'':=⟨λ_ _ e=>h'.st _ _ (h.st _ _ e),λg k c nm e r=>h'.sub g k c nm (h.sub g k c nm e r) r⟩
theorem Names.Ra {N:Names}{f:Nat->Option Nm}(h: ∀i nm,N i=some nm->f i=some nm):N.le (N.up f):=⟨h,λ_ _ _ _ e _=>e⟩
def fG:List Step->Sh->Option Nat
 | [],_=>some 0
 | .ir n::p, .agg l=>match l[n]? with|some s=>(fG p s).map (Sh.dX (l.take n)+·)|none=>none
 | .idx i::p, .arr n e=>if i<n then(fG p e).map (i*e.size+·) else none
 |_,_=>none
def Nm.off (nm:Nm):List Step->Option Nat
 | .idx i::p=>if nm.row then(if i<nm.len then(fG p nm.sh).map (i*nm.sh.size+·) else none) else fG (.idx i::p) nm.sh
 |p=>if nm.row then none else fG p nm.sh
def Nm.KF (nm:Nm)(p:List Step):Option Sh:=if nm.row then(match p with| .idx _::p=>zC p nm.sh|_=>none) else zC p nm.sh
def Addr.at_ (a:Addr)(n:Nat):Addr:=⟨a.block,a.off+n,none⟩
def aZ (w:World)(a:Addr)(j:Nat):Option Value:=w.cell? ⟨a.block,a.off+j,none⟩
abbrev jW {β:Type}(xs:List β)(i:Nat):Option β:=xs[i]?
abbrev aQ {β:Type}(xs:List β):Nat:=xs.length
def K2 (ad:Addr)(len room:Nat)(v:Value):Prop:= ∃a cap,v= .slice (some a) len cap/\len<=cap/\cap=room/\(a=ad\/cap=0)
section
variable (N:Names)(D:Nat->Prop)(w:World)
def xv (tag n c:Nat)(v:Option Value):Prop:=match n with
 |0=>v=some (.pointer none)
 |k+1=> ∃nm a,N.sub tag k c=some nm/\nm.row=false/\nm.base=some a/\v=some (.pointer (some (Addr.at_ a 0)))
def iy:(t:Ty)->t.den->(Nat->Option Value)->Prop
 | .int k,n,g=>g 0=some (.int k n)
 | .bool,b,g=>g 0=some (.bool b)
 | .str,s,g=>g 0=some (.string s)
 | .nil,_,_=>True
 | .cons a b,p,g=>iy a p.1 g/\iy b p.2 (λj=>g (a.size+j))
 | .arr n t,xs,g=>aQ (β:=t.den) xs=n/\∀i (x:t.den),jW (β:=t.den) xs i=some x->iy t x (λj=>g (i*t.size+j))
 | .deep t,xs,g=> ∃a cap,g 0=some (.slice a (aQ (β:=t.den) xs) cap)/\aQ (β:=t.den) xs<=cap/\(a=none->cap=0)/\
   ∀ad,a=some ad->aQ (β:=t.den) xs≠0->ad.spot=none/\D ad.block/\∀i (x:t.den),jW (β:=t.den) xs i=some x->iy t x (λj=>aZ w ad (i*t.size+j))
 | .ref g,n,c=>xv N g n 50 (c 0)
end
def jz (agg:Bool)(size:Nat)(R:(Nat->Option Value)->Prop)(v:Value):Prop:=
 match agg with
 |true=> ∃cells:Array Value,v= .agg cells/\cells.size=size/\R (cells[·]?)
 |false=>R (λ_=>some v)
section
variable (N:Names)(D:Nat->Prop)(w:World)
mutual
def aq:AV->(Nat->Option Value)->Prop
 | .undef,_=>True
 | .val v,g=>g 0=some v
 | .ptr id p,g=> ∃nm a o,N id=some nm/\nm.base=some a/\nm.off p=some o/\g 0=some (.pointer (some (Addr.at_ a o)))
 | .tail id off,g=> ∃nm,N id=some nm/\nm.row=true/\off<=nm.len/\nm.len<=nm.cap/\
   match nm.base with
   |none=>nm.len=0/\g 0=some (.slice none 0 0)
   |some a=> ∃v room,g 0=some v/\off+room<=nm.cap/\K2 (Addr.at_ a (off*nm.sh.size)) (nm.len-off) room v
 | .slice id p off len,g=> ∃nm,N id=some nm/\match nm.base with
  |none=>(nm.row&&p.isEmpty)=true/\off=0/\len=0/\nm.len=0/\g 0=some (.slice none 0 0)
  |some a=>
   if(nm.row&&p.isEmpty)=true then off+len<=nm.len/\nm.len<=nm.cap/\∃v room,g 0=some v/\off+room<=nm.cap/\nm.len<=off+room/\K2 (Addr.at_ a (off*nm.sh.size)) len room v
   else∃o n e v room,nm.off p=some o/\nm.KF p=some (.arr n e)/\off+len<=n/\g 0=some v/\off+room=n/\K2 (Addr.at_ a (o+off*e.size)) len room v
 | .dp t xs,g=>iy N D w (.deep t) xs g
 | .tP v,g=> ∃a,g 0=some (.pointer (some a))/\a.spot=none/\D a.block/\aq v (aZ w a)
 | .agg fs,g=>fg fs g
 | .arr n t xs,g=>iy N D w (.arr n t) xs g
 | .rf tag n c,g=>xv N tag n c (g 0)
 | .AP vs,g=> ∃cs:Array Value,g 0=some (.tuple cs)/\bF vs cs.toList
 | .wZ fn vs,g=> ∃cs:Array Value,g 0=some (.func fn #[] cs)/\bF vs cs.toList
 | .xm,g=> ∃b,g 0=some (.bool b)
 | .QJ id p f off,g=> ∃nm a o,N id=some nm/\nm.base=some a/\nm.off p=some o/\g 0=some (.pointer (some (Addr.at_ a (o+off))))
 | .Cz fn vs,g=> ∃cs:Array Value,g 0=some (.func fn cs #[])/\bF vs cs.toList
 | .uu id n,g=> ∃nm a,N id=some nm/\nm.base=some a/\nm.row=false/\g 0=some (.slice (some a) n n)
def fg:List AV->(Nat->Option Value)->Prop
 | [],_=>True
 |x::xs,g=>aq x g/\fg xs (λj=>g (x.size+j))
def bF:List AV->List Value->Prop
 | [],cs=>cs=[]
 |x::xs,cs=> ∃c tG,cs=c::tG/\jz x.isAgg x.size (aq x) c/\bF xs tG
end
def cw (x:AV)(v:Value):Prop:=jz x.isAgg x.size (aq N D w x) v
end
theorem OQ {N N':Names}(hN:N.I9 N'){tag n c:Nat}{v:Option Value}(h:xv N tag n c v):xv N' tag n c v:=by
 cases n with
 |zero=>exact h
 |succ k=>obtain⟨nm,a,h1,h2,h3⟩:=h;exact⟨nm,a,hN _ _ _ _ h1 h2,h2,h3⟩
def mo (ks:List Nat)(N N':Names):Prop:= ∀g∈ks,∀k c nm,N.sub g k c=some nm->nm.row=false->N'.sub g k c=some nm
theorem Names.I9.on {N N':Names}(h:N.I9 N')(ks:List Nat):mo ks N N':=λg _=>h g
theorem mo.left {ks ks':List Nat}{N N':Names}(h:mo (ks++ks') N N'):mo ks N N':=λg hg=>h g (zd4 _ hg)
theorem mo.right {ks ks':List Nat}{N N':Names}(h:mo (ks++ks') N N'):mo ks' N N':=λg hg=>h g (zd5 _ hg)
theorem kv {N N':Names}{D D':Nat->Prop}{w w':World}(hD: ∀b,D b->D' b)(hw: ∀b,D b->w'.heap[b]?=w.heap[b]?): ∀(t:Ty) (x:t.den) (g:Nat->Option Value),mo t.ks N N'->iy N D w t x g->iy N' D' w' t x g
 | .int _,_,_,_,h=>by simp only[iy] at*;exact h
 | .bool,_,_,_,h=>by simp only[iy] at*;exact h
 | .str,_,_,_,h=>by simp only[iy] at*;exact h
 | .nil,_,_,_,_=>by simp only[iy]
 | .cons a b,p,g,hN,h=>⟨kv hD hw a p.1 g hN.left h.1,kv hD hw b p.2 _ hN.right h.2⟩
 | .arr n t,xs,g,hN,h=>⟨h.1,λi x hx=>kv hD hw t x _ hN (h.2 i x hx)⟩
 | .deep t,xs,g,hN,h=>by
  obtain⟨a,cap,h1,h2,h3,h4⟩:=h;refine⟨a,cap,h1,h2,h3,λad ha hx=>?_⟩;obtain⟨h5,h6,h7⟩:=h4 ad ha hx;refine⟨h5,hD _ h6,λi x hi=>?_⟩;have:=kv hD hw t x _ hN (h7 i x hi);have e:(λj=>aZ w ad (i*t.size+j))=λj=>aZ w' ad (i*t.size+j):=by
   funext j;simp only[aZ,World.cell?,hw _ h6]
  rw[<-e];exact this
 | .ref g,n,c,hN,h=>by
  show xv N' g n 50 (c 0)
  have h:xv N g n 50 (c 0):=h;cases n with
  |zero=>exact h
  |succ k=>obtain⟨nm,a,h1,h2,h3⟩:=h;exact⟨nm,a,hN g (List.mem_singleton.2 rfl) _ _ _ h1 h2,h2,h3⟩
theorem K3 {N N':Names}{D D':Nat->Prop}{w w':World}(hN:N.I9 N')(hD: ∀b,D b->D' b)(hw: ∀b,D b->w'.heap[b]?=w.heap[b]?)(t:Ty)(x:t.den)(g:Nat->Option Value)(h:iy N D w t x g):iy N' D' w' t x g:=
 kv hD hw t x g (hN.on _) h
theorem kC {N N':Names}{D D':Nat->Prop}{w w':World}(hN:N.le N')(hD: ∀b,D b->D' b)(hw: ∀b,D b->w'.heap[b]?=w.heap[b]?)(t:Ty)(x:t.den)(g:Nat->Option Value)(h:iy N D w t x g):iy N' D' w' t x g:=
 K3 hN.sub hD hw t x g h
theorem jm {N:Names}{D:Nat->Prop}{w:World}: ∀(t:Ty) (x:t.den) (g g':Nat->Option Value),(∀j,j<t.size->g j=g' j)->iy N D w t x g->iy N D w t x g'
 | .int _,_,g,g',hg,h=>by simp only[iy] at*;rw[<-hg 0 (by simp[Ty.size])];exact h
 | .bool,_,g,g',hg,h=>by simp only[iy] at*;rw[<-hg 0 (by simp[Ty.size])];exact h
 | .str,_,g,g',hg,h=>by simp only[iy] at*;rw[<-hg 0 (by simp[Ty.size])];exact h
 | .nil,_,_,_,_,_=>by simp only[iy]
 | .cons a b,p,g,g',hg,h=>⟨jm a p.1 g g' (λj hj=>hg j (by simp[Ty.size];omega)) h.1,jm b p.2 _ _ (λj hj=>hg _ (by simp[Ty.size];omega)) h.2⟩
 | .arr n t,xs,g,g',hg,h=>by
  refine⟨h.1,λi x hx=>jm t x _ _ (λj hj=>hg _ ?_) (h.2 i x hx)⟩;have hi:i<aQ (β:=t.den) xs:=(List.getElem?_eq_some_iff.1 hx).1;have:i+1<=n:=by have:=h.1;omega
  have:=zd6 t.size this;simp only[Ty.size];rw[zd7] at this;omega
 | .deep t,xs,g,g',hg,h=>by
  obtain⟨a,cap,h1,h2⟩:=h;exact⟨a,cap,by rw[<-hg 0 (by simp[Ty.size])];exact h1,h2⟩
 | .ref _,_,g,g',hg,h=>by simp only[iy] at*;rw[<-hg 0 (by simp[Ty.size])];exact h
theorem xy {agg:Bool}{size:Nat}{R R':(Nat->Option Value)->Prop}(h: ∀g,R g->R' g){v:Value}(hv:jz agg size R v):jz agg size R' v:=by
 cases agg with
 |true=>obtain⟨c,h1,h2,h3⟩:=hv;exact⟨c,h1,h2,h _ h3⟩
 |false=>exact h _ hv
section
variable {N N':Names}{D D':Nat->Prop}{w w':World}
mutual
theorem qo (hN:N.le N')(hD: ∀b,D b->D' b)(hw: ∀b,D b->w'.heap[b]?=w.heap[b]?):
  ∀(x:AV) (g:Nat->Option Value),aq N D w x g->aq N' D' w' x g
 | .undef,_,_=>by simp only[aq]
 | .val v,g,h=>by simp only[aq] at*;exact h
 | .ptr id p,g,h=>by
  simp only[aq] at*;obtain⟨nm,a,o,h1,h2⟩:=h;exact⟨nm,a,o,hN _ _ h1,h2⟩
 | .tail id off,g,h=>by
  simp only[aq] at*;obtain⟨nm,h1,h2⟩:=h;exact⟨nm,hN _ _ h1,h2⟩
 | .slice id p off len,g,h=>by
  simp only[aq] at*;obtain⟨nm,h1,h2⟩:=h;exact⟨nm,hN _ _ h1,h2⟩
 | .dp t xs,g,h=>by simp only[aq] at*;exact kC hN hD hw _ _ _ h
 | .tP v,g,h=>by
  simp only[aq] at*;obtain⟨a,h1,h2,h3,h4⟩:=h;refine⟨a,h1,h2,hD _ h3,?_⟩;have e:aZ w a=aZ w' a:=by funext j;simp only[aZ,World.cell?,hw _ h3]
  rw[<-e];exact qo hN hD hw v _ h4
 | .agg fs,g,h=>by simp only[aq] at*;exact BP hN hD hw fs g h
 | .arr n t xs,g,h=>by simp only[aq] at*;exact kC hN hD hw _ _ _ h
 | .AP vs,g,h=>by
  simp only[aq] at*;obtain⟨cs,h1,h2⟩:=h;exact⟨cs,h1,pz hN hD hw vs _ h2⟩
 | .wZ fn vs,g,h=>by
  simp only[aq] at*;obtain⟨cs,h1,h2⟩:=h;exact⟨cs,h1,pz hN hD hw vs _ h2⟩
 | .xm,g,h=>by simp only[aq] at*;exact h
 | .QJ id p f off,g,h=>by
  simp only[aq] at*;obtain⟨nm,a,o,h1,h2⟩:=h;exact⟨nm,a,o,hN _ _ h1,h2⟩
 | .Cz fn vs,g,h=>by
  simp only[aq] at*;obtain⟨cs,h1,h2⟩:=h;exact⟨cs,h1,pz hN hD hw vs cs.toList h2⟩
 | .uu id n,g,h=>by
  simp only[aq] at*;obtain⟨nm,a,h1,h2⟩:=h;exact⟨nm,a,hN _ _ h1,h2⟩
 | .rf _ _ _,g,h=>by simp only[aq] at*;exact OQ hN.sub h
theorem BP (hN:N.le N')(hD: ∀b,D b->D' b)(hw: ∀b,D b->w'.heap[b]?=w.heap[b]?):
  ∀(l:List AV) (g:Nat->Option Value),fg N D w l g->fg N' D' w' l g
 | [],_,_=>by simp only[fg]
 |x::xs,g,h=>by
  simp only[fg] at*;exact⟨qo hN hD hw x g h.1,BP hN hD hw xs _ h.2⟩
theorem pz (hN:N.le N')(hD: ∀b,D b->D' b)(hw: ∀b,D b->w'.heap[b]?=w.heap[b]?):
  ∀(l:List AV) (cs:List Value),bF N D w l cs->bF N' D' w' l cs
 | [],_,h=>by simp only[bF] at*;exact h
 |x::xs,cs,h=>by
  simp only[bF] at*;obtain⟨c,tG,h1,h2,h3⟩:=h;exact⟨c,tG,h1,xy (λg hg=>qo hN hD hw x g hg) h2,pz hN hD hw xs tG h3⟩
end
theorem F5 (hN:N.le N')(hD: ∀b,D b->D' b)(hw: ∀b,D b->w'.heap[b]?=w.heap[b]?){x:AV}{v:Value}(h:cw N D w x v):cw N' D' w' x v:=
 xy (λg hg=>qo hN hD hw x g hg) h
mutual
theorem jR: ∀(x:AV) (g g':Nat->Option Value),(∀j,j<x.size->g j=g' j)->aq N D w x g->aq N D w x g'
 | .undef,_,_,_,_=>by simp only[aq]
 | .val v,g,g',hg,h=>by simp only[aq] at*;rw[<-hg 0 (by simp[AV.size])];exact h
 | .ptr id p,g,g',hg,h=>by simp only[aq] at*;rw[<-hg 0 (by simp[AV.size])];exact h
 | .tail id off,g,g',hg,h=>by simp only[aq] at*;rw[<-hg 0 (by simp[AV.size])];exact h
 | .slice id p off len,g,g',hg,h=>by simp only[aq] at*;rw[<-hg 0 (by simp[AV.size])];exact h
 | .dp t xs,g,g',hg,h=>by simp only[aq] at*;exact jm _ _ _ _ (λj hj=>hg j (by simpa [AV.size,Ty.size] using hj)) h
 | .tP v,g,g',hg,h=>by simp only[aq] at*;rw[<-hg 0 (by simp[AV.size])];exact h
 | .agg fs,g,g',hg,h=>by simp only[aq] at*;exact vW fs g g' (λj hj=>hg j (by simpa [AV.size] using hj)) h
 | .arr n t xs,g,g',hg,h=>by simp only[aq] at*;exact jm _ _ _ _ (λj hj=>hg j (by simpa [AV.size,Ty.size] using hj)) h
 | .AP vs,g,g',hg,h=>by simp only[aq] at*;rw[<-hg 0 (by simp[AV.size])];exact h
 | .wZ fn vs,g,g',hg,h=>by simp only[aq] at*;rw[<-hg 0 (by simp[AV.size])];exact h
 | .xm,g,g',hg,h=>by simp only[aq] at*;rw[<-hg 0 (by simp[AV.size])];exact h
 | .QJ id p f off,g,g',hg,h=>by simp only[aq] at*;rw[<-hg 0 (by simp[AV.size])];exact h
 | .Cz fn vs,g,g',hg,h=>by simp only[aq] at*;rw[<-hg 0 (by simp[AV.size])];exact h
 | .uu id n,g,g',hg,h=>by simp only[aq] at*;rw[<-hg 0 (by simp[AV.size])];exact h
 | .rf _ _ _,g,g',hg,h=>by simp only[aq] at*;rw[<-hg 0 (by simp[AV.size])];exact h
theorem vW: ∀(l:List AV) (g g':Nat->Option Value),(∀j,j<AV.dX l->g j=g' j)->fg N D w l g->fg N D w l g'
 | [],_,_,_,_=>by simp only[fg]
 |x::xs,g,g',hg,h=>by
  simp only[fg] at*;exact⟨jR x g g' (λj hj=>hg j (by simp[AV.dX];omega)) h.1,vW xs _ _ (λj hj=>hg _ (by simp[AV.dX];omega)) h.2⟩
end
end
end AM
namespace AM
open Go
theorem iL: ∀t:Ty,(sr t).size=t.size
 | .int _=>by simp[sr,Sh.size,Ty.size]
 | .bool=>by simp[sr,Sh.size,Ty.size]
 | .str=>by simp[sr,Sh.size,Ty.size]
 | .nil=>by simp[sr,Sh.size,Sh.dX,Ty.size]
 | .deep _=>by simp[sr,Sh.size,Ty.size]
 | .ref _=>by simp[sr,Sh.size,Ty.size]
 | .arr n t=>by simp[sr,Sh.size,Ty.size,iL t]
 | .cons a b=>by
  have ha:=iL a;have hb:=iL b;unfold sr;cases h:sr b<;>simp[h,Sh.size,Sh.dX,Ty.size] at* <;>omega
theorem nE: ∀(t:Ty) (x:t.den),(enc t x).size=t.size
 | .int _,_=>by simp[enc,AV.size,Ty.size]
 | .bool,_=>by simp[enc,AV.size,Ty.size]
 | .str,_=>by simp[enc,AV.size,Ty.size]
 | .nil,_=>by simp[enc,AV.size,AV.dX,Ty.size]
 | .deep _,_=>by simp[enc,AV.size,Ty.size]
 | .ref _,_=>by simp[enc,AV.size,Ty.size]
 | .arr n t,_=>by simp[enc,AV.size,Ty.size]
 | .cons a b,p=>by
  have ha:=nE a p.1;have hb:=nE b p.2;unfold enc;cases h:enc b p.2<;>simp[h,AV.size,AV.dX,Ty.size] at* <;>omega
theorem rO: ∀(t:Ty) (x:t.den),(enc t x).sh=sr t
 | .int _,_=>by simp[enc,AV.sh,sr]
 | .bool,_=>by simp[enc,AV.sh,sr]
 | .str,_=>by simp[enc,AV.sh,sr]
 | .nil,_=>by simp[enc,AV.sh,AV.yG,sr]
 | .deep _,_=>by simp[enc,AV.sh,sr]
 | .ref _,_=>by simp[enc,AV.sh,sr]
 | .arr n t,_=>by simp[enc,AV.sh,sr]
 | .cons a b,p=>by
  have ha:=rO a p.1;have hb:=rO b p.2;unfold enc sr;cases h:enc b p.2<;>simp[h,AV.sh,AV.yG] at hb⊢ <;>simp[<-hb,ha]
mutual
theorem kT: ∀v:AV,v.sh.size=v.size
 | .undef=>by simp[AV.sh,Sh.size,AV.size]
 | .val _=>by simp[AV.sh,Sh.size,AV.size]
 | .ptr _ _=>by simp[AV.sh,Sh.size,AV.size]
 | .tail _ _=>by simp[AV.sh,Sh.size,AV.size]
 | .slice _ _ _ _=>by simp[AV.sh,Sh.size,AV.size]
 | .dp _ _=>by simp[AV.sh,Sh.size,AV.size]
 | .tP _=>by simp[AV.sh,Sh.size,AV.size]
 | .AP _=>by simp[AV.sh,Sh.size,AV.size]
 | .wZ _ _=>by simp[AV.sh,Sh.size,AV.size]
 | .xm=>by simp[AV.sh,Sh.size,AV.size]
 | .QJ _ _ _ _=>by simp[AV.sh,Sh.size,AV.size]
 | .Cz _ _=>by simp[AV.sh,Sh.size,AV.size]
 | .uu _ _=>by simp[AV.sh,Sh.size,AV.size]
 | .rf _ _ _=>by simp[AV.sh,Sh.size,AV.size]
 | .arr n t _=>by simp[AV.sh,Sh.size,AV.size,iL]
 | .agg fs=>by simp[AV.sh,Sh.size,AV.size,zH fs]
theorem zH: ∀l:List AV,Sh.dX (AV.yG l)=AV.dX l
 | []=>by simp[AV.yG,Sh.dX,AV.dX]
 |x::xs=>by simp[AV.yG,Sh.dX,AV.dX,kT x,zH xs]
end
theorem Dx: ∀(l:List AV) (n:Nat),AV.yG (l.take n)=(AV.yG l).take n
 | [],n=>by simp[AV.yG]
 |x::xs,0=>by simp[AV.yG]
 |x::xs,n+1=>by simp[AV.yG,Dx xs n]
theorem zI: ∀(l:List AV) (n:Nat),(AV.yG l)[n]?=(l[n]?).map AV.sh
 | [],n=>by simp[AV.yG]
 |x::xs,0=>by simp[AV.yG]
 |x::xs,n+1=>by simp[AV.yG,zI xs n]
section
variable {N:Names}{D:Nat->Prop}{w:World}
theorem kO: ∀(t:Ty) (x:t.den) (g:Nat->Option Value),aq N D w (enc t x) g↔iy N D w t x g
 | .int _,_,_=>by simp[enc,aq,iy]
 | .bool,_,_=>by simp[enc,aq,iy]
 | .str,_,_=>by simp[enc,aq,iy]
 | .nil,_,_=>by simp[enc,aq,fg,iy]
 | .deep _,_,_=>by simp[enc,aq]
 | .ref _,_,_=>by simp[enc,aq,iy]
 | .arr n t,_,_=>by simp[enc,aq]
 | .cons a b,⟨p,q⟩,g=>by
  have ha:=kO a p g;have hb:=kO b q (λj=>g (a.size+j));have hs:=nE a p;have e:enc (.cons a b) (p,q)=match enc b q with| .agg l=> .agg (enc a p::l)|v=> .agg [enc a p,v]:=rfl
  have e2:iy N D w (.cons a b) (p,q) g=(iy N D w a p g/\iy N D w b q (λj=>g (a.size+j))):=rfl;rw[e,e2,<-ha,<-hb,<-hs];cases h:enc b q<;>simp only[aq,fg,and_true]
theorem qA: ∀(l:List AV) (n:Nat) (v:AV) (g:Nat->Option Value),l[n]?=some v->fg N D w l g->aq N D w v (λj=>g (AV.dX (l.take n)+j))
 | [],n,v,g,h,_=>by simp at h
 |x::xs,0,v,g,h,hr=>by
  simp at h;subst h;simp only[fg] at hr;simpa [AV.dX] using hr.1
 |x::xs,n+1,v,g,h,hr=>by
  simp only[fg] at hr;have:=qA xs n v _ (by simpa using h) hr.2
  simpa [AV.dX,zd8] using this
end
theorem uV: ∀(l:List AV) (n:Nat) (v:AV),l[n]?=some v->AV.dX (l.take n)+v.size<=AV.dX l
 | [],n,v,h=>by simp at h
 |x::xs,0,v,h=>by simp at h;subst h;simp[AV.dX]
 |x::xs,n+1,v,h=>by
  have:=uV xs n v (by simpa using h)
  simp[AV.dX];omega
section
variable (N:Names)(D:Nat->Prop)(w:World)(base:Nat)
def tc (id:Nat)(v:AV):Prop:= ∃nm a,N id=some nm/\nm.base=some a/\nm.row=false/\nm.sh=v.sh/\a.spot=none/\a.off=0/\base<=a.block/\¬D a.block/\
   (∃c ty,w.heap[a.block]?=some (.cells c ty (0,0))/\c.size=v.size)/\aq N D w v (aZ w a)
def nF (id:Nat)(ro:Bool)(t:Ty)(xs:List t.den):Prop:= ∃nm,N id=some nm/\nm.row=true/\nm.sh=sr t/\nm.len=aQ (β:=t.den) xs/\nm.len<=nm.cap/\
   match nm.base with
   |none=>nm.len=0
   |some a=>a.spot=none/\(∃c ty fz,w.heap[a.block]?=some (.cells c ty fz)/\a.off+nm.cap*t.size<=c.size/\(ro=false->fz=(0,0)\/c.size<=fz.1/\t= .int .u8))/\
     (if ro=true then D a.block else base<=a.block/\¬D a.block)/\∀i (x:t.den),jW (β:=t.den) xs i=some x->iy N D w t x (λj=>aZ w a (i*t.size+j))
def om (id b:Nat):Prop:= ∃nm a,N id=some nm/\nm.base=some a/\a.block=b
mutual
def pO (N:Names)(c:Nat):(p:aK)->p.den->Nat->Prop
 | .var _,_,b=>om N c b
 | .row _,_,b=>om N c b
 | .store ep,xs,b=> ∃(k:Nat) (d:cT ep),jW (β:=cT ep) xs k=some d/\pA (N.sub (c-SB) k) ep d b
def pA (N:Names):(l:List (Nat×aK))->cT l->Nat->Prop
 | [],_,_=>False
 |(c,p)::os,d,b=>pO N c p d.1 b\/pA N os d.2 b
end
def CY (M:Names)(ep:List (Nat×aK)):Prop:=(∀c nm,M c=some nm->∃e∈ep,e.1=c/\e.2.mY=false)/\∀g,(∀e∈ep,e.1≠SB+g)->∀k,M.sub g k=Names.nil
mutual
def jf (N:Names)(c:Nat):(p:aK)->p.den->Prop
 | .var p,d=>tc N D w base c (p.mk (λc=>c) d)
 | .row t,xs=>nF N D w base c false t xs
 | .store ep,xs=>SB<=c/\(∀(k:Nat) (d:cT ep),jW (β:=cT ep) xs k=some d->kQ (N.sub (c-SB) k) ep d/\CY (N.sub (c-SB) k) ep)/\(∀k,aQ (β:=cT ep) xs<=k->N.sub (c-SB) k=Names.nil)/\
   ∀(k k':Nat) (d d':cT ep) (b:Nat),jW (β:=cT ep) xs k=some d->jW (β:=cT ep) xs k'=some d'->pA (N.sub (c-SB) k) ep d b->pA (N.sub (c-SB) k') ep d' b->k=k'
def kQ (N:Names):(l:List (Nat×aK))->cT l->Prop
 | [],_=>True
 |(c,p)::os,d=>jf N c p d.1/\kQ N os d.2/\∀b,pO N c p d.1 b->pA N os d.2 b->False
end
def qB (id:Nat):fO->Prop
 | .dead=>True
 | .void=>True
 | .store ep xs=>jf D w base N id (.store ep) xs
 | .var v=>tc N D w base id v
 | .row ro t xs=>nF N D w base id ro t xs
def iR (id:Nat):fO->Nat->Prop
 | .var _,b=>om N id b
 | .row false _ _,b=>om N id b
 | .store ep xs,b=>pO N id (.store ep) xs b
 |_,_=>False
def fO.rw:fO->Bool
 | .var _=>true| .row ro _ _=>!ro|_=>false
def yX (h:Nat->Option fO)(b:Nat):Prop:= ∃id o,h id=some o/\iR N id o b
structure jX (h:Nat->Option fO):Prop where
 obj: ∀id o,h id=some o->qB N D w base id o
 apart: ∀id QL o o' b,h id=some o->h QL=some o'->iR N id o b->iR N QL o' b->id=QL
 frozen: ∀b,D b->b<w.heap.size
 named: ∀id nm,N id=some nm->h id≠none
 size:base<=w.heap.size
 iK: ∀g,AM.iK (h (SB+g))=true->∀k,N.sub g k=Names.nil
structure kx (st:St)(a:Act):Prop where
 nw:jX N D w base st.h
 tmps: ∀x,cw N D w (st.t x) (a.tmps.getD x Go.undef)
 nt:a.tmps.size=st.nt
 defers:a.defers=[]
end
theorem iR.of {N:Names}{id:Nat}{o:fO}{nm:Nm}{a:Addr}(hr:o.rw=true)(hn:N id=some nm)(hb:nm.base=some a):iR N id o a.block:=by
 cases o with
 |var v=>exact⟨nm,a,hn,hb,rfl⟩
 |row ro t xs=>cases ro<;>simp[fO.rw] at hr;exact⟨nm,a,hn,hb,rfl⟩
 |dead=>cases hr
 |void=>cases hr
 |store ep xs=>cases hr
structure Ext (N:Names)(D:Nat->Prop)(w:World)(h:Nat->Option fO)(N':Names)(D':Nat->Prop)(w':World)(h':Nat->Option fO):Prop where
 names:N.le N'
 frozen: ∀b,D b->D' b
 os:w'.os=w.os
 tape:w'.tape=w.tape
 output:w'.output=w.output
 size:w.heap.size<=w'.heap.size
 sQ: ∀b,b<w.heap.size->¬yX N h b->w'.heap[b]?=w.heap[b]?
 own: ∀b,b<w.heap.size->yX N' h' b->yX N h b
 Ja: ∀b,D' b->D b\/yX N h b\/w.heap.size<=b
 fresh: ∀i nm,N' i=some nm->N i=some nm\/h i=none
 live: ∀i,h' i=none->h i=none
 pJ: ∀g,h (SB+g)=some .dead->h' (SB+g)=some .dead/\∀k,N'.sub g k=N.sub g k
theorem Ext.refl (N:Names)(D:Nat->Prop)(w:World)(h:Nat->Option fO):Ext N D w h N D w h:=
 ⟨Names.le_refl N,λ_ h=>h,rfl,rfl,rfl,zd9 _,λ_ _ _=>rfl,λ_ _ h=>h,λ_ h=> .inl h,λ_ _ h=> .inl h,λ_ h=>h,λ_ h=>⟨h,λ_=>rfl⟩⟩
theorem Ext.trans {N N' N'':Names}{D D' D'':Nat->Prop}{w w' Ub:World}{h h' WT:Nat->Option fO}(x:Ext N D w h N' D' w' h')(y:Ext N' D' w' h' N'' D'' Ub WT):Ext N D w h N'' D'' Ub WT where
 names:=x.names.trans y.names
 frozen b e:=y.frozen b (x.frozen b e)
 os:=y.os.trans x.os
 tape:=y.tape.trans x.tape
 output:=y.output.trans x.output
 size:=zea x.size y.size
 sQ b hb ho:=by
  rw[y.sQ b (zeb hb x.size) (λo=>ho (x.own b hb o)),x.sQ b hb ho]
 own b hb o:=x.own b hb (y.own b (zeb hb x.size) o)
 Ja b hb:=by
  rcases y.Ja b hb with h1|h1|h1
  ·exact x.Ja b h1
  ·rcases zec b w.heap.size with h2|h2
   ·exact .inr (.inl (x.own b h2 h1))
   ·exact .inr (.inr h2)
  ·exact .inr (.inr (zea x.size h1))
 fresh i nm hi:=by
  rcases y.fresh i nm hi with h1|h1
  ·exact x.fresh i nm h1
  ·exact .inr (x.live i h1)
 live i hi:=x.live i (y.live i hi)
 pJ g e:=⟨(y.pJ g (x.pJ g e).1).1,λk=>((y.pJ g (x.pJ g e).1).2 k).trans ((x.pJ g e).2 k)⟩
def F6 (D:Nat->Prop)(w:World)(base b:Nat):Prop:= ¬D b/\base<=b/\b<w.heap.size
theorem tc.pa {N:Names}{D:Nat->Prop}{w:World}{base id:Nat}{v:AV}(h:tc N D w base id v){b:Nat}(ho:om N id b):F6 D w base b:=by
 obtain⟨nm,a,h3,h4,rfl⟩:=ho;obtain⟨mG,a',e1,e2,_,_,_,_,h6,h7,⟨c,ty,h8,_⟩,_⟩:=h;rw[h3] at e1;cases e1;rw[h4] at e2;cases e2;exact⟨h7,h6,(Array.getElem?_eq_some_iff.1 h8).1⟩
theorem nF.pa {N:Names}{D:Nat->Prop}{w:World}{base id:Nat}{t:Ty}{xs:List t.den}(h:nF N D w base id false t xs){b:Nat}(ho:om N id b):F6 D w base b:=by
 obtain⟨nm,a,h3,h4,rfl⟩:=ho;obtain⟨mG,e1,_,_,_,_,h6⟩:=h;rw[h3] at e1;cases e1;rw[h4] at h6;obtain⟨_,⟨c,ty,fz,h8,_⟩,h7,_⟩:=h6;simp at h7;exact⟨h7.2,h7.1,(Array.getElem?_eq_some_iff.1 h8).1⟩
mutual
theorem jf.pa {D:Nat->Prop}{w:World}{base:Nat}: ∀{N:Names} {c:Nat} {p:aK} {d:p.den},jf D w base N c p d->∀{b:Nat},pO N c p d b->F6 D w base b
 |_,_, .var _,_,h,_,ho=>tc.pa (by simpa only[jf] using h) (by simpa only[pO] using ho)
 |_,_, .row _,_,h,_,ho=>nF.pa (by simpa only[jf] using h) (by simpa only[pO] using ho)
 |N,c, .store ep,xs,h,b,ho=>by
  simp only[jf] at h;simp only[pO] at ho;obtain⟨k,d,h1,h2⟩:=ho;exact kQ.pa (h.2.1 k d h1).1 h2
theorem kQ.pa {D:Nat->Prop}{w:World}{base:Nat}: ∀{N:Names} {l:List (Nat×aK)} {d:cT l},kQ D w base N l d->∀{b:Nat},pA N l d b->F6 D w base b
 |_,[],_,_,_,ho=>by simp only[pA] at ho
 |_,(c,p)::os,d,h,b,ho=>by
  simp only[kQ] at h;simp only[pA] at ho;rcases ho with ho|ho
  ·exact jf.pa h.1 ho
  ·exact kQ.pa h.2.1 ho
end
theorem jX.pa {N:Names}{D:Nat->Prop}{w:World}{base:Nat}{h:Nat->Option fO}(s:jX N D w base h){id:Nat}{o:fO}(hi:h id=some o){b:Nat}(ho:iR N id o b):F6 D w base b:=by
 have:=s.obj id o hi;cases o with
 |dead=>exact ho.elim
 |void=>exact ho.elim
 |var v=>exact tc.pa this ho
 |row ro t xs=>
  cases ro with
  |true=>exact ho.elim
  |false=>exact nF.pa this ho
 |store ep xs=>exact jf.pa this ho
theorem jX.tT {N:Names}{D:Nat->Prop}{w:World}{base:Nat}{h:Nat->Option fO}(s:jX N D w base h){b:Nat}(o:yX N h b): ¬D b/\base<=b:=by
 obtain⟨id,o,h1,h2⟩:=o;exact⟨(s.pa h1 h2).1,(s.pa h1 h2).2.1⟩
theorem Ext.Jb {N N':Names}{D D':Nat->Prop}{w w':World}{base:Nat}{h h':Nat->Option fO}(x:Ext N D w h N' D' w' h')(s:jX N D w base h): ∀b,D b->w'.heap[b]?=w.heap[b]?:=
 λb hb=>x.sQ b (s.frozen b hb) (λo=>(s.tT o).1 hb)
theorem Ext.val {N N':Names}{D D':Nat->Prop}{w w':World}{base:Nat}{h h':Nat->Option fO}(x:Ext N D w h N' D' w' h')(s:jX N D w base h){u:AV}{v:Value}(hv:cw N D w u v):cw N' D' w' u v:=
 F5 x.names x.frozen (x.Jb s) hv
theorem St.BQ (s:St)(d:Option Tmp)(v:AV):(s.put d v).h=s.h:=by
 cases d with
 |none=>rfl
 |some d=>simp only[St.put];split<;>rfl
theorem St.Hl (s:St)(d:Option Tmp)(v:AV):(s.put d v).nt=s.nt:=by
 cases d with
 |none=>rfl
 |some d=>simp only[St.put];split<;>rfl
theorem St.Rb (s:St)(d:Option Tmp)(v:AV):(s.put d v).ep=s.ep:=by
 cases d with
 |none=>rfl
 |some d=>simp only[St.put];split<;>rfl
theorem kx.put {N N':Names}{D D':Nat->Prop}{w w':World}{base:Nat}{st fe:St}{a:Act}(s:kx N D w base st a)(x:Ext N D w st.h N' D' w' fe.h)(hs:jX N' D' w' base fe.h)(ht:fe.t=st.t)(hn:fe.nt=st.nt)
  (d:Option Tmp) {u:AV} {v:Value} (hv:cw N' D' w' u v):kx N' D' w' base (fe.put d u) (a.put d v):=by
 refine⟨by rw[St.BQ];exact hs,λy=>?_,?_,?_⟩
 ·cases d with
  |none=>simp only[St.put,Act.put,ht];exact x.val s.nw (s.tmps y)
  |some d=>
   have hsz:a.tmps.size=fe.nt:=by rw[s.nt,hn]
   simp only[St.put,Act.put];by_cases hd:d<fe.nt
   ·rw[if_pos hd]
    have K4:d<a.tmps.size:=by rw[hsz];exact hd
    by_cases e:y=d
    ·subst e
     simp[K4];exact hv
    ·have:(a.tmps.setIfInBounds d v).getD y Go.undef=a.tmps.getD y Go.undef:=by
      simp[Array.getElem?_setIfInBounds_ne (Ne.symm e)]
     simp only[if_neg e];rw[this,ht];exact x.val s.nw (s.tmps y)
   ·rw[if_neg hd]
    rw[Array.setIfInBounds_eq_of_size_le (by rw[hsz];exact Nat.le_of_not_lt hd),ht]
    exact x.val s.nw (s.tmps y)
 ·rw[St.Hl,hn,<-s.nt]
  cases d<;>simp[Act.put]
 ·cases d<;>simp only[Act.put]<;>exact s.defers
theorem kx.ev {N:Names}{D:Nat->Prop}{w:World}{base:Nat}{st:St}{a:Act}(s:kx N D w base st a)(x:Operand)(hx: ∀v,x= .const v->(∀c,v≠ .agg c)):cw N D w (st.ev x) (a.eval x):=by
 cases x with
 |tmp t=>exact s.tmps t
 |const v=>simp[St.ev,Act.eval,cw,AV.isAgg,jz,aq]
 |global g=>simp[St.ev,Act.eval,cw,AV.isAgg,jz,aq]
 |func f=>simp[St.ev,Act.eval,cw,AV.isAgg,jz,aq]
end AM
namespace AM
open Go
section
variable {N:Names}{D:Nat->Prop}{w:World}{v c:Value}
theorem pb:cw N D w .undef c:=by simp[cw,AV.isAgg,jz,aq]
theorem ek:cw N D w (.val v) c↔c=v:=by simp[cw,AV.isAgg,jz,aq]
theorem ju {id:Nat}{p:List Step}:cw N D w (.ptr id p) c↔∃nm a o,N id=some nm/\nm.base=some a/\nm.off p=some o/\c= .pointer (some (Addr.at_ a o)):=by
 simp[cw,AV.isAgg,jz,aq]
theorem qC {x:AV}:cw N D w (.tP x) c↔∃a,c= .pointer (some a)/\a.spot=none/\D a.block/\aq N D w x (aZ w a):=by
 simp[cw,AV.isAgg,jz,aq]
theorem lM {vs:List AV}:cw N D w (.AP vs) c↔∃cs:Array Value,c= .tuple cs/\bF N D w vs cs.toList:=by
 simp[cw,AV.isAgg,jz,aq]
theorem xz {fs:List AV}:cw N D w (.agg fs) c↔∃cells:Array Value,c= .agg cells/\cells.size=AV.dX fs/\fg N D w fs (cells[·]?):=by
 simp[cw,AV.isAgg,jz,aq,AV.size]
theorem vr {n:Nat}{t:Ty}{xs:List t.den}:cw N D w (.arr n t xs) c↔∃cells:Array Value,c= .agg cells/\cells.size=n*t.size/\iy N D w (.arr n t) xs (cells[·]?):=by
 simp[cw,AV.isAgg,jz,aq,AV.size]
theorem uJ {t:Ty}{xs:List t.den}:cw N D w (.dp t xs) c↔iy N D w (.deep t) xs (λ_=>some c):=by
 simp[cw,AV.isAgg,jz,aq]
theorem sv: ∀(vs:List AV) (cs:List Value) (i:Nat) (u:AV),bF N D w vs cs->vs[i]?=some u->∃c,cs[i]?=some c/\cw N D w u c
 | [],_,_,_,_,h=>by simp at h
 |x::xs,cs,0,u,hr,h=>by
  simp only[bF] at hr;obtain⟨c,tG,rfl,h2,_⟩:=hr;simp at h;subst h;exact⟨c,by simp,h2⟩
 |x::xs,cs,i+1,u,hr,h=>by
  simp only[bF] at hr;obtain⟨c,tG,rfl,_,h3⟩:=hr;obtain⟨c',h4,h5⟩:=sv xs tG i u h3 (by simpa using h)
  exact⟨c',by simpa using h4,h5⟩
end
def lx (P:Program)(base:Nat)(o:Oper)(st:St)(av:AV)(fe:St):Prop:=
 fe.t=st.t/\fe.nt=st.nt/\fe.ep=st.ep/\(∀id,id∉KW st o->qz st.ep o id=false->fe.h id=st.h id)/\∀N D w a,kx N D w base st a->∃N' D' w' v,
  ((execOp a.eval o).run P w= .ok (.value v) w'\/((execOp a.eval o).run P w= .ok .skip w'/\v=Go.undef))/\
  Ext N D w st.h N' D' w' fe.h/\jX N' D' w' base fe.h/\cw N' D' w' av v
theorem lx.pure {P:Program}{base:Nat}{o:Oper}{st:St}{av:AV}(h: ∀N D w a,kx N D w base st a->∃v,(execOp a.eval o).run P w= .ok (.value v) w/\cw N D w av v):lx P base o st av st:=
 ⟨rfl,rfl,rfl,λ_ _ _=>rfl,λN D w a s=>let ⟨v,h1,h2⟩:=h N D w a s;⟨N,D,w,v, .inl h1,Ext.refl _ _ _ _,s.nw,h2⟩⟩
theorem kx.Fm {N:Names}{D:Nat->Prop}{w:World}{base:Nat}{st:St}{a:Act}(s:kx N D w base st a)(x:Operand):cw N D w (st.ev x) (a.eval x):=by
 cases x with
 |tmp t=>exact s.tmps t
 |const v=>simp[St.ev,Act.eval,ek]
 |global g=>exact pb
 |func f=>simp[St.ev,Act.eval,ek]
variable {α:Type}{P:Program}{base:Nat}
abbrev nU (P:Program)(base:Nat)(o:Oper)(st:St)(k:AV->St->Option α)(r:α):Prop:= ∃av fe,k av fe=some r/\lx P base o st av fe
theorem Rc {dst ty pos after guard}{op:BinOp}{xT yT:TypeId}{x y:Operand}{st:St}{ka kb:IntKind}{a b:Int}(hx:st.ev x= .val (.int ka a))(hy:st.ev y= .val (.int kb b)){k:AV->St->Option α}{r:α}
  (h:QX st op ka kb a b k=some r):nU P base ⟨dst, .binOp op xT x y yT,ty,pos,after,guard⟩ st k r:=by
 have key: ∀u:Value,(∀w,(Go.binOp op xT (.int ka a) (.int kb b)).run P w= .ok u w)->k (.val u) st=some r->nU P base ⟨dst, .binOp op xT x y yT,ty,pos,after,guard⟩ st k r:=by
  intro u hu hk;refine⟨_,_,hk,lx.pure λN D w act s=>⟨u,?_,ek.2 rfl⟩⟩;have e1:=ek.1 (hx▸s.Fm x);have e2:=ek.1 (hy▸s.Fm y);simp[execOp,e1,e2,eqGuard_at_int,hu]
 have cond: ∀(b:Bool) (p:Prop) (z:Option α),b=aa p->(match b with|true=>none|false=>z)=some r->¬p/\z=some r:=by
  intro b p z hb hz;cases b with
  |true=>simp at hz
  |false=>exact⟨λhp=>(by rw[kR.2 hp] at hb;exact absurd hb (by simp)),hz⟩
 have K5: ∀z:Option α,(if ka=kb then z else none)=some r->ka=kb/\z=some r:=by
  intro z hz;split at hz
  ·exact⟨‹_›,hz⟩
  ·cases hz
 have hb: ∀(p:Prop) [Decidable p],aa p=decide p:=λp _=>ke p;cases op<;>simp only[QX] at h
 case shl=>replace h:=cond _ _ _ rfl h;obtain⟨hn,h⟩:=h;exact key _ (λw=>by simp[binOp_shl,Op.shift,hn,shl,pI]) h
 case shr=>replace h:=cond _ _ _ rfl h;obtain⟨hn,h⟩:=h;exact key _ (λw=>by simp[binOp_shr,Op.shift,hn,QT]) h
 case add=>replace h:=K5 _ h;obtain⟨rfl,h⟩:=h;exact key _ (λw=>by simp[binOp_add,Op.intArith,pI]) h
 case sub=>replace h:=K5 _ h;obtain⟨rfl,h⟩:=h;exact key _ (λw=>by simp[binOp_sub,Op.intArith,pI]) h
 case mul=>replace h:=K5 _ h;obtain⟨rfl,h⟩:=h;exact key _ (λw=>by simp[binOp_mul,Op.intArith,pI]) h
 case quo=>replace h:=K5 _ h;obtain⟨rfl,h⟩:=h;replace h:=cond _ _ _ rfl h;obtain⟨hn,h⟩:=h;exact key _ (λw=>by simp[binOp_quo,Op.intDiv,hn,pI]) h
 case rem=>replace h:=K5 _ h;obtain⟨rfl,h⟩:=h;replace h:=cond _ _ _ rfl h;obtain⟨hn,h⟩:=h;exact key _ (λw=>by simp[binOp_rem,Op.intDiv,hn]) h
 case and=>replace h:=K5 _ h;obtain⟨rfl,h⟩:=h;exact key _ (λw=>by simp[binOp_and,Op.intBits,sP,pI]) h
 case or=>replace h:=K5 _ h;obtain⟨rfl,h⟩:=h;exact key _ (λw=>by simp[binOp_or,Op.intBits,AO,pI]) h
 case xor=>replace h:=K5 _ h;obtain⟨rfl,h⟩:=h;exact key _ (λw=>by simp[binOp_xor,Op.intBits,py,pI]) h
 case andNot=>replace h:=K5 _ h;obtain⟨rfl,h⟩:=h;exact key _ (λw=>by simp[binOp_andNot,Op.intBits,Di,pI]) h
 case eql=>replace h:=K5 _ h;obtain⟨rfl,h⟩:=h;exact key _ (λw=>by simp[binOp_eql,hb];rfl) h
 case neq=>replace h:=K5 _ h;obtain⟨rfl,h⟩:=h;exact key _ (λw=>by simp[binOp_neq,hb];rfl) h
 case lss=>replace h:=K5 _ h;obtain⟨rfl,h⟩:=h;exact key _ (λw=>by simp[binOp_lss,hb]) h
 case leq=>replace h:=K5 _ h;obtain⟨rfl,h⟩:=h;exact key _ (λw=>by simp[binOp_leq,hb]) h
 case gtr=>replace h:=K5 _ h;obtain⟨rfl,h⟩:=h;exact key _ (λw=>by simp[binOp_gtr,hb]) h
 case geq=>replace h:=K5 _ h;obtain⟨rfl,h⟩:=h;exact key _ (λw=>by simp[binOp_geq,hb]) h
end AM
namespace AM
open Go
theorem mA {N:Names}{D:Nat->Prop}{w:World}{x:AV}{g g':Nat->Option Value}(h:aq N D w x g)(e: ∀j,g j=g' j):aq N D w x g':=by
 have:g=g':=funext e;subst this;exact h
theorem vY {α:Type}: ∀(p:List Step) (v:AV) (k:AV->Option α) (r:α),I2 p v k=some r->
  ∃u,k u=some r/\zC p v.sh=some u.sh/\∀N D w g o,aq N D w v g->fG p v.sh=some o->aq N D w u (λj=>g (o+j))/\o+u.size<=v.size
 | [],v,k,r,h=>by
  simp only[I2] at h;refine⟨v,h,rfl,λN D w g o hr ho=>?_⟩;simp only[fG,zdT] at ho;subst ho;exact⟨by simpa using hr,by omega⟩
 | .ir n::p,v,k,r,h=>by
  cases v<;>simp only[I2] at h<;>try (cases h;done)
  rename_i fs;cases hv:fs[n]? with
  |none=>simp[hv] at h
  |some x=>
   simp only[hv] at h;obtain⟨u,h1,h2,h3⟩:=vY p x k r h;refine⟨u,h1,by simp only[AV.sh,zC,zI,hv,zd2];exact h2,λN D w g o hr ho=>?_⟩
   simp only[AV.sh,fG,zI,hv,zd2] at ho;cases mW:fG p x.sh with
   |none=>simp[mW] at ho
   |some o'=>
    simp only[mW,zd2,zdT] at ho;rw[<-Dx,zH] at ho;subst ho;simp only[aq] at hr;have:=qA fs n x g hv hr;obtain⟨h4,h5⟩:=h3 N D w _ o' this mW;exact⟨mA h4 (λj=>by rw[zd8]),by have:=uV fs n x hv;simp only[AV.size];omega⟩
 | .idx i::p,v,k,r,h=>by
  cases v<;>simp only[I2] at h<;>try (cases h;done)
  rename_i n t xs;cases hv:(show List t.den from xs)[i]? with
  |none=>simp[hv] at h
  |some x=>
   simp only[hv] at h;obtain⟨u,h1,h2,h3⟩:=vY p (enc t x) k r h;refine⟨u,h1,by simp only[AV.sh,zC];rw[<-rO t x];exact h2,λN D w g o hr ho=>?_⟩
   simp only[AV.sh,fG] at ho;by_cases hi:i<n
   ·simp only[hi,if_true] at ho
    cases mW:fG p (sr t) with
    |none=>simp[mW] at ho
    |some o'=>
     simp only[mW,zd2,zdT,iL] at ho;subst ho;simp only[aq,iy] at hr;have:=(kO (N:=N) t x _).2 (hr.2 i x hv);obtain⟨h4,h5⟩:=h3 N D w _ o' this (by rw[rO];exact mW)
     refine⟨mA h4 (λj=>by rw[zd8]),?_⟩
     rw[nE] at h5;have:(i+1)*t.size<=n*t.size:=zd6 _ hi;rw[zd7] at this;simp only[AV.size];omega
   ·simp only[hi,if_false] at ho;cases ho
theorem pB {α:Type}{s:St}{id:Nat}{p:List Step}{k:AV->Option α}{r:α}(h:s.get id p k=some r):
  ∃u,k u=some r/\s.shape id p=some u.sh/\∀N D w base,jX N D w base s.h->∀nm a o,N id=some nm->nm.base=some a->nm.off p=some o->
   a.spot=none/\aq N D w u (λj=>aZ w a (o+j))/\∃c ty fz,w.heap[a.block]?=some (.cells c ty fz)/\a.off+o+u.size<=c.size:=by
 unfold St.get at h;cases ho:s.h id with
 |none=>simp[ho] at h
 |some ob=>
  cases ob with
  |dead=>simp[ho] at h
  |store _ _=>simp[ho] at h
  |void=>simp[ho] at h
  |var v=>
   simp only[ho] at h;obtain⟨u,h1,h2,h3⟩:=vY p v k r h;refine⟨u,h1,by simp only[St.shape,ho];exact h2,λN D w base S nm a o hn hb nV=>?_⟩
   have:=S.obj id _ ho;obtain⟨mG,a',e1,e2,e3,e4,e5,e6,_,_,⟨c,ty,e7,e8⟩,e9⟩:=this;rw[hn] at e1;cases e1;rw[hb] at e2;cases e2;have hof:fG p v.sh=some o:=by
    have:nm.off p=fG p nm.sh:=by
     unfold Nm.off;split<;>simp[e3]
    rw[this,e4] at nV;exact nV
   obtain⟨h4,h5⟩:=h3 N D w _ o e9 hof;exact⟨e5,h4,c,ty,_,e7,by rw[e8,e6];omega⟩
  |row ro t xs=>
   simp only[ho] at h;cases p with
   |nil=>simp at h
   |cons st p=>
    cases st with
    |ir n=>simp at h
    |idx i=>
     simp only at h;cases hv:(show List t.den from xs)[i]? with
     |none=>simp[hv] at h
     |some x=>
      simp only[hv] at h;obtain⟨u,h1,h2,h3⟩:=vY p (enc t x) k r h;refine⟨u,h1,by simp only[St.shape,ho];rw[<-rO t x];exact h2,λN D w base S nm a o hn hb nV=>?_⟩
      have:=S.obj id _ ho;obtain⟨mG,e1,e2,e3,e4,e5,e6⟩:=this;rw[hn] at e1;cases e1;rw[hb] at e6;obtain⟨e7,⟨c,ty,fz,e8,e9,_⟩,_,yj⟩:=e6;simp only[Nm.off,e2,if_true] at nV;by_cases hi:i<nm.len
      ·simp only[hi,if_true] at nV
       cases mW:fG p nm.sh with
       |none=>simp[mW] at nV
       |some o'=>
        simp only[mW,zd2,zdT] at nV;rw[e3,iL] at nV;subst nV;have hx:=(kO (N:=N) t x _).2 (yj i x hv);obtain⟨h4,h5⟩:=h3 N D w _ o' hx (by rw[rO,<-e3];exact mW)
        refine⟨e7,mA h4 (λj=>by rw[zd8]),c,ty,fz,e8,?_⟩
        rw[nE] at h5;have:(i+1)*t.size<=nm.cap*t.size:=zd6 _ (by omega)
        rw[zd7] at this;omega
      ·simp only[hi,if_false] at nV;cases nV
end AM
namespace AM
open Go
theorem A0 {N:Names}{tag n c:Nat}{v:Option Value}(h:xv N tag n c v): ∃c,v=some c/\c.oneCell'=true:=by
 cases n with
 |zero=>exact⟨_,h,rfl⟩
 |succ k=>obtain⟨_,_,_,_,_,h⟩:=h;exact⟨_,h,rfl⟩
theorem rP {N:Names}{D:Nat->Prop}{w:World}: ∀(t:Ty) (x:t.den) (g:Nat->Option Value),iy N D w t x g->∀j,j<t.size->∃c,g j=some c/\c.oneCell'=true
 | .int k,n,g,h,j,hj=>by simp[Ty.size] at hj;subst hj;exact⟨_,h,rfl⟩
 | .bool,n,g,h,j,hj=>by simp[Ty.size] at hj;subst hj;exact⟨_,h,rfl⟩
 | .str,n,g,h,j,hj=>by simp[Ty.size] at hj;subst hj;exact⟨_,h,rfl⟩
 | .nil,n,g,h,j,hj=>by simp[Ty.size] at hj
 | .deep t,xs,g,h,j,hj=>by
  simp[Ty.size] at hj;subst hj;obtain⟨a,cap,h1,_⟩:=h;exact⟨_,h1,rfl⟩
 | .ref _,n,g,h,j,hj=>by simp[Ty.size] at hj;subst hj;exact A0 h
 | .cons a b,p,g,h,j,hj=>by
  by_cases hja:j<a.size
  ·exact rP a p.1 g h.1 j hja
  ·have:=rP b p.2 _ h.2 (j-a.size) (by simp[Ty.size] at hj;omega)
   rwa [show a.size+(j-a.size)=j by omega] at this
 | .arr n t,xs,g,h,j,hj=>by
  simp only[Ty.size] at hj;have hp:0<t.size:=by
   rcases zed t.size with e|e
   ·rw[e] at hj;omega
   ·exact e
  have hi:j/t.size<aQ (β:=t.den) xs:=by rw[h.1];exact(Nat.div_lt_iff_lt_mul hp).2 hj
  have:=rP t _ _ (h.2 (j/t.size) _ (zdS hi)) (j%t.size) (Nat.mod_lt _ hp);rwa [show j/t.size*t.size+j%t.size=j by rw[Nat.mul_comm];exact Nat.div_add_mod j t.size] at this
mutual
theorem sw {N:Names}{D:Nat->Prop}{w:World}: ∀(v:AV) (g:Nat->Option Value),v.nv=true->aq N D w v g->∀j,j<v.size->∃c,g j=some c/\c.oneCell'=true
 | .undef,_,hs,_,_,_=>by simp[AV.nv] at hs
 | .AP _,_,hs,_,_,_=>by simp[AV.nv] at hs
 | .val v,g,hs,h,j,hj=>by simp[AV.size] at hj;subst hj;simp only[aq] at h;exact⟨_,h,by simpa [AV.nv] using hs⟩
 | .ptr id p,g,hs,h,j,hj=>by simp[AV.size] at hj;subst hj;simp only[aq] at h;obtain⟨_,_,_,_,_,_,h⟩:=h;exact⟨_,h,rfl⟩
 | .tail id off,g,hs,h,j,hj=>by
  simp[AV.size] at hj;subst hj;simp only[aq] at h;obtain⟨nm,_,_,_,_,h⟩:=h;cases hb:nm.base with
  |none=>rw[hb] at h;exact⟨_,h.2,rfl⟩
  |some a=>rw[hb] at h;obtain⟨v,room,h1,_,a',cap,rfl,_⟩:=h;exact⟨_,h1,rfl⟩
 | .slice id p off len,g,hs,h,j,hj=>by
  simp[AV.size] at hj;subst hj;simp only[aq] at h;obtain⟨nm,_,h⟩:=h;cases hb:nm.base with
  |none=>rw[hb] at h;obtain⟨_,_,_,_,h⟩:=h;exact⟨_,h,rfl⟩
  |some a=>
  rw[hb] at h;simp only at h;split at h
  ·obtain⟨_,_,v,room,h1,_,_,a',cap,rfl,_⟩:=h;exact⟨_,h1,rfl⟩
  ·obtain⟨_,_,_,v,room,_,_,_,h1,_,a',cap,rfl,_⟩:=h;exact⟨_,h1,rfl⟩
 | .dp t xs,g,hs,h,j,hj=>by simp only[aq] at h;exact rP _ _ _ h j (by simpa [AV.size,Ty.size] using hj)
 | .tP v,g,hs,h,j,hj=>by simp[AV.size] at hj;subst hj;simp only[aq] at h;obtain⟨_,h,_⟩:=h;exact⟨_,h,rfl⟩
 | .wZ _ _,g,hs,h,j,hj=>by simp[AV.size] at hj;subst hj;simp only[aq] at h;obtain⟨_,h,_⟩:=h;exact⟨_,h,rfl⟩
 | .QJ _ _ _ _,g,hs,h,j,hj=>by simp[AV.size] at hj;subst hj;simp only[aq] at h;obtain⟨_,_,_,_,_,_,h⟩:=h;exact⟨_,h,rfl⟩
 | .Cz _ _,g,hs,h,j,hj=>by simp[AV.size] at hj;subst hj;simp only[aq] at h;obtain⟨_,h,_⟩:=h;exact⟨_,h,rfl⟩
 | .xm,g,hs,h,j,hj=>by simp[AV.size] at hj;subst hj;simp only[aq] at h;obtain⟨_,h⟩:=h;exact⟨_,h,rfl⟩
 | .uu _ _,g,hs,h,j,hj=>by simp[AV.size] at hj;subst hj;simp only[aq] at h;obtain⟨_,_,_,_,_,h⟩:=h;exact⟨_,h,rfl⟩
 | .rf _ _ _,g,hs,h,j,hj=>by simp[AV.size] at hj;subst hj;simp only[aq] at h;exact A0 h
 | .arr n t xs,g,hs,h,j,hj=>by simp only[aq] at h;exact rP _ _ _ h j (by simpa [AV.size,Ty.size] using hj)
 | .agg fs,g,hs,h,j,hj=>by simp only[aq] at h;exact zJ fs g (by simpa [AV.nv] using hs) h j (by simpa [AV.size] using hj)
theorem zJ {N:Names}{D:Nat->Prop}{w:World}: ∀(l:List AV) (g:Nat->Option Value),AV.AQ l=true->fg N D w l g->∀j,j<AV.dX l->∃c,g j=some c/\c.oneCell'=true
 | [],_,_,_,j,hj=>by simp[AV.dX] at hj
 |x::xs,g,hs,h,j,hj=>by
  simp only[AV.AQ,zdV] at hs;simp only[fg] at h;by_cases hjx:j<x.size
  ·exact sw x g hs.1 h.1 j hjx
  ·have:=zJ xs _ hs.2 h.2 (j-x.size) (by simp[AV.dX] at hj;omega)
   rwa [show x.size+(j-x.size)=j by omega] at this
end
theorem qY {v:AV}(hs:v.nv=true)(h:v.isAgg=false):v.size=1:=by cases v<;>simp_all [AV.isAgg,AV.size]
theorem rQ {P:Program}{t:TypeId}{v:AV}(h:su P t v=true):v.nv=true/\v.isAgg=qU P t/\v.size=P.cellsOf t/\∃d,P.underlying t=some d:=by
 simp only[su,zdV,beq_iff_eq,zd1] at h;exact⟨h.1.1.1,h.1.1.2,h.1.2,Option.isSome_iff_exists.1 h.2⟩
theorem ow (b o n:Nat):(⟨b,o,none⟩:Addr).add n=⟨b,o+n,none⟩:=Addr.add_lit b o n
theorem Dy {P:Program}{N:Names}{D:Nat->Prop}{w:World}{t:TypeId}{v:AV}{ad:Addr}(ha:ad.spot=none)(hf:su P t v=true)(hr:aq N D w v (aZ w ad)):
  ∃c,(Instr.loadAt t (.pointer (some ad))).run P w= .ok c w/\cw N D w v c:=by
 obtain⟨hs,h1,h2,d,hd⟩:=rQ hf;obtain⟨i,hi⟩:=info_of_underlying hd;obtain⟨b,o,sp⟩:=ad;simp only at ha;subst ha;have hc:=sw v _ hs hr;have Hm:(isAgg t).run P w= .ok (qU P t) w:=by
  simp only[isAgg,zee,run_underlying hd,zef,qU,hd];cases d<;>rfl
 simp only[Instr.loadAt,Instr.sureAddr,zee,zeg,zef,loadVar,Hm];cases Fb:v.isAgg with
 |true=>
  rw[<-h1,Fb];have K6: ∀j,j<v.size->w.cell? ((⟨b,o,none⟩:Addr).add j)=some ((aZ w ⟨b,o,none⟩ j).getD Go.undef):=by
   intro j hj;obtain⟨c,h3,_⟩:=hc j hj;rw[ow,h3];exact h3
  have hl:=run_loadCells (P:=P) w ⟨b,o,none⟩ v.size (λj=>(aZ w ⟨b,o,none⟩ j).getD Go.undef) K6;refine⟨.agg ((List.range v.size).map λj=>(aZ w ⟨b,o,none⟩ j).getD Go.undef).toArray,?_,?_⟩
  ·simp only[if_true,zee,run_sizeOf w hi,zef,<-h2,hl,zeg]
  ·unfold cw
   rw[Fb];refine⟨_,rfl,by simp,jR v _ _ (λj hj=>?_) hr⟩
   obtain⟨c,h3,_⟩:=hc j hj;simp[hj,h3]
 |false=>
  rw[<-h1,Fb];obtain⟨c,h3,_⟩:=hc 0 (by rw[qY hs Fb];omega)
  have Rd:w.cell? ⟨b,o,none⟩=some c:=h3;refine⟨c,by simp[Rd],?_⟩
  unfold cw;rw[Fb];refine jR v _ _ (λj hj=>?_) hr;rw[qY hs Fb] at hj;obtain rfl:j=0:=by omega
  exact h3
end AM
namespace AM
open Go
theorem iY {t t':Ty}{xs:List t.den}{ys:List t'.den}(h:ta t t' xs=some ys): ∃e:t=t',ys=e▸xs:=by
 unfold ta at h;split at h
 ·rename_i e;exact⟨e,(Option.some.inj h).symm⟩
 ·cases h
def ly (N:Names)(D':Nat->Prop)(ids:List Nat):Prop:= ∀id∈ids,∀nm a,N id=some nm->nm.base=some a->D' a.block
def Nj (R:(Nat->Prop)->World->Prop)(N:Names)(D:Nat->Prop)(w:World)(ids:List Nat):Prop:= ∀D':Nat->Prop,(∀b,D b->D' b)->ly N D' ids->R D' w
theorem xA {N:Names}{D':Nat->Prop}{w:World}{t:Ty}{xs:List t.den}{a:Addr}{off len room:Nat}{v:Value}(hD:D' a.block)(hx: ∀i (x:t.den),jW (β:=t.den) xs i=some x->iy N D' w t x (λj=>aZ w a (i*t.size+j)))
  (hv:K2 (Addr.at_ a (off*t.size)) len room v) (hl:off+len<=aQ (β:=t.den) xs):iy N D' w (.deep t) ((xs.drop off).take len:List t.den) (λ_=>some v):=by
 obtain⟨a',cap,rfl,h1,rfl,h2⟩:=hv;have e:aQ (β:=t.den) ((xs.drop off).take len)=len:=by simp only[aQ,zeh,zei];simp only[aQ] at hl;omega
 refine⟨some a',cap,by rw[e],by rw[e];exact h1,(by intro h;cases h),λad Fo lV=>?_⟩
 cases Fo;rw[e] at lV;rcases h2 with rfl|h2
 ·refine⟨rfl,hD,λi x hi=>?_⟩
  have nB:jW (β:=t.den) xs (off+i)=some x:=by
   simp only[jW] at hi⊢;rw[zej] at hi;split at hi
   ·rwa [zek] at hi
   ·cases hi
  have:=hx (off+i) x nB;have e2:(λj=>aZ w (Addr.at_ a (off*t.size)) (i*t.size+j))=λj=>aZ w a ((off+i)*t.size+j):=by
   funext j
   simp only[aZ,Addr.at_];congr 2
   rw[zd7];omega
  rw[e2];exact this
 ·omega
theorem A3 {s:St}{id:Nat}{p:List Step}{sh:Sh}(h:s.shape id p=some sh){N:Names}{D:Nat->Prop}{w:World}{base:Nat}(S:jX N D w base s.h){nm:Nm}(hn:N id=some nm):nm.KF p=some sh:=by
 unfold St.shape at h;split at h
 ·rename_i v ho
  obtain⟨mG,a,h1,h2,h3,h4,_⟩:=S.obj id _ ho;rw[hn] at h1;cases h1;unfold Nm.KF;rw[h3,h4];exact h
 ·rename_i ro t xs ho
  obtain⟨mG,h1,h2,h3,_⟩:=S.obj id _ ho;rw[hn] at h1;cases h1;unfold Nm.KF;rw[h2,h3];simp only[if_true];split at h
  ·exact h
  ·cases h
 ·cases h
theorem xB {s:St}{id:Nat}{p:List Step}{sh:Sh}(hr:(p.isEmpty&&zB s id)=false)(h:s.shape id p=some sh){N:Names}{D:Nat->Prop}{w:World}{base:Nat}(S:jX N D w base s.h){nm:Nm}(hn:N id=some nm):(nm.row&&p.isEmpty)=false:=by
 unfold St.shape at h;split at h
 ·rename_i v ho
  obtain⟨mG,a,h1,h2,h3,h4,_⟩:=S.obj id _ ho;rw[hn] at h1;cases h1;rw[h3];rfl
 ·rename_i ro t xs ho
  have:zB s id=true:=by unfold zB;rw[ho]
  rw[this,Bool.and_true] at hr;rw[hr,zel]
 ·cases h
theorem Fq {α:Type}{s:St}{t:Ty}{v:AV}{k:List t.den->List Nat->Option α}{r:α}(h:qg s t v k=some r):
  ∃xs ids,k xs ids=some r/\∀N D w base,jX N D w base s.h->∀c,cw N D w v c->Nj (λD' w=>iy N D' w (.deep t) xs (λ_=>some c)) N D w ids:=by
 unfold qg at h;split at h
 ·rename_i t' zs
  split at h
  ·rename_i ys hc
   obtain⟨rfl,rfl⟩:=iY hc;exact⟨_,_,h,λN D w base S c hv D' hD _=>kC (Names.le_refl _) hD (λ_ _=>rfl) _ _ _ (uJ.1 hv)⟩
  ·cases h
 ·refine⟨_,_,h,λN D w base S c hv D' hD _=>?_⟩
  rw[ek.1 hv];exact⟨none,0,rfl,by simp[aQ],λ_=>rfl,(by intro ad ha;cases ha)⟩
 ·rename_i id off
  split at h
  ·rename_i ro t' xs ho
   split at h
   ·rename_i ys hc
    obtain⟨rfl,rfl⟩:=iY hc;refine⟨_,_,h,λN D w base S c hv D' hD hF=>?_⟩;simp only[cw,AV.isAgg,jz,aq] at hv;obtain⟨nm,h1,h2,h3,h4,h5⟩:=hv;obtain⟨mG,e1,e2,e3,e4,e5,e6⟩:=S.obj id _ ho;rw[h1] at e1;cases e1;cases hb:nm.base with
    |none=>
     rw[hb] at h5;obtain⟨h6,h7⟩:=h5;have Hn:aQ (β:=t'.den) ys=0:=by omega
     have hxe:ys=[]:=zem Hn;subst hxe;simp only[zdT] at h7;subst h7;exact⟨none,0,by simp[aQ],by simp[aQ],λ_=>rfl,(by intro ad ha;cases ha)⟩
    |some a=>
     rw[hb] at h5 e6;obtain⟨u,room,h6,h7,h8⟩:=h5;simp only[zdT] at h6;subst h6;obtain⟨_,_,_,yj⟩:=e6;rw[e3,iL] at h8;have:=xA (off:=off) (len:=nm.len-off) (hF id (by simp) nm a h1 hb) (λi x hi=>kC (Names.le_refl _) hD (λ_ _=>rfl) _ _ _ (yj i x hi)) h8 (by omega)
     rwa [zen (by simp only[aQ] at e4;simp;omega)] at this
   ·cases h
  ·cases h
 ·rename_i id p off len
  split at h
  ·rename_i mI
   simp only[zdV,zeo] at mI;obtain⟨rfl,mI⟩:=mI;split at h;rotate_left
   ·cases h
   rename_i ro t' xs ho;split at h
   ·rename_i ys hc
    obtain⟨rfl,rfl⟩:=iY hc;refine⟨_,_,h,λN D w base S c hv D' hD hF=>?_⟩;simp only[cw,AV.isAgg,jz,aq] at hv;obtain⟨nm,h1,hv⟩:=hv;obtain⟨mG,e1,e2,e3,e4,e5,e6⟩:=S.obj id _ ho;rw[h1] at e1;cases e1;cases h2:nm.base with
    |none=>
     rw[h2] at hv;obtain⟨_,rfl,rfl,_,h7⟩:=hv;simp only[zdT] at h7;subst h7;exact⟨none,0,by simp[aQ],by simp[aQ],λ_=>rfl,(by intro ad ha;cases ha)⟩
    |some a=>
    rw[h2] at hv;simp only at hv;rw[if_pos (by simp[e2])] at hv
    obtain⟨h4,h5,u,room,h6,h7,h8,h9⟩:=hv;rw[h2] at e6;simp only[zdT] at h6;subst h6;obtain⟨_,_,_,yj⟩:=e6;rw[e3,iL] at h9;exact xA (off:=off) (len:=len) (hF id (by simp) nm a h1 h2) (λi x hi=>kC (Names.le_refl _) hD (λ_ _=>rfl) _ _ _ (yj i x hi)) h9 (by omega)
   ·cases h
  ·rename_i mI
   obtain⟨u,h,yz,qO⟩:=pB h;split at h;rotate_left
   ·cases h
   rename_i n t' xs;split at h;rotate_left
   ·cases h
   rename_i ys hc;obtain⟨rfl,rfl⟩:=iY hc;refine⟨_,_,h,λN D w base S c hv D' hD hF=>?_⟩;simp only[cw,AV.isAgg,jz,aq] at hv;obtain⟨nm,h1,hv⟩:=hv;have KG:=xB mI yz S h1;cases h2:nm.base with
   |none=>
    rw[h2] at hv;obtain⟨h3,_⟩:=hv;rw[KG] at h3;cases h3
   |some a=>
    rw[h2] at hv;simp only at hv;rw[if_neg (by rw[KG];simp)] at hv
    obtain⟨o,n',e,u,room,h3,h4,h5,h6,h7,h8⟩:=hv;simp only[zdT] at h6;subst h6;obtain⟨g1,g2,_⟩:=qO N D w base S nm a o h1 h2 h3;simp only[aq,iy] at g2;have KH:=A3 yz S h1;rw[h4] at KH;simp only[AV.sh,zdT,Sh.arr.injEq] at KH;obtain⟨rfl,rfl⟩:=KH;have hlen:aQ (β:=t'.den) ys=n':=g2.1;refine xA (a:=Addr.at_ a o) (off:=off) (len:=len) (room:=room) (by simpa [Addr.at_] using hF id (by simp) nm a h1 h2) (λi x hi=>?_) (by rw[iL] at h8;simpa [Addr.at_,zd8] using h8) (by omega)
    refine jm _ _ _ _ (λj _=>?_) (kC (Names.le_refl _) hD (λ_ _=>rfl) _ _ _ (g2.2 i x hi));simp only[aZ,Addr.at_,zd8]
 ·cases h
theorem ly.left {N:Names}{D':Nat->Prop}{i j:List Nat}(h:ly N D' (i++j)):ly N D' i:=λid pJ=>h id (by simp[pJ])
theorem ly.right {N:Names}{D':Nat->Prop}{i j:List Nat}(h:ly N D' (i++j)):ly N D' j:=λid pJ=>h id (by simp[pJ])
theorem zK {α:Type}{s:St}{t:Ty}{v:AV}{k:List t.den->List Nat->Option α}{r:α}(h:qg s t v k=some r):v.isAgg=false/\v.size=1/\v≠ .undef:=by
 cases v<;>first
  |(refine⟨rfl,by simp[AV.size],?_⟩;intro h0;cases h0;done)
  |(unfold qg at h;simp at h;done)
theorem OR {N:Names}{tag n c:Nat}{v:Option Value}(h:xv N tag n c v): ∃c,v=some c:=by
 obtain⟨c,h,_⟩:=A0 h;exact⟨c,h⟩
theorem K7 {N:Names}{D:Nat->Prop}{w:World}{v:AV}{g:Nat->Option Value}(h1:v.isAgg=false)(h2:v≠ .undef)(h:aq N D w v g): ∃c,g 0=some c:=by
 cases v<;>simp only[aq] at h<;>first
  |exact absurd rfl h2
  |exact OR h
  |exact⟨_,h⟩
  |(obtain⟨_,_,_,_,_,_,h⟩:=h;exact⟨_,h⟩)
  |(obtain⟨a,cap,e,_⟩:=h;exact⟨_,e⟩)
  |(obtain⟨_,e,_⟩:=h;exact⟨_,e⟩)
  |(obtain⟨_,e⟩:=h;exact⟨_,e⟩)
  |(obtain⟨_,_,_,_,_,e⟩:=h;exact⟨_,e⟩)
  |(simp[AV.isAgg] at h1;done)
  |skip
 ·obtain⟨nm,_,_,_,_,h⟩:=h
  cases hb:nm.base with
  |none=>rw[hb] at h;exact⟨_,h.2⟩
  |some a=>rw[hb] at h;obtain⟨u,room,e,_⟩:=h;exact⟨_,e⟩
 ·obtain⟨nm,_,h⟩:=h
  cases hb:nm.base with
  |none=>rw[hb] at h;obtain⟨_,_,_,_,h⟩:=h;exact⟨_,h⟩
  |some a=>
  rw[hb] at h;simp only at h;split at h
  ·obtain⟨_,_,u,room,e,_⟩:=h;exact⟨_,e⟩
  ·obtain⟨_,_,_,u,room,_,_,_,e,_⟩:=h;exact⟨_,e⟩
theorem K8 {α:Type}{s:St}{t:Ty}{v:AV}{k:List t.den->List Nat->Option α}{r:α}(h:qg s t v k=some r):v.size=Ty.size (.deep t)/\∃x ids,k x ids=some r/\∀N D w base,jX N D w base s.h->∀g,aq N D w v g->Nj (λD' w=>iy N D' w (.deep t) x g) N D w ids:=by
 have hna:=zK h;obtain⟨xs,ids,h1,h2⟩:=Fq h;refine⟨by rw[hna.2.1];simp[Ty.size],xs,ids,h1,λN D w base S g hv D' hD hF=>?_⟩
 obtain⟨c,hc⟩:=K7 hna.1 hna.2.2 hv;have hv':cw N D w v c:=by
  unfold cw;rw[hna.1];refine jR v _ _ (λj hj=>?_) hv;rw[hna.2.1] at hj;obtain rfl:j=0:=by omega
  exact hc
 exact jm _ _ _ _ (λj hj=>by simp only[Ty.size] at hj;have hj0:j=0:=(by omega);subst hj0;exact hc.symm) (h2 N D w base S c hv' D' hD hF)
theorem Dz {α:Type}{s:St}{t:Ty}(IH: ∀(v:AV) (k:t.den->List Nat->Option α) (r:α),qN s t v k=some r->v.size=t.size/\∃x ids,k x ids=some r/\∀N D w base,jX N D w base s.h->∀g,aq N D w v g->Nj (λD' w=>iy N D' w t x g) N D w ids):
  ∀(vs:List AV) (k:List t.den->List Nat->Option α) (r:α),UA (qN s t) vs k=some r->∃(xs:List t.den) (ids:List Nat),k xs ids=some r/\xs.length=vs.length/\
   ∀N D w base,jX N D w base s.h->∀D':Nat->Prop,(∀b,D b->D' b)->ly N D' ids->∀g,fg N D w vs g->∀i (x:t.den),jW (β:=t.den) xs i=some x->iy N D' w t x (λj=>g (i*t.size+j))
 | [],k,r,h=>⟨[],[],h,rfl,λN D w base S D' _ _ g _ i x hx=>by simp[jW] at hx⟩
 |v::vs,k,r,h=>by
  unfold UA at h;obtain⟨hsz,x,ids,h1,h2⟩:=IH v _ r h;obtain⟨xs,XR,h3,h4,h5⟩:=Dz IH vs _ r h1;refine⟨x::xs,ids++XR,h3,by simp[h4],λN D w base S D' hD hF g hg i y hy=>?_⟩
  simp only[fg] at hg;cases i with
  |zero=>
   simp only[jW,zep,zdT] at hy;subst hy;exact jm _ _ _ _ (λj _=>by simp) (h2 N D w base S g hg.1 D' hD (λq hq=>hF q (List.mem_append.2 (.inl hq))))
  |succ i=>
   refine jm _ _ _ _ (λj _=>congrArg g (by rw[hsz,zd7];omega)) (h5 N D w base S D' hD (λq hq=>hF q (List.mem_append.2 (.inr hq))) _ hg.2 i y (by simpa [jW] using hy))
theorem mJ {α:Type}{s:St}: ∀(t:Ty) (v:AV) (k:t.den->List Nat->Option α) (r:α),qN s t v k=some r->
  v.size=t.size/\∃x ids,k x ids=some r/\∀N D w base,jX N D w base s.h->∀g,aq N D w v g->Nj (λD' w=>iy N D' w t x g) N D w ids
 | .int k',v,k,r,h=>by
  unfold qN at h;split at h
  ·split at h
   ·rename_i k'' n e;subst e
    exact⟨by simp[AV.size,Ty.size],_,_,h,λN D w base S g hv D' hD _=>by simp only[aq] at hv;exact hv⟩
   ·cases h
  ·cases h
 | .bool,v,k,r,h=>by
  unfold qN at h;split at h
  ·exact⟨by simp[AV.size,Ty.size],_,_,h,λN D w base S g hv D' hD _=>by simp only[aq] at hv;exact hv⟩
  ·cases h
 | .str,v,k,r,h=>by
  unfold qN at h;split at h
  ·exact⟨by simp[AV.size,Ty.size],_,_,h,λN D w base S g hv D' hD _=>by simp only[aq] at hv;exact hv⟩
  ·cases h
 | .nil,v,k,r,h=>by
  unfold qN at h;split at h
  ·exact⟨by simp[AV.size,AV.dX,Ty.size],_,_,h,λN D w base S g hv D' hD _=>trivial⟩
  ·cases h
 | .cons a b,v,k,r,h=>by
  unfold qN at h;split at h
  ·rename_i x l
   obtain⟨hsz,p,i,h1,h2⟩:=mJ a x _ r h;obtain⟨wO,q,j,h3,h4⟩:=mJ b (.agg l) _ r h1;refine⟨by simp only[AV.size,AV.dX,Ty.size] at*;omega,_,_,h3,λN D w base S g hv D' hD hF=>?_⟩
   simp only[aq,fg] at hv;have hp:=h2 N D w base S g hv.1 D' hD hF.left;refine⟨hp,?_⟩;have:=h4 N D w base S (λj=>g (x.size+j)) (by simp only[aq];exact hv.2) D' hD hF.right
   rwa [hsz] at this
  ·cases h
 | .arr n t,v,k,r,h=>by
  unfold qN at h;split at h
  ·rename_i n' t' xs
   split at h
   ·rename_i e;subst e
    split at h
    ·rename_i ys hc
     obtain⟨rfl,rfl⟩:=iY hc;exact⟨by simp[AV.size,Ty.size],_,_,h,λN D w base S g hv D' hD _=>by simp only[aq] at hv;exact kC (Names.le_refl _) hD (λ_ _=>rfl) _ _ _ hv⟩
    ·cases h
   ·cases h
  ·cases h
 | .deep t,v,k,r,h=>by
  unfold qN KS at h;split at h;rotate_left
  ·exact K8 h
  rename_i id n;split at h;rotate_left
  ·cases h
  rename_i vs ho;split at h;rotate_left
  ·cases h
  rename_i hn;simp only[zd1] at hn;obtain⟨xs,ids,h1,h2,h3⟩:=Dz (λv k r hv=>mJ t v k r hv) vs _ r h;refine⟨by simp[AV.size,Ty.size],xs,id::ids,h1,λN D w base S g hv D' hD hF=>?_⟩
  simp only[aq] at hv;obtain⟨nm,a,e1,e2,e3,e4⟩:=hv;obtain⟨mG,a',f1,f2,f3,f4,f5,f6,_,_,_,f7⟩:=S.obj id _ ho;rw[e1] at f1;cases f1;rw[e2] at f2;cases f2;simp only[aq] at f7;have hlen:aQ (β:=t.den) xs=n:=by rw[<-hn];exact h2
  refine⟨some a,n,by rw[hlen];exact e4,by rw[hlen];exact zd9 _,(by intro h;cases h),λad Fo lV=>?_⟩
  cases Fo;exact⟨f5,hF id (by simp) nm a e1 e2,h3 N D w base S D' hD (λq hq=>hF q (zdZ _ hq)) _ f7⟩
 | .ref g,v,k,r,h=>by
  unfold qN at h;split at h
  ·split at h
   ·rename_i e;subst e
    exact⟨by simp[AV.size,Ty.size],_,_,h,λN D w base S g hv D' hD _=>by simp only[aq] at hv;exact hv⟩
   ·cases h
  ·exact⟨by simp[AV.size,Ty.size],_,_,h,λN D w base S g hv D' hD _=>by simp only[aq] at hv;exact hv⟩
  ·cases h
end AM
namespace AM
open Go
mutual
theorem vZ: ∀(v u:AV),v.lu u=true->v.sh=u.sh
 | .agg fs,u,h=>by
  cases u<;>simp only[AV.lu] at h<;>first|(cases h;done)|skip
  simp only[AV.sh];rw[zL _ _ h]
 | .arr n t xs,u,h=>by
  cases u<;>simp only[AV.lu] at h<;>first|(cases h;done)|skip
  simp only[zdV,zd1] at h;simp only[AV.sh,h.1,h.2]
 | .undef,u,h=>by cases u<;>simp[AV.lu] at h
 | .AP _,u,h=>by cases u<;>simp[AV.lu] at h
 | .val _,u,h=>by cases u<;>simp[AV.lu] at h<;>simp[AV.sh]
 | .ptr _ _,u,h=>by cases u<;>simp[AV.lu] at h<;>simp[AV.sh]
 | .tail _ _,u,h=>by cases u<;>simp[AV.lu] at h<;>simp[AV.sh]
 | .slice _ _ _ _,u,h=>by cases u<;>simp[AV.lu] at h<;>simp[AV.sh]
 | .dp _ _,u,h=>by cases u<;>simp[AV.lu] at h<;>simp[AV.sh]
 | .tP _,u,h=>by cases u<;>simp[AV.lu] at h<;>simp[AV.sh]
 | .wZ _ _,u,h=>by cases u<;>simp[AV.lu] at h<;>simp[AV.sh]
 | .xm,u,h=>by cases u<;>simp[AV.lu] at h<;>simp[AV.sh]
 | .QJ _ _ _ _,u,h=>by cases u<;>simp[AV.lu] at h<;>simp[AV.sh]
 | .Cz _ _,u,h=>by cases u<;>simp[AV.lu] at h<;>simp[AV.sh]
 | .uu _ _,u,h=>by cases u<;>simp[AV.lu] at h<;>simp[AV.sh]
 | .rf _ _ _,u,h=>by cases u<;>simp[AV.lu] at h<;>simp[AV.sh]
theorem zL: ∀(l m:List AV),AV.vo l m=true->AV.yG l=AV.yG m
 | [],m,h=>by cases m<;>simp[AV.vo] at h<;>simp[AV.yG]
 |x::xs,m,h=>by
  cases m with
  |nil=>simp[AV.vo] at h
  |cons y ys=>
   simp only[AV.vo,zdV] at h;simp only[AV.yG,vZ _ _ h.1,zL _ _ h.2]
end
theorem Nk: ∀(l:List AV) (n:Nat) (v v':AV),l[n]?=some v->v'.sh=v.sh->AV.yG (l.set n v')=AV.yG l
 | [],_,_,_,h,_=>by simp at h
 |x::xs,0,v,v',h,e=>by simp at h;subst h;simp[AV.yG,e]
 |x::xs,n+1,v,v',h,e=>by simp[AV.yG,Nk xs n v v' (by simpa using h) e]
theorem yY {N:Names}{D:Nat->Prop}{w:World}: ∀(l:List AV) (n:Nat) (v v':AV) (g g':Nat->Option Value),l[n]?=some v->v'.size=v.size->fg N D w l g->
  (∀j,(j<AV.dX (l.take n)\/AV.dX (l.take n)+v.size<=j)->g' j=g j)->aq N D w v' (λj=>g' (AV.dX (l.take n)+j))->fg N D w (l.set n v') g'
 | [],_,_,_,_,_,h,_,_,_,_=>by simp at h
 |x::xs,0,v,v',g,g',h,e,hr,hg,hv=>by
  simp at h;subst h;simp only[List.set,fg] at*;refine⟨mA hv (λj=>by simp[AV.dX]),?_⟩
  refine vW xs _ _ (λj _=>?_) hr.2;rw[hg _ (.inr (by simp[AV.dX];omega)),e]
 |x::xs,n+1,v,v',g,g',h,e,hr,hg,hv=>by
  simp only[List.set,fg] at*;refine⟨jR x _ _ (λj hj=>(hg j (.inl (by simp[AV.dX];omega))).symm) hr.1,?_⟩
  refine yY xs n v v' (λj=>g (x.size+j)) (λj=>g' (x.size+j)) (by simpa using h) e hr.2 (λj hj=>hg _ ?_) (mA hv (λj=>by simp[AV.dX,zd8]))
  simp only[List.take_succ_cons,AV.dX];omega
theorem BR: ∀(l:List Sh) (n:Nat) (v:Sh),l[n]?=some v->Sh.dX (l.take n)+v.size<=Sh.dX l
 | [],n,v,h=>by simp at h
 |z::zs,0,v,h=>by simp at h;subst h;simp[Sh.dX]
 |z::zs,n+1,v,h=>by have:=BR zs n v (by simpa using h);simp[Sh.dX];omega
theorem zM: ∀(p:List Step) (sh:Sh) (o:Nat) (t:Sh),fG p sh=some o->zC p sh=some t->o+t.size<=sh.size:=by
 intro p;induction p with
 |nil=>intro sh o t h1 h2;simp only[fG,zC,zdT] at h1 h2;subst h1;subst h2;omega
 |cons st p ih=>
  intro sh o t h1 h2;cases st with
  |ir n=>
   cases sh<;>simp only[fG,zC] at h1 h2<;>try (cases h1;done)
   rename_i l;cases hl:l[n]? with
   |none=>simp[hl] at h1
   |some y=>
    simp only[hl] at h1 h2;cases h5:fG p y with
    |none=>simp[h5] at h1
    |some o2=>
     simp only[h5,zd2,zdT] at h1;have:=ih y o2 t h5 h2;have:=BR l n y hl;simp only[Sh.size];omega
  |idx i=>
   cases sh<;>simp only[fG,zC] at h1 h2<;>try (cases h1;done)
   rename_i n e;by_cases hi:i<n
   ·simp only[hi,if_true] at h1
    cases h5:fG p e with
    |none=>simp[h5] at h1
    |some o2=>
     simp only[h5,zd2,zdT] at h1;have:=ih e o2 t h5 h2;have h6:(i+1)*e.size<=n*e.size:=zd6 _ hi;rw[zd7] at h6;simp only[Sh.size];omega
   ·simp only[hi,if_false] at h1;cases h1
theorem v7 {α:Type}{s:St}: ∀(p:List Step) (u v:AV) (k:AV->Option α) (r:α),I3 s p u v k=some r->
  ∃v',k v'=some r/\v'.sh=v.sh/\zC p v.sh=some u.sh/\∀N D w base,jX N D w base s.h->∀g g' o,aq N D w v g->fG p v.sh=some o->
   (∀j,(j<o\/o+u.size<=j)->g' j=g j)->aq N D w u (λj=>g' (o+j))->aq N D w v' g'
 | [],u,v,k,r,h=>by
  simp only[I3] at h;cases hs:v.lu u with
  |false=>simp[hs] at h
  |true=>
   simp only[hs] at h;refine⟨u,h,(vZ _ _ hs).symm,by rw[zC,vZ _ _ hs],λN D w base S g g' o hv ho hg hu=>?_⟩
   simp only[fG,zdT] at ho;subst ho;exact mA hu (λj=>by simp)
 | .ir n::p,u,v,k,r,h=>by
  cases v<;>simp only[I3] at h<;>try (cases h;done)
  rename_i fs;cases hv:fs[n]? with
  |none=>simp[hv] at h
  |some x=>
   simp only[hv] at h;obtain⟨v',h1,h2,h3,h4⟩:=v7 p u x _ r h;have hsz:v'.size=x.size:=by rw[<-kT,<-kT,h2]
   refine⟨_,h1,by simp only[AV.sh,Nk fs n x v' hv h2],by simp only[AV.sh,zC,zI,hv,zd2];exact h3,λN D w base S g g' o hr ho hg hu=>?_⟩
   simp only[AV.sh,fG,zI,hv,zd2] at ho;cases mW:fG p x.sh with
   |none=>simp[mW] at ho
   |some o'=>
    simp only[mW,zd2,zdT] at ho;rw[<-Dx,zH] at ho;subst ho;simp only[aq] at hr⊢;have hx:=qA fs n x g hv hr;have yk:o'+u.size<=x.size:=by
     have:=zM p x.sh o' u.sh mW h3;rwa [kT,kT] at this
    have:=h4 N D w base S _ (λj=>g' (AV.dX (fs.take n)+j)) o' hx mW (λj hj=>hg _ (by omega)) (mA hu (λj=>by rw[zd8]))
    exact yY fs n x v' g g' hv hsz hr (λj hj=>hg j (by omega)) this
 | .idx i::p,u,v,k,r,h=>by
  cases v<;>simp only[I3] at h<;>try (cases h;done)
  rename_i n t xs;cases hv:(show List t.den from xs)[i]? with
  |none=>simp[hv] at h
  |some x=>
   simp only[hv] at h;obtain⟨v',h1,h2,h3,h4⟩:=v7 p u (enc t x) _ r h;obtain⟨_,x',ids,h5,h6⟩:=mJ t v' _ r h1;cases ids with
   |cons _ _=>simp at h5
   |nil=>
    simp only at h5;refine⟨_,h5,by simp only[AV.sh],by simp only[AV.sh,zC];rw[<-rO t x];exact h3,λN D w base S g g' o hr ho hg hu=>?_⟩
    simp only[AV.sh,fG] at ho;by_cases hi:i<n
    ·simp only[hi,if_true] at ho
     cases mW:fG p (sr t) with
     |none=>simp[mW] at ho
     |some o'=>
      simp only[mW,zd2,zdT,iL] at ho;subst ho;simp only[aq,iy] at hr⊢;have hx:=(kO (N:=N) t x _).2 (hr.2 i x hv);have yk:o'+u.size<=t.size:=by
       have:=zM p (sr t) o' u.sh mW (by rw[<-rO t x];exact h3)
       rwa [kT,iL] at this
      have:=h4 N D w base S _ (λj=>g' (i*t.size+j)) o' hx (by rw[rO];exact mW) (λj hj=>hg _ (by omega)) (mA hu (λj=>by rw[zd8]))
      have BS:=h6 N D w base S _ this D (λ_ h=>h) (by intro id pJ;simp at pJ)
      refine⟨by simp only[aQ,zeq];exact hr.1,λi' y hy=>?_⟩
      by_cases Uc:i=i'
      ·subst Uc
       have kW:i<(show List t.den from xs).length:=(List.getElem?_eq_some_iff.1 hv).1
       simp only[jW,List.getElem?_set_self kW,zdT] at hy;subst hy;exact BS
      ·simp only[jW,zer Uc] at hy
       refine jm t y _ _ (λj hj=>?_) (hr.2 i' y hy);refine(hg _ ?_).symm;rcases Nat.lt_or_gt_of_ne Uc with kW|kW
       ·right
        have:(i+1)*t.size<=i'*t.size:=zd6 _ kW;rw[zd7] at this;omega
       ·left
        have:(i'+1)*t.size<=i*t.size:=zd6 _ kW;rw[zd7] at this;omega
    ·simp only[hi,if_false] at ho;cases ho
end AM
namespace AM
open Go
theorem tc.congr {N N':Names}{D D':Nat->Prop}{w w':World}{base:Nat}{id:Nat}{v:AV}(h:tc N D w base id v)(hN:N.le N')(hD: ∀b,D b->D' b)(hw: ∀b,D b->w'.heap[b]?=w.heap[b]?)
  (hb: ∀b,om N id b->w'.heap[b]?=w.heap[b]?/\(¬D b->¬D' b)):tc N' D' w' base id v:=by
 obtain⟨nm,a,h1,h2,h3,h4,h5,h6,h7,h8,⟨c,ty,h9,F7⟩,Nl⟩:=h;obtain⟨e1,e2⟩:=hb _ ⟨nm,a,h1,h2,rfl⟩;refine⟨nm,a,hN _ _ h1,h2,h3,h4,h5,h6,h7,e2 h8,⟨c,ty,by rw[e1];exact h9,F7⟩,?_⟩
 refine mA (qo hN hD hw v _ Nl) (λj=>?_);simp only[aZ,World.cell?,e1]
theorem nF.congr {N N':Names}{D D':Nat->Prop}{w w':World}{base:Nat}{id:Nat}{ro:Bool}{t:Ty}{xs:List t.den}(h:nF N D w base id ro t xs)(hN:N.le N')(hD: ∀b,D b->D' b)(hw: ∀b,D b->w'.heap[b]?=w.heap[b]?)
  (hb:ro=false->∀b,om N id b->w'.heap[b]?=w.heap[b]?/\(¬D b->¬D' b)):nF N' D' w' base id ro t xs:=by
 obtain⟨nm,h1,h2,h3,h4,h5,h6⟩:=h;refine⟨nm,hN _ _ h1,h2,h3,h4,h5,?_⟩;cases pK:nm.base with
 |none=>rw[pK] at h6;exact h6
 |some a=>
  rw[pK] at h6;obtain⟨h7,⟨c,ty,fz,h8,h9⟩,F7,Nl⟩:=h6;have e1:w'.heap[a.block]?=w.heap[a.block]?:=by
   cases ro with
   |true=>simp only[if_true] at F7;exact hw _ F7
   |false=>exact(hb rfl _ ⟨nm,a,h1,pK,rfl⟩).1
  refine⟨h7,⟨c,ty,fz,by rw[e1];exact h8,h9⟩,?_,λi x hx=>?_⟩
  ·cases ro with
   |true=>simp only[if_true] at F7⊢;exact hD _ F7
   |false=>simp at F7⊢;exact⟨F7.1,(hb rfl _ ⟨nm,a,h1,pK,rfl⟩).2 F7.2⟩
  ·have:=kC hN hD hw t x _ (Nl i x hx)
   have e:(λj=>aZ w' a (i*t.size+j))=λj=>aZ w a (i*t.size+j):=by
    funext j;simp only[aZ,World.cell?,e1]
   rw[e];exact this
mutual
theorem jf.congr {D D':Nat->Prop}{w w':World}{base:Nat}(hD: ∀b,D b->D' b)(hw: ∀b,D b->w'.heap[b]?=w.heap[b]?): ∀{N:Names} {c:Nat} {p:aK} {d:p.den},jf D w base N c p d->
  (∀b,pO N c p d b->w'.heap[b]?=w.heap[b]?/\(¬D b->¬D' b))->jf D' w' base N c p d
 |_,_, .var _,_,h,hb=>by
  simp only[jf,pO] at*;exact h.congr (Names.le_refl _) hD hw hb
 |_,_, .row _,_,h,hb=>by
  simp only[jf,pO] at*;exact h.congr (Names.le_refl _) hD hw λ_=>hb
 |N,c, .store ep,xs,h,hb=>by
  simp only[jf] at*;refine⟨h.1,λk d hk=>⟨kQ.congr hD hw (h.2.1 k d hk).1 λb ho=>hb b ?_,(h.2.1 k d hk).2⟩,h.2.2.1,h.2.2.2⟩;simp only[pO];exact⟨k,d,hk,ho⟩
theorem kQ.congr {D D':Nat->Prop}{w w':World}{base:Nat}(hD: ∀b,D b->D' b)(hw: ∀b,D b->w'.heap[b]?=w.heap[b]?): ∀{N:Names} {l:List (Nat×aK)} {d:cT l},kQ D w base N l d->
  (∀b,pA N l d b->w'.heap[b]?=w.heap[b]?/\(¬D b->¬D' b))->kQ D' w' base N l d
 |_,[],_,_,_=>by simp only[kQ]
 |N,(c,p)::os,d,h,hb=>by
  simp only[kQ,pA] at*;exact⟨jf.congr hD hw h.1 λb ho=>hb b (.inl ho),kQ.congr hD hw h.2.1 λb ho=>hb b (.inr ho),h.2.2⟩
end
mutual
theorem jf.uK {D:Nat->Prop}{w:World}{base:Nat}{N N':Names}{c:Nat}{ep:List (Nat×aK)}{xs:List (cT ep)}(h:jf D w base N c (.store ep) xs)(e: ∀k,N'.sub (c-SB) k=N.sub (c-SB) k):jf D w base N' c (.store ep) xs:=by
 simp only[jf,e] at*;exact h
end
theorem pO.uK {N N':Names}{c:Nat}{ep:List (Nat×aK)}{xs:List (cT ep)}{b:Nat}(e: ∀k,N'.sub (c-SB) k=N.sub (c-SB) k):pO N' c (.store ep) xs b↔pO N c (.store ep) xs b:=by
 simp only[pO,e]
theorem nO {N N':Names}{D D':Nat->Prop}{w w':World}{base:Nat}{id:Nat}{o:fO}(h:qB N D w base id o)(hN:N.le N')(hD: ∀b,D b->D' b)(hw: ∀b,D b->w'.heap[b]?=w.heap[b]?)
  (hb: ∀b,iR N id o b->w'.heap[b]?=w.heap[b]?/\(¬D b->¬D' b)) (hs: ∀ep xs,o= .store ep xs->∀k,N'.sub (id-SB) k=N.sub (id-SB) k):qB N' D' w' base id o:=by
 cases o with
 |dead=>trivial
 |void=>trivial
 |store ep xs=>exact(jf.congr hD hw (show jf D w base N id (.store ep) xs from h) hb).uK (hs ep xs rfl)
 |var v=>exact tc.congr h hN hD hw hb
 |row ro t xs=>exact nF.congr h hN hD hw λe=>by subst e;exact hb
def kq (h:Nat->Option fO)(id:Nat)(o:fO):Nat->Option fO:=λx=>if x=id then some o else h x
theorem St.tf (s:St)(id:Nat)(o:fO):(s.set id o).h=kq s.h id o:=rfl
theorem vu {h:Nat->Option fO}{id i:Nat}{o:fO}(e:kq h id o i=none):h i=none:=by
 unfold kq at e;split at e
 ·cases e
 ·exact e
theorem om.eq {N N':Names}{i b:Nat}(h:N' i=N i):om N' i b↔om N i b:=by unfold om;rw[h]
theorem iR.names {N N':Names}{i:Nat}{o:fO}{b:Nat}(h1:N' i=N i)(h2: ∀k,N'.sub (i-SB) k=N.sub (i-SB) k):iR N' i o b↔iR N i o b:=by
 cases o with
 |dead=>exact Iff.rfl
 |void=>exact Iff.rfl
 |var v=>exact om.eq h1
 |row ro t xs=>
  cases ro with
  |true=>exact Iff.rfl
  |false=>exact om.eq h1
 |store ep xs=>exact pO.uK h2
theorem iR.at_ {N:Names}{i:Nat}{o:fO}{nm:Nm}{a:Addr}{b:Nat}(hr:o.rw=true)(hn:N i=some nm)(hb:nm.base=some a)(h:iR N i o b):b=a.block:=by
 have key:om N i b->b=a.block:=by
  rintro⟨mG,a',h1,h2,rfl⟩
  rw[hn] at h1;cases h1;rw[hb] at h2;cases h2;rfl
 cases o with
 |dead=>exact h.elim
 |void=>exact h.elim
 |var v=>exact key h
 |row ro t xs=>cases ro<;>first|exact key h|exact h.elim
 |store ep xs=>cases hr
theorem jX.write {N:Names}{D:Nat->Prop}{w w':World}{base:Nat}{h:Nat->Option fO}(S:jX N D w base h){id:Nat}{o o':fO}{nm:Nm}{a:Addr}(ho:h id=some o)(Fc:o.rw=true)(hn:N id=some nm)(hb:nm.base=some a)
  (Re:w'.os=w.os) (Jc:w'.tape=w.tape) (jv:w'.output=w.output) (xC:w'.heap.size=w.heap.size) (mK: ∀b,b≠a.block->w'.heap[b]?=w.heap[b]?) (na:qB N D w' base id o') (Ud:o'.rw=true:=by rfl):
  jX N D w' base (kq h id o')/\Ext N D w h N D w' (kq h id o'):=by
 have tn:iR N id o a.block:=iR.of Fc hn hb;have zac:yX N h a.block:=⟨id,o,ho,tn⟩;have hnd:=(S.tT zac).1;have hD: ∀b,D b->w'.heap[b]?=w.heap[b]?:=λb vl=>mK b (λe=>hnd (e▸vl));have key: ∀i oi b,kq h id o' i=some oi->iR N i oi b->∃o2,h i=some o2/\iR N i o2 b:=by
  intro i oi b hi ri;by_cases e:i=id
  ·subst e
   simp[kq] at hi;subst hi;rw[iR.at_ Ud hn hb ri];exact⟨o,ho,tn⟩
  ·simp only[kq,if_neg e] at hi;exact⟨oi,hi,ri⟩
 have Nn: ∀x,kq h id o' x≠h x->∃o2,kq h id o' x=some o2/\o2.rw=true/\∃o3,h x=some o3/\o3.rw=true:=by
  intro x hx;by_cases e:x=id
  ·subst e;exact⟨o',by simp[kq],Ud,o,ho,Fc⟩
  ·simp[kq,e] at hx
 constructor
 ·refine⟨λQL o'' h'=>?_,?_,λb vl=>by rw[xC];exact S.frozen b vl,λQL mG OS=>?_,by rw[xC];exact S.size,λg hg=>?_⟩
  ·by_cases e:QL=id
   ·subst e;simp[kq] at h';subst h';exact na
   ·simp only[kq,if_neg e] at h'
    refine nO (S.obj QL o'' h') (Names.le_refl N) (λ_ h=>h) hD (λb hO=>⟨mK _ (λeb=>e ?_),λh=>h⟩) (λ_ _ _ _=>rfl);exact S.apart QL id o'' o b h' ho hO (eb▸tn)
  ·intro i j oi oj b hi hj ri rj
   obtain⟨o1,h1,r1⟩:=key i oi b hi ri;obtain⟨o2,h2,r2⟩:=key j oj b hj rj;exact S.apart i j o1 o2 b h1 h2 r1 r2
  ·by_cases e:QL=id
   ·simp[kq,e]
   ·simp only[kq,if_neg e];exact S.named QL mG OS
  ·by_cases e:SB+g=id
   ·simp only[kq,if_pos e] at hg
    cases o'<;>simp[AM.iK] at hg
    cases Ud
   ·simp only[kq,if_neg e] at hg;exact S.iK g hg
 ·refine⟨Names.le_refl N,λ_ h=>h,Re,Jc,jv,by rw[xC];exact zd9 _,λb _ v8=>mK b (λe=>v8 (e▸zac)),λb _ hO=>?_,λ_ h=> .inl h,λ_ _ h=> .inl h,λ_ h=>vu h,λg hg=>⟨?_,λ_=>rfl⟩⟩
  ·obtain⟨i,oi,hi,ri⟩:=hO
   obtain⟨o2,h2,r2⟩:=key i oi b hi ri;exact⟨i,o2,h2,r2⟩
  ·by_cases e:SB+g=id
   ·subst e;rw[ho] at hg;cases hg;cases Fc
   ·simp only[kq,if_neg e];exact hg
theorem jX.kill {N:Names}{D:Nat->Prop}{w:World}{base:Nat}{h:Nat->Option fO}(S:jX N D w base h)(id:Nat):jX N D w base (kq h id .dead)/\Ext N D w h N D w (kq h id .dead):=by
 have key: ∀i oi b,kq h id .dead i=some oi->iR N i oi b->h i=some oi:=by
  intro i oi b hi ri;by_cases e:i=id
  ·subst e;simp[kq] at hi;subst hi;exact ri.elim
  ·simpa only[kq,if_neg e] using hi
 constructor
 ·refine⟨λi o hi=>?_,?_,S.frozen,λi nm hn=>?_,S.size,λg hg=>?_⟩
  ·by_cases e:i=id
   ·subst e;simp[kq] at hi;subst hi;trivial
   ·simp only[kq,if_neg e] at hi;exact S.obj i o hi
  ·intro i j oi oj b hi hj ri rj
   exact S.apart i j oi oj b (key i oi b hi ri) (key j oj b hj rj) ri rj
  ·by_cases e:i=id
   ·simp[kq,e]
   ·simp only[kq,if_neg e];exact S.named i nm hn
  ·by_cases e:SB+g=id
   ·simp[kq,if_pos e,AM.iK] at hg
   ·simp only[kq,if_neg e] at hg;exact S.iK g hg
 ·refine⟨Names.le_refl N,λ_ h=>h,rfl,rfl,rfl,zd9 _,λ_ _ _=>rfl,λb _ hO=>?_,λ_ h=> .inl h,λ_ _ h=> .inl h,λ_ h=>vu h,λg hg=>⟨?_,λ_=>rfl⟩⟩
  ·obtain⟨i,oi,hi,ri⟩:=hO
   exact⟨i,oi,key i oi b hi ri,ri⟩
  ·by_cases e:SB+g=id
   ·simp[kq,if_pos e]
   ·simp only[kq,if_neg e];exact hg
theorem jX.UE {N:Names}{D:Nat->Prop}{w:World}{base:Nat}{h:Nat->Option fO}(S:jX N D w base h){id:Nat}{ro:Bool}{t:Ty}{xs:List t.den}(ho:h id=some (.row ro t xs)):
  ∃D':Nat->Prop,(∀b,D b->D' b)/\ly N D' [id]/\jX N D' w base (kq h id (.row true t xs))/\Ext N D w h N D' w (kq h id (.row true t xs)):=by
 have na:=S.obj id _ ho;have key: ∀i oi b,kq h id (.row true t xs) i=some oi->iR N i oi b->i≠id/\h i=some oi:=by
  intro i oi b hi ri;by_cases e:i=id
  ·subst e;simp[kq] at hi;subst hi;exact ri.elim
  ·exact⟨e,by simpa only[kq,if_neg e] using hi⟩
 let D':Nat->Prop:=λb=>D b\/∃nm a,N id=some nm/\nm.base=some a/\a.block=b
 have kW: ∀nm a,N id=some nm->nm.base=some a->a.block<w.heap.size:=by
  intro nm a hn hb;obtain⟨mG,h1,_,_,_,_,h6⟩:=na;rw[hn] at h1;cases h1;rw[hb] at h6;obtain⟨_,⟨c,ty,fz,h8,_⟩,_⟩:=h6;exact(Array.getElem?_eq_some_iff.1 h8).1
 refine⟨D',λb h=> .inl h,?_,?_,?_⟩
 ·intro i hi nm a hn hb
  simp at hi;subst hi;exact .inr ⟨nm,a,hn,hb,rfl⟩
 ·refine⟨λi o hi=>?_,?_,?_,λi nm hn=>?_,S.size,λg hg=>?_⟩
  ·by_cases e:i=id
   ·subst e;simp[kq] at hi;subst hi
    obtain⟨nm,h1,h2,h3,h4,h5,h6⟩:=na;refine⟨nm,h1,h2,h3,h4,h5,?_⟩;cases hb:nm.base with
    |none=>rw[hb] at h6;exact h6
    |some a=>
     rw[hb] at h6;obtain⟨h7,⟨c,ty,fz,h8,h9,_⟩,_,Nl⟩:=h6;refine⟨h7,⟨c,ty,fz,h8,h9,by simp⟩,by simp only[if_true];exact .inr ⟨nm,a,h1,hb,rfl⟩,λi x hx=>kC (Names.le_refl _) (λb h=> .inl h) (λ_ _=>rfl) _ _ _ (Nl i x hx)⟩
   ·simp only[kq,if_neg e] at hi
    refine nO (S.obj i o hi) (Names.le_refl N) (λb h=> .inl h) (λ_ _=>rfl) (λb hO=>⟨rfl,λhnd K4=>?_⟩) (λ_ _ _ _=>rfl);rcases K4 with K4|⟨nm,a,hn,hb,K9⟩
    ·exact hnd K4
    ·cases ro with
     |true=>
      obtain⟨WU,h1,_,_,_,_,h6⟩:=na;rw[hn] at h1;cases h1;rw[hb] at h6;obtain⟨_,_,F7,_⟩:=h6;simp only[if_true] at F7;exact hnd (K9▸F7)
     |false=>exact e (S.apart i id o _ b hi ho hO ⟨nm,a,hn,hb,K9⟩)
  ·intro i j oi oj b hi hj ri rj
   exact S.apart i j oi oj b (key i oi b hi ri).2 (key j oj b hj rj).2 ri rj
  ·rintro b (hb|⟨nm,a,hn,hb,rfl⟩)
   ·exact S.frozen b hb
   ·exact kW nm a hn hb
  ·by_cases e:i=id
   ·simp[kq,e]
   ·simp only[kq,if_neg e];exact S.named i nm hn
  ·by_cases e:SB+g=id
   ·simp[kq,if_pos e,AM.iK] at hg
   ·simp only[kq,if_neg e] at hg;exact S.iK g hg
 ·refine⟨Names.le_refl N,λb h=> .inl h,rfl,rfl,rfl,zd9 _,λ_ _ _=>rfl,λb _ hO=>?_,λb hb=>?_,λ_ _ h=> .inl h,λ_ h=>vu h,λg hg=>⟨?_,λ_=>rfl⟩⟩
  case refine_2=>
   rcases hb with hb|⟨nm,a,hn,hb,rfl⟩
   ·exact .inl hb
   ·cases ro with
    |true=>
     obtain⟨WU,h1,_,_,_,_,h6⟩:=na;rw[hn] at h1;cases h1;rw[hb] at h6;obtain⟨_,_,F7,_⟩:=h6;exact .inl (by simpa using F7)
    |false=>exact .inr (.inl ⟨id,_,ho,⟨nm,a,hn,hb,rfl⟩⟩)
  ·obtain⟨i,oi,hi,ri⟩:=hO
   exact⟨i,oi,(key i oi b hi ri).2,ri⟩
  ·by_cases e:SB+g=id
   ·subst e;rw[ho] at hg;cases hg
   ·simp only[kq,if_neg e];exact hg
theorem wa: ∀(ids:List Nat) (s s':St),s.freeze ids=some s'->s'.t=s.t/\s'.nt=s.nt/\s'.ep=s.ep/\∀N D w base,jX N D w base s.h->
  ∃D':Nat->Prop,(∀b,D b->D' b)/\ly N D' ids/\jX N D' w base s'.h/\Ext N D w s.h N D' w s'.h
 | [],s,s',h=>by
  simp only[St.freeze,zdT] at h;subst h;exact⟨rfl,rfl,rfl,λN D w base S=>⟨D,λ_ h=>h,by intro i hi;simp at hi,S,Ext.refl _ _ _ _⟩⟩
 |i::l,s,s',h=>by
  simp only[St.freeze] at h;split at h
  ·rename_i ro t xs ho
   obtain⟨h1,h2,h3,h4⟩:=wa l _ s' h;refine⟨h1,h2,h3,λN D w base S=>?_⟩;obtain⟨D1,e1,e2,e3,e4⟩:=S.UE ho;obtain⟨D2,f1,f2,f3,f4⟩:=h4 N D1 w base (by rw[St.tf];exact e3)
   refine⟨D2,λb hb=>f1 b (e1 b hb),λid pJ nm a hn hb=>?_,f3,e4.trans f4⟩;rcases List.mem_cons.1 pJ with rfl|pJ
   ·exact f1 _ (e2 id (by simp) nm a hn hb)
   ·exact f2 id pJ nm a hn hb
  ·cases h
theorem Names.BT {N:Names}{id:Nat}{nm:Nm}:(N.up λi=>if i=id then some nm else N i) id=some nm:=by show(if id=id then some nm else N id)=_;simp
theorem Names.Rf {N:Names}{id:Nat}{nm:Nm}(XS:N id=none):N.le (N.up λi=>if i=id then some nm else N i):=Names.Ra λi mG h'=>by
 by_cases e:i=id
 ·subst e;rw[XS] at h';cases h'
 ·rw[if_neg e];exact h'
theorem jX.make {N:Names}{D:Nat->Prop}{w w':World}{base:Nat}{h:Nat->Option fO}(S:jX N D w base h){id:Nat}{o:fO}{nm:Nm}(gX:h id=none)(Re:w'.os=w.os)(Jc:w'.tape=w.tape)(jv:w'.output=w.output)
  (xC:w.heap.size<=w'.heap.size) (mK: ∀b,b<w.heap.size->w'.heap[b]?=w.heap[b]?) (qZ: ∀a,nm.base=some a->w.heap.size<=a.block/\a.block<w'.heap.size)
  (na:qB (N.up λi=>if i=id then some nm else N i) D w' base id o) (hr:o.rw=true:=by rfl):
  ∃N':Names,N' id=some nm/\jX N' D w' base (kq h id o)/\Ext N D w h N' D w' (kq h id o):=by
 have XS:N id=none:=by
  cases e:N id with
  |none=>rfl
  |some mG=>exact absurd gX (S.named id mG e)
 have hN:N.le (N.up λi=>if i=id then some nm else N i):=Names.Ra λi mG h'=>by
  by_cases e:i=id
  ·subst e;rw[XS] at h';cases h'
  ·rw[if_neg e];exact h'
 have XT:(N.up λi=>if i=id then some nm else N i) id=some nm:=by show(if id=id then some nm else N id)=_;simp
 have La: ∀i,i≠id->(N.up λi=>if i=id then some nm else N i) i=N i:=λi e=>if_neg e
 have hold: ∀i oi b,i≠id->iR (N.up λi=>if i=id then some nm else N i) i oi b->iR N i oi b:=λi oi b e=>(iR.names (La i e) (λ_=>rfl)).1
 have DA: ∀b,iR (N.up λi=>if i=id then some nm else N i) id o b->w.heap.size<=b:=by
  intro b hO;cases hb:nm.base with
  |some a=>rw[iR.at_ hr XT hb hO];exact(qZ a hb).1
  |none=>
   have key:om (N.up λi=>if i=id then some nm else N i) id b->False:=by
    rintro⟨mG,a',h1,h2,_⟩
    rw[XT] at h1;cases h1;rw[hb] at h2;cases h2
   cases o with
   |dead=>exact hO.elim
   |void=>exact hO.elim
   |var v=>exact(key hO).elim
   |row ro t xs=>cases ro<;>first|exact(key hO).elim|exact hO.elim
   |store ep xs=>cases hr
 refine⟨N.up λi=>if i=id then some nm else N i,XT,⟨λi oi hi=>?_,?_,λb hb=>zeb (S.frozen b hb) xC,λi mG hn=>?_,zea S.size xC,λg hg=>?_⟩,⟨hN,λ_ h=>h,Re,Jc,jv,xC,λb hb _=>mK b hb,λb hb hO=>?_,λ_ h=> .inl h,λi mG hn=>?_,λ_ h=>vu h,λg hg=>⟨?_,λ_=>rfl⟩⟩⟩
 ·by_cases e:i=id
  ·subst e;simp[kq] at hi;subst hi;exact na
  ·simp only[kq,if_neg e] at hi
   exact nO (S.obj i oi hi) hN (λ_ h=>h) (λb hb=>mK b (S.frozen b hb)) (λb hO=>⟨mK _ (S.pa hi hO).2.2,λh=>h⟩) (λ_ _ _ _=>rfl)
 ·intro i j oi oj b hi hj ri rj
  by_cases ei:i=id<;>by_cases ej:j=id
  ·rw[ei,ej]
  ·exfalso
   subst ei;simp[kq] at hi;subst hi;simp only[kq,if_neg ej] at hj;have:=(S.pa hj (hold j oj b ej rj)).2.2;have:=DA b ri;omega
  ·exfalso
   subst ej;simp[kq] at hj;subst hj;simp only[kq,if_neg ei] at hi;have:=(S.pa hi (hold i oi b ei ri)).2.2;have:=DA b rj;omega
  ·simp only[kq,if_neg ei] at hi
   simp only[kq,if_neg ej] at hj;exact S.apart i j oi oj b hi hj (hold i oi b ei ri) (hold j oj b ej rj)
 ·by_cases e:i=id
  ·simp[kq,e]
  ·simp only[kq,if_neg e]
   rw[La i e] at hn;exact S.named i mG hn
 ·by_cases e:SB+g=id
  ·simp only[kq,if_pos e] at hg
   cases o<;>simp[AM.iK] at hg
   cases hr
  ·simp only[kq,if_neg e] at hg;exact S.iK g hg
 ·obtain⟨i,oi,hi,ri⟩:=hO
  by_cases e:i=id
  ·subst e
   simp[kq] at hi;subst hi;have:=DA b ri;omega
  ·simp only[kq,if_neg e] at hi
   exact⟨i,oi,hi,hold i oi b e ri⟩
 ·by_cases e:i=id
  ·subst e;exact .inr gX
  ·rw[La i e] at hn;exact .inl hn
 ·by_cases e:SB+g=id
  ·subst e;rw[gX] at hg;cases hg
  ·simp only[kq,if_neg e];exact hg
end AM
namespace AM
open Go
variable {α:Type}{P:Program}{base:Nat}
def zN (op:BinOp)(b:Bool):Bool:=match op with| .eql=>b|_=>!b
theorem kx.sS {N:Names}{D:Nat->Prop}{w:World}{st:St}{a:Act}(s:kx N D w base st a){x:Operand}{v:Value}(h:st.ev x= .val v):a.eval x=v:=by
 have:=s.Fm x;rw[h] at this;exact ek.1 this
theorem kx.uz {N:Names}{D:Nat->Prop}{w:World}{st:St}{a:Act}(s:kx N D w base st a){x:Operand}{v:AV}(h:st.ev x=v):cw N D w v (a.eval x):=h▸s.Fm x
theorem oE {t:TypeId}{x y:Value}{b:Bool}{w:World}(h:(Op.equalIn (9999+1) t x y).run P w= .ok b w):(Op.equal t x y).run P w= .ok b w:=h
section
variable {t:TypeId}{w:World}(d:Nat)
theorem Ho (hu:P.underlying t=some .bool)(a b:Bool):(Op.equalIn (d+1) t (.bool a) (.bool b)).run P w= .ok (a==b) w:=by simp[Op.equalIn,run_underlying hu]
theorem ra {e:TypeId}(hu:P.underlying t=some (.pointer e))(b:Option Addr):(Op.equalIn (d+1) t (.pointer none) (.pointer b)).run P w= .ok b.isNone w:=by simp[Op.equalIn,run_underlying hu]
theorem zO {e:TypeId}(hu:P.underlying t=some (.pointer e))(b:Addr):(Op.equalIn (d+1) t (.pointer (some b)) (.pointer none)).run P w= .ok false w:=by simp[Op.equalIn,run_underlying hu]
theorem Hp {e:TypeId}(hu:P.underlying t=some (.slice e))(a:Option Addr)(n m n' m':Nat):(Op.equalIn (d+1) t (.slice a n m) (.slice none n' m')).run P w= .ok a.isNone w:=by cases a<;>simp[Op.equalIn,run_underlying hu]
theorem Hq {e:TypeId}(hu:P.underlying t=some (.slice e))(n m n' m':Nat):(Op.equalIn (d+1) t (.slice none n m) (.slice none n' m')).run P w= .ok true w:=by simp[Op.equalIn,run_underlying hu]
end
theorem sa {op:BinOp}{t:TypeId}{x y:Value}{b:Bool}{w:World}(vm:op= .eql\/op= .neq)(hx: ∀k n,x≠ .int k n)(hf: ∀k n,x≠ .float k n)(Z8: ∀k n m,x≠ .complex k n m)(hs: ∀s,x≠ .string s)
  (h:(Op.equal t x y).run P w= .ok b w):(Go.binOp op t x y).run P w= .ok (.bool (zN op b)) w:=by
 rcases vm with rfl|rfl<;>cases x<;>first
  |(exfalso;first|exact hx _ _ rfl|exact hf _ _ rfl|exact Z8 _ _ _ rfl|exact hs _ rfl)
  |(cases y<;>simp[Go.binOp,h,zN])
theorem pP {dst ty pos after guard}{op:BinOp}{t yT:TypeId}{x y:Operand}{st:St}{b:Bool}{k:AV->St->Option α}{r:α}(h:QK st op b k=some r)
  (he: ∀N D w a,kx N D w base st a->(op= .eql\/op= .neq)->(do eqGuard op t x y (a.eval x) (a.eval y);Go.binOp op t (a.eval x) (a.eval y):Sem Value).run P w= .ok (.bool (zN op b)) w):
  nU P base ⟨dst, .binOp op t x y yT,ty,pos,after,guard⟩ st k r:=by
 unfold QK at h;split at h
 ·refine⟨_,_,h,lx.pure λN D w a s=>⟨_,?_,ek.2 rfl⟩⟩
  have:=he N D w a s (.inl rfl);simp only[execOp];rw[zee,this];rfl
 ·refine⟨_,_,h,lx.pure λN D w a s=>⟨_,?_,ek.2 rfl⟩⟩
  have:=he N D w a s (.inr rfl);simp only[execOp];rw[zee,this];rfl
 ·cases h
theorem sx {t:TypeId}(h:yU P t=true): ∃e,P.underlying t=some (.pointer e):=by
 unfold yU at h;split at h
 ·exact⟨_,‹_›⟩
 ·cases h
theorem sb {t:TypeId}(h:m9 P t=true): ∃e,P.underlying t=some (.slice e):=by
 unfold m9 at h;split at h
 ·exact⟨_,‹_›⟩
 ·cases h
theorem Lb {s:St}{t:TypeId}{x:AV}{k:Int->Option α}{r:α}(h:I5 P s t x k=some r)(hx:(∃te xs,x= .dp te xs)\/(∃i off,x= .tail i off)\/∃i p off len,x= .slice i p off len):
  ∃n:Int,k n=some r/\∀N D w,jX N D w base s.h->∀c,cw N D w x c->∃a m cap,c= .slice a m cap/\(n≠0->a≠none):=by
 rcases hx with⟨te,xs,rfl⟩|⟨i,off,rfl⟩|⟨i,p,off,len,rfl⟩
 ·simp only[I5] at h
  split at h
  ·refine⟨_,h,λN D w S c hc=>?_⟩
   obtain⟨a,cap,h1,h2,h3,_⟩:=uJ.1 hc;simp only[zdT] at h1;refine⟨a,_,cap,h1,λhn ha=>hn ?_⟩;have:=h3 ha;simp only[aQ] at h2;omega
  ·cases h
 ·simp only[I5] at h
  split at h
  ·rename_i ro t' xs ho
   split at h
   ·refine⟨_,h,λN D w S c hc=>?_⟩
    simp only[cw,AV.isAgg,jz,aq] at hc;obtain⟨nm,h1,h2,h3,h4,h5⟩:=hc;obtain⟨mG,e1,e2,e3,e4,e5,e6⟩:=S.obj i _ ho;rw[h1] at e1;cases e1;cases hb:nm.base with
    |none=>
     rw[hb] at h5;obtain⟨h6,h7⟩:=h5;simp only[zdT] at h7;refine⟨none,0,0,h7,λhn=>absurd ?_ hn⟩;simp only[aQ] at e4;omega
    |some a=>
     rw[hb] at h5;obtain⟨u,room,h6,h7,a',cap,h8,_⟩:=h5;simp only[zdT] at h6;exact⟨_,_,_,h6.trans h8,λ_=>by simp⟩
   ·cases h
  ·cases h
 ·simp only[I5] at h
  split at h
  ·refine⟨_,h,λN D w S c hc=>?_⟩
   simp only[cw,AV.isAgg,jz,aq] at hc;obtain⟨nm,h1,hc⟩:=hc;cases hb:nm.base with
   |none=>
    rw[hb] at hc;obtain⟨_,_,h6,_,h7⟩:=hc;simp only[zdT] at h7;exact⟨none,0,0,h7,λhn=>absurd (by omega) hn⟩
   |some a=>
    rw[hb] at hc;simp only at hc;split at hc
    ·obtain⟨_,_,u,room,h6,_,_,a',cap,h8,_⟩:=hc
     simp only[zdT] at h6;exact⟨_,_,_,h6.trans h8,λ_=>by simp⟩
    ·obtain⟨_,_,_,u,room,_,_,_,h6,_,a',cap,h8,_⟩:=hc
     simp only[zdT] at h6;exact⟨_,_,_,h6.trans h8,λ_=>by simp⟩
  ·cases h
theorem OT {op:BinOp}{t:TypeId}{e:TypeId}(hu:P.underlying t=some (.slice e))(vm:op= .eql\/op= .neq)(a:Option Addr)(n c n' c':Nat)(w:World):(Go.binOp op t (.slice a n c) (.slice none n' c')).run P w= .ok (.bool (zN op a.isNone)) w:=by
 exact sa vm (by simp) (by simp) (by simp) (by simp) (oE (Hp 9999 hu a n c n' c'))
theorem yZ {dst ty pos after guard}{op:BinOp}{t yT:TypeId}{x y:Operand}{st:St}{k:AV->St->Option α}{r:α}{u:AV}{c d:Nat}(h:I6 P st op t u k=some r)(e1:st.ev x=u)(e2:st.ev y= .val (.slice none c d))
  (hu:(∃te xs,u= .dp te xs)\/(∃i off,u= .tail i off)\/∃i p off len,u= .slice i p off len):
  nU P base ⟨dst, .binOp op t x y yT,ty,pos,after,guard⟩ st k r:=by
 unfold I6 at h;split at h
 ·cases h
 rename_i hs;obtain⟨e,hue⟩:=sb hs;obtain⟨n,h,hlen⟩:=Lb (base:=base) h hu;have run: ∀N D w act,kx N D w base st act->(op= .eql\/op= .neq)->∃a m cap,act.eval x= .slice a m cap/\(n≠0->a≠none)/\(do eqGuard op t x y (act.eval x) (act.eval y);Go.binOp op t (act.eval x) (act.eval y):Sem Value).run P w= .ok (.bool (zN op a.isNone)) w:=by
  intro N D w act s vm;obtain⟨a,m,cap,h1,h2⟩:=hlen N D w s.nw _ (s.uz e1);refine⟨a,m,cap,h1,h2,?_⟩;rw[h1,s.sS e2];simp only[eqGuard_at_slice,zee,zeg,zef];exact OT hue vm a m cap c d w
 split at h
 ·have key: ∀vm:(op= .eql\/op= .neq),k .xm st=some r->nU P base ⟨dst, .binOp op t x y yT,ty,pos,after,guard⟩ st k r:=by
   intro vm h;refine⟨_,_,h,lx.pure λN D w act s=>?_⟩;obtain⟨a,m,cap,_,_,h3⟩:=run N D w act s vm;refine⟨.bool (zN op a.isNone),?_,by unfold cw;simp only[AV.isAgg,jz,aq];exact⟨_,rfl⟩⟩
   simp only[execOp];rw[zee,h3];rfl
  split at h
  ·exact key (.inl rfl) h
  ·exact key (.inr rfl) h
  ·cases h
 ·rename_i hn
  refine pP h λN D w act s vm=>?_;obtain⟨a,m,cap,_,h2,h3⟩:=run N D w act s vm;have ha:a≠none:=h2 λe=>by rw[kR.2 e] at hn;cases hn
  cases a with
  |none=>exact absurd rfl ha
  |some a=>exact h3
theorem Hr {N:Names}{D:Nat->Prop}{w:World}{g n c:Nat}{v:Value}(h:cw N D w (.rf g n c) v):(n=0/\v= .pointer none)\/(n≠0/\∃a,v= .pointer (some a)):=by
 unfold cw at h;simp only[AV.isAgg,jz,aq,xv] at h;cases n with
 |zero=>simp only[zdT] at h;exact .inl ⟨rfl,h⟩
 |succ k=>
  obtain⟨_,_,_,_,_,h⟩:=h;simp only[zdT] at h;exact .inr ⟨by simp,_,h⟩
theorem No {p:Prop}(h: ¬p):aa p=false:=by
 cases e:aa p with
 |false=>rfl
 |true=>exact absurd (kR.1 e) h
theorem Rg {dst ty pos after guard}{op:BinOp}{t yT:TypeId}{x y:Operand}{st:St}{k:AV->St->Option α}{r:α}(h:QY P st op t (st.ev x) (st.ev y) k=some r)
  (zb0: ∀b,UB P t (st.ev x) (st.ev y)=some b->∀N D w a,kx N D w base st a->(op= .eql\/op= .neq)->(do eqGuard op t x y (a.eval x) (a.eval y);Go.binOp op t (a.eval x) (a.eval y):Sem Value).run P w= .ok (.bool (zN op b)) w):
  nU P base ⟨dst, .binOp op t x y yT,ty,pos,after,guard⟩ st k r:=by
 unfold QY at h;split at h
 ·rename_i ka a kb b e1 e2
  exact Rc e1 e2 h
 ·rename_i a b e1 e2
  split at h
  ·rename_i hu
   refine pP h λN D w act s vm=>?_;rw[s.sS e1,s.sS e2];simp only[eqGuard_at_bool,zee,zeg,zef];exact sa vm (by simp) (by simp) (by simp) (by simp) (oE (Ho 9999 hu a b))
  ·cases h
 ·rename_i a b e1 e2
  refine pP h λN D w act s vm=>?_;rw[s.sS e1,s.sS e2];simp only[eqGuard_at_string,zee,zeg,zef];rcases vm with rfl|rfl<;>simp[Go.binOp,Op.stringOp,I4,zN]
 ·rename_i e1 e2
  split at h
  ·rename_i hp
   obtain⟨e,hu⟩:=sx hp;refine pP h λN D w act s vm=>?_;rw[s.sS e1,s.sS e2];simp only[eqGuard_at_pointer,zee,zeg,zef];exact sa vm (by simp) (by simp) (by simp) (by simp) (oE (ra 9999 hu none))
  ·cases h
 ·rename_i e1 e2
  split at h
  ·rename_i hp
   obtain⟨e,hu⟩:=sb hp;refine pP h λN D w act s vm=>?_;rw[s.sS e1,s.sS e2];simp only[eqGuard_at_slice,zee,zeg,zef];exact sa vm (by simp) (by simp) (by simp) (by simp) (oE (Hq 9999 hu _ _ _ _))
  ·cases h
 ·rename_i id p e1 e2
  split at h
  ·rename_i hp
   obtain⟨e,hu⟩:=sx hp;refine pP h λN D w act s vm=>?_;obtain⟨nm,a,o,_,_,_,e3⟩:=ju.1 (s.uz e1);rw[e3,s.sS e2];simp only[eqGuard_at_pointer,zee,zeg,zef];exact sa vm (by simp) (by simp) (by simp) (by simp) (oE (zO 9999 hu _))
  ·cases h
 ·rename_i id p e1 e2
  split at h
  ·rename_i hp
   obtain⟨e,hu⟩:=sx hp;refine pP h λN D w act s vm=>?_;obtain⟨nm,a,o,_,_,_,e3⟩:=ju.1 (s.uz e2);rw[e3,s.sS e1];simp only[eqGuard_at_pointer,zee,zeg,zef];exact sa vm (by simp) (by simp) (by simp) (by simp) (oE (ra 9999 hu (some _)))
  ·cases h
 ·rename_i g n c e1 e2
  split at h
  ·rename_i hp
   obtain⟨e,hu⟩:=sx hp;refine pP h λN D w act s vm=>?_;rcases Hr (s.uz e1) with⟨hn,e3⟩|⟨hn,ad,e3⟩
   ·rw[e3,s.sS e2,kR.2 hn]
    simp only[eqGuard_at_pointer,zee,zeg,zef];exact sa vm (by simp) (by simp) (by simp) (by simp) (oE (ra 9999 hu none))
   ·rw[e3,s.sS e2,No hn]
    simp only[eqGuard_at_pointer,zee,zeg,zef];exact sa vm (by simp) (by simp) (by simp) (by simp) (oE (zO 9999 hu _))
  ·cases h
 ·rename_i g n c e1 e2
  split at h
  ·rename_i hp
   obtain⟨e,hu⟩:=sx hp;refine pP h λN D w act s vm=>?_;rcases Hr (s.uz e2) with⟨hn,e3⟩|⟨hn,ad,e3⟩
   ·rw[e3,s.sS e1,kR.2 hn]
    simp only[eqGuard_at_pointer,zee,zeg,zef];exact sa vm (by simp) (by simp) (by simp) (by simp) (oE (ra 9999 hu none))
   ·rw[e3,s.sS e1,No hn]
    simp only[eqGuard_at_pointer,zee,zeg,zef];exact sa vm (by simp) (by simp) (by simp) (by simp) (oE (ra 9999 hu (some _)))
  ·cases h
 ·rename_i te xs c d e1 e2
  exact yZ h e1 e2 (.inl ⟨_,_,rfl⟩)
 ·rename_i i off c d e1 e2
  exact yZ h e1 e2 (.inr (.inl ⟨_,_,rfl⟩))
 ·rename_i i p off len c d e1 e2
  exact yZ h e1 e2 (.inr (.inr ⟨_,_,_,_,rfl⟩))
 ·split at h
  ·rename_i b hb
   exact pP h λN D w act s vm=>zb0 b hb N D w act s vm
  ·cases h
theorem yI {t:TypeId}{f off:Nat}(h:xn P t f=some off): ∃fs fd,P.underlying t=some (.struct fs)/\fs[f]?=some fd/\P.cellsOf fd.type≠0/\fd.offset=off:=by
 unfold xn at h;split at h
 ·rename_i fs hu
  split at h
  ·rename_i fd hf
   split at h
   ·cases h
   ·exact⟨fs,fd,hu,hf,‹_›,Option.some.inj h⟩
  ·cases h
 ·cases h
theorem Fs {t:TypeId}(h:P.cellsOf t≠0): ∃i,P.info? t=some i:=by
 unfold Program.cellsOf at h;cases e:P.info? t with
 |none=>simp[e] at h
 |some i=>exact⟨i,rfl⟩
theorem xD {t:TypeId}{f off:Nat}(h:xn P t f=some off){a:Addr}(ha:a.spot=none)(w:World):(Instr.fieldAt t (.pointer (some a)) f).run P w= .ok (.pointer (some (Addr.at_ a off))) w:=by
 obtain⟨fs,fd,hu,hf,hc,ho⟩:=yI h;obtain⟨i,hi⟩:=Fs hc;obtain⟨b,o,sp⟩:=a;simp only at ha;subst ha;simp only[Instr.fieldAt,zee,run_underlying hu,zef,hf,Instr.sureAddr,zeg,fieldPlace,run_sizeOf w hi,hc,if_false,ow,ho,Addr.at_]
theorem nP {s:St}{id:Nat}{p:List Step}{sh:Sh}(h:s.shape id p=some sh){N:Names}{D:Nat->Prop}{w:World}{base:Nat}(S:jX N D w base s.h){nm:Nm}(hn:N id=some nm):nm.KF p=some sh:=by
 unfold St.shape at h;split at h
 ·rename_i v ho
  obtain⟨mG,a,h1,h2,h3,h4,_⟩:=S.obj id _ ho;rw[hn] at h1;cases h1;unfold Nm.KF;rw[h3,h4];exact h
 ·rename_i ro t xs ho
  obtain⟨mG,h1,h2,h3,_⟩:=S.obj id _ ho;rw[hn] at h1;cases h1;unfold Nm.KF;rw[h2,h3];simp only[if_true];split at h
  ·exact h
  ·cases h
 ·cases h
theorem rb: ∀(p:List Step) (s:Sh) (o:Nat) (l:List Sh) (n:Nat),fG p s=some o->zC p s=some (.agg l)->n<l.length->fG (p++ [.ir n]) s=some (o+Sh.dX (l.take n))
 | [],s,o,l,n,h1,h2,h3=>by
  simp only[fG,zC,zdT] at h1 h2;subst h1;subst h2;simp[fG,zdS h3]
 | .ir m::p,s,o,l,n,h1,h2,h3=>by
  cases s<;>simp only[fG,zC] at h1 h2<;>try (cases h1;done)
  rename_i l';cases hl:l'[m]? with
  |none=>simp[hl] at h1
  |some y=>
   simp only[hl] at h1 h2;cases h5:fG p y with
   |none=>simp[h5] at h1
   |some o2=>
    simp only[h5,zd2,zdT] at h1;have:=rb p y o2 l n h5 h2 h3;simp only[zes,fG,hl,this,zd2];congr 1;omega
 | .idx i::p,s,o,l,n,h1,h2,h3=>by
  cases s<;>simp only[fG,zC] at h1 h2<;>try (cases h1;done)
  rename_i m e;by_cases hi:i<m
  ·simp only[hi,if_true] at h1
   cases h5:fG p e with
   |none=>simp[h5] at h1
   |some o2=>
    simp only[h5,zd2,zdT] at h1;have:=rb p e o2 l n h5 h2 h3;simp only[zes,fG,hi,if_true,this,zd2];congr 1;omega
  ·simp only[hi,if_false] at h1;cases h1
theorem re: ∀(p:List Step) (s:Sh) (o:Nat) (m i:Nat) (e:Sh),fG p s=some o->zC p s=some (.arr m e)->i<m->fG (p++ [.idx i]) s=some (o+i*e.size)
 | [],s,o,m,i,e,h1,h2,h3=>by
  simp only[fG,zC,zdT] at h1 h2;subst h1;subst h2;simp[fG,h3]
 | .ir k::p,s,o,m,i,e,h1,h2,h3=>by
  cases s<;>simp only[fG,zC] at h1 h2<;>try (cases h1;done)
  rename_i l';cases hl:l'[k]? with
  |none=>simp[hl] at h1
  |some y=>
   simp only[hl] at h1 h2;cases h5:fG p y with
   |none=>simp[h5] at h1
   |some o2=>
    simp only[h5,zd2,zdT] at h1;have:=re p y o2 m i e h5 h2 h3;simp only[zes,fG,hl,this,zd2];congr 1;omega
 | .idx j::p,s,o,m,i,e,h1,h2,h3=>by
  cases s<;>simp only[fG,zC] at h1 h2<;>try (cases h1;done)
  rename_i m' e';by_cases hi:j<m'
  ·simp only[hi,if_true] at h1
   cases h5:fG p e' with
   |none=>simp[h5] at h1
   |some o2=>
    simp only[h5,zd2,zdT] at h1;have:=re p e' o2 m i e h5 h2 h3;simp only[zes,fG,hi,if_true,this,zd2];congr 1;omega
  ·simp only[hi,if_false] at h1;cases h1
theorem tp {nm:Nm}{p:List Step}{o:Nat}{l:List Sh}{n:Nat}(h1:nm.off p=some o)(h2:nm.KF p=some (.agg l))(h3:n<l.length):
  nm.off (p++ [.ir n])=some (o+Sh.dX (l.take n)):=by
 cases hr:nm.row with
 |false=>
  simp only[Nm.KF,hr] at h2;have e: ∀p,nm.off p=fG p nm.sh:=by intro p;unfold Nm.off;split<;>simp[hr]
  rw[e] at h1⊢;exact rb p _ o l n h1 h2 h3
 |true=>
  simp only[Nm.KF,hr,if_true] at h2;split at h2
  ·rename_i i p'
   simp only[Nm.off,hr,if_true,zes] at h1⊢;by_cases hi:i<nm.len
   ·simp only[hi,if_true] at h1⊢
    cases h5:fG p' nm.sh with
    |none=>simp[h5] at h1
    |some o2=>
     simp only[h5,zd2,zdT] at h1;rw[rb p' _ o2 l n h5 h2 h3];simp only[zd2];congr 1;omega
   ·simp only[hi,if_false] at h1;cases h1
  ·cases h2
theorem DB {dst ty pos after guard}{t:TypeId}{x:Operand}{f:Nat}{st:St}{k:AV->St->Option α}{r:α}(h:xp P st t (st.ev x) f k=some r):nU P base ⟨dst, .fieldAddr t x f,ty,pos,after,guard⟩ st k r:=by
 unfold xp at h;split at h
 ·rename_i i p off e1 e2
  split at h
  ·refine⟨_,_,h,lx.pure λN D w a s=>?_⟩
   obtain⟨nm,ad,o,h1,h2,h3,h4⟩:=ju.1 (s.uz e1);refine⟨.pointer (some (Addr.at_ (Addr.at_ ad o) off)),by simp only[execOp,h4,zee,xD (a:=Addr.at_ ad o) e2 rfl,zef,zeg],?_⟩
   unfold cw;simp only[AV.isAgg,jz,aq];exact⟨nm,ad,o,h1,h2,h3,by simp only[Addr.at_,zd8]⟩
  ·split at h
   ·rename_i fs hs
    split at h
    ·rename_i hd
     simp only[zd1] at hd;refine⟨_,_,h,lx.pure λN D w a s=>?_⟩;obtain⟨nm,ad,o,h1,h2,h3,h4⟩:=ju.1 (s.uz e1);have yz:=nP hs s.nw h1;refine⟨.pointer (some (Addr.at_ (Addr.at_ ad o) off)),by simp only[execOp,h4,zee,xD (a:=Addr.at_ ad o) e2 rfl,zef,zeg],ju.2 ⟨nm,ad,_,h1,h2,tp h3 yz hd.2,?_⟩⟩
     simp only[Addr.at_,hd.1,zd8]
    ·cases h
   ·cases h
 ·rename_i fs off e1 e2
  split at h
  ·rename_i hd
   simp only[zd1] at hd;split at h
   ·rename_i v hv
    refine⟨_,_,h,lx.pure λN D w a s=>?_⟩;obtain⟨ad,h1,h2,h3,h4⟩:=qC.1 (s.uz e1);refine⟨.pointer (some (Addr.at_ ad off)),by simp only[execOp,h1,zee,xD e2 h2,zef,zeg],qC.2 ⟨_,rfl,rfl,h3,?_⟩⟩
    simp only[aq] at h4;refine mA (qA fs f v _ hv h4) (λj=>?_);simp only[aZ,Addr.at_,hd,zd8]
   ·cases h
  ·cases h
 ·cases h
theorem OU {dst ty pos after guard}{t:TypeId}{x:Operand}{st:St}{k:AV->St->Option α}{r:α}(h:KU P st t (st.ev x) k=some r):nU P base ⟨dst, .load t x,ty,pos,after,guard⟩ st k r:=by
 unfold KU at h;split at h
 ·rename_i i p e1
  obtain⟨v,h1,_,h3⟩:=pB h;split at h1
  ·rename_i hf
   refine⟨_,_,h1,lx.pure λN D w a s=>?_⟩;obtain⟨nm,ad,o,g1,g2,g3,g4⟩:=ju.1 (s.uz e1);obtain⟨g5,g6,_⟩:=h3 N D w base s.nw nm ad o g1 g2 g3;obtain⟨c,g7,g8⟩:=Dy (P:=P) (ad:=Addr.at_ ad o) rfl hf (mA g6 (λj=>by simp only[aZ,Addr.at_,zd8]))
   exact⟨c,by simp only[execOp,g4,zee,g7,zef,zeg],g8⟩
  ·cases h1
 ·rename_i v e1
  split at h
  ·rename_i hf
   refine⟨_,_,h,lx.pure λN D w a s=>?_⟩;obtain⟨ad,h1,h2,h3,h4⟩:=qC.1 (s.uz e1);obtain⟨c,g7,g8⟩:=Dy (P:=P) h2 hf h4;exact⟨c,by simp only[execOp,h1,zee,g7,zef,zeg],g8⟩
  ·cases h
 ·cases h
end AM
namespace AM
open Go
variable {α:Type}{P:Program}{base:Nat}
theorem jF (b:Nat): ∀(vs:List Value) (o:Nat) (w:World),(w.setCells b o vs).heap.size=w.heap.size
 | [],_,_=>rfl
 |v::r,o,w=>by rw[World.setCells,jF b r];simp[World.setCell]
theorem kD (b:Nat): ∀(vs:List Value) (o:Nat) (w:World) (b':Nat),b'≠b->(w.setCells b o vs).heap[b']?=w.heap[b']?
 | [],_,_,_,_=>rfl
 |v::r,o,w,b',h=>by
  rw[World.setCells,kD b r _ _ b' h];simp only[World.setCell,zet];rw[if_neg (by simpa using Ne.symm h)]
theorem kX (b:Nat): ∀(vs:List Value) (o:Nat) (w:World),(w.setCells b o vs).os=w.os/\(w.setCells b o vs).tape=w.tape/\(w.setCells b o vs).output=w.output
 | [],_,_=>⟨rfl,rfl,rfl⟩
 |v::r,o,w=>by
  obtain⟨h1,h2,h3⟩:=kX b r (o+1) (w.setCell ⟨b,o,none⟩ v);exact⟨by rw[World.setCells,h1];rfl,by rw[World.setCells,h2];rfl,by rw[World.setCells,h3];rfl⟩
theorem jg (b:Nat): ∀(vs:List Value) (o:Nat) (w:World) (c:Array Value) (ty:TypeId) (fz:Nat×Nat),w.heap[b]?=some (.cells c ty fz)->∃c',(w.setCells b o vs).heap[b]?=some (.cells c' ty fz)/\c'.size=c.size
 | [],_,_,c,ty,fz,h=>⟨c,h,rfl⟩
 |v::r,o,w,c,ty,fz,h=>by
  have h1:(w.setCell ⟨b,o,none⟩ v).heap[b]?=some (.cells (c.setIfInBounds o v) ty fz):=by
   simp[World.setCell,zet,h]
  obtain⟨c',h2,h3⟩:=jg b r (o+1) _ _ ty fz h1;exact⟨c',h2,by rw[h3];simp⟩
theorem iZ {w:World}{b o:Nat}{c:Array Value}{ty:TypeId}{fz:Nat×Nat}(h:w.heap[b]?=some (.cells c ty fz))(ho:o<c.size):(w.cell? ⟨b,o,none⟩).isSome=true:=by
 simp[World.cell?,h,ho]
theorem wb {w:World}{b o:Nat}{c:Array Value}{ty:TypeId}{fz:Nat×Nat}(h:w.heap[b]?=some (.cells c ty fz))(hz:fz=(0,0)\/c.size<=fz.1)(ho:o<c.size):w.frozen? ⟨b,o,none⟩=false:=by
 obtain⟨lo,hi⟩:=fz;simp only[World.frozen?,h];rcases hz with hz|hz
 ·cases hz;simp
 ·simp only at hz
  have: ¬lo<=o:=by omega
  simp[this]
theorem tU {N:Names}{D:Nat->Prop}{w:World}{u:AV}{c:Value}(hs:u.nv=true)(h:cw N D w u c):c.cells.size=u.size/\aq N D w u (c.cells[·]?)/\∀x∈c.cells.toList,x.oneCell'=true:=by
 unfold cw at h;cases Fb:u.isAgg with
 |true=>
  rw[Fb] at h;obtain⟨cs,rfl,h2,h3⟩:=h;refine⟨h2,h3,λx hx=>?_⟩;change x∈cs.toList at hx;obtain⟨j,hj,rfl⟩:=zeu hx;have BU:j<cs.size:=by simpa using hj
  obtain⟨y,h4,h5⟩:=sw u _ hs h3 j (by omega)
  simp only[zev BU,zdT] at h4;subst h4;simpa using h5
 |false=>
  rw[Fb] at h;have hsz:=qY hs Fb;obtain⟨y,h4,h5⟩:=sw u _ hs h 0 (by omega)
  simp only[zdT] at h4;subst h4;have hc:c.cells= #[c]:=by cases c<;>first|rfl|(simp[Value.oneCell'] at h5;done)
  rw[hc];refine⟨by simp[hsz],jR u _ _ (λj hj=>?_) h,λx hx=>by simp at hx;subst hx;exact h5⟩
  obtain rfl:j=0:=by omega
  simp
theorem Jd {t:TypeId}{u:AV}{ad:Addr}{c:Value}{w:World}{N:Names}{D:Nat->Prop}(ha:ad.spot=none)(hf:su P t u=true)(hv:cw N D w u c){cs:Array Value}{ty:TypeId}{fz:Nat×Nat}(hb:w.heap[ad.block]?=some (.cells cs ty fz))(hz:fz=(0,0)\/cs.size<=fz.1)(hsz:ad.off+u.size<=cs.size):
  (Instr.storeAt t (.pointer (some ad)) c).run P w= .ok () (w.setCells ad.block ad.off c.cells.toList):=by
 obtain⟨hs,_,h2,d,hd⟩:=rQ hf;obtain⟨i,hi⟩:=info_of_underlying hd;obtain⟨h3,_,h5⟩:=tU hs hv;obtain⟨b,o,sp⟩:=ad;simp only at ha;subst ha;simp only[Instr.storeAt,Instr.sureAddr,zee,zeg,zef,storeVar,run_sizeOf w hi];rw[if_neg (by rw[h3,h2];simp)]
 have:=run_storeCells_cells (P:=P) b o c.cells.toList 0 w (λj hj=>by
   refine iZ hb ?_;simp at hj;simp only at hsz;omega) (λj hj=>wb hb hz (by simp at hj;simp only at hsz;omega)) h5
 simpa using this
theorem xE {s:St}{id:Nat}{p:List Step}{u:AV}{k:St->Option α}{r:α}(h:s.store id p u k=some r)(zad:u.nv=true):
  ∃s',k s'=some r/\s'.t=s.t/\s'.nt=s.nt/\s'.ep=s.ep/\(∀j,j≠id->j∉u.ids->s'.h j=s.h j)/\∀N D w base,jX N D w base s.h->∀nm a o c,N id=some nm->nm.base=some a->nm.off p=some o->cw N D w u c->
   a.spot=none/\(∃cs ty fz,w.heap[a.block]?=some (.cells cs ty fz)/\(fz=(0,0)\/cs.size<=fz.1)/\a.off+o+u.size<=cs.size)/\
   ∃D',jX N D' (w.setCells a.block (a.off+o) c.cells.toList) base s'.h/\Ext N D w s.h N D' (w.setCells a.block (a.off+o) c.cells.toList) s'.h:=by
 unfold St.store at h;split at h
 ·rename_i v ho
  obtain⟨v',h1,h2,h3,h4⟩:=v7 p u v _ r h;refine⟨_,h1,rfl,rfl,rfl,λj hj _=>by simp[St.set,hj],λN D w base S nm a o c hn hb nV hc=>?_⟩
  obtain⟨mG,a',e1,e2,e3,e4,e5,e6,e7,e8,⟨cs,ty,e9,yj⟩,Np⟩:=S.obj id _ ho;rw[hn] at e1;cases e1;rw[hb] at e2;cases e2;have hof:fG p v.sh=some o:=by
   have:nm.off p=fG p nm.sh:=by unfold Nm.off;split<;>simp[e3]
   rw[this,e4] at nV;exact nV
  have yk:=zM p v.sh o u.sh hof h3;rw[kT,kT] at yk;obtain⟨g1,g2,g3⟩:=tU zad hc;have hlen:c.cells.toList.length=u.size:=by simpa using g1
  refine⟨e5,⟨cs,ty,_,e9, .inl rfl,by omega⟩,D,?_⟩
  obtain⟨tG,f1,f2⟩:=jg a.block c.cells.toList (a.off+o) w cs ty _ e9;obtain⟨o1,o2,o3⟩:=kX a.block c.cells.toList (a.off+o) w;have hD: ∀b,D b->(w.setCells a.block (a.off+o) c.cells.toList).heap[b]?=w.heap[b]?:=λb vl=>kD _ _ _ _ _ (λe=>e8 (e▸vl));rw[St.tf];refine S.write ho rfl hn hb o1 o2 o3 (jF _ _ _ _) (λb lV=>kD _ _ _ _ _ lV) ?_;refine⟨nm,a,hn,hb,e3,by rw[e4,h2],e5,e6,e7,e8,⟨tG,ty,f1,by rw[f2,yj,<-kT,<-kT,h2]⟩,?_⟩
  refine qo (Names.le_refl _) (λ_ h=>h) hD v' _ ?_;refine h4 N D w base S (aZ w a) _ o Np hof (λj hj=>?_) ?_
  ·simp only[aZ]
   exact World.cell?_setCells_out _ _ _ _ _ (λ_ _=>by simp only;rw[hlen];omega)
  ·refine jR u _ _ (λj hj=>?_) g2
   have BU:j<c.cells.toList.length:=by omega
   have:=World.cell?_setCells_in a.block c.cells.toList (a.off+o) w (λj hj=>iZ e9 (by rw[hlen] at hj;omega)) j BU
   simp only[aZ];rw[show a.off+(o+j)=a.off+o+j by omega,this]
   simp at BU⊢
 ·rename_i t xs ho
  split at h
  ·rename_i i p'
   split at h
   ·rename_i x hx
    obtain⟨v',h1,h2,h3,h4⟩:=v7 p' u (enc t x) _ r h;obtain⟨_,x',ids,h5,h6⟩:=mJ t v' _ r h1;split at h5
    ·cases h5
    rename_i WV;split at h5
    ·rename_i s1 hfz
     obtain⟨z1,z2,z3,z4⟩:=wa ids s s1 hfz;simp only[Bool.or_eq_false_iff,Bool.not_eq_eq_eq_not,zdR,zew,List.contains_iff_mem] at WV;obtain⟨WV,zP⟩:=WV;have yA: ∀(ids:List Nat) (s s1:St),s.freeze ids=some s1->∀j,j∉ids->s1.h j=s.h j:=by
      intro ids;induction ids with
      |nil=>intro s s1 hz j _;simp only[St.freeze,zdT] at hz;subst hz;rfl
      |cons q l ih=>
       intro s s1 hz j hj;simp only[zex,not_or] at hj;simp only[St.freeze] at hz;split at hz
       ·rw[ih _ s1 hz j hj.2];simp[St.set,hj.1]
       ·cases hz
     refine⟨_,h5,z1,z2,z3,λj hj XU=>by
      have:=yA ids s s1 hfz j (λhm=>XU (zP j hm));simp[St.set,hj,this],λN D w base S nm a o c hn hb nV hc=>?_⟩
     obtain⟨mG,e1,e2,e3,e4,e5,e6⟩:=S.obj id _ ho;rw[hn] at e1;cases e1;rw[hb] at e6;obtain⟨e7,⟨cs,ty,fz,e8,e9,yj⟩,Np,Nq⟩:=e6;replace yj:=yj rfl
     simp only[zdU,if_false] at Np;simp only[Nm.off,e2,if_true] at nV;by_cases hi:i<nm.len
     ·simp only[hi,if_true] at nV
      cases mW:fG p' nm.sh with
      |none=>simp[mW] at nV
      |some o'=>
       simp only[mW,zd2,zdT] at nV;rw[e3,iL] at nV;subst nV;have zb1:fG p' (enc t x).sh=some o':=by rw[rO,<-e3];exact mW
       have yk:=zM p' (sr t) o' u.sh (by rw[<-e3];exact mW) (by rw[<-rO t x];exact h3)
       rw[kT,iL] at yk;have Ft:(i+1)*t.size<=nm.cap*t.size:=zd6 _ (by omega)
       rw[zd7] at Ft;obtain⟨g1,g2,g3⟩:=tU zad hc;have hlen:c.cells.toList.length=u.size:=by simpa using g1
       refine⟨e7,⟨cs,ty,fz,e8,yj.imp_right And.left,by omega⟩,?_⟩
       generalize UF:w.setCells a.block (a.off+(i*t.size+o')) c.cells.toList=w';obtain⟨tG,f1,f2⟩:=jg a.block c.cells.toList (a.off+(i*t.size+o')) w cs ty _ e8;obtain⟨o1,o2,o3⟩:=kX a.block c.cells.toList (a.off+(i*t.size+o')) w;have Ue:=jF a.block c.cells.toList (a.off+(i*t.size+o')) w;have one:=kD a.block c.cells.toList (a.off+(i*t.size+o')) w;have jv: ∀j,(j<i*t.size+o'\/i*t.size+o'+u.size<=j)->aZ w' a j=aZ w a j:=by
        intro j hj;simp only[aZ,<-UF];exact World.cell?_setCells_out _ _ _ _ _ (λ_ _=>by simp only;rw[hlen];omega)
       have A4:aq N D w u (λj=>aZ w' a (i*t.size+o'+j)):=by
        refine jR u _ _ (λj hj=>?_) g2;have BU:j<c.cells.toList.length:=by omega
        have:=World.cell?_setCells_in a.block c.cells.toList (a.off+(i*t.size+o')) w (λj hj=>iZ e8 (by rw[hlen] at hj;omega)) j BU
        simp only[aZ,<-UF];rw[show a.off+(i*t.size+o'+j)=a.off+(i*t.size+o')+j by omega,this]
        simp at BU⊢
       rw[UF] at f1 o1 o2 o3 Ue one;obtain⟨D',d1,d2,d3,d4⟩:=z4 N D w base S;have XV:=h4 N D w base S (λj=>aZ w a (i*t.size+j)) (λj=>aZ w' a (i*t.size+j)) o' ((kO t x _).2 (Nq i x hx)) zb1 (λj hj=>jv _ (by omega)) (mA A4 (λj=>by rw[zd8]))
       have BS:=h6 N D w base S _ XV D' d1 d2;have ho1:s1.h id=some (.row false t xs):=by
        rw[yA ids s s1 hfz id (by simpa using WV)];exact ho
       have WW:True:=trivial;refine⟨D',?_⟩;have hnd: ¬D' a.block:=(d3.tT ⟨id,_,ho1,iR.of rfl hn hb⟩).1;have hDw: ∀b,D' b->w'.heap[b]?=w.heap[b]?:=λb vl=>one b (λe=>hnd (e▸vl));rw[St.tf];have:=d3.write (o':= .row false t (xs.set i x')) ho1 rfl hn hb o1 o2 o3 Ue (λb lV=>one b lV) ?_
       ·exact⟨this.1,d4.trans this.2⟩
       ·refine⟨nm,hn,e2,e3,by rw[e4];simp[aQ],e5,?_⟩
        rw[hb];refine⟨e7,⟨tG,ty,_,f1,by rw[f2];exact e9,λ_=>by rw[f2];exact yj⟩,by simp;exact⟨Np.1,hnd⟩,λi' y hy=>?_⟩
        by_cases Uc:i=i'
        ·subst Uc
         have kW:i<(show List t.den from xs).length:=(List.getElem?_eq_some_iff.1 hx).1
         simp only[jW,List.getElem?_set_self kW,zdT] at hy;subst hy;exact kC (Names.le_refl _) (λ_ h=>h) hDw _ _ _ BS
        ·simp only[jW,zer Uc] at hy
         refine kC (Names.le_refl _) (λ_ h=>h) hDw _ _ _ (jm t y _ _ (λj hj=>(jv _ ?_).symm) (kC (Names.le_refl _) d1 (λ_ _=>rfl) _ _ _ (Nq i' y hy)));rcases Nat.lt_or_gt_of_ne Uc with kW|kW
         ·right
          have:(i+1)*t.size<=i'*t.size:=zd6 _ kW;rw[zd7] at this;omega
         ·left
          have:(i'+1)*t.size<=i*t.size:=zd6 _ kW;rw[zd7] at this;omega
     ·simp only[hi,if_false] at nV;cases nV
    ·cases h5
   ·cases h
  ·cases h
 ·cases h
end AM
namespace AM
open Go
variable {α:Type}{P:Program}{base:Nat}
theorem Lc {dst ty pos after guard}{t:TypeId}{x y:Operand}{st:St}{k:AV->St->Option α}{r:α}(h:G9 P st t (st.ev x) (st.ev y) k=some r):nU P base ⟨dst, .store t x y,ty,pos,after,guard⟩ st k r:=by
 unfold G9 at h;split at h
 ·rename_i i p e1
  split at h
  ·rename_i hf
   obtain⟨s',h1,h2,h3,h4,IS,h5⟩:=xE h (rQ hf).1;have h1:k (.val Go.undef) s'=some r:=by
    split at h1
    ·exact h1
    ·cases h1
   refine⟨_,_,h1,h2,h3,h4,λj hj _=>IS j (λe=>hj (by simp[KW,e1,uG,e])) (λe=>hj (by simp[KW,e])),λN D w a s=>?_⟩
   obtain⟨nm,ad,o,g1,g2,g3,g4⟩:=ju.1 (s.uz e1);have hv:=s.Fm y;obtain⟨g5,⟨cs,Ld,fz,g6,g6z,g7⟩,D',g8,g9⟩:=h5 N D w base s.nw nm ad o _ g1 g2 g3 hv;have e5:=Jd (P:=P) (ad:=Addr.at_ ad o) rfl hf hv g6 g6z (by simpa [Addr.at_] using g7)
   refine⟨N,D',_,Go.undef, .inr ⟨?_,rfl⟩,g9,g8,ek.2 rfl⟩;simp only[execOp,g4];rw[zee,e5];rfl
  ·cases h
 ·cases h
theorem Hs {s:St}{id:Nat}{v:AV}{k:St->Option α}{r:α}(h:s.new id (.var v) k=some r):
  ∃s',k s'=some r/\s'.t=s.t/\s'.nt=s.nt/\s'.ep=s.ep/\(∀j,j≠id->s'.h j=s.h j)/\∀N D w base,jX N D w base s.h->∀(cells:Array Value) (ty:TypeId),cells.size=v.size->aq N D w v (cells[·]?)->
   ∃N',jX N' D (w.alloc (.cells cells ty)) base s'.h/\Ext N D w s.h N' D (w.alloc (.cells cells ty)) s'.h/\cw N' D (w.alloc (.cells cells ty)) (.ptr id []) (.pointer (some ⟨w.heap.size,0,none⟩)):=by
 unfold St.new at h;split at h
 ·rename_i gX
  refine⟨_,h,rfl,rfl,rfl,λj hj=>by simp[St.set,hj],λN D w base S cells ty hsz hr=>?_⟩
  have vw:(w.alloc (.cells cells ty)).heap=w.heap.push (.cells cells ty):=rfl;have qZ:(w.alloc (.cells cells ty)).heap[w.heap.size]?=some (.cells cells ty (0,0)):=by rw[vw];simp
  have mK: ∀b,b<w.heap.size->(w.alloc (.cells cells ty)).heap[b]?=w.heap[b]?:=λb hb=>by rw[vw,zey,if_neg (by omega)]
  let nm:Nm:=⟨some ⟨w.heap.size,0,none⟩,v.sh,false,0,0⟩
  have XS:N id=none:=by
   cases e:N id with
   |none=>rfl
   |some mG=>exact absurd gX (S.named id mG e)
  obtain⟨N',n1,n2,n3⟩:=S.make (w':=w.alloc (.cells cells ty)) (o:= .var v) (nm:=nm) gX rfl rfl rfl (by rw[vw];simp) mK (λa ha=>by cases ha;rw[vw];simp) (by
   refine⟨nm,⟨w.heap.size,0,none⟩,Names.BT,rfl,rfl,rfl,rfl,rfl,S.size,λhd=>Nat.lt_irrefl _ (S.frozen _ hd),⟨cells,ty,qZ,hsz⟩,?_⟩;refine qo (Names.Rf XS) (λ_ h=>h) (λb hb=>mK b (S.frozen b hb)) v _ (jR v _ _ (λj hj=>?_) hr)
   ·unfold aZ World.cell?
    rw[qZ];simp)
  refine⟨N',by rw[St.tf];exact n2,by rw[St.tf];exact n3,ju.2 ⟨nm,_,0,n1,rfl,by simp[Nm.off,nm,fG],rfl⟩⟩
 ·cases h
theorem rh (ep slot:Nat):name ep slot 0/100=ep*1000+slot:=by
 unfold name;omega
theorem Rh {dst ty pos after guard}{t:TypeId}{x:Operand}{st:St}{id:Nat}(pJ:id=name st.ep (dst.getD 999) 0){k:AV->St->Option α}{r:α}(h:QZ st id (st.ev x) k=some r):nU P base ⟨dst, .box t x,ty,pos,after,guard⟩ st k r:=by
 unfold QZ at h;split at h
 ·rename_i hs
  obtain⟨s',h1,h2,h3,h4,IS,h5⟩:=Hs h;refine⟨_,_,h1,h2,h3,h4,λj _ hj=>IS j (λe=>by subst e;subst pJ;simp[qz,makes,rh] at hj),λN D w a s=>?_⟩
  obtain⟨g1,g2,_⟩:=tU hs (s.Fm x);obtain⟨N',n1,n2,n3⟩:=h5 N D w base s.nw _ t g1 g2;exact⟨N',D,_,_, .inl (by simp only[execOp,Instr.box,newVar,newRow,zee,run_newObj,zef,zeg];rfl),n2,n1,n3⟩
 ·cases h
theorem Ri: ∀{x y:Value},veq x y=true->x=y:=by
 intro x y h;unfold veq at h;split at h<;>first
  |(simp only[zdV,zd1] at h;rw[h.1,h.2])
  |(simp at h;rw[h])
  |rfl
  |(rename_i a b;have:a.data.toList=b.data.toList:=(by simpa using h);congr 1;cases a;cases b;congr 1;exact Array.toList_inj.1 this)
  |(cases h;done)
theorem Nr: ∀{l m:List Value},ON l m=true->l=m
 | [],[],_=>rfl
 | [],_::_,h=>by simp[ON] at h
 |_::_,[],h=>by simp[ON] at h
 |x::xs,y::ys,h=>by
  simp only[ON,zdV] at h;rw[Ri h.1,Nr h.2]
end AM
namespace AM
open Go
variable {α:Type}{P:Program}{base:Nat}
theorem flatMap_replicate {β γ:Type}(f:β->List γ)(x:β)(s:Nat)(hs:(f x).length=s): ∀n i j,i<n->j<s->((List.replicate n x).flatMap f)[i*s+j]?=(f x)[j]?
 |0,i,j,h,_=>by omega
 |n+1,0,j,_,hj=>by
  simp only[zez,zeA,zeB,zeC];rw[zeD (by omega)]
 |n+1,i+1,j,hi,hj=>by
  simp only[zez,zeA];rw[zeE (by rw[hs,zd7];omega)]
  rw[show(i+1)*s+j-(f x).length=i*s+j by rw[hs,zd7];omega]
  exact flatMap_replicate f x s hs n i j (by omega) hj
theorem rI {β γ:Type}(f:β->List γ)(x:β): ∀n,((List.replicate n x).flatMap f).length=n*(f x).length
 |0=>by simp
 |n+1=>by simp[zez,zeA,rI f x n,zd7,zeF]
theorem mZ: ∀t:Ty,(mV t (iA t)).length=t.size
 | .int _=>rfl| .bool=>rfl| .str=>rfl| .nil=>rfl| .deep _=>rfl| .ref _=>rfl
 | .cons a b=>by simp only[mV,iA,zdW,Ty.size,mZ a,mZ b]
 | .arr n t=>by
  have:=rI (mV t) (iA t) n;rw[mZ t] at this;exact this
theorem rR {N:Names}{D:Nat->Prop}{w:World}: ∀(t:Ty) (g:Nat->Option Value),(∀j,j<t.size->g j=(mV t (iA t))[j]?)->iy N D w t (iA t) g
 | .int k,g,h=>h 0 (by simp[Ty.size])
 | .bool,g,h=>h 0 (by simp[Ty.size])
 | .str,g,h=>h 0 (by simp[Ty.size])
 | .nil,g,h=>trivial
 | .deep t,g,h=>⟨none,0,h 0 (by simp[Ty.size]),zd9 _,λ_=>rfl,λad ha=>by cases ha⟩
 | .ref _,g,h=>h 0 (by simp[Ty.size])
 | .cons a b,g,h=>by
  refine⟨rR a g λj hj=>?_,rR b _ λj hj=>?_⟩
  ·rw[h j (by simp only[Ty.size];omega)]
   have e:=zeD (l₁:=mV a (iA a)) (l₂:=mV b (iA b)) (i:=j) (by rw[mZ];exact hj)
   exact e
  ·rw[h _ (by simp only[Ty.size];omega)]
   have:=zeE (l₁:=mV a (iA a)) (l₂:=mV b (iA b)) (i:=a.size+j) (by rw[mZ];omega)
   rw[mZ,Nat.add_sub_cancel_left] at this;exact this
 | .arr n t,g,h=>by
  refine⟨zeG,λi x hx=>?_⟩;have hi:i<n:=by
   have:=(List.getElem?_eq_some_iff.1 hx).1;simpa [iA] using this
  have BS:x=iA t:=by
   have h2:(List.replicate n (iA t))[i]?=some x:=hx;rw[zeH,if_pos hi] at h2;exact(Option.some.inj h2).symm
  subst BS;refine rR t _ λj hj=>?_;have hb:(i+1)*t.size<=n*t.size:=zd6 _ hi;rw[zd7] at hb;rw[h _ (by simp only[Ty.size];omega)]
  exact flatMap_replicate (mV t) (iA t) t.size (mZ t) n i j hi hj
theorem yl (fs:List AV):qT (.agg fs)=rM fs:=by simp[qT]
def vz (v:AV):Prop:=(qT v).length=v.size/\∀(N:Names) (D:Nat->Prop) (w:World) (g:Nat->Option Value),(∀j,j<v.size->g j=(qT v)[j]?)->aq N D w v g
theorem vz.val (x:Value):vz (.val x):=⟨rfl,λN D w g h=>by simp only[aq];exact h 0 (by simp[AV.size])⟩
def rS (l:List AV):Prop:=(rM l).length=AV.dX l/\∀(N:Names) (D:Nat->Prop) (w:World) (g:Nat->Option Value),(∀j,j<AV.dX l->g j=(rM l)[j]?)->fg N D w l g
theorem rS.cons {v:AV}{l:List AV}(h1:vz v)(h2:rS l):rS (v::l):=by
 refine⟨by simp only[rM,zdW,AV.dX,h1.1,h2.1],λN D w g h=>?_⟩
 simp only[fg];refine⟨h1.2 N D w g λj hj=>?_,h2.2 N D w _ λj hj=>?_⟩
 ·rw[h j (by simp only[AV.dX];omega)]
  simp only[rM];exact zeD (by rw[h1.1];exact hj)
 ·rw[h _ (by simp only[AV.dX];omega)]
  have:=zeE (l₁:=qT v) (l₂:=rM l) (i:=v.size+j) (by rw[h1.1];omega)
  rw[h1.1,Nat.add_sub_cancel_left] at this;simpa only[rM] using this
theorem BV: ∀(n:Nat) (t:TypeId) (v:AV),zeroOf P n t=some v->vz v
 |0,_,_,h=>by simp[zeroOf] at h
 |n+1,t,v,h=>by
  unfold zeroOf at h;split at h<;>first
   |(simp only[zdT] at h;subst h;exact vz.val _)
   |skip
  ·rename_i fs _
   have key: ∀(l:List Field) (vs:List AV),l.foldr (λf acc=>match zeroOf P n f.type,acc with|some a,some b=>some (a::b)|_,_=>none) (some [])=some vs->rS vs:=by
    intro l;induction l with
    |nil=>intro vs h;simp only[List.foldr_nil,zdT] at h;subst h;exact⟨rfl,λ_ _ _ _ _=>by simp only[fg]⟩
    |cons f l ih=>
     intro vs h;simp only[zeI] at h;split at h
     ·rename_i a b h1 h2
      simp only[zdT] at h;subst h;exact rS.cons (BV n _ _ h1) (ih _ h2)
     ·cases h
   simp only[zeJ] at h;obtain⟨vs,h1,rfl⟩:=h;obtain⟨h2,h3⟩:=key _ _ h1;exact⟨by simpa [qT,AV.size] using h2,λN D w g hg=>by simp only[aq];exact h3 N D w g (λj hj=>by rw[hg j (by simpa [AV.size] using hj),yl])⟩
  ·rename_i m e _
   split at h
   ·simp only[zdT] at h
    subst h;have key: ∀m,rS (List.replicate m (.val (.slice none 0 0))):=by
     intro m;induction m with
     |zero=>exact⟨rfl,λ_ _ _ _ _=>by simp only[List.replicate,fg]⟩
     |succ m ih=>exact rS.cons (vz.val _) ih
    obtain⟨h2,h3⟩:=key m;exact⟨by simpa [qT,AV.size] using h2,λN D w g hg=>by simp only[aq];exact h3 N D w g (λj hj=>by rw[hg j (by simpa [AV.size] using hj),yl])⟩
   simp only[zeJ] at h;obtain⟨te,_,rfl⟩:=h;refine⟨?_,λN D w g hg=>?_⟩
   ·have:=mZ (.arr m te)
    simpa only[qT,AV.size,Ty.size,mV,iA] using this
   ·simp only[aq]
    refine rR (.arr m te) g λj hj=>?_;rw[hg j (by simpa only[AV.size,Ty.size] using hj)]
    simp only[qT,mV,iA]
  ·cases h
theorem rT {t:TypeId}{k:AV->Option α}{r:α}(h:zeroV P t k=some r): ∃v i z,k v=some r/\P.info? t=some i/\i.zero=some z/\zeroOf P 12 t=some v/\z.cells.toList=qT v/\z.cells.size=v.size/\∀N D w,aq N D w v (z.cells[·]?):=by
 unfold zeroV at h;split at h
 ·rename_i z v hz hv
  split at h
  ·rename_i hq
   obtain⟨i,hi,Uf⟩:=Option.bind_eq_some_iff.1 hz;have e:=Nr hq;obtain⟨l1,l2⟩:=BV 12 t v hv;refine⟨v,i,z,h,hi,Uf,hv,e,by rw[<-l1,<-e];simp,λN D w=>l2 N D w _ λj hj=>?_⟩
   rw[<-e];simp
  ·cases h
 ·cases h
theorem Le {dst ty pos after guard}{t:TypeId}{st:St}{id:Nat}(pJ:id=name st.ep (dst.getD 999) 0){k:AV->St->Option α}{r:α}(h:Ha P st id t k=some r):nU P base ⟨dst, .alloc t,ty,pos,after,guard⟩ st k r:=by
 unfold Ha at h;obtain⟨v,i,z,h,hi,hz,_,_,g1,g2⟩:=rT h;obtain⟨s',h1,h2,h3,h4,IS,h5⟩:=Hs h;refine⟨_,_,h1,h2,h3,h4,λj _ hj=>IS j (λe=>by subst e;subst pJ;simp[qz,makes,rh] at hj),λN D w a s=>?_⟩
 obtain⟨N',n1,n2,n3⟩:=h5 N D w base s.nw _ t g1 (g2 N D w);exact⟨N',D,_,_, .inl (by simp only[execOp,Instr.alloc,newVar,newRow,zeroValue,typeInfo,zee,run_newObj,zef,zeg];simp[hi,hz]),n2,n1,n3⟩
theorem OV {dst ty pos after guard}{x:Operand}{st:St}{k:AV->St->Option α}{r:α}(h:k (st.ev x) st=some r):nU P base ⟨dst, .move x,ty,pos,after,guard⟩ st k r:=
 ⟨_,_,h,lx.pure λN D w a s=>⟨a.eval x,by simp only[execOp,zeg],s.Fm x⟩⟩
theorem Je {dst ty pos after guard}{x:Operand}{st:St}{k:AV->St->Option α}{r:α}(h:k (st.ev x) st=some r):nU P base ⟨dst, .assign x,ty,pos,after,guard⟩ st k r:=
 ⟨_,_,h,lx.pure λN D w a s=>⟨a.eval x,by simp only[execOp,zeg],s.Fm x⟩⟩
theorem Fu {dst ty pos after guard}{x:Operand}{st:St}{k:AV->St->Option α}{r:α}(h:(match st.ev x with| .ptr i p=>k (.ptr i p) st| .tP v=>k (.tP v) st| .rf g n c=>(match aa (n=0) with|true=>none|false=>k (.rf g n c) st)|_=>none)=some r):nU P base ⟨dst, .nilCheck x,ty,pos,after,guard⟩ st k r:=by
 split at h
 ·rename_i i p e1
  refine⟨_,_,h,lx.pure λN D w a s=>?_⟩;have hv:=s.uz e1;obtain⟨nm,ad,o,h1,h2,h3,h4⟩:=ju.1 hv;exact⟨a.eval x,by simp only[execOp,h4,zeg],hv⟩
 ·rename_i v e1
  refine⟨_,_,h,lx.pure λN D w a s=>?_⟩;have hv:=s.uz e1;obtain⟨ad,h1,_⟩:=qC.1 hv;exact⟨a.eval x,by simp only[execOp,h1,zeg],hv⟩
 ·rename_i g n c e1
  split at h
  ·cases h
  ·rename_i hn
   refine⟨_,_,h,lx.pure λN D w a s=>?_⟩;have hv:=s.uz e1;rcases Hr hv with⟨h1,_⟩|⟨_,ad,h1⟩
   ·rw[kR.2 h1] at hn;cases hn
   ·exact⟨a.eval x,by simp only[execOp,h1,zeg],hv⟩
 ·cases h
theorem OW {dst ty pos after guard}{c x y:Operand}{st:St}{k:AV->St->Option α}{r:α}(h:(match st.ev c with| .val (.bool t)=>(match t with|true=>k (st.ev x) st|false=>k (st.ev y) st)|_=>none)=some r):nU P base ⟨dst, .pick c x y,ty,pos,after,guard⟩ st k r:=by
 split at h
 ·rename_i t e1
  cases t with
  |true=>exact⟨_,_,h,lx.pure λN D w a s=>⟨a.eval x,by simp[execOp,s.sS e1,asBool],s.Fm x⟩⟩
  |false=>exact⟨_,_,h,lx.pure λN D w a s=>⟨a.eval y,by simp[execOp,s.sS e1,asBool],s.Fm y⟩⟩
 ·cases h
theorem OX {dst ty pos after guard}{op:UnOp}{t:TypeId}{x:Operand}{st:St}{k:AV->St->Option α}{r:α}(h:(match op,st.ev x with
  | .not, .val (.bool b)=>k (.val (.bool (!b))) st
  | .neg, .val (.int ki n)=>k (.val (.int ki (wr ki (0-n)))) st
  | .xor, .val (.int ki n)=>k (.val (.int ki (py ki (QU ki) n))) st
  |_,_=>none)=some r):nU P base ⟨dst, .unOp op t x,ty,pos,after,guard⟩ st k r:=by
 split at h
 ·rename_i b e1
  exact⟨_,_,h,lx.pure λN D w a s=>⟨_,by simp[execOp,s.sS e1,Op.unary];first|rfl|done,ek.2 rfl⟩⟩
 ·rename_i ki n e1
  exact⟨_,_,h,lx.pure λN D w a s=>⟨_,by simp[execOp,s.sS e1,Op.unary,Op.intArith];first|rfl|done,ek.2 (by simp[pI])⟩⟩
 ·rename_i ki n e1
  exact⟨_,_,h,lx.pure λN D w a s=>⟨_,by simp[execOp,s.sS e1,Op.unary,Op.intBits];first|rfl|done,ek.2 (by simp[py,QU,pI])⟩⟩
 ·cases h
theorem Ht {dst ty pos after guard}{x:Operand}{i:Nat}{st:St}{k:AV->St->Option α}{r:α}(h:(match st.ev x with| .AP vs=>(match vs[i]? with|some v=>k v st|none=>none)|_=>none)=some r):nU P base ⟨dst, .extract x i,ty,pos,after,guard⟩ st k r:=by
 split at h
 ·rename_i vs e1
  split at h
  ·rename_i v hv
   refine⟨_,_,h,lx.pure λN D w a s=>?_⟩;obtain⟨cs,h1,h2⟩:=lM.1 (s.uz e1);obtain⟨c,h3,h4⟩:=sv vs _ i v h2 hv;refine⟨c,?_,h4⟩;have h5:cs[i]?=some c:=by simpa using h3
   simp[execOp,h1,Instr.extract,h5]
  ·cases h
 ·cases h
theorem uL {N:Names}{D:Nat->Prop}{w:World}{st:St}{a:Act}(s:kx N D w base st a): ∀l:List Operand,bF N D w (l.map st.ev) (l.map a.eval)
 | []=>by simp[bF]
 |x::xs=>by
  simp only[zeK,bF];exact⟨_,_,rfl,s.Fm x,uL s xs⟩
theorem Fv {dst ty pos after guard}{fn:Fn}{first captured:Array Operand}{st:St}{k:AV->St->Option α}{r:α}(h:(match first.size,captured.size with|0,_=>k (.wZ fn (captured.toList.map st.ev)) st|_,0=>k (.Cz fn (first.toList.map st.ev)) st|_,_=>none)=some r):nU P base ⟨dst, .makeFunc fn first captured,ty,pos,after,guard⟩ st k r:=by
 split at h
 ·rename_i h0
  refine⟨_,_,h,lx.pure λN D w a s=>⟨.func fn #[] (captured.map a.eval),?_,?_⟩⟩
  ·have:first= #[]:=zeL h0
   subst this;simp[execOp,Instr.makeFunc]
  ·unfold cw
   simp only[AV.isAgg,jz,aq];refine⟨_,rfl,?_⟩;have:=uL s captured.toList;simpa using this
 ·rename_i h0 _
  refine⟨_,_,h,lx.pure λN D w a s=>⟨.func fn (first.map a.eval) #[],?_,?_⟩⟩
  ·have:captured= #[]:=zeL h0
   subst this;simp[execOp,Instr.makeFunc]
  ·unfold cw
   simp only[AV.isAgg,jz,aq];refine⟨_,rfl,?_⟩;have:=uL s first.toList;simpa using this
 ·cases h
end AM
namespace AM
open Go
variable {α:Type}{P:Program}{base:Nat}
theorem tV {N:Names}{D:Nat->Prop}{w:World}{t:TypeId}{v:AV}{cs:Array Value}{off:Nat}(hf:su P t v=true)(hr:aq N D w v (λj=>cs[off+j]?)): ∃c,(part t cs off).run P w= .ok c w/\cw N D w v c:=by
 obtain⟨hs,h1,h2,d,hd⟩:=rQ hf;obtain⟨i,hi⟩:=info_of_underlying hd;have Hm:(isAgg t).run P w= .ok (qU P t) w:=by
  simp only[isAgg,zee,run_underlying hd,zef,qU,hd];cases d<;>rfl
 have hc:=sw v _ hs hr;cases Fb:v.isAgg with
 |true=>
  refine⟨.agg (cs.extract off (off+v.size)),?_,?_⟩
  ·simp only[part,zee,Hm,zef,<-h1,Fb,if_true,run_sizeOf w hi,zeg,h2]
  ·unfold cw;rw[Fb]
   have hle:v.size=0\/off+v.size<=cs.size:=by
    by_cases e:v.size=0
    ·exact .inl e
    ·obtain⟨c,h3,_⟩:=hc (v.size-1) (by omega)
     have:=(Array.getElem?_eq_some_iff.1 h3).1;right;omega
   refine⟨_,rfl,by simp;omega,jR v _ _ (λj hj=>?_) hr⟩
   simp[Array.getElem?_extract];intro hh;omega
 |false=>
  obtain⟨c,h3,_⟩:=hc 0 (by rw[qY hs Fb];omega)
  simp only[zeM] at h3;refine⟨c,by simp[part,Hm,<-h1,Fb,h3],?_⟩
  unfold cw;rw[Fb];refine jR v _ _ (λj hj=>?_) hr;rw[qY hs Fb] at hj;obtain rfl:j=0:=by omega
  exact h3
theorem Lf {t:TypeId}{f:Nat}{v:AV}(h:QW P t f v=true): ∃fs fd,P.underlying t=some (.struct fs)/\fs[f]?=some fd/\su P fd.type v=true:=by
 unfold QW at h;split at h
 ·rename_i fs hu
  split at h
  ·rename_i fd hf
   exact⟨fs,fd,hu,hf,h⟩
  ·cases h
 ·cases h
theorem Lg {dst ty pos after guard}{t:TypeId}{x:Operand}{f:Nat}{st:St}{k:AV->St->Option α}{r:α}(h:G8 P st t (st.ev x) f k=some r):nU P base ⟨dst, .field t x f,ty,pos,after,guard⟩ st k r:=by
 unfold G8 at h;split at h
 ·rename_i fs off e1 e2
  split at h
  ·rename_i hd
   simp only[zd1] at hd;split at h
   ·rename_i v hv
    split at h
    ·rename_i lq
     refine⟨_,_,h,lx.pure λN D w a s=>?_⟩;obtain⟨cells,h1,h2,h3⟩:=xz.1 (s.uz e1);obtain⟨fs',fd,hu,hf,hft⟩:=Lf lq;obtain⟨fs2,fd2,hu2,xF,_,ho⟩:=yI e2;rw[hu] at hu2;cases hu2;rw[hf] at xF;cases xF;have:=qA fs f v _ hv h3;rw[hd] at this;subst ho;obtain⟨c,h4,h5⟩:=tV (P:=P) hft this;refine⟨c,?_,h5⟩;simp only[execOp,h1,Instr.field,zee,run_underlying hu,zef,hf,asAgg,zeg,h4]
    ·cases h
   ·cases h
  ·cases h
 ·cases h
theorem qD {x:AV}{k:Int->Option α}{r:α}(h:nat? x k=some r): ∃ki n,x= .val (.int ki n)/\k n=some r:=by
 unfold nat? at h;split at h
 ·exact⟨_,_,rfl,h⟩
 ·cases h
theorem nQ {t:TypeId}{n:Nat}(h:uT P t n=true): ∃e i,P.underlying t=some (.slice e)/\P.info? e=some i/\P.cellsOf e=n:=by
 unfold uT at h;split at h
 ·rename_i e hu
  simp only[zdV,zd1] at h;obtain⟨i,hi⟩:=Option.isSome_iff_exists.1 h.1;exact⟨e,i,hu,hi,h.2⟩
 ·cases h
theorem sy {t:TypeId}{m n:Nat}(h:yS P t m n=true): ∃e i,P.underlying t=some (.array m e)/\P.info? e=some i/\P.cellsOf e=n:=by
 unfold yS at h;split at h
 ·rename_i m' e hu
  simp only[zdV,zd1] at h;obtain⟨i,hi⟩:=Option.isSome_iff_exists.1 h.1.1;exact⟨e,i,by rw[hu,h.1.2],hi,h.2⟩
 ·cases h
theorem tW {t e:TypeId}{i:TypeInfo}(hu:P.underlying t=some (.slice e))(hi:P.info? e=some i){k:IntKind}{n:Int}{a:Addr}{len cap:Nat}(h0:0<=n)(h1:n<len)(w:World):
  (Instr.indexAt t (.slice (some a) len cap) (.int k n)).run P w= .ok (.pointer (some (a.add (n.toNat*P.cellsOf e)))) w:=by
 simp[Instr.indexAt,asIntOf,run_underlying hu,h0,h1,run_sizeOf w hi]
theorem y9 {t e:TypeId}{m:Nat}{i:TypeInfo}(hu:P.underlying t=some (.array m e))(hi:P.info? e=some i){k:IntKind}{n:Int}{a:Addr}(h0:0<=n)(h1:n<m)(w:World):
  (Instr.indexAt t (.pointer (some a)) (.int k n)).run P w= .ok (.pointer (some (a.add (n.toNat*P.cellsOf e)))) w:=by
 simp[Instr.indexAt,asIntOf,run_underlying hu,h0,h1,run_sizeOf w hi,Instr.sureAddr]
theorem zQ {nm:Nm}{p:List Step}{o m i:Nat}{e:Sh}(h1:nm.off p=some o)(h2:nm.KF p=some (.arr m e))(h3:i<m):
  nm.off (p++ [.idx i])=some (o+i*e.size):=by
 cases hr:nm.row with
 |false=>
  simp only[Nm.KF,hr] at h2;have e': ∀p,nm.off p=fG p nm.sh:=by intro p;unfold Nm.off;split<;>simp[hr]
  rw[e'] at h1⊢;exact re p _ o m i e h1 h2 h3
 |true=>
  simp only[Nm.KF,hr,if_true] at h2;split at h2
  ·rename_i j p'
   simp only[Nm.off,hr,if_true,zes] at h1⊢;by_cases hi:j<nm.len
   ·simp only[hi,if_true] at h1⊢
    cases h5:fG p' nm.sh with
    |none=>simp[h5] at h1
    |some o2=>
     simp only[h5,zd2,zdT] at h1;rw[re p' _ o2 m i e h5 h2 h3];simp only[zd2];congr 1;omega
   ·simp only[hi,if_false] at h1;cases h1
  ·cases h2
theorem xG (b:Addr)(n m:Nat):(Addr.at_ b n).add m=Addr.at_ b (n+m):=by
 simp only[Addr.at_,ow,zd8]
theorem DC {ad:Addr}{len room:Nat}{v:Value}(h:K2 ad len room v)(hl:0<len):v= .slice (some ad) len room:=by
 obtain⟨a,cap,rfl,h2,h3,h4⟩:=h;rcases h4 with h4|h4
 ·rw[h4,h3]
 ·omega
end AM
namespace AM
open Go
variable {α:Type}{P:Program}{base:Nat}
theorem jn {p:Prop}{z:Option α}{r:α}(h:(match aa p with|true=>z|false=>none)=some r):p/\z=some r:=by
 split at h
 ·exact⟨kR.1 ‹_›,h⟩
 ·cases h
theorem jo {b:Bool}{z:Option α}{r:α}(h:(match b with|false=>none|true=>z)=some r):b=true/\z=some r:=by
 cases b with
 |true=>exact⟨rfl,h⟩
 |false=>cases h
theorem wc {i:Int}{k:Nat->Option α}{r:α}: ∀{f j:Nat},Dl i k f j=some r->∃m,j<=m/\m<j+f/\i=m/\k m=some r
 |0,j,h=>by simp[Dl] at h
 |f+1,j,h=>by
  unfold Dl at h;split at h
  ·exact⟨j,zd9 _,by omega,kR.1 ‹_›,h⟩
  ·obtain⟨m,h1,h2,h3⟩:=wc h
   exact⟨m,by omega,by omega,h3⟩
theorem A5 {n:Nat}: ∀{l:List Sh},Dm l n=true->∀{j:Nat},j<=l.length->Sh.dX (l.take j)=j*n
 | [],_,j,hj=>by simp at hj;subst hj;simp[Sh.dX]
 |e::l,h,0,_=>by simp[Sh.dX]
 |e::l,h,j+1,hj=>by
  have h':e.size=n/\Dm l n=true:=by simpa [Dm] using h
  have ih:=A5 h'.2 (j:=j) (by simpa using hj)
  simp only[List.take_succ_cons,Sh.dX,ih,h'.1,zd7];omega
theorem BW {s:St}{id:Nat}{p:List Step}{n:Nat}(h:G6 s id p=some n){N:Names}{D:Nat->Prop}{w:World}{base:Nat}(S:jX N D w base s.h){nm:Nm}(hn:N id=some nm):
  ((nm.row&&p.isEmpty)=true/\nm.sh.size=n)\/(¬(nm.row&&p.isEmpty)=true/\∃m e,nm.KF p=some (.arr m e)/\e.size=n):=by
 unfold G6 at h;split at h
 ·rename_i ro te xs ho
  obtain⟨mG,h1,h2,h3,_⟩:=S.obj id _ ho;rw[hn] at h1;cases h1;left
  refine⟨by simp[h2],?_⟩
  rw[h3,iL];exact Option.some.inj h
 ·rename_i hp
  split at h
  ·rename_i m e hs
   right
   refine⟨?_,m,e,nP hs S hn,Option.some.inj h⟩;cases mI:nm.row with
   |false=>simp
   |true=>
    have yz:=nP hs S hn;intro hp2;simp only[Bool.true_and,zeo] at hp2;rw[hp2] at yz;simp[Nm.KF,mI] at yz
  ·cases h
theorem DD {dst ty pos after guard}{t:TypeId}{x ix:Operand}{st:St}{k:AV->St->Option α}{r:α}(h:xr P st t (st.ev x) (st.ev ix) k=some r):nU P base ⟨dst, .indexAddr t x ix,ty,pos,after,guard⟩ st k r:=by
 unfold xr at h;obtain⟨ki,n,ei,h⟩:=qD h;split at h
 ·rename_i te xs e1
  replace h:=jo h;obtain⟨wO,h⟩:=h
  replace h:=jn h;obtain⟨h0,h⟩:=h
  split at h
  ·rename_i y hy
   obtain⟨e,i,hu,hi,hsz⟩:=nQ wO;refine⟨_,_,h,lx.pure λN D w a s=>?_⟩;obtain⟨ba,cap,g1,g2,g3,g4⟩:=uJ.1 (s.uz e1);simp only[zdT] at g1;have kW:n.toNat<aQ (β:=te.den) xs:=(List.getElem?_eq_some_iff.1 hy).1;cases ba with
   |none=>have:=g3 rfl;omega
   |some ba=>
    obtain⟨f1,f2,f3⟩:=g4 ba rfl (by omega)
    obtain⟨b,o,sp⟩:=ba;simp only at f1;subst f1;refine⟨.pointer (some ⟨b,o+n.toNat*te.size,none⟩),?_,qC.2 ⟨_,rfl,rfl,f2,?_⟩⟩
    ·simp only[execOp,s.sS ei,g1,zee,tW hu hi h0 (show n<(aQ (β:=te.den) xs:Int) by omega),zef,zeg,ow,hsz]
    ·rw[kO]
     have e2:(λj=>aZ w ⟨b,o,none⟩ (n.toNat*te.size+j))=aZ w ⟨b,o+n.toNat*te.size,none⟩:=by
      funext j;simp only[aZ,zd8]
     rw[<-e2];exact f3 n.toNat y hy
  ·cases h
 ·rename_i id off e1
  split at h
  ·rename_i ro te xs ho
   replace h:=jo h;obtain⟨wO,h⟩:=h
   replace h:=jn h;obtain⟨h0,h⟩:=h
   obtain⟨e,i,hu,hi,hsz⟩:=nQ wO;refine⟨_,_,h,lx.pure λN D w a s=>?_⟩;have hv:=s.uz e1;unfold cw at hv;simp only[AV.isAgg,jz,aq] at hv;obtain⟨nm,g1,g2,g3,g4,g5⟩:=hv;obtain⟨mG,h1,h2,h3,h4,_⟩:=s.nw.obj id _ ho;rw[g1] at h1;cases h1;cases hb:nm.base with
   |none=>rw[hb] at g5;obtain⟨g5,_⟩:=g5;exfalso;have:=h0.2;simp only[aQ] at h4;omega
   |some ba=>
    rw[hb] at g5;obtain⟨v,room,g6,g7,g8⟩:=g5;simp only[zdT] at g6;have kW:n<((nm.len-off:Nat):Int):=by rw[h4];exact h0.2
    have e3:=DC g8 (by omega)
    rw[e3] at g6;refine⟨.pointer (some (Addr.at_ ba (off*nm.sh.size+n.toNat*te.size))),?_,ju.2 ⟨nm,ba,_,g1,hb,?_,rfl⟩⟩
    ·simp only[execOp,s.sS ei,g6,zee,tW hu hi h0.1 kW,zef,zeg,xG,hsz]
    ·simp only[Nm.off,g2,if_true]
     rw[if_pos (by omega),h3,iL]
     simp only[fG,zd2,zdT,zeM];rw[<-zd7,zeF]
  ·cases h
 ·rename_i id p off len e1
  split at h
  ·rename_i m XW
   replace h:=jo h;obtain⟨wO,h⟩:=h
   replace h:=jn h;obtain⟨h0,h⟩:=h
   obtain⟨e,i,hu,hi,hsz⟩:=nQ wO;refine⟨_,_,h,lx.pure λN D w a s=>?_⟩;have hv:=s.uz e1;unfold cw at hv;simp only[AV.isAgg,jz,aq] at hv;obtain⟨nm,g1,g3⟩:=hv;cases g2:nm.base with
   |none=>rw[g2] at g3;obtain⟨_,_,rfl,_⟩:=g3;omega
   |some ba=>
   rw[g2] at g3;simp only at g3;rcases BW XW s.nw g1 with⟨hp,Hu⟩|⟨hp,m',e',Hu,XX⟩
   ·rw[if_pos hp] at g3
    simp only[zdV,zeo] at hp;obtain⟨mI,rfl⟩:=hp;obtain⟨g4,g5,v,room,g6,g7,g8,g9⟩:=g3;simp only[zdT] at g6;have e3:=DC g9 (by omega)
    rw[e3] at g6;refine⟨.pointer (some (Addr.at_ ba (off*nm.sh.size+n.toNat*nm.sh.size))),?_,ju.2 ⟨nm,ba,_,g1,g2,?_,rfl⟩⟩
    ·simp only[execOp,s.sS ei,g6,zee,tW hu hi h0.1 h0.2,zef,zeg,xG,hsz,Hu]
    ·simp only[Nm.off,mI,if_true,zeN]
     rw[if_pos (by omega)]
     simp only[fG,zd2,zdT,zeM];rw[<-zd7,zeF]
   ·rw[if_neg hp] at g3
    obtain⟨o,m2,e2,v,room,g4,Jf,g7,g8,g9,XY⟩:=g3;simp only[zdT] at g8;have e3:=DC XY (by omega)
    rw[e3] at g8;rw[Jf] at Hu;cases Hu;refine⟨.pointer (some (Addr.at_ ba (o+off*e'.size+n.toNat*e'.size))),?_,ju.2 ⟨nm,ba,_,g1,g2,zQ g4 Jf (show n.toNat+off<m' by omega),?_⟩⟩
    ·simp only[execOp,s.sS ei,g8,zee,tW hu hi h0.1 h0.2,zef,zeg,xG,hsz,XX]
    ·rw[zd7,zd8,zeF (n.toNat*e'.size)]
  ·cases h
 ·rename_i id p e1
  split at h
  ·rename_i m e' hs
   replace h:=jo h;obtain⟨wO,h⟩:=h
   replace h:=jn h;obtain⟨h0,h⟩:=h
   obtain⟨e,i,hu,hi,hsz⟩:=sy wO;refine⟨_,_,h,lx.pure λN D w a s=>?_⟩;obtain⟨nm,ad,o,h1,h2,h3,h4⟩:=ju.1 (s.uz e1);refine⟨.pointer (some (Addr.at_ ad (o+n.toNat*e'.size))),?_,ju.2 ⟨nm,ad,_,h1,h2,zQ h3 (nP hs s.nw h1) (show n.toNat<m by omega),rfl⟩⟩
   simp only[execOp,s.sS ei,h4,zee,y9 hu hi h0.1 h0.2,zef,zeg,xG,hsz]
  ·rename_i l hs
   replace h:=jo h;obtain⟨wO,h⟩:=h
   rw[zdV] at wO;obtain⟨m,_,kW,hm,h⟩:=wc h;rw[zeC] at kW;obtain⟨e,i,hu,hi,hsz⟩:=sy wO.1;refine⟨_,_,h,lx.pure λN D w a s=>?_⟩;obtain⟨nm,ad,o,h1,h2,h3,h4⟩:=ju.1 (s.uz e1);refine⟨.pointer (some (Addr.at_ ad (o+n.toNat*AR l))),?_,ju.2 ⟨nm,ad,_,h1,h2,tp h3 (nP hs s.nw h1) kW,?_⟩⟩
   ·simp only[execOp,s.sS ei,h4,zee,y9 hu hi (show 0<=n by omega) (show n<l.length by omega),zef,zeg,xG,hsz]
   ·rw[A5 wO.2 (Nat.le_of_lt kW),hm];rfl
  ·cases h
 ·rename_i id m0 e1
  split at h
  ·rename_i l hs
   replace h:=jo h;obtain⟨wO,h⟩:=h
   simp only[zdV,zd1] at wO;obtain⟨m,_,kW,hm,h⟩:=wc h;rw[zeC] at kW;obtain⟨e,i,hu,hi,hsz⟩:=nQ wO.1.1;refine⟨_,_,h,lx.pure λN D w a s=>?_⟩;have hv:=s.uz e1;unfold cw at hv;simp only[AV.isAgg,jz,aq] at hv;obtain⟨nm,ad,h1,h2,h3,h4⟩:=hv;simp only[zdT] at h4;have nV:nm.off []=some 0:=by simp[Nm.off,h3,fG]
   have yz:=nP hs s.nw h1;have Ns:ad.spot=none:=by
    have: ∃v,st.h id=some (.var v):=by
     unfold St.shape at hs;split at hs
     ·exact⟨_,‹_›⟩
     ·cases hs
     ·cases hs
    obtain⟨v,hv⟩:=this;obtain⟨mG,a',q1,q2,_,_,q5,_⟩:=s.nw.obj id _ hv;rw[h1] at q1;cases q1;rw[h2] at q2;cases q2;exact q5
   obtain⟨bb,oo,sp⟩:=ad;simp only at Ns;subst Ns;refine⟨.pointer (some ⟨bb,oo+n.toNat*AR l,none⟩),?_,ju.2 ⟨nm,_,_,h1,h2,tp (p:=[]) nV yz kW,?_⟩⟩
   ·simp only[execOp,s.sS ei,h4,zee,tW hu hi (show 0<=n by omega) (show n<m0 by omega),zef,zeg,ow,hsz]
   ·rw[A5 wO.1.2 (Nat.le_of_lt kW),hm];simp[Addr.at_]
  ·cases h
 ·rename_i m te xs e1
  replace h:=jo h;obtain⟨wO,h⟩:=h
  replace h:=jn h;obtain⟨h0,h⟩:=h
  split at h
  ·rename_i y hy
   obtain⟨e,i,hu,hi,hsz⟩:=sy wO;refine⟨_,_,h,lx.pure λN D w a s=>?_⟩;obtain⟨ad,h1,h2,h3,h4⟩:=qC.1 (s.uz e1);obtain⟨b,o,sp⟩:=ad;simp only at h2;subst h2;simp only[aq] at h4;refine⟨.pointer (some ⟨b,o+n.toNat*te.size,none⟩),?_,qC.2 ⟨_,rfl,rfl,h3,?_⟩⟩
   ·simp only[execOp,s.sS ei,h1,zee,y9 hu hi h0.1 h0.2,zef,zeg,ow,hsz]
   ·rw[kO]
    have e2:(λj=>aZ w ⟨b,o,none⟩ (n.toNat*te.size+j))=aZ w ⟨b,o+n.toNat*te.size,none⟩:=by
     funext j;simp only[aZ,zd8]
    rw[<-e2];exact h4.2 n.toNat y hy
  ·cases h
 ·cases h
theorem Rj {dst ty pos after guard}{x:Operand}{args:Array Operand}{tys:Array TypeId}{t:TypeId}{A6:List TypeId}{st:St}{k:AV->St->Option α}{r:α}(ha:args.toList=[x])(ht:tys.toList=t::A6)
  (h:I5 P st t (st.ev x) (λn=>k (.val (.int .i64 n)) st)=some r):nU P base ⟨dst, .call ⟨.builtin .len,args,tys⟩,ty,pos,after,guard⟩ st k r:=by
 have nz:args= #[x]:=by cases args;simp at ha;subst ha;rfl
 have zR:tys[0]?=some t:=by cases tys;simp at ht;subst ht;simp
 subst nz;have slk: ∀(n:Nat),m9 P t=true->k (.val (.int .i64 n)) st=some r->(∀N D w a,kx N D w base st a->∃b c,a.eval x= .slice b n c)->nU P base ⟨dst, .call ⟨.builtin .len,#[x],tys⟩,ty,pos,after,guard⟩ st k r:=by
  intro n hs hk XV;obtain⟨e,hu⟩:=sb hs;refine⟨_,_,hk,lx.pure λN D w a s=>⟨.int .i64 n,?_,ek.2 rfl⟩⟩;obtain⟨b,c,e2⟩:=XV N D w a s;simp[execOp,resolve,invoke,builtin,Builtin.len_,zR,e2,run_underlying hu,goInt]
 unfold I5 at h;split at h
 ·rename_i te xs e1
  split at h
  ·rename_i hs
   refine slk _ hs h λN D w a s=>?_;obtain⟨ba,cap,g1,_⟩:=uJ.1 (s.uz e1);simp only[zdT] at g1;exact⟨_,_,g1⟩
  ·cases h
 ·rename_i e1
  split at h
  ·rename_i hs
   exact slk 0 hs h λN D w a s=>⟨_,_,s.sS e1⟩
  ·cases h
 ·rename_i b e1
  split at h
  ·rename_i hu
   refine⟨_,_,h,lx.pure λN D w a s=>⟨_,?_,ek.2 rfl⟩⟩;simp[execOp,resolve,invoke,builtin,Builtin.len_,zR,s.sS e1,run_underlying hu,goInt]
  ·cases h
 ·rename_i id off e1
  split at h
  ·rename_i ro te xs ho
   split at h
   ·rename_i hs
    refine slk _ hs h λN D w a s=>?_;have hv:=s.uz e1;unfold cw at hv;simp only[AV.isAgg,jz,aq] at hv;obtain⟨nm,g1,g2,g3,g4,g5⟩:=hv;obtain⟨mG,h1,h2,h3,h4,_⟩:=s.nw.obj id _ ho;rw[g1] at h1;cases h1;cases hb:nm.base with
    |none=>
     rw[hb] at g5;obtain⟨g5,g6⟩:=g5;simp only[zdT] at g6;have e0:aQ (β:=te.den) xs-off=0:=by rw[<-h4];omega
     have e2:a.eval x= .slice none (aQ (β:=te.den) xs-off) 0:=by rw[e0];exact g6
     exact⟨_,_,e2⟩
    |some ba=>
     rw[hb] at g5;obtain⟨v,room,g6,g7,a',cap,rfl,_⟩:=g5;simp only[zdT] at g6;rw[h4] at g6;exact⟨_,_,g6⟩
   ·cases h
  ·cases h
 ·rename_i id p off len e1
  split at h
  ·rename_i hs
   refine slk _ hs h λN D w a s=>?_;have hv:=s.uz e1;unfold cw at hv;simp only[AV.isAgg,jz,aq] at hv;obtain⟨nm,g1,g3⟩:=hv;cases g2:nm.base with
   |none=>rw[g2] at g3;obtain⟨_,_,rfl,_,g3⟩:=g3;simp only[zdT] at g3;exact⟨_,_,g3⟩
   |some ba=>
   rw[g2] at g3;simp only at g3;split at g3
   ·obtain⟨_,_,v,room,g6,_,_,a',cap,rfl,_⟩:=g3
    simp only[zdT] at g6;exact⟨_,_,g6⟩
   ·obtain⟨_,_,_,v,room,_,_,_,g6,_,a',cap,rfl,_⟩:=g3
    simp only[zdT] at g6;exact⟨_,_,g6⟩
  ·cases h
 ·rename_i id n e1
  split at h
  ·rename_i hs
   refine slk _ hs h λN D w a s=>?_;have hv:=s.uz e1;unfold cw at hv;simp only[AV.isAgg,jz,aq] at hv;obtain⟨nm,ad,_,_,_,h4⟩:=hv;simp only[zdT] at h4;exact⟨_,_,h4⟩
  ·cases h
 ·rename_i n te xs e1
  split at h
  ·rename_i m e hu
   split at h
   ·rename_i hmn
    subst hmn;refine⟨_,_,h,lx.pure λN D w a s=>⟨.int .i64 m,?_,ek.2 rfl⟩⟩;obtain⟨cells,h1,_⟩:=vr.1 (s.uz e1);simp[execOp,resolve,invoke,builtin,Builtin.len_,zR,h1,run_underlying hu,goInt]
   ·cases h
  ·cases h
 ·cases h
end AM
namespace AM
open Go
variable {α:Type}{P:Program}{base:Nat}
theorem A7: ∀(t:Ty) (x:t.den),(enc t x).nv=true
 | .int _,_=>by simp[enc,AV.nv,Value.oneCell']
 | .bool,_=>by simp[enc,AV.nv,Value.oneCell']
 | .str,_=>by simp[enc,AV.nv,Value.oneCell']
 | .nil,_=>by simp[enc,AV.nv,AV.AQ]
 | .deep _,_=>by simp[enc,AV.nv]
 | .ref _,_=>by simp[enc,AV.nv]
 | .arr n t,_=>by simp[enc,AV.nv]
 | .cons a b,p=>by
  have ha:=A7 a p.1;have hb:=A7 b p.2;unfold enc;cases h:enc b p.2<;>simp[h,AV.nv,AV.AQ] at* <;>simp[*]
theorem DE: ∀(n:Nat) (t:TypeId) (te:Ty),vp P n t=some te->(∃d,P.underlying t=some d)/\∀x:te.den,(enc te x).isAgg=qU P t
 |0,_,_,h=>by simp[vp] at h
 |n+1,t,te,h=>by
  unfold vp at h;split at h
  ·rename_i k hu;simp only[zdT] at h;subst h;exact⟨⟨_,hu⟩,λx=>by simp[enc,AV.isAgg,qU,hu]⟩
  ·rename_i hu;simp only[zdT] at h;subst h;exact⟨⟨_,hu⟩,λx=>by simp[enc,AV.isAgg,qU,hu]⟩
  ·rename_i hu;simp only[zdT] at h;subst h;exact⟨⟨_,hu⟩,λx=>by simp[enc,AV.isAgg,qU,hu]⟩
  ·rename_i fs hu
   refine⟨⟨_,hu⟩,?_⟩;have key: ∀(l:List Field) (te:Ty),l.foldr (λf acc=>match vp P n f.type,acc with|some a,some b=>some (Ty.cons a b)|_,_=>none) (some .nil)=some te->∀x:te.den,∃l,enc te x= .agg l:=by
    intro l;induction l with
    |nil=>intro te h;simp only[List.foldr_nil,zdT] at h;subst h;intro x;exact⟨[],rfl⟩
    |cons f l ih=>
     intro te h;simp only[zeI] at h;split at h
     ·rename_i a b h1 h2
      simp only[zdT] at h;subst h;intro x;obtain⟨l',hl⟩:=ih b h2 x.2;exact⟨enc a x.1::l',by have e:enc (.cons a b) x=(match enc b x.2 with| .agg l=> .agg (enc a x.1::l)|v=> .agg [enc a x.1,v]):=rfl;rw[e,hl]⟩
     ·cases h
   intro x;obtain⟨l,hl⟩:=key _ _ h x;simp[hl,AV.isAgg,qU,hu]
  ·rename_i m e hu
   simp only[zeJ] at h;obtain⟨XI,_,rfl⟩:=h;exact⟨⟨_,hu⟩,λx=>by simp[enc,AV.isAgg,qU,hu]⟩
  ·rename_i e hu
   simp only[zeJ] at h;obtain⟨XI,_,rfl⟩:=h;exact⟨⟨_,hu⟩,λx=>by simp[enc,AV.isAgg,qU,hu]⟩
  ·rename_i hu;simp only[zdT] at h;subst h;exact⟨⟨_,hu⟩,λx=>by simp[enc,AV.isAgg,qU,hu]⟩
  ·cases h
theorem DF {t:TypeId}{te:Ty}(h:vp P 12 t=some te)(hs:te.size=P.cellsOf t)(x:te.den):su P t (enc te x)=true:=by
 obtain⟨⟨d,hd⟩,h2⟩:=DE 12 t te h;simp only[su,zdV,beq_iff_eq,zd1];exact⟨⟨⟨A7 _ _,h2 x⟩,by rw[nE,hs]⟩,by rw[hd];rfl⟩
theorem zS {sz:Nat}: ∀(l:List AV),(∀v∈l,v.size=sz)->AV.dX l=l.length*sz
 | [],_=>by simp[AV.dX]
 |x::xs,h=>by
  have ih:=zS xs λv hv=>h v (zdZ _ hv);simp only[AV.dX,zdX,ih,h x (zd0 ..),zd7];omega
theorem Lh {dst ty pos after guard}{t:TypeId}{x ix:Operand}{st:St}{k:AV->St->Option α}{r:α}(h:Hd P st t (st.ev x) (st.ev ix) k=some r):nU P base ⟨dst, .index t x ix,ty,pos,after,guard⟩ st k r:=by
 unfold Hd at h;obtain⟨ki,n,ei,h⟩:=qD h;split at h
 ·rename_i m te xs e1
  replace h:=jo h;obtain⟨zU,h⟩:=h
  replace h:=jn h;obtain⟨h0,h⟩:=h
  split at h
  ·rename_i y hy
   unfold QV at zU;split at zU
   ·rename_i m' e hu
    simp only[zdV,zd1] at zU;obtain⟨rfl,zU⟩:=zU;split at zU
    ·rename_i XI Nt
     simp only[zdV,zd1] at zU;obtain⟨rfl,hsz⟩:=zU;refine⟨_,_,h,lx.pure λN D w a s=>?_⟩;obtain⟨cells,h1,h2,h3⟩:=vr.1 (s.uz e1);have lq:=DF Nt hsz.symm y;obtain⟨⟨d,hd⟩,_⟩:=DE 12 e _ Nt;obtain⟨i,hi⟩:=info_of_underlying hd;obtain⟨c,h4,h5⟩:=tV (P:=P) (N:=N) (off:=n.toNat*XI.size) lq ((kO XI y _).2 (h3.2 n.toNat y hy));refine⟨c,?_,h5⟩;simp only[execOp,s.sS ei,h1,Instr.index,asIntOf,zee,zeg,zef,run_underlying hu,h0,and_self,if_true,run_sizeOf w hi,hsz,h4]
    ·cases zU
   ·cases zU
  ·cases h
 ·rename_i fs e1
  replace h:=jo h;obtain⟨zU,h⟩:=h
  obtain⟨m,_,kW,hm,h⟩:=wc h;rw[zeC] at kW;split at h
  ·rename_i v hv
   unfold Q0 at zU;split at zU
   ·rename_i m' e hu
    simp only[zdV,zd1,zew] at zU;obtain⟨rfl,zU⟩:=zU;refine⟨_,_,h,lx.pure λN D w a s=>?_⟩;obtain⟨cells,h1,h2,h3⟩:=xz.1 (s.uz e1);have lq:=zU v (zeO hv);obtain⟨_,_,hsz,d,hd⟩:=rQ lq;obtain⟨i,hi⟩:=info_of_underlying hd;have XZ:AV.dX (fs.take m)=m*P.cellsOf e:=by
     have:=zS (sz:=P.cellsOf e) (fs.take m) λu hu'=>(rQ (zU u (zeP hu'))).2.2.1;rw[this,zeh,zeQ (Nat.le_of_lt kW)]
    have hr:=qA fs m v _ hv h3;rw[XZ] at hr;obtain⟨c,h4,h5⟩:=tV (P:=P) (N:=N) (off:=m*P.cellsOf e) lq hr;refine⟨c,?_,h5⟩;have hn:n.toNat=m:=by omega
    simp only[execOp,s.sS ei,h1,Instr.index,asIntOf,zee,zeg,zef,run_underlying hu,show(0<=n/\n<fs.length) from⟨by omega,by omega⟩,and_self,if_true,run_sizeOf w hi,hn,h4]
   ·cases zU
  ·cases h
 ·cases h
theorem rU {s:St}{x:Option Operand}{d:Int}{k:Int->Option α}{r:α}(h:G7 s x d k=some r): ∃n,k n=some r/\((x=none/\n=d)\/∃o ki,x=some o/\s.ev o= .val (.int ki n)):=by
 unfold G7 at h;split at h
 ·exact⟨d,h, .inl ⟨rfl,rfl⟩⟩
 ·obtain⟨ki,n,e,h⟩:=qD h
  exact⟨n,h, .inr ⟨_,ki,rfl,e⟩⟩
def mL (v:Option Value)(d n:Int):Prop:=(v=none/\n=d)\/∃ki,v=some (.int ki n)
theorem mL.of {N:Names}{D:Nat->Prop}{w:World}{st:St}{a:Act}(s:kx N D w base st a){x:Option Operand}{d n:Int}(h:(x=none/\n=d)\/∃o ki,x=some o/\st.ev o= .val (.int ki n)):mL (x.map a.eval) d n:=by
 rcases h with⟨rfl,rfl⟩|⟨o,ki,rfl,e⟩
 ·exact .inl ⟨rfl,rfl⟩
 ·exact .inr ⟨ki,by simp[s.sS e]⟩
theorem za {lo hi:Option Value}{l h:Int}{sl:Bool}{len cap:Nat}(hl:mL lo 0 l)(hh:mL hi len h)(h0:0<=l)(h1:l<=h)(h2:h<=cap)(w:World):
  (Instr.sliceBounds sl len cap lo hi none).run P w= .ok (l.toNat,h.toNat,cap) w:=by
 have hbh: ∀(y:Nat) ki code,(h<=y)->(Instr.sliceBound (.int ki h) y code).run P w= .ok h.toNat w:=λy ki code hy=>run_sliceBound w ki h y code (by omega) hy
 have hbl: ∀ki code,(Instr.sliceBound (.int ki l) h.toNat code).run P w= .ok l.toNat w:=λki code=>run_sliceBound w ki l h.toNat code h0 (by omega)
 rcases hl with⟨rfl,rfl⟩|⟨kl,rfl⟩<;>rcases hh with⟨rfl,rfl⟩|⟨kh,rfl⟩
 ·simp[Instr.sliceBounds]
 ·simp[Instr.sliceBounds,hbh cap kh _ h2]
 ·have:=run_sliceBound (P:=P) w kl l len .sliceB h0 h1
  simp[Instr.sliceBounds,this]
 ·simp[Instr.sliceBounds,hbh cap kh _ h2,hbl]
theorem nW {t e:TypeId}{i:TypeInfo}(hu:P.underlying t=some (.slice e))(hi:P.info? e=some i){lo nB:Option Value}{l h:Int}{a:Option Addr}{len cap:Nat}(hl:mL lo 0 l)(hh:mL nB len h)(h0:0<=l)(h1:l<=h)(h2:h<=cap)(w:World):
  (Instr.sliceAt t (.slice a len cap) lo nB none).run P w= .ok (.slice (if cap=l.toNat then a else a.map (·.add (l.toNat*P.cellsOf e))) (h.toNat-l.toNat) (cap-l.toNat)) w:=by
 simp only[Instr.sliceAt,zee,run_underlying hu,zef,Instr.slice,za hl hh h0 h1 h2,run_sizeOf w hi,zeg]
theorem Li {t e:TypeId}{i:TypeInfo}{m:Nat}(hu:P.underlying t=some (.array m e))(hi:P.info? e=some i){lo nB:Option Value}{l h:Int}{a:Addr}(hl:mL lo 0 l)(hh:mL nB m h)(h0:0<=l)(h1:l<=h)(h2:h<=m)(w:World):
  (Instr.sliceAt t (.pointer (some a)) lo nB none).run P w= .ok (.slice (some (if m=l.toNat then a else a.add (l.toNat*P.cellsOf e))) (h.toNat-l.toNat) (m-l.toNat)) w:=by
 simp only[Instr.sliceAt,zee,run_underlying hu,zef,Instr.sureAddr,za hl hh h0 h1 h2,run_sizeOf w hi,zeg]
theorem Jg {t t' e:TypeId}{i:TypeInfo}{m:Nat}(ht:P.underlying t=some (.pointer t'))(hu:P.underlying t'=some (.array m e))(hi:P.info? e=some i){lo nB:Option Value}{l h:Int}{a:Addr}(hl:mL lo 0 l)(hh:mL nB m h)(h0:0<=l)(h1:l<=h)(h2:h<=m)(w:World):
  (Instr.sliceAt t (.pointer (some a)) lo nB none).run P w= .ok (.slice (some (if m=l.toNat then a else a.add (l.toNat*P.cellsOf e))) (h.toNat-l.toNat) (m-l.toNat)) w:=by
 simp only[Instr.sliceAt,zee,run_underlying ht,run_underlying hu,zef,Instr.slice,asAddr,za hl hh h0 h1 h2,run_sizeOf w hi,zeg]
theorem BX {t:TypeId}{m n:Nat}(ht:CU P t m n=true){lo nB:Option Value}{l h:Int}{a:Addr}(hl:mL lo 0 l)(hh:mL nB m h)(h0:0<=l)(h1:l<=h)(h2:h<=m)(w:World):
  (Instr.sliceAt t (.pointer (some a)) lo nB none).run P w= .ok (.slice (some (if m=l.toNat then a else a.add (l.toNat*n))) (h.toNat-l.toNat) (m-l.toNat)) w:=by
 unfold CU at ht;split at ht
 ·rename_i t' hp
  obtain⟨e,i,hu,hi,rfl⟩:=sy ht;exact Jg hp hu hi hl hh h0 h1 h2 w
 ·obtain⟨e,i,hu,hi,rfl⟩:=sy ht
  exact Li hu hi hl hh h0 h1 h2 w
theorem vA {b:Addr}{o n len room:Nat}{a:Addr}{l h:Nat}(h1:l<=h)(h2:h<=len)(h3:len<=room)(ha:a=Addr.at_ b o\/room=0):
  K2 (Addr.at_ b (o+l*n)) (h-l) (room-l) (.slice (if room=l then some a else(some a).map (·.add (l*n))) (h-l) (room-l)):=by
 by_cases e:room=l
 ·rw[if_pos e]
  exact⟨a,room-l,rfl,by omega,rfl, .inr (by omega)⟩
 ·rw[if_neg e]
  rcases ha with rfl|ha
  ·exact⟨_,room-l,rfl,by omega,rfl, .inl (xG _ _ _)⟩
  ·omega
end AM
namespace AM
open Go
variable {α:Type}{P:Program}{base:Nat}
theorem F8 {s:St}{id:Nat}{p:List Step}{off len:Nat}{N:Names}{D:Nat->Prop}{w:World}(S:jX N D w base s.h){nm:Nm}(hn:N id=some nm)(hp:(nm.row&&p.isEmpty)=true):F3 s id p off len=nm.len-off\/F3 s id p off len=len:=by
 unfold F3;split
 ·rename_i xs ho
  obtain⟨mG,h1,_,_,h4,_⟩:=S.obj id _ ho;rw[hn] at h1;cases h1;exact .inl (by rw[h4])
 ·exact .inr rfl
theorem OY {s:St}{id:Nat}{p:List Step}{off len:Nat}{N:Names}{D:Nat->Prop}{w:World}(S:jX N D w base s.h){nm:Nm}(hn:N id=some nm)(hp: ¬(nm.row&&p.isEmpty)=true):F3 s id p off len=len:=by
 unfold F3;split
 ·rename_i xs ho
  obtain⟨mG,h1,h2,_⟩:=S.obj id _ ho;rw[hn] at h1;cases h1;simp[h2] at hp
 ·rfl
theorem Lj {dst ty pos after guard}{t:TypeId}{x:Operand}{lo hj:Option Operand}{st:St}{k:AV->St->Option α}{r:α}(h:He P st t (st.ev x) lo hj k=some r):nU P base ⟨dst, .slice t x lo hj none,ty,pos,after,guard⟩ st k r:=by
 unfold He at h;obtain⟨l,h,hl⟩:=rU h;split at h
 ·rename_i te xs e1
  replace h:=jo h;obtain⟨wO,h⟩:=h
  obtain⟨hh,h,KI⟩:=rU h;replace h:=jn h;obtain⟨⟨h0,h1,h2⟩,h⟩:=h
  obtain⟨e,i,hu,hi,hsz⟩:=nQ wO;have Ll:XK (β:=te.den) lo hj l hh xs=(xs.take hh.toNat).drop l.toNat:=by
   rcases hl with⟨rfl,rfl⟩|⟨o,ki,rfl,_⟩<;>rcases KI with⟨rfl,rfl⟩|⟨o',ki',rfl,_⟩<;>simp[XK]
  rw[Ll] at h;refine⟨_,_,h,lx.pure λN D w a s=>?_⟩;obtain⟨ba,cap,g1,g2,g3,g4⟩:=uJ.1 (s.uz e1);simp only[zdT] at g1;have jL:=nW (P:=P) (a:=ba) (len:=aQ (β:=te.den) xs) (cap:=cap) hu hi (mL.of s hl) (mL.of s KI) h0 h1 (by simp only[aQ] at g2⊢;omega) w
  refine⟨_,by simp only[execOp,g1,zee,zeR,jL,zef,zeg];rfl,uJ.2 ?_⟩
  have hlen:aQ (β:=te.den) ((xs.take hh.toNat).drop l.toNat)=hh.toNat-l.toNat:=by
   simp only[aQ,zei,zeh];simp only[aQ] at g2;omega
  refine⟨_,_,by rw[hlen],by rw[hlen];simp only[aQ] at g2;omega,?_,?_⟩
  ·intro hn
   split at hn
   ·rw[g3 hn];omega
   ·cases hb:ba with
    |none=>rw[g3 hb];omega
    |some b=>rw[hb] at hn;cases hn
  ·intro ad Fo lV
   rw[hlen] at lV;split at Fo
   ·exfalso;simp only[aQ] at g2;omega
   ·cases hb:ba with
    |none=>rw[hb] at Fo;cases Fo
    |some b=>
     rw[hb] at Fo;simp only[zd2,zdT] at Fo;obtain⟨f1,f2,f3⟩:=g4 b hb (by simp only[aQ];omega)
     obtain⟨bb,oo,sp⟩:=b;simp only at f1;subst f1;rw[ow] at Fo;subst Fo;refine⟨rfl,f2,λj y hy=>?_⟩;have Z9:jW (β:=te.den) xs (l.toNat+j)=some y:=by
      simp only[jW] at hy⊢;rw[zek,zej] at hy;split at hy
      ·exact hy
      ·cases hy
     have:=f3 _ y Z9;rw[hsz];have e2:(λq=>aZ w ⟨bb,oo,none⟩ ((l.toNat+j)*te.size+q))=λq=>aZ w ⟨bb,oo+l.toNat*te.size,none⟩ (j*te.size+q):=by
      funext q;simp only[aZ,zd7,zd8]
     rw[<-e2];exact this
 ·rename_i e1
  replace h:=jo h;obtain⟨wO,h⟩:=h
  obtain⟨hh,h,KI⟩:=rU h;obtain⟨⟨Fw,hh0⟩,hk⟩:=jn h;subst Fw;subst hh0;unfold WL at wO;split at wO
  ·rename_i e hu
   obtain⟨i,hi⟩:=Option.isSome_iff_exists.1 wO;refine⟨_,_,hk,lx.pure λN D w a s=>?_⟩;have jL:=nW (P:=P) (a:=none) (len:=0) (cap:=0) hu hi (mL.of s hl) (mL.of s KI) (zeS _) (zeS _) (zeS _) w;exact⟨_,by simp only[execOp,s.sS e1,zee,zeR,jL,zef,zeg];rfl,ek.2 (by simp)⟩
  ·cases wO
 ·rename_i id off e1
  split at h
  ·rename_i ro te xs ho
   replace h:=jo h;obtain⟨wO,h⟩:=h
   obtain⟨e,i,hu,hi,hsz⟩:=nQ wO;split at h
   ·replace h:=jn h;obtain⟨⟨h0,h1⟩,h⟩:=h
    refine⟨_,_,h,lx.pure λN D w a s=>?_⟩;have hv:=s.uz e1;unfold cw at hv;simp only[AV.isAgg,jz,aq] at hv;obtain⟨nm,g1,g2,g3,g4,g5⟩:=hv;obtain⟨mG,i1,i2,i3,i4,_⟩:=s.nw.obj id _ ho;rw[g1] at i1;cases i1;cases hb:nm.base with
    |none=>
     rw[hb] at g5;obtain⟨g5,g6⟩:=g5;simp only[zdT] at g6;have Fw:l=0:=by simp only[aQ] at i4;omega
     subst Fw;have jL:=nW (P:=P) (a:=none) (len:=0) (cap:=0) hu hi (mL.of s hl) (nB:=none) (.inl ⟨rfl,rfl⟩) (zeS _) (zeS _) (zeS _) w;refine⟨_,by simp only[execOp,g6,zee,zeR,jL,zef,zeg];rfl,?_⟩
     unfold cw;simp only[AV.isAgg,jz,aq];refine⟨nm,g1,g2,by simpa using g3,g4,?_⟩
     rw[hb];exact⟨g5,by simp⟩
    |some ba=>
     rw[hb] at g5;obtain⟨v,room,g6,g7,a',cap,rfl,g8,rfl,g9⟩:=g5;simp only[zdT] at g6;have hlen:(l:Int)<=((nm.len-off:Nat):Int):=by rw[i4];exact h1
     have jL:=nW (P:=P) (a:=some a') (len:=nm.len-off) (cap:=cap) hu hi (mL.of s hl) (nB:=none) (h:=((nm.len-off:Nat):Int)) (.inl ⟨rfl,rfl⟩) h0 hlen (by omega) w
     refine⟨_,by simp only[execOp,g6,zee,zeR,jL,zef,zeg];rfl,?_⟩
     unfold cw;simp only[AV.isAgg,jz,aq];refine⟨nm,g1,g2,by omega,g4,?_⟩
     rw[hb];have:=vA (b:=ba) (n:=nm.sh.size) (l:=l.toNat) (h:=nm.len-off) (by omega) (zd9 _) g8 g9
     refine⟨_,cap-l.toNat,rfl,by omega,?_⟩
     rw[zdP,hsz,show nm.len-(l.toNat+off)=nm.len-off-l.toNat by omega,show(l.toNat+off)*nm.sh.size=off*nm.sh.size+l.toNat*nm.sh.size by rw[zd7,zeF]]
     rw[i3,iL] at this⊢;exact this
   ·rename_i nB
    obtain⟨kh,hh,eh,h⟩:=qD h;replace h:=jn h;obtain⟨⟨h0,h1,h2⟩,h⟩:=h
    refine⟨_,_,h,lx.pure λN D w a s=>?_⟩;have hv:=s.uz e1;unfold cw at hv;simp only[AV.isAgg,jz,aq] at hv;obtain⟨nm,g1,g2,g3,g4,g5⟩:=hv;obtain⟨mG,i1,i2,i3,i4,_⟩:=s.nw.obj id _ ho;rw[g1] at i1;cases i1;cases hb:nm.base with
    |none=>
     rw[hb] at g5;obtain⟨g5,g6⟩:=g5;simp only[zdT] at g6;have Fw:l=0/\hh=0:=by simp only[aQ] at i4;omega
     obtain⟨rfl,rfl⟩:=Fw;have jL:=nW (P:=P) (a:=none) (len:=0) (cap:=0) hu hi (mL.of s hl) (nB:=some (.int kh 0)) (.inr ⟨kh,rfl⟩) (zeS _) (zeS _) (zeS _) w;refine⟨_,by simp only[execOp,g6,zee,zeR,zd2,s.sS eh,jL,zef,zeg];rfl,?_⟩
     unfold cw;simp only[AV.isAgg,jz,aq];refine⟨nm,g1,?_⟩;rw[hb];exact⟨by simp[g2],by simp;omega,by simp,g5,by simp⟩
    |some ba=>
     rw[hb] at g5;obtain⟨v,room,g6,g7,a',cap,rfl,g8,rfl,g9⟩:=g5;simp only[zdT] at g6;have hlen:(hh:Int)<=((nm.len-off:Nat):Int):=by rw[i4];exact h2
     have jL:=nW (P:=P) (a:=some a') (len:=nm.len-off) (cap:=cap) hu hi (mL.of s hl) (nB:=some (.int kh hh)) (.inr ⟨kh,rfl⟩) h0 h1 (by omega) w
     refine⟨_,by simp only[execOp,g6,zee,zeR,zd2,s.sS eh,jL,zef,zeg];rfl,?_⟩
     unfold cw;simp only[AV.isAgg,jz,aq];refine⟨nm,g1,?_⟩;rw[hb];simp only;rw[if_pos (by simp[g2])]
     have:=vA (b:=ba) (n:=nm.sh.size) (l:=l.toNat) (h:=hh.toNat) (by omega) (by omega) g8 g9
     refine⟨by omega,g4,_,cap-l.toNat,rfl,by omega,by omega,?_⟩
     rw[hsz,show(l.toNat+off)*nm.sh.size=off*nm.sh.size+l.toNat*nm.sh.size by rw[zd7,zeF],show(hh-l).toNat=hh.toNat-l.toNat by omega]
     rw[i3,iL] at this⊢;exact this
  ·cases h
 ·rename_i id p off len e1
  split at h
  ·rename_i m XW
   replace h:=jo h;obtain⟨wO,h⟩:=h
   obtain⟨hh,h,KI⟩:=rU h;replace h:=jn h;obtain⟨⟨h0,h1,h2⟩,h⟩:=h
   obtain⟨e,i,hu,hi,hsz⟩:=nQ wO;refine⟨_,_,h,lx.pure λN D w a s=>?_⟩;have hv:=s.uz e1;unfold cw at hv;simp only[AV.isAgg,jz,aq] at hv;obtain⟨nm,g1,g3⟩:=hv;cases g2:nm.base with
   |none=>
    rw[g2] at g3;obtain⟨g3,rfl,rfl,g4,g6⟩:=g3;simp only[zdT] at g6;have hrm:=F8 (p:=p) (off:=0) (len:=0) s.nw g1 g3;have Fw:l=0/\hh=0:=by omega
    obtain⟨rfl,rfl⟩:=Fw;have jL:=nW (P:=P) (a:=none) (len:=0) (cap:=0) hu hi (mL.of s hl) (mL.of s KI) (zeS _) (zeS _) (zeS _) w;refine⟨_,by simp only[execOp,g6,zee,zeR,jL,zef,zeg];rfl,?_⟩
    unfold cw;simp only[AV.isAgg,jz,aq];refine⟨nm,g1,?_⟩;rw[g2];exact⟨g3,by simp,by simp,g4,by simp⟩
   |some ba=>
   rw[g2] at g3;simp only at g3;rcases BW XW s.nw g1 with⟨hp,Hu⟩|⟨hp,m',e',Hu,XX⟩
   ·rw[if_pos hp] at g3
    obtain⟨g4,g5,v,room,g6,g7,g8,a',cap,rfl,g9,rfl,XY⟩:=g3;simp only[zdT] at g6;have hrm:=F8 (off:=off) (len:=len) s.nw g1 hp;have jL:=nW (P:=P) (a:=some a') (len:=len) (cap:=cap) hu hi (mL.of s hl) (mL.of s KI) h0 h1 (by omega) w
    refine⟨_,by simp only[execOp,g6,zee,zeR,jL,zef,zeg];rfl,?_⟩
    unfold cw;simp only[AV.isAgg,jz,aq];refine⟨nm,g1,?_⟩;rw[g2];simp only;rw[if_pos hp];have:=vA (b:=ba) (n:=nm.sh.size) (l:=l.toNat) (h:=hh.toNat) (len:=cap) (by omega) (by omega) (zd9 _) XY
    refine⟨by omega,g5,_,cap-l.toNat,rfl,by omega,by omega,?_⟩
    rw[hsz,show(l.toNat+off)*nm.sh.size=off*nm.sh.size+l.toNat*nm.sh.size by rw[zd7,zeF],show(hh-l).toNat=hh.toNat-l.toNat by omega]
    rw[Hu] at this⊢;exact this
   ·rw[if_neg hp] at g3
    obtain⟨o,m2,e2,v,room,g4,Jf,g7,g8,g9,a',cap,rfl,XY,rfl,g11⟩:=g3;simp only[zdT] at g8;rw[Jf] at Hu;cases Hu;rw[OY s.nw g1 hp] at h2;have jL:=nW (P:=P) (a:=some a') (len:=len) (cap:=cap) hu hi (mL.of s hl) (mL.of s KI) h0 h1 (by omega) w
    refine⟨_,by simp only[execOp,g8,zee,zeR,jL,zef,zeg];rfl,?_⟩
    unfold cw;simp only[AV.isAgg,jz,aq];refine⟨nm,g1,?_⟩;rw[g2];simp only;rw[if_neg hp];have:=vA (b:=ba) (n:=e'.size) (l:=l.toNat) (h:=hh.toNat) (by omega) (by omega) XY g11
    refine⟨o,m',e',_,cap-l.toNat,g4,Jf,by omega,rfl,by omega,?_⟩
    rw[hsz,show o+(l.toNat+off)*e'.size=o+off*e'.size+l.toNat*e'.size by rw[zd7,zd8,zeF (l.toNat*e'.size)],show(hh-l).toNat=hh.toNat-l.toNat by omega]
    rw[XX] at this⊢;exact this
  ·cases h
 ·rename_i id p e1
  split at h
  ·rename_i m e' hs
   replace h:=jo h;obtain⟨wO,h⟩:=h
   obtain⟨hh,h,KI⟩:=rU h;replace h:=jn h;obtain⟨⟨h0,h1,h2⟩,h⟩:=h
   refine⟨_,_,h,lx.pure λN D w a s=>?_⟩;obtain⟨nm,ad,o,g1,g2,g3,g4⟩:=ju.1 (s.uz e1);have Jf:=nP hs s.nw g1;have jL:=BX (P:=P) (a:=Addr.at_ ad o) wO (mL.of s hl) (mL.of s KI) h0 h1 h2 w;refine⟨_,by simp only[execOp,g4,zee,zeR,jL,zef,zeg];rfl,?_⟩
   unfold cw;simp only[AV.isAgg,jz,aq];refine⟨nm,g1,?_⟩;rw[g2];simp only;have hp: ¬(nm.row&&p.isEmpty)=true:=by
    intro hp;simp only[zdV,zeo] at hp;simp[Nm.KF,hp.1,hp.2] at Jf
   rw[if_neg hp];have:=vA (b:=ad) (o:=o) (n:=e'.size) (l:=l.toNat) (h:=hh.toNat) (len:=m) (room:=m) (a:=Addr.at_ ad o) (by omega) (by omega) (zd9 _) (.inl rfl)
   refine⟨o,m,e',_,m-l.toNat,g3,Jf,by omega,rfl,by omega,?_⟩
   rw[show(hh-l).toNat=hh.toNat-l.toNat by omega]
   by_cases hm:m=l.toNat
   ·rw[if_pos hm] at this⊢;exact this
   ·rw[if_neg hm] at this⊢;exact this
  ·cases h
 ·rename_i m te xs e1
  replace h:=jo h;obtain⟨wO,h⟩:=h
  obtain⟨hh,h,KI⟩:=rU h;replace h:=jn h;obtain⟨⟨h0,h1,h2⟩,h⟩:=h
  refine⟨_,_,h,lx.pure λN D w a s=>?_⟩;obtain⟨ad,g1,g2,g3,g4⟩:=qC.1 (s.uz e1);have jL:=BX (P:=P) (a:=ad) wO (mL.of s hl) (mL.of s KI) h0 h1 h2 w;refine⟨_,by simp only[execOp,g1,zee,zeR,jL,zef,zeg];rfl,uJ.2 ?_⟩
  simp only[aq] at g4;obtain⟨g5,g6⟩:=g4;have hlen:aQ (β:=te.den) ((xs.take hh.toNat).drop l.toNat)=hh.toNat-l.toNat:=by
   simp only[aQ,zei,zeh];simp only[aQ] at g5;omega
  refine⟨_,_,by rw[hlen],by rw[hlen];omega,λh=>(by cases h),?_⟩
  intro ad' Fo lV;rw[hlen] at lV;rw[if_neg (by omega)] at Fo
  simp only[zdT] at Fo;obtain⟨bb,oo,sp⟩:=ad;simp only at g2;subst g2;rw[ow] at Fo;subst Fo;refine⟨rfl,g3,λj y hy=>?_⟩;have Z9:jW (β:=te.den) xs (l.toNat+j)=some y:=by
   simp only[jW] at hy⊢;rw[zek,zej] at hy;split at hy
   ·exact hy
   ·cases hy
  have:=g6 _ y Z9;have e2:(λq=>aZ w ⟨bb,oo,none⟩ ((l.toNat+j)*te.size+q))=λq=>aZ w ⟨bb,oo+l.toNat*te.size,none⟩ (j*te.size+q):=by
   funext q;simp only[aZ,zd7,zd8]
  rw[<-e2];exact this
 ·cases h
theorem Jh {dst ty pos after guard}{t:TypeId}{x mx:Operand}{lo hj:Option Operand}{st:St}{k:AV->St->Option α}{r:α}(h:Dn P st t (st.ev x) lo hj mx k=some r):nU P base ⟨dst, .slice t x lo hj (some mx),ty,pos,after,guard⟩ st k r:=by
 unfold Dn at h;obtain⟨l,h,hl⟩:=rU h;split at h
 ·cases h
 obtain⟨kh,hh,eh,h⟩:=qD h;obtain⟨km,m,em,h⟩:=qD h;split at h
 ·rename_i id off e1
  split at h
  ·rename_i ro te xs ho
   replace h:=jo h;obtain⟨wO,h⟩:=h
   obtain⟨e,i,hu,hi,hsz⟩:=nQ wO;replace h:=jn h;obtain⟨⟨h0,h1,h2,h3⟩,h⟩:=h
   refine⟨_,_,h,lx.pure λN D w a s=>?_⟩;have hv:=s.uz e1;unfold cw at hv;simp only[AV.isAgg,jz,aq] at hv;obtain⟨nm,g1,g2,g3,g4,g5⟩:=hv;obtain⟨mG,i1,i2,i3,i4,_⟩:=s.nw.obj id _ ho;rw[g1] at i1;cases i1;have hx: ∃b n c,a.eval x= .slice b n c/\m<=c:=by
    cases hb:nm.base with
    |none=>
     rw[hb] at g5;obtain⟨g5,g6⟩:=g5;simp only[zdT] at g6;exact⟨_,_,_,g6,by simp only[aQ] at i4;omega⟩
    |some ba=>
     rw[hb] at g5;obtain⟨v,room,g6,g7,a',cap,rfl,g8,rfl,g9⟩:=g5;simp only[zdT] at g6;exact⟨_,_,_,g6,by simp only[aQ] at i4;omega⟩
   obtain⟨b,n,c,hx,hmc⟩:=hx;have r1:(Instr.sliceBound (.int km m) c .slice3Acap).run P w= .ok m.toNat w:=run_sliceBound w km m c .slice3Acap (by omega) hmc
   have r2:(Instr.sliceBound (.int kh hh) m.toNat .slice3B).run P w= .ok hh.toNat w:=run_sliceBound w kh hh m.toNat .slice3B (by omega) (by omega)
   have hb:(Instr.sliceBounds true n c (lo.map a.eval) (some (.int kh hh)) (some (.int km m))).run P w= .ok (l.toNat,hh.toNat,m.toNat) w:=by
    rcases mL.of s hl with⟨q1,rfl⟩|⟨kl,q1⟩
    ·rw[q1];simp[Instr.sliceBounds,r1,r2]
    ·have r3:(Instr.sliceBound (.int kl l) hh.toNat .slice3C).run P w= .ok l.toNat w:=run_sliceBound w kl l hh.toNat .slice3C h0 (by omega)
     rw[q1];simp[Instr.sliceBounds,r1,r2,r3]
   refine⟨_,by simp only[execOp,hx,zee,zd2,s.sS eh,s.sS em,Instr.sliceAt,run_underlying hu,zef,Instr.slice,hb,run_sizeOf w hi,zeg];rfl,pb⟩
  ·cases h
 ·cases h
end AM
namespace AM
open Go
variable {α:Type}{P:Program}{base:Nat}
def eg (N:Names)(D:Nat->Prop)(w:World)(t:Ty)(xs:List t.den)(g:Nat->Option Value):Prop:= ∀i (x:t.den),jW (β:=t.den) xs i=some x->iy N D w t x (λj=>g (i*t.size+j))
theorem Rk {i n s j:Nat}(hi:i<n)(hj:j<s):i*s+j<n*s:=by
 have:(i+1)*s<=n*s:=zd6 _ hi;rw[zd7] at this;omega
theorem iy.func {N:Names}{D:Nat->Prop}{w:World}{t:Ty}{x:t.den}{g g':Nat->Option Value}(h:iy N D w t x g)(e: ∀j,g j=g' j):iy N D w t x g':=by
 rw[<-funext e];exact h
section
variable {N:Names}{D:Nat->Prop}{w:World}{t:Ty}
theorem ym {xs:List t.den}{i:Nat}{x:t.den}(h:jW (β:=t.den) xs i=some x):i<aQ (β:=t.den) xs:=(List.getElem?_eq_some_iff.1 h).1
theorem eg.congr {xs:List t.den}{g g':Nat->Option Value}(h:eg N D w t xs g)(e: ∀j,j<aQ (β:=t.den) xs*t.size->g j=g' j):eg N D w t xs g':=
 λi x hx=>jm t x _ _ (λj hj=>e _ (Rk (ym hx) hj)) (h i x hx)
theorem eg.mono {D':Nat->Prop}{w':World}{xs:List t.den}{g:Nat->Option Value}(h:eg N D w t xs g)(hD: ∀b,D b->D' b)(hw: ∀b,D b->w'.heap[b]?=w.heap[b]?):eg N D' w' t xs g:=
 λi x hx=>kC (Names.le_refl _) hD hw _ _ _ (h i x hx)
theorem eg.Nu {N':Names}{D':Nat->Prop}{w':World}{xs:List t.den}{g:Nat->Option Value}(h:eg N D w t xs g)(hN:N.le N')(hD: ∀b,D b->D' b)(hw: ∀b,D b->w'.heap[b]?=w.heap[b]?):eg N' D' w' t xs g:=
 λi x hx=>kC hN hD hw _ _ _ (h i x hx)
theorem eg.cell {xs:List t.den}{g:Nat->Option Value}(h:eg N D w t xs g){j:Nat}(hj:j<aQ (β:=t.den) xs*t.size): ∃c,g j=some c/\c.oneCell'=true:=
 rP (.arr (aQ (β:=t.den) xs) t) xs g ⟨rfl,h⟩ j hj
theorem eg.cells {xs:List t.den}{g:Nat->Option Value}(h:eg N D w t xs g): ∃cs:List Value,cs.length=aQ (β:=t.den) xs*t.size/\(∀j v,cs[j]?=some v->g j=some v)/\eg N D w t xs (cs[·]?)/\∀v∈cs,v.oneCell'=true:=by
 refine⟨(List.range (aQ (β:=t.den) xs*t.size)).map λj=>(g j).getD Go.undef,by simp,λj v hv=>?_,h.congr λj hj=>?_,λv hv=>?_⟩
 ·simp only[zeT,zeJ] at hv
  obtain⟨i,hi,rfl⟩:=hv;obtain⟨hi1,hi2⟩:=List.getElem?_eq_some_iff.1 hi;simp at hi1 hi2;subst hi2;obtain⟨c,h1,_⟩:=h.cell hi1;rw[h1];rfl
 ·obtain⟨c,h1,_⟩:=h.cell hj
  simp[hj,h1]
 ·simp only[List.mem_map,List.mem_range] at hv
  obtain⟨j,hj,rfl⟩:=hv;obtain⟨c,h1,h2⟩:=h.cell hj;rw[h1];exact h2
theorem eg.nil {g:Nat->Option Value}:eg N D w t [] g:=λi x hx=>by simp[jW] at hx
theorem eg.append {xs ys:List t.den}{g:Nat->Option Value}(h1:eg N D w t xs g)(h2:eg N D w t ys (λj=>g (aQ (β:=t.den) xs*t.size+j))):eg N D w t (xs++ys:List t.den) g:=by
 intro i x hx;by_cases hi:i<aQ (β:=t.den) xs
 ·exact h1 i x (by simp only[jW] at hx⊢;rwa [zeD hi] at hx)
 ·have BS:jW (β:=t.den) ys (i-aQ (β:=t.den) xs)=some x:=by
   simp only[jW] at hx⊢;rwa [zeE (Nat.le_of_not_lt hi)] at hx
  have:=h2 _ x BS;refine this.func λj=>?_;simp only;rw[<-zd8,<-zd7,Nat.add_sub_cancel' (Nat.le_of_not_lt hi)]
theorem eg.rk {xs ys:List t.den}{cs ds:List Value}(h1:eg N D w t xs (cs[·]?))(hl:cs.length=aQ (β:=t.den) xs*t.size)(h2:eg N D w t ys (ds[·]?)):eg N D w t (xs++ys:List t.den) ((cs++ds)[·]?):=by
 refine eg.append (h1.congr λj hj=>?_) ?_
 ·rw[zeD (by omega)]
 ·have e:(λj=>(cs++ds)[aQ (β:=t.den) xs*t.size+j]?)=(ds[·]?):=by
   funext j
   rw[<-hl,zeE (by omega),Nat.add_sub_cancel_left]
  rw[e];exact h2
theorem eg.more {xs:List t.den}{cs ds:List Value}(h1:eg N D w t xs (cs[·]?))(hl:cs.length=aQ (β:=t.den) xs*t.size):eg N D w t xs ((cs++ds)[·]?):=
 h1.congr λj hj=>by rw[zeD (by omega)]
theorem eg.take {xs:List t.den}{g:Nat->Option Value}(n:Nat)(h:eg N D w t xs g):eg N D w t (xs.take n:List t.den) g:=λi x hx=>h i x (by
 simp only[jW] at hx⊢;rw[zej] at hx;split at hx
 ·exact hx
 ·cases hx)
theorem eg.drop {xs:List t.den}{g:Nat->Option Value}(n:Nat)(h:eg N D w t xs g):eg N D w t (xs.drop n:List t.den) (λj=>g (n*t.size+j)):=λi x hx=>by
 have:=h (n+i) x (by simp only[jW] at hx⊢;rwa [zek] at hx)
 rw[show(λj=>g (n*t.size+(i*t.size+j)))=λj=>g ((n+i)*t.size+j) by funext j;rw[zd7,zd8]]
 exact this
theorem eg.Ji (n:Nat){z:Array Value}(hz:z.toList=mV t (iA t)){g:Nat->Option Value}(hg: ∀j,j<n*t.size->g j=z[j%t.size]?):eg N D w t (List.replicate n (iA t)) g:=by
 intro i x hx;have hi:i<n:=by have:=ym hx;simpa [aQ] using this
 simp only[jW,zeH,hi,if_true,zdT] at hx;subst hx;refine rR t _ λj hj=>?_;rw[hg _ (Rk hi hj),Nat.mul_comm,Nat.mul_add_mod,Nat.mod_eq_of_lt hj,<-hz];simp
end
def Rl (N:Names)(D:Nat->Prop)(w:World)(t:Ty)(xs:List t.den)(c:Value):Prop:= ∃a cap,c= .slice a (aQ (β:=t.den) xs) cap/\aQ (β:=t.den) xs<=cap/\(a=none->cap=0)/\∀ad,a=some ad->aQ (β:=t.den) xs≠0->ad.spot=none/\eg N D w t xs (aZ w ad)
theorem we {N:Names}{D:Nat->Prop}{w:World}{t:Ty}{xs:List t.den}{a:Addr}{off len room:Nat}{v:Value}(hx:eg N D w t xs (aZ w a))
  (hv:K2 (Addr.at_ a (off*t.size)) len room v) (hl:off+len<=aQ (β:=t.den) xs):Rl N D w t ((xs.drop off).take len:List t.den) v:=by
 obtain⟨a',cap,rfl,h1,rfl,h2⟩:=hv;have e:aQ (β:=t.den) ((xs.drop off).take len)=len:=by simp only[aQ,zeh,zei];simp only[aQ] at hl;omega
 refine⟨some a',cap,by rw[e],by rw[e];exact h1,(by intro h;cases h),λad Fo lV=>?_⟩
 cases Fo;rw[e] at lV;rcases h2 with rfl|h2
 ·refine⟨rfl,?_⟩
  have:=(hx.drop off).take len;have e2:(λj=>aZ w a (off*t.size+j))=aZ w (Addr.at_ a (off*t.size)):=by
   funext j;simp only[aZ,Addr.at_,zd8]
  rw[<-e2];exact this
 ·omega
theorem uM {s:St}{t:Ty}{v:AV}{k:List t.den->List Nat->Option α}{r:α}(h:qg s t v k=some r):
  ∃xs ids,k xs ids=some r/\∀N D w base,jX N D w base s.h->∀c,cw N D w v c->Rl N D w t xs c:=by
 unfold qg at h;split at h
 ·rename_i t' zs
  split at h
  ·rename_i ys hc
   obtain⟨rfl,rfl⟩:=iY hc;refine⟨_,_,h,λN D w base S c hv=>?_⟩;obtain⟨a,cap,h1,h2,h3,h4⟩:=uJ.1 hv;simp only[zdT] at h1;exact⟨a,cap,h1,h2,h3,λad ha lV=>⟨(h4 ad ha lV).1,(h4 ad ha lV).2.2⟩⟩
  ·cases h
 ·refine⟨_,_,h,λN D w base S c hv=>?_⟩
  rw[ek.1 hv];exact⟨none,0,rfl,by simp[aQ],λ_=>rfl,(by intro ad ha;cases ha)⟩
 ·rename_i id off
  split at h
  ·rename_i ro t' xs ho
   split at h
   ·rename_i ys hc
    obtain⟨rfl,rfl⟩:=iY hc;refine⟨_,_,h,λN D w base S c hv=>?_⟩;simp only[cw,AV.isAgg,jz,aq] at hv;obtain⟨nm,h1,h2,h3,h4,h5⟩:=hv;obtain⟨mG,e1,e2,e3,e4,e5,e6⟩:=S.obj id _ ho;rw[h1] at e1;cases e1;cases hb:nm.base with
    |none=>
     rw[hb] at h5;obtain⟨h6,h7⟩:=h5;have Hn:aQ (β:=t'.den) ys=0:=by omega
     have hxe:ys=[]:=zem Hn;subst hxe;simp only[zdT] at h7;subst h7;exact⟨none,0,by simp[aQ],by simp[aQ],λ_=>rfl,(by intro ad ha;cases ha)⟩
    |some a=>
     rw[hb] at h5 e6;obtain⟨u,room,h6,h7,h8⟩:=h5;simp only[zdT] at h6;subst h6;obtain⟨_,_,_,yj⟩:=e6;rw[e3,iL] at h8;have:=we (off:=off) (len:=nm.len-off) yj h8 (by omega)
     rwa [zen (by simp only[aQ] at e4;simp;omega)] at this
   ·cases h
  ·cases h
 ·rename_i id p off len
  split at h
  ·rename_i mI
   simp only[zdV,zeo] at mI;obtain⟨rfl,mI⟩:=mI;split at h;rotate_left
   ·cases h
   rename_i ro t' xs ho;split at h
   ·rename_i ys hc
    obtain⟨rfl,rfl⟩:=iY hc;refine⟨_,_,h,λN D w base S c hv=>?_⟩;simp only[cw,AV.isAgg,jz,aq] at hv;obtain⟨nm,h1,hv⟩:=hv;obtain⟨mG,e1,e2,e3,e4,e5,e6⟩:=S.obj id _ ho;rw[h1] at e1;cases e1;cases h2:nm.base with
    |none=>
     rw[h2] at hv;obtain⟨_,rfl,rfl,_,h7⟩:=hv;simp only[zdT] at h7;subst h7;exact⟨none,0,by simp[aQ],by simp[aQ],λ_=>rfl,(by intro ad ha;cases ha)⟩
    |some a=>
    rw[h2] at hv;simp only at hv;rw[if_pos (by simp[e2])] at hv
    obtain⟨h4,h5,u,room,h6,h7,h8,h9⟩:=hv;rw[h2] at e6;simp only[zdT] at h6;subst h6;obtain⟨_,_,_,yj⟩:=e6;rw[e3,iL] at h9;exact we (off:=off) (len:=len) yj h9 (by omega)
   ·cases h
  ·rename_i mI
   obtain⟨u,h,yz,qO⟩:=pB h;split at h;rotate_left
   ·cases h
   rename_i n t' xs;split at h;rotate_left
   ·cases h
   rename_i ys hc;obtain⟨rfl,rfl⟩:=iY hc;refine⟨_,_,h,λN D w base S c hv=>?_⟩;simp only[cw,AV.isAgg,jz,aq] at hv;obtain⟨nm,h1,hv⟩:=hv;have KG:=xB (by simpa using mI) yz S h1
   cases h2:nm.base with
   |none=>
    rw[h2] at hv;obtain⟨h3,_⟩:=hv;rw[KG] at h3;cases h3
   |some a=>
    rw[h2] at hv;simp only at hv;rw[if_neg (by rw[KG];simp)] at hv
    obtain⟨o,n',e,u,room,h3,h4,h5,h6,h7,h8⟩:=hv;simp only[zdT] at h6;subst h6;obtain⟨g1,g2,_⟩:=qO N D w base S nm a o h1 h2 h3;simp only[aq,iy] at g2;have KH:=A3 yz S h1;rw[h4] at KH;simp only[AV.sh,zdT,Sh.arr.injEq] at KH;obtain⟨rfl,rfl⟩:=KH;have hlen:aQ (β:=t'.den) ys=n':=g2.1;refine we (a:=Addr.at_ a o) (off:=off) (len:=len) (room:=room) (λi x hi=>?_) (by rw[iL] at h8;simpa [Addr.at_,zd8] using h8) (by omega)
    refine jm _ _ _ _ (λj _=>?_) (g2.2 i x hi);simp only[aZ,Addr.at_,zd8]
 ·cases h
theorem jX.Rm {N:Names}{D:Nat->Prop}{w:World}{base:Nat}{h:Nat->Option fO}(S:jX N D w base h){id:Nat}(gX:h id=none)(nm:Nm):N.le (N.up λi=>if i=id then some nm else N i):=
 Names.Ra λi mG h'=>by
 by_cases e:i=id
 ·subst e;exact absurd gX (S.named _ _ h')
 ·rw[if_neg e];exact h'
theorem jX.Hv {N:Names}{D:Nat->Prop}{w:World}{base:Nat}{h:Nat->Option fO}(S:jX N D w base h){id:Nat}{t:Ty}{xs:List t.den}(gX:h id=none)(w1:World)(cells:Array Value)(ty:TypeId)(fz:Nat×Nat)(cap:Nat)
  (hw1:w1.heap=w.heap) (Re:w1.os=w.os) (htp:w1.tape=w.tape) (jv:w1.output=w.output) (hle:aQ (β:=t.den) xs<=cap) (hsz:cap*t.size<=cells.size) (hfz:fz=(0,0)\/cells.size<=fz.1/\t= .int .u8) (hr:eg N D w t xs (cells[·]?)):
   ∃N',jX N' D (w1.alloc (.cells cells ty fz)) base (kq h id (.row false t xs))/\Ext N D w h N' D (w1.alloc (.cells cells ty fz)) (kq h id (.row false t xs))/\cw N' D (w1.alloc (.cells cells ty fz)) (.tail id 0) (.slice (some ⟨w.heap.size,0,none⟩) (aQ (β:=t.den) xs) cap):=by
 have vw:(w1.alloc (.cells cells ty fz)).heap=w.heap.push (.cells cells ty fz):=by rw[<-hw1];rfl
 have qZ:(w1.alloc (.cells cells ty fz)).heap[w.heap.size]?=some (.cells cells ty fz):=by rw[vw];simp
 have mK: ∀b,b<w.heap.size->(w1.alloc (.cells cells ty fz)).heap[b]?=w.heap[b]?:=λb hb=>by rw[vw,zey,if_neg (by omega)]
 let nm:Nm:=⟨some ⟨w.heap.size,0,none⟩,sr t,true,aQ (β:=t.den) xs,cap⟩
 obtain⟨N',n1,n2,n3⟩:=S.make (w':=w1.alloc (.cells cells ty fz)) (o:= .row false t xs) (nm:=nm) gX Re htp jv (by rw[vw];simp) mK (λa ha=>by cases ha;rw[vw];simp) (by
  refine⟨nm,Names.BT,rfl,rfl,rfl,hle,?_⟩;show _/\_/\_/\_
  refine⟨rfl,⟨cells,ty,fz,qZ,by simpa [nm] using hsz,λ_=>hfz⟩,?_,λi x hx=>?_⟩
  ·simp only[zdU,if_false]
   exact⟨S.size,λhd=>Nat.lt_irrefl _ (S.frozen _ hd)⟩
  ·have e:(λj=>aZ (w1.alloc (.cells cells ty fz)) ⟨w.heap.size,0,none⟩ (i*t.size+j))=λj=>cells[i*t.size+j]?:=by
    funext j
    unfold aZ World.cell?;rw[qZ];simp
   rw[e];exact kC (S.Rm gX nm) (λ_ h=>h) (λb hb=>mK b (S.frozen b hb)) _ _ _ (hr i x hx))
 refine⟨N',n2,n3,?_⟩;unfold cw;simp only[AV.isAgg,jz,aq];refine⟨nm,n1,rfl,zeU _,hle,?_⟩;show∃v room,_
 exact⟨_,cap,rfl,by simp[nm],_,_,rfl,hle,rfl, .inl (by simp[Addr.at_])⟩
theorem zV {s:St}{id:Nat}{o:fO}{k:St->Option α}{r:α}(h:s.new id o k=some r):s.h id=none/\k (s.set id o)=some r:=by
 unfold St.new at h;split at h
 ·exact⟨‹_›,h⟩
 ·cases h
theorem Nv {s:St}{id:Nat}{t:Ty}{xs:List t.den}{k:St->Option α}{r:α}(h:s.new id (.row false t xs) k=some r):
  ∃s',k s'=some r/\s'.t=s.t/\s'.nt=s.nt/\s'.ep=s.ep/\(∀j,j≠id->s'.h j=s.h j)/\∀N D w base,jX N D w base s.h->∀(w1:World) (cells:Array Value) (ty:TypeId) (fz:Nat×Nat) (cap:Nat),
   w1.heap=w.heap->w1.os=w.os->w1.tape=w.tape->w1.output=w.output->aQ (β:=t.den) xs<=cap->cap*t.size<=cells.size->(fz=(0,0)\/cells.size<=fz.1/\t= .int .u8)->eg N D w t xs (cells[·]?)->
   ∃N',jX N' D (w1.alloc (.cells cells ty fz)) base s'.h/\Ext N D w s.h N' D (w1.alloc (.cells cells ty fz)) s'.h/\cw N' D (w1.alloc (.cells cells ty fz)) (.tail id 0) (.slice (some ⟨w.heap.size,0,none⟩) (aQ (β:=t.den) xs) cap):=by
 obtain⟨gX,hk⟩:=zV h;exact⟨_,hk,rfl,rfl,rfl,λj hj=>by simp[St.set,hj],λN D w base S w1 cells ty fz cap h1 h2 h3 h4 h5 h6 h7 h8=>S.Hv gX w1 cells ty fz cap h1 h2 h3 h4 h5 h6 h7 h8⟩
theorem tH: ∀(n:Nat) (t:TypeId) (te:Ty) (v:AV),vp P n t=some te->zeroOf P n t=some v->qT v=mV te (iA te)
 |0,_,_,_,h,_=>by simp[vp] at h
 |n+1,t,te,v,h1,h2=>by
  unfold vp at h1;unfold zeroOf at h2;split at h1
  ·rename_i k hu;rw[hu] at h2;simp only[zdT] at h1 h2;subst h1;subst h2;simp[qT,mV,iA]
  ·rename_i hu;rw[hu] at h2;simp only[zdT] at h1 h2;subst h1;subst h2;simp[qT,mV,iA]
  ·rename_i hu;rw[hu] at h2;simp only[zdT] at h1 h2;subst h1;subst h2;simp[qT,mV,iA]
  ·rename_i fs hu
   rw[hu] at h2;simp only[zeJ] at h2;obtain⟨vs,h2,rfl⟩:=h2;have key: ∀(l:List Field) (te:Ty) (vs:List AV),l.foldr (λf acc=>match vp P n f.type,acc with|some a,some b=>some (Ty.cons a b)|_,_=>none) (some .nil)=some te->
     l.foldr (λf acc=>match zeroOf P n f.type,acc with|some a,some b=>some (a::b)|_,_=>none) (some [])=some vs->rM vs=mV te (iA te):=by
    intro l;induction l with
    |nil=>intro te vs h1 h2;simp only[List.foldr_nil,zdT] at h1 h2;subst h1;subst h2;rfl
    |cons f l ih=>
     intro te vs h1 h2;simp only[zeI] at h1 h2;split at h1
     ·rename_i a b g1 g2
      simp only[zdT] at h1;subst h1;split at h2
      ·rename_i a' b' g3 g4
       simp only[zdT] at h2;subst h2;simp only[rM,tH n _ _ _ g1 g3,ih _ _ g2 g4,mV,iA]
      ·cases h2
     ·cases h1
   rw[yl];exact key _ _ _ h1 h2
  ·rename_i m e hu
   rw[hu] at h2;simp only[zeJ] at h1;obtain⟨te1,g1,rfl⟩:=h1;simp only at h2;split at h2
   ·rename_i hs
    simp only[zdT] at h2;subst h2;have hz:zeroOf P n e=some (.val (.slice none 0 0)):=by
     unfold m9 at hs;split at hs
     ·rename_i e' hu'
      cases n with
      |zero=>simp[vp] at g1
      |succ n=>unfold zeroOf;rw[hu']
     ·cases hs
    have ih:=tH n e te1 _ g1 hz;have key: ∀m,rM (List.replicate m (.val (.slice none 0 0)))=(List.replicate m (iA te1)).flatMap (mV te1):=by
     intro m;induction m with
     |zero=>rfl
     |succ m ihm=>simp only[zez,rM,zeA,ihm,ih]
    rw[yl,key];simp only[mV,iA]
   ·simp only[zeJ] at h2
    obtain⟨te2,g2,rfl⟩:=h2;rw[g1] at g2;cases g2;simp only[qT,mV,iA]
  ·rename_i e hu
   rw[hu] at h2;simp only[zeJ] at h1;obtain⟨te1,g1,rfl⟩:=h1;simp only[zdT] at h2;subst h2;simp[qT,mV,iA]
  ·rename_i hu;rw[hu] at h2;simp only[zdT] at h1 h2;subst h1;subst h2;simp[qT,mV,iA]
  ·cases h1
end AM
namespace AM
open Go
variable {α:Type}{P:Program}{base:Nat}
theorem qq {t e:TypeId}{te:Ty}(h:zD P t=some (e,te)):P.underlying t=some (.slice e)/\vp P 12 e=some te/\te.size=P.cellsOf e/\1<=P.bytesOf e/\∃i,P.info? e=some i/\i.size=te.size/\i.bytes=P.bytesOf e/\∃z,i.zero=some z/\z.cells.size=te.size:=by
 unfold zD at h;split at h
 ·rename_i e' hu
  split at h
  ·rename_i XI ht
   split at h
   ·rename_i hs
    simp only[zdT,Prod.mk.injEq] at h;obtain⟨rfl,rfl⟩:=h;obtain⟨⟨d,hd⟩,_⟩:=DE 12 _ _ ht;obtain⟨i,hi⟩:=info_of_underlying hd;refine⟨hu,ht,hs.1,hs.2.1,i,hi,?_,?_,?_⟩
    ·rw[hs.1];simp[Program.cellsOf,hi]
    ·simp[Program.bytesOf,hi]
    ·have hz:=hs.2.2
     unfold Nd at hz;split at hz
     ·rename_i z hz2
      rw[hi] at hz2;exact⟨z,hz2,by simpa using hz⟩
     ·cases hz
   ·cases h
  ·cases h
 ·cases h
theorem Hw:room=70368744177664:=by decide
theorem DG {dst ty pos after guard}{t:TypeId}{x y:Operand}{st:St}{id:Nat}(pJ:id=name st.ep (dst.getD 999) 0){k:AV->St->Option α}{r:α}(h:xq P st id t (st.ev x) (st.ev y) k=some r):nU P base ⟨dst, .makeSlice t x y,ty,pos,after,guard⟩ st k r:=by
 unfold xq at h;split at h
 ·rename_i e te he
  obtain⟨hu,Nt,hsz,hb,i,hi,vB,Rn,_⟩:=qq he;obtain⟨ka,n,ea,h⟩:=qD h;obtain⟨kb,m,eb,h⟩:=qD h;obtain⟨⟨h1,h2,h3⟩,hk⟩:=jn h;subst h1;obtain⟨v,i',z,OZ,nB,hz,X0,zb,_,_⟩:=rT hk;rw[hi] at nB;cases nB;obtain⟨s',g1,g2,g3,g4,IS,g5⟩:=Nv OZ;refine⟨_,_,g1,g2,g3,g4,λj _ hj=>IS j (λe=>by subst e;subst pJ;simp[qz,makes,rh] at hj),λN D w a s=>?_⟩
  have vC:=tH 12 e te v Nt X0;rw[<-zb] at vC;have uA:z.cells.size=te.size:=by rw[<-mZ te,<-vC];simp
  rw[Hw] at h3;have hn:n<=70368744177664:=by
   have:n*1<=n*(P.bytesOf e:Int):=Int.mul_le_mul_of_nonneg_left (by omega) h2
   omega
  have jL:=run_make (P:=P) w t e i z hu hi hz ka kb n n h2 (zeS _) (by rw[Rn,Int.mul_comm];omega) (by omega)
  obtain⟨N',n1,n2,n3⟩:=g5 N D w base s.nw w (madeCells z.cells (n.toNat*i.size)) e (0,0) n.toNat rfl rfl rfl rfl (by simp[aQ]) (by rw[size_madeCells,vB];exact zd9 _) (.inl rfl) (by
   refine eg.Ji n.toNat vC λj hj=>?_;have hp:0<te.size:=by
    rcases zed te.size with q|q
    ·rw[q] at hj;omega
    ·exact q
   have hm:j%te.size<z.cells.size:=by rw[uA];exact Nat.mod_lt _ hp
   simp only[madeCells,vB];rw[Array.getElem?_map,Array.getElem?_range,if_pos hj];rw[uA,zd2,getElem!_pos z.cells _ hm,zev hm])
  rw[show aQ (β:=te.den) (List.replicate n.toNat (iA te))=n.toNat by simp[aQ]] at n3
  refine⟨N',D,_,_, .inl ?_,n2,n1,n3⟩;simp only[execOp,s.sS ea,s.sS eb,zee,jL,zef,zeg,vB]
 ·cases h
end AM
namespace AM
open Go
variable {α:Type}{P:Program}{base:Nat}
structure xH (P:Program)(tys:Array TypeId)(rt e:TypeId)(i:TypeInfo)(z:Value)(w:World)(x:Value)(n:Nat)(cs:List Value):Prop where
 fits: ∀b pc vD,pc+n<=vD->(Builtin.append_ tys rt #[.slice b pc vD,x]).run P w=(match b with|none=> .ok (.slice b (pc+n) vD) w|some a=>((storeCells (a.add (pc*i.size)) cs).run P w).andThen λ_ w'=> .ok (.slice b (pc+n) vD) w')
 zae: ∀b pc vD,vD<pc+n->(pc+n)*i.bytes<=70368744177664->∀olds:List Value,(Builtin.firstCells i.size pc (.slice b pc vD)).run P w.drew= .ok olds.toArray w.drew->
  (Builtin.append_ tys rt #[.slice b pc vD,x]).run P w= .ok (.slice (some ⟨w.heap.size,0,none⟩) (pc+n) (grownCap w (pc+n) vD e)) (w.drew.alloc (.cells (olds++cs++(Builtin.zeroCells z.cells (grownCap w (pc+n) vD e-(pc+n))).toList).toArray e))
theorem xH.of {tys:Array TypeId}{t u rt e:TypeId}{i:TypeInfo}{z:Value}{w:World}{x:Value}{n:Nat}{cs:List Value}(h0:tys[0]?=some t)(h1:tys[1]?=some u)(ht:P.underlying t=some (.slice e))(hi:P.info? e=some i)(hz:i.zero=some z)(hb:1<=i.bytes)
  {d:TypeDesc} (hu:P.underlying u=some d) (hd: ∀k,d≠ .int k) (hl: ∀w',(Builtin.lenOf x).run P w'= .ok n w') (hf:(Builtin.firstCells i.size n x).run P w= .ok cs.toArray w) (xF:(Builtin.firstCells i.size n x).run P w.drew= .ok cs.toArray w.drew):xH P tys rt e i z w x n cs:=by
 constructor
 ·intro b pc vD lq
  simp only[Builtin.append_,h0,h1];cases b<;>simp[run_underlying ht,run_underlying hu,Go.sizeOf,typeInfo,hi,hl,lq,hf]
 ·intro b pc vD hg QM olds ho
  have X5:pc+n<=70368744177664:=by
   have:(pc+n)*1<=(pc+n)*i.bytes:=Nat.mul_le_mul_left _ hb;omega
  have h48: ¬(281474976710656<Builtin.nextslicecap (pc+n) vD*i.bytes):=by
   have:=growslice_fits (old:=vD) (need:=pc+n) (bytes:=i.bytes) hg (by omega)
   omega
  have hn: ¬(pc+n<=vD):=by omega
  have h63: ¬(9223372036854775807<((pc:Int)+(n:Int))):=by omega
  simp only[Builtin.append_,h0,h1];simp[run_underlying ht,run_underlying hu,Go.sizeOf,typeInfo,zeroValue,hi,hz,hl,hn,h63,h48,Question.forced,xF,ho,newRow,grownCap];congr 2
  apply Array.ext';simp
theorem wrap_small {n:Int}(h0:0<=n)(h1:n<=70368744177664):IntKind.i64.wrap n=n:=by rw[IntKind.wrap_i64];omega
theorem xH.Ji {tys:Array TypeId}{t u rt e:TypeId}{i:TypeInfo}{z:Value}{w:World}{n:Int}(h0:tys[0]?=some t)(h1:tys[1]?=some u)(ht:P.underlying t=some (.slice e))(hi:P.info? e=some i)(hz:i.zero=some z)(hb:1<=i.bytes)
  {k k':IntKind} (hu:P.underlying u=some (.int k)) (WY:0<=n) (O0:n*(i.bytes:Int)<=70368744177664) (hs:z.cells.size=i.size):xH P tys rt e i z w (.int k' n) n.toNat (Builtin.zeroCells z.cells n.toNat).toList:=by
 have hnn:n<=70368744177664:=by
  have:n*1<=n*(i.bytes:Int):=Int.mul_le_mul_of_nonneg_left (by omega) WY
  omega
 have hw:=wrap_small WY hnn;have UG: ¬n<0:=by omega
 have Fx: ¬(281474976710656<n*(i.bytes:Int)):=by omega
 have hzero:n.toNat*i.size=0->(Builtin.zeroCells z.cells n.toNat)= #[]:=by
  intro h;apply zeL;rw[size_zeroCells,hs];exact h
 constructor
 ·intro b pc vD lq
  simp only[Builtin.append_,h0,h1];by_cases hq:n.toNat*i.size=0
  ·cases b<;>simp[run_underlying ht,run_underlying hu,Go.sizeOf,typeInfo,hi,asInt,asIntOf,hw,UG,Fx,lq,hq,hzero hq]
  ·cases b<;>simp[run_underlying ht,run_underlying hu,Go.sizeOf,typeInfo,zeroValue,hz,hi,asInt,asIntOf,hw,UG,Fx,lq,hq]
 ·intro b pc vD hg QM olds ho
  have X5:pc+n.toNat<=70368744177664:=by
   have:(pc+n.toNat)*1<=(pc+n.toNat)*i.bytes:=Nat.mul_le_mul_left _ hb;omega
  have h48: ¬(281474976710656<Builtin.nextslicecap (pc+n.toNat) vD*i.bytes):=by
   have:=growslice_fits (old:=vD) (need:=pc+n.toNat) (bytes:=i.bytes) hg (by omega)
   omega
  have hn: ¬(pc+n.toNat<=vD):=by omega
  have h63: ¬(9223372036854775807<((pc:Int)+(n.toNat:Int))):=by omega
  have zaf: ¬(9223372036854775807<((pc:Int)+n)):=by omega
  have WZ: ¬(9223372036854775807<((pc:Int)+max n 0)):=by omega
  simp only[Builtin.append_,h0,h1];by_cases hq:n.toNat*i.size=0
  ·simp[run_underlying ht,run_underlying hu,Go.sizeOf,typeInfo,zeroValue,hi,hz,asInt,asIntOf,hw,UG,Fx,hn,h63,zaf,WZ,h48,Question.forced,hq,hzero hq,ho,newRow,grownCap]
   congr 2
   apply Array.ext';simp
  ·simp[run_underlying ht,run_underlying hu,Go.sizeOf,typeInfo,zeroValue,hi,hz,asInt,asIntOf,hw,UG,Fx,hn,h63,zaf,WZ,h48,Question.forced,hq,ho,newRow,grownCap]
   congr 2
   apply Array.ext';simp
end AM
namespace AM
open Go
variable {α:Type}{P:Program}{base:Nat}
theorem jX.move {N:Names}{D:Nat->Prop}{w w':World}{base:Nat}{h:Nat->Option fO}(S:jX N D w base h){i id:Nat}{o o':fO}{nm mG:Nm}{a a':Addr}(ho:h i=some o)(Fc:o.rw=true)(hn:N i=some nm)(hb:nm.base=some a)(gX:kq h i .dead id=none)
  (vl:mG.base=some a') (K9:a'.block=a.block)
  (Re:w'.os=w.os) (Jc:w'.tape=w.tape) (jv:w'.output=w.output) (xC:w'.heap.size=w.heap.size) (mK: ∀b,b≠a.block->w'.heap[b]?=w.heap[b]?) (na:qB (N.up λj=>if j=id then some mG else N j) D w' base id o') (Ud:o'.rw=true:=by rfl):
  ∃N':Names,N' id=some mG/\jX N' D w' base (kq (kq h i .dead) id o')/\Ext N D w h N' D w' (kq (kq h i .dead) id o'):=by
 have Nw:iR N i o a.block:=iR.of Fc hn hb;have tn:yX N h a.block:=⟨i,o,ho,Nw⟩;have hnd:=(S.tT tn).1;have hD: ∀b,D b->w'.heap[b]?=w.heap[b]?:=λb vl=>mK b (λe=>hnd (e▸vl));have lV:id≠i:=by intro e;subst e;simp[kq] at gX
 have Ln:h id=none:=by simpa only[kq,if_neg lV] using gX
 have XS:N id=none:=by
  cases e:N id with
  |none=>rfl
  |some mG=>exact absurd Ln (S.named id mG e)
 have hN:N.le (N.up λj=>if j=id then some mG else N j):=Names.Rf XS
 have La: ∀j,j≠id->(N.up λj=>if j=id then some mG else N j) j=N j:=λj e=>if_neg e
 have hold: ∀j oj b,j≠id->iR (N.up λj=>if j=id then some mG else N j) j oj b->iR N j oj b:=λj oj b e=>(iR.names (La j e) (λ_=>rfl)).1
 have DA: ∀b,iR (N.up λj=>if j=id then some mG else N j) id o' b->b=a.block:=λb hO=>by rw[iR.at_ Ud Names.BT vl hO,K9]
 have key: ∀j oj b,kq (kq h i .dead) id o' j=some oj->iR N j oj b->j≠id->j≠i/\h j=some oj:=by
  intro j oj b hj rj e;simp only[kq,if_neg e] at hj;by_cases e2:j=i
  ·subst e2;simp at hj;subst hj;exact rj.elim
  ·exact⟨e2,by simpa only[if_neg e2] using hj⟩
 refine⟨N.up λj=>if j=id then some mG else N j,Names.BT,⟨λj oj hj=>?_,?_,λb hb=>by rw[xC];exact S.frozen b hb,λj WU IT=>?_,by rw[xC];exact S.size,λg hg=>?_⟩,⟨hN,λ_ h=>h,Re,Jc,jv,by rw[xC];exact zd9 _,λb _ v8=>mK b (λe=>v8 (e▸tn)),λb _ hO=>?_,λ_ h=> .inl h,λj WU IT=>?_,λ_ h=>vu (vu h),λg hg=>⟨?_,λ_=>rfl⟩⟩⟩
 ·by_cases e:j=id
  ·subst e;simp[kq] at hj;subst hj;exact na
  ·simp only[kq,if_neg e] at hj
   by_cases e2:j=i
   ·subst e2;simp at hj;subst hj;trivial
   ·simp only[if_neg e2] at hj
    refine nO (S.obj j oj hj) hN (λ_ h=>h) hD (λb hO=>⟨mK _ (λeb=>e2 ?_),λh=>h⟩) (λ_ _ _ _=>rfl);exact S.apart j i oj o b hj ho hO (eb▸Nw)
 ·intro j1 j2 o1 o2 b h1 h2 r1 r2
  by_cases e1:j1=id<;>by_cases e2:j2=id
  ·rw[e1,e2]
  ·exfalso
   subst e1;simp[kq] at h1;subst h1;have e4:=DA b r1;have r2:=hold j2 o2 b e2 r2;obtain⟨e3,h3⟩:=key j2 o2 b h2 r2 e2;exact e3 (S.apart j2 i o2 o b h3 ho r2 (e4▸Nw))
  ·exfalso
   subst e2;simp[kq] at h2;subst h2;have e4:=DA b r2;have r1:=hold j1 o1 b e1 r1;obtain⟨e3,h3⟩:=key j1 o1 b h1 r1 e1;exact e3 (S.apart j1 i o1 o b h3 ho r1 (e4▸Nw))
  ·have r1:=hold j1 o1 b e1 r1
   have r2:=hold j2 o2 b e2 r2;exact S.apart j1 j2 o1 o2 b (key j1 o1 b h1 r1 e1).2 (key j2 o2 b h2 r2 e2).2 r1 r2
 ·by_cases e:j=id
  ·simp[kq,e]
  ·simp only[kq,if_neg e]
   rw[La j e] at IT;by_cases e2:j=i
   ·simp[e2]
   ·simp only[if_neg e2];exact S.named j WU IT
 ·by_cases e:SB+g=id
  ·simp only[kq,if_pos e] at hg
   cases o'<;>simp[AM.iK] at hg
   cases Ud
  ·simp only[kq,if_neg e] at hg
   by_cases e2:SB+g=i
   ·simp[if_pos e2,AM.iK] at hg
   ·simp only[if_neg e2] at hg;exact S.iK g hg
 ·obtain⟨j,oj,hj,rj⟩:=hO
  by_cases e:j=id
  ·subst e
   simp[kq] at hj;subst hj;rw[DA b rj];exact tn
  ·have rj:=hold j oj b e rj
   exact⟨j,oj,(key j oj b hj rj e).2,rj⟩
 ·by_cases e:j=id
  ·subst e;exact .inr Ln
  ·rw[La j e] at IT;exact .inl IT
 ·by_cases e:SB+g=id
  ·subst e;rw[Ln] at hg;cases hg
  ·by_cases e2:SB+g=i
   ·subst e2;rw[ho] at hg;cases hg;cases Fc
   ·simp only[kq,if_neg e,if_neg e2];exact hg
theorem jX.UH {N:Names}{D:Nat->Prop}{w:World}{base:Nat}{h:Nat->Option fO}(S:jX N D w base h){id:Nat}{t:Ty}{xs:List t.den}(Ll:aQ (β:=t.den) xs=0)(gX:h id=none):
  ∃N':Names,jX N' D w base (kq h id (.row false t xs))/\Ext N D w h N' D w (kq h id (.row false t xs))/\cw N' D w (.tail id 0) (.slice none 0 0):=by
 obtain⟨N',n1,n2,n3⟩:=S.make (w':=w) (o:= .row false t xs) (nm:=⟨none,sr t,true,0,0⟩) gX rfl rfl rfl (zd9 _) (λ_ _=>rfl) (λa ha=>by cases ha) ⟨_,Names.BT,rfl,rfl,Ll.symm,zd9 _,rfl⟩
 refine⟨N',n2,n3,?_⟩;unfold cw;simp only[AV.isAgg,jz,aq];exact⟨_,n1,rfl,zd9 _,zd9 _,by simp⟩
theorem yJ {N:Names}{w:World}{t:Ty}{xs:List t.den}{D:Nat->Prop}{c:Value}{cs:List Value}{size:Nat}(hs:size=t.size)(h:Rl N D w t xs c){w':World}(hw:w'.heap=w.heap)(hl:cs.length=aQ (β:=t.den) xs*t.size)(hc: ∀a n cap,c= .slice (some a) n cap->aQ (β:=t.den) xs≠0->∀j v,cs[j]?=some v->w.cell? (a.add j)=some v):
  (Builtin.firstCells size (aQ (β:=t.den) xs) c).run P w'= .ok cs.toArray w':=by
 obtain⟨a,cap,rfl,h1,h2,h3⟩:=h;subst hs;by_cases h0:aQ (β:=t.den) xs=0
 ·have yB:cs=[]:=zem (by rw[hl,h0];simp)
  subst yB;rw[h0];cases a with
  |none=>exact run_firstCells_none (P:=P) w' _ _ _ _
  |some a=>exact run_firstCells_some (P:=P) w' t.size 0 a _ cap [] (by simp) (by simp)
 ·cases a with
  |none=>have:=h2 rfl;omega
  |some a=>
   refine run_firstCells_some (P:=P) w' t.size _ a _ cap cs hl λj v hv=>?_;have:=hc a _ _ rfl h0 j v hv;rw[<-this];simp only[World.cell?,hw]
theorem Rl.cells {N:Names}{w:World}{t:Ty}{xs:List t.den}{D:Nat->Prop}{c:Value}(h:Rl N D w t xs c): ∃cs:List Value,cs.length=aQ (β:=t.den) xs*t.size/\eg N D w t xs (cs[·]?)/\(∀v∈cs,v.oneCell'=true)/\
  ∀w':World,w'.heap=w.heap->(Builtin.firstCells t.size (aQ (β:=t.den) xs) c).run P w'= .ok cs.toArray w':=by
 have h':=h;obtain⟨a,cap,rfl,h1,h2,h3⟩:=h;by_cases h0:aQ (β:=t.den) xs=0
 ·have Ll:xs=[]:=zem h0
  refine⟨[],by rw[h0];simp,?_,by simp,λw' hw=>yJ rfl h' hw (by rw[h0];simp) (by simp)⟩
  subst Ll;exact eg.nil
 ·cases a with
  |none=>have:=h2 rfl;omega
  |some a=>
   obtain⟨f1,f2⟩:=h3 a rfl h0;obtain⟨cs,g1,g2,g3,g4⟩:=f2.cells;refine⟨cs,g1,g3,g4,λw' hw=>yJ rfl h' hw g1 λa' n sA e _ j v hv=>?_⟩;cases e;obtain⟨b,o,sp⟩:=a;simp only at f1;subst f1;rw[ow];exact g2 j v hv
end AM
namespace AM
open Go
variable {α:Type}{P:Program}{base:Nat}
structure Src (P:Program)(tys:Array TypeId)(rt e:TypeId)(i:TypeInfo)(z:Value)(N:Names)(D:Nat->Prop)(w:World)(te:Ty)(ys:List te.den)(x:Value)(cs:List Value):Prop where
 app:xH P tys rt e i z w x (aQ (β:=te.den) ys) cs
 len:cs.length=aQ (β:=te.den) ys*te.size
 row:eg N D w te ys (cs[·]?)
 one: ∀v∈cs,v.oneCell'=true
def xI (P:Program)(tys:Array TypeId)(rt:TypeId)(base:Nat)(N:Names)(D:Nat->Prop)(w:World)(h:Nat->Option fO)(v x:Value)(h':Nat->Option fO)(u:AV):Prop:=
 ∃N' D' w' v',(Builtin.append_ tys rt #[v,x]).run P w= .ok v' w'/\Ext N D w h N' D' w' h'/\jX N' D' w' base h'/\cw N' D' w' u v'
section
variable {tys:Array TypeId}{rt e:TypeId}{i:TypeInfo}{z:Value}{N:Names}{D:Nat->Prop}{w:World}{te:Ty}{h:Nat->Option fO}
theorem F9 (S:jX N D w base h){id:Nat}(gX:h id=none)(vB:i.size=te.size)(uA:z.cells.size=te.size){bs ys:List te.den}{olds cs:List Value}{x:Value}{b:Option Addr}{cap:Nat}(src:Src P tys rt e i z N D w te ys x cs)
  (hg:cap<aQ (β:=te.den) bs+aQ (β:=te.den) ys) (QM:(aQ (β:=te.den) bs+aQ (β:=te.den) ys)*i.bytes<=70368744177664) (ho:(Builtin.firstCells i.size (aQ (β:=te.den) bs) (.slice b (aQ (β:=te.den) bs) cap)).run P w.drew= .ok olds.toArray w.drew)
  (X6:olds.length=aQ (β:=te.den) bs*te.size) (hor:eg N D w te bs (olds[·]?)):xI P tys rt base N D w h (.slice b (aQ (β:=te.den) bs) cap) x (kq h id (.row false te (bs++ys:List te.den))) (.tail id 0):=by
 have jL:=src.app.zae b _ cap hg QM olds ho;have sB:=grownCap_ge w (aQ (β:=te.den) bs+aQ (β:=te.den) ys) cap e;have O3:aQ (β:=te.den) (bs++ys)=aQ (β:=te.den) bs+aQ (β:=te.den) ys:=by simp[aQ]
 obtain⟨N',n1,n2,n3⟩:=S.Hv (t:=te) (xs:=(bs++ys:List te.den)) gX w.drew e (0,0) (grownCap w (aQ (β:=te.den) bs+aQ (β:=te.den) ys) cap e) rfl rfl rfl rfl (by rw[O3];exact sB)
  (cells:=(olds++cs++(Builtin.zeroCells z.cells (grownCap w (aQ (β:=te.den) bs+aQ (β:=te.den) ys) cap e-(aQ (β:=te.den) bs+aQ (β:=te.den) ys))).toList).toArray)
  (by
   simp only[List.size_toArray,zdW,X6,src.len,Array.length_toList,size_zeroCells,uA,<-zd7];exact zd6 _ (by omega)) (.inl rfl) (by
   have h1:=(hor.rk X6 src.row).more (ds:=(Builtin.zeroCells z.cells (grownCap w (aQ (β:=te.den) bs+aQ (β:=te.den) ys) cap e-(aQ (β:=te.den) bs+aQ (β:=te.den) ys))).toList) (by rw[zdW,X6,src.len,O3,zd7])
   refine h1.congr λj _=>?_;simp)
 rw[O3] at n3;exact⟨N',D,_,_,jL,n2,n1,n3⟩
theorem Nx (S:jX N D w base h){id:Nat}(gX:h id=none)(vB:i.size=te.size)(uA:z.cells.size=te.size){ys:List te.den}{cs:List Value}{x:Value}(src:Src P tys rt e i z N D w te ys x cs)
  (QM:(aQ (β:=te.den) ys)*i.bytes<=70368744177664):xI P tys rt base N D w h (.slice none 0 0) x (kq h id (.row false te ys)) (.tail id 0):=by
 by_cases hn:aQ (β:=te.den) ys=0
 ·obtain⟨N',n1,n2,n3⟩:=S.UH hn gX
  have:=src.app.fits none 0 0 (by omega)
  refine⟨N',D,w,_,this,n2,n1,by rw[hn];exact n3⟩
 ·have:=F9 (bs:=[]) (olds:=[]) (b:=none) (cap:=0) S gX vB uA src (by simp only[aQ,zdY];simp only[aQ] at hn;omega) (by simpa [aQ] using QM) (run_firstCells_none (P:=P) w.drew _ _ _ _) (by simp[aQ]) eg.nil
  simpa [aQ] using this
theorem xI.after {N':Names}{D':Nat->Prop}{w':World}{h' WT:Nat->Option fO}{v x:Value}{u:AV}(hw:w'=w)(a:xI P tys rt base N' D' w' h' v x WT u)(y:Ext N D w h N' D' w' h'):xI P tys rt base N D w h v x WT u:=by
 subst hw;obtain⟨N2,D2,w2,v2,h1,h2,h3,h4⟩:=a;exact⟨N2,D2,w2,v2,h1,y.trans h2,h3,h4⟩
theorem pf {b o:Nat}{cs:List Value}{C:Array Value}{ty:TypeId}{fz:Nat×Nat}(hb:w.heap[b]?=some (.cells C ty fz))(hz:fz=(0,0)\/C.size<=fz.1)(hl:o+cs.length<=C.size)(h1: ∀v∈cs,v.oneCell'=true):
  (storeCells ⟨b,o,none⟩ cs).run P w= .ok () (w.setCells b o cs):=by
 have:=run_storeCells_cells (P:=P) b o cs 0 w (λj hj=>iZ hb (by omega)) (λj hj=>wb hb hz (by omega)) h1
 simpa using this
theorem Ro (S:jX N D w base h){id q off:Nat}{xs:List te.den}(ho:h q=some (.row false te xs))(gX:kq h q .dead id=none)(vB:i.size=te.size)(uA:z.cells.size=te.size){ys:List te.den}{cs:List Value}{x v:Value}(src:Src P tys rt e i z N D w te ys x cs)
  (hv:cw N D w (.tail q off) v) (QM:(aQ (β:=te.den) (xs.drop off)+aQ (β:=te.den) ys)*i.bytes<=70368744177664):xI P tys rt base N D w h v x (kq (kq h q .dead) id (.row false te (xs.drop off++ys:List te.den))) (.tail id 0):=by
 unfold cw at hv;simp only[AV.isAgg,jz,aq] at hv;obtain⟨nm,g1,g2,g3,g4,g5⟩:=hv;obtain⟨mG,i1,i2,i3,i4,i5,i6⟩:=S.obj q _ ho;rw[g1] at i1;cases i1;obtain⟨kS,kE⟩:=S.kill q;have hlen:aQ (β:=te.den) (xs.drop off)=nm.len-off:=by simp only[aQ,zei];simp only[aQ] at i4;omega
 cases hb:nm.base with
 |none=>
  rw[hb] at g5;obtain⟨g5,g6⟩:=g5;simp only[zdT] at g6;subst g6;have ox:(xs.drop off:List te.den)=[]:=zem (by have:=hlen;simp only[aQ] at this;omega)
  rw[ox,zeN];rw[ox] at QM;exact(Nx kS gX vB uA src (by simpa [aQ] using QM)).after rfl kE
 |some a=>
  rw[hb] at g5 i6;obtain⟨v',cap,g6,g7,a',sA,rfl,g8,rfl,g9⟩:=g5;simp only[zdT] at g6;subst g6;obtain⟨j1,⟨C,Ld,fz,j2,j3,j4⟩,j5,j6⟩:=i6;replace j4:=j4 rfl
  simp only[zdU,if_false] at j5;have mI:eg N D w te xs (aZ w a):=j6;have Fy:=we (len:=nm.len-off) mI (by rw[<-iL te,<-i3];exact⟨a',sA,rfl,g8,rfl,g9⟩) (by rw[<-i4];omega)
  have htk:((xs.drop off).take (nm.len-off):List te.den)=xs.drop off:=zen (by have:=hlen;simp only[aQ] at this;omega)
  rw[htk] at Fy;by_cases lq:nm.len-off+aQ (β:=te.den) ys<=sA
  ·have jL:=src.app.fits (some a') _ sA lq
   simp only at jL;have Ft:off*te.size+sA*te.size<=nm.cap*te.size:=by rw[<-zd7];exact zd6 _ g7
   have yk:(nm.len-off)*te.size+cs.length<=sA*te.size:=by rw[src.len,<-zd7];exact zd6 _ lq
   have kr:(storeCells (a'.add ((nm.len-off)*i.size)) cs).run P w= .ok () (w.setCells a.block (a.off+off*te.size+(nm.len-off)*te.size) cs):=by
    by_cases hc:cs=[]
    ·subst hc;rfl
    ·have lV:sA≠0:=by
      intro e0;have:aQ (β:=te.den) ys=0:=by omega
      have:=src.len;rw[‹aQ (β:=te.den) ys=0›,zeB] at this;exact hc (zem this)
     rcases g9 with rfl|g9
     ·rw[i3,iL,xG,vB]
      simp only[Addr.at_];rw[pf j2 (j4.imp_right And.left) (by omega) src.one,zd8]
     ·exact absurd g9 lV
   rw[kr] at jL;simp only[zef] at jL;obtain⟨o1,o2,o3⟩:=kX a.block cs (a.off+off*te.size+(nm.len-off)*te.size) w;obtain⟨C',f1,f2⟩:=jg a.block cs (a.off+off*te.size+(nm.len-off)*te.size) w C Ld fz j2;have Ue:=jF a.block cs (a.off+off*te.size+(nm.len-off)*te.size) w;have one:=kD a.block cs (a.off+off*te.size+(nm.len-off)*te.size) w;have hD: ∀b,D b->(w.setCells a.block (a.off+off*te.size+(nm.len-off)*te.size) cs).heap[b]?=w.heap[b]?:=λb vl=>one b (λe=>j5.2 (e▸vl));have O3:aQ (β:=te.den) (xs.drop off++ys)=nm.len-off+aQ (β:=te.den) ys:=by rw[<-hlen];simp[aQ]
   obtain⟨N',n1,n2,n3⟩:=S.move (id:=id) (mG:=⟨some (Addr.at_ a (off*te.size)),sr te,true,nm.len-off+aQ (β:=te.den) ys,sA⟩) (a':=Addr.at_ a (off*te.size)) (o':= .row false te (xs.drop off++ys:List te.den)) ho rfl g1 hb gX rfl rfl o1 o2 o3 Ue one (by
    refine⟨_,Names.BT,rfl,rfl,O3.symm,lq,?_⟩;show _/\_/\_/\_
    refine⟨rfl,⟨C',Ld,fz,f1,by simp only[Addr.at_];rw[f2];omega,λ_=>by rw[f2];exact j4⟩,by simp only[zdU,if_false];exact j5,?_⟩
    have hA:eg N D w te (xs.drop off:List te.den) (aZ w (Addr.at_ a (off*te.size))):=by
     have:=mI.drop off;have e2:(λj=>aZ w a (off*te.size+j))=aZ w (Addr.at_ a (off*te.size)):=by
      funext j;simp only[aZ,Addr.at_,zd8]
     rw[<-e2];exact this
    refine eg.append ((hA.Nu ((S.kill q).1.Rm gX _) (λ_ h=>h) hD).congr λj hj=>?_) ((src.row.Nu ((S.kill q).1.Rm gX _) (λ_ h=>h) hD).congr λj hj=>?_)
    ·rw[hlen] at hj
     simp only[aZ,Addr.at_];exact(World.cell?_setCells_out _ _ _ _ _ (λ_ _=>by simp only;omega)).symm
    ·rw[<-src.len] at hj
     have:=World.cell?_setCells_in a.block cs (a.off+off*te.size+(nm.len-off)*te.size) w (λj hj=>iZ j2 (by omega)) j hj
     simp only[aZ,Addr.at_];rw[hlen,<-zd8,this];simp)
   refine⟨N',D,_,_,jL,n3,n2,?_⟩;unfold cw;simp only[AV.isAgg,jz,aq];refine⟨_,n1,rfl,zeU _,lq,?_⟩;show∃v room,_
   refine⟨_,sA,rfl,by simp,a',sA,by simp,by simpa using lq,rfl,?_⟩
   rcases g9 with rfl|g9
   ·left;rw[i3,iL];simp[Addr.at_]
   ·exact .inr g9
  ·obtain⟨olds,k1,k2,_,k4⟩:=Rl.cells (P:=P) Fy
   have zb2:(aQ (β:=te.den) (xs.drop off)+aQ (β:=te.den) ys)*i.bytes<=70368744177664:=QM;have:=F9 (P:=P) (tys:=tys) (rt:=rt) (e:=e) (z:=z) kS gX vB uA (bs:=(xs.drop off:List te.den)) (olds:=olds) (b:=some a') (cap:=sA) (x:=x) src (by rw[hlen];omega) zb2 (by
    have:=k4 w.drew rfl;rw[vB];rw[hlen] at this⊢;exact this) k1 k2
   rw[hlen] at this;exact this.after rfl kE
end
end AM
namespace AM
open Go
variable {α:Type}{P:Program}{base:Nat}
section
variable {tys:Array TypeId}{rt e:TypeId}{i:TypeInfo}{z:Value}{N:Names}{D:Nat->Prop}{w:World}{te:Ty}{h:Nat->Option fO}
theorem xJ {h:Nat->Option fO}{q:Nat}{o:fO}(ho:h q=some o):kq h q o=h:=by
 funext j
 by_cases e:j=q
 ·subst e;simp[kq,ho]
 ·simp[kq,e]
theorem O4 (S:jX N D w base h){q off len:Nat}{xs:List te.den}(ho:h q=some (.row false te xs))(vB:i.size=te.size){ys:List te.den}{cs:List Value}{x v:Value}(src:Src P tys rt e i z N D w te ys x cs)
  (hv:cw N D w (.slice q [] off len) v) (lq:off+len+aQ (β:=te.den) ys<=aQ (β:=te.den) xs):xI P tys rt base N D w h v x (kq h q (.row false te (xs.take (off+len)++ys++xs.drop (off+len+aQ (β:=te.den) ys):List te.den))) (.slice q [] off (len+aQ (β:=te.den) ys)):=by
 unfold cw at hv;simp only[AV.isAgg,jz,aq] at hv;obtain⟨nm,g1,hv⟩:=hv;obtain⟨mG,i1,i2,i3,i4,i5,i6⟩:=S.obj q _ ho;rw[g1] at i1;cases i1;have O3:aQ (β:=te.den) (xs.take (off+len)++ys++xs.drop (off+len+aQ (β:=te.den) ys))=nm.len:=by
  rw[i4];simp only[aQ,zdW,zeh,zei];simp only[aQ] at lq;omega
 cases hb:nm.base with
 |none=>
  rw[hb] at hv;obtain⟨_,rfl,rfl,g4,g5⟩:=hv;simp only[zdT] at g5;subst g5;have hy0:aQ (β:=te.den) ys=0:=by omega
  have hys:ys=[]:=zem hy0;have Ll:(xs.take (0+0)++ys++xs.drop (0+0+aQ (β:=te.den) ys):List te.den)=xs:=by subst hys;simp[aQ]
  rw[Ll,xJ ho];have jL:=src.app.fits none 0 0 (by omega)
  refine⟨N,D,w,_,jL,Ext.refl _ _ _ _,S,?_⟩;unfold cw;simp only[AV.isAgg,jz,aq];refine⟨nm,g1,?_⟩;rw[hb];exact⟨by simp[i2],by simp,by omega,g4,by simp[hy0]⟩
 |some a=>
  rw[hb] at hv i6;simp only at hv;rw[if_pos (by simp[i2])] at hv
  obtain⟨g3,g4,v',room,g5,g6,g7,a',sA,rfl,g8,rfl,g9⟩:=hv;simp only[zdT] at g5;subst g5;obtain⟨j1,⟨C,Ld,fz,j2,j3,j4⟩,j5,j6⟩:=i6;replace j4:=j4 rfl
  simp only[zdU,if_false] at j5;have mI:eg N D w te xs (aZ w a):=j6;have jL:=src.app.fits (some a') len sA (by omega)
  simp only at jL;have Ft:(off+len)*te.size+cs.length<=nm.cap*te.size:=by rw[src.len,<-zd7];exact zd6 _ (by omega)
  have kr:(storeCells (a'.add (len*i.size)) cs).run P w= .ok () (w.setCells a.block (a.off+(off+len)*te.size) cs):=by
   by_cases hc:cs=[]
   ·subst hc;rfl
   ·have lV:sA≠0:=by
     intro e0;have h0:aQ (β:=te.den) ys=0:=by omega
     have:=src.len;rw[h0,zeB] at this;exact hc (zem this)
    rcases g9 with rfl|g9
    ·rw[i3,iL,xG,vB]
     simp only[Addr.at_];rw[pf j2 (j4.imp_right And.left) (by rw[<-zd7];omega) src.one,<-zd7]
    ·exact absurd g9 lV
  rw[kr] at jL;simp only[zef] at jL;obtain⟨o1,o2,o3⟩:=kX a.block cs (a.off+(off+len)*te.size) w;obtain⟨C',f1,f2⟩:=jg a.block cs (a.off+(off+len)*te.size) w C Ld fz j2;have Ue:=jF a.block cs (a.off+(off+len)*te.size) w;have one:=kD a.block cs (a.off+(off+len)*te.size) w;have hD: ∀b,D b->(w.setCells a.block (a.off+(off+len)*te.size) cs).heap[b]?=w.heap[b]?:=λb vl=>one b (λe=>j5.2 (e▸vl));have KJ:=mI.mono (λ_ h=>h) hD;have key:=S.write (o':= .row false te (xs.take (off+len)++ys++xs.drop (off+len+aQ (β:=te.den) ys):List te.den)) ho rfl g1 hb o1 o2 o3 Ue one (by
   refine⟨nm,g1,i2,i3,O3.symm,i5,?_⟩;rw[hb];show _/\_/\_/\_
   refine⟨j1,⟨C',Ld,fz,f1,by rw[f2];exact j3,λ_=>by rw[f2];exact j4⟩,by simp only[zdU,if_false];exact j5,?_⟩
   have IU:aQ (β:=te.den) (xs.take (off+len))=off+len:=by simp only[aQ,zeh];simp only[aQ] at lq;omega
   have X7:aQ (β:=te.den) (xs.take (off+len)++ys)=off+len+aQ (β:=te.den) ys:=by rw[<-IU];simp[aQ]
   have hA:eg N D (w.setCells a.block (a.off+(off+len)*te.size) cs) te (xs.take (off+len):List te.den) (aZ (w.setCells a.block (a.off+(off+len)*te.size) cs) a):=by
    refine(KJ.take (off+len)).congr λj hj=>?_;rw[IU] at hj;simp only[aZ];exact(World.cell?_setCells_out _ _ _ _ _ (λ_ _=>by simp only;omega)).symm
   have hB:eg N D (w.setCells a.block (a.off+(off+len)*te.size) cs) te ys (λj=>aZ (w.setCells a.block (a.off+(off+len)*te.size) cs) a ((off+len)*te.size+j)):=by
    refine(src.row.mono (λ_ h=>h) hD).congr λj hj=>?_;rw[<-src.len] at hj;have:=World.cell?_setCells_in a.block cs (a.off+(off+len)*te.size) w (λj hj=>iZ j2 (by omega)) j hj
    simp only[aZ];rw[<-zd8,this];simp
   have hC:eg N D (w.setCells a.block (a.off+(off+len)*te.size) cs) te (xs.drop (off+len+aQ (β:=te.den) ys):List te.den) (λj=>aZ (w.setCells a.block (a.off+(off+len)*te.size) cs) a ((off+len+aQ (β:=te.den) ys)*te.size+j)):=by
    refine(KJ.drop _).congr λj hj=>?_;simp only[aZ];refine(World.cell?_setCells_out _ _ _ _ _ (λ_ _=>?_)).symm;right
    simp only;rw[src.len,zd7 (off+len)];omega
   exact eg.append (eg.append hA (by rw[IU];exact hB)) (by rw[X7];exact hC))
  refine⟨N,D,_,_,jL,key.2,key.1,?_⟩;unfold cw;simp only[AV.isAgg,jz,aq];refine⟨nm,g1,?_⟩;rw[hb];simp only;rw[if_pos (by simp[i2])]
  exact⟨by omega,i5,_,sA,rfl,g6,g7,a',sA,rfl,by omega,rfl,g9⟩
end
theorem DH {dst rt pos after guard}{x y:Operand}{args:Array Operand}{tys:Array TypeId}{st fe:St}{u:AV}(ha:args.toList=[x,y])(h:fe.t=st.t/\fe.nt=st.nt/\fe.ep=st.ep)(IS: ∀j,j∉uG (st.ev x)->j/100≠st.ep*1000+dst.getD 999->fe.h j=st.h j)
  (Hy: ∀N D w a,kx N D w base st a->xI P tys rt base N D w st.h (a.eval x) (a.eval y) fe.h u):lx P base ⟨dst, .call ⟨.builtin .append,args,tys⟩,rt,pos,after,guard⟩ st u fe:=by
 refine⟨h.1,h.2.1,h.2.2,λj hj hn=>IS j (λe=>hj (by simp[KW,ha,e])) (λe=>by simp[qz,makes,e] at hn),λN D w a s=>?_⟩
 obtain⟨N',D',w',v',h1,h2,h3,h4⟩:=Hy N D w a s;have nz:args= #[x,y]:=by cases args;simp at ha;subst ha;rfl
 subst nz;refine⟨N',D',w',v', .inl ?_,h2,h3,h4⟩;simp[execOp,resolve,invoke,builtin,h1]
theorem BY {t:TypeId}(h:yV P t=true): ∃d,P.underlying t=some d/\∀k,d≠ .int k:=by
 unfold yV at h;split at h
 ·cases h
 ·rename_i hk hd
  exact⟨_,hd,λk e=>hk k e⟩
 ·cases h
theorem xK (a:Option Addr)(n c:Nat)(w:World):(Builtin.lenOf (.slice a n c)).run P w= .ok n w:=by simp[Builtin.lenOf]
theorem Ga {tys:Array TypeId}{t u rt e:TypeId}{i:TypeInfo}{z:Value}{N:Names}{D:Nat->Prop}{w:World}{te:Ty}{ys:List te.den}{c:Value}(h0:tys[0]?=some t)(h1:tys[1]?=some u)(ht:P.underlying t=some (.slice e))(hi:P.info? e=some i)(hz:i.zero=some z)(hb:1<=i.bytes)(vB:i.size=te.size)
  (hu:yV P u=true) (hn:Rl N D w te ys c): ∃cs,Src P tys rt e i z N D w te ys c cs:=by
 obtain⟨d,hd,hk⟩:=BY hu;obtain⟨cs,k1,k2,k3,k4⟩:=Rl.cells (P:=P) hn;obtain⟨a,cap,rfl,_⟩:=hn;refine⟨cs,xH.of h0 h1 ht hi hz hb hd hk (λw'=>xK _ _ _ w') ?_ ?_,k1,k2,k3⟩
 ·rw[vB];exact k4 w rfl
 ·rw[vB];exact k4 w.drew rfl
theorem Gb {N:Names}{D:Nat->Prop}{w:World}(b:ByteArray):eg N D w (.int .u8) (b.data.toList.map λc=>((c.toNat:Nat):Int)) ((b.data.toList.map λc=>Value.int .u8 c.toNat)[·]?):=by
 intro i x hx;show _=_
 have key: ∀y:Int,(b.data.toList.map λc=>((c.toNat:Nat):Int))[i]?=some y->∃c,b.data.toList[i]?=some c/\y=((c.toNat:Nat):Int):=by
  intro y hy;rw[zeT,zeJ] at hy;obtain⟨c,hc,rfl⟩:=hy;exact⟨c,hc,rfl⟩
 obtain⟨c,hc,rfl⟩:=key x hx;simp only[Ty.size,zeV,zeM,zeT,hc,zd2]
theorem Lo {N:Names}{tys:Array TypeId}{t u rt e:TypeId}{i:TypeInfo}{z:Value}{D:Nat->Prop}{w:World}{b:ByteArray}(h0:tys[0]?=some t)(h1:tys[1]?=some u)(ht:P.underlying t=some (.slice e))(hi:P.info? e=some i)(hz:i.zero=some z)(hb:1<=i.bytes)
  (hu:yV P u=true):Src P tys rt e i z N D w (.int .u8) (b.data.toList.map λc=>((c.toNat:Nat):Int)) (.string b) (b.data.toList.map λc=>Value.int .u8 c.toNat):=by
 obtain⟨d,hd,hk⟩:=BY hu;have hl:aQ (β:=Int) (b.data.toList.map λc=>((c.toNat:Nat):Int))=b.size:=by simp[aQ]
 have hf: ∀w':World,(Builtin.firstCells i.size b.size (.string b)).run P w'= .ok (b.data.toList.map λc=>Value.int .u8 c.toNat).toArray w':=by
  intro w';have:b.extract 0 b.size=b:=by simp
  simp only[Builtin.firstCells,this,zeg];congr 1
  apply Array.ext';simp
 refine⟨xH.of h0 h1 ht hi hz hb hd hk (λw'=>?_) ?_ ?_,?_,Gb b,?_⟩
 ·rw[show aQ (β:=(Ty.int .u8).den) (b.data.toList.map λc=>((c.toNat:Nat):Int))=b.size from hl]
  simp[Builtin.lenOf]
 ·rw[show aQ (β:=(Ty.int .u8).den) (b.data.toList.map λc=>((c.toNat:Nat):Int))=b.size from hl]
  exact hf w
 ·rw[show aQ (β:=(Ty.int .u8).den) (b.data.toList.map λc=>((c.toNat:Nat):Int))=b.size from hl]
  exact hf w.drew
 ·rw[show aQ (β:=(Ty.int .u8).den) (b.data.toList.map λc=>((c.toNat:Nat):Int))=b.size from hl]
  simp[Ty.size]
 ·intro v hv
  simp only[List.mem_map] at hv;obtain⟨c,_,rfl⟩:=hv;rfl
end AM
namespace AM
open Go
variable {α:Type}{P:Program}{base:Nat}
theorem O5 {N:Names}{tys:Array TypeId}{t u rt e:TypeId}{i:TypeInfo}{z:Value}{D:Nat->Prop}{w:World}{te:Ty}{n:Int}(h0:tys[0]?=some t)(h1:tys[1]?=some u)(ht:P.underlying t=some (.slice e))(hi:P.info? e=some i)(hz:i.zero=some z)(hb:1<=i.bytes)(vB:i.size=te.size)
  {k k':IntKind} (hu:P.underlying u=some (.int k)) (WY:0<=n) (O0:n*(i.bytes:Int)<=70368744177664) (zb:z.cells.toList=mV te (iA te)):Src P tys rt e i z N D w te (List.replicate n.toNat (iA te)) (.int k' n) (Builtin.zeroCells z.cells n.toNat).toList:=by
 have uA:z.cells.size=te.size:=by rw[<-mZ te,<-zb];simp
 have hl:aQ (β:=te.den) (List.replicate n.toNat (iA te))=n.toNat:=by simp[aQ]
 refine⟨by rw[hl];exact xH.Ji h0 h1 ht hi hz hb hu WY O0 (by rw[uA,vB]),by rw[hl];simp[size_zeroCells,uA],eg.Ji n.toNat zb λj hj=>?_,λv hv=>?_⟩
 ·have hp:0<te.size:=by
   rcases zed te.size with q|q
   ·rw[q] at hj;omega
   ·exact q
  have hm:j%te.size<z.cells.size:=by rw[uA];exact Nat.mod_lt _ hp
  simp only[Builtin.zeroCells,Array.getElem?_toList];rw[Array.getElem?_map,Array.getElem?_range,if_pos (by rw[uA];exact hj),zd2]
  rw[uA] at hm⊢;rw[getElem!_pos z.cells _ (by rw[uA];exact hm),zev (by rw[uA];exact hm)]
 ·simp only[Builtin.zeroCells,Array.mem_toList_iff,Array.mem_map,Array.mem_range] at hv
  obtain⟨j,hj,rfl⟩:=hv;have hp:0<z.cells.size:=by
   rcases zed z.cells.size with q|q
   ·rw[q] at hj;omega
   ·exact q
  have hm:j%z.cells.size<z.cells.size:=Nat.mod_lt _ hp;rw[getElem!_pos z.cells _ hm];have h2:eg N D w te [iA te] (z.cells[·]?):=by
   intro i x hx;have QN:i=0:=by have:=ym hx;simp only[aQ,zdX,zdY] at this;omega
   subst QN;simp only[jW,zep,zdT] at hx;subst hx;refine rR te _ λj hj=>?_;rw[<-zb];simp
  obtain⟨c,h3,h4⟩:=h2.cell (j:=j%z.cells.size) (by simp only[aQ,zdX,zdY];omega)
  rw[zev hm] at h3;cases h3;exact h4
theorem Gc {st:St}{id:Nat}{e:TypeId}{te:Ty}{bs ys:List te.den}{k:AV->St->Option α}{r:α}(h:grow P st id e te bs ys k=some r):
  st.h id=none/\k (.tail id 0) (st.set id (.row false te (bs++ys:List te.den)))=some r/\(aQ (β:=te.den) bs+aQ (β:=te.den) ys)*P.bytesOf e<=70368744177664:=by
 unfold grow at h;obtain⟨h1,h2⟩:=jn h;obtain⟨h3,h4⟩:=zV h2;refine⟨h3,h4,?_⟩;rw[Hw] at h1;have:(((aQ (β:=te.den) bs+aQ (β:=te.den) ys)*P.bytesOf e:Nat):Int)<=(70368744177664:Nat):=by
  rw[Int.natCast_mul];exact h1
 omega
theorem DI {st:St}{id:Nat}{ty e tx:TypeId}{tys:Array TypeId}{rt:TypeId}{te:Ty}{bs:List te.den}{y:AV}{k:AV->St->Option α}{r:α}(zU:zD P tx=some (e,te))(h0:tys[0]?=some tx)(h1:tys[1]?=some ty)(h:grown P st id ty e te bs y k=some r):
  ∃(ys:List te.den) (i:TypeInfo) (z:Value),P.info? e=some i/\i.zero=some z/\i.size=te.size/\z.cells.size=te.size/\st.h id=none/\k (.tail id 0) (st.set id (.row false te (bs++ys:List te.den)))=some r/\(aQ (β:=te.den) bs+aQ (β:=te.den) ys)*i.bytes<=70368744177664/\
   ∀N D w base,jX N D w base st.h->∀c,cw N D w y c->∃cs,Src P tys rt e i z N D w te ys c cs:=by
 obtain⟨hu,Nt,hsz,hb,i,hi,vB,Rn,z,hz,uA⟩:=qq zU;rw[<-Rn] at hb;unfold grown at h;split at h
 ·rename_i n
  split at h
  ·rename_i ki hty
   obtain⟨⟨h2,h3⟩,h4⟩:=jn h;obtain⟨v,i',z',h5,nB,Uf,X0,zb,_,_⟩:=rT h4;rw[hi] at nB;cases nB;rw[hz] at Uf;cases Uf;obtain⟨h6,h7⟩:=zV h5;have vC:=tH 12 e te v Nt X0;rw[<-zb] at vC;rw[Hw,<-Rn] at h3;have hl:aQ (β:=te.den) (List.replicate n.toNat (iA te))=n.toNat:=by simp[aQ]
   refine⟨_,i,z,hi,hz,vB,uA,h6,h7,?_,λN D w base S c hc=>?_⟩
   ·rw[hl]
    have:(((aQ (β:=te.den) bs+n.toNat)*i.bytes:Nat):Int)<=(70368744177664:Nat):=by
     rw[Int.natCast_mul,Int.natCast_add,Int.toNat_of_nonneg h2];exact h3
    omega
   ·rw[ek.1 hc]
    refine⟨_,O5 h0 h1 hu hi hz hb vB hty h2 ?_ vC⟩;have:n*(i.bytes:Int)<=((bs.length:Int)+n)*(i.bytes:Int):=Int.mul_le_mul_of_nonneg_right (by omega) (by omega)
    omega
  ·cases h
 ·rename_i b
  split at h
  ·rename_i ys hni hc
   obtain⟨rfl,rfl⟩:=iY hc;obtain⟨h2,h3,h4⟩:=Gc h;refine⟨_,i,z,hi,hz,vB,uA,h2,h3,by rw[Rn];exact h4,λN D w base S c hc=>?_⟩
   rw[ek.1 hc];exact⟨_,Lo h0 h1 hu hi hz hb hni⟩
  ·cases h
 ·replace h:=jo h;obtain⟨hni,h⟩:=h
  obtain⟨ys,ids,h2,h3⟩:=uM h;obtain⟨h4,h5,h6⟩:=Gc h2;exact⟨ys,i,z,hi,hz,vB,uA,h4,h5,by rw[Rn];exact h6,λN D w base S c hc=>Ga (N:=N) h0 h1 hu hi hz hb vB hni (h3 N D w base S c hc)⟩
theorem Jj {dst rt pos after guard}{x y:Operand}{args:Array Operand}{tys:Array TypeId}{tx ty:TypeId}{A6:List TypeId}{st:St}{id:Nat}(pJ:id=name st.ep (dst.getD 999) 0){k:AV->St->Option α}{r:α}(ha:args.toList=[x,y])(ht:tys.toList=tx::ty::A6)
  (h:Dp P st id tx ty (st.ev x) (st.ev y) k=some r):nU P base ⟨dst, .call ⟨.builtin .append,args,tys⟩,rt,pos,after,guard⟩ st k r:=by
 have h0:tys[0]?=some tx:=by cases tys;simp at ht;subst ht;simp
 have h1:tys[1]?=some ty:=by cases tys;simp at ht;subst ht;simp
 unfold Dp at h;split at h
 ·rename_i e te zU
  split at h
  ·rename_i e1
   obtain⟨ys,i,z,hi,hz,vB,uA,h2,h3,h4,h5⟩:=DI (rt:=rt) zU h0 h1 h;refine⟨_,_,h3,DH ha ⟨rfl,rfl,rfl⟩ (λj _ hn=>by
    have hj:j≠id:=λe=>hn (by rw[e,pJ,rh])
    simp[St.set,hj]) λN D w a s=>?_⟩
   obtain⟨cs,src⟩:=h5 N D w base s.nw _ (s.Fm y);rw[s.sS e1,St.tf];exact Nx s.nw h2 vB uA src (by simpa [aQ] using h4)
  ·rename_i q off e1
   split at h
   ·rename_i t' xs ho
    split at h
    ·rename_i BZ hc
     obtain⟨rfl,rfl⟩:=iY hc;obtain⟨ys,i,z,hi,hz,vB,uA,h2,h3,h4,h5⟩:=DI (rt:=rt) zU h0 h1 h;refine⟨_,_,h3,DH ha ⟨rfl,rfl,rfl⟩ (λj hj0 hn=>by
      have hj:j≠id:=λe=>hn (by rw[e,pJ,rh])
      have hq:j≠q:=λe=>hj0 (by rw[e1];simp[uG,e])
      simp[St.set,hj,hq]) λN D w a s=>?_⟩
     obtain⟨cs,src⟩:=h5 N D w base (by rw[St.tf];exact(s.nw.kill q).1) _ (s.Fm y)
     rw[St.tf,St.tf];exact Ro s.nw ho h2 vB uA src (s.uz e1) h4
    ·cases h
   ·cases h
  ·rename_i q off len e1
   split at h
   ·rename_i t' xs ho
    split at h
    ·rename_i BZ hc
     obtain⟨rfl,rfl⟩:=iY hc;replace h:=jo h;obtain⟨hni,h⟩:=h
     obtain⟨ys,ids,h2,h3⟩:=uM h;unfold inPlace at h2;obtain⟨h4,h5⟩:=jn h2;obtain⟨hu,Nt,hsz,hb,i,hi,vB,Rn,z,hz,uA⟩:=qq zU;rw[<-Rn] at hb;refine⟨_,_,h5,DH ha ⟨rfl,rfl,rfl⟩ (λj hj0 _=>by
      have hq:j≠q:=λe=>hj0 (by rw[e1];simp[uG,e])
      simp[St.set,hq]) λN D w a s=>?_⟩
     obtain⟨cs,src⟩:=Ga (rt:=rt) (N:=N) h0 h1 hu hi hz hb vB hni (h3 N D w base s.nw _ (s.Fm y));rw[St.tf];exact O4 s.nw ho vB src (s.uz e1) h4
    ·cases h
   ·cases h
  ·cases h
 ·cases h
end AM
namespace AM
open Go
variable {α:Type}{P:Program}{base:Nat}
theorem UI {N:Names}{D:Nat->Prop}{w:World}{te:Ty}{h:Nat->Option fO}(S:jX N D w base h){q p:Nat}{xs ys:List te.den}(ho:h q=some (.row false te xs)){cs:List Value}(hl:cs.length=aQ (β:=te.den) ys*te.size)(hr:eg N D w te ys (cs[·]?))(h1: ∀v∈cs,v.oneCell'=true)
  {nm:Nm} {a:Addr} (g1:N q=some nm) (hb:nm.base=some a) (lq:p+aQ (β:=te.den) ys<=aQ (β:=te.den) xs):
  (storeCells (Addr.at_ a (p*te.size)) cs).run P w= .ok () (w.setCells a.block (a.off+p*te.size) cs)/\
  jX N D (w.setCells a.block (a.off+p*te.size) cs) base (kq h q (.row false te (xs.take p++ys++xs.drop (p+aQ (β:=te.den) ys):List te.den)))/\Ext N D w h N D (w.setCells a.block (a.off+p*te.size) cs) (kq h q (.row false te (xs.take p++ys++xs.drop (p+aQ (β:=te.den) ys):List te.den))):=by
 obtain⟨mG,i1,i2,i3,i4,i5,i6⟩:=S.obj q _ ho;rw[g1] at i1;cases i1;have O3:aQ (β:=te.den) (xs.take p++ys++xs.drop (p+aQ (β:=te.den) ys))=nm.len:=by
  rw[i4];simp only[aQ,zdW,zeh,zei];simp only[aQ] at lq;omega
 rw[hb] at i6;obtain⟨j1,⟨C,Ld,fz,j2,j3,j4⟩,j5,j6⟩:=i6;replace j4:=j4 rfl
 simp only[zdU,if_false] at j5;have mI:eg N D w te xs (aZ w a):=j6;have Ft:p*te.size+cs.length<=nm.cap*te.size:=by rw[hl,<-zd7];exact zd6 _ (by omega)
 have jL:(storeCells (Addr.at_ a (p*te.size)) cs).run P w= .ok () (w.setCells a.block (a.off+p*te.size) cs):=by
  simp only[Addr.at_];exact pf j2 (j4.imp_right And.left) (by omega) h1
 obtain⟨o1,o2,o3⟩:=kX a.block cs (a.off+p*te.size) w;obtain⟨C',f1,f2⟩:=jg a.block cs (a.off+p*te.size) w C Ld fz j2;have Ue:=jF a.block cs (a.off+p*te.size) w;have one:=kD a.block cs (a.off+p*te.size) w;have hD: ∀b,D b->(w.setCells a.block (a.off+p*te.size) cs).heap[b]?=w.heap[b]?:=λb vl=>one b (λe=>j5.2 (e▸vl));have KJ:=mI.mono (λ_ h=>h) hD;refine⟨jL,S.write (o':= .row false te (xs.take p++ys++xs.drop (p+aQ (β:=te.den) ys):List te.den)) ho rfl g1 hb o1 o2 o3 Ue one ?_⟩;refine⟨nm,g1,i2,i3,O3.symm,i5,?_⟩;rw[hb];show _/\_/\_/\_
 refine⟨j1,⟨C',Ld,fz,f1,by rw[f2];exact j3,λ_=>by rw[f2];exact j4⟩,by simp only[zdU,if_false];exact j5,?_⟩
 have IU:aQ (β:=te.den) (xs.take p)=p:=by simp only[aQ,zeh];simp only[aQ] at lq;omega
 have X7:aQ (β:=te.den) (xs.take p++ys)=p+aQ (β:=te.den) ys:=by
  have:aQ (β:=te.den) (xs.take p++ys)=aQ (β:=te.den) (xs.take p)+aQ (β:=te.den) ys:=by simp[aQ]
  rw[this,IU]
 have hA:eg N D (w.setCells a.block (a.off+p*te.size) cs) te (xs.take p:List te.den) (aZ (w.setCells a.block (a.off+p*te.size) cs) a):=by
  refine(KJ.take p).congr λj hj=>?_;rw[IU] at hj;simp only[aZ];exact(World.cell?_setCells_out _ _ _ _ _ (λ_ _=>by simp only;omega)).symm
 have hB:eg N D (w.setCells a.block (a.off+p*te.size) cs) te ys (λj=>aZ (w.setCells a.block (a.off+p*te.size) cs) a (p*te.size+j)):=by
  refine(hr.mono (λ_ h=>h) hD).congr λj hj=>?_;rw[<-hl] at hj;have:=World.cell?_setCells_in a.block cs (a.off+p*te.size) w (λj hj=>iZ j2 (by omega)) j hj
  simp only[aZ];rw[<-zd8,this];simp
 have hC:eg N D (w.setCells a.block (a.off+p*te.size) cs) te (xs.drop (p+aQ (β:=te.den) ys):List te.den) (λj=>aZ (w.setCells a.block (a.off+p*te.size) cs) a ((p+aQ (β:=te.den) ys)*te.size+j)):=by
  refine(KJ.drop _).congr λj hj=>?_;simp only[aZ];refine(World.cell?_setCells_out _ _ _ _ _ (λ_ _=>?_)).symm;right
  simp only;rw[hl,zd7 p];omega
 exact eg.append (eg.append hA (by rw[IU];exact hB)) (by rw[X7];exact hC)
theorem Lp {N:Names}{D:Nat->Prop}{w:World}{te:Ty}{z:Value}{n:Nat}(zb:z.cells.toList=mV te (iA te)):(Builtin.zeroCells z.cells n).toList.length=aQ (β:=te.den) (List.replicate n (iA te))*te.size/\eg N D w te (List.replicate n (iA te)) ((Builtin.zeroCells z.cells n).toList[·]?)/\∀v∈(Builtin.zeroCells z.cells n).toList,v.oneCell'=true:=by
 have uA:z.cells.size=te.size:=by rw[<-mZ te,<-zb];simp
 refine⟨by simp[size_zeroCells,uA,aQ],eg.Ji n zb λj hj=>?_,λv hv=>?_⟩
 ·have hp:0<te.size:=by
   rcases zed te.size with q|q
   ·rw[q] at hj;omega
   ·exact q
  have hm:j%te.size<z.cells.size:=by rw[uA];exact Nat.mod_lt _ hp
  simp only[Builtin.zeroCells,Array.getElem?_toList];rw[Array.getElem?_map,Array.getElem?_range,if_pos (by rw[uA];exact hj),zd2]
  rw[uA] at hm⊢;rw[getElem!_pos z.cells _ (by rw[uA];exact hm),zev (by rw[uA];exact hm)]
 ·simp only[Builtin.zeroCells,Array.mem_toList_iff,Array.mem_map,Array.mem_range] at hv
  obtain⟨j,hj,rfl⟩:=hv;have hp:0<z.cells.size:=by
   rcases zed z.cells.size with q|q
   ·rw[q] at hj;omega
   ·exact q
  have hm:j%z.cells.size<z.cells.size:=Nat.mod_lt _ hp;rw[getElem!_pos z.cells _ hm];have h2:eg N D w te [iA te] (z.cells[·]?):=by
   intro i x hx;have QN:i=0:=by have:=ym hx;simp only[aQ,zdX,zdY] at this;omega
   subst QN;simp only[jW,zep,zdT] at hx;subst hx;refine rR te _ λj hj=>?_;rw[<-zb];simp
  obtain⟨c,h3,h4⟩:=h2.cell (j:=j%z.cells.size) (by simp only[aQ,zdX,zdY];omega)
  rw[zev hm] at h3;cases h3;exact h4
theorem Lq {dst rt pos after guard}{x:Operand}{args:Array Operand}{tys:Array TypeId}{tx:TypeId}{A6:List TypeId}{st:St}{k:AV->St->Option α}{r:α}(ha:args.toList=[x])(ht:tys.toList=tx::A6)
  (h:Hf P st tx (st.ev x) k=some r):nU P base ⟨dst, .call ⟨.builtin .clear,args,tys⟩,rt,pos,after,guard⟩ st k r:=by
 have nz:args= #[x]:=by cases args;simp at ha;subst ha;rfl
 have zR:tys[0]?=some tx:=by cases tys;simp at ht;subst ht;simp
 subst nz;unfold Hf at h;split at h
 ·rename_i e te zU
  obtain⟨hu,zb3,hsz,_⟩:=qq zU;obtain⟨zv,i,z,h,hi,hz,X0,zb,uA,_⟩:=rT h;have hzf:z.cells.toList=mV te (iA te):=by rw[zb];exact tH 12 e te zv zb3 X0
  split at h
  ·rename_i q off len e1
   split at h
   ·rename_i t' xs ho
    split at h
    ·rename_i ys hc
     obtain⟨rfl,rfl⟩:=iY hc;refine⟨_,_,h,rfl,rfl,rfl,λj hj _=>?_,λN D w a s=>?_⟩
     ·have lV:j≠q:=by
       rintro rfl
       exact hj (by simp[KW,e1,uG])
      simp[St.set,lV]
     ·have hv:=s.uz e1
      unfold cw at hv;simp only[AV.isAgg,jz,aq] at hv;obtain⟨nm,g1,hv⟩:=hv;obtain⟨mG,i1,i2,i3,i4,i5,i6⟩:=s.nw.obj q _ ho;rw[g1] at i1;cases i1;cases hb:nm.base with
      |none=>
       rw[hb] at hv;obtain⟨_,rfl,rfl,g4,g5⟩:=hv;simp only[zdT] at g5;have Hn:ys=[]:=zem (by simp only[aQ] at i4;omega)
       subst Hn;have vE:kq st.h q (.row false t' (([]:List t'.den).take 0++List.replicate 0 (iA t')++([]:List t'.den).drop (0+0):List t'.den))=st.h:=by simpa using xJ ho
       refine⟨N,D,w, .tuple #[], .inl ?_,?_,?_,lM.2 ⟨#[],rfl,by simp only[bF]⟩⟩
       ·simp[execOp,resolve,invoke,builtin,Builtin.clear_,zR,g5,run_underlying hu]
       ·show Ext N D w st.h N D w (kq st.h q _)
        rw[vE];exact Ext.refl _ _ _ _
       ·show jX N D w base (kq st.h q _)
        rw[vE];exact s.nw
      |some ad=>
       rw[hb] at hv;simp only at hv;rw[if_pos (by simp[i2])] at hv
       obtain⟨g3,g4,v',room,g5,g6,g7,a',sA,rfl,g8,rfl,g9⟩:=hv;simp only[zdT] at g5;obtain⟨z1,z2,z3⟩:=Lp (N:=N) (D:=D) (w:=w) (n:=len) hzf;have hrl:aQ (β:=t'.den) (List.replicate len (iA t'))=len:=by simp[aQ]
       obtain⟨p1,p2,p3⟩:=UI (P:=P) (p:=off) (ys:=(List.replicate len (iA t'):List t'.den)) s.nw ho z1 z2 z3 g1 hb (by rw[hrl,<-i4];exact g3)
       rw[hrl] at p2 p3;have zdA: ∀l,List.replicate l (iA t')=(List.replicate l (iA t'):List t'.den):=λ_=>rfl;have Fo:ad.spot=none:=by rw[hb] at i6;exact i6.1
       cases len with
       |zero=>
        have hxx:(ys.take off++List.replicate 0 (iA t')++ys.drop (off+0):List t'.den)=ys:=by simp
        refine⟨N,D,w, .tuple #[], .inl ?_,?_,?_,lM.2 ⟨#[],rfl,by simp only[bF]⟩⟩
        ·simp[execOp,resolve,invoke,builtin,Builtin.clear_,zR,g5,run_underlying hu]
        ·show Ext N D w st.h N D w (kq st.h q (.row false t' (ys.take off++List.replicate 0 (iA t')++ys.drop (off+0):List t'.den)))
         rw[hxx,xJ ho];exact Ext.refl _ _ _ _
        ·show jX N D w base (kq st.h q (.row false t' (ys.take off++List.replicate 0 (iA t')++ys.drop (off+0):List t'.den)))
         rw[hxx,xJ ho];exact s.nw
       |succ n=>
        have ha':a'=Addr.at_ ad (off*t'.size):=by
         rcases g9 with h9|h9
         ·rw[h9,i3,iL]
         ·omega
        subst ha';refine⟨N,D,_, .tuple #[], .inl ?_,p3,p2,lM.2 ⟨#[],rfl,by simp only[bF]⟩⟩
        have hzv:(zeroValue e).run P w= .ok z w:=by simp[zeroValue,typeInfo,hi,hz]
        simp[execOp,resolve,invoke,builtin,Builtin.clear_,zR,g5,run_underlying hu,hzv,p1]
    ·cases h
   ·cases h
  ·cases h
 ·cases h
end AM
