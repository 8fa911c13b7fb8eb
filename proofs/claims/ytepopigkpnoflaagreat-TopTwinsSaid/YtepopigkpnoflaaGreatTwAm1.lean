/- An abstract machine over programs of the model, and its soundness: what it tells of a function, the model's machine does. Conditions: none. -/
import GoSem.Claim
import Derived.Calls
import Derived.Laws.Sem
import Derived.KernelRfl
import Derived.Laws.Entries
import Derived.ChangeKeysEq
import Derived.Laws.Cells
import Derived.Laws.IdiomCopy
import Derived.Below
import Derived.Laws.Slices
import Derived.Laws.IdiomStrings
import Derived.Laws.MakeOwn
set_option linter.unusedVariables false
set_option linter.unusedSimpArgs false
namespace AM
theorem zdc.{u,v} {α : Type u} {β : Type v} (a : α) (f : α → Option β) : (some a).bind f = f a := rfl
theorem zdd.{u} {α : Sort u} (a b : α) : cond false a b = b := rfl
theorem zde.{u} {α : Sort u} (a b : α) : cond true a b = a := rfl
theorem zdf (n : Nat) : ((n : Int)).toNat = n := rfl
theorem zdg : (!true) = false := rfl
theorem zdh : (!false) = true := rfl
theorem zdi.{u} {α : Type u} {l : List α} {i : Nat} (h : i < l.length) : l[i]? = some l[i] := List.getElem?_eq_getElem h
theorem zdj.{u} {α : Type u} (a b : α) : (some a = some b) = (a = b) := Option.some.injEq a b
theorem zdk : (false = true) = False := Bool.false_eq_true
theorem zdl (a b : Bool) : ((a && b) = true) = (a = true ∧ b = true) := Bool.and_eq_true a b
theorem zdm.{u} {α : Type u} {a b : List α} : (a ++ b).length = a.length + b.length := List.length_append
theorem zdn.{u} {α : Type u} {a : α} {b : List α} : (a :: b).length = b.length + 1 := rfl
theorem zdo.{u} {α : Type u} : ([] : List α).length = 0 := rfl
theorem zdp.{u} {α : Type u} (y : α) {a : α} {l : List α} (h : a ∈ l) : a ∈ y :: l := List.mem_cons_of_mem y h
theorem zdq.{u} {α : Type u} {a : α} {l : List α} : a ∈ a :: l := List.mem_cons_self
theorem zdr {p : Prop} [Decidable p] : (decide p = true) = p := decide_eq_true_eq
theorem zds.{u,v} {α : Type u} {β : Type v} {a : α} {f : α → β} : (some a).map f = some (f a) := rfl
theorem zdt.{u} {α : Type u} {l : List α} {i : Nat} {a : α} : l.getD i a = l[i]?.getD a := List.getD_eq_getElem?_getD
open Go
abbrev zdu:=@List.mem_append_left
abbrev zdv:=@List.mem_append_right
abbrev zdw:=@Nat.mul_le_mul_right
abbrev zdx:=@Nat.add_mul
abbrev zdy:=@Nat.add_assoc
abbrev zdz:=@Nat.le_refl
abbrev zdA:=@Nat.le_trans
abbrev zdB:=@Nat.lt_of_lt_of_le
abbrev zdC:=@Nat.lt_or_ge
abbrev zdD:=@Nat.eq_zero_or_pos
abbrev zdE:=@Sem.run_bind
abbrev zdF:=@Result.andThen_ok
abbrev zdG:=@Sem.run_pure
abbrev zdH:=@List.length_take
abbrev zdI:=@List.length_drop
abbrev zdJ:=@List.getElem?_take
abbrev zdK:=@List.getElem?_drop
abbrev zdL:=@Bool.and_false
abbrev zdM:=@List.eq_nil_of_length_eq_zero
abbrev zdN:=@List.take_of_length_le
abbrev zdO:=@List.isEmpty_iff
abbrev zdP:=@List.getElem?_cons_zero
abbrev zdQ:=@List.length_set
abbrev zdR:=@List.getElem?_set_ne
abbrev zdS:=@List.cons_append
abbrev zdT:=@Array.getElem?_modify
abbrev zdU:=@List.getElem_of_mem
abbrev zdV:=@Array.getElem?_eq_getElem
abbrev zdW:=@List.all_eq_true
abbrev zdX:=@List.mem_cons
abbrev zdY:=@Array.getElem?_push
abbrev zdZ:=@List.replicate_succ
abbrev zd0:=@List.flatMap_cons
abbrev zd1:=@Nat.zero_mul
abbrev zd2:=@Nat.zero_add
abbrev zd3:=@List.getElem?_append_left
abbrev zd4:=@List.getElem?_append_right
abbrev zd5:=@Nat.add_comm
abbrev zd6:=@List.length_replicate
abbrev zd7:=@List.getElem?_replicate
abbrev zd8:=@List.foldr_cons
abbrev zd9:=@Option.map_eq_some_iff
abbrev zea:=@List.map_cons
abbrev zeb:=@Array.eq_empty_of_size_eq_zero
abbrev zec:=@Nat.add_zero
abbrev zed:=@List.nil_append
abbrev zee:=@List.mem_of_getElem?
abbrev zef:=@List.mem_of_mem_take
abbrev zeg:=@Nat.min_eq_left
abbrev zeh:=@Option.map_none
abbrev zei:=@Int.le_refl
abbrev zej:=@List.getElem?_map
abbrev zek:=@Nat.zero_le
abbrev zel:=@Nat.mul_one
abbrev zem:=@List.foldl_cons
abbrev zen:=@List.length_map
abbrev zeo:=@Bool.or_eq_true
abbrev zep:=@List.mem_or_eq_of_mem_set
abbrev zeq:=@List.getElem_mem
abbrev zer:=@List.replicate_zero
abbrev zes:=@List.contains_eq_mem
abbrev zet:=@Option.isSome_none
abbrev zeu:=@List.take_length
abbrev zev:=@List.take_append_drop
abbrev zew:=@Array.getD_eq_getD_getElem?
abbrev zex:=@Option.getD_some
abbrev zey:=@Nat.lt_succ_self
abbrev zez:=@Bool.and_self
abbrev zeA:=@List.mem_append
abbrev zeB:=@List.mem_singleton
abbrev zeC:=@Bool.not_eq_true'
abbrev zeD:=@Bool.false_or
abbrev zeE:=@List.append_nil
abbrev zeF:=@Nat.le_add_right
abbrev zeG:=@List.filterMap_cons
abbrev zeH:=@List.mem_of_mem_drop
abbrev zeI:=@List.drop_eq_nil_of_le
abbrev zeJ:=@List.getElem?_set
abbrev zeK:=@List.take_add_one
abbrev zeL:=@Int.natCast_zero
abbrev zeM:=@Nat.eq_of_beq_eq_true
abbrev zeN:=@List.drop_zero
abbrev zeO:=@List.set_set
abbrev zeP:=@List.singleton_append
abbrev zeQ:=@List.eraseIdx_eq_take_drop_succ
abbrev zeR:=@List.length_eraseIdx_of_lt
abbrev zeS:=@List.findIdx?_eq_none_iff
abbrev zeT:=@List.findIdx?_eq_some_iff_getElem
abbrev zeU:=@Int.le_trans
abbrev zeV:=@List.map_append
abbrev zeW:=@Bool.false_and
abbrev zeX:=@List.drop_eq_getElem_cons
abbrev zeY:=@Option.isSome_some
abbrev zeZ:=@List.suffix_refl
abbrev ze0:=@List.pairwise_cons
abbrev ze1:=@List.set_eq_take_append_cons_drop
abbrev ze2:=@List.eraseIdx_sublist
abbrev ze3:=@List.length_singleton
abbrev ze4:=@Int.eq_ofNat_of_zero_le
end AM
namespace AM
open Go
inductive Ty where
 |int (k:IntKind)|bool|str|nil|cons (a b:Ty)|arr (n:Nat) (t:Ty)|deep (t:Ty)
 |ref (tag:Nat)
 deriving DecidableEq
def Ty.den:Ty->Type
 | .int _=>Int| .bool=>Bool| .str=>ByteArray| .nil=>Unit| .cons a b=>a.den×b.den| .arr _ t=>List t.den| .deep t=>List t.den| .ref _=>Nat
def Ty.size:Ty->Nat
 | .int _=>1| .bool=>1| .str=>1| .nil=>0| .cons a b=>a.size+b.size| .arr n t=>n*t.size| .deep _=>1| .ref _=>1
def Ty.ks:Ty->List Nat
 | .cons a b=>a.ks++b.ks
 | .arr _ t=>t.ks
 | .deep t=>t.ks
 | .ref g=> [g]
 |_=> []
def rW (t t':Ty)(xs:List t.den):Option (List t'.den):=if h:t=t' then some (h▸xs) else none
noncomputable def af (p:Prop):Bool:= @decide p (Classical.propDecidable p)
theorem kN {p:Prop}:af p=true↔p:= @decide_eq_true_iff p (Classical.propDecidable p)
theorem kJ (p:Prop) [h:Decidable p]:af p=decide p:=by
 cases h with
 |isTrue h=>rw[kN.2 h];rfl
 |isFalse h=>
  have:af p=false:=by
   cases e:af p with
   |false=>rfl
   |true=>exact absurd (kN.1 e) h
  rw[this];rfl
noncomputable def wr (k:IntKind)(n:Int):Int:=Classical.choose (⟨k.wrap n,rfl⟩: ∃m,m=k.wrap n)
theorem pE (k:IntKind)(n:Int):wr k n=k.wrap n:=Classical.choose_spec (⟨k.wrap n,rfl⟩: ∃m,m=k.wrap n)
noncomputable def qF (a b:Int):Int:=bif af (b<a) then b else a
noncomputable def imax (a b:Int):Int:=bif af (b>a) then b else a
noncomputable def sH (k:IntKind)(a b:Int):Int:=wr k ((BitVec.ofInt k.bits a&&&BitVec.ofInt k.bits b).toNat)
noncomputable def AL (k:IntKind)(a b:Int):Int:=wr k ((BitVec.ofInt k.bits a|||BitVec.ofInt k.bits b).toNat)
noncomputable def pt (k:IntKind)(a b:Int):Int:=wr k ((BitVec.ofInt k.bits a^^^BitVec.ofInt k.bits b).toNat)
noncomputable def Dj (k:IntKind)(a b:Int):Int:=wr k ((BitVec.ofInt k.bits a&&& ~~~BitVec.ofInt k.bits b).toNat)
noncomputable def shr (k:IntKind)(a b:Int):Int:=Classical.choose (⟨a.fdiv (2^(min b.toNat k.bits)),rfl⟩: ∃m:Int,m=a.fdiv (2^(min b.toNat k.bits)))
theorem QV (k:IntKind)(a b:Int):shr k a b=a.fdiv (2^(min b.toNat k.bits)):=Classical.choose_spec (⟨a.fdiv (2^(min b.toNat k.bits)),rfl⟩: ∃m:Int,m=a.fdiv (2^(min b.toNat k.bits)))
noncomputable def shl (k:IntKind)(a b:Int):Int:=wr k (a*2^(min b.toNat k.bits))
def QW (k:IntKind):Int:=if k.signed then-1 else k.max
inductive Step where
 |im (n:Nat)|idx (i:Nat)
inductive AV where
 |undef
 |val (v:Value)
 |ptr (id:Nat) (path:List Step)
 |tail (id:Nat) (off:Nat)
 |slice (id:Nat) (path:List Step) (off len:Nat)
 |dp (t:Ty) (xs:List t.den)
 |tF (v:AV)
 |agg (fs:List AV)
 |arr (n:Nat) (t:Ty) (xs:List t.den)
 |AN (vs:List AV)
 |wN (fn:Fn) (captured:List AV)
 |xb
 |ue (id:Nat) (n:Nat)
 |Cz (fn:Fn) (first:List AV)
 |QH (id:Nat) (path:List Step) (f off:Nat)
 |rf (tag n c:Nat)
mutual
def AV.size:AV->Nat
 | .agg fs=>AV.dD fs
 | .arr n t _=>n*t.size
 |_=>1
def AV.dD:List AV->Nat
 | []=>0
 |x::xs=>x.size+AV.dD xs
end
def AV.isAgg:AV->Bool
 | .agg _| .arr _ _ _=>true
 |_=>false
mutual
def AV.ids:AV->List Nat
 | .tail i _=> [i]
 | .slice i _ _ _=> [i]
 | .ue i _=> [i]
 | .agg fs=>AV.zae fs
 |_=> []
def AV.zae:List AV->List Nat
 | []=> []
 |x::xs=>x.ids++AV.zae xs
end
def enc:(t:Ty)->t.den->AV
 | .int k,n=> .val (.int k n)
 | .bool,b=> .val (.bool b)
 | .str,s=> .val (.string s)
 | .nil,_=> .agg []
 | .cons a b,p=>match enc b p.2 with| .agg l=> .agg (enc a p.1::l)|v=> .agg [enc a p.1,v]
 | .arr n t,xs=> .arr n t xs
 | .deep t,xs=> .dp t xs
 | .ref g,n=> .rf g n 50
inductive om where
 |im (n:Nat)|idx
inductive cj where
 |hole (t:Ty)|const (v:Value)|ptr (c:Nat)|own (c:Nat)|Fw (c:Nat)|agg (ps:List cj)|uZ (t:Ty)
 |kc (c:Nat) (p:List om)
 |wN (fn:Fn) (ps:List cj)|ue (c n:Nat)
 |skip|I8 (p:cj)
inductive aH where
 |var (p:cj)|row (t:Ty)|store (ep:List (Nat×aH))
def om.wO:List om->Type
 | []=>Unit
 | .im _::p=>om.wO p
 | .idx::p=>Nat×om.wO p
mutual
def cj.den:cj->Type
 | .hole t=>t.den
 | .uZ t=>t.den
 | .agg ps=>cj.wO ps
 | .wN _ ps=>cj.wO ps
 | .Fw _=>Nat
 | .kc _ p=>om.wO p
 | .I8 p=>p.den
 |_=>Unit
def cj.wO:List cj->Type
 | []=>Unit
 |p::ps=>p.den×cj.wO ps
end
mutual
def aH.den:aH->Type
 | .var p=>p.den
 | .row t=>List t.den
 | .store ep=>List (cP ep)
def cP:List (Nat×aH)->Type
 | []=>Unit
 |(_,p)::os=>p.den×cP os
end
def om.mk:(p:List om)->om.wO p->List Step
 | [],_=> []
 | .im n::p,d=> .im n::om.mk p d
 | .idx::p,d=> .idx d.1::om.mk p d.2
mutual
def cj.mk (b:Nat->Nat):(p:cj)->p.den->AV
 | .hole t,x=>enc t x
 | .uZ t,x=> .tF (enc t x)
 | .const v,_=> .val v
 | .ptr c,_=> .ptr (b c) []
 | .own c,_=> .tail (b c) 0
 | .Fw c,n=> .slice (b c) [] 0 n
 | .agg ps,d=> .agg (cj.qL b ps d)
 | .kc c p,d=> .ptr (b c) (om.mk p d)
 | .wN fn ps,d=> .wN fn (cj.qL b ps d)
 | .ue c n,_=> .ue (b c) n
 | .skip,_=> .undef
 | .I8 p,d=> .tF (cj.mk b p d)
def cj.qL (b:Nat->Nat):(ps:List cj)->cj.wO ps->List AV
 | [],_=> []
 |p::ps,d=>cj.mk b p d.1::cj.qL b ps d.2
end
inductive fP where
 |var (v:AV)
 |row (ro:Bool) (t:Ty) (xs:List t.den)
 |dead
 |store (ep:List (Nat×aH)) (xs:List (cP ep))
 |void
structure St where
 t:Nat->AV
 h:Nat->Option fP
 ep:Nat
 nt:Nat
def St.put (s:St)(d:Option Tmp)(v:AV):St:=match d with
 |some d=>if d<s.nt then{s with t:=λx=>if x=d then v else s.t x} else s
 |none=>s
def St.set (s:St)(id:Nat)(o:fP):St:={s with h:=λx=>if x=id then some o else s.h x}
def St.ev (s:St):Operand->AV
 | .tmp t=>s.t t
 | .const v=> .val v
 | .func f=> .val (.func (.func f) #[] #[])
 | .global _=> .undef
def SB:Nat:=100000000000000
def name (ep slot j:Nat):Nat:=(ep*1000+slot)*100+j
section
variable {α:Type}
def St.new (s:St)(id:Nat)(o:fP)(k:St->Option α):Option α:=match s.h id with|none=>k (s.set id o)|some _=>none
def I9:List Step->AV->(AV->Option α)->Option α
 | [],v,k=>k v
 | .im n::p, .agg fs,k=>match fs[n]? with|some v=>I9 p v k|none=>none
 | .idx i::p, .arr _ t xs,k=>match xs[i]? with|some x=>I9 p (enc t x) k|none=>none
 |_,_,_=>none
def St.get (s:St)(id:Nat)(p:List Step)(k:AV->Option α):Option α:=
 match s.h id with
 |some (.var v)=>I9 p v k
 |some (.row _ t xs)=>(match p with
  | .idx i::p=>(match xs[i]? with|some x=>I9 p (enc t x) k|none=>none)
  |_=>none)
 |_=>none
def zy (s:St)(i:Nat):Bool:=match s.h i with|some (.row _ _ _)=>true|_=>false
def pX (s:St)(t:Ty):AV->(List t.den->List Nat->Option α)->Option α
 | .dp t' xs,k=>match rW t' t xs with|some ys=>k ys []|none=>none
 | .val (.slice none 0 0),k=>k [] []
 | .tail id off,k=>match s.h id with
  |some (.row _ t' xs)=>(match rW t' t xs with|some ys=>k (ys.drop off) [id]|none=>none)
  |_=>none
 | .slice id p off len,k=>match p.isEmpty&&zy s id with
  |true=>(match s.h id with
   |some (.row _ t' xs)=>(match rW t' t xs with|some ys=>k ((ys.drop off).take len) [id]|none=>none)
   |_=>none)
  |false=>s.get id p λu=>(match u with
   | .arr _ t' xs=>(match rW t' t xs with|some ys=>k ((ys.drop off).take len) [id]|none=>none)
   |_=>none)
 |_,_=>none
def Us {β:Type}(f:AV->(β->List Nat->Option α)->Option α):List AV->(List β->List Nat->Option α)->Option α
 | [],k=>k [] []
 |v::vs,k=>f v λx i=>Us f vs λxs j=>k (x::xs) (i++j)
def KW (s:St)(t:Ty)(f:AV->(t.den->List Nat->Option α)->Option α)(v:AV)(k:List t.den->List Nat->Option α):Option α:=match v with
 | .ue id n=>(match s.h id with
  |some (.var (.agg vs))=>(match decide (vs.length=n) with|true=>Us f vs λxs ids=>k xs (id::ids)|false=>none)
  |_=>none)
 |v=>pX s t v k
mutual
def qG (s:St):(t:Ty)->AV->(t.den->List Nat->Option α)->Option α
 | .int k',v,k=>match v with| .val (.int k'' n)=>(if k''=k' then k n [] else none)|_=>none
 | .bool,v,k=>match v with| .val (.bool b)=>k b []|_=>none
 | .str,v,k=>match v with| .val (.string b)=>k b []|_=>none
 | .nil,v,k=>match v with| .agg []=>k () []|_=>none
 | .cons a b,v,k=>match v with
  | .agg (x::l)=>qG s a x λp i=>qG s b (.agg l) λq j=>k (p,q) (i++j)
  |_=>none
 | .arr n t,v,k=>match v with
  | .arr n' t' xs=>(if n'=n then(match rW t' t xs with|some ys=>k ys []|none=>none) else none)
  |_=>none
 | .deep t,v,k=>KW s t (qG s t) v k
 | .ref g,v,k=>match v with| .rf g' n 50=>(if g'=g then k n [] else none)| .val (.pointer none)=>k (0:Nat) []|_=>none
end
def St.freeze (s:St):List Nat->Option St
 | []=>some s
 |i::l=>match s.h i with
  |some (.row _ t xs)=>(s.set i (.row true t xs)).freeze l
  |_=>none
mutual
def AV.lj:AV->AV->Bool
 | .agg fs, .agg gs=>AV.u9 fs gs
 | .arr n t _, .arr n' t' _=>decide (n=n')&&decide (t=t')
 | .agg _,_=>false
 | .arr _ _ _,_=>false
 | .AN _,_=>false
 | .undef,_=>false
 |_, .agg _=>false
 |_, .arr _ _ _=>false
 |_, .AN _=>false
 |_, .undef=>false
 |_,_=>true
def AV.u9:List AV->List AV->Bool
 | [],[]=>true
 |x::xs,y::ys=>x.lj y&&AV.u9 xs ys
 |_,_=>false
end
def Ja (s:St):List Step->AV->AV->(AV->Option α)->Option α
 | [],u,v,k=>match v.lj u with|true=>k u|false=>none
 | .im n::p,u, .agg fs,k=>match fs[n]? with|some v=>Ja s p u v λv'=>k (.agg (fs.set n v'))|none=>none
 | .idx i::p,u, .arr n t xs,k=>match xs[i]? with
  |some x=>Ja s p u (enc t x) λv'=>qG s t v' λx' ids=>(match ids with| []=>k (.arr n t (xs.set i x'))|_=>none)
  |none=>none
 |_,_,_,_=>none
def St.store (s:St)(id:Nat)(p:List Step)(u:AV)(k:St->Option α):Option α:=
 match s.h id with
 |some (.var v)=>Ja s p u v λv'=>k (s.set id (.var v'))
 |some (.row false t xs)=>(match p with
  | .idx i::p=>(match xs[i]? with
   |some x=>Ja s p u (enc t x) λv'=>qG s t v' λx' ids=>(match ids.contains id||!(ids.all λj=>u.ids.contains j) with
    |true=>none
    |false=>match s.freeze ids with
     |some s=>k (s.set id (.row false t (xs.set i x')))
     |none=>none)
   |none=>none)
  |_=>none)
 |_=>none
inductive Sh where
 |one|agg (l:List Sh)|arr (n:Nat) (e:Sh)
mutual
def Sh.size:Sh->Nat
 | .one=>1
 | .agg l=>Sh.dD l
 | .arr n e=>n*e.size
def Sh.dD:List Sh->Nat
 | []=>0
 |x::xs=>x.size+Sh.dD xs
end
def rX:Ty->Sh
 | .nil=> .agg []
 | .cons a b=>match rX b with| .agg l=> .agg (rX a::l)|v=> .agg [rX a,v]
 | .arr n t=> .arr n (rX t)
 |_=> .one
mutual
def AV.sh:AV->Sh
 | .agg fs=> .agg (AV.xc fs)
 | .arr n t _=> .arr n (rX t)
 |_=> .one
def AV.xc:List AV->List Sh
 | []=> []
 |x::xs=>x.sh::AV.xc xs
end
def zz:List Step->Sh->Option Sh
 | [],s=>some s
 | .im n::p, .agg l=>match l[n]? with|some s=>zz p s|none=>none
 | .idx _::p, .arr _ e=>zz p e
 |_,_=>none
def St.shape (s:St)(id:Nat)(p:List Step):Option Sh:=
 match s.h id with
 |some (.var v)=>zz p v.sh
 |some (.row _ t _)=>(match p with| .idx _::p=>zz p (rX t)|_=>none)
 |_=>none
def mY (P:Program)(t:TypeId):Bool:=match P.underlying t with|some (.slice _)=>true|_=>false
def va (P:Program):Nat->TypeId->Option Ty
 |0,_=>none
 |n+1,t=>match P.underlying t with
  |some (.int k)=>some (.int k)
  |some .bool=>some .bool
  |some .string=>some .str
  |some (.struct fs)=>fs.toList.foldr (λf acc=>match va P n f.type,acc with|some a,some b=>some (.cons a b)|_,_=>none) (some .nil)
  |some (.array m e)=>(va P n e).map (.arr m)
  |some (.slice e)=>(va P n e).map .deep
  |some (.pointer e)=>some (.ref e)
  |_=>none
def iy:(t:Ty)->t.den
 | .int _=>(0:Int)| .bool=>false| .str=>ByteArray.empty| .nil=>()| .cons a b=>(iy a,iy b)| .arr n t=>List.replicate n (iy t)| .deep _=> []| .ref _=>(0:Nat)
def zeroOf (P:Program):Nat->TypeId->Option AV
 |0,_=>none
 |n+1,t=>match P.underlying t with
  |some (.int k)=>some (.val (.int k 0))
  |some .bool=>some (.val (.bool false))
  |some .string=>some (.val (.string ByteArray.empty))
  |some (.pointer _)=>some (.val (.pointer none))
  |some (.slice _)=>some (.val (.slice none 0 0))
  |some (.struct fs)=>(fs.toList.foldr (λf acc=>match zeroOf P n f.type,acc with|some a,some b=>some (a::b)|_,_=>none) (some [])).map .agg
  |some (.array m e)=>(match mY P e with
   |true=>some (.agg (List.replicate m (.val (.slice none 0 0))))
   |false=>(va P n e).map λt=> .arr m t (List.replicate m (iy t)))
  |_=>none
def mR:(t:Ty)->t.den->List Value
 | .int k,n=> [.int k n]
 | .bool,b=> [.bool b]
 | .str,s=> [.string s]
 | .nil,_=> []
 | .cons a b,p=>mR a p.1++mR b p.2
 | .arr _ t,xs=>xs.flatMap (mR t)
 | .deep _,_=> [.slice none 0 0]
 | .ref _,_=> [.pointer none]
mutual
def qM:AV->List Value
 | .val v=> [v]
 | .agg fs=>rC fs
 | .arr _ t xs=>xs.flatMap (mR t)
 |_=> [.nilFunc]
def rC:List AV->List Value
 | []=> []
 |x::xs=>qM x++rC xs
end
def veq:Value->Value->Bool
 | .int k a, .int k' b=>decide (k=k')&&decide (a=b)
 | .bool a, .bool b=>a==b
 | .string a, .string b=>a.data.toList==b.data.toList
 | .pointer none, .pointer none=>true
 | .slice none a b, .slice none c d=>decide (a=c)&&decide (b=d)
 |_,_=>false
def OJ:List Value->List Value->Bool
 | [],[]=>true
 |x::xs,y::ys=>veq x y&&OJ xs ys
 |_,_=>false
def zeroV (P:Program)(t:TypeId)(k:AV->Option α):Option α:=
 match(P.info? t).bind (·.zero),zeroOf P 12 t with
 |some z,some v=>(match OJ z.cells.toList (qM v) with|true=>k v|false=>none)
 |_,_=>none
mutual
def AV.nq:AV->Bool
 | .undef=>false
 | .AN _=>false
 | .val v=>v.oneCell'
 | .agg fs=>AV.AO fs
 |_=>true
def AV.AO:List AV->Bool
 | []=>true
 |x::xs=>x.nq&&AV.AO xs
end
def qN (P:Program)(t:TypeId):Bool:=match P.underlying t with|some (.struct _)|some (.array _ _)=>true|_=>false
def rY (P:Program)(t:TypeId)(v:AV):Bool:=
 v.nq&& (v.isAgg==qN P t)&&decide (v.size=P.cellsOf t)&& (P.underlying t).isSome
noncomputable def aj (a b:Int):Bool:=af (a=b)
def xd (a b:Bool):Bool:=a==b
def Jb (a b:ByteArray):Bool:=a.toList==b.toList
noncomputable def yS:(t:Ty)->t.den->t.den->Bool
 | .int _,a,b=>aj a b
 | .bool,a,b=>xd a b
 | .str,a,b=>Jb a b
 | .nil,_,_=>true
 | .cons a b,x,y=>yS a x.1 y.1&&yS b x.2 y.2
 | .arr _ t,xs,ys=>(xs.zip ys).all λp=>yS t p.1 p.2
 | .deep _,_,_=>false
 | .ref _,_,_=>false
def M8:Ty->Bool
 | .int _=>true
 |_=>false
def KX:Ty->Bool
 | .int _=>true| .bool=>true| .nil=>true| .cons a b=>KX a&&KX b| .arr _ t=>KX t|_=>false
noncomputable def T4 (P:Program):Nat->TypeId->AV->AV->Option Bool
 |0,_,_,_=>none
 |d+1,t,x,y=>match P.underlying t,x,y with
  |some (.int k), .val (.int ka a), .val (.int kb b)=>if ka=k/\kb=k then some (aj a b) else none
  |some .bool, .val (.bool a), .val (.bool b)=>some (xd a b)
  |some .string, .val (.string a), .val (.string b)=>some (Jb a b)
  |some (.struct fs), .agg xs, .agg ys=>(match P.stoodInHeld t with|true=>none|false=>KY P d fs.toList 0 xs ys)
  |some (.array n e), .arr m t xs, .arr m' t' ys=>(match va P 12 e,rW t' t ys with
   |some te,some ys=>if te=t/\m=n/\m'=n/\M8 t=true/\1<=d/\P.cellsOf e=1/\(P.info? e).isSome=true then some ((xs.zip ys).all λp=>yS t p.1 p.2) else none
   |_,_=>none)
  |_,_,_=>none
 where KY (P:Program) (d:Nat):List Field->Nat->List AV->List AV->Option Bool
 | [],_,[],[]=>some true
 |f::fs,off,x::xs,y::ys=>if f.name= "_" \/f.offset≠off then none else
  match rY P f.type x&&rY P f.type y&&decide (x.size=y.size) with
  |false=>none
  |true=>match T4 P d f.type x y,KY P d fs (off+x.size) xs ys with|some a,some b=>some (a&&b)|_,_=>none
 |_,_,_,_=>none
noncomputable def Ut (P:Program)(t:TypeId)(x y:AV):Option Bool:=match x.isAgg&&y.isAgg with
 |true=>(match P.eqGuardType P.depth t with|true=>none|false=>T4 P 12 t x y)
 |false=>none
def WG (P:Program)(t:TypeId):Bool:=match P.underlying t with|some (.slice e)=>(P.info? e).isSome|_=>false
def uI (P:Program)(t:TypeId)(n:Nat):Bool:=match P.underlying t with|some (.slice e)=>(P.info? e).isSome&&decide (P.cellsOf e=n)|_=>false
def yU (P:Program)(t:TypeId)(m n:Nat):Bool:=match P.underlying t with|some (.array m' e)=>(P.info? e).isSome&&decide (m'=m)&&decide (P.cellsOf e=n)|_=>false
def CW (P:Program)(t:TypeId)(m n:Nat):Bool:=match P.underlying t with|some (.pointer t')=>yU P t' m n|_=>yU P t m n
def QX (P:Program)(t:TypeId)(m:Nat)(te:Ty):Bool:=match P.underlying t with|some (.array m' e)=>decide (m'=m)&& (match va P 12 e with|some XH=>decide (XH=te)&&decide (P.cellsOf e=te.size)|none=>false)|_=>false
def He (s:St)(id:Nat)(p:List Step):Option Nat:=match s.h id,p with
 |some (.row _ te _),[]=>some te.size
 |_,p=>match s.shape id p with|some (.arr _ e)=>some e.size|_=>none
def Jc (P:Program)(s:St)(t:TypeId):AV->(Int->Option α)->Option α
 | .dp _ xs,k=>(match mY P t with|true=>k xs.length|false=>none)
 | .val (.slice none 0 0),k=>(match mY P t with|true=>k 0|false=>none)
 | .val (.string b),k=>(match P.underlying t with|some .string=>k b.size|_=>none)
 | .tail id off,k=>match s.h id with|some (.row _ _ xs)=>(match mY P t with|true=>k ((xs.length-off:Nat):Int)|false=>none)|_=>none
 | .slice _ _ _ len,k=>(match mY P t with|true=>k len|false=>none)
 | .ue _ n,k=>(match mY P t with|true=>k n|false=>none)
 | .arr n _ _,k=>(match P.underlying t with|some (.array m _)=>(if m=n then k n else none)|_=>none)
 |_,_=>none
def xe (P:Program)(s:TypeId)(f:Nat):Option Nat:=
 match P.underlying s with
 |some (.struct fs)=>match fs[f]? with
  |some fd=>if P.cellsOf fd.type=0 then none else some fd.offset
  |none=>none
 |_=>none
def QY (P:Program)(s:TypeId)(f:Nat)(v:AV):Bool:=
 match P.underlying s with
 |some (.struct fs)=>match fs[f]? with
  |some fd=>rY P fd.type v
  |none=>false
 |_=>false
def M9 (P:Program)(e:TypeId)(n:Nat):Bool:=match(P.info? e).bind (·.zero) with|some z=>decide (z.cells.size=n)|none=>false
def zA (P:Program)(t:TypeId):Option (TypeId×Ty):=
 match P.underlying t with
 |some (.slice e)=>match va P 12 e with|some te=>(if te.size=P.cellsOf e/\1<=P.bytesOf e/\M9 P e te.size=true then some (e,te) else none)|none=>none
 |_=>none
def nat?:AV->(Int->Option α)->Option α
 | .val (.int _ n),k=>k n
 |_,_=>none
def Hf (s:St)(x:Option Operand)(d:Int)(k:Int->Option α):Option α:=match x with|none=>k d|some x=>nat? (s.ev x) k
def ifk (c:Bool)(k:Option α):Option α:=match c with|true=>k|false=>none
def elems (s:St)(t:Ty):List AV->(List t.den->List Nat->Option α)->Option α
 | [],k=>k [] []
 |v::vs,k=>qG s t v λx i=>elems s t vs λxs j=>k (x::xs) (i++j)
def Dk (sz:Nat):List AV->List (Nat×AV)->Option (List AV)
 |l,[]=>some l
 |l,(i,u)::ps=>match decide (i<l.length)&&u.nq&&decide (u.size=sz) with|true=>Dk sz (l.set i u) ps|false=>none
def zB (fs:List AV):List (Nat×AV)->Option (List AV)
 | []=>some fs
 |(i,u)::ps=>match fs[i]? with|some v=>(match v.lj u&&u.nq with|true=>zB (fs.set i u) ps|false=>none)|none=>none
def CX (s:St)(t:Ty)(xs:List t.den):List (Nat×AV)->(List t.den->Option α)->Option α
 | [],k=>k xs
 |(i,u)::ps,k=>qG s t u λx ids=>match ids with| []=>(match decide (i<xs.length)&&u.nq with|true=>CX s t (xs.set i x) ps k|false=>none)|_=>none
def tm (P:Program):List Field->Nat->List AV->Bool
 | [],_,[]=>true
 |f::fs,off,v::vs=>decide (f.offset=off)&&decide (P.cellsOf f.type=v.size)&& (P.info? f.type).isSome&&tm P fs (off+v.size) vs
 |_,_,_=>false
def room:Nat:=2^46
def uu (xs:List Int):ByteArray:=⟨(xs.map λn=>n.toNat.toUInt8).toArray⟩
noncomputable def QZ (s:St)(op:BinOp)(ka kb:IntKind)(a b:Int)(k:AV->St->Option α):Option α:=match op with
 | .shl=>(match af (b<0) with|true=>none|false=>k (.val (.int ka (shl ka a b))) s)
 | .shr=>(match af (b<0) with|true=>none|false=>k (.val (.int ka (shr ka a b))) s)
 |op=>if ka=kb then(match op with
  | .add=>k (.val (.int ka (wr ka (a+b)))) s
  | .sub=>k (.val (.int ka (wr ka (a-b)))) s
  | .mul=>k (.val (.int ka (wr ka (a*b)))) s
  | .quo=>(match af (b=0) with|true=>none|false=>k (.val (.int ka (wr ka (a.tdiv b)))) s)
  | .rem=>(match af (b=0) with|true=>none|false=>k (.val (.int ka (a.tmod b))) s)
  | .and=>k (.val (.int ka (sH ka a b))) s
  | .or=>k (.val (.int ka (AL ka a b))) s
  | .xor=>k (.val (.int ka (pt ka a b))) s
  | .andNot=>k (.val (.int ka (Dj ka a b))) s
  | .eql=>k (.val (.bool (af (a=b)))) s
  | .neq=>k (.val (.bool (!af (a=b)))) s
  | .lss=>k (.val (.bool (af (a<b)))) s
  | .leq=>k (.val (.bool (af (a<=b)))) s
  | .gtr=>k (.val (.bool (af (a>b)))) s
  | .geq=>k (.val (.bool (af (a>=b)))) s
  |_=>none) else none
def QJ (s:St)(op:BinOp)(r:Bool)(k:AV->St->Option α):Option α:=match op with
 | .eql=>k (.val (.bool r)) s
 | .neq=>k (.val (.bool (!r))) s
 |_=>none
def yV (P:Program)(t:TypeId):Bool:=match P.underlying t with|some (.pointer _)=>true|_=>false
noncomputable def Jd (P:Program)(s:St)(op:BinOp)(t:TypeId)(x:AV)(k:AV->St->Option α):Option α:=match mY P t with
 |false=>none
 |true=>Jc P s t x λn=>match af (n=0) with
  |true=>(match op with| .eql=>k .xb s| .neq=>k .xb s|_=>none)
  |false=>QJ s op false k
noncomputable def Q0 (P:Program)(s:St)(op:BinOp)(t:TypeId)(x y:AV)(k:AV->St->Option α):Option α:=match x,y with
 | .val (.int ka a), .val (.int kb b)=>QZ s op ka kb a b k
 | .val (.bool a), .val (.bool b)=>(match P.underlying t with|some .bool=>QJ s op (xd a b) k|_=>none)
 | .val (.string a), .val (.string b)=>QJ s op (Jb a b) k
 | .val (.pointer none), .val (.pointer none)=>(match yV P t with|true=>QJ s op true k|false=>none)
 | .val (.slice none _ _), .val (.slice none _ _)=>(match mY P t with|true=>QJ s op true k|false=>none)
 | .ptr _ _, .val (.pointer none)=>(match yV P t with|true=>QJ s op false k|false=>none)
 | .val (.pointer none), .ptr _ _=>(match yV P t with|true=>QJ s op false k|false=>none)
 | .rf _ n _, .val (.pointer none)=>(match yV P t with|true=>QJ s op (af (n=0)) k|false=>none)
 | .val (.pointer none), .rf _ n _=>(match yV P t with|true=>QJ s op (af (n=0)) k|false=>none)
 | .dp te xs, .val (.slice none _ _)=>Jd P s op t (.dp te xs) k
 | .tail i off, .val (.slice none _ _)=>Jd P s op t (.tail i off) k
 | .slice i p off len, .val (.slice none _ _)=>Jd P s op t (.slice i p off len) k
 |a,b=>(match Ut P t a b with|some r=>QJ s op r k|none=>none)
def xf (P:Program)(s:St)(t:TypeId)(x:AV)(f:Nat)(k:AV->St->Option α):Option α:=match x,xe P t f with
 | .ptr i p,some off=>(match s.h i with
  |some .dead=>k (.QH i p f off) s
  |_=>(match s.shape i p with|some (.agg fs)=>(match decide (Sh.dD (fs.take f)=off/\f<fs.length) with|true=>k (.ptr i (p++ [.im f])) s|false=>none)|_=>none))
 | .tF (.agg fs),some off=>(match decide (AV.dD (fs.take f)=off) with|true=>(match fs[f]? with|some v=>k (.tF v) s|none=>none)|false=>none)
 |_,_=>none
def Hg (P:Program)(s:St)(t:TypeId)(x:AV)(f:Nat)(k:AV->St->Option α):Option α:=match x,xe P t f with
 | .agg fs,some off=>(match decide (AV.dD (fs.take f)=off) with|true=>(match fs[f]? with|some v=>(match QY P t f v with|true=>k v s|false=>none)|none=>none)|false=>none)
 |_,_=>none
def KZ (P:Program)(s:St)(t:TypeId)(x:AV)(k:AV->St->Option α):Option α:=match x with
 | .ptr i p=>s.get i p λv=>(match rY P t v with|true=>k v s|false=>none)
 | .tF v=>(match rY P t v with|true=>k v s|false=>none)
 |_=>none
def Hh (P:Program)(s:St)(t:TypeId)(x y:AV)(k:AV->St->Option α):Option α:=match x with
 | .ptr i p=>(match rY P t y with|true=>s.store i p y λs'=>k (.val Go.undef) s'|false=>none)
 |_=>none
def Hi (P:Program)(s:St)(id:Nat)(t:TypeId)(k:AV->St->Option α):Option α:=zeroV P t λv=>s.new id (.var v) λs=>k (.ptr id []) s
def Q1 (s:St)(id:Nat)(v:AV)(k:AV->St->Option α):Option α:=match v.nq with
 |true=>s.new id (.var v) λs=>k (.ptr id []) s
 |false=>none
def Hj (P:Program)(s:St)(t:TypeId)(parts:List (Nat×AV))(k:AV->St->Option α):Option α:=zeroV P t λz=>match P.underlying t,z with
 |some (.struct fl), .agg fs=>(match tm P fl.toList 0 fs with|true=>(match zB fs parts with|some fs=>k (.agg fs) s|none=>none)|false=>none)
 |some (.array m e), .arr n te xs=>(match decide (m=n)&&decide (P.cellsOf e=te.size)&& (P.info? e).isSome with|true=>CX s te xs parts λxs=>k (.arr n te xs) s|false=>none)
 |_,_=>none
def AV.XI:AV->Bool
 | .ptr _ _=>true
 | .agg (.ptr _ _::_)=>true
 |_=>false
def AV.zb4:AV->Bool
 | .tail _ _=>true
 | .slice _ _ _ _=>true
 |_=>false
def Hk (s:St)(id len sz:Nat)(l:List AV)(k:AV->St->Option α):Option α:=match decide (0<len*sz/\len*sz<=1000) with|true=>s.new id (.var (.agg l)) λs=>k (.ue id len) s|false=>none
def vM (P:Program)(s:St)(id:Nat)(t:TypeId)(len:Nat)(parts:List (Nat×AV))(k:AV->St->Option α):Option α:=match zA P t with
 |some (e,te)=>zeroV P e λz=>match Dk te.size (List.replicate len z) parts with
  |none=>none
  |some l=>match l.any AV.XI||(decide (2<=len)&&l.any AV.zb4) with
   |true=>Hk s id len te.size l k
   |false=>elems s te l λxs ids=>(match ids.all (zy s) with
    |true=>(match s.freeze ids with
     |some s=>(match decide (len*te.size<=1000)&&ids.all (λj=>(parts.flatMap λp=>p.2.ids).contains j) with|true=>s.new id (.row false te xs) λs=>k (.tail id 0) s|false=>none)
     |none=>none)
    |false=>Hk s id len te.size l k)
 |none=>none
noncomputable def xg (P:Program)(s:St)(id:Nat)(t:TypeId)(l c:AV)(k:AV->St->Option α):Option α:=match zA P t with
 |some (e,te)=>nat? l λn=>nat? c λm=>
  (match af (n=m/\0<=n/\n*P.bytesOf e<=room) with
  |true=>zeroV P e λ_=>s.new id (.row false te (List.replicate n.toNat (iy te))) λs=>k (.tail id 0) s
  |false=>none)
 |none=>none
noncomputable def Dl (i:Int)(k:Nat->Option α):Nat->Nat->Option α
 |0,_=>none
 |f+1,j=>match af (i=j) with|true=>k j|false=>Dl i k f (j+1)
def Dm (l:List Sh)(n:Nat):Bool:=l.all λe=>decide (e.size=n)
def AP (l:List Sh):Nat:=match l with|e::_=>e.size| []=>0
noncomputable def xh (P:Program)(s:St)(t:TypeId)(x ix:AV)(k:AV->St->Option α):Option α:=nat? ix λi=>match x with
 | .dp te xs=>(match uI P t te.size with|false=>none|true=>match af (0<=i) with|true=>(match xs[i.toNat]? with|some x=>k (.tF (enc te x)) s|none=>none)|false=>none)
 | .tail id off=>(match s.h id with
  |some (.row _ te xs)=>(match uI P t te.size with|false=>none|true=>match af (0<=i/\i<((xs.length-off:Nat):Int)) with|true=>k (.ptr id [.idx (i.toNat+off)]) s|false=>none)
  |_=>none)
 | .slice id p off len=>(match He s id p with
  |some n=>(match uI P t n with|false=>none|true=>match af (0<=i/\i<len) with|true=>k (.ptr id (p++ [.idx (i.toNat+off)])) s|false=>none)
  |none=>none)
 | .ptr id p=>(match s.shape id p with
  |some (.arr n e)=>(match yU P t n e.size with|false=>none|true=>match af (0<=i/\i<n) with|true=>k (.ptr id (p++ [.idx i.toNat])) s|false=>none)
  |some (.agg l)=>(match yU P t l.length (AP l)&&Dm l (AP l) with|false=>none|true=>Dl i (λj=>k (.ptr id (p++ [.im j])) s) l.length 0)
  |_=>none)
 | .ue id n=>(match s.shape id [] with
  |some (.agg l)=>(match uI P t (AP l)&&Dm l (AP l)&&decide (l.length=n) with|false=>none|true=>Dl i (λj=>k (.ptr id [.im j]) s) l.length 0)
  |_=>none)
 | .tF (.arr n te xs)=>(match yU P t n te.size with|false=>none|true=>match af (0<=i/\i<n) with|true=>(match xs[i.toNat]? with|some x=>k (.tF (enc te x)) s|none=>none)|false=>none)
 |_=>none
def Q2 (P:Program)(t:TypeId)(fs:List AV):Bool:=match P.underlying t with|some (.array m e)=>decide (m=fs.length)&&fs.all (λv=>rY P e v)|_=>false
noncomputable def Hl (P:Program)(s:St)(t:TypeId)(x ix:AV)(k:AV->St->Option α):Option α:=nat? ix λi=>match x with
 | .arr n te xs=>(match QX P t n te with|false=>none|true=>match af (0<=i/\i<n) with|true=>(match xs[i.toNat]? with|some x=>k (enc te x) s|none=>none)|false=>none)
 | .agg fs=>(match Q2 P t fs with|false=>none|true=>Dl i (λj=>match fs[j]? with|some v=>k v s|none=>none) fs.length 0)
 |_=>none
def XJ {β:Type}(lo hi:Option Operand)(l h:Int)(xs:List β):List β:=match lo,hi with|none,none=>xs|none,some _=>xs.take h.toNat|some _,none=>xs.drop l.toNat|some _,some _=>(xs.take h.toNat).drop l.toNat
def Ga (s:St)(id:Nat)(p:List Step)(off len:Nat):Nat:=match s.h id,p with|some (.row _ _ xs),[]=>xs.length-off|_,_=>len
noncomputable def Dn (P:Program)(s:St)(t:TypeId)(x:AV)(lo hi:Option Operand)(mx:Operand)(k:AV->St->Option α):Option α:=Hf s lo 0 λl=>match hi with
 |none=>none
 |some hi=>nat? (s.ev hi) λh=>nat? (s.ev mx) λm=>match x with
  | .tail id off=>(match s.h id with
   |some (.row _ te xs)=>(match uI P t te.size with|false=>none|true=>match af (0<=l/\l<=h/\h<=m/\m<=((xs.length-off:Nat):Int)) with|true=>k .undef s|false=>none)
   |_=>none)
  |_=>none
noncomputable def Hm (P:Program)(s:St)(t:TypeId)(x:AV)(lo hi:Option Operand)(k:AV->St->Option α):Option α:=Hf s lo 0 λl=>match x with
 | .dp te xs=>(match uI P t te.size with|false=>none|true=>Hf s hi xs.length λh=>(match af (0<=l/\l<=h/\h<=xs.length) with
  |true=>k (.dp te (XJ lo hi l h xs)) s
  |false=>none))
 | .val (.slice none 0 0)=>(match WG P t with|false=>none|true=>Hf s hi 0 λh=>(match af (l=0/\h=0) with|true=>k (.val (.slice none 0 0)) s|false=>none))
 | .tail id off=>(match s.h id with
  |some (.row _ te xs)=>(match uI P t te.size with|false=>none|true=>match hi with
   |none=>(match af (0<=l/\l<=((xs.length-off:Nat):Int)) with|true=>k (.tail id (l.toNat+off)) s|false=>none)
   |some hi=>nat? (s.ev hi) λh=>(match af (0<=l/\l<=h/\h<=((xs.length-off:Nat):Int)) with|true=>k (.slice id [] (l.toNat+off) (h-l).toNat) s|false=>none))
  |_=>none)
 | .slice id p off len=>(match He s id p with
  |some n=>(match uI P t n with|false=>none|true=>Hf s hi len λh=>(match af (0<=l/\l<=h/\h<=Ga s id p off len) with|true=>k (.slice id p (l.toNat+off) (h-l).toNat) s|false=>none))
  |none=>none)
 | .ptr id p=>(match s.shape id p with
  |some (.arr n e)=>(match CW P t n e.size with|false=>none|true=>Hf s hi n λh=>(match af (0<=l/\l<=h/\h<=n) with|true=>k (.slice id p l.toNat (h-l).toNat) s|false=>none))
  |_=>none)
 | .tF (.arr n te xs)=>(match CW P t n te.size with|false=>none|true=>Hf s hi n λh=>(match af (0<=l/\l<=h/\h<=n) with|true=>k (.dp te ((xs.take h.toNat).drop l.toNat)) s|false=>none))
 |_=>none
noncomputable def AQ (P:Program)(s:St)(id:Nat)(src dst:TypeId)(x:AV)(k:AV->St->Option α):Option α:=match x with
 | .val (.int _ n)=>(match P.underlying src,P.underlying dst with|some (.int _),some (.int kd)=>k (.val (.int kd (wr kd n))) s|_,_=>none)
 | .val (.string b)=>(match P.underlying src,P.underlying dst with
  |some .string,some .string=>k (.val (.string b)) s
  |some .string,some (.slice e)=>(match P.underlying e with
   |some (.int .u8)=>s.new id (.row false (.int .u8) (b.data.toList.map λc=>((c.toNat:Nat):Int))) λs=>k (.tail id 0) s
   |_=>none)
  |_,_=>none)
 |v=>(match P.underlying src,P.underlying dst with
  |some (.slice e),some .string=>(match P.underlying e with
   |some (.int .u8)=>pX s (.int .u8) v λxs _=>k (.val (.string (uu xs))) s
   |_=>none)
  |some (.slice _),some (.slice e)=>(match P.underlying e,decide (src=dst),v with
   |some (.int .u8),true, .tail j off=>(match s.h j with
    |some (.row false (.int .u8) xs)=>(match decide (off<xs.length) with|true=>k (.tail j off) s|false=>none)
    |_=>none)
   |_,_,_=>none)
  |_,_=>none)
def yW (P:Program)(t:TypeId):Bool:=match P.underlying t with|some (.int _)=>false|some _=>true|none=>false
noncomputable def inPlace (s:St)(i off len:Nat)(te:Ty)(xs ys:List te.den)(k:AV->St->Option α):Option α:=
 match af (off+len+ys.length<=xs.length) with
 |true=>k (.slice i [] off (len+ys.length)) (s.set i (.row false te (xs.take (off+len)++ys++xs.drop (off+len+ys.length))))
 |false=>none
noncomputable def grow (P:Program)(s:St)(id:Nat)(e:TypeId)(te:Ty)(base ys:List te.den)(k:AV->St->Option α):Option α:=
 match af (((base.length+ys.length:Nat):Int)*P.bytesOf e<=room) with
 |true=>s.new id (.row false te (base++ys)) λs=>k (.tail id 0) s
 |false=>none
noncomputable def grown (P:Program)(s:St)(id:Nat)(ty:TypeId)(e:TypeId)(te:Ty)(base:List te.den)(y:AV)(k:AV->St->Option α):Option α:=match y with
 | .val (.int .i64 n)=>(match P.underlying ty with
  |some (.int _)=>(match af (0<=n/\((base.length:Int)+n)*P.bytesOf e<=room) with
   |true=>zeroV P e λ_=>s.new id (.row false te (base++List.replicate n.toNat (iy te))) λs=>k (.tail id 0) s
   |false=>none)
  |_=>none)
 | .val (.string b)=>(match yW P ty,rW (.int .u8) te (b.data.toList.map λc=>((c.toNat:Nat):Int)) with
  |true,some ys=>grow P s id e te base ys k
  |_,_=>none)
 |v=>(match yW P ty with|false=>none|true=>pX s te v λys _=>grow P s id e te base ys k)
noncomputable def Dp (P:Program)(s:St)(id:Nat)(tx ty:TypeId)(x y:AV)(k:AV->St->Option α):Option α:=match zA P tx with
 |some (e,te)=>(match x with
  | .val (.slice none 0 0)=>grown P s id ty e te [] y k
  | .tail i off=>(match s.h i with
   |some (.row false t' xs)=>(match rW t' te xs with
    |some xs=>grown P (s.set i .dead) id ty e te (xs.drop off) y k
    |none=>none)
   |_=>none)
  | .slice i [] off len=>(match s.h i with
   |some (.row false t' xs)=>(match rW t' te xs with
    |some xs=>(match yW P ty with|false=>none|true=>pX s te y λys _=>inPlace s i off len te xs ys k)
    |none=>none)
   |_=>none)
  |_=>none)
 |none=>none
noncomputable def K0 (P:Program)(s:St)(tx:TypeId)(x y:AV)(k:AV->St->Option α):Option α:=match zA P tx with
 |some (_,te)=>pX s te y λys _=>(match x with
  | .tail id off=>(match s.h id with
   |some (.row false t' xs)=>(match decide (off=0) with|false=>none|true=>match rW t' te xs with
    |some xs=>k (.val (.int .i64 ((min ys.length xs.length:Nat):Int))) (s.set id (.row false te (ys.take xs.length++xs.drop ys.length)))
    |none=>none)
   |_=>none)
  | .slice id p off len=>(match p.isEmpty&&zy s id with
   |true=>none
   |false=>s.get id p λu=>(match u with
    | .arr n t' xs=>(match rW t' te xs with
     |some xs=>s.store id p (.arr n te (xs.take off++(ys.take len++xs.drop (off+min ys.length len)))) λs=>k (.val (.int .i64 ((min ys.length len:Nat):Int))) s
     |none=>none)
    |_=>none))
  |_=>none)
 |none=>none
noncomputable def Hn (P:Program)(s:St)(t:TypeId)(x:AV)(k:AV->St->Option α):Option α:=match zA P t with
 |some (e,te)=>zeroV P e λ_=>(match x with
  | .slice i [] off len=>(match s.h i with
   |some (.row false t' xs)=>(match rW t' te xs with
    |some xs=>k (.AN []) (s.set i (.row false te (xs.take off++List.replicate len (iy te)++xs.drop (off+len))))
    |none=>none)
   |_=>none)
  |_=>none)
 |none=>none
noncomputable def AR (P:Program)(s:St)(id:Nat)(b:Builtin)(args:List AV)(tys:List TypeId)(k:AV->St->Option α):Option α:=match b,args,tys with
 | .len,[x],t::_=>Jc P s t x λn=>k (.val (.int .i64 n)) s
 | .cap,[x],t::_=>(match x with| .val (.slice none 0 0)=>(match mY P t with|true=>k (.val (.int .i64 0)) s|false=>none)|_=>none)
 | .min,[x,y],_=>(match x,y with| .val (.int ka a), .val (.int kb b)=>(if ka=kb then k (.val (.int ka (qF a b))) s else none)|_,_=>none)
 | .max,[x,y],_=>(match x,y with| .val (.int ka a), .val (.int kb b)=>(if ka=kb then k (.val (.int ka (imax a b))) s else none)|_,_=>none)
 | .append,[x,y],tx::ty::_=>Dp P s id tx ty x y k
 | .copy,[x,y],tx::_=>K0 P s tx x y k
 | .clear,[x],tx::_=>Hn P s tx x k
 |_,_,_=>none
noncomputable def aop (P:Program)(s:St)(o:Oper)(k:AV->St->Option α):Option α:=
 match o.op with
 | .move x=>k (s.ev x) s
 | .assign x=>k (s.ev x) s
 | .nilCheck x=>(match s.ev x with| .ptr i p=>k (.ptr i p) s| .tF v=>k (.tF v) s| .rf g n c=>(match af (n=0) with|true=>none|false=>k (.rf g n c) s)|_=>none)
 | .fieldAddr t x f=>xf P s t (s.ev x) f k
 | .field t x f=>Hg P s t (s.ev x) f k
 | .load t x=>KZ P s t (s.ev x) k
 | .store t x y=>Hh P s t (s.ev x) (s.ev y) k
 | .pick c a b=>(match s.ev c with| .val (.bool t)=>(match t with|true=>k (s.ev a) s|false=>k (s.ev b) s)|_=>none)
 | .binOp op t x y _=>Q0 P s op t (s.ev x) (s.ev y) k
 | .unOp op _ x=>(match op,s.ev x with
  | .not, .val (.bool b)=>k (.val (.bool (!b))) s
  | .neg, .val (.int ki n)=>k (.val (.int ki (wr ki (0-n)))) s
  | .xor, .val (.int ki n)=>k (.val (.int ki (pt ki (QW ki) n))) s
  |_,_=>none)
 | .convert src dst x=>AQ P s (name s.ep (o.dst.getD 999) 0) src dst (s.ev x) k
 | .extract x i=>(match s.ev x with| .AN vs=>(match vs[i]? with|some v=>k v s|none=>none)|_=>none)
 | .alloc t=>Hi P s (name s.ep (o.dst.getD 999) 0) t k
 | .box _ x=>Q1 s (name s.ep (o.dst.getD 999) 0) (s.ev x) k
 | .build t parts=>Hj P s t (parts.toList.map λp=>(p.1,s.ev p.2)) k
 | .buildSlice t len parts=>vM P s (name s.ep (o.dst.getD 999) 0) t len (parts.toList.map λp=>(p.1,s.ev p.2)) k
 | .makeSlice t l c=>xg P s (name s.ep (o.dst.getD 999) 0) t (s.ev l) (s.ev c) k
 | .indexAddr t x ix=>xh P s t (s.ev x) (s.ev ix) k
 | .index t x ix=>Hl P s t (s.ev x) (s.ev ix) k
 | .slice t x lo hi none=>Hm P s t (s.ev x) lo hi k
 | .slice t x lo hi (some mx)=>Dn P s t (s.ev x) lo hi mx k
 | .makeFunc fn first captured=>(match first.size,captured.size with|0,_=>k (.wN fn (captured.toList.map s.ev)) s|_,0=>k (.Cz fn (first.toList.map s.ev)) s|_,_=>none)
 | .call {callee:= .builtin b,args,argTypes}=>AR P s (name s.ep (o.dst.getD 999) 0) b (args.toList.map s.ev) argTypes.toList k
 |_=>none
inductive Item where
 |code (c:Code)
 |ops (all:Array Oper) (rest:List Oper)
 |zC (all:Array Oper) (i:Nat) (rest:List Oper) (Dq:List (Nat×(List Nat×List Nat)×Option Nat))
 |Na (id:Nat)
inductive Out where
 |norm|ret|exit (id:Nat)
def unwind (id:Nat):List Item->Option (List Item)
 | []=>none
 | .Na i::k=>if i=id then some k else unwind id k
 |_::k=>unwind id k
structure Env (α:Type) where
 call:FuncId->List AV->St->(fresh:Nat)->(AV->St->Option α)->Option α
 loop:Nat->St->(Out->St->Option α)->Option α
 fp:FuncId->List AV->St->Nat->List Nat×List Nat
def mh:Code->Option Nat
 | .region id _ _=>some id
 | .seq a b=>match mh a with|some i=>some i|none=>mh b
 | .cond _ a b=>match mh a with|some i=>some i|none=>mh b
 | .block _ c| .loop c| .scope c=>mh c
 |_=>none
def vd:AV->List Nat
 | .ptr i _| .tail i _| .slice i _ _ _| .ue i _| .QH i _ _ _=> [i]
 |_=> []
def Nb (s:St)(o:Oper):List Nat:=
 match o.op with
 | .store _ x y=>vd (s.ev x)++(s.ev y).ids
 | .buildSlice _ _ ps=>ps.toList.flatMap λp=>(s.ev p.2).ids
 | .call {callee:= .builtin .append,args,argTypes:=_}=>args.toList.flatMap λx=>vd (s.ev x)
 | .call {callee:= .builtin .copy,args,argTypes:=_}=>args.toList.flatMap λx=>vd (s.ev x)
 | .call {callee:= .builtin .clear,args,argTypes:=_}=>args.toList.flatMap λx=>vd (s.ev x)
 |_=> []
def makes (o:Oper):Bool:=
 match o.op with
 | .alloc _| .box _ _| .makeSlice _ _ _| .convert _ _ _| .buildSlice _ _ _=>true
 | .call {callee:= .builtin .append,args:=_,argTypes:=_}=>true
 | .call {callee:= .value _,args:=_,argTypes:=_}=>true
 |_=>false
def qo (ep:Nat)(o:Oper)(id:Nat):Bool:=makes o&&decide (id/100=ep*1000+o.dst.getD 999)
def Q3 (o:Oper):List Nat:=o.op.operands.toList.filterMap fun| .tmp t=>some t|_=>none
def Ho (h:Nat->Option fP):AV->AV
 | .QH i p f off=>match St.shape ⟨λ_=> .undef,h,0,0⟩ i p with
  |some (.agg fs)=>(match decide (Sh.dD (fs.take f)=off/\f<fs.length) with|true=> .ptr i (p++ [.im f])|false=> .QH i p f off)
  |_=> .QH i p f off
 |v=>v
def rD (s:St):St:={s with t:=λx=>Ho s.h (s.t x)}
def Dr (s:St)(o:Oper)(fp:List Nat×List Nat):Nat->Option fP:=λid=>if fp.1.contains id||fp.2.contains id||qo s.ep o id then s.h id else some .dead
def wC (s:St)(o:Oper)(fp:List Nat×List Nat):St:=
 {t:=λx=>if(Q3 o).contains x then Ho (Dr s o fp) (s.t x) else .undef,h:=Dr s o fp,ep:=s.ep,nt:=s.nt}
def merge (s:St)(o:Oper)(W:List Nat)(s':St):St:={s with h:=λid=>if W.contains id||qo s.ep o id then s'.h id else s.h id}
noncomputable def yv (env:Env α)(s:St)(o:Oper):List Nat×List Nat:=
 match o.op with
 | .load _ x| .fieldAddr _ x _| .indexAddr _ x _| .slice _ x _ _ _| .convert _ _ x=>(vd (s.ev x),Nb s o)
 | .call {callee:= .builtin _,args,argTypes:=_}=>(args.toList.flatMap λx=>vd (s.ev x),Nb s o)
 | .call {callee:= .value f,args,argTypes:=_}=>match s.ev f with
  | .val (.func (.func f) _ _)=>env.fp f (args.toList.map s.ev) s (name s.ep (o.dst.getD 999) 0)
  | .wN (.func f) cs=>env.fp f (args.toList.map s.ev++cs) s (name s.ep (o.dst.getD 999) 0)
  |_=>([],[])
 |_=>([],Nb s o)
abbrev Fp:=(List Nat×List Nat)×Option Nat
def keyOf (ep:Nat)(o:Oper):Option Nat:=if makes o then some (ep*1000+o.dst.getD 999) else none
def WH (k:Option Nat)(l:List Nat):Bool:=match k with|none=>false|some k=>l.any λi=>decide (i/100=k)
def yH (a b:Fp):Bool:=
 a.1.2.any (λi=>b.1.1.contains i||b.1.2.contains i)||b.1.2.any (λi=>a.1.1.contains i)||
 WH a.2 (b.1.1++b.1.2)||WH b.2 (a.1.1++a.1.2)||(match a.2,b.2 with|some k,some k'=>decide (k=k')|_,_=>false)
def WI (bj:Nat)(f:Fp)(Dq:List (Nat×Fp)):Bool:=
 Dq.all λp=>bj.testBit p.1||!yH p.2 f
noncomputable def Je (P:Program)(env:Env α)(st:St)(o:Oper)(k:AV->St->Option α):Option α:=match o.op with
 | .call {callee:= .value f,args,argTypes:=_}=>(match st.ev f with
  | .val (.func (.func f) first captured)=>(match first.size+captured.size with|0=>env.call f (args.toList.map st.ev) st (name st.ep (o.dst.getD 999) 0) k|_=>none)
  | .wN (.func f) cs=>env.call f (args.toList.map st.ev++cs) st (name st.ep (o.dst.getD 999) 0) k
  |_=>none)
 |_=>aop P st o k
noncomputable def guarded (all:Array Oper)(o:Oper)(st:St)(next:St->Option α)(skip:St->Option α):Option α:=match o.guard with
 |none=>next st
 |some (j,want)=>match(all[j]?).bind (·.dst) with
  |none=>none
  |some slot=>match st.t slot with
   | .val (.bool b)=>(match b with
    |true=>(match want with|true=>next (st.put (some slot) (.val (.bool true)))|false=>skip ((st.put (some slot) (.val (.bool true))).put o.dst (.val Go.undef)))
    |false=>(match want with|false=>next (st.put (some slot) (.val (.bool false)))|true=>skip ((st.put (some slot) (.val (.bool false))).put o.dst (.val Go.undef))))
   | .val (.tuple _)=>skip (st.put o.dst (.val Go.undef))
   |_=>none
noncomputable def exec (P:Program)(env:Env α):Nat->List Item->St->(Out->St->Option α)->Option α
 |0,_,_,_=>none
 |n+1,todo,st,K=>
  match todo with
  | []=>K .norm st
  | .Na _::k=>exec P env n k st K
  | .ops all rest::k=>(match rest with
   | []=>exec P env n k st K
   |o::rest=>guarded all o st (λst=>Je P env st o λv eY=>exec P env n (.ops all rest::k) (eY.put o.dst v) K) (λst=>exec P env n (.ops all rest::k) st K))
  | .zC all i rest Dq::k=>(match rest with
   | []=>exec P env n k (rD st) K
   |o::rest=>guarded all o st
    (λst=>match WI ((Region.before all).getD i 0) (yv env (rD st) o,keyOf st.ep o) Dq with
     |true=>match(yv env (wC st o (yv env (rD st) o)) o).2.all (λi=>(yv env (rD st) o).2.contains i) with|false=>none|true=>Je P env (wC st o (yv env (rD st) o)) o λv eY=>exec P env n (.zC all (i+1) rest ((i,yv env (rD st) o,keyOf st.ep o)::Dq)::k) ((merge st o (yv env (rD st) o).2 eY).put o.dst v) K
     |false=>(match o.op with
      | .fieldAddr _ _ _=>(match WI ((Region.before all).getD i 0) (([],[]),keyOf st.ep o) Dq with
       |true=>Je P env (wC st o ([],[])) o λv eY=>exec P env n (.zC all (i+1) rest ((i,([],[]),keyOf st.ep o)::Dq)::k) ((merge st o [] eY).put o.dst v) K
       |false=>none)
      |_=>none))
    (λst=>exec P env n (.zC all (i+1) rest Dq::k) st K))
  | .code c::k=>match c with
   | .skip=>exec P env n k st K
   | .label _=>exec P env n k st K
   | .seq a b=>exec P env n (.code a:: .code b::k) st K
   | .region _ ops draw=>(match draw with
    |false=>exec P env n (.ops ops ops.toList::k) {st with ep:=st.ep+1} K
    |true=>exec P env n (.zC ops 0 ops.toList []::k) {st with ep:=st.ep+1} K)
   | .cond c x y=>(match st.ev c with
    | .val (.bool b)=>(match b with|true=>exec P env n (.code x::k) st K|false=>exec P env n (.code y::k) st K)
    | .xb=>(match af (exec P env n (.code x::k) st K=exec P env n (.code y::k) st K) with|true=>exec P env n (.code x::k) st K|false=>none)
    |_=>none)
   | .block id c=>exec P env n (.code c:: .Na id::k) st K
   | .exit id=>(match unwind id k with|some k'=>exec P env n k' st K|none=>K (.exit id) st)
   | .ret=>K .ret st
   | .loop c=>(match mh c with
    |some id=>env.loop id st λout st=>(match out with
     | .norm=>none
     | .ret=>K .ret st
     | .exit id=>(match unwind id k with|some k'=>exec P env n k' st K|none=>K (.exit id) st))
    |none=>none)
   |_=>none
end
end AM
namespace AM
open Go
def wD:List (Nat×cj)->Type
 | []=>Unit
 |o::os=>o.2.den×wD os
structure jt where
 jM:List (Nat×cj)
 heap:List (Nat×aH)
def jt.den (s:jt):Type:=wD s.jM×cP s.heap
def gK:List jt->Type
 | []=>Empty
 | [e]=>e.den
 |e::es=>e.den⊕gK es
def aH.mk (b:Nat->Nat):(p:aH)->p.den->fP
 | .var p,d=> .var (p.mk b d)
 | .row t,d=> .row false t d
 | .store ep,d=> .store ep d
def mN (b:Nat->Nat):(l:List (Nat×aH))->cP l->(Nat->Option fP)->(Nat->Option fP)
 | [],_,h=>h
 |(c,p)::os,d,h=>λx=>if x=b c then some (p.mk b d.1) else mN b os d.2 h x
def yX (b:Nat->Nat):(l:List (Nat×cj))->wD l->Nat->AV
 | [],_,_=> .undef
 |o::os,d,x=>if x=o.1 then o.2.mk b d.1 else yX b os d.2 x
def jt.st (s:jt)(nt:Nat)(d:s.den):St:={t:=yX id s.jM d.1,h:=mN id s.heap d.2 (λ_=>none),ep:=0,nt}
inductive wP where
 |at_ (i:Nat)|tl (i off:Nat)|nil|sl (i off len:Nat)
abbrev kq:=List (Nat×wP)
def kq.get (b:kq)(c:Nat):Option wP:=match b with| []=>none|p::ps=>if p.1=c then some p.2 else kq.get ps c
def kq.add (b:kq)(c:Nat)(g:wP):Option kq:=match b.get c,g with
 |none,g=>some ((c,g)::b)
 |some (.at_ i), .at_ j=>if i=j then some b else none
 |some (.tl i 0), .tl j 0=>if i=j then some b else none
 |some _,_=>none
def kq.look (b:kq)(c:Nat):Option wP:=match decide (SB<=c) with|true=>some (.at_ c)|false=>b.get c
mutual
def cj.beq:cj->cj->Bool
 | .hole t, .hole t'=>decide (t=t')
 | .ptr c, .ptr c'=>decide (c=c')
 | .own c, .own c'=>decide (c=c')
 | .agg ps, .agg XK=>cj.Q4 ps XK
 |_,_=>false
def cj.Q4:List cj->List cj->Bool
 | [],[]=>true
 |p::ps,q::qs=>p.beq q&&cj.Q4 ps qs
 |_,_=>false
end
mutual
def aH.beq:aH->aH->Bool
 | .var p, .var q=>p.beq q
 | .row t, .row t'=>decide (t=t')
 | .store e, .store e'=>K1 e e'
 |_,_=>false
def K1:List (Nat×aH)->List (Nat×aH)->Bool
 | [],[]=>true
 |(c,p)::os,(c',p')::os'=>decide (c=c')&&p.beq p'&&K1 os os'
 |_,_=>false
end
mutual
theorem cj.beq_eq: ∀{p q:cj},p.beq q=true->p=q
 | .hole t,q,h=>by cases q<;>simp[cj.beq] at h;subst h;rfl
 | .ptr c,q,h=>by cases q<;>simp[cj.beq] at h;subst h;rfl
 | .own c,q,h=>by cases q<;>simp[cj.beq] at h;subst h;rfl
 | .agg ps,q,h=>by cases q<;>simp[cj.beq] at h;rw[cj.Nd h]
 | .const _,q,h=>by simp[cj.beq] at h
 | .Fw _,q,h=>by simp[cj.beq] at h
 | .uZ _,q,h=>by simp[cj.beq] at h
 | .kc _ _,q,h=>by simp[cj.beq] at h
 | .wN _ _,q,h=>by simp[cj.beq] at h
 | .ue _ _,q,h=>by simp[cj.beq] at h
 | .skip,q,h=>by simp[cj.beq] at h
 | .I8 _,q,h=>by simp[cj.beq] at h
theorem cj.Nd: ∀{ps qs:List cj},cj.Q4 ps qs=true->ps=qs
 | [],qs,h=>by cases qs<;>simp[cj.Q4] at h;rfl
 |p::ps,qs,h=>by
  cases qs<;>simp[cj.Q4] at h
  rw[cj.beq_eq h.1,cj.Nd h.2]
end
mutual
theorem aH.beq_eq: ∀{p q:aH},p.beq q=true->p=q
 | .var p,q,h=>by cases q<;>simp[aH.beq] at h;rw[cj.beq_eq h]
 | .row t,q,h=>by cases q<;>simp[aH.beq] at h;subst h;rfl
 | .store e,q,h=>by cases q<;>simp[aH.beq] at h;rw[CY h]
theorem CY: ∀{l m:List (Nat×aH)},K1 l m=true->l=m
 | [],m,h=>by cases m<;>simp[K1] at h;rfl
 |(c,p)::os,m,h=>by
  cases m with
  |nil=>simp[K1] at h
  |cons x xs=>
   obtain⟨c',p'⟩:=x;simp[K1] at h;rw[h.1.1,aH.beq_eq h.1.2,CY h.2]
end
def Nf (e e':List (Nat×aH))(xs:List (cP e)):Option (List (cP e')):=if h:K1 e e'=true then some (CY h▸xs) else none
section
variable {α:Type}
def XL:Ty->AV->Bool
 | .int _, .val (.int _ _)=>true
 | .bool, .val (.bool _)=>true
 | .str, .val (.string _)=>true
 | .nil, .agg _=>true
 | .cons _ _, .agg _=>true
 | .arr _ _, .arr _ _ _=>true
 | .deep _, .val (.slice _ _ _)=>true
 | .deep _, .tail _ _=>true
 | .deep _, .slice _ _ _ _=>true
 | .deep _, .dp _ _=>true
 | .deep _, .ue _ _=>true
 | .ref _, .rf _ _ _=>true
 | .ref _, .val (.pointer none)=>true
 |_,_=>false
def XM:Fn->Fn->Bool
 | .func f, .func g=>decide (f=g)
 |_,_=>false
def nC:(p:List om)->List Step->(om.wO p->Option α)->Option α->Option α
 | [],[],k,_=>k ()
 | .im n::p, .im m::q,k,f=>(match decide (n=m) with|true=>nC p q k f|false=>f)
 | .idx::p, .idx i::q,k,f=>nC p q (λd=>k (i,d)) f
 |_,_,_,f=>f
def zaf (s:St)(t:Ty)(v:AV)(k:t.den->List Nat->Option α)(fail:Option α):Option α:=
 match XL t v with|true=>qG s t v k|false=>fail
mutual
def oK (s:St):(p:cj)->AV->kq->(p.den->List Nat->kq->Option α)->Option α->Option α
 | .hole t,v,b,k,f=>zaf s t v (λx i=>k x i b) f
 | .uZ t,v,b,k,f=>match v with
  | .ptr i p=>s.get i p λu=>qG s t u λx ids=>k x (i::ids) b
  | .tF u=>qG s t u λx ids=>k x ids b
  |_=>f
 | .const c,v,b,k,f=>match v with| .val v=>(match veq c v with|true=>k () [] b|false=>f)|_=>f
 | .ptr c,v,b,k,f=>match v with| .ptr i []=>(match b.add c (.at_ i) with|some b=>k () [] b|none=>f)|_=>f
 | .own c,v,b,k,f=>match v with
  | .tail i off=>(match b.add c (.tl i off) with|some b=>k () [] b|none=>f)
  | .val (.slice none 0 0)=>(match b.add c .nil with|some b=>k () [] b|none=>f)
  | .slice i [] off len=>(match zy s i with|true=>(match b.add c (.sl i off len) with|some b=>k () [] b|none=>f)|false=>f)
  |_=>f
 | .Fw c,v,b,k,f=>match v with
  | .slice i [] off len=>(match decide (off=0) with|true=>(match b.add c (.tl i 0) with|some b=>k len [] b|none=>f)|false=>f)
  |_=>f
 | .agg ps,v,b,k,f=>match v with| .agg vs=>uv s ps vs b k f|_=>f
 | .kc c p,v,b,k,f=>match v with| .ptr i q=>nC p q (λd=>match b.add c (.at_ i) with|some b=>k d [] b|none=>f) f|_=>f
 | .wN fn ps,v,b,k,f=>match v with| .wN fn' vs=>(match XM fn fn' with|true=>uv s ps vs b k f|false=>f)|_=>f
 | .ue c n,v,b,k,f=>match v with| .ue i m=>(match decide (n=m) with|true=>(match b.add c (.at_ i) with|some b=>k () [] b|none=>f)|false=>f)|_=>f
 | .skip,v,b,k,f=>match v.sh with| .one=>k () [] b|_=>f
 | .I8 p,v,b,k,f=>match v with
  | .ptr i q=>s.get i q λu=>oK s p u b (λx ids b=>k x (i::ids) b) f
  | .tF u=>oK s p u b k f
  |_=>f
def uv (s:St):(ps:List cj)->List AV->kq->(cj.wO ps->List Nat->kq->Option α)->Option α->Option α
 | [],[],b,k,_=>k () [] b
 |p::ps,v::vs,b,k,f=>oK s p v b (λx i b=>uv s ps vs b (λy j b=>k (x,y) (i++j) b) f) f
 |_,_,_,_,f=>f
end
def Hp (s:St):(l:List (Nat×cj))->kq->(wD l->List Nat->kq->Option α)->Option α->Option α
 | [],b,k,_=>k () [] b
 |o::os,b,k,f=>oK s o.2 (s.t o.1) b (λx i b=>Hp s os b (λy j b=>k (x,y) (i++j) b) f) f
def K2 (s:St)(f:Option α):(p:aH)->wP->kq->(p.den->List Nat->kq->Option α)->Option α
 | .var p, .at_ i,b,k=>match s.h i with|some (.var v)=>oK s p v b k f|_=>none
 | .row t, .tl i off,b,k=>match s.h i with
  |some (.row false t' xs)=>(match rW t' t xs with|some ys=>k (ys.drop off) [] b|none=>none)
  |_=>none
 | .row t, .sl i off len,b,k=>match s.h i with
  |some (.row false t' xs)=>(match rW t' t xs with|some ys=>k ((ys.drop off).take len) [] b|none=>none)
  |_=>none
 | .row _, .nil,b,k=>k [] [] b
 | .store ep, .at_ i,b,k=>match decide (SB<=i) with
  |true=>(match s.h i with
   |some (.store Fx xs)=>(match Nf Fx ep xs with|some ys=>k ys [] b|none=>none)
   |none=>k [] [] b
   |some .void=>k [] [] b
   |_=>none)
  |false=>none
 |_,_,_,_=>none
def Hq (s:St)(f:Option α):(l:List (Nat×aH))->kq->(cP l->List Nat->kq->Option α)->Option α
 | [],b,k=>k () [] b
 |(c,p)::os,b,k=>match b.look c with
  |some g=>K2 s f p g b λx i b=>Hq s f os b λy j b=>k (x,y) (i++j) b
  |none=>none
def wP.ids:wP->List Nat
 | .at_ i=> [i]| .tl i _=> [i]| .nil=> []| .sl i _ _=> [i]
def iM (l:List (Nat×aH))(b:kq):List Nat:=l.flatMap λo=>match b.look o.1 with|some g=>g.ids|none=> []
def nodup:List Nat->Bool
 | []=>true
 |x::xs=>!xs.contains x&&nodup xs
def isObj (s:St)(i:Nat):Bool:=match s.h i with|some (.var _)=>true|some (.row _ _ _)=>true|_=>false
def oN (sp:jt)(s:St)(b:kq)(k:sp.den->List Nat->kq->Option α)(fail:Option α):Option α:=
 Hp s sp.jM b (λx i b=>Hq s fail sp.heap b λy j b=>
  match nodup (iM sp.heap b)&& (i++j).all (λi=>!(iM sp.heap b).contains i&&isObj s i) with
  |true=>k (x,y) (i++j) b
  |false=>none) fail
def Ds (s:St)(b:kq):(es:List jt)->(gK es->Option α)->Option α
 | [],_=>none
 | [e],k=>oN e s b (λd _ _=>k d) none
 |e::e'::es,k=>oN e s b (λd _ _=>k (.inl d)) (Ds s b (e'::es) λd=>k (.inr d))
def Hr:(es:List jt)->gK es->((e:jt)->Nat->e.den->Option α)->Option α
 | [],d,_=>nomatch d
 | [e],d,k=>k e 0 d
 |e::e'::es,d,k=>match d with
  | .inl d=>k e 0 d
  | .inr d=>Hr (e'::es) d λe n d=>k e (n+1) d
def iter {L R:Type}(b:L->Option (L⊕R)):Nat->L->Option R
 |0,_=>none
 |n+1,l=>match b l with
  |none=>none
  |some (.inr r)=>some r
  |some (.inl l)=>iter b n l
open Classical in
noncomputable def ag {L R:Type}(b:L->Option (L⊕R))(l:L):Option R:=if h: ∃r,∃n,iter b n l=some r then some h.choose else none
theorem AS {L R:Type}{b:L->Option (L⊕R)}{r:R}: ∀{n m:Nat} {l:L},iter b n l=some r->n<=m->iter b m l=some r
 |0,_,_,h,_=>by simp[iter] at h
 |n+1,0,_,_,hm=>by omega
 |n+1,m+1,l,h,hm=>by
  simp only[iter] at h⊢;split at h
  ·cases h
  ·exact h
  ·exact AS h (by omega)
theorem oW {L R:Type}{b:L->Option (L⊕R)}{l:L}{r:R}:ag b l=some r↔∃n,iter b n l=some r:=by
 unfold ag;constructor
 ·intro h
  split at h
  ·rename_i hx
   injection h with h;subst h;exact hx.choose_spec
  ·cases h
 ·rintro⟨n,hn⟩
  have hx: ∃r,∃n,iter b n l=some r:=⟨r,n,hn⟩;rw[dif_pos hx];obtain⟨m,hm⟩:=hx.choose_spec;have h1:=AS hm (Nat.le_max_left m n);have h2:=AS hn (Nat.le_max_right m n);rw[h1] at h2;exact h2
theorem aq {L R:Type}(b:L->Option (L⊕R))(l:L):ag b l=match b l with|none=>none|some (.inr r)=>some r|some (.inl l')=>ag b l':=by
 cases h:b l with
 |none=>
  cases h2:ag b l with
  |none=>rfl
  |some r=>
   obtain⟨n,hn⟩:=oW.1 h2;cases n<;>simp[iter,h] at hn
 |some x=>
  cases x with
  |inr r=>exact oW.2 ⟨1,by simp[iter,h]⟩
  |inl l'=>
   show _=ag b l'
   cases h2:ag b l' with
   |some r=>
    obtain⟨n,hn⟩:=oW.1 h2;exact oW.2 ⟨n+1,by simp[iter,h,hn]⟩
   |none=>
    cases h3:ag b l with
    |none=>rfl
    |some r=>
     obtain⟨n,hn⟩:=oW.1 h3;cases n with
     |zero=>simp[iter] at hn
     |succ n=>
      simp only[iter,h] at hn;rw[oW.2 ⟨n,hn⟩] at h2;cases h2
def back (b:kq)(fresh c:Nat):Nat:=match decide (c<50) with
 |true=>(match b.get c with|some (.at_ i)=>i|_=>0)
 |false=>(match decide (SB<=c) with|true=>c|false=>fresh+(c-50))
def rP (h:Nat->Option fP):List Nat->(Nat->Option fP)
 | []=>h
 |i::l=>λx=>if x=i then some .dead else rP h l x
def tn (h:Nat->Option fP):List Nat->(Nat->Option fP)
 | []=>h
 |i::l=>λx=>if x=i then(match h i with|some (.row _ t xs)=>some (.row true t xs)|_=>some .dead) else tn h l x
structure ak where
 pre:jt
 iS:List jt
 zD:Bool
def iI:Option fP->Bool
 |none=>true
 |some .void=>true
 |_=>false
def oO (h:Nat->Option fP)(fresh:Nat)(pre l:List (Nat×aH)):Bool:=l.all λo=>decide (o.1<50)||(match decide (SB<=o.1) with
 |true=>(pre.any λq=>decide (q.1=o.1))||iI (h o.1)
 |false=>decide (o.1<150)&& (h (fresh+(o.1-50))).isNone)
def qO:List AV->AV
 | [v]=>v
 |vs=> .AN vs
def zag (sp:ak):List Nat:=sp.iS.flatMap λe=>(e.heap.map (·.1)).filter λc=>decide (SB<=c)
def Uu (sp:ak)(args:List AV)(st:St)(fail:List Nat×List Nat):List Nat×List Nat:=
 (oN sp.pre {t:=λi=>(args[i]?).getD .undef,h:=st.h,ep:=0,nt:=0} [] (λ_ ro b=>some (match sp.zD with|true=>(ro,iM sp.pre.heap b++zag sp)|false=>([],iM sp.pre.heap b++(ro++zag sp)))) (some fail)).getD ([],[])
def tG (lt:Bool)(h:Nat->Option fP)(pre:jt)(b:kq)(ro:List Nat):Nat->Option fP:=match lt with|true=>rP h (iM pre.heap b)|false=>tn (rP h (iM pre.heap b)) ro
def Dt (sp:ak)(f:sp.pre.den->Option (gK sp.iS))(args:List AV)(st:St)(W:List Nat)(fresh:Nat)(k:jt->List Nat->AV->St->Option α)(fail:Option α):Option α:=
 match decide (args.length=sp.pre.jM.length) with
 |false=>none
 |true=>oN sp.pre {t:=λi=>(args[i]?).getD .undef,h:=st.h,ep:=0,nt:=0} [] (λd ro b=>
  match f d with
  |none=>none
  |some r=>match(iM sp.pre.heap b++(match sp.zD with|true=> []|false=>ro)).all (λi=>W.contains i) with
   |false=>none
   |true=>Hr sp.iS r λe _ d'=>
    match oO st.h fresh sp.pre.heap e.heap&&e.heap.all (λo=>!decide (SB<=o.1)||W.contains o.1) with
    |false=>none
    |true=>k e (e.heap.map λo=>back b fresh o.1) (qO (e.jM.map λo=>yX (back b fresh) e.jM d'.1 o.1)) {st with h:=mN (back b fresh) e.heap d'.2 (tG sp.zD st.h sp.pre b ro)}) fail
mutual
def cj.ks:cj->List Nat
 | .hole t=>t.ks
 | .uZ t=>t.ks
 | .agg ps=>cj.Q5 ps
 | .wN _ ps=>cj.Q5 ps
 | .I8 p=>p.ks
 |_=> []
def cj.Q5:List cj->List Nat
 | []=> []
 |p::ps=>p.ks++cj.Q5 ps
end
def aH.ks:aH->List Nat
 | .var p=>p.ks
 | .row t=>t.ks
 | .store _=> []
def WJ (ks l:List Nat):Bool:=l.all λg=>!ks.contains g
def xi (ep:List (Nat×aH)):List Nat:=ep.filterMap λo=>match o.2 with| .store _=>some (o.1-SB)|_=>none
def cY (ep:List (Nat×aH))(x:Nat):Bool:=ep.any λo=>decide (o.1=x)&& (match o.2 with| .store _=>true|_=>false)
def AT (e:jt)(ids rw:List Nat)(ks:List Nat):Bool:=
 (e.jM.all λo=>WJ ks o.2.ks)&& ((e.heap.zip ids).all λp=>rw.contains p.2||(WJ ks p.1.2.ks&& (match p.1.2 with| .store _=>false|_=>true)))
def aH.mU:aH->Bool
 | .store _=>true
 |_=>false
mutual
def cj.cs:cj->List Nat
 | .ptr c=> [c]| .own c=> [c]| .Fw c=> [c]| .kc c _=> [c]| .ue c _=> [c]
 | .agg ps=>cj.Uv ps
 | .wN _ ps=>cj.Uv ps
 | .I8 p=>p.cs
 |_=> []
def cj.Uv:List cj->List Nat
 | []=> []
 |p::ps=>p.cs++cj.Uv ps
end
def aH.cs:aH->List Nat
 | .var p=>p.cs
 |_=> []
def AU (l:List (Nat×cj)):List Nat:=l.flatMap λo=>o.2.cs
def Du (l:List (Nat×cj)):List Nat:=l.flatMap λo=>o.2.ks
def AW (l:List (Nat×aH)):List Nat:=l.flatMap λo=>o.2.cs
def Dv (l:List (Nat×aH)):List Nat:=l.flatMap λo=>o.2.ks
def jt.closed (sp:jt):Bool:=((AU sp.jM++AW sp.heap).all λc=>decide (c<SB)&&sp.heap.any λe=>decide (e.1=c))&& ((Du sp.jM++Dv sp.heap).all λg=>cY sp.heap (SB+g))&&sp.heap.all λe=>e.2.mU==decide (SB<=e.1)
def OK (ep:List (Nat×aH)):Bool:=(jt.mk [] ep).closed&& (ep.all λo=>o.2.mU||(decide (50<=o.1)&&decide (o.1<90)))&&nodup (ep.map (·.1))
def Z5 (off:Nat)(ep:List (Nat×aH)):kq:=ep.filterMap λo=>match o.2 with| .var _=>some (o.1, .at_ (off+(o.1-50)))|_=>none
def Gb (ep:List (Nat×aH))(c:Nat):Bool:=ep.any λo=>decide (o.1=c)&& (match o.2 with| .var _=>true|_=>false)
def K3 (g n off:Nat)(ep:List (Nat×aH)):AV->AV
 | .ptr i []=>(match decide (off<=i)&&Gb ep (i-off+50) with|true=> .rf g n (i-off+50)|false=> .ptr i [])
 |v=>v
def XN:AV->List AV
 | .AN vs=>vs
 |v=> [v]
def WK (f:AV->AV):AV->AV
 | .AN vs=> .AN (vs.map f)
 |v=>f v
def tH (h:Nat->Option fP)(ep:List (Nat×aH))(rw:List Nat)(g:Nat)(o:fP):Nat->Option fP:=λx=>
 if x=SB+g then some o else match cY ep x with|true=>some .void|false=>if rw.contains x then some .dead else h x
def Jf {ep:List (Nat×aH)}(xs:List (cP ep))(n:Nat)(d:cP ep):List (cP ep):=xs.set n d
def BK {ep:List (Nat×aH)}(xs:List (cP ep))(d:cP ep):List (cP ep):=xs++ [d]
def K4 {ep:List (Nat×aH)}(xs:List (cP ep)):Nat:=xs.length
def Q6:Option fP->Bool
 |some .dead=>true
 |_=>false
def inW (W:List Nat)(fresh:Nat)(l:List Nat):Bool:=l.all λi=>W.contains i||decide (i/100=fresh/100)
def XO (W:List Nat)(fresh g n off:Nat)(ep:List (Nat×aH))(xs:List (cP ep))(e:jt)(ids:List Nat)(av:AV)(st:St)(k:AV->St->Option α):Option α:=
 oN ⟨[],ep⟩ st (Z5 off ep) (λd ro b=>match ro.isEmpty&&AT e ids (iM ep b) (xi ep)&&!(iM ep b).contains (SB+g)&&ep.all (λo=>o.2.mU||(iM ep b).contains (back [] off o.1)||Q6 (st.h (back [] off o.1)))&&inW W fresh (iM ep b) with
  |false=>none
  |true=>k (WK (K3 g (n+1) off ep) av) {st with h:=tH st.h ep (iM ep b) g (.store ep (Jf xs n d.2))}) none
def WL (g n:Nat)(vs:List AV)(i:Nat):AV:=qO (vs.set i (.rf g n 50))
def storeAt (ep:List (Nat×aH))(o:Option fP)(k:List (cP ep)->Option α):Option α:=match o with
 |some (.store Fx xs)=>(match Nf Fx ep xs with|some ys=>k ys|none=>none)
 |none=>k []
 |some .void=>k []
 |_=>none
def XP (W:List Nat)(fresh i g:Nat)(ep:List (Nat×aH))(e:jt)(ids:List Nat)(av:AV)(st:St)(k:AV->St->Option α):Option α:=
 match(XN av)[i]? with
 |some (.ptr j [])=>storeAt ep (st.h (SB+g)) λxs=>oN ⟨[],ep⟩ st [(50, .at_ j)] (λd ro b=>
  match ro.isEmpty&&AT e ids (iM ep b) (xi ep)&&!(iM ep b).contains (SB+g)&&Gb ep 50&&!cY ep (SB+g)&&inW W fresh (iM ep b) with
  |false=>none
  |true=>k (WL g (K4 (ep:=ep) xs+1) (XN av) i) {st with h:=tH st.h ep (iM ep b) g (.store ep (BK xs d.2))}) none
 |some (.val (.pointer none))=>k av st
 |_=>none
structure ow where
 sp:ak
 f:sp.pre.den->Option (gK sp.iS)
 dep:Option (Nat×Nat×List (Nat×aH))
def xj:List AV->List (Nat×cj)->Nat->Option (Nat×Nat×Nat×Nat)
 | .rf g n c::vs,(_, .ptr _)::ps,j=>some (j,g,n,c)
 |_::vs,_::ps,j=>xj vs ps (j+1)
 |_,_,_=>none
def om.Hs:(p:List om)->om.wO p
 | []=>()
 | .im _::p=>om.Hs p
 | .idx::p=>((0:Nat),om.Hs p)
mutual
def cj.Hs:(p:cj)->p.den
 | .hole t=>iy t
 | .uZ t=>iy t
 | .agg ps=>cj.Q7 ps
 | .wN _ ps=>cj.Q7 ps
 | .Fw _=>(0:Nat)
 | .kc _ p=>om.Hs p
 | .const _=>()
 | .ptr _=>()
 | .own _=>()
 | .ue _ _=>()
 | .skip=>()
 | .I8 p=>p.Hs
def cj.Q7:(ps:List cj)->cj.wO ps
 | []=>()
 |p::ps=>(p.Hs,cj.Q7 ps)
end
def aH.Hs:(p:aH)->p.den
 | .var p=>p.Hs
 | .row _=> []
 | .store _=> []
def WM:(l:List (Nat×aH))->cP l
 | []=>()
 |(_,p)::os=>(p.Hs,WM os)
def tI (st:St)(g off:Nat)(ep:List (Nat×aH))(d:cP ep):St:={st with h:=mN (back [] off) ep d (rP st.h [SB+g])}
def fpX (oL:ow)(args:List AV)(st:St)(fresh:Nat)(fail:List Nat×List Nat):List Nat×List Nat:=match xj args oL.sp.pre.jM 0 with
 |none=>(match oL.dep with
  |none=>Uu oL.sp args st fail
  |some (_,g,ep)=>((Uu oL.sp args st fail).1,(SB+g)::(ep.map (·.1)++(Uu oL.sp args st fail).2)))
 |some (j,g,_,c)=>match st.h (SB+g) with
  |some (.store ep _)=>
    let fp:=Uu oL.sp (args.set j (.ptr (back [] (fresh+60) c) [])) (tI st g (fresh+60) ep (WM ep)) fail
    (fp.1,(SB+g)::(ep.map (λo=>back [] (fresh+60) o.1)++fp.2))
  |_=>([],[])
def Q8 (oL:ow)(args:List AV)(st:St)(W:List Nat)(fresh:Nat)(k:AV->St->Option α)(fail:Option α):Option α:=match xj args oL.sp.pre.jM 0 with
 |none=>(match oL.dep with
  |none=>Dt oL.sp oL.f args st W fresh (λ_ _ av eY=>k av eY) fail
  |some (i,g,ep)=>match W.contains (SB+g)&&ep.all (λo=>W.contains o.1)&&OK ep&&ep.all (λo=>!o.2.mU||iI (st.h o.1)) with
   |true=>Dt oL.sp oL.f args st W fresh (λe ids av eY=>XP W fresh i g ep e ids av eY k) fail
   |false=>none)
 |some (j,g,n,c)=>match st.h (SB+g) with
  |some (.store ep xs)=>(match n with
   |0=>none
   |n+1=>match xs[n]? with
    |none=>none
    |some d=>match OK ep&&oO st.h (fresh+60) [] ep&&W.contains (SB+g)&&ep.all (λo=>W.contains (back [] (fresh+60) o.1))&&Gb ep c with
     |false=>none
     |true=>Dt oL.sp oL.f (args.set j (.ptr (back [] (fresh+60) c) [])) (tI st g (fresh+60) ep d) W fresh (λe ids av eY=>XO W fresh g n (fresh+60) ep xs e ids av eY k) fail)
  |_=>none
def me {β:Type}(n:Nat)(k:Nat->Option β):Option β:=match n with|0=>none|m+1=>k m
structure bD where
 pre:jt
 iS:List jt
 outs:List Out
 nt:Nat
noncomputable def K5 (sp:bD)(f:sp.pre.den->Option (sp.pre.den⊕gK sp.iS))(st:St)(k:Out->St->Option α)(fail:Option α):Option α:=
 match decide (st.nt=sp.nt) with
 |false=>none
 |true=>oN sp.pre st [] (λd ro b=>
  match ag f d with
  |none=>none
  |some r=>Hr sp.iS r λe n d'=>
   match oO st.h (name (st.ep+1) 998 0) sp.pre.heap e.heap with
   |false=>none
   |true=>k ((sp.outs[n]?).getD .norm) {t:=yX (back b (name (st.ep+1) 998 0)) e.jM d'.1,h:=mN (back b (name (st.ep+1) 998 0)) e.heap d'.2 (tG false st.h sp.pre b ro),ep:=st.ep+1,nt:=st.nt}) fail
def BL (sp:jt):kq:=sp.heap.filterMap λo=>match o.2 with| .var _=>(match decide (o.1<50) with|true=>some (o.1, .at_ o.1)|false=>none)|_=>none
def tp (P:Program)(st:St):List ResultVar->(List AV->Option α)->Option α
 | [],k=>k []
 | .tmp t::l,k=>tp P st l λvs=>k (st.t t::vs)
 | .cell a t::l,k=>match st.t a with| .ptr i p=>st.get i p λv=>(match rY P t v with|true=>tp P st l λvs=>k (v::vs)|false=>none)|_=>none
def Q9 (P:Program)(sp:ak)(fn:Func)(o:Out)(st:St):Option (gK sp.iS):=
 match o with
 | .exit _=>none
 |_=>tp P st fn.results.toList λvs=>Ds {st with t:=λi=>(vs[i]?).getD .undef} (BL sp.pre) sp.iS some
noncomputable def pY (P:Program)(sp:ak)(env:Env (gK sp.iS))(fn:Func)(d:sp.pre.den):Option (gK sp.iS):=
 match fn.body with
 |some c=>exec P env 100000 [.code c] (sp.pre.st fn.ntmps d) (Q9 P sp fn)
 |none=>none
def df (id:Nat):Code->Option Code
 | .seq a b=>match df id a with|some c=>some c|none=>df id b
 | .cond _ a b=>match df id a with|some c=>some c|none=>df id b
 | .block _ c=>df id c
 | .scope c=>df id c
 | .loop c=>if mh c=some id then some c else df id c
 |_=>none
def qP (id:Nat)(fn:Func):Code:=match fn.body with|some c=>(df id c).getD .skip|none=> .skip
structure ui where
 sp:bD
 f:sp.pre.den->Option (sp.pre.den⊕gK sp.iS)
def uw {β:Type}(n:Nat):List (Nat×β)->Option β
 | []=>none
 |p::l=>if p.1=n then some p.2 else uw n l
noncomputable def CZ (st:St)(k:Out->St->Option α):List ui->Option α
 | []=>none
 |l::ls=>K5 l.sp l.f st k (CZ st k ls)
def AX (args:List AV)(st:St)(W:List Nat)(fresh:Nat)(k:AV->St->Option α):List ow->Option α
 | []=>none
 |c::cs=>Q8 c args st W fresh k (AX args st W fresh k cs)
def OL (args:List AV)(st:St)(fresh:Nat):List ow->List Nat×List Nat
 | []=>([],[])
 |c::cs=>fpX c args st fresh (OL args st fresh cs)
noncomputable def ru (calls:List (Nat×List ow))(loops:List (Nat×List ui)):Env α where
 call f args st fresh k:=match uw f calls with
  |some cs=>AX args st (OL args st fresh cs).2 fresh k cs
  |none=>none
 loop id st k:=match uw id loops with
  |some ls=>CZ st k ls
  |none=>none
 fp f args st fresh:=match uw f calls with
  |some cs=>OL args st fresh cs
  |none=>([],[])
def Ng:Out->Out->Bool
 | .norm, .norm=>true| .ret, .ret=>true| .exit i, .exit j=>decide (i=j)|_,_=>false
def qQ (s:St)(b:kq)(o:Out):(es:List jt)->List Out->(gK es->Option α)->Option α
 | [],_,_=>none
 | [e],outs,k=>match outs with|o'::_=>(match Ng o o' with|true=>oN e s b (λd _ _=>k d) none|false=>none)| []=>none
 |e::e'::es,outs,k=>match outs with
  |o'::outs=>(match Ng o o' with
   |true=>oN e s b (λd _ _=>k (.inl d)) (qQ s b o (e'::es) outs λd=>k (.inr d))
   |false=>qQ s b o (e'::es) outs λd=>k (.inr d))
  | []=>none
def Ra (sp:bD)(o:Out)(st:St):Option (sp.pre.den⊕gK sp.iS):=
 match decide (st.nt=sp.nt) with
 |false=>none
 |true=>match o with
  | .norm=>oN sp.pre st (BL sp.pre) (λd _ _=>some (.inl d)) none
  |o=>qQ st (BL sp.pre) o sp.iS sp.outs λd=>some (.inr d)
noncomputable def rZ (P:Program)(sp:bD)(env:Env (sp.pre.den⊕gK sp.iS))(fn:Func)(id:Nat)(d:sp.pre.den):Option (sp.pre.den⊕gK sp.iS):=
 exec P env 100000 [.code (qP id fn)] (sp.pre.st sp.nt d) (Ra sp)
end
end AM
namespace AM
open Go
structure Nm where
 base:Option Addr
 sh:Sh
 row:Bool
 len:Nat
 cap:Nat
structure Names where
 at_:List (Nat×Nat)->Nat->Option Nm
instance :CoeFun Names (λ_=>Nat->Option Nm):=⟨λN=>N.at_ []⟩
def Names.sub (N:Names)(g k:Nat):Names:=⟨λp=>N.at_ ((g,k)::p)⟩
def Names.up (N:Names)(f:Nat->Option Nm):Names:=⟨λp=>match p with| []=>f|q::p=>N.at_ (q::p)⟩
def Names.nil:Names:=⟨λ_ _=>none⟩
def Names.Jg (N N':Names):Prop:= ∀g k c nm,N.sub g k c=some nm->nm.row=false->N'.sub g k c=some nm
structure Names.le (N N':Names):Prop where
 st: ∀i nm,N i=some nm->N' i=some nm
 sub:N.Jg N'
instance {N N':Names}:CoeFun (N.le N') (λ_=> ∀i nm,N i=some nm->N' i=some nm):=⟨λh=>h.st⟩
theorem Names.le_refl (N:Names):N.le N:=⟨λ_ _ h=>h,λ_ _ _ _ h _=>h⟩
theorem Names.le.trans {N N' WN:Names}(h:N.le N')(h':N'.le WN):N.le WN:=⟨λ_ _ e=>h'.st _ _ (h.st _ _ e),λg k c nm e r=>h'.sub g k c nm (h.sub g k c nm e r) r⟩
theorem Names.Rb {N:Names}{f:Nat->Option Nm}(h: ∀i nm,N i=some nm->f i=some nm):N.le (N.up f):=⟨h,λ_ _ _ _ e _=>e⟩
def fH:List Step->Sh->Option Nat
 | [],_=>some 0
 | .im n::p, .agg l=>match l[n]? with|some s=>(fH p s).map (Sh.dD (l.take n)+·)|none=>none
 | .idx i::p, .arr n e=>if i<n then(fH p e).map (i*e.size+·) else none
 |_,_=>none
def Nm.off (nm:Nm):List Step->Option Nat
 | .idx i::p=>if nm.row then(if i<nm.len then(fH p nm.sh).map (i*nm.sh.size+·) else none) else fH (.idx i::p) nm.sh
 |p=>if nm.row then none else fH p nm.sh
def Nm.KK (nm:Nm)(p:List Step):Option Sh:=if nm.row then(match p with| .idx _::p=>zz p nm.sh|_=>none) else zz p nm.sh
def Addr.at_ (a:Addr)(n:Nat):Addr:=⟨a.block,a.off+n,none⟩
def aV (w:World)(a:Addr)(j:Nat):Option Value:=w.cell? ⟨a.block,a.off+j,none⟩
abbrev jU {β:Type}(xs:List β)(i:Nat):Option β:=xs[i]?
abbrev aO {β:Type}(xs:List β):Nat:=xs.length
def Ht (ad:Addr)(len room:Nat)(v:Value):Prop:= ∃a cap,v= .slice (some a) len cap/\len<=cap/\cap=room/\(a=ad\/cap=0)
section
variable (N:Names)(D:Nat->Prop)(w:World)
def xk (tag n c:Nat)(v:Option Value):Prop:=match n with
 |0=>v=some (.pointer none)
 |k+1=> ∃nm a,N.sub tag k c=some nm/\nm.row=false/\nm.base=some a/\v=some (.pointer (some (Addr.at_ a 0)))
def iq:(t:Ty)->t.den->(Nat->Option Value)->Prop
 | .int k,n,g=>g 0=some (.int k n)
 | .bool,b,g=>g 0=some (.bool b)
 | .str,s,g=>g 0=some (.string s)
 | .nil,_,_=>True
 | .cons a b,p,g=>iq a p.1 g/\iq b p.2 (λj=>g (a.size+j))
 | .arr n t,xs,g=>aO (β:=t.den) xs=n/\∀i (x:t.den),jU (β:=t.den) xs i=some x->iq t x (λj=>g (i*t.size+j))
 | .deep t,xs,g=> ∃a cap,g 0=some (.slice a (aO (β:=t.den) xs) cap)/\aO (β:=t.den) xs<=cap/\(a=none->cap=0)/\
   ∀ad,a=some ad->aO (β:=t.den) xs≠0->ad.spot=none/\D ad.block/\∀i (x:t.den),jU (β:=t.den) xs i=some x->iq t x (λj=>aV w ad (i*t.size+j))
 | .ref g,n,c=>xk N g n 50 (c 0)
def zc2 (t:Ty)(xs:List t.den)(v:Value):Prop:=iq N D w (.deep t) xs (λ_=>some v)
end
def jw (agg:Bool)(size:Nat)(R:(Nat->Option Value)->Prop)(v:Value):Prop:=
 match agg with
 |true=> ∃cells:Array Value,v= .agg cells/\cells.size=size/\R (cells[·]?)
 |false=>R (λ_=>some v)
section
variable (N:Names)(D:Nat->Prop)(w:World)
mutual
def an:AV->(Nat->Option Value)->Prop
 | .undef,_=>True
 | .val v,g=>g 0=some v
 | .ptr id p,g=> ∃nm a o,N id=some nm/\nm.base=some a/\nm.off p=some o/\g 0=some (.pointer (some (Addr.at_ a o)))
 | .tail id off,g=> ∃nm,N id=some nm/\nm.row=true/\off<=nm.len/\nm.len<=nm.cap/\
   match nm.base with
   |none=>nm.len=0/\g 0=some (.slice none 0 0)
   |some a=> ∃v room,g 0=some v/\off+room<=nm.cap/\Ht (Addr.at_ a (off*nm.sh.size)) (nm.len-off) room v
 | .slice id p off len,g=> ∃nm,N id=some nm/\match nm.base with
  |none=>(nm.row&&p.isEmpty)=true/\off=0/\len=0/\nm.len=0/\g 0=some (.slice none 0 0)
  |some a=>
   if(nm.row&&p.isEmpty)=true then off+len<=nm.len/\nm.len<=nm.cap/\∃v room,g 0=some v/\off+room<=nm.cap/\nm.len<=off+room/\Ht (Addr.at_ a (off*nm.sh.size)) len room v
   else∃o n e v room,nm.off p=some o/\nm.KK p=some (.arr n e)/\off+len<=n/\g 0=some v/\off+room=n/\Ht (Addr.at_ a (o+off*e.size)) len room v
 | .dp t xs,g=>iq N D w (.deep t) xs g
 | .tF v,g=> ∃a,g 0=some (.pointer (some a))/\a.spot=none/\D a.block/\an v (aV w a)
 | .agg fs,g=>ff fs g
 | .arr n t xs,g=>iq N D w (.arr n t) xs g
 | .rf tag n c,g=>xk N tag n c (g 0)
 | .AN vs,g=> ∃cs:Array Value,g 0=some (.tuple cs)/\bA vs cs.toList
 | .wN fn vs,g=> ∃cs:Array Value,g 0=some (.func fn #[] cs)/\bA vs cs.toList
 | .xb,g=> ∃b,g 0=some (.bool b)
 | .QH id p f off,g=> ∃nm a o,N id=some nm/\nm.base=some a/\nm.off p=some o/\g 0=some (.pointer (some (Addr.at_ a (o+off))))
 | .Cz fn vs,g=> ∃cs:Array Value,g 0=some (.func fn cs #[])/\bA vs cs.toList
 | .ue id n,g=> ∃nm a,N id=some nm/\nm.base=some a/\nm.row=false/\g 0=some (.slice (some a) n n)
def ff:List AV->(Nat->Option Value)->Prop
 | [],_=>True
 |x::xs,g=>an x g/\ff xs (λj=>g (x.size+j))
def bA:List AV->List Value->Prop
 | [],cs=>cs=[]
 |x::xs,cs=> ∃c tq,cs=c::tq/\jw x.isAgg x.size (an x) c/\bA xs tq
end
def cq (x:AV)(v:Value):Prop:=jw x.isAgg x.size (an N D w x) v
end
theorem OM {N N':Names}(hN:N.Jg N'){tag n c:Nat}{v:Option Value}(h:xk N tag n c v):xk N' tag n c v:=by
 cases n with
 |zero=>exact h
 |succ k=>obtain⟨nm,a,h1,h2,h3⟩:=h;exact⟨nm,a,hN _ _ _ _ h1 h2,h2,h3⟩
def mi (ks:List Nat)(N N':Names):Prop:= ∀g∈ks,∀k c nm,N.sub g k c=some nm->nm.row=false->N'.sub g k c=some nm
theorem Names.Jg.on {N N':Names}(h:N.Jg N')(ks:List Nat):mi ks N N':=λg _=>h g
theorem mi.left {ks ks':List Nat}{N N':Names}(h:mi (ks++ks') N N'):mi ks N N':=λg hg=>h g (zdu _ hg)
theorem mi.right {ks ks':List Nat}{N N':Names}(h:mi (ks++ks') N N'):mi ks' N N':=λg hg=>h g (zdv _ hg)
theorem kr {N N':Names}{D D':Nat->Prop}{w w':World}(hD: ∀b,D b->D' b)(hw: ∀b,D b->w'.heap[b]?=w.heap[b]?): ∀(t:Ty) (x:t.den) (g:Nat->Option Value),mi t.ks N N'->iq N D w t x g->iq N' D' w' t x g
 | .int _,_,_,_,h=>by simp only[iq] at*;exact h
 | .bool,_,_,_,h=>by simp only[iq] at*;exact h
 | .str,_,_,_,h=>by simp only[iq] at*;exact h
 | .nil,_,_,_,_=>by simp only[iq]
 | .cons a b,p,g,hN,h=>⟨kr hD hw a p.1 g hN.left h.1,kr hD hw b p.2 _ hN.right h.2⟩
 | .arr n t,xs,g,hN,h=>⟨h.1,λi x hx=>kr hD hw t x _ hN (h.2 i x hx)⟩
 | .deep t,xs,g,hN,h=>by
  obtain⟨a,cap,h1,h2,h3,h4⟩:=h;refine⟨a,cap,h1,h2,h3,λad ha hx=>?_⟩;obtain⟨h5,h6,h7⟩:=h4 ad ha hx;refine⟨h5,hD _ h6,λi x hi=>?_⟩;have:=kr hD hw t x _ hN (h7 i x hi);have e:(λj=>aV w ad (i*t.size+j))=λj=>aV w' ad (i*t.size+j):=by
   funext j;simp only[aV,World.cell?,hw _ h6]
  rw[<-e];exact this
 | .ref g,n,c,hN,h=>by
  show xk N' g n 50 (c 0)
  have h:xk N g n 50 (c 0):=h;cases n with
  |zero=>exact h
  |succ k=>obtain⟨nm,a,h1,h2,h3⟩:=h;exact⟨nm,a,hN g (List.mem_singleton.2 rfl) _ _ _ h1 h2,h2,h3⟩
theorem K6 {N N':Names}{D D':Nat->Prop}{w w':World}(hN:N.Jg N')(hD: ∀b,D b->D' b)(hw: ∀b,D b->w'.heap[b]?=w.heap[b]?)(t:Ty)(x:t.den)(g:Nat->Option Value)(h:iq N D w t x g):iq N' D' w' t x g:=
 kr hD hw t x g (hN.on _) h
theorem kv {N N':Names}{D D':Nat->Prop}{w w':World}(hN:N.le N')(hD: ∀b,D b->D' b)(hw: ∀b,D b->w'.heap[b]?=w.heap[b]?)(t:Ty)(x:t.den)(g:Nat->Option Value)(h:iq N D w t x g):iq N' D' w' t x g:=
 K6 hN.sub hD hw t x g h
theorem ji {N:Names}{D:Nat->Prop}{w:World}: ∀(t:Ty) (x:t.den) (g g':Nat->Option Value),(∀j,j<t.size->g j=g' j)->iq N D w t x g->iq N D w t x g'
 | .int _,_,g,g',hg,h=>by simp only[iq] at*;rw[<-hg 0 (by simp[Ty.size])];exact h
 | .bool,_,g,g',hg,h=>by simp only[iq] at*;rw[<-hg 0 (by simp[Ty.size])];exact h
 | .str,_,g,g',hg,h=>by simp only[iq] at*;rw[<-hg 0 (by simp[Ty.size])];exact h
 | .nil,_,_,_,_,_=>by simp only[iq]
 | .cons a b,p,g,g',hg,h=>⟨ji a p.1 g g' (λj hj=>hg j (by simp[Ty.size];omega)) h.1,ji b p.2 _ _ (λj hj=>hg _ (by simp[Ty.size];omega)) h.2⟩
 | .arr n t,xs,g,g',hg,h=>by
  refine⟨h.1,λi x hx=>ji t x _ _ (λj hj=>hg _ ?_) (h.2 i x hx)⟩;have hi:i<aO (β:=t.den) xs:=(List.getElem?_eq_some_iff.1 hx).1;have:i+1<=n:=by have:=h.1;omega
  have:=zdw t.size this;simp only[Ty.size];rw[zdx] at this;omega
 | .deep t,xs,g,g',hg,h=>by
  obtain⟨a,cap,h1,h2⟩:=h;exact⟨a,cap,by rw[<-hg 0 (by simp[Ty.size])];exact h1,h2⟩
 | .ref _,_,g,g',hg,h=>by simp only[iq] at*;rw[<-hg 0 (by simp[Ty.size])];exact h
theorem xm {agg:Bool}{size:Nat}{R R':(Nat->Option Value)->Prop}(h: ∀g,R g->R' g){v:Value}(hv:jw agg size R v):jw agg size R' v:=by
 cases agg with
 |true=>obtain⟨c,h1,h2,h3⟩:=hv;exact⟨c,h1,h2,h _ h3⟩
 |false=>exact h _ hv
section
variable {N N':Names}{D D':Nat->Prop}{w w':World}
mutual
theorem qg (hN:N.le N')(hD: ∀b,D b->D' b)(hw: ∀b,D b->w'.heap[b]?=w.heap[b]?):
  ∀(x:AV) (g:Nat->Option Value),an N D w x g->an N' D' w' x g
 | .undef,_,_=>by simp only[an]
 | .val v,g,h=>by simp only[an] at*;exact h
 | .ptr id p,g,h=>by
  simp only[an] at*;obtain⟨nm,a,o,h1,h2⟩:=h;exact⟨nm,a,o,hN _ _ h1,h2⟩
 | .tail id off,g,h=>by
  simp only[an] at*;obtain⟨nm,h1,h2⟩:=h;exact⟨nm,hN _ _ h1,h2⟩
 | .slice id p off len,g,h=>by
  simp only[an] at*;obtain⟨nm,h1,h2⟩:=h;exact⟨nm,hN _ _ h1,h2⟩
 | .dp t xs,g,h=>by simp only[an] at*;exact kv hN hD hw _ _ _ h
 | .tF v,g,h=>by
  simp only[an] at*;obtain⟨a,h1,h2,h3,h4⟩:=h;refine⟨a,h1,h2,hD _ h3,?_⟩;have e:aV w a=aV w' a:=by funext j;simp only[aV,World.cell?,hw _ h3]
  rw[<-e];exact qg hN hD hw v _ h4
 | .agg fs,g,h=>by simp only[an] at*;exact BM hN hD hw fs g h
 | .arr n t xs,g,h=>by simp only[an] at*;exact kv hN hD hw _ _ _ h
 | .AN vs,g,h=>by
  simp only[an] at*;obtain⟨cs,h1,h2⟩:=h;exact⟨cs,h1,pv hN hD hw vs _ h2⟩
 | .wN fn vs,g,h=>by
  simp only[an] at*;obtain⟨cs,h1,h2⟩:=h;exact⟨cs,h1,pv hN hD hw vs _ h2⟩
 | .xb,g,h=>by simp only[an] at*;exact h
 | .QH id p f off,g,h=>by
  simp only[an] at*;obtain⟨nm,a,o,h1,h2⟩:=h;exact⟨nm,a,o,hN _ _ h1,h2⟩
 | .Cz fn vs,g,h=>by
  simp only[an] at*;obtain⟨cs,h1,h2⟩:=h;exact⟨cs,h1,pv hN hD hw vs cs.toList h2⟩
 | .ue id n,g,h=>by
  simp only[an] at*;obtain⟨nm,a,h1,h2⟩:=h;exact⟨nm,a,hN _ _ h1,h2⟩
 | .rf _ _ _,g,h=>by simp only[an] at*;exact OM hN.sub h
theorem BM (hN:N.le N')(hD: ∀b,D b->D' b)(hw: ∀b,D b->w'.heap[b]?=w.heap[b]?):
  ∀(l:List AV) (g:Nat->Option Value),ff N D w l g->ff N' D' w' l g
 | [],_,_=>by simp only[ff]
 |x::xs,g,h=>by
  simp only[ff] at*;exact⟨qg hN hD hw x g h.1,BM hN hD hw xs _ h.2⟩
theorem pv (hN:N.le N')(hD: ∀b,D b->D' b)(hw: ∀b,D b->w'.heap[b]?=w.heap[b]?):
  ∀(l:List AV) (cs:List Value),bA N D w l cs->bA N' D' w' l cs
 | [],_,h=>by simp only[bA] at*;exact h
 |x::xs,cs,h=>by
  simp only[bA] at*;obtain⟨c,tq,h1,h2,h3⟩:=h;exact⟨c,tq,h1,xm (λg hg=>qg hN hD hw x g hg) h2,pv hN hD hw xs tq h3⟩
end
theorem Gc (hN:N.le N')(hD: ∀b,D b->D' b)(hw: ∀b,D b->w'.heap[b]?=w.heap[b]?){x:AV}{v:Value}(h:cq N D w x v):cq N' D' w' x v:=
 xm (λg hg=>qg hN hD hw x g hg) h
mutual
theorem jP: ∀(x:AV) (g g':Nat->Option Value),(∀j,j<x.size->g j=g' j)->an N D w x g->an N D w x g'
 | .undef,_,_,_,_=>by simp only[an]
 | .val v,g,g',hg,h=>by simp only[an] at*;rw[<-hg 0 (by simp[AV.size])];exact h
 | .ptr id p,g,g',hg,h=>by simp only[an] at*;rw[<-hg 0 (by simp[AV.size])];exact h
 | .tail id off,g,g',hg,h=>by simp only[an] at*;rw[<-hg 0 (by simp[AV.size])];exact h
 | .slice id p off len,g,g',hg,h=>by simp only[an] at*;rw[<-hg 0 (by simp[AV.size])];exact h
 | .dp t xs,g,g',hg,h=>by simp only[an] at*;exact ji _ _ _ _ (λj hj=>hg j (by simpa [AV.size,Ty.size] using hj)) h
 | .tF v,g,g',hg,h=>by simp only[an] at*;rw[<-hg 0 (by simp[AV.size])];exact h
 | .agg fs,g,g',hg,h=>by simp only[an] at*;exact vO fs g g' (λj hj=>hg j (by simpa [AV.size] using hj)) h
 | .arr n t xs,g,g',hg,h=>by simp only[an] at*;exact ji _ _ _ _ (λj hj=>hg j (by simpa [AV.size,Ty.size] using hj)) h
 | .AN vs,g,g',hg,h=>by simp only[an] at*;rw[<-hg 0 (by simp[AV.size])];exact h
 | .wN fn vs,g,g',hg,h=>by simp only[an] at*;rw[<-hg 0 (by simp[AV.size])];exact h
 | .xb,g,g',hg,h=>by simp only[an] at*;rw[<-hg 0 (by simp[AV.size])];exact h
 | .QH id p f off,g,g',hg,h=>by simp only[an] at*;rw[<-hg 0 (by simp[AV.size])];exact h
 | .Cz fn vs,g,g',hg,h=>by simp only[an] at*;rw[<-hg 0 (by simp[AV.size])];exact h
 | .ue id n,g,g',hg,h=>by simp only[an] at*;rw[<-hg 0 (by simp[AV.size])];exact h
 | .rf _ _ _,g,g',hg,h=>by simp only[an] at*;rw[<-hg 0 (by simp[AV.size])];exact h
theorem vO: ∀(l:List AV) (g g':Nat->Option Value),(∀j,j<AV.dD l->g j=g' j)->ff N D w l g->ff N D w l g'
 | [],_,_,_,_=>by simp only[ff]
 |x::xs,g,g',hg,h=>by
  simp only[ff] at*;exact⟨jP x g g' (λj hj=>hg j (by simp[AV.dD];omega)) h.1,vO xs _ _ (λj hj=>hg _ (by simp[AV.dD];omega)) h.2⟩
end
end
end AM
namespace AM
open Go
theorem iJ: ∀t:Ty,(rX t).size=t.size
 | .int _=>by simp[rX,Sh.size,Ty.size]
 | .bool=>by simp[rX,Sh.size,Ty.size]
 | .str=>by simp[rX,Sh.size,Ty.size]
 | .nil=>by simp[rX,Sh.size,Sh.dD,Ty.size]
 | .deep _=>by simp[rX,Sh.size,Ty.size]
 | .ref _=>by simp[rX,Sh.size,Ty.size]
 | .arr n t=>by simp[rX,Sh.size,Ty.size,iJ t]
 | .cons a b=>by
  have ha:=iJ a;have hb:=iJ b;unfold rX;cases h:rX b<;>simp[h,Sh.size,Sh.dD,Ty.size] at* <;>omega
theorem nD: ∀(t:Ty) (x:t.den),(enc t x).size=t.size
 | .int _,_=>by simp[enc,AV.size,Ty.size]
 | .bool,_=>by simp[enc,AV.size,Ty.size]
 | .str,_=>by simp[enc,AV.size,Ty.size]
 | .nil,_=>by simp[enc,AV.size,AV.dD,Ty.size]
 | .deep _,_=>by simp[enc,AV.size,Ty.size]
 | .ref _,_=>by simp[enc,AV.size,Ty.size]
 | .arr n t,_=>by simp[enc,AV.size,Ty.size]
 | .cons a b,p=>by
  have ha:=nD a p.1;have hb:=nD b p.2;unfold enc;cases h:enc b p.2<;>simp[h,AV.size,AV.dD,Ty.size] at* <;>omega
theorem rE: ∀(t:Ty) (x:t.den),(enc t x).sh=rX t
 | .int _,_=>by simp[enc,AV.sh,rX]
 | .bool,_=>by simp[enc,AV.sh,rX]
 | .str,_=>by simp[enc,AV.sh,rX]
 | .nil,_=>by simp[enc,AV.sh,AV.xc,rX]
 | .deep _,_=>by simp[enc,AV.sh,rX]
 | .ref _,_=>by simp[enc,AV.sh,rX]
 | .arr n t,_=>by simp[enc,AV.sh,rX]
 | .cons a b,p=>by
  have ha:=rE a p.1;have hb:=rE b p.2;unfold enc rX;cases h:enc b p.2<;>simp[h,AV.sh,AV.xc] at hb⊢ <;>simp[<-hb,ha]
mutual
theorem kO: ∀v:AV,v.sh.size=v.size
 | .undef=>by simp[AV.sh,Sh.size,AV.size]
 | .val _=>by simp[AV.sh,Sh.size,AV.size]
 | .ptr _ _=>by simp[AV.sh,Sh.size,AV.size]
 | .tail _ _=>by simp[AV.sh,Sh.size,AV.size]
 | .slice _ _ _ _=>by simp[AV.sh,Sh.size,AV.size]
 | .dp _ _=>by simp[AV.sh,Sh.size,AV.size]
 | .tF _=>by simp[AV.sh,Sh.size,AV.size]
 | .AN _=>by simp[AV.sh,Sh.size,AV.size]
 | .wN _ _=>by simp[AV.sh,Sh.size,AV.size]
 | .xb=>by simp[AV.sh,Sh.size,AV.size]
 | .QH _ _ _ _=>by simp[AV.sh,Sh.size,AV.size]
 | .Cz _ _=>by simp[AV.sh,Sh.size,AV.size]
 | .ue _ _=>by simp[AV.sh,Sh.size,AV.size]
 | .rf _ _ _=>by simp[AV.sh,Sh.size,AV.size]
 | .arr n t _=>by simp[AV.sh,Sh.size,AV.size,iJ]
 | .agg fs=>by simp[AV.sh,Sh.size,AV.size,zE fs]
theorem zE: ∀l:List AV,Sh.dD (AV.xc l)=AV.dD l
 | []=>by simp[AV.xc,Sh.dD,AV.dD]
 |x::xs=>by simp[AV.xc,Sh.dD,AV.dD,kO x,zE xs]
end
theorem Dx: ∀(l:List AV) (n:Nat),AV.xc (l.take n)=(AV.xc l).take n
 | [],n=>by simp[AV.xc]
 |x::xs,0=>by simp[AV.xc]
 |x::xs,n+1=>by simp[AV.xc,Dx xs n]
theorem zF: ∀(l:List AV) (n:Nat),(AV.xc l)[n]?=(l[n]?).map AV.sh
 | [],n=>by simp[AV.xc]
 |x::xs,0=>by simp[AV.xc]
 |x::xs,n+1=>by simp[AV.xc,zF xs n]
theorem K7: ∀(l:List AV),(AV.xc l).length=l.length
 | []=>by simp[AV.xc]
 |x::xs=>by simp[AV.xc,K7 xs]
section
variable {N:Names}{D:Nat->Prop}{w:World}
theorem kK: ∀(t:Ty) (x:t.den) (g:Nat->Option Value),an N D w (enc t x) g↔iq N D w t x g
 | .int _,_,_=>by simp[enc,an,iq]
 | .bool,_,_=>by simp[enc,an,iq]
 | .str,_,_=>by simp[enc,an,iq]
 | .nil,_,_=>by simp[enc,an,ff,iq]
 | .deep _,_,_=>by simp[enc,an]
 | .ref _,_,_=>by simp[enc,an,iq]
 | .arr n t,_,_=>by simp[enc,an]
 | .cons a b,⟨p,q⟩,g=>by
  have ha:=kK a p g;have hb:=kK b q (λj=>g (a.size+j));have hs:=nD a p;have e:enc (.cons a b) (p,q)=match enc b q with| .agg l=> .agg (enc a p::l)|v=> .agg [enc a p,v]:=rfl
  have e2:iq N D w (.cons a b) (p,q) g=(iq N D w a p g/\iq N D w b q (λj=>g (a.size+j))):=rfl;rw[e,e2,<-ha,<-hb,<-hs];cases h:enc b q<;>simp only[an,ff,and_true]
theorem qq: ∀(l:List AV) (n:Nat) (v:AV) (g:Nat->Option Value),l[n]?=some v->ff N D w l g->an N D w v (λj=>g (AV.dD (l.take n)+j))
 | [],n,v,g,h,_=>by simp at h
 |x::xs,0,v,g,h,hr=>by
  simp at h;subst h;simp only[ff] at hr;simpa [AV.dD] using hr.1
 |x::xs,n+1,v,g,h,hr=>by
  simp only[ff] at hr;have:=qq xs n v _ (by simpa using h) hr.2
  simpa [AV.dD,zdy] using this
end
theorem uJ: ∀(l:List AV) (n:Nat) (v:AV),l[n]?=some v->AV.dD (l.take n)+v.size<=AV.dD l
 | [],n,v,h=>by simp at h
 |x::xs,0,v,h=>by simp at h;subst h;simp[AV.dD]
 |x::xs,n+1,v,h=>by
  have:=uJ xs n v (by simpa using h)
  simp[AV.dD];omega
section
variable (N:Names)(D:Nat->Prop)(w:World)(base:Nat)
def sW (id:Nat)(v:AV):Prop:= ∃nm a,N id=some nm/\nm.base=some a/\nm.row=false/\nm.sh=v.sh/\a.spot=none/\a.off=0/\base<=a.block/\¬D a.block/\
   (∃c ty,w.heap[a.block]?=some (.cells c ty (0,0))/\c.size=v.size)/\an N D w v (aV w a)
def nE (id:Nat)(ro:Bool)(t:Ty)(xs:List t.den):Prop:= ∃nm,N id=some nm/\nm.row=true/\nm.sh=rX t/\nm.len=aO (β:=t.den) xs/\nm.len<=nm.cap/\
   match nm.base with
   |none=>nm.len=0
   |some a=>a.spot=none/\(∃c ty fz,w.heap[a.block]?=some (.cells c ty fz)/\a.off+nm.cap*t.size<=c.size/\(ro=false->fz=(0,0)\/c.size<=fz.1/\t= .int .u8))/\
     (if ro=true then D a.block else base<=a.block/\¬D a.block)/\∀i (x:t.den),jU (β:=t.den) xs i=some x->iq N D w t x (λj=>aV w a (i*t.size+j))
def ox (id b:Nat):Prop:= ∃nm a,N id=some nm/\nm.base=some a/\a.block=b
mutual
def pK (N:Names)(c:Nat):(p:aH)->p.den->Nat->Prop
 | .var _,_,b=>ox N c b
 | .row _,_,b=>ox N c b
 | .store ep,xs,b=> ∃(k:Nat) (d:cP ep),jU (β:=cP ep) xs k=some d/\pw (N.sub (c-SB) k) ep d b
def pw (N:Names):(l:List (Nat×aH))->cP l->Nat->Prop
 | [],_,_=>False
 |(c,p)::os,d,b=>pK N c p d.1 b\/pw N os d.2 b
end
def C1 (M:Names)(ep:List (Nat×aH)):Prop:=(∀c nm,M c=some nm->∃e∈ep,e.1=c/\e.2.mU=false)/\∀g,(∀e∈ep,e.1≠SB+g)->∀k,M.sub g k=Names.nil
mutual
def jd (N:Names)(c:Nat):(p:aH)->p.den->Prop
 | .var p,d=>sW N D w base c (p.mk (λc=>c) d)
 | .row t,xs=>nE N D w base c false t xs
 | .store ep,xs=>SB<=c/\(∀(k:Nat) (d:cP ep),jU (β:=cP ep) xs k=some d->kM (N.sub (c-SB) k) ep d/\C1 (N.sub (c-SB) k) ep)/\(∀k,aO (β:=cP ep) xs<=k->N.sub (c-SB) k=Names.nil)/\
   ∀(k k':Nat) (d d':cP ep) (b:Nat),jU (β:=cP ep) xs k=some d->jU (β:=cP ep) xs k'=some d'->pw (N.sub (c-SB) k) ep d b->pw (N.sub (c-SB) k') ep d' b->k=k'
def kM (N:Names):(l:List (Nat×aH))->cP l->Prop
 | [],_=>True
 |(c,p)::os,d=>jd N c p d.1/\kM N os d.2/\∀b,pK N c p d.1 b->pw N os d.2 b->False
end
def qu (id:Nat):fP->Prop
 | .dead=>True
 | .void=>True
 | .store ep xs=>jd D w base N id (.store ep) xs
 | .var v=>sW N D w base id v
 | .row ro t xs=>nE N D w base id ro t xs
def iQ (id:Nat):fP->Nat->Prop
 | .var _,b=>ox N id b
 | .row false _ _,b=>ox N id b
 | .store ep xs,b=>pK N id (.store ep) xs b
 |_,_=>False
def fP.rw:fP->Bool
 | .var _=>true| .row ro _ _=>!ro|_=>false
def yY (h:Nat->Option fP)(b:Nat):Prop:= ∃id o,h id=some o/\iQ N id o b
structure jV (h:Nat->Option fP):Prop where
 obj: ∀id o,h id=some o->qu N D w base id o
 apart: ∀id QK o o' b,h id=some o->h QK=some o'->iQ N id o b->iQ N QK o' b->id=QK
 frozen: ∀b,D b->b<w.heap.size
 named: ∀id nm,N id=some nm->h id≠none
 size:base<=w.heap.size
 iI: ∀g,AM.iI (h (SB+g))=true->∀k,N.sub g k=Names.nil
structure kt (st:St)(a:Act):Prop where
 nr:jV N D w base st.h
 tmps: ∀x,cq N D w (st.t x) (a.tmps.getD x Go.undef)
 nt:a.tmps.size=st.nt
 defers:a.defers=[]
end
theorem iQ.of {N:Names}{id:Nat}{o:fP}{nm:Nm}{a:Addr}(hr:o.rw=true)(hn:N id=some nm)(hb:nm.base=some a):iQ N id o a.block:=by
 cases o with
 |var v=>exact⟨nm,a,hn,hb,rfl⟩
 |row ro t xs=>cases ro<;>simp[fP.rw] at hr;exact⟨nm,a,hn,hb,rfl⟩
 |dead=>cases hr
 |void=>cases hr
 |store ep xs=>cases hr
structure Ext (N:Names)(D:Nat->Prop)(w:World)(h:Nat->Option fP)(N':Names)(D':Nat->Prop)(w':World)(h':Nat->Option fP):Prop where
 names:N.le N'
 frozen: ∀b,D b->D' b
 os:w'.os=w.os
 tape:w'.tape=w.tape
 output:w'.output=w.output
 size:w.heap.size<=w'.heap.size
 sI: ∀b,b<w.heap.size->¬yY N h b->w'.heap[b]?=w.heap[b]?
 own: ∀b,b<w.heap.size->yY N' h' b->yY N h b
 Jh: ∀b,D' b->D b\/yY N h b\/w.heap.size<=b
 fresh: ∀i nm,N' i=some nm->N i=some nm\/h i=none
 live: ∀i,h' i=none->h i=none
 pF: ∀g,h (SB+g)=some .dead->h' (SB+g)=some .dead/\∀k,N'.sub g k=N.sub g k
theorem Ext.refl (N:Names)(D:Nat->Prop)(w:World)(h:Nat->Option fP):Ext N D w h N D w h:=
 ⟨Names.le_refl N,λ_ h=>h,rfl,rfl,rfl,zdz _,λ_ _ _=>rfl,λ_ _ h=>h,λ_ h=> .inl h,λ_ _ h=> .inl h,λ_ h=>h,λ_ h=>⟨h,λ_=>rfl⟩⟩
theorem Ext.trans {N N' WN:Names}{D D' WO:Nat->Prop}{w w' ON:World}{h h' Rc:Nat->Option fP}(x:Ext N D w h N' D' w' h')(y:Ext N' D' w' h' WN WO ON Rc):Ext N D w h WN WO ON Rc where
 names:=x.names.trans y.names
 frozen b e:=y.frozen b (x.frozen b e)
 os:=y.os.trans x.os
 tape:=y.tape.trans x.tape
 output:=y.output.trans x.output
 size:=zdA x.size y.size
 sI b hb ho:=by
  rw[y.sI b (zdB hb x.size) (λo=>ho (x.own b hb o)),x.sI b hb ho]
 own b hb o:=x.own b hb (y.own b (zdB hb x.size) o)
 Jh b hb:=by
  rcases y.Jh b hb with h1|h1|h1
  ·exact x.Jh b h1
  ·rcases zdC b w.heap.size with h2|h2
   ·exact .inr (.inl (x.own b h2 h1))
   ·exact .inr (.inr h2)
  ·exact .inr (.inr (zdA x.size h1))
 fresh i nm hi:=by
  rcases y.fresh i nm hi with h1|h1
  ·exact x.fresh i nm h1
  ·exact .inr (x.live i h1)
 live i hi:=x.live i (y.live i hi)
 pF g e:=⟨(y.pF g (x.pF g e).1).1,λk=>((y.pF g (x.pF g e).1).2 k).trans ((x.pF g e).2 k)⟩
def Gd (D:Nat->Prop)(w:World)(base b:Nat):Prop:= ¬D b/\base<=b/\b<w.heap.size
theorem sW.oX {N:Names}{D:Nat->Prop}{w:World}{base id:Nat}{v:AV}(h:sW N D w base id v){b:Nat}(ho:ox N id b):Gd D w base b:=by
 obtain⟨nm,a,h3,h4,rfl⟩:=ho;obtain⟨mD,a',e1,e2,_,_,_,_,h6,h7,⟨c,ty,h8,_⟩,_⟩:=h;rw[h3] at e1;cases e1;rw[h4] at e2;cases e2;exact⟨h7,h6,(Array.getElem?_eq_some_iff.1 h8).1⟩
theorem nE.oX {N:Names}{D:Nat->Prop}{w:World}{base id:Nat}{t:Ty}{xs:List t.den}(h:nE N D w base id false t xs){b:Nat}(ho:ox N id b):Gd D w base b:=by
 obtain⟨nm,a,h3,h4,rfl⟩:=ho;obtain⟨mD,e1,_,_,_,_,h6⟩:=h;rw[h3] at e1;cases e1;rw[h4] at h6;obtain⟨_,⟨c,ty,fz,h8,_⟩,h7,_⟩:=h6;simp at h7;exact⟨h7.2,h7.1,(Array.getElem?_eq_some_iff.1 h8).1⟩
mutual
theorem jd.oX {D:Nat->Prop}{w:World}{base:Nat}: ∀{N:Names} {c:Nat} {p:aH} {d:p.den},jd D w base N c p d->∀{b:Nat},pK N c p d b->Gd D w base b
 |_,_, .var _,_,h,_,ho=>sW.oX (by simpa only[jd] using h) (by simpa only[pK] using ho)
 |_,_, .row _,_,h,_,ho=>nE.oX (by simpa only[jd] using h) (by simpa only[pK] using ho)
 |N,c, .store ep,xs,h,b,ho=>by
  simp only[jd] at h;simp only[pK] at ho;obtain⟨k,d,h1,h2⟩:=ho;exact kM.oX (h.2.1 k d h1).1 h2
theorem kM.oX {D:Nat->Prop}{w:World}{base:Nat}: ∀{N:Names} {l:List (Nat×aH)} {d:cP l},kM D w base N l d->∀{b:Nat},pw N l d b->Gd D w base b
 |_,[],_,_,_,ho=>by simp only[pw] at ho
 |_,(c,p)::os,d,h,b,ho=>by
  simp only[kM] at h;simp only[pw] at ho;rcases ho with ho|ho
  ·exact jd.oX h.1 ho
  ·exact kM.oX h.2.1 ho
end
theorem jV.oX {N:Names}{D:Nat->Prop}{w:World}{base:Nat}{h:Nat->Option fP}(s:jV N D w base h){id:Nat}{o:fP}(hi:h id=some o){b:Nat}(ho:iQ N id o b):Gd D w base b:=by
 have:=s.obj id o hi;cases o with
 |dead=>exact ho.elim
 |void=>exact ho.elim
 |var v=>exact sW.oX this ho
 |row ro t xs=>
  cases ro with
  |true=>exact ho.elim
  |false=>exact nE.oX this ho
 |store ep xs=>exact jd.oX this ho
theorem jV.tJ {N:Names}{D:Nat->Prop}{w:World}{base:Nat}{h:Nat->Option fP}(s:jV N D w base h){b:Nat}(o:yY N h b): ¬D b/\base<=b:=by
 obtain⟨id,o,h1,h2⟩:=o;exact⟨(s.oX h1 h2).1,(s.oX h1 h2).2.1⟩
theorem Ext.Ji {N N':Names}{D D':Nat->Prop}{w w':World}{base:Nat}{h h':Nat->Option fP}(x:Ext N D w h N' D' w' h')(s:jV N D w base h): ∀b,D b->w'.heap[b]?=w.heap[b]?:=
 λb hb=>x.sI b (s.frozen b hb) (λo=>(s.tJ o).1 hb)
theorem Ext.val {N N':Names}{D D':Nat->Prop}{w w':World}{base:Nat}{h h':Nat->Option fP}(x:Ext N D w h N' D' w' h')(s:jV N D w base h){u:AV}{v:Value}(hv:cq N D w u v):cq N' D' w' u v:=
 Gc x.names x.frozen (x.Ji s) hv
theorem St.BN (s:St)(d:Option Tmp)(v:AV):(s.put d v).h=s.h:=by
 cases d with
 |none=>rfl
 |some d=>simp only[St.put];split<;>rfl
theorem St.Hu (s:St)(d:Option Tmp)(v:AV):(s.put d v).nt=s.nt:=by
 cases d with
 |none=>rfl
 |some d=>simp only[St.put];split<;>rfl
theorem St.Rd (s:St)(d:Option Tmp)(v:AV):(s.put d v).ep=s.ep:=by
 cases d with
 |none=>rfl
 |some d=>simp only[St.put];split<;>rfl
theorem kt.put {N N':Names}{D D':Nat->Prop}{w w':World}{base:Nat}{st eY:St}{a:Act}(s:kt N D w base st a)(x:Ext N D w st.h N' D' w' eY.h)(hs:jV N' D' w' base eY.h)(ht:eY.t=st.t)(hn:eY.nt=st.nt)
  (d:Option Tmp) {u:AV} {v:Value} (hv:cq N' D' w' u v):kt N' D' w' base (eY.put d u) (a.put d v):=by
 refine⟨by rw[St.BN];exact hs,λy=>?_,?_,?_⟩
 ·cases d with
  |none=>simp only[St.put,Act.put,ht];exact x.val s.nr (s.tmps y)
  |some d=>
   have hsz:a.tmps.size=eY.nt:=by rw[s.nt,hn]
   simp only[St.put,Act.put];by_cases hd:d<eY.nt
   ·rw[if_pos hd]
    have K8:d<a.tmps.size:=by rw[hsz];exact hd
    by_cases e:y=d
    ·subst e
     simp[K8];exact hv
    ·have:(a.tmps.setIfInBounds d v).getD y Go.undef=a.tmps.getD y Go.undef:=by
      simp[Array.getElem?_setIfInBounds_ne (Ne.symm e)]
     simp only[if_neg e];rw[this,ht];exact x.val s.nr (s.tmps y)
   ·rw[if_neg hd]
    rw[Array.setIfInBounds_eq_of_size_le (by rw[hsz];exact Nat.le_of_not_lt hd),ht]
    exact x.val s.nr (s.tmps y)
 ·rw[St.Hu,hn,<-s.nt]
  cases d<;>simp[Act.put]
 ·cases d<;>simp only[Act.put]<;>exact s.defers
theorem kt.ev {N:Names}{D:Nat->Prop}{w:World}{base:Nat}{st:St}{a:Act}(s:kt N D w base st a)(x:Operand)(hx: ∀v,x= .const v->(∀c,v≠ .agg c)):cq N D w (st.ev x) (a.eval x):=by
 cases x with
 |tmp t=>exact s.tmps t
 |const v=>simp[St.ev,Act.eval,cq,AV.isAgg,jw,an]
 |global g=>simp[St.ev,Act.eval,cq,AV.isAgg,jw,an]
 |func f=>simp[St.ev,Act.eval,cq,AV.isAgg,jw,an]
end AM
namespace AM
open Go
section
variable {N:Names}{D:Nat->Prop}{w:World}{v c:Value}
theorem oY:cq N D w .undef c:=by simp[cq,AV.isAgg,jw,an]
theorem ee:cq N D w (.val v) c↔c=v:=by simp[cq,AV.isAgg,jw,an]
theorem jr {id:Nat}{p:List Step}:cq N D w (.ptr id p) c↔∃nm a o,N id=some nm/\nm.base=some a/\nm.off p=some o/\c= .pointer (some (Addr.at_ a o)):=by
 simp[cq,AV.isAgg,jw,an]
theorem qv {x:AV}:cq N D w (.tF x) c↔∃a,c= .pointer (some a)/\a.spot=none/\D a.block/\an N D w x (aV w a):=by
 simp[cq,AV.isAgg,jw,an]
theorem lJ {vs:List AV}:cq N D w (.AN vs) c↔∃cs:Array Value,c= .tuple cs/\bA N D w vs cs.toList:=by
 simp[cq,AV.isAgg,jw,an]
theorem xn {fs:List AV}:cq N D w (.agg fs) c↔∃cells:Array Value,c= .agg cells/\cells.size=AV.dD fs/\ff N D w fs (cells[·]?):=by
 simp[cq,AV.isAgg,jw,an,AV.size]
theorem ve {n:Nat}{t:Ty}{xs:List t.den}:cq N D w (.arr n t xs) c↔∃cells:Array Value,c= .agg cells/\cells.size=n*t.size/\iq N D w (.arr n t) xs (cells[·]?):=by
 simp[cq,AV.isAgg,jw,an,AV.size]
theorem ux {t:Ty}{xs:List t.den}:cq N D w (.dp t xs) c↔iq N D w (.deep t) xs (λ_=>some c):=by
 simp[cq,AV.isAgg,jw,an]
theorem sa: ∀(vs:List AV) (cs:List Value) (i:Nat) (u:AV),bA N D w vs cs->vs[i]?=some u->∃c,cs[i]?=some c/\cq N D w u c
 | [],_,_,_,_,h=>by simp at h
 |x::xs,cs,0,u,hr,h=>by
  simp only[bA] at hr;obtain⟨c,tq,rfl,h2,_⟩:=hr;simp at h;subst h;exact⟨c,by simp,h2⟩
 |x::xs,cs,i+1,u,hr,h=>by
  simp only[bA] at hr;obtain⟨c,tq,rfl,_,h3⟩:=hr;obtain⟨c',h4,h5⟩:=sa xs tq i u h3 (by simpa using h)
  exact⟨c',by simpa using h4,h5⟩
end
def lq (P:Program)(base:Nat)(o:Oper)(st:St)(av:AV)(eY:St):Prop:=
 eY.t=st.t/\eY.nt=st.nt/\eY.ep=st.ep/\(∀id,id∉Nb st o->qo st.ep o id=false->eY.h id=st.h id)/\∀N D w a,kt N D w base st a->∃N' D' w' v,
  ((execOp a.eval o).run P w= .ok (.value v) w'\/((execOp a.eval o).run P w= .ok .skip w'/\v=Go.undef))/\
  Ext N D w st.h N' D' w' eY.h/\jV N' D' w' base eY.h/\cq N' D' w' av v
theorem lq.pure {P:Program}{base:Nat}{o:Oper}{st:St}{av:AV}(h: ∀N D w a,kt N D w base st a->∃v,(execOp a.eval o).run P w= .ok (.value v) w/\cq N D w av v):lq P base o st av st:=
 ⟨rfl,rfl,rfl,λ_ _ _=>rfl,λN D w a s=>let ⟨v,h1,h2⟩:=h N D w a s;⟨N,D,w,v, .inl h1,Ext.refl _ _ _ _,s.nr,h2⟩⟩
theorem kt.Fy {N:Names}{D:Nat->Prop}{w:World}{base:Nat}{st:St}{a:Act}(s:kt N D w base st a)(x:Operand):cq N D w (st.ev x) (a.eval x):=by
 cases x with
 |tmp t=>exact s.tmps t
 |const v=>simp[St.ev,Act.eval,ee]
 |global g=>exact oY
 |func f=>simp[St.ev,Act.eval,ee]
variable {α:Type}{P:Program}{base:Nat}
abbrev nT (P:Program)(base:Nat)(o:Oper)(st:St)(k:AV->St->Option α)(r:α):Prop:= ∃av eY,k av eY=some r/\lq P base o st av eY
theorem Re {dst ty pos after guard}{op:BinOp}{xT yT:TypeId}{x y:Operand}{st:St}{ka kb:IntKind}{a b:Int}(hx:st.ev x= .val (.int ka a))(hy:st.ev y= .val (.int kb b)){k:AV->St->Option α}{r:α}
  (h:QZ st op ka kb a b k=some r):nT P base ⟨dst, .binOp op xT x y yT,ty,pos,after,guard⟩ st k r:=by
 have key: ∀u:Value,(∀w,(Go.binOp op xT (.int ka a) (.int kb b)).run P w= .ok u w)->k (.val u) st=some r->nT P base ⟨dst, .binOp op xT x y yT,ty,pos,after,guard⟩ st k r:=by
  intro u hu hk;refine⟨_,_,hk,lq.pure λN D w act s=>⟨u,?_,ee.2 rfl⟩⟩;have e1:=ee.1 (hx▸s.Fy x);have e2:=ee.1 (hy▸s.Fy y);simp[execOp,e1,e2,eqGuard_at_int,hu]
 have cond: ∀(b:Bool) (p:Prop) (z:Option α),b=af p->(match b with|true=>none|false=>z)=some r->¬p/\z=some r:=by
  intro b p z hb hz;cases b with
  |true=>simp at hz
  |false=>exact⟨λhp=>(by rw[kN.2 hp] at hb;exact absurd hb (by simp)),hz⟩
 have K9: ∀z:Option α,(if ka=kb then z else none)=some r->ka=kb/\z=some r:=by
  intro z hz;split at hz
  ·exact⟨‹_›,hz⟩
  ·cases hz
 have hb: ∀(p:Prop) [Decidable p],af p=decide p:=λp _=>kJ p;cases op<;>simp only[QZ] at h
 case shl=>replace h:=cond _ _ _ rfl h;obtain⟨hn,h⟩:=h;exact key _ (λw=>by simp[binOp_shl,Op.shift,hn,shl,pE]) h
 case shr=>replace h:=cond _ _ _ rfl h;obtain⟨hn,h⟩:=h;exact key _ (λw=>by simp[binOp_shr,Op.shift,hn,QV]) h
 case add=>replace h:=K9 _ h;obtain⟨rfl,h⟩:=h;exact key _ (λw=>by simp[binOp_add,Op.intArith,pE]) h
 case sub=>replace h:=K9 _ h;obtain⟨rfl,h⟩:=h;exact key _ (λw=>by simp[binOp_sub,Op.intArith,pE]) h
 case mul=>replace h:=K9 _ h;obtain⟨rfl,h⟩:=h;exact key _ (λw=>by simp[binOp_mul,Op.intArith,pE]) h
 case quo=>replace h:=K9 _ h;obtain⟨rfl,h⟩:=h;replace h:=cond _ _ _ rfl h;obtain⟨hn,h⟩:=h;exact key _ (λw=>by simp[binOp_quo,Op.intDiv,hn,pE]) h
 case rem=>replace h:=K9 _ h;obtain⟨rfl,h⟩:=h;replace h:=cond _ _ _ rfl h;obtain⟨hn,h⟩:=h;exact key _ (λw=>by simp[binOp_rem,Op.intDiv,hn]) h
 case and=>replace h:=K9 _ h;obtain⟨rfl,h⟩:=h;exact key _ (λw=>by simp[binOp_and,Op.intBits,sH,pE]) h
 case or=>replace h:=K9 _ h;obtain⟨rfl,h⟩:=h;exact key _ (λw=>by simp[binOp_or,Op.intBits,AL,pE]) h
 case xor=>replace h:=K9 _ h;obtain⟨rfl,h⟩:=h;exact key _ (λw=>by simp[binOp_xor,Op.intBits,pt,pE]) h
 case andNot=>replace h:=K9 _ h;obtain⟨rfl,h⟩:=h;exact key _ (λw=>by simp[binOp_andNot,Op.intBits,Dj,pE]) h
 case eql=>replace h:=K9 _ h;obtain⟨rfl,h⟩:=h;exact key _ (λw=>by simp[binOp_eql,hb];rfl) h
 case neq=>replace h:=K9 _ h;obtain⟨rfl,h⟩:=h;exact key _ (λw=>by simp[binOp_neq,hb];rfl) h
 case lss=>replace h:=K9 _ h;obtain⟨rfl,h⟩:=h;exact key _ (λw=>by simp[binOp_lss,hb]) h
 case leq=>replace h:=K9 _ h;obtain⟨rfl,h⟩:=h;exact key _ (λw=>by simp[binOp_leq,hb]) h
 case gtr=>replace h:=K9 _ h;obtain⟨rfl,h⟩:=h;exact key _ (λw=>by simp[binOp_gtr,hb]) h
 case geq=>replace h:=K9 _ h;obtain⟨rfl,h⟩:=h;exact key _ (λw=>by simp[binOp_geq,hb]) h
end AM
namespace AM
open Go
theorem mu {N:Names}{D:Nat->Prop}{w:World}{x:AV}{g g':Nat->Option Value}(h:an N D w x g)(e: ∀j,g j=g' j):an N D w x g':=by
 have:g=g':=funext e;subst this;exact h
theorem vP {α:Type}: ∀(p:List Step) (v:AV) (k:AV->Option α) (r:α),I9 p v k=some r->
  ∃u,k u=some r/\zz p v.sh=some u.sh/\∀N D w g o,an N D w v g->fH p v.sh=some o->an N D w u (λj=>g (o+j))/\o+u.size<=v.size
 | [],v,k,r,h=>by
  simp only[I9] at h;refine⟨v,h,rfl,λN D w g o hr ho=>?_⟩;simp only[fH,zdj] at ho;subst ho;exact⟨by simpa using hr,by omega⟩
 | .im n::p,v,k,r,h=>by
  cases v<;>simp only[I9] at h<;>try (cases h;done)
  rename_i fs;cases hv:fs[n]? with
  |none=>simp[hv] at h
  |some x=>
   simp only[hv] at h;obtain⟨u,h1,h2,h3⟩:=vP p x k r h;refine⟨u,h1,by simp only[AV.sh,zz,zF,hv,zds];exact h2,λN D w g o hr ho=>?_⟩
   simp only[AV.sh,fH,zF,hv,zds] at ho;cases mS:fH p x.sh with
   |none=>simp[mS] at ho
   |some o'=>
    simp only[mS,zds,zdj] at ho;rw[<-Dx,zE] at ho;subst ho;simp only[an] at hr;have:=qq fs n x g hv hr;obtain⟨h4,h5⟩:=h3 N D w _ o' this mS;exact⟨mu h4 (λj=>by rw[zdy]),by have:=uJ fs n x hv;simp only[AV.size];omega⟩
 | .idx i::p,v,k,r,h=>by
  cases v<;>simp only[I9] at h<;>try (cases h;done)
  rename_i n t xs;cases hv:(show List t.den from xs)[i]? with
  |none=>simp[hv] at h
  |some x=>
   simp only[hv] at h;obtain⟨u,h1,h2,h3⟩:=vP p (enc t x) k r h;refine⟨u,h1,by simp only[AV.sh,zz];rw[<-rE t x];exact h2,λN D w g o hr ho=>?_⟩
   simp only[AV.sh,fH] at ho;by_cases hi:i<n
   ·simp only[hi,if_true] at ho
    cases mS:fH p (rX t) with
    |none=>simp[mS] at ho
    |some o'=>
     simp only[mS,zds,zdj,iJ] at ho;subst ho;simp only[an,iq] at hr;have:=(kK (N:=N) t x _).2 (hr.2 i x hv);obtain⟨h4,h5⟩:=h3 N D w _ o' this (by rw[rE];exact mS)
     refine⟨mu h4 (λj=>by rw[zdy]),?_⟩
     rw[nD] at h5;have:(i+1)*t.size<=n*t.size:=zdw _ hi;rw[zdx] at this;simp only[AV.size];omega
   ·simp only[hi,if_false] at ho;cases ho
theorem px {α:Type}{s:St}{id:Nat}{p:List Step}{k:AV->Option α}{r:α}(h:s.get id p k=some r):
  ∃u,k u=some r/\s.shape id p=some u.sh/\∀N D w base,jV N D w base s.h->∀nm a o,N id=some nm->nm.base=some a->nm.off p=some o->
   a.spot=none/\an N D w u (λj=>aV w a (o+j))/\∃c ty fz,w.heap[a.block]?=some (.cells c ty fz)/\a.off+o+u.size<=c.size:=by
 unfold St.get at h;cases ho:s.h id with
 |none=>simp[ho] at h
 |some ob=>
  cases ob with
  |dead=>simp[ho] at h
  |store _ _=>simp[ho] at h
  |void=>simp[ho] at h
  |var v=>
   simp only[ho] at h;obtain⟨u,h1,h2,h3⟩:=vP p v k r h;refine⟨u,h1,by simp only[St.shape,ho];exact h2,λN D w base S nm a o hn hb nv=>?_⟩
   have:=S.obj id _ ho;obtain⟨mD,a',e1,e2,e3,e4,e5,e6,_,_,⟨c,ty,e7,e8⟩,e9⟩:=this;rw[hn] at e1;cases e1;rw[hb] at e2;cases e2;have hof:fH p v.sh=some o:=by
    have:nm.off p=fH p nm.sh:=by
     unfold Nm.off;split<;>simp[e3]
    rw[this,e4] at nv;exact nv
   obtain⟨h4,h5⟩:=h3 N D w _ o e9 hof;exact⟨e5,h4,c,ty,_,e7,by rw[e8,e6];omega⟩
  |row ro t xs=>
   simp only[ho] at h;cases p with
   |nil=>simp at h
   |cons st p=>
    cases st with
    |im n=>simp at h
    |idx i=>
     simp only at h;cases hv:(show List t.den from xs)[i]? with
     |none=>simp[hv] at h
     |some x=>
      simp only[hv] at h;obtain⟨u,h1,h2,h3⟩:=vP p (enc t x) k r h;refine⟨u,h1,by simp only[St.shape,ho];rw[<-rE t x];exact h2,λN D w base S nm a o hn hb nv=>?_⟩
      have:=S.obj id _ ho;obtain⟨mD,e1,e2,e3,e4,e5,e6⟩:=this;rw[hn] at e1;cases e1;rw[hb] at e6;obtain⟨e7,⟨c,ty,fz,e8,e9,_⟩,_,ye⟩:=e6;simp only[Nm.off,e2,if_true] at nv;by_cases hi:i<nm.len
      ·simp only[hi,if_true] at nv
       cases mS:fH p nm.sh with
       |none=>simp[mS] at nv
       |some o'=>
        simp only[mS,zds,zdj] at nv;rw[e3,iJ] at nv;subst nv;have hx:=(kK (N:=N) t x _).2 (ye i x hv);obtain⟨h4,h5⟩:=h3 N D w _ o' hx (by rw[rE,<-e3];exact mS)
        refine⟨e7,mu h4 (λj=>by rw[zdy]),c,ty,fz,e8,?_⟩
        rw[nD] at h5;have:(i+1)*t.size<=nm.cap*t.size:=zdw _ (by omega)
        rw[zdx] at this;omega
      ·simp only[hi,if_false] at nv;cases nv
end AM
namespace AM
open Go
theorem AY {N:Names}{tag n c:Nat}{v:Option Value}(h:xk N tag n c v): ∃c,v=some c/\c.oneCell'=true:=by
 cases n with
 |zero=>exact⟨_,h,rfl⟩
 |succ k=>obtain⟨_,_,_,_,_,h⟩:=h;exact⟨_,h,rfl⟩
theorem rF {N:Names}{D:Nat->Prop}{w:World}: ∀(t:Ty) (x:t.den) (g:Nat->Option Value),iq N D w t x g->∀j,j<t.size->∃c,g j=some c/\c.oneCell'=true
 | .int k,n,g,h,j,hj=>by simp[Ty.size] at hj;subst hj;exact⟨_,h,rfl⟩
 | .bool,n,g,h,j,hj=>by simp[Ty.size] at hj;subst hj;exact⟨_,h,rfl⟩
 | .str,n,g,h,j,hj=>by simp[Ty.size] at hj;subst hj;exact⟨_,h,rfl⟩
 | .nil,n,g,h,j,hj=>by simp[Ty.size] at hj
 | .deep t,xs,g,h,j,hj=>by
  simp[Ty.size] at hj;subst hj;obtain⟨a,cap,h1,_⟩:=h;exact⟨_,h1,rfl⟩
 | .ref _,n,g,h,j,hj=>by simp[Ty.size] at hj;subst hj;exact AY h
 | .cons a b,p,g,h,j,hj=>by
  by_cases hja:j<a.size
  ·exact rF a p.1 g h.1 j hja
  ·have:=rF b p.2 _ h.2 (j-a.size) (by simp[Ty.size] at hj;omega)
   rwa [show a.size+(j-a.size)=j by omega] at this
 | .arr n t,xs,g,h,j,hj=>by
  simp only[Ty.size] at hj;have hp:0<t.size:=by
   rcases zdD t.size with e|e
   ·rw[e] at hj;omega
   ·exact e
  have hi:j/t.size<aO (β:=t.den) xs:=by rw[h.1];exact(Nat.div_lt_iff_lt_mul hp).2 hj
  have:=rF t _ _ (h.2 (j/t.size) _ (zdi hi)) (j%t.size) (Nat.mod_lt _ hp);rwa [show j/t.size*t.size+j%t.size=j by rw[Nat.mul_comm];exact Nat.div_add_mod j t.size] at this
mutual
theorem sb {N:Names}{D:Nat->Prop}{w:World}: ∀(v:AV) (g:Nat->Option Value),v.nq=true->an N D w v g->∀j,j<v.size->∃c,g j=some c/\c.oneCell'=true
 | .undef,_,hs,_,_,_=>by simp[AV.nq] at hs
 | .AN _,_,hs,_,_,_=>by simp[AV.nq] at hs
 | .val v,g,hs,h,j,hj=>by simp[AV.size] at hj;subst hj;simp only[an] at h;exact⟨_,h,by simpa [AV.nq] using hs⟩
 | .ptr id p,g,hs,h,j,hj=>by simp[AV.size] at hj;subst hj;simp only[an] at h;obtain⟨_,_,_,_,_,_,h⟩:=h;exact⟨_,h,rfl⟩
 | .tail id off,g,hs,h,j,hj=>by
  simp[AV.size] at hj;subst hj;simp only[an] at h;obtain⟨nm,_,_,_,_,h⟩:=h;cases hb:nm.base with
  |none=>rw[hb] at h;exact⟨_,h.2,rfl⟩
  |some a=>rw[hb] at h;obtain⟨v,room,h1,_,a',cap,rfl,_⟩:=h;exact⟨_,h1,rfl⟩
 | .slice id p off len,g,hs,h,j,hj=>by
  simp[AV.size] at hj;subst hj;simp only[an] at h;obtain⟨nm,_,h⟩:=h;cases hb:nm.base with
  |none=>rw[hb] at h;obtain⟨_,_,_,_,h⟩:=h;exact⟨_,h,rfl⟩
  |some a=>
  rw[hb] at h;simp only at h;split at h
  ·obtain⟨_,_,v,room,h1,_,_,a',cap,rfl,_⟩:=h;exact⟨_,h1,rfl⟩
  ·obtain⟨_,_,_,v,room,_,_,_,h1,_,a',cap,rfl,_⟩:=h;exact⟨_,h1,rfl⟩
 | .dp t xs,g,hs,h,j,hj=>by simp only[an] at h;exact rF _ _ _ h j (by simpa [AV.size,Ty.size] using hj)
 | .tF v,g,hs,h,j,hj=>by simp[AV.size] at hj;subst hj;simp only[an] at h;obtain⟨_,h,_⟩:=h;exact⟨_,h,rfl⟩
 | .wN _ _,g,hs,h,j,hj=>by simp[AV.size] at hj;subst hj;simp only[an] at h;obtain⟨_,h,_⟩:=h;exact⟨_,h,rfl⟩
 | .QH _ _ _ _,g,hs,h,j,hj=>by simp[AV.size] at hj;subst hj;simp only[an] at h;obtain⟨_,_,_,_,_,_,h⟩:=h;exact⟨_,h,rfl⟩
 | .Cz _ _,g,hs,h,j,hj=>by simp[AV.size] at hj;subst hj;simp only[an] at h;obtain⟨_,h,_⟩:=h;exact⟨_,h,rfl⟩
 | .xb,g,hs,h,j,hj=>by simp[AV.size] at hj;subst hj;simp only[an] at h;obtain⟨_,h⟩:=h;exact⟨_,h,rfl⟩
 | .ue _ _,g,hs,h,j,hj=>by simp[AV.size] at hj;subst hj;simp only[an] at h;obtain⟨_,_,_,_,_,h⟩:=h;exact⟨_,h,rfl⟩
 | .rf _ _ _,g,hs,h,j,hj=>by simp[AV.size] at hj;subst hj;simp only[an] at h;exact AY h
 | .arr n t xs,g,hs,h,j,hj=>by simp only[an] at h;exact rF _ _ _ h j (by simpa [AV.size,Ty.size] using hj)
 | .agg fs,g,hs,h,j,hj=>by simp only[an] at h;exact zG fs g (by simpa [AV.nq] using hs) h j (by simpa [AV.size] using hj)
theorem zG {N:Names}{D:Nat->Prop}{w:World}: ∀(l:List AV) (g:Nat->Option Value),AV.AO l=true->ff N D w l g->∀j,j<AV.dD l->∃c,g j=some c/\c.oneCell'=true
 | [],_,_,_,j,hj=>by simp[AV.dD] at hj
 |x::xs,g,hs,h,j,hj=>by
  simp only[AV.AO,zdl] at hs;simp only[ff] at h;by_cases hjx:j<x.size
  ·exact sb x g hs.1 h.1 j hjx
  ·have:=zG xs _ hs.2 h.2 (j-x.size) (by simp[AV.dD] at hj;omega)
   rwa [show x.size+(j-x.size)=j by omega] at this
end
theorem qR {v:AV}(hs:v.nq=true)(h:v.isAgg=false):v.size=1:=by cases v<;>simp_all [AV.isAgg,AV.size]
theorem rG {P:Program}{t:TypeId}{v:AV}(h:rY P t v=true):v.nq=true/\v.isAgg=qN P t/\v.size=P.cellsOf t/\∃d,P.underlying t=some d:=by
 simp only[rY,zdl,beq_iff_eq,zdr] at h;exact⟨h.1.1.1,h.1.1.2,h.1.2,Option.isSome_iff_exists.1 h.2⟩
theorem oy (b o n:Nat):(⟨b,o,none⟩:Addr).add n=⟨b,o+n,none⟩:=Addr.add_lit b o n
theorem Dy {P:Program}{N:Names}{D:Nat->Prop}{w:World}{t:TypeId}{v:AV}{ad:Addr}(ha:ad.spot=none)(hf:rY P t v=true)(hr:an N D w v (aV w ad)):
  ∃c,(Instr.loadAt t (.pointer (some ad))).run P w= .ok c w/\cq N D w v c:=by
 obtain⟨hs,h1,h2,d,hd⟩:=rG hf;obtain⟨i,hi⟩:=info_of_underlying hd;obtain⟨b,o,sp⟩:=ad;simp only at ha;subst ha;have hc:=sb v _ hs hr;have Hv:(isAgg t).run P w= .ok (qN P t) w:=by
  simp only[isAgg,zdE,run_underlying hd,zdF,qN,hd];cases d<;>rfl
 simp only[Instr.loadAt,Instr.sureAddr,zdE,zdG,zdF,loadVar,Hv];cases Fk:v.isAgg with
 |true=>
  rw[<-h1,Fk];have La: ∀j,j<v.size->w.cell? ((⟨b,o,none⟩:Addr).add j)=some ((aV w ⟨b,o,none⟩ j).getD Go.undef):=by
   intro j hj;obtain⟨c,h3,_⟩:=hc j hj;rw[oy,h3];exact h3
  have hl:=run_loadCells (P:=P) w ⟨b,o,none⟩ v.size (λj=>(aV w ⟨b,o,none⟩ j).getD Go.undef) La;refine⟨.agg ((List.range v.size).map λj=>(aV w ⟨b,o,none⟩ j).getD Go.undef).toArray,?_,?_⟩
  ·simp only[if_true,zdE,run_sizeOf w hi,zdF,<-h2,hl,zdG]
  ·unfold cq
   rw[Fk];refine⟨_,rfl,by simp,jP v _ _ (λj hj=>?_) hr⟩
   obtain⟨c,h3,_⟩:=hc j hj;simp[hj,h3]
 |false=>
  rw[<-h1,Fk];obtain⟨c,h3,_⟩:=hc 0 (by rw[qR hs Fk];omega)
  have Rf:w.cell? ⟨b,o,none⟩=some c:=h3;refine⟨c,by simp[Rf],?_⟩
  unfold cq;rw[Fk];refine jP v _ _ (λj hj=>?_) hr;rw[qR hs Fk] at hj;obtain rfl:j=0:=by omega
  exact h3
end AM
namespace AM
open Go
theorem iK {t t':Ty}{xs:List t.den}{ys:List t'.den}(h:rW t t' xs=some ys): ∃e:t=t',ys=e▸xs:=by
 unfold rW at h;split at h
 ·rename_i e;exact⟨e,(Option.some.inj h).symm⟩
 ·cases h
def lr (N:Names)(D':Nat->Prop)(ids:List Nat):Prop:= ∀id∈ids,∀nm a,N id=some nm->nm.base=some a->D' a.block
def Nh (R:(Nat->Prop)->World->Prop)(N:Names)(D:Nat->Prop)(w:World)(ids:List Nat):Prop:= ∀D':Nat->Prop,(∀b,D b->D' b)->lr N D' ids->R D' w
theorem xp {N:Names}{D':Nat->Prop}{w:World}{t:Ty}{xs:List t.den}{a:Addr}{off len room:Nat}{v:Value}(hD:D' a.block)(hx: ∀i (x:t.den),jU (β:=t.den) xs i=some x->iq N D' w t x (λj=>aV w a (i*t.size+j)))
  (hv:Ht (Addr.at_ a (off*t.size)) len room v) (hl:off+len<=aO (β:=t.den) xs):iq N D' w (.deep t) ((xs.drop off).take len:List t.den) (λ_=>some v):=by
 obtain⟨a',cap,rfl,h1,rfl,h2⟩:=hv;have e:aO (β:=t.den) ((xs.drop off).take len)=len:=by simp only[aO,zdH,zdI];simp only[aO] at hl;omega
 refine⟨some a',cap,by rw[e],by rw[e];exact h1,(by intro h;cases h),λad Fz lR=>?_⟩
 cases Fz;rw[e] at lR;rcases h2 with rfl|h2
 ·refine⟨rfl,hD,λi x hi=>?_⟩
  have nA:jU (β:=t.den) xs (off+i)=some x:=by
   simp only[jU] at hi⊢;rw[zdJ] at hi;split at hi
   ·rwa [zdK] at hi
   ·cases hi
  have:=hx (off+i) x nA;have e2:(λj=>aV w (Addr.at_ a (off*t.size)) (i*t.size+j))=λj=>aV w a ((off+i)*t.size+j):=by
   funext j
   simp only[aV,Addr.at_];congr 2
   rw[zdx];omega
  rw[e2];exact this
 ·omega
theorem AZ {s:St}{id:Nat}{p:List Step}{sh:Sh}(h:s.shape id p=some sh){N:Names}{D:Nat->Prop}{w:World}{base:Nat}(S:jV N D w base s.h){nm:Nm}(hn:N id=some nm):nm.KK p=some sh:=by
 unfold St.shape at h;split at h
 ·rename_i v ho
  obtain⟨mD,a,h1,h2,h3,h4,_⟩:=S.obj id _ ho;rw[hn] at h1;cases h1;unfold Nm.KK;rw[h3,h4];exact h
 ·rename_i ro t xs ho
  obtain⟨mD,h1,h2,h3,_⟩:=S.obj id _ ho;rw[hn] at h1;cases h1;unfold Nm.KK;rw[h2,h3];simp only[if_true];split at h
  ·exact h
  ·cases h
 ·cases h
theorem xr {s:St}{id:Nat}{p:List Step}{sh:Sh}(hr:(p.isEmpty&&zy s id)=false)(h:s.shape id p=some sh){N:Names}{D:Nat->Prop}{w:World}{base:Nat}(S:jV N D w base s.h){nm:Nm}(hn:N id=some nm):(nm.row&&p.isEmpty)=false:=by
 unfold St.shape at h;split at h
 ·rename_i v ho
  obtain⟨mD,a,h1,h2,h3,h4,_⟩:=S.obj id _ ho;rw[hn] at h1;cases h1;rw[h3];rfl
 ·rename_i ro t xs ho
  have:zy s id=true:=by unfold zy;rw[ho]
  rw[this,Bool.and_true] at hr;rw[hr,zdL]
 ·cases h
theorem FA {α:Type}{s:St}{t:Ty}{v:AV}{k:List t.den->List Nat->Option α}{r:α}(h:pX s t v k=some r):
  ∃xs ids,k xs ids=some r/\∀N D w base,jV N D w base s.h->∀c,cq N D w v c->Nh (λD' w=>iq N D' w (.deep t) xs (λ_=>some c)) N D w ids:=by
 unfold pX at h;split at h
 ·rename_i t' zs
  split at h
  ·rename_i ys hc
   obtain⟨rfl,rfl⟩:=iK hc;exact⟨_,_,h,λN D w base S c hv D' hD _=>kv (Names.le_refl _) hD (λ_ _=>rfl) _ _ _ (ux.1 hv)⟩
  ·cases h
 ·refine⟨_,_,h,λN D w base S c hv D' hD _=>?_⟩
  rw[ee.1 hv];exact⟨none,0,rfl,by simp[aO],λ_=>rfl,(by intro ad ha;cases ha)⟩
 ·rename_i id off
  split at h
  ·rename_i ro t' xs ho
   split at h
   ·rename_i ys hc
    obtain⟨rfl,rfl⟩:=iK hc;refine⟨_,_,h,λN D w base S c hv D' hD hF=>?_⟩;simp only[cq,AV.isAgg,jw,an] at hv;obtain⟨nm,h1,h2,h3,h4,h5⟩:=hv;obtain⟨mD,e1,e2,e3,e4,e5,e6⟩:=S.obj id _ ho;rw[h1] at e1;cases e1;cases hb:nm.base with
    |none=>
     rw[hb] at h5;obtain⟨h6,h7⟩:=h5;have Hw:aO (β:=t'.den) ys=0:=by omega
     have hxe:ys=[]:=zdM Hw;subst hxe;simp only[zdj] at h7;subst h7;exact⟨none,0,by simp[aO],by simp[aO],λ_=>rfl,(by intro ad ha;cases ha)⟩
    |some a=>
     rw[hb] at h5 e6;obtain⟨u,room,h6,h7,h8⟩:=h5;simp only[zdj] at h6;subst h6;obtain⟨_,_,_,ye⟩:=e6;rw[e3,iJ] at h8;have:=xp (off:=off) (len:=nm.len-off) (hF id (by simp) nm a h1 hb) (λi x hi=>kv (Names.le_refl _) hD (λ_ _=>rfl) _ _ _ (ye i x hi)) h8 (by omega)
     rwa [zdN (by simp only[aO] at e4;simp;omega)] at this
   ·cases h
  ·cases h
 ·rename_i id p off len
  split at h
  ·rename_i mE
   simp only[zdl,zdO] at mE;obtain⟨rfl,mE⟩:=mE;split at h;rotate_left
   ·cases h
   rename_i ro t' xs ho;split at h
   ·rename_i ys hc
    obtain⟨rfl,rfl⟩:=iK hc;refine⟨_,_,h,λN D w base S c hv D' hD hF=>?_⟩;simp only[cq,AV.isAgg,jw,an] at hv;obtain⟨nm,h1,hv⟩:=hv;obtain⟨mD,e1,e2,e3,e4,e5,e6⟩:=S.obj id _ ho;rw[h1] at e1;cases e1;cases h2:nm.base with
    |none=>
     rw[h2] at hv;obtain⟨_,rfl,rfl,_,h7⟩:=hv;simp only[zdj] at h7;subst h7;exact⟨none,0,by simp[aO],by simp[aO],λ_=>rfl,(by intro ad ha;cases ha)⟩
    |some a=>
    rw[h2] at hv;simp only at hv;rw[if_pos (by simp[e2])] at hv
    obtain⟨h4,h5,u,room,h6,h7,h8,h9⟩:=hv;rw[h2] at e6;simp only[zdj] at h6;subst h6;obtain⟨_,_,_,ye⟩:=e6;rw[e3,iJ] at h9;exact xp (off:=off) (len:=len) (hF id (by simp) nm a h1 h2) (λi x hi=>kv (Names.le_refl _) hD (λ_ _=>rfl) _ _ _ (ye i x hi)) h9 (by omega)
   ·cases h
  ·rename_i mE
   obtain⟨u,h,yw,qH⟩:=px h;split at h;rotate_left
   ·cases h
   rename_i n t' xs;split at h;rotate_left
   ·cases h
   rename_i ys hc;obtain⟨rfl,rfl⟩:=iK hc;refine⟨_,_,h,λN D w base S c hv D' hD hF=>?_⟩;simp only[cq,AV.isAgg,jw,an] at hv;obtain⟨nm,h1,hv⟩:=hv;have KL:=xr mE yw S h1;cases h2:nm.base with
   |none=>
    rw[h2] at hv;obtain⟨h3,_⟩:=hv;rw[KL] at h3;cases h3
   |some a=>
    rw[h2] at hv;simp only at hv;rw[if_neg (by rw[KL];simp)] at hv
    obtain⟨o,n',e,u,room,h3,h4,h5,h6,h7,h8⟩:=hv;simp only[zdj] at h6;subst h6;obtain⟨g1,g2,_⟩:=qH N D w base S nm a o h1 h2 h3;simp only[an,iq] at g2;have KM:=AZ yw S h1;rw[h4] at KM;simp only[AV.sh,zdj,Sh.arr.injEq] at KM;obtain⟨rfl,rfl⟩:=KM;have hlen:aO (β:=t'.den) ys=n':=g2.1;refine xp (a:=Addr.at_ a o) (off:=off) (len:=len) (room:=room) (by simpa [Addr.at_] using hF id (by simp) nm a h1 h2) (λi x hi=>?_) (by rw[iJ] at h8;simpa [Addr.at_,zdy] using h8) (by omega)
    refine ji _ _ _ _ (λj _=>?_) (kv (Names.le_refl _) hD (λ_ _=>rfl) _ _ _ (g2.2 i x hi));simp only[aV,Addr.at_,zdy]
 ·cases h
theorem lr.left {N:Names}{D':Nat->Prop}{i j:List Nat}(h:lr N D' (i++j)):lr N D' i:=λid pF=>h id (by simp[pF])
theorem lr.right {N:Names}{D':Nat->Prop}{i j:List Nat}(h:lr N D' (i++j)):lr N D' j:=λid pF=>h id (by simp[pF])
theorem zH {α:Type}{s:St}{t:Ty}{v:AV}{k:List t.den->List Nat->Option α}{r:α}(h:pX s t v k=some r):v.isAgg=false/\v.size=1/\v≠ .undef:=by
 cases v<;>first
  |(refine⟨rfl,by simp[AV.size],?_⟩;intro h0;cases h0;done)
  |(unfold pX at h;simp at h;done)
theorem OO {N:Names}{tag n c:Nat}{v:Option Value}(h:xk N tag n c v): ∃c,v=some c:=by
 obtain⟨c,h,_⟩:=AY h;exact⟨c,h⟩
theorem Lb {N:Names}{D:Nat->Prop}{w:World}{v:AV}{g:Nat->Option Value}(h1:v.isAgg=false)(h2:v≠ .undef)(h:an N D w v g): ∃c,g 0=some c:=by
 cases v<;>simp only[an] at h<;>first
  |exact absurd rfl h2
  |exact OO h
  |exact⟨_,h⟩
  |(obtain⟨_,_,_,_,_,_,h⟩:=h;exact⟨_,h⟩)
  |(obtain⟨a,cap,e,_⟩:=h;exact⟨_,e⟩)
  |(obtain⟨_,e,_⟩:=h;exact⟨_,e⟩)
  |(obtain⟨_,e⟩:=h;exact⟨_,e⟩)
  |(obtain⟨_,_,_,_,_,e⟩:=h;exact⟨_,e⟩)
  |(simp[AV.isAgg] at h1;done)
  |skip
 ·obtain⟨nm,_,_,_,_,h⟩:=h
  cases hb:nm.base with
  |none=>rw[hb] at h;exact⟨_,h.2⟩
  |some a=>rw[hb] at h;obtain⟨u,room,e,_⟩:=h;exact⟨_,e⟩
 ·obtain⟨nm,_,h⟩:=h
  cases hb:nm.base with
  |none=>rw[hb] at h;obtain⟨_,_,_,_,h⟩:=h;exact⟨_,h⟩
  |some a=>
  rw[hb] at h;simp only at h;split at h
  ·obtain⟨_,_,u,room,e,_⟩:=h;exact⟨_,e⟩
  ·obtain⟨_,_,_,u,room,_,_,_,e,_⟩:=h;exact⟨_,e⟩
theorem Lc {α:Type}{s:St}{t:Ty}{v:AV}{k:List t.den->List Nat->Option α}{r:α}(h:pX s t v k=some r):v.size=Ty.size (.deep t)/\∃x ids,k x ids=some r/\∀N D w base,jV N D w base s.h->∀g,an N D w v g->Nh (λD' w=>iq N D' w (.deep t) x g) N D w ids:=by
 have hna:=zH h;obtain⟨xs,ids,h1,h2⟩:=FA h;refine⟨by rw[hna.2.1];simp[Ty.size],xs,ids,h1,λN D w base S g hv D' hD hF=>?_⟩
 obtain⟨c,hc⟩:=Lb hna.1 hna.2.2 hv;have hv':cq N D w v c:=by
  unfold cq;rw[hna.1];refine jP v _ _ (λj hj=>?_) hv;rw[hna.2.1] at hj;obtain rfl:j=0:=by omega
  exact hc
 exact ji _ _ _ _ (λj hj=>by simp only[Ty.size] at hj;have hj0:j=0:=(by omega);subst hj0;exact hc.symm) (h2 N D w base S c hv' D' hD hF)
theorem Dz {α:Type}{s:St}{t:Ty}(IH: ∀(v:AV) (k:t.den->List Nat->Option α) (r:α),qG s t v k=some r->v.size=t.size/\∃x ids,k x ids=some r/\∀N D w base,jV N D w base s.h->∀g,an N D w v g->Nh (λD' w=>iq N D' w t x g) N D w ids):
  ∀(vs:List AV) (k:List t.den->List Nat->Option α) (r:α),Us (qG s t) vs k=some r->∃(xs:List t.den) (ids:List Nat),k xs ids=some r/\xs.length=vs.length/\
   ∀N D w base,jV N D w base s.h->∀D':Nat->Prop,(∀b,D b->D' b)->lr N D' ids->∀g,ff N D w vs g->∀i (x:t.den),jU (β:=t.den) xs i=some x->iq N D' w t x (λj=>g (i*t.size+j))
 | [],k,r,h=>⟨[],[],h,rfl,λN D w base S D' _ _ g _ i x hx=>by simp[jU] at hx⟩
 |v::vs,k,r,h=>by
  unfold Us at h;obtain⟨hsz,x,ids,h1,h2⟩:=IH v _ r h;obtain⟨xs,XQ,h3,h4,h5⟩:=Dz IH vs _ r h1;refine⟨x::xs,ids++XQ,h3,by simp[h4],λN D w base S D' hD hF g hg i y hy=>?_⟩
  simp only[ff] at hg;cases i with
  |zero=>
   simp only[jU,zdP,zdj] at hy;subst hy;exact ji _ _ _ _ (λj _=>by simp) (h2 N D w base S g hg.1 D' hD (λq hq=>hF q (List.mem_append.2 (.inl hq))))
  |succ i=>
   refine ji _ _ _ _ (λj _=>congrArg g (by rw[hsz,zdx];omega)) (h5 N D w base S D' hD (λq hq=>hF q (List.mem_append.2 (.inr hq))) _ hg.2 i y (by simpa [jU] using hy))
theorem mF {α:Type}{s:St}: ∀(t:Ty) (v:AV) (k:t.den->List Nat->Option α) (r:α),qG s t v k=some r->
  v.size=t.size/\∃x ids,k x ids=some r/\∀N D w base,jV N D w base s.h->∀g,an N D w v g->Nh (λD' w=>iq N D' w t x g) N D w ids
 | .int k',v,k,r,h=>by
  unfold qG at h;split at h
  ·split at h
   ·rename_i k'' n e;subst e
    exact⟨by simp[AV.size,Ty.size],_,_,h,λN D w base S g hv D' hD _=>by simp only[an] at hv;exact hv⟩
   ·cases h
  ·cases h
 | .bool,v,k,r,h=>by
  unfold qG at h;split at h
  ·exact⟨by simp[AV.size,Ty.size],_,_,h,λN D w base S g hv D' hD _=>by simp only[an] at hv;exact hv⟩
  ·cases h
 | .str,v,k,r,h=>by
  unfold qG at h;split at h
  ·exact⟨by simp[AV.size,Ty.size],_,_,h,λN D w base S g hv D' hD _=>by simp only[an] at hv;exact hv⟩
  ·cases h
 | .nil,v,k,r,h=>by
  unfold qG at h;split at h
  ·exact⟨by simp[AV.size,AV.dD,Ty.size],_,_,h,λN D w base S g hv D' hD _=>trivial⟩
  ·cases h
 | .cons a b,v,k,r,h=>by
  unfold qG at h;split at h
  ·rename_i x l
   obtain⟨hsz,p,i,h1,h2⟩:=mF a x _ r h;obtain⟨wE,q,j,h3,h4⟩:=mF b (.agg l) _ r h1;refine⟨by simp only[AV.size,AV.dD,Ty.size] at*;omega,_,_,h3,λN D w base S g hv D' hD hF=>?_⟩
   simp only[an,ff] at hv;have hp:=h2 N D w base S g hv.1 D' hD hF.left;refine⟨hp,?_⟩;have:=h4 N D w base S (λj=>g (x.size+j)) (by simp only[an];exact hv.2) D' hD hF.right
   rwa [hsz] at this
  ·cases h
 | .arr n t,v,k,r,h=>by
  unfold qG at h;split at h
  ·rename_i n' t' xs
   split at h
   ·rename_i e;subst e
    split at h
    ·rename_i ys hc
     obtain⟨rfl,rfl⟩:=iK hc;exact⟨by simp[AV.size,Ty.size],_,_,h,λN D w base S g hv D' hD _=>by simp only[an] at hv;exact kv (Names.le_refl _) hD (λ_ _=>rfl) _ _ _ hv⟩
    ·cases h
   ·cases h
  ·cases h
 | .deep t,v,k,r,h=>by
  unfold qG KW at h;split at h;rotate_left
  ·exact Lc h
  rename_i id n;split at h;rotate_left
  ·cases h
  rename_i vs ho;split at h;rotate_left
  ·cases h
  rename_i hn;simp only[zdr] at hn;obtain⟨xs,ids,h1,h2,h3⟩:=Dz (λv k r hv=>mF t v k r hv) vs _ r h;refine⟨by simp[AV.size,Ty.size],xs,id::ids,h1,λN D w base S g hv D' hD hF=>?_⟩
  simp only[an] at hv;obtain⟨nm,a,e1,e2,e3,e4⟩:=hv;obtain⟨mD,a',f1,f2,f3,f4,f5,f6,_,_,_,f7⟩:=S.obj id _ ho;rw[e1] at f1;cases f1;rw[e2] at f2;cases f2;simp only[an] at f7;have hlen:aO (β:=t.den) xs=n:=by rw[<-hn];exact h2
  refine⟨some a,n,by rw[hlen];exact e4,by rw[hlen];exact zdz _,(by intro h;cases h),λad Fz lR=>?_⟩
  cases Fz;exact⟨f5,hF id (by simp) nm a e1 e2,h3 N D w base S D' hD (λq hq=>hF q (zdp _ hq)) _ f7⟩
 | .ref g,v,k,r,h=>by
  unfold qG at h;split at h
  ·split at h
   ·rename_i e;subst e
    exact⟨by simp[AV.size,Ty.size],_,_,h,λN D w base S g hv D' hD _=>by simp only[an] at hv;exact hv⟩
   ·cases h
  ·exact⟨by simp[AV.size,Ty.size],_,_,h,λN D w base S g hv D' hD _=>by simp only[an] at hv;exact hv⟩
  ·cases h
end AM
namespace AM
open Go
mutual
theorem vQ: ∀(v u:AV),v.lj u=true->v.sh=u.sh
 | .agg fs,u,h=>by
  cases u<;>simp only[AV.lj] at h<;>first|(cases h;done)|skip
  simp only[AV.sh];rw[zI _ _ h]
 | .arr n t xs,u,h=>by
  cases u<;>simp only[AV.lj] at h<;>first|(cases h;done)|skip
  simp only[zdl,zdr] at h;simp only[AV.sh,h.1,h.2]
 | .undef,u,h=>by cases u<;>simp[AV.lj] at h
 | .AN _,u,h=>by cases u<;>simp[AV.lj] at h
 | .val _,u,h=>by cases u<;>simp[AV.lj] at h<;>simp[AV.sh]
 | .ptr _ _,u,h=>by cases u<;>simp[AV.lj] at h<;>simp[AV.sh]
 | .tail _ _,u,h=>by cases u<;>simp[AV.lj] at h<;>simp[AV.sh]
 | .slice _ _ _ _,u,h=>by cases u<;>simp[AV.lj] at h<;>simp[AV.sh]
 | .dp _ _,u,h=>by cases u<;>simp[AV.lj] at h<;>simp[AV.sh]
 | .tF _,u,h=>by cases u<;>simp[AV.lj] at h<;>simp[AV.sh]
 | .wN _ _,u,h=>by cases u<;>simp[AV.lj] at h<;>simp[AV.sh]
 | .xb,u,h=>by cases u<;>simp[AV.lj] at h<;>simp[AV.sh]
 | .QH _ _ _ _,u,h=>by cases u<;>simp[AV.lj] at h<;>simp[AV.sh]
 | .Cz _ _,u,h=>by cases u<;>simp[AV.lj] at h<;>simp[AV.sh]
 | .ue _ _,u,h=>by cases u<;>simp[AV.lj] at h<;>simp[AV.sh]
 | .rf _ _ _,u,h=>by cases u<;>simp[AV.lj] at h<;>simp[AV.sh]
theorem zI: ∀(l m:List AV),AV.u9 l m=true->AV.xc l=AV.xc m
 | [],m,h=>by cases m<;>simp[AV.u9] at h<;>simp[AV.xc]
 |x::xs,m,h=>by
  cases m with
  |nil=>simp[AV.u9] at h
  |cons y ys=>
   simp only[AV.u9,zdl] at h;simp only[AV.xc,vQ _ _ h.1,zI _ _ h.2]
end
theorem Ni: ∀(l:List AV) (n:Nat) (v v':AV),l[n]?=some v->v'.sh=v.sh->AV.xc (l.set n v')=AV.xc l
 | [],_,_,_,h,_=>by simp at h
 |x::xs,0,v,v',h,e=>by simp at h;subst h;simp[AV.xc,e]
 |x::xs,n+1,v,v',h,e=>by simp[AV.xc,Ni xs n v v' (by simpa using h) e]
theorem yZ {N:Names}{D:Nat->Prop}{w:World}: ∀(l:List AV) (n:Nat) (v v':AV) (g g':Nat->Option Value),l[n]?=some v->v'.size=v.size->ff N D w l g->
  (∀j,(j<AV.dD (l.take n)\/AV.dD (l.take n)+v.size<=j)->g' j=g j)->an N D w v' (λj=>g' (AV.dD (l.take n)+j))->ff N D w (l.set n v') g'
 | [],_,_,_,_,_,h,_,_,_,_=>by simp at h
 |x::xs,0,v,v',g,g',h,e,hr,hg,hv=>by
  simp at h;subst h;simp only[List.set,ff] at*;refine⟨mu hv (λj=>by simp[AV.dD]),?_⟩
  refine vO xs _ _ (λj _=>?_) hr.2;rw[hg _ (.inr (by simp[AV.dD];omega)),e]
 |x::xs,n+1,v,v',g,g',h,e,hr,hg,hv=>by
  simp only[List.set,ff] at*;refine⟨jP x _ _ (λj hj=>(hg j (.inl (by simp[AV.dD];omega))).symm) hr.1,?_⟩
  refine yZ xs n v v' (λj=>g (x.size+j)) (λj=>g' (x.size+j)) (by simpa using h) e hr.2 (λj hj=>hg _ ?_) (mu hv (λj=>by simp[AV.dD,zdy]))
  simp only[List.take_succ_cons,AV.dD];omega
theorem BO: ∀(l:List Sh) (n:Nat) (v:Sh),l[n]?=some v->Sh.dD (l.take n)+v.size<=Sh.dD l
 | [],n,v,h=>by simp at h
 |z::zs,0,v,h=>by simp at h;subst h;simp[Sh.dD]
 |z::zs,n+1,v,h=>by have:=BO zs n v (by simpa using h);simp[Sh.dD];omega
theorem zJ: ∀(p:List Step) (sh:Sh) (o:Nat) (t:Sh),fH p sh=some o->zz p sh=some t->o+t.size<=sh.size:=by
 intro p;induction p with
 |nil=>intro sh o t h1 h2;simp only[fH,zz,zdj] at h1 h2;subst h1;subst h2;omega
 |cons st p ih=>
  intro sh o t h1 h2;cases st with
  |im n=>
   cases sh<;>simp only[fH,zz] at h1 h2<;>try (cases h1;done)
   rename_i l;cases hl:l[n]? with
   |none=>simp[hl] at h1
   |some y=>
    simp only[hl] at h1 h2;cases h5:fH p y with
    |none=>simp[h5] at h1
    |some o2=>
     simp only[h5,zds,zdj] at h1;have:=ih y o2 t h5 h2;have:=BO l n y hl;simp only[Sh.size];omega
  |idx i=>
   cases sh<;>simp only[fH,zz] at h1 h2<;>try (cases h1;done)
   rename_i n e;by_cases hi:i<n
   ·simp only[hi,if_true] at h1
    cases h5:fH p e with
    |none=>simp[h5] at h1
    |some o2=>
     simp only[h5,zds,zdj] at h1;have:=ih e o2 t h5 h2;have h6:(i+1)*e.size<=n*e.size:=zdw _ hi;rw[zdx] at h6;simp only[Sh.size];omega
   ·simp only[hi,if_false] at h1;cases h1
theorem vR {α:Type}{s:St}: ∀(p:List Step) (u v:AV) (k:AV->Option α) (r:α),Ja s p u v k=some r->
  ∃v',k v'=some r/\v'.sh=v.sh/\zz p v.sh=some u.sh/\∀N D w base,jV N D w base s.h->∀g g' o,an N D w v g->fH p v.sh=some o->
   (∀j,(j<o\/o+u.size<=j)->g' j=g j)->an N D w u (λj=>g' (o+j))->an N D w v' g'
 | [],u,v,k,r,h=>by
  simp only[Ja] at h;cases hs:v.lj u with
  |false=>simp[hs] at h
  |true=>
   simp only[hs] at h;refine⟨u,h,(vQ _ _ hs).symm,by rw[zz,vQ _ _ hs],λN D w base S g g' o hv ho hg hu=>?_⟩
   simp only[fH,zdj] at ho;subst ho;exact mu hu (λj=>by simp)
 | .im n::p,u,v,k,r,h=>by
  cases v<;>simp only[Ja] at h<;>try (cases h;done)
  rename_i fs;cases hv:fs[n]? with
  |none=>simp[hv] at h
  |some x=>
   simp only[hv] at h;obtain⟨v',h1,h2,h3,h4⟩:=vR p u x _ r h;have hsz:v'.size=x.size:=by rw[<-kO,<-kO,h2]
   refine⟨_,h1,by simp only[AV.sh,Ni fs n x v' hv h2],by simp only[AV.sh,zz,zF,hv,zds];exact h3,λN D w base S g g' o hr ho hg hu=>?_⟩
   simp only[AV.sh,fH,zF,hv,zds] at ho;cases mS:fH p x.sh with
   |none=>simp[mS] at ho
   |some o'=>
    simp only[mS,zds,zdj] at ho;rw[<-Dx,zE] at ho;subst ho;simp only[an] at hr⊢;have hx:=qq fs n x g hv hr;have yf:o'+u.size<=x.size:=by
     have:=zJ p x.sh o' u.sh mS h3;rwa [kO,kO] at this
    have:=h4 N D w base S _ (λj=>g' (AV.dD (fs.take n)+j)) o' hx mS (λj hj=>hg _ (by omega)) (mu hu (λj=>by rw[zdy]))
    exact yZ fs n x v' g g' hv hsz hr (λj hj=>hg j (by omega)) this
 | .idx i::p,u,v,k,r,h=>by
  cases v<;>simp only[Ja] at h<;>try (cases h;done)
  rename_i n t xs;cases hv:(show List t.den from xs)[i]? with
  |none=>simp[hv] at h
  |some x=>
   simp only[hv] at h;obtain⟨v',h1,h2,h3,h4⟩:=vR p u (enc t x) _ r h;obtain⟨_,x',ids,h5,h6⟩:=mF t v' _ r h1;cases ids with
   |cons _ _=>simp at h5
   |nil=>
    simp only at h5;refine⟨_,h5,by simp only[AV.sh],by simp only[AV.sh,zz];rw[<-rE t x];exact h3,λN D w base S g g' o hr ho hg hu=>?_⟩
    simp only[AV.sh,fH] at ho;by_cases hi:i<n
    ·simp only[hi,if_true] at ho
     cases mS:fH p (rX t) with
     |none=>simp[mS] at ho
     |some o'=>
      simp only[mS,zds,zdj,iJ] at ho;subst ho;simp only[an,iq] at hr⊢;have hx:=(kK (N:=N) t x _).2 (hr.2 i x hv);have yf:o'+u.size<=t.size:=by
       have:=zJ p (rX t) o' u.sh mS (by rw[<-rE t x];exact h3)
       rwa [kO,iJ] at this
      have:=h4 N D w base S _ (λj=>g' (i*t.size+j)) o' hx (by rw[rE];exact mS) (λj hj=>hg _ (by omega)) (mu hu (λj=>by rw[zdy]))
      have BP:=h6 N D w base S _ this D (λ_ h=>h) (by intro id pF;simp at pF)
      refine⟨by simp only[aO,zdQ];exact hr.1,λi' y hy=>?_⟩
      by_cases T5:i=i'
      ·subst T5
       have kR:i<(show List t.den from xs).length:=(List.getElem?_eq_some_iff.1 hv).1
       simp only[jU,List.getElem?_set_self kR,zdj] at hy;subst hy;exact BP
      ·simp only[jU,zdR T5] at hy
       refine ji t y _ _ (λj hj=>?_) (hr.2 i' y hy);refine(hg _ ?_).symm;rcases Nat.lt_or_gt_of_ne T5 with kR|kR
       ·right
        have:(i+1)*t.size<=i'*t.size:=zdw _ kR;rw[zdx] at this;omega
       ·left
        have:(i'+1)*t.size<=i*t.size:=zdw _ kR;rw[zdx] at this;omega
    ·simp only[hi,if_false] at ho;cases ho
end AM
namespace AM
open Go
theorem sW.congr {N N':Names}{D D':Nat->Prop}{w w':World}{base:Nat}{id:Nat}{v:AV}(h:sW N D w base id v)(hN:N.le N')(hD: ∀b,D b->D' b)(hw: ∀b,D b->w'.heap[b]?=w.heap[b]?)
  (hb: ∀b,ox N id b->w'.heap[b]?=w.heap[b]?/\(¬D b->¬D' b)):sW N' D' w' base id v:=by
 obtain⟨nm,a,h1,h2,h3,h4,h5,h6,h7,h8,⟨c,ty,h9,Ge⟩,Nj⟩:=h;obtain⟨e1,e2⟩:=hb _ ⟨nm,a,h1,h2,rfl⟩;refine⟨nm,a,hN _ _ h1,h2,h3,h4,h5,h6,h7,e2 h8,⟨c,ty,by rw[e1];exact h9,Ge⟩,?_⟩
 refine mu (qg hN hD hw v _ Nj) (λj=>?_);simp only[aV,World.cell?,e1]
theorem nE.congr {N N':Names}{D D':Nat->Prop}{w w':World}{base:Nat}{id:Nat}{ro:Bool}{t:Ty}{xs:List t.den}(h:nE N D w base id ro t xs)(hN:N.le N')(hD: ∀b,D b->D' b)(hw: ∀b,D b->w'.heap[b]?=w.heap[b]?)
  (hb:ro=false->∀b,ox N id b->w'.heap[b]?=w.heap[b]?/\(¬D b->¬D' b)):nE N' D' w' base id ro t xs:=by
 obtain⟨nm,h1,h2,h3,h4,h5,h6⟩:=h;refine⟨nm,hN _ _ h1,h2,h3,h4,h5,?_⟩;cases pG:nm.base with
 |none=>rw[pG] at h6;exact h6
 |some a=>
  rw[pG] at h6;obtain⟨h7,⟨c,ty,fz,h8,h9⟩,Ge,Nj⟩:=h6;have e1:w'.heap[a.block]?=w.heap[a.block]?:=by
   cases ro with
   |true=>simp only[if_true] at Ge;exact hw _ Ge
   |false=>exact(hb rfl _ ⟨nm,a,h1,pG,rfl⟩).1
  refine⟨h7,⟨c,ty,fz,by rw[e1];exact h8,h9⟩,?_,λi x hx=>?_⟩
  ·cases ro with
   |true=>simp only[if_true] at Ge⊢;exact hD _ Ge
   |false=>simp at Ge⊢;exact⟨Ge.1,(hb rfl _ ⟨nm,a,h1,pG,rfl⟩).2 Ge.2⟩
  ·have:=kv hN hD hw t x _ (Nj i x hx)
   have e:(λj=>aV w' a (i*t.size+j))=λj=>aV w a (i*t.size+j):=by
    funext j;simp only[aV,World.cell?,e1]
   rw[e];exact this
mutual
theorem jd.congr {D D':Nat->Prop}{w w':World}{base:Nat}(hD: ∀b,D b->D' b)(hw: ∀b,D b->w'.heap[b]?=w.heap[b]?): ∀{N:Names} {c:Nat} {p:aH} {d:p.den},jd D w base N c p d->
  (∀b,pK N c p d b->w'.heap[b]?=w.heap[b]?/\(¬D b->¬D' b))->jd D' w' base N c p d
 |_,_, .var _,_,h,hb=>by
  simp only[jd,pK] at*;exact h.congr (Names.le_refl _) hD hw hb
 |_,_, .row _,_,h,hb=>by
  simp only[jd,pK] at*;exact h.congr (Names.le_refl _) hD hw λ_=>hb
 |N,c, .store ep,xs,h,hb=>by
  simp only[jd] at*;refine⟨h.1,λk d hk=>⟨kM.congr hD hw (h.2.1 k d hk).1 λb ho=>hb b ?_,(h.2.1 k d hk).2⟩,h.2.2.1,h.2.2.2⟩;simp only[pK];exact⟨k,d,hk,ho⟩
theorem kM.congr {D D':Nat->Prop}{w w':World}{base:Nat}(hD: ∀b,D b->D' b)(hw: ∀b,D b->w'.heap[b]?=w.heap[b]?): ∀{N:Names} {l:List (Nat×aH)} {d:cP l},kM D w base N l d->
  (∀b,pw N l d b->w'.heap[b]?=w.heap[b]?/\(¬D b->¬D' b))->kM D' w' base N l d
 |_,[],_,_,_=>by simp only[kM]
 |N,(c,p)::os,d,h,hb=>by
  simp only[kM,pw] at*;exact⟨jd.congr hD hw h.1 λb ho=>hb b (.inl ho),kM.congr hD hw h.2.1 λb ho=>hb b (.inr ho),h.2.2⟩
end
mutual
theorem jd.uy {D:Nat->Prop}{w:World}{base:Nat}{N N':Names}{c:Nat}{ep:List (Nat×aH)}{xs:List (cP ep)}(h:jd D w base N c (.store ep) xs)(e: ∀k,N'.sub (c-SB) k=N.sub (c-SB) k):jd D w base N' c (.store ep) xs:=by
 simp only[jd,e] at*;exact h
end
theorem pK.uy {N N':Names}{c:Nat}{ep:List (Nat×aH)}{xs:List (cP ep)}{b:Nat}(e: ∀k,N'.sub (c-SB) k=N.sub (c-SB) k):pK N' c (.store ep) xs b↔pK N c (.store ep) xs b:=by
 simp only[pK,e]
theorem nN {N N':Names}{D D':Nat->Prop}{w w':World}{base:Nat}{id:Nat}{o:fP}(h:qu N D w base id o)(hN:N.le N')(hD: ∀b,D b->D' b)(hw: ∀b,D b->w'.heap[b]?=w.heap[b]?)
  (hb: ∀b,iQ N id o b->w'.heap[b]?=w.heap[b]?/\(¬D b->¬D' b)) (hs: ∀ep xs,o= .store ep xs->∀k,N'.sub (id-SB) k=N.sub (id-SB) k):qu N' D' w' base id o:=by
 cases o with
 |dead=>trivial
 |void=>trivial
 |store ep xs=>exact(jd.congr hD hw (show jd D w base N id (.store ep) xs from h) hb).uy (hs ep xs rfl)
 |var v=>exact sW.congr h hN hD hw hb
 |row ro t xs=>exact nE.congr h hN hD hw λe=>by subst e;exact hb
def kn (h:Nat->Option fP)(id:Nat)(o:fP):Nat->Option fP:=λx=>if x=id then some o else h x
theorem St.sY (s:St)(id:Nat)(o:fP):(s.set id o).h=kn s.h id o:=rfl
theorem vf {h:Nat->Option fP}{id i:Nat}{o:fP}(e:kn h id o i=none):h i=none:=by
 unfold kn at e;split at e
 ·cases e
 ·exact e
theorem ox.eq {N N':Names}{i b:Nat}(h:N' i=N i):ox N' i b↔ox N i b:=by unfold ox;rw[h]
theorem iQ.names {N N':Names}{i:Nat}{o:fP}{b:Nat}(h1:N' i=N i)(h2: ∀k,N'.sub (i-SB) k=N.sub (i-SB) k):iQ N' i o b↔iQ N i o b:=by
 cases o with
 |dead=>exact Iff.rfl
 |void=>exact Iff.rfl
 |var v=>exact ox.eq h1
 |row ro t xs=>
  cases ro with
  |true=>exact Iff.rfl
  |false=>exact ox.eq h1
 |store ep xs=>exact pK.uy h2
theorem iQ.at_ {N:Names}{i:Nat}{o:fP}{nm:Nm}{a:Addr}{b:Nat}(hr:o.rw=true)(hn:N i=some nm)(hb:nm.base=some a)(h:iQ N i o b):b=a.block:=by
 have key:ox N i b->b=a.block:=by
  rintro⟨mD,a',h1,h2,rfl⟩
  rw[hn] at h1;cases h1;rw[hb] at h2;cases h2;rfl
 cases o with
 |dead=>exact h.elim
 |void=>exact h.elim
 |var v=>exact key h
 |row ro t xs=>cases ro<;>first|exact key h|exact h.elim
 |store ep xs=>cases hr
theorem jV.write {N:Names}{D:Nat->Prop}{w w':World}{base:Nat}{h:Nat->Option fP}(S:jV N D w base h){id:Nat}{o o':fP}{nm:Nm}{a:Addr}(ho:h id=some o)(Fm:o.rw=true)(hn:N id=some nm)(hb:nm.base=some a)
  (Rg:w'.os=w.os) (Jj:w'.tape=w.tape) (js:w'.output=w.output) (xt:w'.heap.size=w.heap.size) (mG: ∀b,b≠a.block->w'.heap[b]?=w.heap[b]?) (mZ:qu N D w' base id o') (T9:o'.rw=true:=by rfl):
  jV N D w' base (kn h id o')/\Ext N D w h N D w' (kn h id o'):=by
 have ta:iQ N id o a.block:=iQ.of Fm hn hb;have zah:yY N h a.block:=⟨id,o,ho,ta⟩;have hnd:=(S.tJ zah).1;have hD: ∀b,D b->w'.heap[b]?=w.heap[b]?:=λb uX=>mG b (λe=>hnd (e▸uX));have key: ∀i oi b,kn h id o' i=some oi->iQ N i oi b->∃o2,h i=some o2/\iQ N i o2 b:=by
  intro i oi b hi ri;by_cases e:i=id
  ·subst e
   simp[kn] at hi;subst hi;rw[iQ.at_ T9 hn hb ri];exact⟨o,ho,ta⟩
  ·simp only[kn,if_neg e] at hi;exact⟨oi,hi,ri⟩
 have Nk: ∀x,kn h id o' x≠h x->∃o2,kn h id o' x=some o2/\o2.rw=true/\∃o3,h x=some o3/\o3.rw=true:=by
  intro x hx;by_cases e:x=id
  ·subst e;exact⟨o',by simp[kn],T9,o,ho,Fm⟩
  ·simp[kn,e] at hx
 constructor
 ·refine⟨λQK o'' h'=>?_,?_,λb uX=>by rw[xt];exact S.frozen b uX,λQK mD OP=>?_,by rw[xt];exact S.size,λg hg=>?_⟩
  ·by_cases e:QK=id
   ·subst e;simp[kn] at h';subst h';exact mZ
   ·simp only[kn,if_neg e] at h'
    refine nN (S.obj QK o'' h') (Names.le_refl N) (λ_ h=>h) hD (λb hO=>⟨mG _ (λeb=>e ?_),λh=>h⟩) (λ_ _ _ _=>rfl);exact S.apart QK id o'' o b h' ho hO (eb▸ta)
  ·intro i j oi oj b hi hj ri rj
   obtain⟨o1,h1,r1⟩:=key i oi b hi ri;obtain⟨o2,h2,r2⟩:=key j oj b hj rj;exact S.apart i j o1 o2 b h1 h2 r1 r2
  ·by_cases e:QK=id
   ·simp[kn,e]
   ·simp only[kn,if_neg e];exact S.named QK mD OP
  ·by_cases e:SB+g=id
   ·simp only[kn,if_pos e] at hg
    cases o'<;>simp[AM.iI] at hg
    cases T9
   ·simp only[kn,if_neg e] at hg;exact S.iI g hg
 ·refine⟨Names.le_refl N,λ_ h=>h,Rg,Jj,js,by rw[xt];exact zdz _,λb _ vS=>mG b (λe=>vS (e▸zah)),λb _ hO=>?_,λ_ h=> .inl h,λ_ _ h=> .inl h,λ_ h=>vf h,λg hg=>⟨?_,λ_=>rfl⟩⟩
  ·obtain⟨i,oi,hi,ri⟩:=hO
   obtain⟨o2,h2,r2⟩:=key i oi b hi ri;exact⟨i,o2,h2,r2⟩
  ·by_cases e:SB+g=id
   ·subst e;rw[ho] at hg;cases hg;cases Fm
   ·simp only[kn,if_neg e];exact hg
theorem jV.kill {N:Names}{D:Nat->Prop}{w:World}{base:Nat}{h:Nat->Option fP}(S:jV N D w base h)(id:Nat):jV N D w base (kn h id .dead)/\Ext N D w h N D w (kn h id .dead):=by
 have key: ∀i oi b,kn h id .dead i=some oi->iQ N i oi b->h i=some oi:=by
  intro i oi b hi ri;by_cases e:i=id
  ·subst e;simp[kn] at hi;subst hi;exact ri.elim
  ·simpa only[kn,if_neg e] using hi
 constructor
 ·refine⟨λi o hi=>?_,?_,S.frozen,λi nm hn=>?_,S.size,λg hg=>?_⟩
  ·by_cases e:i=id
   ·subst e;simp[kn] at hi;subst hi;trivial
   ·simp only[kn,if_neg e] at hi;exact S.obj i o hi
  ·intro i j oi oj b hi hj ri rj
   exact S.apart i j oi oj b (key i oi b hi ri) (key j oj b hj rj) ri rj
  ·by_cases e:i=id
   ·simp[kn,e]
   ·simp only[kn,if_neg e];exact S.named i nm hn
  ·by_cases e:SB+g=id
   ·simp[kn,if_pos e,AM.iI] at hg
   ·simp only[kn,if_neg e] at hg;exact S.iI g hg
 ·refine⟨Names.le_refl N,λ_ h=>h,rfl,rfl,rfl,zdz _,λ_ _ _=>rfl,λb _ hO=>?_,λ_ h=> .inl h,λ_ _ h=> .inl h,λ_ h=>vf h,λg hg=>⟨?_,λ_=>rfl⟩⟩
  ·obtain⟨i,oi,hi,ri⟩:=hO
   exact⟨i,oi,key i oi b hi ri,ri⟩
  ·by_cases e:SB+g=id
   ·simp[kn,if_pos e]
   ·simp only[kn,if_neg e];exact hg
theorem jV.Uw {N:Names}{D:Nat->Prop}{w:World}{base:Nat}{h:Nat->Option fP}(S:jV N D w base h){id:Nat}{ro:Bool}{t:Ty}{xs:List t.den}(ho:h id=some (.row ro t xs)):
  ∃D':Nat->Prop,(∀b,D b->D' b)/\lr N D' [id]/\jV N D' w base (kn h id (.row true t xs))/\Ext N D w h N D' w (kn h id (.row true t xs)):=by
 have mZ:=S.obj id _ ho;have key: ∀i oi b,kn h id (.row true t xs) i=some oi->iQ N i oi b->i≠id/\h i=some oi:=by
  intro i oi b hi ri;by_cases e:i=id
  ·subst e;simp[kn] at hi;subst hi;exact ri.elim
  ·exact⟨e,by simpa only[kn,if_neg e] using hi⟩
 let D':Nat->Prop:=λb=>D b\/∃nm a,N id=some nm/\nm.base=some a/\a.block=b
 have kR: ∀nm a,N id=some nm->nm.base=some a->a.block<w.heap.size:=by
  intro nm a hn hb;obtain⟨mD,h1,_,_,_,_,h6⟩:=mZ;rw[hn] at h1;cases h1;rw[hb] at h6;obtain⟨_,⟨c,ty,fz,h8,_⟩,_⟩:=h6;exact(Array.getElem?_eq_some_iff.1 h8).1
 refine⟨D',λb h=> .inl h,?_,?_,?_⟩
 ·intro i hi nm a hn hb
  simp at hi;subst hi;exact .inr ⟨nm,a,hn,hb,rfl⟩
 ·refine⟨λi o hi=>?_,?_,?_,λi nm hn=>?_,S.size,λg hg=>?_⟩
  ·by_cases e:i=id
   ·subst e;simp[kn] at hi;subst hi
    obtain⟨nm,h1,h2,h3,h4,h5,h6⟩:=mZ;refine⟨nm,h1,h2,h3,h4,h5,?_⟩;cases hb:nm.base with
    |none=>rw[hb] at h6;exact h6
    |some a=>
     rw[hb] at h6;obtain⟨h7,⟨c,ty,fz,h8,h9,_⟩,_,Nj⟩:=h6;refine⟨h7,⟨c,ty,fz,h8,h9,by simp⟩,by simp only[if_true];exact .inr ⟨nm,a,h1,hb,rfl⟩,λi x hx=>kv (Names.le_refl _) (λb h=> .inl h) (λ_ _=>rfl) _ _ _ (Nj i x hx)⟩
   ·simp only[kn,if_neg e] at hi
    refine nN (S.obj i o hi) (Names.le_refl N) (λb h=> .inl h) (λ_ _=>rfl) (λb hO=>⟨rfl,λhnd K8=>?_⟩) (λ_ _ _ _=>rfl);rcases K8 with K8|⟨nm,a,hn,hb,Ld⟩
    ·exact hnd K8
    ·cases ro with
     |true=>
      obtain⟨WQ,h1,_,_,_,_,h6⟩:=mZ;rw[hn] at h1;cases h1;rw[hb] at h6;obtain⟨_,_,Ge,_⟩:=h6;simp only[if_true] at Ge;exact hnd (Ld▸Ge)
     |false=>exact e (S.apart i id o _ b hi ho hO ⟨nm,a,hn,hb,Ld⟩)
  ·intro i j oi oj b hi hj ri rj
   exact S.apart i j oi oj b (key i oi b hi ri).2 (key j oj b hj rj).2 ri rj
  ·rintro b (hb|⟨nm,a,hn,hb,rfl⟩)
   ·exact S.frozen b hb
   ·exact kR nm a hn hb
  ·by_cases e:i=id
   ·simp[kn,e]
   ·simp only[kn,if_neg e];exact S.named i nm hn
  ·by_cases e:SB+g=id
   ·simp[kn,if_pos e,AM.iI] at hg
   ·simp only[kn,if_neg e] at hg;exact S.iI g hg
 ·refine⟨Names.le_refl N,λb h=> .inl h,rfl,rfl,rfl,zdz _,λ_ _ _=>rfl,λb _ hO=>?_,λb hb=>?_,λ_ _ h=> .inl h,λ_ h=>vf h,λg hg=>⟨?_,λ_=>rfl⟩⟩
  case refine_2=>
   rcases hb with hb|⟨nm,a,hn,hb,rfl⟩
   ·exact .inl hb
   ·cases ro with
    |true=>
     obtain⟨WQ,h1,_,_,_,_,h6⟩:=mZ;rw[hn] at h1;cases h1;rw[hb] at h6;obtain⟨_,_,Ge,_⟩:=h6;exact .inl (by simpa using Ge)
    |false=>exact .inr (.inl ⟨id,_,ho,⟨nm,a,hn,hb,rfl⟩⟩)
  ·obtain⟨i,oi,hi,ri⟩:=hO
   exact⟨i,oi,(key i oi b hi ri).2,ri⟩
  ·by_cases e:SB+g=id
   ·subst e;rw[ho] at hg;cases hg
   ·simp only[kn,if_neg e];exact hg
theorem vT: ∀(ids:List Nat) (s s':St),s.freeze ids=some s'->s'.t=s.t/\s'.nt=s.nt/\s'.ep=s.ep/\∀N D w base,jV N D w base s.h->
  ∃D':Nat->Prop,(∀b,D b->D' b)/\lr N D' ids/\jV N D' w base s'.h/\Ext N D w s.h N D' w s'.h
 | [],s,s',h=>by
  simp only[St.freeze,zdj] at h;subst h;exact⟨rfl,rfl,rfl,λN D w base S=>⟨D,λ_ h=>h,by intro i hi;simp at hi,S,Ext.refl _ _ _ _⟩⟩
 |i::l,s,s',h=>by
  simp only[St.freeze] at h;split at h
  ·rename_i ro t xs ho
   obtain⟨h1,h2,h3,h4⟩:=vT l _ s' h;refine⟨h1,h2,h3,λN D w base S=>?_⟩;obtain⟨D1,e1,e2,e3,e4⟩:=S.Uw ho;obtain⟨D2,f1,f2,f3,f4⟩:=h4 N D1 w base (by rw[St.sY];exact e3)
   refine⟨D2,λb hb=>f1 b (e1 b hb),λid pF nm a hn hb=>?_,f3,e4.trans f4⟩;rcases List.mem_cons.1 pF with rfl|pF
   ·exact f1 _ (e2 id (by simp) nm a hn hb)
   ·exact f2 id pF nm a hn hb
  ·cases h
theorem Names.BQ {N:Names}{id:Nat}{nm:Nm}:(N.up λi=>if i=id then some nm else N i) id=some nm:=by show(if id=id then some nm else N id)=_;simp
theorem Names.Rh {N:Names}{id:Nat}{nm:Nm}(XR:N id=none):N.le (N.up λi=>if i=id then some nm else N i):=Names.Rb λi mD h'=>by
 by_cases e:i=id
 ·subst e;rw[XR] at h';cases h'
 ·rw[if_neg e];exact h'
theorem jV.make {N:Names}{D:Nat->Prop}{w w':World}{base:Nat}{h:Nat->Option fP}(S:jV N D w base h){id:Nat}{o:fP}{nm:Nm}(gV:h id=none)(Rg:w'.os=w.os)(Jj:w'.tape=w.tape)(js:w'.output=w.output)
  (xt:w.heap.size<=w'.heap.size) (mG: ∀b,b<w.heap.size->w'.heap[b]?=w.heap[b]?) (qS: ∀a,nm.base=some a->w.heap.size<=a.block/\a.block<w'.heap.size)
  (mZ:qu (N.up λi=>if i=id then some nm else N i) D w' base id o) (hr:o.rw=true:=by rfl):
  ∃N':Names,N' id=some nm/\jV N' D w' base (kn h id o)/\Ext N D w h N' D w' (kn h id o):=by
 have XR:N id=none:=by
  cases e:N id with
  |none=>rfl
  |some mD=>exact absurd gV (S.named id mD e)
 have hN:N.le (N.up λi=>if i=id then some nm else N i):=Names.Rb λi mD h'=>by
  by_cases e:i=id
  ·subst e;rw[XR] at h';cases h'
  ·rw[if_neg e];exact h'
 have XS:(N.up λi=>if i=id then some nm else N i) id=some nm:=by show(if id=id then some nm else N id)=_;simp
 have Le: ∀i,i≠id->(N.up λi=>if i=id then some nm else N i) i=N i:=λi e=>if_neg e
 have hold: ∀i oi b,i≠id->iQ (N.up λi=>if i=id then some nm else N i) i oi b->iQ N i oi b:=λi oi b e=>(iQ.names (Le i e) (λ_=>rfl)).1
 have DA: ∀b,iQ (N.up λi=>if i=id then some nm else N i) id o b->w.heap.size<=b:=by
  intro b hO;cases hb:nm.base with
  |some a=>rw[iQ.at_ hr XS hb hO];exact(qS a hb).1
  |none=>
   have key:ox (N.up λi=>if i=id then some nm else N i) id b->False:=by
    rintro⟨mD,a',h1,h2,_⟩
    rw[XS] at h1;cases h1;rw[hb] at h2;cases h2
   cases o with
   |dead=>exact hO.elim
   |void=>exact hO.elim
   |var v=>exact(key hO).elim
   |row ro t xs=>cases ro<;>first|exact(key hO).elim|exact hO.elim
   |store ep xs=>cases hr
 refine⟨N.up λi=>if i=id then some nm else N i,XS,⟨λi oi hi=>?_,?_,λb hb=>zdB (S.frozen b hb) xt,λi mD hn=>?_,zdA S.size xt,λg hg=>?_⟩,⟨hN,λ_ h=>h,Rg,Jj,js,xt,λb hb _=>mG b hb,λb hb hO=>?_,λ_ h=> .inl h,λi mD hn=>?_,λ_ h=>vf h,λg hg=>⟨?_,λ_=>rfl⟩⟩⟩
 ·by_cases e:i=id
  ·subst e;simp[kn] at hi;subst hi;exact mZ
  ·simp only[kn,if_neg e] at hi
   exact nN (S.obj i oi hi) hN (λ_ h=>h) (λb hb=>mG b (S.frozen b hb)) (λb hO=>⟨mG _ (S.oX hi hO).2.2,λh=>h⟩) (λ_ _ _ _=>rfl)
 ·intro i j oi oj b hi hj ri rj
  by_cases ei:i=id<;>by_cases ej:j=id
  ·rw[ei,ej]
  ·exfalso
   subst ei;simp[kn] at hi;subst hi;simp only[kn,if_neg ej] at hj;have:=(S.oX hj (hold j oj b ej rj)).2.2;have:=DA b ri;omega
  ·exfalso
   subst ej;simp[kn] at hj;subst hj;simp only[kn,if_neg ei] at hi;have:=(S.oX hi (hold i oi b ei ri)).2.2;have:=DA b rj;omega
  ·simp only[kn,if_neg ei] at hi
   simp only[kn,if_neg ej] at hj;exact S.apart i j oi oj b hi hj (hold i oi b ei ri) (hold j oj b ej rj)
 ·by_cases e:i=id
  ·simp[kn,e]
  ·simp only[kn,if_neg e]
   rw[Le i e] at hn;exact S.named i mD hn
 ·by_cases e:SB+g=id
  ·simp only[kn,if_pos e] at hg
   cases o<;>simp[AM.iI] at hg
   cases hr
  ·simp only[kn,if_neg e] at hg;exact S.iI g hg
 ·obtain⟨i,oi,hi,ri⟩:=hO
  by_cases e:i=id
  ·subst e
   simp[kn] at hi;subst hi;have:=DA b ri;omega
  ·simp only[kn,if_neg e] at hi
   exact⟨i,oi,hi,hold i oi b e ri⟩
 ·by_cases e:i=id
  ·subst e;exact .inr gV
  ·rw[Le i e] at hn;exact .inl hn
 ·by_cases e:SB+g=id
  ·subst e;rw[gV] at hg;cases hg
  ·simp only[kn,if_neg e];exact hg
end AM
namespace AM
open Go
variable {α:Type}{P:Program}{base:Nat}
def zK (op:BinOp)(b:Bool):Bool:=match op with| .eql=>b|_=>!b
theorem kt.sJ {N:Names}{D:Nat->Prop}{w:World}{st:St}{a:Act}(s:kt N D w base st a){x:Operand}{v:Value}(h:st.ev x= .val v):a.eval x=v:=by
 have:=s.Fy x;rw[h] at this;exact ee.1 this
theorem kt.uj {N:Names}{D:Nat->Prop}{w:World}{st:St}{a:Act}(s:kt N D w base st a){x:Operand}{v:AV}(h:st.ev x=v):cq N D w v (a.eval x):=h▸s.Fy x
theorem oG {t:TypeId}{x y:Value}{b:Bool}{w:World}(h:(Op.equalIn (9999+1) t x y).run P w= .ok b w):(Op.equal t x y).run P w= .ok b w:=h
section
variable {t:TypeId}{w:World}(d:Nat)
theorem Hy (hu:P.underlying t=some .bool)(a b:Bool):(Op.equalIn (d+1) t (.bool a) (.bool b)).run P w= .ok (a==b) w:=by simp[Op.equalIn,run_underlying hu]
theorem qT {e:TypeId}(hu:P.underlying t=some (.pointer e))(b:Option Addr):(Op.equalIn (d+1) t (.pointer none) (.pointer b)).run P w= .ok b.isNone w:=by simp[Op.equalIn,run_underlying hu]
theorem zL {e:TypeId}(hu:P.underlying t=some (.pointer e))(b:Addr):(Op.equalIn (d+1) t (.pointer (some b)) (.pointer none)).run P w= .ok false w:=by simp[Op.equalIn,run_underlying hu]
theorem Hz {e:TypeId}(hu:P.underlying t=some (.slice e))(a:Option Addr)(n m n' m':Nat):(Op.equalIn (d+1) t (.slice a n m) (.slice none n' m')).run P w= .ok a.isNone w:=by cases a<;>simp[Op.equalIn,run_underlying hu]
theorem HA {e:TypeId}(hu:P.underlying t=some (.slice e))(n m n' m':Nat):(Op.equalIn (d+1) t (.slice none n m) (.slice none n' m')).run P w= .ok true w:=by simp[Op.equalIn,run_underlying hu]
end
theorem rQ {op:BinOp}{t:TypeId}{x y:Value}{b:Bool}{w:World}(uY:op= .eql\/op= .neq)(hx: ∀k n,x≠ .int k n)(hf: ∀k n,x≠ .float k n)(Z6: ∀k n m,x≠ .complex k n m)(hs: ∀s,x≠ .string s)
  (h:(Op.equal t x y).run P w= .ok b w):(Go.binOp op t x y).run P w= .ok (.bool (zK op b)) w:=by
 rcases uY with rfl|rfl<;>cases x<;>first
  |(exfalso;first|exact hx _ _ rfl|exact hf _ _ rfl|exact Z6 _ _ _ rfl|exact hs _ rfl)
  |(cases y<;>simp[Go.binOp,h,zK])
theorem pL {dst ty pos after guard}{op:BinOp}{t yT:TypeId}{x y:Operand}{st:St}{b:Bool}{k:AV->St->Option α}{r:α}(h:QJ st op b k=some r)
  (he: ∀N D w a,kt N D w base st a->(op= .eql\/op= .neq)->(do eqGuard op t x y (a.eval x) (a.eval y);Go.binOp op t (a.eval x) (a.eval y):Sem Value).run P w= .ok (.bool (zK op b)) w):
  nT P base ⟨dst, .binOp op t x y yT,ty,pos,after,guard⟩ st k r:=by
 unfold QJ at h;split at h
 ·refine⟨_,_,h,lq.pure λN D w a s=>⟨_,?_,ee.2 rfl⟩⟩
  have:=he N D w a s (.inl rfl);simp only[execOp];rw[zdE,this];rfl
 ·refine⟨_,_,h,lq.pure λN D w a s=>⟨_,?_,ee.2 rfl⟩⟩
  have:=he N D w a s (.inr rfl);simp only[execOp];rw[zdE,this];rfl
 ·cases h
theorem sg {t:TypeId}(h:yV P t=true): ∃e,P.underlying t=some (.pointer e):=by
 unfold yV at h;split at h
 ·exact⟨_,‹_›⟩
 ·cases h
theorem rR {t:TypeId}(h:mY P t=true): ∃e,P.underlying t=some (.slice e):=by
 unfold mY at h;split at h
 ·exact⟨_,‹_›⟩
 ·cases h
theorem Lf {s:St}{t:TypeId}{x:AV}{k:Int->Option α}{r:α}(h:Jc P s t x k=some r)(hx:(∃te xs,x= .dp te xs)\/(∃i off,x= .tail i off)\/∃i p off len,x= .slice i p off len):
  ∃n:Int,k n=some r/\∀N D w,jV N D w base s.h->∀c,cq N D w x c->∃a m cap,c= .slice a m cap/\(n≠0->a≠none):=by
 rcases hx with⟨te,xs,rfl⟩|⟨i,off,rfl⟩|⟨i,p,off,len,rfl⟩
 ·simp only[Jc] at h
  split at h
  ·refine⟨_,h,λN D w S c hc=>?_⟩
   obtain⟨a,cap,h1,h2,h3,_⟩:=ux.1 hc;simp only[zdj] at h1;refine⟨a,_,cap,h1,λhn ha=>hn ?_⟩;have:=h3 ha;simp only[aO] at h2;omega
  ·cases h
 ·simp only[Jc] at h
  split at h
  ·rename_i ro t' xs ho
   split at h
   ·refine⟨_,h,λN D w S c hc=>?_⟩
    simp only[cq,AV.isAgg,jw,an] at hc;obtain⟨nm,h1,h2,h3,h4,h5⟩:=hc;obtain⟨mD,e1,e2,e3,e4,e5,e6⟩:=S.obj i _ ho;rw[h1] at e1;cases e1;cases hb:nm.base with
    |none=>
     rw[hb] at h5;obtain⟨h6,h7⟩:=h5;simp only[zdj] at h7;refine⟨none,0,0,h7,λhn=>absurd ?_ hn⟩;simp only[aO] at e4;omega
    |some a=>
     rw[hb] at h5;obtain⟨u,room,h6,h7,a',cap,h8,_⟩:=h5;simp only[zdj] at h6;exact⟨_,_,_,h6.trans h8,λ_=>by simp⟩
   ·cases h
  ·cases h
 ·simp only[Jc] at h
  split at h
  ·refine⟨_,h,λN D w S c hc=>?_⟩
   simp only[cq,AV.isAgg,jw,an] at hc;obtain⟨nm,h1,hc⟩:=hc;cases hb:nm.base with
   |none=>
    rw[hb] at hc;obtain⟨_,_,h6,_,h7⟩:=hc;simp only[zdj] at h7;exact⟨none,0,0,h7,λhn=>absurd (by omega) hn⟩
   |some a=>
    rw[hb] at hc;simp only at hc;split at hc
    ·obtain⟨_,_,u,room,h6,_,_,a',cap,h8,_⟩:=hc
     simp only[zdj] at h6;exact⟨_,_,_,h6.trans h8,λ_=>by simp⟩
    ·obtain⟨_,_,_,u,room,_,_,_,h6,_,a',cap,h8,_⟩:=hc
     simp only[zdj] at h6;exact⟨_,_,_,h6.trans h8,λ_=>by simp⟩
  ·cases h
theorem OQ {op:BinOp}{t:TypeId}{e:TypeId}(hu:P.underlying t=some (.slice e))(uY:op= .eql\/op= .neq)(a:Option Addr)(n c n' c':Nat)(w:World):(Go.binOp op t (.slice a n c) (.slice none n' c')).run P w= .ok (.bool (zK op a.isNone)) w:=by
 exact rQ uY (by simp) (by simp) (by simp) (by simp) (oG (Hz 9999 hu a n c n' c'))
theorem y9 {dst ty pos after guard}{op:BinOp}{t yT:TypeId}{x y:Operand}{st:St}{k:AV->St->Option α}{r:α}{u:AV}{c d:Nat}(h:Jd P st op t u k=some r)(e1:st.ev x=u)(e2:st.ev y= .val (.slice none c d))
  (hu:(∃te xs,u= .dp te xs)\/(∃i off,u= .tail i off)\/∃i p off len,u= .slice i p off len):
  nT P base ⟨dst, .binOp op t x y yT,ty,pos,after,guard⟩ st k r:=by
 unfold Jd at h;split at h
 ·cases h
 rename_i hs;obtain⟨e,hue⟩:=rR hs;obtain⟨n,h,hlen⟩:=Lf (base:=base) h hu;have run: ∀N D w act,kt N D w base st act->(op= .eql\/op= .neq)->∃a m cap,act.eval x= .slice a m cap/\(n≠0->a≠none)/\(do eqGuard op t x y (act.eval x) (act.eval y);Go.binOp op t (act.eval x) (act.eval y):Sem Value).run P w= .ok (.bool (zK op a.isNone)) w:=by
  intro N D w act s uY;obtain⟨a,m,cap,h1,h2⟩:=hlen N D w s.nr _ (s.uj e1);refine⟨a,m,cap,h1,h2,?_⟩;rw[h1,s.sJ e2];simp only[eqGuard_at_slice,zdE,zdG,zdF];exact OQ hue uY a m cap c d w
 split at h
 ·have key: ∀uY:(op= .eql\/op= .neq),k .xb st=some r->nT P base ⟨dst, .binOp op t x y yT,ty,pos,after,guard⟩ st k r:=by
   intro uY h;refine⟨_,_,h,lq.pure λN D w act s=>?_⟩;obtain⟨a,m,cap,_,_,h3⟩:=run N D w act s uY;refine⟨.bool (zK op a.isNone),?_,by unfold cq;simp only[AV.isAgg,jw,an];exact⟨_,rfl⟩⟩
   simp only[execOp];rw[zdE,h3];rfl
  split at h
  ·exact key (.inl rfl) h
  ·exact key (.inr rfl) h
  ·cases h
 ·rename_i hn
  refine pL h λN D w act s uY=>?_;obtain⟨a,m,cap,_,h2,h3⟩:=run N D w act s uY;have ha:a≠none:=h2 λe=>by rw[kN.2 e] at hn;cases hn
  cases a with
  |none=>exact absurd rfl ha
  |some a=>exact h3
theorem HB {N:Names}{D:Nat->Prop}{w:World}{g n c:Nat}{v:Value}(h:cq N D w (.rf g n c) v):(n=0/\v= .pointer none)\/(n≠0/\∃a,v= .pointer (some a)):=by
 unfold cq at h;simp only[AV.isAgg,jw,an,xk] at h;cases n with
 |zero=>simp only[zdj] at h;exact .inl ⟨rfl,h⟩
 |succ k=>
  obtain⟨_,_,_,_,_,h⟩:=h;simp only[zdj] at h;exact .inr ⟨by simp,_,h⟩
theorem Nl {p:Prop}(h: ¬p):af p=false:=by
 cases e:af p with
 |false=>rfl
 |true=>exact absurd (kN.1 e) h
theorem Ri {dst ty pos after guard}{op:BinOp}{t yT:TypeId}{x y:Operand}{st:St}{k:AV->St->Option α}{r:α}(h:Q0 P st op t (st.ev x) (st.ev y) k=some r)
  (zb5: ∀b,Ut P t (st.ev x) (st.ev y)=some b->∀N D w a,kt N D w base st a->(op= .eql\/op= .neq)->(do eqGuard op t x y (a.eval x) (a.eval y);Go.binOp op t (a.eval x) (a.eval y):Sem Value).run P w= .ok (.bool (zK op b)) w):
  nT P base ⟨dst, .binOp op t x y yT,ty,pos,after,guard⟩ st k r:=by
 unfold Q0 at h;split at h
 ·rename_i ka a kb b e1 e2
  exact Re e1 e2 h
 ·rename_i a b e1 e2
  split at h
  ·rename_i hu
   refine pL h λN D w act s uY=>?_;rw[s.sJ e1,s.sJ e2];simp only[eqGuard_at_bool,zdE,zdG,zdF];exact rQ uY (by simp) (by simp) (by simp) (by simp) (oG (Hy 9999 hu a b))
  ·cases h
 ·rename_i a b e1 e2
  refine pL h λN D w act s uY=>?_;rw[s.sJ e1,s.sJ e2];simp only[eqGuard_at_string,zdE,zdG,zdF];rcases uY with rfl|rfl<;>simp[Go.binOp,Op.stringOp,Jb,zK]
 ·rename_i e1 e2
  split at h
  ·rename_i hp
   obtain⟨e,hu⟩:=sg hp;refine pL h λN D w act s uY=>?_;rw[s.sJ e1,s.sJ e2];simp only[eqGuard_at_pointer,zdE,zdG,zdF];exact rQ uY (by simp) (by simp) (by simp) (by simp) (oG (qT 9999 hu none))
  ·cases h
 ·rename_i e1 e2
  split at h
  ·rename_i hp
   obtain⟨e,hu⟩:=rR hp;refine pL h λN D w act s uY=>?_;rw[s.sJ e1,s.sJ e2];simp only[eqGuard_at_slice,zdE,zdG,zdF];exact rQ uY (by simp) (by simp) (by simp) (by simp) (oG (HA 9999 hu _ _ _ _))
  ·cases h
 ·rename_i id p e1 e2
  split at h
  ·rename_i hp
   obtain⟨e,hu⟩:=sg hp;refine pL h λN D w act s uY=>?_;obtain⟨nm,a,o,_,_,_,e3⟩:=jr.1 (s.uj e1);rw[e3,s.sJ e2];simp only[eqGuard_at_pointer,zdE,zdG,zdF];exact rQ uY (by simp) (by simp) (by simp) (by simp) (oG (zL 9999 hu _))
  ·cases h
 ·rename_i id p e1 e2
  split at h
  ·rename_i hp
   obtain⟨e,hu⟩:=sg hp;refine pL h λN D w act s uY=>?_;obtain⟨nm,a,o,_,_,_,e3⟩:=jr.1 (s.uj e2);rw[e3,s.sJ e1];simp only[eqGuard_at_pointer,zdE,zdG,zdF];exact rQ uY (by simp) (by simp) (by simp) (by simp) (oG (qT 9999 hu (some _)))
  ·cases h
 ·rename_i g n c e1 e2
  split at h
  ·rename_i hp
   obtain⟨e,hu⟩:=sg hp;refine pL h λN D w act s uY=>?_;rcases HB (s.uj e1) with⟨hn,e3⟩|⟨hn,ad,e3⟩
   ·rw[e3,s.sJ e2,kN.2 hn]
    simp only[eqGuard_at_pointer,zdE,zdG,zdF];exact rQ uY (by simp) (by simp) (by simp) (by simp) (oG (qT 9999 hu none))
   ·rw[e3,s.sJ e2,Nl hn]
    simp only[eqGuard_at_pointer,zdE,zdG,zdF];exact rQ uY (by simp) (by simp) (by simp) (by simp) (oG (zL 9999 hu _))
  ·cases h
 ·rename_i g n c e1 e2
  split at h
  ·rename_i hp
   obtain⟨e,hu⟩:=sg hp;refine pL h λN D w act s uY=>?_;rcases HB (s.uj e2) with⟨hn,e3⟩|⟨hn,ad,e3⟩
   ·rw[e3,s.sJ e1,kN.2 hn]
    simp only[eqGuard_at_pointer,zdE,zdG,zdF];exact rQ uY (by simp) (by simp) (by simp) (by simp) (oG (qT 9999 hu none))
   ·rw[e3,s.sJ e1,Nl hn]
    simp only[eqGuard_at_pointer,zdE,zdG,zdF];exact rQ uY (by simp) (by simp) (by simp) (by simp) (oG (qT 9999 hu (some _)))
  ·cases h
 ·rename_i te xs c d e1 e2
  exact y9 h e1 e2 (.inl ⟨_,_,rfl⟩)
 ·rename_i i off c d e1 e2
  exact y9 h e1 e2 (.inr (.inl ⟨_,_,rfl⟩))
 ·rename_i i p off len c d e1 e2
  exact y9 h e1 e2 (.inr (.inr ⟨_,_,_,_,rfl⟩))
 ·split at h
  ·rename_i b hb
   exact pL h λN D w act s uY=>zb5 b hb N D w act s uY
  ·cases h
theorem yI {t:TypeId}{f off:Nat}(h:xe P t f=some off): ∃fs fd,P.underlying t=some (.struct fs)/\fs[f]?=some fd/\P.cellsOf fd.type≠0/\fd.offset=off:=by
 unfold xe at h;split at h
 ·rename_i fs hu
  split at h
  ·rename_i fd hf
   split at h
   ·cases h
   ·exact⟨fs,fd,hu,hf,‹_›,Option.some.inj h⟩
  ·cases h
 ·cases h
theorem FB {t:TypeId}(h:P.cellsOf t≠0): ∃i,P.info? t=some i:=by
 unfold Program.cellsOf at h;cases e:P.info? t with
 |none=>simp[e] at h
 |some i=>exact⟨i,rfl⟩
theorem xu {t:TypeId}{f off:Nat}(h:xe P t f=some off){a:Addr}(ha:a.spot=none)(w:World):(Instr.fieldAt t (.pointer (some a)) f).run P w= .ok (.pointer (some (Addr.at_ a off))) w:=by
 obtain⟨fs,fd,hu,hf,hc,ho⟩:=yI h;obtain⟨i,hi⟩:=FB hc;obtain⟨b,o,sp⟩:=a;simp only at ha;subst ha;simp only[Instr.fieldAt,zdE,run_underlying hu,zdF,hf,Instr.sureAddr,zdG,fieldPlace,run_sizeOf w hi,hc,if_false,oy,ho,Addr.at_]
theorem nO {s:St}{id:Nat}{p:List Step}{sh:Sh}(h:s.shape id p=some sh){N:Names}{D:Nat->Prop}{w:World}{base:Nat}(S:jV N D w base s.h){nm:Nm}(hn:N id=some nm):nm.KK p=some sh:=by
 unfold St.shape at h;split at h
 ·rename_i v ho
  obtain⟨mD,a,h1,h2,h3,h4,_⟩:=S.obj id _ ho;rw[hn] at h1;cases h1;unfold Nm.KK;rw[h3,h4];exact h
 ·rename_i ro t xs ho
  obtain⟨mD,h1,h2,h3,_⟩:=S.obj id _ ho;rw[hn] at h1;cases h1;unfold Nm.KK;rw[h2,h3];simp only[if_true];split at h
  ·exact h
  ·cases h
 ·cases h
theorem qU: ∀(p:List Step) (s:Sh) (o:Nat) (l:List Sh) (n:Nat),fH p s=some o->zz p s=some (.agg l)->n<l.length->fH (p++ [.im n]) s=some (o+Sh.dD (l.take n))
 | [],s,o,l,n,h1,h2,h3=>by
  simp only[fH,zz,zdj] at h1 h2;subst h1;subst h2;simp[fH,zdi h3]
 | .im m::p,s,o,l,n,h1,h2,h3=>by
  cases s<;>simp only[fH,zz] at h1 h2<;>try (cases h1;done)
  rename_i l';cases hl:l'[m]? with
  |none=>simp[hl] at h1
  |some y=>
   simp only[hl] at h1 h2;cases h5:fH p y with
   |none=>simp[h5] at h1
   |some o2=>
    simp only[h5,zds,zdj] at h1;have:=qU p y o2 l n h5 h2 h3;simp only[zdS,fH,hl,this,zds];congr 1;omega
 | .idx i::p,s,o,l,n,h1,h2,h3=>by
  cases s<;>simp only[fH,zz] at h1 h2<;>try (cases h1;done)
  rename_i m e;by_cases hi:i<m
  ·simp only[hi,if_true] at h1
   cases h5:fH p e with
   |none=>simp[h5] at h1
   |some o2=>
    simp only[h5,zds,zdj] at h1;have:=qU p e o2 l n h5 h2 h3;simp only[zdS,fH,hi,if_true,this,zds];congr 1;omega
  ·simp only[hi,if_false] at h1;cases h1
theorem qV: ∀(p:List Step) (s:Sh) (o:Nat) (m i:Nat) (e:Sh),fH p s=some o->zz p s=some (.arr m e)->i<m->fH (p++ [.idx i]) s=some (o+i*e.size)
 | [],s,o,m,i,e,h1,h2,h3=>by
  simp only[fH,zz,zdj] at h1 h2;subst h1;subst h2;simp[fH,h3]
 | .im k::p,s,o,m,i,e,h1,h2,h3=>by
  cases s<;>simp only[fH,zz] at h1 h2<;>try (cases h1;done)
  rename_i l';cases hl:l'[k]? with
  |none=>simp[hl] at h1
  |some y=>
   simp only[hl] at h1 h2;cases h5:fH p y with
   |none=>simp[h5] at h1
   |some o2=>
    simp only[h5,zds,zdj] at h1;have:=qV p y o2 m i e h5 h2 h3;simp only[zdS,fH,hl,this,zds];congr 1;omega
 | .idx j::p,s,o,m,i,e,h1,h2,h3=>by
  cases s<;>simp only[fH,zz] at h1 h2<;>try (cases h1;done)
  rename_i m' e';by_cases hi:j<m'
  ·simp only[hi,if_true] at h1
   cases h5:fH p e' with
   |none=>simp[h5] at h1
   |some o2=>
    simp only[h5,zds,zdj] at h1;have:=qV p e' o2 m i e h5 h2 h3;simp only[zdS,fH,hi,if_true,this,zds];congr 1;omega
  ·simp only[hi,if_false] at h1;cases h1
theorem tc {nm:Nm}{p:List Step}{o:Nat}{l:List Sh}{n:Nat}(h1:nm.off p=some o)(h2:nm.KK p=some (.agg l))(h3:n<l.length):
  nm.off (p++ [.im n])=some (o+Sh.dD (l.take n)):=by
 cases hr:nm.row with
 |false=>
  simp only[Nm.KK,hr] at h2;have e: ∀p,nm.off p=fH p nm.sh:=by intro p;unfold Nm.off;split<;>simp[hr]
  rw[e] at h1⊢;exact qU p _ o l n h1 h2 h3
 |true=>
  simp only[Nm.KK,hr,if_true] at h2;split at h2
  ·rename_i i p'
   simp only[Nm.off,hr,if_true,zdS] at h1⊢;by_cases hi:i<nm.len
   ·simp only[hi,if_true] at h1⊢
    cases h5:fH p' nm.sh with
    |none=>simp[h5] at h1
    |some o2=>
     simp only[h5,zds,zdj] at h1;rw[qU p' _ o2 l n h5 h2 h3];simp only[zds];congr 1;omega
   ·simp only[hi,if_false] at h1;cases h1
  ·cases h2
theorem DB {dst ty pos after guard}{t:TypeId}{x:Operand}{f:Nat}{st:St}{k:AV->St->Option α}{r:α}(h:xf P st t (st.ev x) f k=some r):nT P base ⟨dst, .fieldAddr t x f,ty,pos,after,guard⟩ st k r:=by
 unfold xf at h;split at h
 ·rename_i i p off e1 e2
  split at h
  ·refine⟨_,_,h,lq.pure λN D w a s=>?_⟩
   obtain⟨nm,ad,o,h1,h2,h3,h4⟩:=jr.1 (s.uj e1);refine⟨.pointer (some (Addr.at_ (Addr.at_ ad o) off)),by simp only[execOp,h4,zdE,xu (a:=Addr.at_ ad o) e2 rfl,zdF,zdG],?_⟩
   unfold cq;simp only[AV.isAgg,jw,an];exact⟨nm,ad,o,h1,h2,h3,by simp only[Addr.at_,zdy]⟩
  ·split at h
   ·rename_i fs hs
    split at h
    ·rename_i hd
     simp only[zdr] at hd;refine⟨_,_,h,lq.pure λN D w a s=>?_⟩;obtain⟨nm,ad,o,h1,h2,h3,h4⟩:=jr.1 (s.uj e1);have yw:=nO hs s.nr h1;refine⟨.pointer (some (Addr.at_ (Addr.at_ ad o) off)),by simp only[execOp,h4,zdE,xu (a:=Addr.at_ ad o) e2 rfl,zdF,zdG],jr.2 ⟨nm,ad,_,h1,h2,tc h3 yw hd.2,?_⟩⟩
     simp only[Addr.at_,hd.1,zdy]
    ·cases h
   ·cases h
 ·rename_i fs off e1 e2
  split at h
  ·rename_i hd
   simp only[zdr] at hd;split at h
   ·rename_i v hv
    refine⟨_,_,h,lq.pure λN D w a s=>?_⟩;obtain⟨ad,h1,h2,h3,h4⟩:=qv.1 (s.uj e1);refine⟨.pointer (some (Addr.at_ ad off)),by simp only[execOp,h1,zdE,xu e2 h2,zdF,zdG],qv.2 ⟨_,rfl,rfl,h3,?_⟩⟩
    simp only[an] at h4;refine mu (qq fs f v _ hv h4) (λj=>?_);simp only[aV,Addr.at_,hd,zdy]
   ·cases h
  ·cases h
 ·cases h
theorem OR {dst ty pos after guard}{t:TypeId}{x:Operand}{st:St}{k:AV->St->Option α}{r:α}(h:KZ P st t (st.ev x) k=some r):nT P base ⟨dst, .load t x,ty,pos,after,guard⟩ st k r:=by
 unfold KZ at h;split at h
 ·rename_i i p e1
  obtain⟨v,h1,_,h3⟩:=px h;split at h1
  ·rename_i hf
   refine⟨_,_,h1,lq.pure λN D w a s=>?_⟩;obtain⟨nm,ad,o,g1,g2,g3,g4⟩:=jr.1 (s.uj e1);obtain⟨g5,g6,_⟩:=h3 N D w base s.nr nm ad o g1 g2 g3;obtain⟨c,g7,g8⟩:=Dy (P:=P) (ad:=Addr.at_ ad o) rfl hf (mu g6 (λj=>by simp only[aV,Addr.at_,zdy]))
   exact⟨c,by simp only[execOp,g4,zdE,g7,zdF,zdG],g8⟩
  ·cases h1
 ·rename_i v e1
  split at h
  ·rename_i hf
   refine⟨_,_,h,lq.pure λN D w a s=>?_⟩;obtain⟨ad,h1,h2,h3,h4⟩:=qv.1 (s.uj e1);obtain⟨c,g7,g8⟩:=Dy (P:=P) h2 hf h4;exact⟨c,by simp only[execOp,h1,zdE,g7,zdF,zdG],g8⟩
  ·cases h
 ·cases h
end AM
namespace AM
open Go
variable {α:Type}{P:Program}{base:Nat}
theorem jA (b:Nat): ∀(vs:List Value) (o:Nat) (w:World),(w.setCells b o vs).heap.size=w.heap.size
 | [],_,_=>rfl
 |v::r,o,w=>by rw[World.setCells,jA b r];simp[World.setCell]
theorem kx (b:Nat): ∀(vs:List Value) (o:Nat) (w:World) (b':Nat),b'≠b->(w.setCells b o vs).heap[b']?=w.heap[b']?
 | [],_,_,_,_=>rfl
 |v::r,o,w,b',h=>by
  rw[World.setCells,kx b r _ _ b' h];simp only[World.setCell,zdT];rw[if_neg (by simpa using Ne.symm h)]
theorem kT (b:Nat): ∀(vs:List Value) (o:Nat) (w:World),(w.setCells b o vs).os=w.os/\(w.setCells b o vs).tape=w.tape/\(w.setCells b o vs).output=w.output
 | [],_,_=>⟨rfl,rfl,rfl⟩
 |v::r,o,w=>by
  obtain⟨h1,h2,h3⟩:=kT b r (o+1) (w.setCell ⟨b,o,none⟩ v);exact⟨by rw[World.setCells,h1];rfl,by rw[World.setCells,h2];rfl,by rw[World.setCells,h3];rfl⟩
theorem je (b:Nat): ∀(vs:List Value) (o:Nat) (w:World) (c:Array Value) (ty:TypeId) (fz:Nat×Nat),w.heap[b]?=some (.cells c ty fz)->∃c',(w.setCells b o vs).heap[b]?=some (.cells c' ty fz)/\c'.size=c.size
 | [],_,_,c,ty,fz,h=>⟨c,h,rfl⟩
 |v::r,o,w,c,ty,fz,h=>by
  have h1:(w.setCell ⟨b,o,none⟩ v).heap[b]?=some (.cells (c.setIfInBounds o v) ty fz):=by
   simp[World.setCell,zdT,h]
  obtain⟨c',h2,h3⟩:=je b r (o+1) _ _ ty fz h1;exact⟨c',h2,by rw[h3];simp⟩
theorem iX {w:World}{b o:Nat}{c:Array Value}{ty:TypeId}{fz:Nat×Nat}(h:w.heap[b]?=some (.cells c ty fz))(ho:o<c.size):(w.cell? ⟨b,o,none⟩).isSome=true:=by
 simp[World.cell?,h,ho]
theorem vU {w:World}{b o:Nat}{c:Array Value}{ty:TypeId}{fz:Nat×Nat}(h:w.heap[b]?=some (.cells c ty fz))(hz:fz=(0,0)\/c.size<=fz.1)(ho:o<c.size):w.frozen? ⟨b,o,none⟩=false:=by
 obtain⟨lo,hi⟩:=fz;simp only[World.frozen?,h];rcases hz with hz|hz
 ·cases hz;simp
 ·simp only at hz
  have: ¬lo<=o:=by omega
  simp[this]
theorem tK {N:Names}{D:Nat->Prop}{w:World}{u:AV}{c:Value}(hs:u.nq=true)(h:cq N D w u c):c.cells.size=u.size/\an N D w u (c.cells[·]?)/\∀x∈c.cells.toList,x.oneCell'=true:=by
 unfold cq at h;cases Fk:u.isAgg with
 |true=>
  rw[Fk] at h;obtain⟨cs,rfl,h2,h3⟩:=h;refine⟨h2,h3,λx hx=>?_⟩;change x∈cs.toList at hx;obtain⟨j,hj,rfl⟩:=zdU hx;have BR:j<cs.size:=by simpa using hj
  obtain⟨y,h4,h5⟩:=sb u _ hs h3 j (by omega)
  simp only[zdV BR,zdj] at h4;subst h4;simpa using h5
 |false=>
  rw[Fk] at h;have hsz:=qR hs Fk;obtain⟨y,h4,h5⟩:=sb u _ hs h 0 (by omega)
  simp only[zdj] at h4;subst h4;have hc:c.cells= #[c]:=by cases c<;>first|rfl|(simp[Value.oneCell'] at h5;done)
  rw[hc];refine⟨by simp[hsz],jP u _ _ (λj hj=>?_) h,λx hx=>by simp at hx;subst hx;exact h5⟩
  obtain rfl:j=0:=by omega
  simp
theorem Jk {t:TypeId}{u:AV}{ad:Addr}{c:Value}{w:World}{N:Names}{D:Nat->Prop}(ha:ad.spot=none)(hf:rY P t u=true)(hv:cq N D w u c){cs:Array Value}{ty:TypeId}{fz:Nat×Nat}(hb:w.heap[ad.block]?=some (.cells cs ty fz))(hz:fz=(0,0)\/cs.size<=fz.1)(hsz:ad.off+u.size<=cs.size):
  (Instr.storeAt t (.pointer (some ad)) c).run P w= .ok () (w.setCells ad.block ad.off c.cells.toList):=by
 obtain⟨hs,_,h2,d,hd⟩:=rG hf;obtain⟨i,hi⟩:=info_of_underlying hd;obtain⟨h3,_,h5⟩:=tK hs hv;obtain⟨b,o,sp⟩:=ad;simp only at ha;subst ha;simp only[Instr.storeAt,Instr.sureAddr,zdE,zdG,zdF,storeVar,run_sizeOf w hi];rw[if_neg (by rw[h3,h2];simp)]
 have:=run_storeCells_cells (P:=P) b o c.cells.toList 0 w (λj hj=>by
   refine iX hb ?_;simp at hj;simp only at hsz;omega) (λj hj=>vU hb hz (by simp at hj;simp only at hsz;omega)) h5
 simpa using this
theorem xv {s:St}{id:Nat}{p:List Step}{u:AV}{k:St->Option α}{r:α}(h:s.store id p u k=some r)(zai:u.nq=true):
  ∃s',k s'=some r/\s'.t=s.t/\s'.nt=s.nt/\s'.ep=s.ep/\(∀j,j≠id->j∉u.ids->s'.h j=s.h j)/\∀N D w base,jV N D w base s.h->∀nm a o c,N id=some nm->nm.base=some a->nm.off p=some o->cq N D w u c->
   a.spot=none/\(∃cs ty fz,w.heap[a.block]?=some (.cells cs ty fz)/\(fz=(0,0)\/cs.size<=fz.1)/\a.off+o+u.size<=cs.size)/\
   ∃D',jV N D' (w.setCells a.block (a.off+o) c.cells.toList) base s'.h/\Ext N D w s.h N D' (w.setCells a.block (a.off+o) c.cells.toList) s'.h:=by
 unfold St.store at h;split at h
 ·rename_i v ho
  obtain⟨v',h1,h2,h3,h4⟩:=vR p u v _ r h;refine⟨_,h1,rfl,rfl,rfl,λj hj _=>by simp[St.set,hj],λN D w base S nm a o c hn hb nv hc=>?_⟩
  obtain⟨mD,a',e1,e2,e3,e4,e5,e6,e7,e8,⟨cs,ty,e9,ye⟩,Nn⟩:=S.obj id _ ho;rw[hn] at e1;cases e1;rw[hb] at e2;cases e2;have hof:fH p v.sh=some o:=by
   have:nm.off p=fH p nm.sh:=by unfold Nm.off;split<;>simp[e3]
   rw[this,e4] at nv;exact nv
  have yf:=zJ p v.sh o u.sh hof h3;rw[kO,kO] at yf;obtain⟨g1,g2,g3⟩:=tK zai hc;have hlen:c.cells.toList.length=u.size:=by simpa using g1
  refine⟨e5,⟨cs,ty,_,e9, .inl rfl,by omega⟩,D,?_⟩
  obtain⟨tq,f1,f2⟩:=je a.block c.cells.toList (a.off+o) w cs ty _ e9;obtain⟨o1,o2,o3⟩:=kT a.block c.cells.toList (a.off+o) w;have hD: ∀b,D b->(w.setCells a.block (a.off+o) c.cells.toList).heap[b]?=w.heap[b]?:=λb uX=>kx _ _ _ _ _ (λe=>e8 (e▸uX));rw[St.sY];refine S.write ho rfl hn hb o1 o2 o3 (jA _ _ _ _) (λb lR=>kx _ _ _ _ _ lR) ?_;refine⟨nm,a,hn,hb,e3,by rw[e4,h2],e5,e6,e7,e8,⟨tq,ty,f1,by rw[f2,ye,<-kO,<-kO,h2]⟩,?_⟩
  refine qg (Names.le_refl _) (λ_ h=>h) hD v' _ ?_;refine h4 N D w base S (aV w a) _ o Nn hof (λj hj=>?_) ?_
  ·simp only[aV]
   exact World.cell?_setCells_out _ _ _ _ _ (λ_ _=>by simp only;rw[hlen];omega)
  ·refine jP u _ _ (λj hj=>?_) g2
   have BR:j<c.cells.toList.length:=by omega
   have:=World.cell?_setCells_in a.block c.cells.toList (a.off+o) w (λj hj=>iX e9 (by rw[hlen] at hj;omega)) j BR
   simp only[aV];rw[show a.off+(o+j)=a.off+o+j by omega,this]
   simp at BR⊢
 ·rename_i t xs ho
  split at h
  ·rename_i i p'
   split at h
   ·rename_i x hx
    obtain⟨v',h1,h2,h3,h4⟩:=vR p' u (enc t x) _ r h;obtain⟨_,x',ids,h5,h6⟩:=mF t v' _ r h1;split at h5
    ·cases h5
    rename_i WR;split at h5
    ·rename_i s1 hfz
     obtain⟨z1,z2,z3,z4⟩:=vT ids s s1 hfz;simp only[Bool.or_eq_false_iff,Bool.not_eq_eq_eq_not,zdh,zdW,List.contains_iff_mem] at WR;obtain⟨WR,zM⟩:=WR;have yx: ∀(ids:List Nat) (s s1:St),s.freeze ids=some s1->∀j,j∉ids->s1.h j=s.h j:=by
      intro ids;induction ids with
      |nil=>intro s s1 hz j _;simp only[St.freeze,zdj] at hz;subst hz;rfl
      |cons q l ih=>
       intro s s1 hz j hj;simp only[zdX,not_or] at hj;simp only[St.freeze] at hz;split at hz
       ·rw[ih _ s1 hz j hj.2];simp[St.set,hj.1]
       ·cases hz
     refine⟨_,h5,z1,z2,z3,λj hj XT=>by
      have:=yx ids s s1 hfz j (λhm=>XT (zM j hm));simp[St.set,hj,this],λN D w base S nm a o c hn hb nv hc=>?_⟩
     obtain⟨mD,e1,e2,e3,e4,e5,e6⟩:=S.obj id _ ho;rw[hn] at e1;cases e1;rw[hb] at e6;obtain⟨e7,⟨cs,ty,fz,e8,e9,ye⟩,Nn,No⟩:=e6;replace ye:=ye rfl
     simp only[zdk,if_false] at Nn;simp only[Nm.off,e2,if_true] at nv;by_cases hi:i<nm.len
     ·simp only[hi,if_true] at nv
      cases mS:fH p' nm.sh with
      |none=>simp[mS] at nv
      |some o'=>
       simp only[mS,zds,zdj] at nv;rw[e3,iJ] at nv;subst nv;have zb6:fH p' (enc t x).sh=some o':=by rw[rE,<-e3];exact mS
       have yf:=zJ p' (rX t) o' u.sh (by rw[<-e3];exact mS) (by rw[<-rE t x];exact h3)
       rw[kO,iJ] at yf;have FC:(i+1)*t.size<=nm.cap*t.size:=zdw _ (by omega)
       rw[zdx] at FC;obtain⟨g1,g2,g3⟩:=tK zai hc;have hlen:c.cells.toList.length=u.size:=by simpa using g1
       refine⟨e7,⟨cs,ty,fz,e8,ye.imp_right And.left,by omega⟩,?_⟩
       generalize Ux:w.setCells a.block (a.off+(i*t.size+o')) c.cells.toList=w';obtain⟨tq,f1,f2⟩:=je a.block c.cells.toList (a.off+(i*t.size+o')) w cs ty _ e8;obtain⟨o1,o2,o3⟩:=kT a.block c.cells.toList (a.off+(i*t.size+o')) w;have Ua:=jA a.block c.cells.toList (a.off+(i*t.size+o')) w;have one:=kx a.block c.cells.toList (a.off+(i*t.size+o')) w;have js: ∀j,(j<i*t.size+o'\/i*t.size+o'+u.size<=j)->aV w' a j=aV w a j:=by
        intro j hj;simp only[aV,<-Ux];exact World.cell?_setCells_out _ _ _ _ _ (λ_ _=>by simp only;rw[hlen];omega)
       have A0:an N D w u (λj=>aV w' a (i*t.size+o'+j)):=by
        refine jP u _ _ (λj hj=>?_) g2;have BR:j<c.cells.toList.length:=by omega
        have:=World.cell?_setCells_in a.block c.cells.toList (a.off+(i*t.size+o')) w (λj hj=>iX e8 (by rw[hlen] at hj;omega)) j BR
        simp only[aV,<-Ux];rw[show a.off+(i*t.size+o'+j)=a.off+(i*t.size+o')+j by omega,this]
        simp at BR⊢
       rw[Ux] at f1 o1 o2 o3 Ua one;obtain⟨D',d1,d2,d3,d4⟩:=z4 N D w base S;have XU:=h4 N D w base S (λj=>aV w a (i*t.size+j)) (λj=>aV w' a (i*t.size+j)) o' ((kK t x _).2 (No i x hx)) zb6 (λj hj=>js _ (by omega)) (mu A0 (λj=>by rw[zdy]))
       have BP:=h6 N D w base S _ XU D' d1 d2;have ho1:s1.h id=some (.row false t xs):=by
        rw[yx ids s s1 hfz id (by simpa using WR)];exact ho
       have WS:True:=trivial;refine⟨D',?_⟩;have hnd: ¬D' a.block:=(d3.tJ ⟨id,_,ho1,iQ.of rfl hn hb⟩).1;have hDw: ∀b,D' b->w'.heap[b]?=w.heap[b]?:=λb uX=>one b (λe=>hnd (e▸uX));rw[St.sY];have:=d3.write (o':= .row false t (xs.set i x')) ho1 rfl hn hb o1 o2 o3 Ua (λb lR=>one b lR) ?_
       ·exact⟨this.1,d4.trans this.2⟩
       ·refine⟨nm,hn,e2,e3,by rw[e4];simp[aO],e5,?_⟩
        rw[hb];refine⟨e7,⟨tq,ty,_,f1,by rw[f2];exact e9,λ_=>by rw[f2];exact ye⟩,by simp;exact⟨Nn.1,hnd⟩,λi' y hy=>?_⟩
        by_cases T5:i=i'
        ·subst T5
         have kR:i<(show List t.den from xs).length:=(List.getElem?_eq_some_iff.1 hx).1
         simp only[jU,List.getElem?_set_self kR,zdj] at hy;subst hy;exact kv (Names.le_refl _) (λ_ h=>h) hDw _ _ _ BP
        ·simp only[jU,zdR T5] at hy
         refine kv (Names.le_refl _) (λ_ h=>h) hDw _ _ _ (ji t y _ _ (λj hj=>(js _ ?_).symm) (kv (Names.le_refl _) d1 (λ_ _=>rfl) _ _ _ (No i' y hy)));rcases Nat.lt_or_gt_of_ne T5 with kR|kR
         ·right
          have:(i+1)*t.size<=i'*t.size:=zdw _ kR;rw[zdx] at this;omega
         ·left
          have:(i'+1)*t.size<=i*t.size:=zdw _ kR;rw[zdx] at this;omega
     ·simp only[hi,if_false] at nv;cases nv
    ·cases h5
   ·cases h
  ·cases h
 ·cases h
end AM
namespace AM
open Go
variable {α:Type}{P:Program}{base:Nat}
theorem Lg {dst ty pos after guard}{t:TypeId}{x y:Operand}{st:St}{k:AV->St->Option α}{r:α}(h:Hh P st t (st.ev x) (st.ev y) k=some r):nT P base ⟨dst, .store t x y,ty,pos,after,guard⟩ st k r:=by
 unfold Hh at h;split at h
 ·rename_i i p e1
  split at h
  ·rename_i hf
   obtain⟨s',h1,h2,h3,h4,I0,h5⟩:=xv h (rG hf).1;refine⟨_,_,h1,h2,h3,h4,λj hj _=>I0 j (λe=>hj (by simp[Nb,e1,vd,e])) (λe=>hj (by simp[Nb,e])),λN D w a s=>?_⟩
   obtain⟨nm,ad,o,g1,g2,g3,g4⟩:=jr.1 (s.uj e1);have hv:=s.Fy y;obtain⟨g5,⟨cs,Lh,fz,g6,g6z,g7⟩,D',g8,g9⟩:=h5 N D w base s.nr nm ad o _ g1 g2 g3 hv;have e5:=Jk (P:=P) (ad:=Addr.at_ ad o) rfl hf hv g6 g6z (by simpa [Addr.at_] using g7)
   refine⟨N,D',_,Go.undef, .inr ⟨?_,rfl⟩,g9,g8,ee.2 rfl⟩;simp only[execOp,g4];rw[zdE,e5];rfl
  ·cases h
 ·cases h
theorem HC {s:St}{id:Nat}{v:AV}{k:St->Option α}{r:α}(h:s.new id (.var v) k=some r):
  ∃s',k s'=some r/\s'.t=s.t/\s'.nt=s.nt/\s'.ep=s.ep/\(∀j,j≠id->s'.h j=s.h j)/\∀N D w base,jV N D w base s.h->∀(cells:Array Value) (ty:TypeId),cells.size=v.size->an N D w v (cells[·]?)->
   ∃N',jV N' D (w.alloc (.cells cells ty)) base s'.h/\Ext N D w s.h N' D (w.alloc (.cells cells ty)) s'.h/\cq N' D (w.alloc (.cells cells ty)) (.ptr id []) (.pointer (some ⟨w.heap.size,0,none⟩)):=by
 unfold St.new at h;split at h
 ·rename_i gV
  refine⟨_,h,rfl,rfl,rfl,λj hj=>by simp[St.set,hj],λN D w base S cells ty hsz hr=>?_⟩
  have vg:(w.alloc (.cells cells ty)).heap=w.heap.push (.cells cells ty):=rfl;have qS:(w.alloc (.cells cells ty)).heap[w.heap.size]?=some (.cells cells ty (0,0)):=by rw[vg];simp
  have mG: ∀b,b<w.heap.size->(w.alloc (.cells cells ty)).heap[b]?=w.heap[b]?:=λb hb=>by rw[vg,zdY,if_neg (by omega)]
  let nm:Nm:=⟨some ⟨w.heap.size,0,none⟩,v.sh,false,0,0⟩
  have XR:N id=none:=by
   cases e:N id with
   |none=>rfl
   |some mD=>exact absurd gV (S.named id mD e)
  obtain⟨N',n1,n2,n3⟩:=S.make (w':=w.alloc (.cells cells ty)) (o:= .var v) (nm:=nm) gV rfl rfl rfl (by rw[vg];simp) mG (λa ha=>by cases ha;rw[vg];simp) (by
   refine⟨nm,⟨w.heap.size,0,none⟩,Names.BQ,rfl,rfl,rfl,rfl,rfl,S.size,λhd=>Nat.lt_irrefl _ (S.frozen _ hd),⟨cells,ty,qS,hsz⟩,?_⟩;refine qg (Names.Rh XR) (λ_ h=>h) (λb hb=>mG b (S.frozen b hb)) v _ (jP v _ _ (λj hj=>?_) hr)
   ·unfold aV World.cell?
    rw[qS];simp)
  refine⟨N',by rw[St.sY];exact n2,by rw[St.sY];exact n3,jr.2 ⟨nm,_,0,n1,rfl,by simp[Nm.off,nm,fH],rfl⟩⟩
 ·cases h
theorem qW (ep slot:Nat):name ep slot 0/100=ep*1000+slot:=by
 unfold name;omega
theorem Rj {dst ty pos after guard}{t:TypeId}{x:Operand}{st:St}{id:Nat}(pF:id=name st.ep (dst.getD 999) 0){k:AV->St->Option α}{r:α}(h:Q1 st id (st.ev x) k=some r):nT P base ⟨dst, .box t x,ty,pos,after,guard⟩ st k r:=by
 unfold Q1 at h;split at h
 ·rename_i hs
  obtain⟨s',h1,h2,h3,h4,I0,h5⟩:=HC h;refine⟨_,_,h1,h2,h3,h4,λj _ hj=>I0 j (λe=>by subst e;subst pF;simp[qo,makes,qW] at hj),λN D w a s=>?_⟩
  obtain⟨g1,g2,_⟩:=tK hs (s.Fy x);obtain⟨N',n1,n2,n3⟩:=h5 N D w base s.nr _ t g1 g2;exact⟨N',D,_,_, .inl (by simp only[execOp,Instr.box,newVar,newRow,zdE,run_newObj,zdF,zdG];rfl),n2,n1,n3⟩
 ·cases h
theorem Rk: ∀{x y:Value},veq x y=true->x=y:=by
 intro x y h;unfold veq at h;split at h<;>first
  |(simp only[zdl,zdr] at h;rw[h.1,h.2])
  |(simp at h;rw[h])
  |rfl
  |(rename_i a b;have:a.data.toList=b.data.toList:=(by simpa using h);congr 1;cases a;cases b;congr 1;exact Array.toList_inj.1 this)
  |(cases h;done)
theorem Np: ∀{l m:List Value},OJ l m=true->l=m
 | [],[],_=>rfl
 | [],_::_,h=>by simp[OJ] at h
 |_::_,[],h=>by simp[OJ] at h
 |x::xs,y::ys,h=>by
  simp only[OJ,zdl] at h;rw[Rk h.1,Np h.2]
end AM
namespace AM
open Go
variable {α:Type}{P:Program}{base:Nat}
theorem flatMap_replicate {β γ:Type}(f:β->List γ)(x:β)(s:Nat)(hs:(f x).length=s): ∀n i j,i<n->j<s->((List.replicate n x).flatMap f)[i*s+j]?=(f x)[j]?
 |0,i,j,h,_=>by omega
 |n+1,0,j,_,hj=>by
  simp only[zdZ,zd0,zd1,zd2];rw[zd3 (by omega)]
 |n+1,i+1,j,hi,hj=>by
  simp only[zdZ,zd0];rw[zd4 (by rw[hs,zdx];omega)]
  rw[show(i+1)*s+j-(f x).length=i*s+j by rw[hs,zdx];omega]
  exact flatMap_replicate f x s hs n i j (by omega) hj
theorem rv {β γ:Type}(f:β->List γ)(x:β): ∀n,((List.replicate n x).flatMap f).length=n*(f x).length
 |0=>by simp
 |n+1=>by simp[zdZ,zd0,rv f x n,zdx,zd5]
theorem mV: ∀t:Ty,(mR t (iy t)).length=t.size
 | .int _=>rfl| .bool=>rfl| .str=>rfl| .nil=>rfl| .deep _=>rfl| .ref _=>rfl
 | .cons a b=>by simp only[mR,iy,zdm,Ty.size,mV a,mV b]
 | .arr n t=>by
  have:=rv (mR t) (iy t) n;rw[mV t] at this;exact this
theorem rH {N:Names}{D:Nat->Prop}{w:World}: ∀(t:Ty) (g:Nat->Option Value),(∀j,j<t.size->g j=(mR t (iy t))[j]?)->iq N D w t (iy t) g
 | .int k,g,h=>h 0 (by simp[Ty.size])
 | .bool,g,h=>h 0 (by simp[Ty.size])
 | .str,g,h=>h 0 (by simp[Ty.size])
 | .nil,g,h=>trivial
 | .deep t,g,h=>⟨none,0,h 0 (by simp[Ty.size]),zdz _,λ_=>rfl,λad ha=>by cases ha⟩
 | .ref _,g,h=>h 0 (by simp[Ty.size])
 | .cons a b,g,h=>by
  refine⟨rH a g λj hj=>?_,rH b _ λj hj=>?_⟩
  ·rw[h j (by simp only[Ty.size];omega)]
   have e:=zd3 (l₁:=mR a (iy a)) (l₂:=mR b (iy b)) (i:=j) (by rw[mV];exact hj)
   exact e
  ·rw[h _ (by simp only[Ty.size];omega)]
   have:=zd4 (l₁:=mR a (iy a)) (l₂:=mR b (iy b)) (i:=a.size+j) (by rw[mV];omega)
   rw[mV,Nat.add_sub_cancel_left] at this;exact this
 | .arr n t,g,h=>by
  refine⟨zd6,λi x hx=>?_⟩;have hi:i<n:=by
   have:=(List.getElem?_eq_some_iff.1 hx).1;simpa [iy] using this
  have BP:x=iy t:=by
   have h2:(List.replicate n (iy t))[i]?=some x:=hx;rw[zd7,if_pos hi] at h2;exact(Option.some.inj h2).symm
  subst BP;refine rH t _ λj hj=>?_;have hb:(i+1)*t.size<=n*t.size:=zdw _ hi;rw[zdx] at hb;rw[h _ (by simp only[Ty.size];omega)]
  exact flatMap_replicate (mR t) (iy t) t.size (mV t) n i j hi hj
theorem yg (fs:List AV):qM (.agg fs)=rC fs:=by simp[qM]
theorem Z7:True:=trivial
def vh (v:AV):Prop:=(qM v).length=v.size/\∀(N:Names) (D:Nat->Prop) (w:World) (g:Nat->Option Value),(∀j,j<v.size->g j=(qM v)[j]?)->an N D w v g
theorem vh.val (x:Value):vh (.val x):=⟨rfl,λN D w g h=>by simp only[an];exact h 0 (by simp[AV.size])⟩
def rI (l:List AV):Prop:=(rC l).length=AV.dD l/\∀(N:Names) (D:Nat->Prop) (w:World) (g:Nat->Option Value),(∀j,j<AV.dD l->g j=(rC l)[j]?)->ff N D w l g
theorem rI.cons {v:AV}{l:List AV}(h1:vh v)(h2:rI l):rI (v::l):=by
 refine⟨by simp only[rC,zdm,AV.dD,h1.1,h2.1],λN D w g h=>?_⟩
 simp only[ff];refine⟨h1.2 N D w g λj hj=>?_,h2.2 N D w _ λj hj=>?_⟩
 ·rw[h j (by simp only[AV.dD];omega)]
  simp only[rC];exact zd3 (by rw[h1.1];exact hj)
 ·rw[h _ (by simp only[AV.dD];omega)]
  have:=zd4 (l₁:=qM v) (l₂:=rC l) (i:=v.size+j) (by rw[h1.1];omega)
  rw[h1.1,Nat.add_sub_cancel_left] at this;simpa only[rC] using this
theorem BS: ∀(n:Nat) (t:TypeId) (v:AV),zeroOf P n t=some v->vh v
 |0,_,_,h=>by simp[zeroOf] at h
 |n+1,t,v,h=>by
  unfold zeroOf at h;split at h<;>first
   |(simp only[zdj] at h;subst h;exact vh.val _)
   |skip
  ·rename_i fs _
   have key: ∀(l:List Field) (vs:List AV),l.foldr (λf acc=>match zeroOf P n f.type,acc with|some a,some b=>some (a::b)|_,_=>none) (some [])=some vs->rI vs:=by
    intro l;induction l with
    |nil=>intro vs h;simp only[List.foldr_nil,zdj] at h;subst h;exact⟨rfl,λ_ _ _ _ _=>by simp only[ff]⟩
    |cons f l ih=>
     intro vs h;simp only[zd8] at h;split at h
     ·rename_i a b h1 h2
      simp only[zdj] at h;subst h;exact rI.cons (BS n _ _ h1) (ih _ h2)
     ·cases h
   simp only[zd9] at h;obtain⟨vs,h1,rfl⟩:=h;obtain⟨h2,h3⟩:=key _ _ h1;exact⟨by simpa [qM,AV.size] using h2,λN D w g hg=>by simp only[an];exact h3 N D w g (λj hj=>by rw[hg j (by simpa [AV.size] using hj),yg])⟩
  ·rename_i m e _
   split at h
   ·simp only[zdj] at h
    subst h;have key: ∀m,rI (List.replicate m (.val (.slice none 0 0))):=by
     intro m;induction m with
     |zero=>exact⟨rfl,λ_ _ _ _ _=>by simp only[List.replicate,ff]⟩
     |succ m ih=>exact rI.cons (vh.val _) ih
    obtain⟨h2,h3⟩:=key m;exact⟨by simpa [qM,AV.size] using h2,λN D w g hg=>by simp only[an];exact h3 N D w g (λj hj=>by rw[hg j (by simpa [AV.size] using hj),yg])⟩
   simp only[zd9] at h;obtain⟨te,_,rfl⟩:=h;refine⟨?_,λN D w g hg=>?_⟩
   ·have:=mV (.arr m te)
    simpa only[qM,AV.size,Ty.size,mR,iy] using this
   ·simp only[an]
    refine rH (.arr m te) g λj hj=>?_;rw[hg j (by simpa only[AV.size,Ty.size] using hj)]
    simp only[qM,mR,iy]
  ·cases h
theorem rJ {t:TypeId}{k:AV->Option α}{r:α}(h:zeroV P t k=some r): ∃v i z,k v=some r/\P.info? t=some i/\i.zero=some z/\zeroOf P 12 t=some v/\z.cells.toList=qM v/\z.cells.size=v.size/\∀N D w,an N D w v (z.cells[·]?):=by
 unfold zeroV at h;split at h
 ·rename_i z v hz hv
  split at h
  ·rename_i hq
   obtain⟨i,hi,Ub⟩:=Option.bind_eq_some_iff.1 hz;have e:=Np hq;obtain⟨l1,l2⟩:=BS 12 t v hv;refine⟨v,i,z,h,hi,Ub,hv,e,by rw[<-l1,<-e];simp,λN D w=>l2 N D w _ λj hj=>?_⟩
   rw[<-e];simp
  ·cases h
 ·cases h
theorem Li {dst ty pos after guard}{t:TypeId}{st:St}{id:Nat}(pF:id=name st.ep (dst.getD 999) 0){k:AV->St->Option α}{r:α}(h:Hi P st id t k=some r):nT P base ⟨dst, .alloc t,ty,pos,after,guard⟩ st k r:=by
 unfold Hi at h;obtain⟨v,i,z,h,hi,hz,_,_,g1,g2⟩:=rJ h;obtain⟨s',h1,h2,h3,h4,I0,h5⟩:=HC h;refine⟨_,_,h1,h2,h3,h4,λj _ hj=>I0 j (λe=>by subst e;subst pF;simp[qo,makes,qW] at hj),λN D w a s=>?_⟩
 obtain⟨N',n1,n2,n3⟩:=h5 N D w base s.nr _ t g1 (g2 N D w);exact⟨N',D,_,_, .inl (by simp only[execOp,Instr.alloc,newVar,newRow,zeroValue,typeInfo,zdE,run_newObj,zdF,zdG];simp[hi,hz]),n2,n1,n3⟩
theorem OS {dst ty pos after guard}{x:Operand}{st:St}{k:AV->St->Option α}{r:α}(h:k (st.ev x) st=some r):nT P base ⟨dst, .move x,ty,pos,after,guard⟩ st k r:=
 ⟨_,_,h,lq.pure λN D w a s=>⟨a.eval x,by simp only[execOp,zdG],s.Fy x⟩⟩
theorem Jl {dst ty pos after guard}{x:Operand}{st:St}{k:AV->St->Option α}{r:α}(h:k (st.ev x) st=some r):nT P base ⟨dst, .assign x,ty,pos,after,guard⟩ st k r:=
 ⟨_,_,h,lq.pure λN D w a s=>⟨a.eval x,by simp only[execOp,zdG],s.Fy x⟩⟩
theorem FD {dst ty pos after guard}{x:Operand}{st:St}{k:AV->St->Option α}{r:α}(h:(match st.ev x with| .ptr i p=>k (.ptr i p) st| .tF v=>k (.tF v) st| .rf g n c=>(match af (n=0) with|true=>none|false=>k (.rf g n c) st)|_=>none)=some r):nT P base ⟨dst, .nilCheck x,ty,pos,after,guard⟩ st k r:=by
 split at h
 ·rename_i i p e1
  refine⟨_,_,h,lq.pure λN D w a s=>?_⟩;have hv:=s.uj e1;obtain⟨nm,ad,o,h1,h2,h3,h4⟩:=jr.1 hv;exact⟨a.eval x,by simp only[execOp,h4,zdG],hv⟩
 ·rename_i v e1
  refine⟨_,_,h,lq.pure λN D w a s=>?_⟩;have hv:=s.uj e1;obtain⟨ad,h1,_⟩:=qv.1 hv;exact⟨a.eval x,by simp only[execOp,h1,zdG],hv⟩
 ·rename_i g n c e1
  split at h
  ·cases h
  ·rename_i hn
   refine⟨_,_,h,lq.pure λN D w a s=>?_⟩;have hv:=s.uj e1;rcases HB hv with⟨h1,_⟩|⟨_,ad,h1⟩
   ·rw[kN.2 h1] at hn;cases hn
   ·exact⟨a.eval x,by simp only[execOp,h1,zdG],hv⟩
 ·cases h
theorem OT {dst ty pos after guard}{c x y:Operand}{st:St}{k:AV->St->Option α}{r:α}(h:(match st.ev c with| .val (.bool t)=>(match t with|true=>k (st.ev x) st|false=>k (st.ev y) st)|_=>none)=some r):nT P base ⟨dst, .pick c x y,ty,pos,after,guard⟩ st k r:=by
 split at h
 ·rename_i t e1
  cases t with
  |true=>exact⟨_,_,h,lq.pure λN D w a s=>⟨a.eval x,by simp[execOp,s.sJ e1,asBool],s.Fy x⟩⟩
  |false=>exact⟨_,_,h,lq.pure λN D w a s=>⟨a.eval y,by simp[execOp,s.sJ e1,asBool],s.Fy y⟩⟩
 ·cases h
theorem OU {dst ty pos after guard}{op:UnOp}{t:TypeId}{x:Operand}{st:St}{k:AV->St->Option α}{r:α}(h:(match op,st.ev x with
  | .not, .val (.bool b)=>k (.val (.bool (!b))) st
  | .neg, .val (.int ki n)=>k (.val (.int ki (wr ki (0-n)))) st
  | .xor, .val (.int ki n)=>k (.val (.int ki (pt ki (QW ki) n))) st
  |_,_=>none)=some r):nT P base ⟨dst, .unOp op t x,ty,pos,after,guard⟩ st k r:=by
 split at h
 ·rename_i b e1
  exact⟨_,_,h,lq.pure λN D w a s=>⟨_,by simp[execOp,s.sJ e1,Op.unary];first|rfl|done,ee.2 rfl⟩⟩
 ·rename_i ki n e1
  exact⟨_,_,h,lq.pure λN D w a s=>⟨_,by simp[execOp,s.sJ e1,Op.unary,Op.intArith];first|rfl|done,ee.2 (by simp[pE])⟩⟩
 ·rename_i ki n e1
  exact⟨_,_,h,lq.pure λN D w a s=>⟨_,by simp[execOp,s.sJ e1,Op.unary,Op.intBits];first|rfl|done,ee.2 (by simp[pt,QW,pE])⟩⟩
 ·cases h
theorem HD {dst ty pos after guard}{x:Operand}{i:Nat}{st:St}{k:AV->St->Option α}{r:α}(h:(match st.ev x with| .AN vs=>(match vs[i]? with|some v=>k v st|none=>none)|_=>none)=some r):nT P base ⟨dst, .extract x i,ty,pos,after,guard⟩ st k r:=by
 split at h
 ·rename_i vs e1
  split at h
  ·rename_i v hv
   refine⟨_,_,h,lq.pure λN D w a s=>?_⟩;obtain⟨cs,h1,h2⟩:=lJ.1 (s.uj e1);obtain⟨c,h3,h4⟩:=sa vs _ i v h2 hv;refine⟨c,?_,h4⟩;have h5:cs[i]?=some c:=by simpa using h3
   simp[execOp,h1,Instr.extract,h5]
  ·cases h
 ·cases h
theorem uz {N:Names}{D:Nat->Prop}{w:World}{st:St}{a:Act}(s:kt N D w base st a): ∀l:List Operand,bA N D w (l.map st.ev) (l.map a.eval)
 | []=>by simp[bA]
 |x::xs=>by
  simp only[zea,bA];exact⟨_,_,rfl,s.Fy x,uz s xs⟩
theorem FE {dst ty pos after guard}{fn:Fn}{first captured:Array Operand}{st:St}{k:AV->St->Option α}{r:α}(h:(match first.size,captured.size with|0,_=>k (.wN fn (captured.toList.map st.ev)) st|_,0=>k (.Cz fn (first.toList.map st.ev)) st|_,_=>none)=some r):nT P base ⟨dst, .makeFunc fn first captured,ty,pos,after,guard⟩ st k r:=by
 split at h
 ·rename_i h0
  refine⟨_,_,h,lq.pure λN D w a s=>⟨.func fn #[] (captured.map a.eval),?_,?_⟩⟩
  ·have:first= #[]:=zeb h0
   subst this;simp[execOp,Instr.makeFunc]
  ·unfold cq
   simp only[AV.isAgg,jw,an];refine⟨_,rfl,?_⟩;have:=uz s captured.toList;simpa using this
 ·rename_i h0 _
  refine⟨_,_,h,lq.pure λN D w a s=>⟨.func fn (first.map a.eval) #[],?_,?_⟩⟩
  ·have:captured= #[]:=zeb h0
   subst this;simp[execOp,Instr.makeFunc]
  ·unfold cq
   simp only[AV.isAgg,jw,an];refine⟨_,rfl,?_⟩;have:=uz s first.toList;simpa using this
 ·cases h
end AM
namespace AM
open Go
variable {α:Type}{P:Program}{base:Nat}
theorem tL {N:Names}{D:Nat->Prop}{w:World}{t:TypeId}{v:AV}{cs:Array Value}{off:Nat}(hf:rY P t v=true)(hr:an N D w v (λj=>cs[off+j]?)): ∃c,(part t cs off).run P w= .ok c w/\cq N D w v c:=by
 obtain⟨hs,h1,h2,d,hd⟩:=rG hf;obtain⟨i,hi⟩:=info_of_underlying hd;have Hv:(isAgg t).run P w= .ok (qN P t) w:=by
  simp only[isAgg,zdE,run_underlying hd,zdF,qN,hd];cases d<;>rfl
 have hc:=sb v _ hs hr;cases Fk:v.isAgg with
 |true=>
  refine⟨.agg (cs.extract off (off+v.size)),?_,?_⟩
  ·simp only[part,zdE,Hv,zdF,<-h1,Fk,if_true,run_sizeOf w hi,zdG,h2]
  ·unfold cq;rw[Fk]
   have hle:v.size=0\/off+v.size<=cs.size:=by
    by_cases e:v.size=0
    ·exact .inl e
    ·obtain⟨c,h3,_⟩:=hc (v.size-1) (by omega)
     have:=(Array.getElem?_eq_some_iff.1 h3).1;right;omega
   refine⟨_,rfl,by simp;omega,jP v _ _ (λj hj=>?_) hr⟩
   simp[Array.getElem?_extract];intro hh;omega
 |false=>
  obtain⟨c,h3,_⟩:=hc 0 (by rw[qR hs Fk];omega)
  simp only[zec] at h3;refine⟨c,by simp[part,Hv,<-h1,Fk,h3],?_⟩
  unfold cq;rw[Fk];refine jP v _ _ (λj hj=>?_) hr;rw[qR hs Fk] at hj;obtain rfl:j=0:=by omega
  exact h3
theorem Lj {t:TypeId}{f:Nat}{v:AV}(h:QY P t f v=true): ∃fs fd,P.underlying t=some (.struct fs)/\fs[f]?=some fd/\rY P fd.type v=true:=by
 unfold QY at h;split at h
 ·rename_i fs hu
  split at h
  ·rename_i fd hf
   exact⟨fs,fd,hu,hf,h⟩
  ·cases h
 ·cases h
theorem Ll {dst ty pos after guard}{t:TypeId}{x:Operand}{f:Nat}{st:St}{k:AV->St->Option α}{r:α}(h:Hg P st t (st.ev x) f k=some r):nT P base ⟨dst, .field t x f,ty,pos,after,guard⟩ st k r:=by
 unfold Hg at h;split at h
 ·rename_i fs off e1 e2
  split at h
  ·rename_i hd
   simp only[zdr] at hd;split at h
   ·rename_i v hv
    split at h
    ·rename_i lf
     refine⟨_,_,h,lq.pure λN D w a s=>?_⟩;obtain⟨cells,h1,h2,h3⟩:=xn.1 (s.uj e1);obtain⟨fs',fd,hu,hf,hft⟩:=Lj lf;obtain⟨fs2,fd2,hu2,xy,_,ho⟩:=yI e2;rw[hu] at hu2;cases hu2;rw[hf] at xy;cases xy;have:=qq fs f v _ hv h3;rw[hd] at this;subst ho;obtain⟨c,h4,h5⟩:=tL (P:=P) hft this;refine⟨c,?_,h5⟩;simp only[execOp,h1,Instr.field,zdE,run_underlying hu,zdF,hf,asAgg,zdG,h4]
    ·cases h
   ·cases h
  ·cases h
 ·cases h
theorem qw {x:AV}{k:Int->Option α}{r:α}(h:nat? x k=some r): ∃ki n,x= .val (.int ki n)/\k n=some r:=by
 unfold nat? at h;split at h
 ·exact⟨_,_,rfl,h⟩
 ·cases h
theorem nP {t:TypeId}{n:Nat}(h:uI P t n=true): ∃e i,P.underlying t=some (.slice e)/\P.info? e=some i/\P.cellsOf e=n:=by
 unfold uI at h;split at h
 ·rename_i e hu
  simp only[zdl,zdr] at h;obtain⟨i,hi⟩:=Option.isSome_iff_exists.1 h.1;exact⟨e,i,hu,hi,h.2⟩
 ·cases h
theorem sj {t:TypeId}{m n:Nat}(h:yU P t m n=true): ∃e i,P.underlying t=some (.array m e)/\P.info? e=some i/\P.cellsOf e=n:=by
 unfold yU at h;split at h
 ·rename_i m' e hu
  simp only[zdl,zdr] at h;obtain⟨i,hi⟩:=Option.isSome_iff_exists.1 h.1.1;exact⟨e,i,by rw[hu,h.1.2],hi,h.2⟩
 ·cases h
theorem tM {t e:TypeId}{i:TypeInfo}(hu:P.underlying t=some (.slice e))(hi:P.info? e=some i){k:IntKind}{n:Int}{a:Addr}{len cap:Nat}(h0:0<=n)(h1:n<len)(w:World):
  (Instr.indexAt t (.slice (some a) len cap) (.int k n)).run P w= .ok (.pointer (some (a.add (n.toNat*P.cellsOf e)))) w:=by
 simp[Instr.indexAt,asIntOf,run_underlying hu,h0,h1,run_sizeOf w hi]
theorem za {t e:TypeId}{m:Nat}{i:TypeInfo}(hu:P.underlying t=some (.array m e))(hi:P.info? e=some i){k:IntKind}{n:Int}{a:Addr}(h0:0<=n)(h1:n<m)(w:World):
  (Instr.indexAt t (.pointer (some a)) (.int k n)).run P w= .ok (.pointer (some (a.add (n.toNat*P.cellsOf e)))) w:=by
 simp[Instr.indexAt,asIntOf,run_underlying hu,h0,h1,run_sizeOf w hi,Instr.sureAddr]
theorem zN {nm:Nm}{p:List Step}{o m i:Nat}{e:Sh}(h1:nm.off p=some o)(h2:nm.KK p=some (.arr m e))(h3:i<m):
  nm.off (p++ [.idx i])=some (o+i*e.size):=by
 cases hr:nm.row with
 |false=>
  simp only[Nm.KK,hr] at h2;have e': ∀p,nm.off p=fH p nm.sh:=by intro p;unfold Nm.off;split<;>simp[hr]
  rw[e'] at h1⊢;exact qV p _ o m i e h1 h2 h3
 |true=>
  simp only[Nm.KK,hr,if_true] at h2;split at h2
  ·rename_i j p'
   simp only[Nm.off,hr,if_true,zdS] at h1⊢;by_cases hi:j<nm.len
   ·simp only[hi,if_true] at h1⊢
    cases h5:fH p' nm.sh with
    |none=>simp[h5] at h1
    |some o2=>
     simp only[h5,zds,zdj] at h1;rw[qV p' _ o2 m i e h5 h2 h3];simp only[zds];congr 1;omega
   ·simp only[hi,if_false] at h1;cases h1
  ·cases h2
theorem xz (b:Addr)(n m:Nat):(Addr.at_ b n).add m=Addr.at_ b (n+m):=by
 simp only[Addr.at_,oy,zdy]
theorem DC {ad:Addr}{len room:Nat}{v:Value}(h:Ht ad len room v)(hl:0<len):v= .slice (some ad) len room:=by
 obtain⟨a,cap,rfl,h2,h3,h4⟩:=h;rcases h4 with h4|h4
 ·rw[h4,h3]
 ·omega
end AM
namespace AM
open Go
variable {α:Type}{P:Program}{base:Nat}
theorem jk {p:Prop}{z:Option α}{r:α}(h:(match af p with|true=>z|false=>none)=some r):p/\z=some r:=by
 split at h
 ·exact⟨kN.1 ‹_›,h⟩
 ·cases h
theorem jl {b:Bool}{z:Option α}{r:α}(h:(match b with|false=>none|true=>z)=some r):b=true/\z=some r:=by
 cases b with
 |true=>exact⟨rfl,h⟩
 |false=>cases h
theorem vV {i:Int}{k:Nat->Option α}{r:α}: ∀{f j:Nat},Dl i k f j=some r->∃m,j<=m/\m<j+f/\i=m/\k m=some r
 |0,j,h=>by simp[Dl] at h
 |f+1,j,h=>by
  unfold Dl at h;split at h
  ·exact⟨j,zdz _,by omega,kN.1 ‹_›,h⟩
  ·obtain⟨m,h1,h2,h3⟩:=vV h
   exact⟨m,by omega,by omega,h3⟩
theorem A1 {n:Nat}: ∀{l:List Sh},Dm l n=true->∀{j:Nat},j<=l.length->Sh.dD (l.take j)=j*n
 | [],_,j,hj=>by simp at hj;subst hj;simp[Sh.dD]
 |e::l,h,0,_=>by simp[Sh.dD]
 |e::l,h,j+1,hj=>by
  have h':e.size=n/\Dm l n=true:=by simpa [Dm] using h
  have ih:=A1 h'.2 (j:=j) (by simpa using hj)
  simp only[List.take_succ_cons,Sh.dD,ih,h'.1,zdx];omega
theorem BT {s:St}{id:Nat}{p:List Step}{n:Nat}(h:He s id p=some n){N:Names}{D:Nat->Prop}{w:World}{base:Nat}(S:jV N D w base s.h){nm:Nm}(hn:N id=some nm):
  ((nm.row&&p.isEmpty)=true/\nm.sh.size=n)\/(¬(nm.row&&p.isEmpty)=true/\∃m e,nm.KK p=some (.arr m e)/\e.size=n):=by
 unfold He at h;split at h
 ·rename_i ro te xs ho
  obtain⟨mD,h1,h2,h3,_⟩:=S.obj id _ ho;rw[hn] at h1;cases h1;left
  refine⟨by simp[h2],?_⟩
  rw[h3,iJ];exact Option.some.inj h
 ·rename_i hp
  split at h
  ·rename_i m e hs
   right
   refine⟨?_,m,e,nO hs S hn,Option.some.inj h⟩;cases mE:nm.row with
   |false=>simp
   |true=>
    have yw:=nO hs S hn;intro hp2;simp only[Bool.true_and,zdO] at hp2;rw[hp2] at yw;simp[Nm.KK,mE] at yw
  ·cases h
theorem DD {dst ty pos after guard}{t:TypeId}{x ix:Operand}{st:St}{k:AV->St->Option α}{r:α}(h:xh P st t (st.ev x) (st.ev ix) k=some r):nT P base ⟨dst, .indexAddr t x ix,ty,pos,after,guard⟩ st k r:=by
 unfold xh at h;obtain⟨ki,n,ei,h⟩:=qw h;split at h
 ·rename_i te xs e1
  replace h:=jl h;obtain⟨wE,h⟩:=h
  replace h:=jk h;obtain⟨h0,h⟩:=h
  split at h
  ·rename_i y hy
   obtain⟨e,i,hu,hi,hsz⟩:=nP wE;refine⟨_,_,h,lq.pure λN D w a s=>?_⟩;obtain⟨ba,cap,g1,g2,g3,g4⟩:=ux.1 (s.uj e1);simp only[zdj] at g1;have kR:n.toNat<aO (β:=te.den) xs:=(List.getElem?_eq_some_iff.1 hy).1;cases ba with
   |none=>have:=g3 rfl;omega
   |some ba=>
    obtain⟨f1,f2,f3⟩:=g4 ba rfl (by omega)
    obtain⟨b,o,sp⟩:=ba;simp only at f1;subst f1;refine⟨.pointer (some ⟨b,o+n.toNat*te.size,none⟩),?_,qv.2 ⟨_,rfl,rfl,f2,?_⟩⟩
    ·simp only[execOp,s.sJ ei,g1,zdE,tM hu hi h0 (show n<(aO (β:=te.den) xs:Int) by omega),zdF,zdG,oy,hsz]
    ·rw[kK]
     have e2:(λj=>aV w ⟨b,o,none⟩ (n.toNat*te.size+j))=aV w ⟨b,o+n.toNat*te.size,none⟩:=by
      funext j;simp only[aV,zdy]
     rw[<-e2];exact f3 n.toNat y hy
  ·cases h
 ·rename_i id off e1
  split at h
  ·rename_i ro te xs ho
   replace h:=jl h;obtain⟨wE,h⟩:=h
   replace h:=jk h;obtain⟨h0,h⟩:=h
   obtain⟨e,i,hu,hi,hsz⟩:=nP wE;refine⟨_,_,h,lq.pure λN D w a s=>?_⟩;have hv:=s.uj e1;unfold cq at hv;simp only[AV.isAgg,jw,an] at hv;obtain⟨nm,g1,g2,g3,g4,g5⟩:=hv;obtain⟨mD,h1,h2,h3,h4,_⟩:=s.nr.obj id _ ho;rw[g1] at h1;cases h1;cases hb:nm.base with
   |none=>rw[hb] at g5;obtain⟨g5,_⟩:=g5;exfalso;have:=h0.2;simp only[aO] at h4;omega
   |some ba=>
    rw[hb] at g5;obtain⟨v,room,g6,g7,g8⟩:=g5;simp only[zdj] at g6;have kR:n<((nm.len-off:Nat):Int):=by rw[h4];exact h0.2
    have e3:=DC g8 (by omega)
    rw[e3] at g6;refine⟨.pointer (some (Addr.at_ ba (off*nm.sh.size+n.toNat*te.size))),?_,jr.2 ⟨nm,ba,_,g1,hb,?_,rfl⟩⟩
    ·simp only[execOp,s.sJ ei,g6,zdE,tM hu hi h0.1 kR,zdF,zdG,xz,hsz]
    ·simp only[Nm.off,g2,if_true]
     rw[if_pos (by omega),h3,iJ]
     simp only[fH,zds,zdj,zec];rw[<-zdx,zd5]
  ·cases h
 ·rename_i id p off len e1
  split at h
  ·rename_i m XV
   replace h:=jl h;obtain⟨wE,h⟩:=h
   replace h:=jk h;obtain⟨h0,h⟩:=h
   obtain⟨e,i,hu,hi,hsz⟩:=nP wE;refine⟨_,_,h,lq.pure λN D w a s=>?_⟩;have hv:=s.uj e1;unfold cq at hv;simp only[AV.isAgg,jw,an] at hv;obtain⟨nm,g1,g3⟩:=hv;cases g2:nm.base with
   |none=>rw[g2] at g3;obtain⟨_,_,rfl,_⟩:=g3;omega
   |some ba=>
   rw[g2] at g3;simp only at g3;rcases BT XV s.nr g1 with⟨hp,HE⟩|⟨hp,m',e',HE,XW⟩
   ·rw[if_pos hp] at g3
    simp only[zdl,zdO] at hp;obtain⟨mE,rfl⟩:=hp;obtain⟨g4,g5,v,room,g6,g7,g8,g9⟩:=g3;simp only[zdj] at g6;have e3:=DC g9 (by omega)
    rw[e3] at g6;refine⟨.pointer (some (Addr.at_ ba (off*nm.sh.size+n.toNat*nm.sh.size))),?_,jr.2 ⟨nm,ba,_,g1,g2,?_,rfl⟩⟩
    ·simp only[execOp,s.sJ ei,g6,zdE,tM hu hi h0.1 h0.2,zdF,zdG,xz,hsz,HE]
    ·simp only[Nm.off,mE,if_true,zed]
     rw[if_pos (by omega)]
     simp only[fH,zds,zdj,zec];rw[<-zdx,zd5]
   ·rw[if_neg hp] at g3
    obtain⟨o,m2,e2,v,room,g4,Jm,g7,g8,g9,XX⟩:=g3;simp only[zdj] at g8;have e3:=DC XX (by omega)
    rw[e3] at g8;rw[Jm] at HE;cases HE;refine⟨.pointer (some (Addr.at_ ba (o+off*e'.size+n.toNat*e'.size))),?_,jr.2 ⟨nm,ba,_,g1,g2,zN g4 Jm (show n.toNat+off<m' by omega),?_⟩⟩
    ·simp only[execOp,s.sJ ei,g8,zdE,tM hu hi h0.1 h0.2,zdF,zdG,xz,hsz,XW]
    ·rw[zdx,zdy,zd5 (n.toNat*e'.size)]
  ·cases h
 ·rename_i id p e1
  split at h
  ·rename_i m e' hs
   replace h:=jl h;obtain⟨wE,h⟩:=h
   replace h:=jk h;obtain⟨h0,h⟩:=h
   obtain⟨e,i,hu,hi,hsz⟩:=sj wE;refine⟨_,_,h,lq.pure λN D w a s=>?_⟩;obtain⟨nm,ad,o,h1,h2,h3,h4⟩:=jr.1 (s.uj e1);refine⟨.pointer (some (Addr.at_ ad (o+n.toNat*e'.size))),?_,jr.2 ⟨nm,ad,_,h1,h2,zN h3 (nO hs s.nr h1) (show n.toNat<m by omega),rfl⟩⟩
   simp only[execOp,s.sJ ei,h4,zdE,za hu hi h0.1 h0.2,zdF,zdG,xz,hsz]
  ·rename_i l hs
   replace h:=jl h;obtain⟨wE,h⟩:=h
   rw[zdl] at wE;obtain⟨m,_,kR,hm,h⟩:=vV h;rw[zd2] at kR;obtain⟨e,i,hu,hi,hsz⟩:=sj wE.1;refine⟨_,_,h,lq.pure λN D w a s=>?_⟩;obtain⟨nm,ad,o,h1,h2,h3,h4⟩:=jr.1 (s.uj e1);refine⟨.pointer (some (Addr.at_ ad (o+n.toNat*AP l))),?_,jr.2 ⟨nm,ad,_,h1,h2,tc h3 (nO hs s.nr h1) kR,?_⟩⟩
   ·simp only[execOp,s.sJ ei,h4,zdE,za hu hi (show 0<=n by omega) (show n<l.length by omega),zdF,zdG,xz,hsz]
   ·rw[A1 wE.2 (Nat.le_of_lt kR),hm];rfl
  ·cases h
 ·rename_i id m0 e1
  split at h
  ·rename_i l hs
   replace h:=jl h;obtain⟨wE,h⟩:=h
   simp only[zdl,zdr] at wE;obtain⟨m,_,kR,hm,h⟩:=vV h;rw[zd2] at kR;obtain⟨e,i,hu,hi,hsz⟩:=nP wE.1.1;refine⟨_,_,h,lq.pure λN D w a s=>?_⟩;have hv:=s.uj e1;unfold cq at hv;simp only[AV.isAgg,jw,an] at hv;obtain⟨nm,ad,h1,h2,h3,h4⟩:=hv;simp only[zdj] at h4;have nv:nm.off []=some 0:=by simp[Nm.off,h3,fH]
   have yw:=nO hs s.nr h1;have Nq:ad.spot=none:=by
    have: ∃v,st.h id=some (.var v):=by
     unfold St.shape at hs;split at hs
     ·exact⟨_,‹_›⟩
     ·cases hs
     ·cases hs
    obtain⟨v,hv⟩:=this;obtain⟨mD,a',q1,q2,_,_,q5,_⟩:=s.nr.obj id _ hv;rw[h1] at q1;cases q1;rw[h2] at q2;cases q2;exact q5
   obtain⟨bb,oo,sp⟩:=ad;simp only at Nq;subst Nq;refine⟨.pointer (some ⟨bb,oo+n.toNat*AP l,none⟩),?_,jr.2 ⟨nm,_,_,h1,h2,tc (p:=[]) nv yw kR,?_⟩⟩
   ·simp only[execOp,s.sJ ei,h4,zdE,tM hu hi (show 0<=n by omega) (show n<m0 by omega),zdF,zdG,oy,hsz]
   ·rw[A1 wE.1.2 (Nat.le_of_lt kR),hm];simp[Addr.at_]
  ·cases h
 ·rename_i m te xs e1
  replace h:=jl h;obtain⟨wE,h⟩:=h
  replace h:=jk h;obtain⟨h0,h⟩:=h
  split at h
  ·rename_i y hy
   obtain⟨e,i,hu,hi,hsz⟩:=sj wE;refine⟨_,_,h,lq.pure λN D w a s=>?_⟩;obtain⟨ad,h1,h2,h3,h4⟩:=qv.1 (s.uj e1);obtain⟨b,o,sp⟩:=ad;simp only at h2;subst h2;simp only[an] at h4;refine⟨.pointer (some ⟨b,o+n.toNat*te.size,none⟩),?_,qv.2 ⟨_,rfl,rfl,h3,?_⟩⟩
   ·simp only[execOp,s.sJ ei,h1,zdE,za hu hi h0.1 h0.2,zdF,zdG,oy,hsz]
   ·rw[kK]
    have e2:(λj=>aV w ⟨b,o,none⟩ (n.toNat*te.size+j))=aV w ⟨b,o+n.toNat*te.size,none⟩:=by
     funext j;simp only[aV,zdy]
    rw[<-e2];exact h4.2 n.toNat y hy
  ·cases h
 ·cases h
theorem Rl {dst ty pos after guard}{x:Operand}{args:Array Operand}{tys:Array TypeId}{t:TypeId}{A2:List TypeId}{st:St}{k:AV->St->Option α}{r:α}(ha:args.toList=[x])(ht:tys.toList=t::A2)
  (h:Jc P st t (st.ev x) (λn=>k (.val (.int .i64 n)) st)=some r):nT P base ⟨dst, .call ⟨.builtin .len,args,tys⟩,ty,pos,after,guard⟩ st k r:=by
 have nu:args= #[x]:=by cases args;simp at ha;subst ha;rfl
 have zO:tys[0]?=some t:=by cases tys;simp at ht;subst ht;simp
 subst nu;have slk: ∀(n:Nat),mY P t=true->k (.val (.int .i64 n)) st=some r->(∀N D w a,kt N D w base st a->∃b c,a.eval x= .slice b n c)->nT P base ⟨dst, .call ⟨.builtin .len,#[x],tys⟩,ty,pos,after,guard⟩ st k r:=by
  intro n hs hk XU;obtain⟨e,hu⟩:=rR hs;refine⟨_,_,hk,lq.pure λN D w a s=>⟨.int .i64 n,?_,ee.2 rfl⟩⟩;obtain⟨b,c,e2⟩:=XU N D w a s;simp[execOp,resolve,invoke,builtin,Builtin.len_,zO,e2,run_underlying hu,goInt]
 unfold Jc at h;split at h
 ·rename_i te xs e1
  split at h
  ·rename_i hs
   refine slk _ hs h λN D w a s=>?_;obtain⟨ba,cap,g1,_⟩:=ux.1 (s.uj e1);simp only[zdj] at g1;exact⟨_,_,g1⟩
  ·cases h
 ·rename_i e1
  split at h
  ·rename_i hs
   exact slk 0 hs h λN D w a s=>⟨_,_,s.sJ e1⟩
  ·cases h
 ·rename_i b e1
  split at h
  ·rename_i hu
   refine⟨_,_,h,lq.pure λN D w a s=>⟨_,?_,ee.2 rfl⟩⟩;simp[execOp,resolve,invoke,builtin,Builtin.len_,zO,s.sJ e1,run_underlying hu,goInt]
  ·cases h
 ·rename_i id off e1
  split at h
  ·rename_i ro te xs ho
   split at h
   ·rename_i hs
    refine slk _ hs h λN D w a s=>?_;have hv:=s.uj e1;unfold cq at hv;simp only[AV.isAgg,jw,an] at hv;obtain⟨nm,g1,g2,g3,g4,g5⟩:=hv;obtain⟨mD,h1,h2,h3,h4,_⟩:=s.nr.obj id _ ho;rw[g1] at h1;cases h1;cases hb:nm.base with
    |none=>
     rw[hb] at g5;obtain⟨g5,g6⟩:=g5;simp only[zdj] at g6;have e0:aO (β:=te.den) xs-off=0:=by rw[<-h4];omega
     have e2:a.eval x= .slice none (aO (β:=te.den) xs-off) 0:=by rw[e0];exact g6
     exact⟨_,_,e2⟩
    |some ba=>
     rw[hb] at g5;obtain⟨v,room,g6,g7,a',cap,rfl,_⟩:=g5;simp only[zdj] at g6;rw[h4] at g6;exact⟨_,_,g6⟩
   ·cases h
  ·cases h
 ·rename_i id p off len e1
  split at h
  ·rename_i hs
   refine slk _ hs h λN D w a s=>?_;have hv:=s.uj e1;unfold cq at hv;simp only[AV.isAgg,jw,an] at hv;obtain⟨nm,g1,g3⟩:=hv;cases g2:nm.base with
   |none=>rw[g2] at g3;obtain⟨_,_,rfl,_,g3⟩:=g3;simp only[zdj] at g3;exact⟨_,_,g3⟩
   |some ba=>
   rw[g2] at g3;simp only at g3;split at g3
   ·obtain⟨_,_,v,room,g6,_,_,a',cap,rfl,_⟩:=g3
    simp only[zdj] at g6;exact⟨_,_,g6⟩
   ·obtain⟨_,_,_,v,room,_,_,_,g6,_,a',cap,rfl,_⟩:=g3
    simp only[zdj] at g6;exact⟨_,_,g6⟩
  ·cases h
 ·rename_i id n e1
  split at h
  ·rename_i hs
   refine slk _ hs h λN D w a s=>?_;have hv:=s.uj e1;unfold cq at hv;simp only[AV.isAgg,jw,an] at hv;obtain⟨nm,ad,_,_,_,h4⟩:=hv;simp only[zdj] at h4;exact⟨_,_,h4⟩
  ·cases h
 ·rename_i n te xs e1
  split at h
  ·rename_i m e hu
   split at h
   ·rename_i hmn
    subst hmn;refine⟨_,_,h,lq.pure λN D w a s=>⟨.int .i64 m,?_,ee.2 rfl⟩⟩;obtain⟨cells,h1,_⟩:=ve.1 (s.uj e1);simp[execOp,resolve,invoke,builtin,Builtin.len_,zO,h1,run_underlying hu,goInt]
   ·cases h
  ·cases h
 ·cases h
end AM
namespace AM
open Go
variable {α:Type}{P:Program}{base:Nat}
theorem A3: ∀(t:Ty) (x:t.den),(enc t x).nq=true
 | .int _,_=>by simp[enc,AV.nq,Value.oneCell']
 | .bool,_=>by simp[enc,AV.nq,Value.oneCell']
 | .str,_=>by simp[enc,AV.nq,Value.oneCell']
 | .nil,_=>by simp[enc,AV.nq,AV.AO]
 | .deep _,_=>by simp[enc,AV.nq]
 | .ref _,_=>by simp[enc,AV.nq]
 | .arr n t,_=>by simp[enc,AV.nq]
 | .cons a b,p=>by
  have ha:=A3 a p.1;have hb:=A3 b p.2;unfold enc;cases h:enc b p.2<;>simp[h,AV.nq,AV.AO] at* <;>simp[*]
theorem DE: ∀(n:Nat) (t:TypeId) (te:Ty),va P n t=some te->(∃d,P.underlying t=some d)/\∀x:te.den,(enc te x).isAgg=qN P t
 |0,_,_,h=>by simp[va] at h
 |n+1,t,te,h=>by
  unfold va at h;split at h
  ·rename_i k hu;simp only[zdj] at h;subst h;exact⟨⟨_,hu⟩,λx=>by simp[enc,AV.isAgg,qN,hu]⟩
  ·rename_i hu;simp only[zdj] at h;subst h;exact⟨⟨_,hu⟩,λx=>by simp[enc,AV.isAgg,qN,hu]⟩
  ·rename_i hu;simp only[zdj] at h;subst h;exact⟨⟨_,hu⟩,λx=>by simp[enc,AV.isAgg,qN,hu]⟩
  ·rename_i fs hu
   refine⟨⟨_,hu⟩,?_⟩;have key: ∀(l:List Field) (te:Ty),l.foldr (λf acc=>match va P n f.type,acc with|some a,some b=>some (Ty.cons a b)|_,_=>none) (some .nil)=some te->∀x:te.den,∃l,enc te x= .agg l:=by
    intro l;induction l with
    |nil=>intro te h;simp only[List.foldr_nil,zdj] at h;subst h;intro x;exact⟨[],rfl⟩
    |cons f l ih=>
     intro te h;simp only[zd8] at h;split at h
     ·rename_i a b h1 h2
      simp only[zdj] at h;subst h;intro x;obtain⟨l',hl⟩:=ih b h2 x.2;exact⟨enc a x.1::l',by have e:enc (.cons a b) x=(match enc b x.2 with| .agg l=> .agg (enc a x.1::l)|v=> .agg [enc a x.1,v]):=rfl;rw[e,hl]⟩
     ·cases h
   intro x;obtain⟨l,hl⟩:=key _ _ h x;simp[hl,AV.isAgg,qN,hu]
  ·rename_i m e hu
   simp only[zd9] at h;obtain⟨XH,_,rfl⟩:=h;exact⟨⟨_,hu⟩,λx=>by simp[enc,AV.isAgg,qN,hu]⟩
  ·rename_i e hu
   simp only[zd9] at h;obtain⟨XH,_,rfl⟩:=h;exact⟨⟨_,hu⟩,λx=>by simp[enc,AV.isAgg,qN,hu]⟩
  ·rename_i hu;simp only[zdj] at h;subst h;exact⟨⟨_,hu⟩,λx=>by simp[enc,AV.isAgg,qN,hu]⟩
  ·cases h
theorem DF {t:TypeId}{te:Ty}(h:va P 12 t=some te)(hs:te.size=P.cellsOf t)(x:te.den):rY P t (enc te x)=true:=by
 obtain⟨⟨d,hd⟩,h2⟩:=DE 12 t te h;simp only[rY,zdl,beq_iff_eq,zdr];exact⟨⟨⟨A3 _ _,h2 x⟩,by rw[nD,hs]⟩,by rw[hd];rfl⟩
theorem zP {sz:Nat}: ∀(l:List AV),(∀v∈l,v.size=sz)->AV.dD l=l.length*sz
 | [],_=>by simp[AV.dD]
 |x::xs,h=>by
  have ih:=zP xs λv hv=>h v (zdp _ hv);simp only[AV.dD,zdn,ih,h x (zdq ..),zdx];omega
theorem Ln {dst ty pos after guard}{t:TypeId}{x ix:Operand}{st:St}{k:AV->St->Option α}{r:α}(h:Hl P st t (st.ev x) (st.ev ix) k=some r):nT P base ⟨dst, .index t x ix,ty,pos,after,guard⟩ st k r:=by
 unfold Hl at h;obtain⟨ki,n,ei,h⟩:=qw h;split at h
 ·rename_i m te xs e1
  replace h:=jl h;obtain⟨zQ,h⟩:=h
  replace h:=jk h;obtain⟨h0,h⟩:=h
  split at h
  ·rename_i y hy
   unfold QX at zQ;split at zQ
   ·rename_i m' e hu
    simp only[zdl,zdr] at zQ;obtain⟨rfl,zQ⟩:=zQ;split at zQ
    ·rename_i XH Nr
     simp only[zdl,zdr] at zQ;obtain⟨rfl,hsz⟩:=zQ;refine⟨_,_,h,lq.pure λN D w a s=>?_⟩;obtain⟨cells,h1,h2,h3⟩:=ve.1 (s.uj e1);have lf:=DF Nr hsz.symm y;obtain⟨⟨d,hd⟩,_⟩:=DE 12 e _ Nr;obtain⟨i,hi⟩:=info_of_underlying hd;obtain⟨c,h4,h5⟩:=tL (P:=P) (N:=N) (off:=n.toNat*XH.size) lf ((kK XH y _).2 (h3.2 n.toNat y hy));refine⟨c,?_,h5⟩;simp only[execOp,s.sJ ei,h1,Instr.index,asIntOf,zdE,zdG,zdF,run_underlying hu,h0,and_self,if_true,run_sizeOf w hi,hsz,h4]
    ·cases zQ
   ·cases zQ
  ·cases h
 ·rename_i fs e1
  replace h:=jl h;obtain⟨zQ,h⟩:=h
  obtain⟨m,_,kR,hm,h⟩:=vV h;rw[zd2] at kR;split at h
  ·rename_i v hv
   unfold Q2 at zQ;split at zQ
   ·rename_i m' e hu
    simp only[zdl,zdr,zdW] at zQ;obtain⟨rfl,zQ⟩:=zQ;refine⟨_,_,h,lq.pure λN D w a s=>?_⟩;obtain⟨cells,h1,h2,h3⟩:=xn.1 (s.uj e1);have lf:=zQ v (zee hv);obtain⟨_,_,hsz,d,hd⟩:=rG lf;obtain⟨i,hi⟩:=info_of_underlying hd;have XY:AV.dD (fs.take m)=m*P.cellsOf e:=by
     have:=zP (sz:=P.cellsOf e) (fs.take m) λu hu'=>(rG (zQ u (zef hu'))).2.2.1;rw[this,zdH,zeg (Nat.le_of_lt kR)]
    have hr:=qq fs m v _ hv h3;rw[XY] at hr;obtain⟨c,h4,h5⟩:=tL (P:=P) (N:=N) (off:=m*P.cellsOf e) lf hr;refine⟨c,?_,h5⟩;have hn:n.toNat=m:=by omega
    simp only[execOp,s.sJ ei,h1,Instr.index,asIntOf,zdE,zdG,zdF,run_underlying hu,show(0<=n/\n<fs.length) from⟨by omega,by omega⟩,and_self,if_true,run_sizeOf w hi,hn,h4]
   ·cases zQ
  ·cases h
 ·cases h
theorem rK {s:St}{x:Option Operand}{d:Int}{k:Int->Option α}{r:α}(h:Hf s x d k=some r): ∃n,k n=some r/\((x=none/\n=d)\/∃o ki,x=some o/\s.ev o= .val (.int ki n)):=by
 unfold Hf at h;split at h
 ·exact⟨d,h, .inl ⟨rfl,rfl⟩⟩
 ·obtain⟨ki,n,e,h⟩:=qw h
  exact⟨n,h, .inr ⟨_,ki,rfl,e⟩⟩
def mH (v:Option Value)(d n:Int):Prop:=(v=none/\n=d)\/∃ki,v=some (.int ki n)
theorem mH.of {N:Names}{D:Nat->Prop}{w:World}{st:St}{a:Act}(s:kt N D w base st a){x:Option Operand}{d n:Int}(h:(x=none/\n=d)\/∃o ki,x=some o/\st.ev o= .val (.int ki n)):mH (x.map a.eval) d n:=by
 rcases h with⟨rfl,rfl⟩|⟨o,ki,rfl,e⟩
 ·exact .inl ⟨rfl,rfl⟩
 ·exact .inr ⟨ki,by simp[s.sJ e]⟩
theorem zb {lo hi:Option Value}{l h:Int}{sl:Bool}{len cap:Nat}(hl:mH lo 0 l)(hh:mH hi len h)(h0:0<=l)(h1:l<=h)(h2:h<=cap)(w:World):
  (Instr.sliceBounds sl len cap lo hi none).run P w= .ok (l.toNat,h.toNat,cap) w:=by
 have hbh: ∀(y:Nat) ki code,(h<=y)->(Instr.sliceBound (.int ki h) y code).run P w= .ok h.toNat w:=λy ki code hy=>run_sliceBound w ki h y code (by omega) hy
 have hbl: ∀ki code,(Instr.sliceBound (.int ki l) h.toNat code).run P w= .ok l.toNat w:=λki code=>run_sliceBound w ki l h.toNat code h0 (by omega)
 rcases hl with⟨rfl,rfl⟩|⟨kl,rfl⟩<;>rcases hh with⟨rfl,rfl⟩|⟨kh,rfl⟩
 ·simp[Instr.sliceBounds]
 ·simp[Instr.sliceBounds,hbh cap kh _ h2]
 ·have:=run_sliceBound (P:=P) w kl l len .sliceB h0 h1
  simp[Instr.sliceBounds,this]
 ·simp[Instr.sliceBounds,hbh cap kh _ h2,hbl]
theorem nU {t e:TypeId}{i:TypeInfo}(hu:P.underlying t=some (.slice e))(hi:P.info? e=some i){lo nA:Option Value}{l h:Int}{a:Option Addr}{len cap:Nat}(hl:mH lo 0 l)(hh:mH nA len h)(h0:0<=l)(h1:l<=h)(h2:h<=cap)(w:World):
  (Instr.sliceAt t (.slice a len cap) lo nA none).run P w= .ok (.slice (if cap=l.toNat then a else a.map (·.add (l.toNat*P.cellsOf e))) (h.toNat-l.toNat) (cap-l.toNat)) w:=by
 simp only[Instr.sliceAt,zdE,run_underlying hu,zdF,Instr.slice,zb hl hh h0 h1 h2,run_sizeOf w hi,zdG]
theorem Lo {t e:TypeId}{i:TypeInfo}{m:Nat}(hu:P.underlying t=some (.array m e))(hi:P.info? e=some i){lo nA:Option Value}{l h:Int}{a:Addr}(hl:mH lo 0 l)(hh:mH nA m h)(h0:0<=l)(h1:l<=h)(h2:h<=m)(w:World):
  (Instr.sliceAt t (.pointer (some a)) lo nA none).run P w= .ok (.slice (some (if m=l.toNat then a else a.add (l.toNat*P.cellsOf e))) (h.toNat-l.toNat) (m-l.toNat)) w:=by
 simp only[Instr.sliceAt,zdE,run_underlying hu,zdF,Instr.sureAddr,zb hl hh h0 h1 h2,run_sizeOf w hi,zdG]
theorem Jn {t t' e:TypeId}{i:TypeInfo}{m:Nat}(ht:P.underlying t=some (.pointer t'))(hu:P.underlying t'=some (.array m e))(hi:P.info? e=some i){lo nA:Option Value}{l h:Int}{a:Addr}(hl:mH lo 0 l)(hh:mH nA m h)(h0:0<=l)(h1:l<=h)(h2:h<=m)(w:World):
  (Instr.sliceAt t (.pointer (some a)) lo nA none).run P w= .ok (.slice (some (if m=l.toNat then a else a.add (l.toNat*P.cellsOf e))) (h.toNat-l.toNat) (m-l.toNat)) w:=by
 simp only[Instr.sliceAt,zdE,run_underlying ht,run_underlying hu,zdF,Instr.slice,asAddr,zb hl hh h0 h1 h2,run_sizeOf w hi,zdG]
theorem BU {t:TypeId}{m n:Nat}(ht:CW P t m n=true){lo nA:Option Value}{l h:Int}{a:Addr}(hl:mH lo 0 l)(hh:mH nA m h)(h0:0<=l)(h1:l<=h)(h2:h<=m)(w:World):
  (Instr.sliceAt t (.pointer (some a)) lo nA none).run P w= .ok (.slice (some (if m=l.toNat then a else a.add (l.toNat*n))) (h.toNat-l.toNat) (m-l.toNat)) w:=by
 unfold CW at ht;split at ht
 ·rename_i t' hp
  obtain⟨e,i,hu,hi,rfl⟩:=sj ht;exact Jn hp hu hi hl hh h0 h1 h2 w
 ·obtain⟨e,i,hu,hi,rfl⟩:=sj ht
  exact Lo hu hi hl hh h0 h1 h2 w
theorem vj {b:Addr}{o n len room:Nat}{a:Addr}{l h:Nat}(h1:l<=h)(h2:h<=len)(h3:len<=room)(ha:a=Addr.at_ b o\/room=0):
  Ht (Addr.at_ b (o+l*n)) (h-l) (room-l) (.slice (if room=l then some a else(some a).map (·.add (l*n))) (h-l) (room-l)):=by
 by_cases e:room=l
 ·rw[if_pos e]
  exact⟨a,room-l,rfl,by omega,rfl, .inr (by omega)⟩
 ·rw[if_neg e]
  rcases ha with rfl|ha
  ·exact⟨_,room-l,rfl,by omega,rfl, .inl (xz _ _ _)⟩
  ·omega
end AM
namespace AM
open Go
variable {α:Type}{P:Program}{base:Nat}
theorem Gf {s:St}{id:Nat}{p:List Step}{off len:Nat}{N:Names}{D:Nat->Prop}{w:World}(S:jV N D w base s.h){nm:Nm}(hn:N id=some nm)(hp:(nm.row&&p.isEmpty)=true):Ga s id p off len=nm.len-off\/Ga s id p off len=len:=by
 unfold Ga;split
 ·rename_i xs ho
  obtain⟨mD,h1,_,_,h4,_⟩:=S.obj id _ ho;rw[hn] at h1;cases h1;exact .inl (by rw[h4])
 ·exact .inr rfl
theorem OV {s:St}{id:Nat}{p:List Step}{off len:Nat}{N:Names}{D:Nat->Prop}{w:World}(S:jV N D w base s.h){nm:Nm}(hn:N id=some nm)(hp: ¬(nm.row&&p.isEmpty)=true):Ga s id p off len=len:=by
 unfold Ga;split
 ·rename_i xs ho
  obtain⟨mD,h1,h2,_⟩:=S.obj id _ ho;rw[hn] at h1;cases h1;simp[h2] at hp
 ·rfl
theorem Lp {dst ty pos after guard}{t:TypeId}{x:Operand}{lo hj:Option Operand}{st:St}{k:AV->St->Option α}{r:α}(h:Hm P st t (st.ev x) lo hj k=some r):nT P base ⟨dst, .slice t x lo hj none,ty,pos,after,guard⟩ st k r:=by
 unfold Hm at h;obtain⟨l,h,hl⟩:=rK h;split at h
 ·rename_i te xs e1
  replace h:=jl h;obtain⟨wE,h⟩:=h
  obtain⟨hh,h,KN⟩:=rK h;replace h:=jk h;obtain⟨⟨h0,h1,h2⟩,h⟩:=h
  obtain⟨e,i,hu,hi,hsz⟩:=nP wE;have Lq:XJ (β:=te.den) lo hj l hh xs=(xs.take hh.toNat).drop l.toNat:=by
   rcases hl with⟨rfl,rfl⟩|⟨o,ki,rfl,_⟩<;>rcases KN with⟨rfl,rfl⟩|⟨o',ki',rfl,_⟩<;>simp[XJ]
  rw[Lq] at h;refine⟨_,_,h,lq.pure λN D w a s=>?_⟩;obtain⟨ba,cap,g1,g2,g3,g4⟩:=ux.1 (s.uj e1);simp only[zdj] at g1;have jI:=nU (P:=P) (a:=ba) (len:=aO (β:=te.den) xs) (cap:=cap) hu hi (mH.of s hl) (mH.of s KN) h0 h1 (by simp only[aO] at g2⊢;omega) w
  refine⟨_,by simp only[execOp,g1,zdE,zeh,jI,zdF,zdG];rfl,ux.2 ?_⟩
  have hlen:aO (β:=te.den) ((xs.take hh.toNat).drop l.toNat)=hh.toNat-l.toNat:=by
   simp only[aO,zdI,zdH];simp only[aO] at g2;omega
  refine⟨_,_,by rw[hlen],by rw[hlen];simp only[aO] at g2;omega,?_,?_⟩
  ·intro hn
   split at hn
   ·rw[g3 hn];omega
   ·cases hb:ba with
    |none=>rw[g3 hb];omega
    |some b=>rw[hb] at hn;cases hn
  ·intro ad Fz lR
   rw[hlen] at lR;split at Fz
   ·exfalso;simp only[aO] at g2;omega
   ·cases hb:ba with
    |none=>rw[hb] at Fz;cases Fz
    |some b=>
     rw[hb] at Fz;simp only[zds,zdj] at Fz;obtain⟨f1,f2,f3⟩:=g4 b hb (by simp only[aO];omega)
     obtain⟨bb,oo,sp⟩:=b;simp only at f1;subst f1;rw[oy] at Fz;subst Fz;refine⟨rfl,f2,λj y hy=>?_⟩;have Z8:jU (β:=te.den) xs (l.toNat+j)=some y:=by
      simp only[jU] at hy⊢;rw[zdK,zdJ] at hy;split at hy
      ·exact hy
      ·cases hy
     have:=f3 _ y Z8;rw[hsz];have e2:(λq=>aV w ⟨bb,oo,none⟩ ((l.toNat+j)*te.size+q))=λq=>aV w ⟨bb,oo+l.toNat*te.size,none⟩ (j*te.size+q):=by
      funext q;simp only[aV,zdx,zdy]
     rw[<-e2];exact this
 ·rename_i e1
  replace h:=jl h;obtain⟨wE,h⟩:=h
  obtain⟨hh,h,KN⟩:=rK h;obtain⟨⟨FF,hh0⟩,hk⟩:=jk h;subst FF;subst hh0;unfold WG at wE;split at wE
  ·rename_i e hu
   obtain⟨i,hi⟩:=Option.isSome_iff_exists.1 wE;refine⟨_,_,hk,lq.pure λN D w a s=>?_⟩;have jI:=nU (P:=P) (a:=none) (len:=0) (cap:=0) hu hi (mH.of s hl) (mH.of s KN) (zei _) (zei _) (zei _) w;exact⟨_,by simp only[execOp,s.sJ e1,zdE,zeh,jI,zdF,zdG];rfl,ee.2 (by simp)⟩
  ·cases wE
 ·rename_i id off e1
  split at h
  ·rename_i ro te xs ho
   replace h:=jl h;obtain⟨wE,h⟩:=h
   obtain⟨e,i,hu,hi,hsz⟩:=nP wE;split at h
   ·replace h:=jk h;obtain⟨⟨h0,h1⟩,h⟩:=h
    refine⟨_,_,h,lq.pure λN D w a s=>?_⟩;have hv:=s.uj e1;unfold cq at hv;simp only[AV.isAgg,jw,an] at hv;obtain⟨nm,g1,g2,g3,g4,g5⟩:=hv;obtain⟨mD,i1,i2,i3,i4,_⟩:=s.nr.obj id _ ho;rw[g1] at i1;cases i1;cases hb:nm.base with
    |none=>
     rw[hb] at g5;obtain⟨g5,g6⟩:=g5;simp only[zdj] at g6;have FF:l=0:=by simp only[aO] at i4;omega
     subst FF;have jI:=nU (P:=P) (a:=none) (len:=0) (cap:=0) hu hi (mH.of s hl) (nA:=none) (.inl ⟨rfl,rfl⟩) (zei _) (zei _) (zei _) w;refine⟨_,by simp only[execOp,g6,zdE,zeh,jI,zdF,zdG];rfl,?_⟩
     unfold cq;simp only[AV.isAgg,jw,an];refine⟨nm,g1,g2,by simpa using g3,g4,?_⟩
     rw[hb];exact⟨g5,by simp⟩
    |some ba=>
     rw[hb] at g5;obtain⟨v,room,g6,g7,a',cap,rfl,g8,rfl,g9⟩:=g5;simp only[zdj] at g6;have hlen:(l:Int)<=((nm.len-off:Nat):Int):=by rw[i4];exact h1
     have jI:=nU (P:=P) (a:=some a') (len:=nm.len-off) (cap:=cap) hu hi (mH.of s hl) (nA:=none) (h:=((nm.len-off:Nat):Int)) (.inl ⟨rfl,rfl⟩) h0 hlen (by omega) w
     refine⟨_,by simp only[execOp,g6,zdE,zeh,jI,zdF,zdG];rfl,?_⟩
     unfold cq;simp only[AV.isAgg,jw,an];refine⟨nm,g1,g2,by omega,g4,?_⟩
     rw[hb];have:=vj (b:=ba) (n:=nm.sh.size) (l:=l.toNat) (h:=nm.len-off) (by omega) (zdz _) g8 g9
     refine⟨_,cap-l.toNat,rfl,by omega,?_⟩
     rw[zdf,hsz,show nm.len-(l.toNat+off)=nm.len-off-l.toNat by omega,show(l.toNat+off)*nm.sh.size=off*nm.sh.size+l.toNat*nm.sh.size by rw[zdx,zd5]]
     rw[i3,iJ] at this⊢;exact this
   ·rename_i nA
    obtain⟨kh,hh,eh,h⟩:=qw h;replace h:=jk h;obtain⟨⟨h0,h1,h2⟩,h⟩:=h
    refine⟨_,_,h,lq.pure λN D w a s=>?_⟩;have hv:=s.uj e1;unfold cq at hv;simp only[AV.isAgg,jw,an] at hv;obtain⟨nm,g1,g2,g3,g4,g5⟩:=hv;obtain⟨mD,i1,i2,i3,i4,_⟩:=s.nr.obj id _ ho;rw[g1] at i1;cases i1;cases hb:nm.base with
    |none=>
     rw[hb] at g5;obtain⟨g5,g6⟩:=g5;simp only[zdj] at g6;have FF:l=0/\hh=0:=by simp only[aO] at i4;omega
     obtain⟨rfl,rfl⟩:=FF;have jI:=nU (P:=P) (a:=none) (len:=0) (cap:=0) hu hi (mH.of s hl) (nA:=some (.int kh 0)) (.inr ⟨kh,rfl⟩) (zei _) (zei _) (zei _) w;refine⟨_,by simp only[execOp,g6,zdE,zeh,zds,s.sJ eh,jI,zdF,zdG];rfl,?_⟩
     unfold cq;simp only[AV.isAgg,jw,an];refine⟨nm,g1,?_⟩;rw[hb];exact⟨by simp[g2],by simp;omega,by simp,g5,by simp⟩
    |some ba=>
     rw[hb] at g5;obtain⟨v,room,g6,g7,a',cap,rfl,g8,rfl,g9⟩:=g5;simp only[zdj] at g6;have hlen:(hh:Int)<=((nm.len-off:Nat):Int):=by rw[i4];exact h2
     have jI:=nU (P:=P) (a:=some a') (len:=nm.len-off) (cap:=cap) hu hi (mH.of s hl) (nA:=some (.int kh hh)) (.inr ⟨kh,rfl⟩) h0 h1 (by omega) w
     refine⟨_,by simp only[execOp,g6,zdE,zeh,zds,s.sJ eh,jI,zdF,zdG];rfl,?_⟩
     unfold cq;simp only[AV.isAgg,jw,an];refine⟨nm,g1,?_⟩;rw[hb];simp only;rw[if_pos (by simp[g2])]
     have:=vj (b:=ba) (n:=nm.sh.size) (l:=l.toNat) (h:=hh.toNat) (by omega) (by omega) g8 g9
     refine⟨by omega,g4,_,cap-l.toNat,rfl,by omega,by omega,?_⟩
     rw[hsz,show(l.toNat+off)*nm.sh.size=off*nm.sh.size+l.toNat*nm.sh.size by rw[zdx,zd5],show(hh-l).toNat=hh.toNat-l.toNat by omega]
     rw[i3,iJ] at this⊢;exact this
  ·cases h
 ·rename_i id p off len e1
  split at h
  ·rename_i m XV
   replace h:=jl h;obtain⟨wE,h⟩:=h
   obtain⟨hh,h,KN⟩:=rK h;replace h:=jk h;obtain⟨⟨h0,h1,h2⟩,h⟩:=h
   obtain⟨e,i,hu,hi,hsz⟩:=nP wE;refine⟨_,_,h,lq.pure λN D w a s=>?_⟩;have hv:=s.uj e1;unfold cq at hv;simp only[AV.isAgg,jw,an] at hv;obtain⟨nm,g1,g3⟩:=hv;cases g2:nm.base with
   |none=>
    rw[g2] at g3;obtain⟨g3,rfl,rfl,g4,g6⟩:=g3;simp only[zdj] at g6;have hrm:=Gf (p:=p) (off:=0) (len:=0) s.nr g1 g3;have FF:l=0/\hh=0:=by omega
    obtain⟨rfl,rfl⟩:=FF;have jI:=nU (P:=P) (a:=none) (len:=0) (cap:=0) hu hi (mH.of s hl) (mH.of s KN) (zei _) (zei _) (zei _) w;refine⟨_,by simp only[execOp,g6,zdE,zeh,jI,zdF,zdG];rfl,?_⟩
    unfold cq;simp only[AV.isAgg,jw,an];refine⟨nm,g1,?_⟩;rw[g2];exact⟨g3,by simp,by simp,g4,by simp⟩
   |some ba=>
   rw[g2] at g3;simp only at g3;rcases BT XV s.nr g1 with⟨hp,HE⟩|⟨hp,m',e',HE,XW⟩
   ·rw[if_pos hp] at g3
    obtain⟨g4,g5,v,room,g6,g7,g8,a',cap,rfl,g9,rfl,XX⟩:=g3;simp only[zdj] at g6;have hrm:=Gf (off:=off) (len:=len) s.nr g1 hp;have jI:=nU (P:=P) (a:=some a') (len:=len) (cap:=cap) hu hi (mH.of s hl) (mH.of s KN) h0 h1 (by omega) w
    refine⟨_,by simp only[execOp,g6,zdE,zeh,jI,zdF,zdG];rfl,?_⟩
    unfold cq;simp only[AV.isAgg,jw,an];refine⟨nm,g1,?_⟩;rw[g2];simp only;rw[if_pos hp];have:=vj (b:=ba) (n:=nm.sh.size) (l:=l.toNat) (h:=hh.toNat) (len:=cap) (by omega) (by omega) (zdz _) XX
    refine⟨by omega,g5,_,cap-l.toNat,rfl,by omega,by omega,?_⟩
    rw[hsz,show(l.toNat+off)*nm.sh.size=off*nm.sh.size+l.toNat*nm.sh.size by rw[zdx,zd5],show(hh-l).toNat=hh.toNat-l.toNat by omega]
    rw[HE] at this⊢;exact this
   ·rw[if_neg hp] at g3
    obtain⟨o,m2,e2,v,room,g4,Jm,g7,g8,g9,a',cap,rfl,XX,rfl,g11⟩:=g3;simp only[zdj] at g8;rw[Jm] at HE;cases HE;rw[OV s.nr g1 hp] at h2;have jI:=nU (P:=P) (a:=some a') (len:=len) (cap:=cap) hu hi (mH.of s hl) (mH.of s KN) h0 h1 (by omega) w
    refine⟨_,by simp only[execOp,g8,zdE,zeh,jI,zdF,zdG];rfl,?_⟩
    unfold cq;simp only[AV.isAgg,jw,an];refine⟨nm,g1,?_⟩;rw[g2];simp only;rw[if_neg hp];have:=vj (b:=ba) (n:=e'.size) (l:=l.toNat) (h:=hh.toNat) (by omega) (by omega) XX g11
    refine⟨o,m',e',_,cap-l.toNat,g4,Jm,by omega,rfl,by omega,?_⟩
    rw[hsz,show o+(l.toNat+off)*e'.size=o+off*e'.size+l.toNat*e'.size by rw[zdx,zdy,zd5 (l.toNat*e'.size)],show(hh-l).toNat=hh.toNat-l.toNat by omega]
    rw[XW] at this⊢;exact this
  ·cases h
 ·rename_i id p e1
  split at h
  ·rename_i m e' hs
   replace h:=jl h;obtain⟨wE,h⟩:=h
   obtain⟨hh,h,KN⟩:=rK h;replace h:=jk h;obtain⟨⟨h0,h1,h2⟩,h⟩:=h
   refine⟨_,_,h,lq.pure λN D w a s=>?_⟩;obtain⟨nm,ad,o,g1,g2,g3,g4⟩:=jr.1 (s.uj e1);have Jm:=nO hs s.nr g1;have jI:=BU (P:=P) (a:=Addr.at_ ad o) wE (mH.of s hl) (mH.of s KN) h0 h1 h2 w;refine⟨_,by simp only[execOp,g4,zdE,zeh,jI,zdF,zdG];rfl,?_⟩
   unfold cq;simp only[AV.isAgg,jw,an];refine⟨nm,g1,?_⟩;rw[g2];simp only;have hp: ¬(nm.row&&p.isEmpty)=true:=by
    intro hp;simp only[zdl,zdO] at hp;simp[Nm.KK,hp.1,hp.2] at Jm
   rw[if_neg hp];have:=vj (b:=ad) (o:=o) (n:=e'.size) (l:=l.toNat) (h:=hh.toNat) (len:=m) (room:=m) (a:=Addr.at_ ad o) (by omega) (by omega) (zdz _) (.inl rfl)
   refine⟨o,m,e',_,m-l.toNat,g3,Jm,by omega,rfl,by omega,?_⟩
   rw[show(hh-l).toNat=hh.toNat-l.toNat by omega]
   by_cases hm:m=l.toNat
   ·rw[if_pos hm] at this⊢;exact this
   ·rw[if_neg hm] at this⊢;exact this
  ·cases h
 ·rename_i m te xs e1
  replace h:=jl h;obtain⟨wE,h⟩:=h
  obtain⟨hh,h,KN⟩:=rK h;replace h:=jk h;obtain⟨⟨h0,h1,h2⟩,h⟩:=h
  refine⟨_,_,h,lq.pure λN D w a s=>?_⟩;obtain⟨ad,g1,g2,g3,g4⟩:=qv.1 (s.uj e1);have jI:=BU (P:=P) (a:=ad) wE (mH.of s hl) (mH.of s KN) h0 h1 h2 w;refine⟨_,by simp only[execOp,g1,zdE,zeh,jI,zdF,zdG];rfl,ux.2 ?_⟩
  simp only[an] at g4;obtain⟨g5,g6⟩:=g4;have hlen:aO (β:=te.den) ((xs.take hh.toNat).drop l.toNat)=hh.toNat-l.toNat:=by
   simp only[aO,zdI,zdH];simp only[aO] at g5;omega
  refine⟨_,_,by rw[hlen],by rw[hlen];omega,λh=>(by cases h),?_⟩
  intro ad' Fz lR;rw[hlen] at lR;rw[if_neg (by omega)] at Fz
  simp only[zdj] at Fz;obtain⟨bb,oo,sp⟩:=ad;simp only at g2;subst g2;rw[oy] at Fz;subst Fz;refine⟨rfl,g3,λj y hy=>?_⟩;have Z8:jU (β:=te.den) xs (l.toNat+j)=some y:=by
   simp only[jU] at hy⊢;rw[zdK,zdJ] at hy;split at hy
   ·exact hy
   ·cases hy
  have:=g6 _ y Z8;have e2:(λq=>aV w ⟨bb,oo,none⟩ ((l.toNat+j)*te.size+q))=λq=>aV w ⟨bb,oo+l.toNat*te.size,none⟩ (j*te.size+q):=by
   funext q;simp only[aV,zdx,zdy]
  rw[<-e2];exact this
 ·cases h
theorem Jo {dst ty pos after guard}{t:TypeId}{x mx:Operand}{lo hj:Option Operand}{st:St}{k:AV->St->Option α}{r:α}(h:Dn P st t (st.ev x) lo hj mx k=some r):nT P base ⟨dst, .slice t x lo hj (some mx),ty,pos,after,guard⟩ st k r:=by
 unfold Dn at h;obtain⟨l,h,hl⟩:=rK h;split at h
 ·cases h
 obtain⟨kh,hh,eh,h⟩:=qw h;obtain⟨km,m,em,h⟩:=qw h;split at h
 ·rename_i id off e1
  split at h
  ·rename_i ro te xs ho
   replace h:=jl h;obtain⟨wE,h⟩:=h
   obtain⟨e,i,hu,hi,hsz⟩:=nP wE;replace h:=jk h;obtain⟨⟨h0,h1,h2,h3⟩,h⟩:=h
   refine⟨_,_,h,lq.pure λN D w a s=>?_⟩;have hv:=s.uj e1;unfold cq at hv;simp only[AV.isAgg,jw,an] at hv;obtain⟨nm,g1,g2,g3,g4,g5⟩:=hv;obtain⟨mD,i1,i2,i3,i4,_⟩:=s.nr.obj id _ ho;rw[g1] at i1;cases i1;have hx: ∃b n c,a.eval x= .slice b n c/\m<=c:=by
    cases hb:nm.base with
    |none=>
     rw[hb] at g5;obtain⟨g5,g6⟩:=g5;simp only[zdj] at g6;exact⟨_,_,_,g6,by simp only[aO] at i4;omega⟩
    |some ba=>
     rw[hb] at g5;obtain⟨v,room,g6,g7,a',cap,rfl,g8,rfl,g9⟩:=g5;simp only[zdj] at g6;exact⟨_,_,_,g6,by simp only[aO] at i4;omega⟩
   obtain⟨b,n,c,hx,hmc⟩:=hx;have r1:(Instr.sliceBound (.int km m) c .slice3Acap).run P w= .ok m.toNat w:=run_sliceBound w km m c .slice3Acap (by omega) hmc
   have r2:(Instr.sliceBound (.int kh hh) m.toNat .slice3B).run P w= .ok hh.toNat w:=run_sliceBound w kh hh m.toNat .slice3B (by omega) (by omega)
   have hb:(Instr.sliceBounds true n c (lo.map a.eval) (some (.int kh hh)) (some (.int km m))).run P w= .ok (l.toNat,hh.toNat,m.toNat) w:=by
    rcases mH.of s hl with⟨q1,rfl⟩|⟨kl,q1⟩
    ·rw[q1];simp[Instr.sliceBounds,r1,r2]
    ·have r3:(Instr.sliceBound (.int kl l) hh.toNat .slice3C).run P w= .ok l.toNat w:=run_sliceBound w kl l hh.toNat .slice3C h0 (by omega)
     rw[q1];simp[Instr.sliceBounds,r1,r2,r3]
   refine⟨_,by simp only[execOp,hx,zdE,zds,s.sJ eh,s.sJ em,Instr.sliceAt,run_underlying hu,zdF,Instr.slice,hb,run_sizeOf w hi,zdG];rfl,oY⟩
  ·cases h
 ·cases h
end AM
namespace AM
open Go
variable {α:Type}{P:Program}{base:Nat}
def ed (N:Names)(D:Nat->Prop)(w:World)(t:Ty)(xs:List t.den)(g:Nat->Option Value):Prop:= ∀i (x:t.den),jU (β:=t.den) xs i=some x->iq N D w t x (λj=>g (i*t.size+j))
theorem Rm {i n s j:Nat}(hi:i<n)(hj:j<s):i*s+j<n*s:=by
 have:(i+1)*s<=n*s:=zdw _ hi;rw[zdx] at this;omega
theorem iq.func {N:Names}{D:Nat->Prop}{w:World}{t:Ty}{x:t.den}{g g':Nat->Option Value}(h:iq N D w t x g)(e: ∀j,g j=g' j):iq N D w t x g':=by
 rw[<-funext e];exact h
section
variable {N:Names}{D:Nat->Prop}{w:World}{t:Ty}
theorem yh {xs:List t.den}{i:Nat}{x:t.den}(h:jU (β:=t.den) xs i=some x):i<aO (β:=t.den) xs:=(List.getElem?_eq_some_iff.1 h).1
theorem ed.congr {xs:List t.den}{g g':Nat->Option Value}(h:ed N D w t xs g)(e: ∀j,j<aO (β:=t.den) xs*t.size->g j=g' j):ed N D w t xs g':=
 λi x hx=>ji t x _ _ (λj hj=>e _ (Rm (yh hx) hj)) (h i x hx)
theorem ed.mono {D':Nat->Prop}{w':World}{xs:List t.den}{g:Nat->Option Value}(h:ed N D w t xs g)(hD: ∀b,D b->D' b)(hw: ∀b,D b->w'.heap[b]?=w.heap[b]?):ed N D' w' t xs g:=
 λi x hx=>kv (Names.le_refl _) hD hw _ _ _ (h i x hx)
theorem ed.Ns {N':Names}{D':Nat->Prop}{w':World}{xs:List t.den}{g:Nat->Option Value}(h:ed N D w t xs g)(hN:N.le N')(hD: ∀b,D b->D' b)(hw: ∀b,D b->w'.heap[b]?=w.heap[b]?):ed N' D' w' t xs g:=
 λi x hx=>kv hN hD hw _ _ _ (h i x hx)
theorem ed.cell {xs:List t.den}{g:Nat->Option Value}(h:ed N D w t xs g){j:Nat}(hj:j<aO (β:=t.den) xs*t.size): ∃c,g j=some c/\c.oneCell'=true:=
 rF (.arr (aO (β:=t.den) xs) t) xs g ⟨rfl,h⟩ j hj
theorem ed.cells {xs:List t.den}{g:Nat->Option Value}(h:ed N D w t xs g): ∃cs:List Value,cs.length=aO (β:=t.den) xs*t.size/\(∀j v,cs[j]?=some v->g j=some v)/\ed N D w t xs (cs[·]?)/\∀v∈cs,v.oneCell'=true:=by
 refine⟨(List.range (aO (β:=t.den) xs*t.size)).map λj=>(g j).getD Go.undef,by simp,λj v hv=>?_,h.congr λj hj=>?_,λv hv=>?_⟩
 ·simp only[zej,zd9] at hv
  obtain⟨i,hi,rfl⟩:=hv;obtain⟨hi1,XZ⟩:=List.getElem?_eq_some_iff.1 hi;simp at hi1 XZ;subst XZ;obtain⟨c,h1,_⟩:=h.cell hi1;rw[h1];rfl
 ·obtain⟨c,h1,_⟩:=h.cell hj
  simp[hj,h1]
 ·simp only[List.mem_map,List.mem_range] at hv
  obtain⟨j,hj,rfl⟩:=hv;obtain⟨c,h1,h2⟩:=h.cell hj;rw[h1];exact h2
theorem ed.nil {g:Nat->Option Value}:ed N D w t [] g:=λi x hx=>by simp[jU] at hx
theorem ed.append {xs ys:List t.den}{g:Nat->Option Value}(h1:ed N D w t xs g)(h2:ed N D w t ys (λj=>g (aO (β:=t.den) xs*t.size+j))):ed N D w t (xs++ys:List t.den) g:=by
 intro i x hx;by_cases hi:i<aO (β:=t.den) xs
 ·exact h1 i x (by simp only[jU] at hx⊢;rwa [zd3 hi] at hx)
 ·have BP:jU (β:=t.den) ys (i-aO (β:=t.den) xs)=some x:=by
   simp only[jU] at hx⊢;rwa [zd4 (Nat.le_of_not_lt hi)] at hx
  have:=h2 _ x BP;refine this.func λj=>?_;simp only;rw[<-zdy,<-zdx,Nat.add_sub_cancel' (Nat.le_of_not_lt hi)]
theorem ed.qX {xs ys:List t.den}{cs ds:List Value}(h1:ed N D w t xs (cs[·]?))(hl:cs.length=aO (β:=t.den) xs*t.size)(h2:ed N D w t ys (ds[·]?)):ed N D w t (xs++ys:List t.den) ((cs++ds)[·]?):=by
 refine ed.append (h1.congr λj hj=>?_) ?_
 ·rw[zd3 (by omega)]
 ·have e:(λj=>(cs++ds)[aO (β:=t.den) xs*t.size+j]?)=(ds[·]?):=by
   funext j
   rw[<-hl,zd4 (by omega),Nat.add_sub_cancel_left]
  rw[e];exact h2
theorem ed.more {xs:List t.den}{cs ds:List Value}(h1:ed N D w t xs (cs[·]?))(hl:cs.length=aO (β:=t.den) xs*t.size):ed N D w t xs ((cs++ds)[·]?):=
 h1.congr λj hj=>by rw[zd3 (by omega)]
theorem ed.take {xs:List t.den}{g:Nat->Option Value}(n:Nat)(h:ed N D w t xs g):ed N D w t (xs.take n:List t.den) g:=λi x hx=>h i x (by
 simp only[jU] at hx⊢;rw[zdJ] at hx;split at hx
 ·exact hx
 ·cases hx)
theorem ed.drop {xs:List t.den}{g:Nat->Option Value}(n:Nat)(h:ed N D w t xs g):ed N D w t (xs.drop n:List t.den) (λj=>g (n*t.size+j)):=λi x hx=>by
 have:=h (n+i) x (by simp only[jU] at hx⊢;rwa [zdK] at hx)
 rw[show(λj=>g (n*t.size+(i*t.size+j)))=λj=>g ((n+i)*t.size+j) by funext j;rw[zdx,zdy]]
 exact this
theorem ed.Jp (n:Nat){z:Array Value}(hz:z.toList=mR t (iy t)){g:Nat->Option Value}(hg: ∀j,j<n*t.size->g j=z[j%t.size]?):ed N D w t (List.replicate n (iy t)) g:=by
 intro i x hx;have hi:i<n:=by have:=yh hx;simpa [aO] using this
 simp only[jU,zd7,hi,if_true,zdj] at hx;subst hx;refine rH t _ λj hj=>?_;rw[hg _ (Rm hi hj),Nat.mul_comm,Nat.mul_add_mod,Nat.mod_eq_of_lt hj,<-hz];simp
end
def Rn (N:Names)(D:Nat->Prop)(w:World)(t:Ty)(xs:List t.den)(c:Value):Prop:= ∃a cap,c= .slice a (aO (β:=t.den) xs) cap/\aO (β:=t.den) xs<=cap/\(a=none->cap=0)/\∀ad,a=some ad->aO (β:=t.den) xs≠0->ad.spot=none/\ed N D w t xs (aV w ad)
theorem vW {N:Names}{D:Nat->Prop}{w:World}{t:Ty}{xs:List t.den}{a:Addr}{off len room:Nat}{v:Value}(hx:ed N D w t xs (aV w a))
  (hv:Ht (Addr.at_ a (off*t.size)) len room v) (hl:off+len<=aO (β:=t.den) xs):Rn N D w t ((xs.drop off).take len:List t.den) v:=by
 obtain⟨a',cap,rfl,h1,rfl,h2⟩:=hv;have e:aO (β:=t.den) ((xs.drop off).take len)=len:=by simp only[aO,zdH,zdI];simp only[aO] at hl;omega
 refine⟨some a',cap,by rw[e],by rw[e];exact h1,(by intro h;cases h),λad Fz lR=>?_⟩
 cases Fz;rw[e] at lR;rcases h2 with rfl|h2
 ·refine⟨rfl,?_⟩
  have:=(hx.drop off).take len;have e2:(λj=>aV w a (off*t.size+j))=aV w (Addr.at_ a (off*t.size)):=by
   funext j;simp only[aV,Addr.at_,zdy]
  rw[<-e2];exact this
 ·omega
theorem uA {s:St}{t:Ty}{v:AV}{k:List t.den->List Nat->Option α}{r:α}(h:pX s t v k=some r):
  ∃xs ids,k xs ids=some r/\∀N D w base,jV N D w base s.h->∀c,cq N D w v c->Rn N D w t xs c:=by
 unfold pX at h;split at h
 ·rename_i t' zs
  split at h
  ·rename_i ys hc
   obtain⟨rfl,rfl⟩:=iK hc;refine⟨_,_,h,λN D w base S c hv=>?_⟩;obtain⟨a,cap,h1,h2,h3,h4⟩:=ux.1 hv;simp only[zdj] at h1;exact⟨a,cap,h1,h2,h3,λad ha lR=>⟨(h4 ad ha lR).1,(h4 ad ha lR).2.2⟩⟩
  ·cases h
 ·refine⟨_,_,h,λN D w base S c hv=>?_⟩
  rw[ee.1 hv];exact⟨none,0,rfl,by simp[aO],λ_=>rfl,(by intro ad ha;cases ha)⟩
 ·rename_i id off
  split at h
  ·rename_i ro t' xs ho
   split at h
   ·rename_i ys hc
    obtain⟨rfl,rfl⟩:=iK hc;refine⟨_,_,h,λN D w base S c hv=>?_⟩;simp only[cq,AV.isAgg,jw,an] at hv;obtain⟨nm,h1,h2,h3,h4,h5⟩:=hv;obtain⟨mD,e1,e2,e3,e4,e5,e6⟩:=S.obj id _ ho;rw[h1] at e1;cases e1;cases hb:nm.base with
    |none=>
     rw[hb] at h5;obtain⟨h6,h7⟩:=h5;have Hw:aO (β:=t'.den) ys=0:=by omega
     have hxe:ys=[]:=zdM Hw;subst hxe;simp only[zdj] at h7;subst h7;exact⟨none,0,by simp[aO],by simp[aO],λ_=>rfl,(by intro ad ha;cases ha)⟩
    |some a=>
     rw[hb] at h5 e6;obtain⟨u,room,h6,h7,h8⟩:=h5;simp only[zdj] at h6;subst h6;obtain⟨_,_,_,ye⟩:=e6;rw[e3,iJ] at h8;have:=vW (off:=off) (len:=nm.len-off) ye h8 (by omega)
     rwa [zdN (by simp only[aO] at e4;simp;omega)] at this
   ·cases h
  ·cases h
 ·rename_i id p off len
  split at h
  ·rename_i mE
   simp only[zdl,zdO] at mE;obtain⟨rfl,mE⟩:=mE;split at h;rotate_left
   ·cases h
   rename_i ro t' xs ho;split at h
   ·rename_i ys hc
    obtain⟨rfl,rfl⟩:=iK hc;refine⟨_,_,h,λN D w base S c hv=>?_⟩;simp only[cq,AV.isAgg,jw,an] at hv;obtain⟨nm,h1,hv⟩:=hv;obtain⟨mD,e1,e2,e3,e4,e5,e6⟩:=S.obj id _ ho;rw[h1] at e1;cases e1;cases h2:nm.base with
    |none=>
     rw[h2] at hv;obtain⟨_,rfl,rfl,_,h7⟩:=hv;simp only[zdj] at h7;subst h7;exact⟨none,0,by simp[aO],by simp[aO],λ_=>rfl,(by intro ad ha;cases ha)⟩
    |some a=>
    rw[h2] at hv;simp only at hv;rw[if_pos (by simp[e2])] at hv
    obtain⟨h4,h5,u,room,h6,h7,h8,h9⟩:=hv;rw[h2] at e6;simp only[zdj] at h6;subst h6;obtain⟨_,_,_,ye⟩:=e6;rw[e3,iJ] at h9;exact vW (off:=off) (len:=len) ye h9 (by omega)
   ·cases h
  ·rename_i mE
   obtain⟨u,h,yw,qH⟩:=px h;split at h;rotate_left
   ·cases h
   rename_i n t' xs;split at h;rotate_left
   ·cases h
   rename_i ys hc;obtain⟨rfl,rfl⟩:=iK hc;refine⟨_,_,h,λN D w base S c hv=>?_⟩;simp only[cq,AV.isAgg,jw,an] at hv;obtain⟨nm,h1,hv⟩:=hv;have KL:=xr (by simpa using mE) yw S h1
   cases h2:nm.base with
   |none=>
    rw[h2] at hv;obtain⟨h3,_⟩:=hv;rw[KL] at h3;cases h3
   |some a=>
    rw[h2] at hv;simp only at hv;rw[if_neg (by rw[KL];simp)] at hv
    obtain⟨o,n',e,u,room,h3,h4,h5,h6,h7,h8⟩:=hv;simp only[zdj] at h6;subst h6;obtain⟨g1,g2,_⟩:=qH N D w base S nm a o h1 h2 h3;simp only[an,iq] at g2;have KM:=AZ yw S h1;rw[h4] at KM;simp only[AV.sh,zdj,Sh.arr.injEq] at KM;obtain⟨rfl,rfl⟩:=KM;have hlen:aO (β:=t'.den) ys=n':=g2.1;refine vW (a:=Addr.at_ a o) (off:=off) (len:=len) (room:=room) (λi x hi=>?_) (by rw[iJ] at h8;simpa [Addr.at_,zdy] using h8) (by omega)
    refine ji _ _ _ _ (λj _=>?_) (g2.2 i x hi);simp only[aV,Addr.at_,zdy]
 ·cases h
theorem jV.Ro {N:Names}{D:Nat->Prop}{w:World}{base:Nat}{h:Nat->Option fP}(S:jV N D w base h){id:Nat}(gV:h id=none)(nm:Nm):N.le (N.up λi=>if i=id then some nm else N i):=
 Names.Rb λi mD h'=>by
 by_cases e:i=id
 ·subst e;exact absurd gV (S.named _ _ h')
 ·rw[if_neg e];exact h'
theorem jV.HF {N:Names}{D:Nat->Prop}{w:World}{base:Nat}{h:Nat->Option fP}(S:jV N D w base h){id:Nat}{t:Ty}{xs:List t.den}(gV:h id=none)(w1:World)(cells:Array Value)(ty:TypeId)(fz:Nat×Nat)(cap:Nat)
  (hw1:w1.heap=w.heap) (Rg:w1.os=w.os) (htp:w1.tape=w.tape) (js:w1.output=w.output) (hle:aO (β:=t.den) xs<=cap) (hsz:cap*t.size<=cells.size) (hfz:fz=(0,0)\/cells.size<=fz.1/\t= .int .u8) (hr:ed N D w t xs (cells[·]?)):
   ∃N',jV N' D (w1.alloc (.cells cells ty fz)) base (kn h id (.row false t xs))/\Ext N D w h N' D (w1.alloc (.cells cells ty fz)) (kn h id (.row false t xs))/\cq N' D (w1.alloc (.cells cells ty fz)) (.tail id 0) (.slice (some ⟨w.heap.size,0,none⟩) (aO (β:=t.den) xs) cap):=by
 have vg:(w1.alloc (.cells cells ty fz)).heap=w.heap.push (.cells cells ty fz):=by rw[<-hw1];rfl
 have qS:(w1.alloc (.cells cells ty fz)).heap[w.heap.size]?=some (.cells cells ty fz):=by rw[vg];simp
 have mG: ∀b,b<w.heap.size->(w1.alloc (.cells cells ty fz)).heap[b]?=w.heap[b]?:=λb hb=>by rw[vg,zdY,if_neg (by omega)]
 let nm:Nm:=⟨some ⟨w.heap.size,0,none⟩,rX t,true,aO (β:=t.den) xs,cap⟩
 obtain⟨N',n1,n2,n3⟩:=S.make (w':=w1.alloc (.cells cells ty fz)) (o:= .row false t xs) (nm:=nm) gV Rg htp js (by rw[vg];simp) mG (λa ha=>by cases ha;rw[vg];simp) (by
  refine⟨nm,Names.BQ,rfl,rfl,rfl,hle,?_⟩;show _/\_/\_/\_
  refine⟨rfl,⟨cells,ty,fz,qS,by simpa [nm] using hsz,λ_=>hfz⟩,?_,λi x hx=>?_⟩
  ·simp only[zdk,if_false]
   exact⟨S.size,λhd=>Nat.lt_irrefl _ (S.frozen _ hd)⟩
  ·have e:(λj=>aV (w1.alloc (.cells cells ty fz)) ⟨w.heap.size,0,none⟩ (i*t.size+j))=λj=>cells[i*t.size+j]?:=by
    funext j
    unfold aV World.cell?;rw[qS];simp
   rw[e];exact kv (S.Ro gV nm) (λ_ h=>h) (λb hb=>mG b (S.frozen b hb)) _ _ _ (hr i x hx))
 refine⟨N',n2,n3,?_⟩;unfold cq;simp only[AV.isAgg,jw,an];refine⟨nm,n1,rfl,zek _,hle,?_⟩;show∃v room,_
 exact⟨_,cap,rfl,by simp[nm],_,_,rfl,hle,rfl, .inl (by simp[Addr.at_])⟩
theorem zR {s:St}{id:Nat}{o:fP}{k:St->Option α}{r:α}(h:s.new id o k=some r):s.h id=none/\k (s.set id o)=some r:=by
 unfold St.new at h;split at h
 ·exact⟨‹_›,h⟩
 ·cases h
theorem Nt {s:St}{id:Nat}{t:Ty}{xs:List t.den}{k:St->Option α}{r:α}(h:s.new id (.row false t xs) k=some r):
  ∃s',k s'=some r/\s'.t=s.t/\s'.nt=s.nt/\s'.ep=s.ep/\(∀j,j≠id->s'.h j=s.h j)/\∀N D w base,jV N D w base s.h->∀(w1:World) (cells:Array Value) (ty:TypeId) (fz:Nat×Nat) (cap:Nat),
   w1.heap=w.heap->w1.os=w.os->w1.tape=w.tape->w1.output=w.output->aO (β:=t.den) xs<=cap->cap*t.size<=cells.size->(fz=(0,0)\/cells.size<=fz.1/\t= .int .u8)->ed N D w t xs (cells[·]?)->
   ∃N',jV N' D (w1.alloc (.cells cells ty fz)) base s'.h/\Ext N D w s.h N' D (w1.alloc (.cells cells ty fz)) s'.h/\cq N' D (w1.alloc (.cells cells ty fz)) (.tail id 0) (.slice (some ⟨w.heap.size,0,none⟩) (aO (β:=t.den) xs) cap):=by
 obtain⟨gV,hk⟩:=zR h;exact⟨_,hk,rfl,rfl,rfl,λj hj=>by simp[St.set,hj],λN D w base S w1 cells ty fz cap h1 h2 h3 h4 h5 h6 h7 h8=>S.HF gV w1 cells ty fz cap h1 h2 h3 h4 h5 h6 h7 h8⟩
theorem tu: ∀(n:Nat) (t:TypeId) (te:Ty) (v:AV),va P n t=some te->zeroOf P n t=some v->qM v=mR te (iy te)
 |0,_,_,_,h,_=>by simp[va] at h
 |n+1,t,te,v,h1,h2=>by
  unfold va at h1;unfold zeroOf at h2;split at h1
  ·rename_i k hu;rw[hu] at h2;simp only[zdj] at h1 h2;subst h1;subst h2;simp[qM,mR,iy]
  ·rename_i hu;rw[hu] at h2;simp only[zdj] at h1 h2;subst h1;subst h2;simp[qM,mR,iy]
  ·rename_i hu;rw[hu] at h2;simp only[zdj] at h1 h2;subst h1;subst h2;simp[qM,mR,iy]
  ·rename_i fs hu
   rw[hu] at h2;simp only[zd9] at h2;obtain⟨vs,h2,rfl⟩:=h2;have key: ∀(l:List Field) (te:Ty) (vs:List AV),l.foldr (λf acc=>match va P n f.type,acc with|some a,some b=>some (Ty.cons a b)|_,_=>none) (some .nil)=some te->
     l.foldr (λf acc=>match zeroOf P n f.type,acc with|some a,some b=>some (a::b)|_,_=>none) (some [])=some vs->rC vs=mR te (iy te):=by
    intro l;induction l with
    |nil=>intro te vs h1 h2;simp only[List.foldr_nil,zdj] at h1 h2;subst h1;subst h2;rfl
    |cons f l ih=>
     intro te vs h1 h2;simp only[zd8] at h1 h2;split at h1
     ·rename_i a b g1 g2
      simp only[zdj] at h1;subst h1;split at h2
      ·rename_i a' b' g3 g4
       simp only[zdj] at h2;subst h2;simp only[rC,tu n _ _ _ g1 g3,ih _ _ g2 g4,mR,iy]
      ·cases h2
     ·cases h1
   rw[yg];exact key _ _ _ h1 h2
  ·rename_i m e hu
   rw[hu] at h2;simp only[zd9] at h1;obtain⟨te1,g1,rfl⟩:=h1;simp only at h2;split at h2
   ·rename_i hs
    simp only[zdj] at h2;subst h2;have hz:zeroOf P n e=some (.val (.slice none 0 0)):=by
     unfold mY at hs;split at hs
     ·rename_i e' hu'
      cases n with
      |zero=>simp[va] at g1
      |succ n=>unfold zeroOf;rw[hu']
     ·cases hs
    have ih:=tu n e te1 _ g1 hz;have key: ∀m,rC (List.replicate m (.val (.slice none 0 0)))=(List.replicate m (iy te1)).flatMap (mR te1):=by
     intro m;induction m with
     |zero=>rfl
     |succ m ihm=>simp only[zdZ,rC,zd0,ihm,ih]
    rw[yg,key];simp only[mR,iy]
   ·simp only[zd9] at h2
    obtain⟨te2,g2,rfl⟩:=h2;rw[g1] at g2;cases g2;simp only[qM,mR,iy]
  ·rename_i e hu
   rw[hu] at h2;simp only[zd9] at h1;obtain⟨te1,g1,rfl⟩:=h1;simp only[zdj] at h2;subst h2;simp[qM,mR,iy]
  ·rename_i hu;rw[hu] at h2;simp only[zdj] at h1 h2;subst h1;subst h2;simp[qM,mR,iy]
  ·cases h1
end AM
namespace AM
open Go
variable {α:Type}{P:Program}{base:Nat}
theorem qh {t e:TypeId}{te:Ty}(h:zA P t=some (e,te)):P.underlying t=some (.slice e)/\va P 12 e=some te/\te.size=P.cellsOf e/\1<=P.bytesOf e/\∃i,P.info? e=some i/\i.size=te.size/\i.bytes=P.bytesOf e/\∃z,i.zero=some z/\z.cells.size=te.size:=by
 unfold zA at h;split at h
 ·rename_i e' hu
  split at h
  ·rename_i XH ht
   split at h
   ·rename_i hs
    simp only[zdj,Prod.mk.injEq] at h;obtain⟨rfl,rfl⟩:=h;obtain⟨⟨d,hd⟩,_⟩:=DE 12 _ _ ht;obtain⟨i,hi⟩:=info_of_underlying hd;refine⟨hu,ht,hs.1,hs.2.1,i,hi,?_,?_,?_⟩
    ·rw[hs.1];simp[Program.cellsOf,hi]
    ·simp[Program.bytesOf,hi]
    ·have hz:=hs.2.2
     unfold M9 at hz;split at hz
     ·rename_i z hz2
      rw[hi] at hz2;exact⟨z,hz2,by simpa using hz⟩
     ·cases hz
   ·cases h
  ·cases h
 ·cases h
theorem HG:room=70368744177664:=by decide
theorem DG {dst ty pos after guard}{t:TypeId}{x y:Operand}{st:St}{id:Nat}(pF:id=name st.ep (dst.getD 999) 0){k:AV->St->Option α}{r:α}(h:xg P st id t (st.ev x) (st.ev y) k=some r):nT P base ⟨dst, .makeSlice t x y,ty,pos,after,guard⟩ st k r:=by
 unfold xg at h;split at h
 ·rename_i e te he
  obtain⟨hu,Nr,hsz,hb,i,hi,vk,Rp,_⟩:=qh he;obtain⟨ka,n,ea,h⟩:=qw h;obtain⟨kb,m,eb,h⟩:=qw h;obtain⟨⟨h1,h2,h3⟩,hk⟩:=jk h;subst h1;obtain⟨v,i',z,OW,nA,hz,X0,zc,_,_⟩:=rJ hk;rw[hi] at nA;cases nA;obtain⟨s',g1,g2,g3,g4,I0,g5⟩:=Nt OW;refine⟨_,_,g1,g2,g3,g4,λj _ hj=>I0 j (λe=>by subst e;subst pF;simp[qo,makes,qW] at hj),λN D w a s=>?_⟩
  have vl:=tu 12 e te v Nr X0;rw[<-zc] at vl;have uk:z.cells.size=te.size:=by rw[<-mV te,<-vl];simp
  rw[HG] at h3;have hn:n<=70368744177664:=by
   have:n*1<=n*(P.bytesOf e:Int):=Int.mul_le_mul_of_nonneg_left (by omega) h2
   omega
  have jI:=run_make (P:=P) w t e i z hu hi hz ka kb n n h2 (zei _) (by rw[Rp,Int.mul_comm];omega) (by omega)
  obtain⟨N',n1,n2,n3⟩:=g5 N D w base s.nr w (madeCells z.cells (n.toNat*i.size)) e (0,0) n.toNat rfl rfl rfl rfl (by simp[aO]) (by rw[size_madeCells,vk];exact zdz _) (.inl rfl) (by
   refine ed.Jp n.toNat vl λj hj=>?_;have hp:0<te.size:=by
    rcases zdD te.size with q|q
    ·rw[q] at hj;omega
    ·exact q
   have hm:j%te.size<z.cells.size:=by rw[uk];exact Nat.mod_lt _ hp
   simp only[madeCells,vk];rw[Array.getElem?_map,Array.getElem?_range,if_pos hj];rw[uk,zds,getElem!_pos z.cells _ hm,zdV hm])
  rw[show aO (β:=te.den) (List.replicate n.toNat (iy te))=n.toNat by simp[aO]] at n3
  refine⟨N',D,_,_, .inl ?_,n2,n1,n3⟩;simp only[execOp,s.sJ ea,s.sJ eb,zdE,jI,zdF,zdG,vk]
 ·cases h
end AM
namespace AM
open Go
variable {α:Type}{P:Program}{base:Nat}
structure xA (P:Program)(tys:Array TypeId)(rt e:TypeId)(i:TypeInfo)(z:Value)(w:World)(x:Value)(n:Nat)(cs:List Value):Prop where
 fits: ∀b oZ vm,oZ+n<=vm->(Builtin.append_ tys rt #[.slice b oZ vm,x]).run P w=(match b with|none=> .ok (.slice b (oZ+n) vm) w|some a=>((storeCells (a.add (oZ*i.size)) cs).run P w).andThen λ_ w'=> .ok (.slice b (oZ+n) vm) w')
 zaj: ∀b oZ vm,vm<oZ+n->(oZ+n)*i.bytes<=70368744177664->∀olds:List Value,(Builtin.firstCells i.size oZ (.slice b oZ vm)).run P w.drew= .ok olds.toArray w.drew->
  (Builtin.append_ tys rt #[.slice b oZ vm,x]).run P w= .ok (.slice (some ⟨w.heap.size,0,none⟩) (oZ+n) (grownCap w (oZ+n) vm e)) (w.drew.alloc (.cells (olds++cs++(Builtin.zeroCells z.cells (grownCap w (oZ+n) vm e-(oZ+n))).toList).toArray e))
theorem zc3 (a:Array Value)(cs:List Value)(b:Array Value):a++cs.toArray++b=(a.toList++cs++b.toList).toArray:=by
 apply Array.ext';simp
theorem xA.of {tys:Array TypeId}{t u rt e:TypeId}{i:TypeInfo}{z:Value}{w:World}{x:Value}{n:Nat}{cs:List Value}(h0:tys[0]?=some t)(h1:tys[1]?=some u)(ht:P.underlying t=some (.slice e))(hi:P.info? e=some i)(hz:i.zero=some z)(hb:1<=i.bytes)
  {d:TypeDesc} (hu:P.underlying u=some d) (hd: ∀k,d≠ .int k) (hl: ∀w',(Builtin.lenOf x).run P w'= .ok n w') (hf:(Builtin.firstCells i.size n x).run P w= .ok cs.toArray w) (xy:(Builtin.firstCells i.size n x).run P w.drew= .ok cs.toArray w.drew):xA P tys rt e i z w x n cs:=by
 constructor
 ·intro b oZ vm lf
  simp only[Builtin.append_,h0,h1];cases b<;>simp[run_underlying ht,run_underlying hu,Go.sizeOf,typeInfo,hi,hl,lf,hf]
 ·intro b oZ vm hg QL olds ho
  have X5:oZ+n<=70368744177664:=by
   have:(oZ+n)*1<=(oZ+n)*i.bytes:=Nat.mul_le_mul_left _ hb;omega
  have h48: ¬(281474976710656<Builtin.nextslicecap (oZ+n) vm*i.bytes):=by
   have:=growslice_fits (old:=vm) (need:=oZ+n) (bytes:=i.bytes) hg (by omega)
   omega
  have hn: ¬(oZ+n<=vm):=by omega
  have h63: ¬(9223372036854775807<((oZ:Int)+(n:Int))):=by omega
  simp only[Builtin.append_,h0,h1];simp[run_underlying ht,run_underlying hu,Go.sizeOf,typeInfo,zeroValue,hi,hz,hl,hn,h63,h48,Question.forced,xy,ho,newRow,grownCap];congr 2
  apply Array.ext';simp
theorem wrap_small {n:Int}(h0:0<=n)(h1:n<=70368744177664):IntKind.i64.wrap n=n:=by rw[IntKind.wrap_i64];omega
theorem xA.Jp {tys:Array TypeId}{t u rt e:TypeId}{i:TypeInfo}{z:Value}{w:World}{n:Int}(h0:tys[0]?=some t)(h1:tys[1]?=some u)(ht:P.underlying t=some (.slice e))(hi:P.info? e=some i)(hz:i.zero=some z)(hb:1<=i.bytes)
  {k k':IntKind} (hu:P.underlying u=some (.int k)) (WT:0<=n) (OX:n*(i.bytes:Int)<=70368744177664) (hs:z.cells.size=i.size):xA P tys rt e i z w (.int k' n) n.toNat (Builtin.zeroCells z.cells n.toNat).toList:=by
 have hnn:n<=70368744177664:=by
  have:n*1<=n*(i.bytes:Int):=Int.mul_le_mul_of_nonneg_left (by omega) WT
  omega
 have hw:=wrap_small WT hnn;have Uy: ¬n<0:=by omega
 have FG: ¬(281474976710656<n*(i.bytes:Int)):=by omega
 have hzero:n.toNat*i.size=0->(Builtin.zeroCells z.cells n.toNat)= #[]:=by
  intro h;apply zeb;rw[size_zeroCells,hs];exact h
 constructor
 ·intro b oZ vm lf
  simp only[Builtin.append_,h0,h1];by_cases hq:n.toNat*i.size=0
  ·cases b<;>simp[run_underlying ht,run_underlying hu,Go.sizeOf,typeInfo,hi,asInt,asIntOf,hw,Uy,FG,lf,hq,hzero hq]
  ·cases b<;>simp[run_underlying ht,run_underlying hu,Go.sizeOf,typeInfo,zeroValue,hz,hi,asInt,asIntOf,hw,Uy,FG,lf,hq]
 ·intro b oZ vm hg QL olds ho
  have X5:oZ+n.toNat<=70368744177664:=by
   have:(oZ+n.toNat)*1<=(oZ+n.toNat)*i.bytes:=Nat.mul_le_mul_left _ hb;omega
  have h48: ¬(281474976710656<Builtin.nextslicecap (oZ+n.toNat) vm*i.bytes):=by
   have:=growslice_fits (old:=vm) (need:=oZ+n.toNat) (bytes:=i.bytes) hg (by omega)
   omega
  have hn: ¬(oZ+n.toNat<=vm):=by omega
  have h63: ¬(9223372036854775807<((oZ:Int)+(n.toNat:Int))):=by omega
  have zak: ¬(9223372036854775807<((oZ:Int)+n)):=by omega
  have WU: ¬(9223372036854775807<((oZ:Int)+max n 0)):=by omega
  simp only[Builtin.append_,h0,h1];by_cases hq:n.toNat*i.size=0
  ·simp[run_underlying ht,run_underlying hu,Go.sizeOf,typeInfo,zeroValue,hi,hz,asInt,asIntOf,hw,Uy,FG,hn,h63,zak,WU,h48,Question.forced,hq,hzero hq,ho,newRow,grownCap]
   congr 2
   apply Array.ext';simp
  ·simp[run_underlying ht,run_underlying hu,Go.sizeOf,typeInfo,zeroValue,hi,hz,asInt,asIntOf,hw,Uy,FG,hn,h63,zak,WU,h48,Question.forced,hq,ho,newRow,grownCap]
   congr 2
   apply Array.ext';simp
end AM
namespace AM
open Go
variable {α:Type}{P:Program}{base:Nat}
theorem jV.move {N:Names}{D:Nat->Prop}{w w':World}{base:Nat}{h:Nat->Option fP}(S:jV N D w base h){i id:Nat}{o o':fP}{nm mD:Nm}{a a':Addr}(ho:h i=some o)(Fm:o.rw=true)(hn:N i=some nm)(hb:nm.base=some a)(gV:kn h i .dead id=none)
  (uX:mD.base=some a') (Ld:a'.block=a.block)
  (Rg:w'.os=w.os) (Jj:w'.tape=w.tape) (js:w'.output=w.output) (xt:w'.heap.size=w.heap.size) (mG: ∀b,b≠a.block->w'.heap[b]?=w.heap[b]?) (mZ:qu (N.up λj=>if j=id then some mD else N j) D w' base id o') (T9:o'.rw=true:=by rfl):
  ∃N':Names,N' id=some mD/\jV N' D w' base (kn (kn h i .dead) id o')/\Ext N D w h N' D w' (kn (kn h i .dead) id o'):=by
 have Nu:iQ N i o a.block:=iQ.of Fm hn hb;have ta:yY N h a.block:=⟨i,o,ho,Nu⟩;have hnd:=(S.tJ ta).1;have hD: ∀b,D b->w'.heap[b]?=w.heap[b]?:=λb uX=>mG b (λe=>hnd (e▸uX));have lR:id≠i:=by intro e;subst e;simp[kn] at gV
 have Lr:h id=none:=by simpa only[kn,if_neg lR] using gV
 have XR:N id=none:=by
  cases e:N id with
  |none=>rfl
  |some mD=>exact absurd Lr (S.named id mD e)
 have hN:N.le (N.up λj=>if j=id then some mD else N j):=Names.Rh XR
 have Le: ∀j,j≠id->(N.up λj=>if j=id then some mD else N j) j=N j:=λj e=>if_neg e
 have hold: ∀j oj b,j≠id->iQ (N.up λj=>if j=id then some mD else N j) j oj b->iQ N j oj b:=λj oj b e=>(iQ.names (Le j e) (λ_=>rfl)).1
 have DA: ∀b,iQ (N.up λj=>if j=id then some mD else N j) id o' b->b=a.block:=λb hO=>by rw[iQ.at_ T9 Names.BQ uX hO,Ld]
 have key: ∀j oj b,kn (kn h i .dead) id o' j=some oj->iQ N j oj b->j≠id->j≠i/\h j=some oj:=by
  intro j oj b hj rj e;simp only[kn,if_neg e] at hj;by_cases e2:j=i
  ·subst e2;simp at hj;subst hj;exact rj.elim
  ·exact⟨e2,by simpa only[if_neg e2] using hj⟩
 refine⟨N.up λj=>if j=id then some mD else N j,Names.BQ,⟨λj oj hj=>?_,?_,λb hb=>by rw[xt];exact S.frozen b hb,λj WQ I1=>?_,by rw[xt];exact S.size,λg hg=>?_⟩,⟨hN,λ_ h=>h,Rg,Jj,js,by rw[xt];exact zdz _,λb _ vS=>mG b (λe=>vS (e▸ta)),λb _ hO=>?_,λ_ h=> .inl h,λj WQ I1=>?_,λ_ h=>vf (vf h),λg hg=>⟨?_,λ_=>rfl⟩⟩⟩
 ·by_cases e:j=id
  ·subst e;simp[kn] at hj;subst hj;exact mZ
  ·simp only[kn,if_neg e] at hj
   by_cases e2:j=i
   ·subst e2;simp at hj;subst hj;trivial
   ·simp only[if_neg e2] at hj
    refine nN (S.obj j oj hj) hN (λ_ h=>h) hD (λb hO=>⟨mG _ (λeb=>e2 ?_),λh=>h⟩) (λ_ _ _ _=>rfl);exact S.apart j i oj o b hj ho hO (eb▸Nu)
 ·intro j1 j2 o1 o2 b h1 h2 r1 r2
  by_cases e1:j1=id<;>by_cases e2:j2=id
  ·rw[e1,e2]
  ·exfalso
   subst e1;simp[kn] at h1;subst h1;have e4:=DA b r1;have r2:=hold j2 o2 b e2 r2;obtain⟨e3,h3⟩:=key j2 o2 b h2 r2 e2;exact e3 (S.apart j2 i o2 o b h3 ho r2 (e4▸Nu))
  ·exfalso
   subst e2;simp[kn] at h2;subst h2;have e4:=DA b r2;have r1:=hold j1 o1 b e1 r1;obtain⟨e3,h3⟩:=key j1 o1 b h1 r1 e1;exact e3 (S.apart j1 i o1 o b h3 ho r1 (e4▸Nu))
  ·have r1:=hold j1 o1 b e1 r1
   have r2:=hold j2 o2 b e2 r2;exact S.apart j1 j2 o1 o2 b (key j1 o1 b h1 r1 e1).2 (key j2 o2 b h2 r2 e2).2 r1 r2
 ·by_cases e:j=id
  ·simp[kn,e]
  ·simp only[kn,if_neg e]
   rw[Le j e] at I1;by_cases e2:j=i
   ·simp[e2]
   ·simp only[if_neg e2];exact S.named j WQ I1
 ·by_cases e:SB+g=id
  ·simp only[kn,if_pos e] at hg
   cases o'<;>simp[AM.iI] at hg
   cases T9
  ·simp only[kn,if_neg e] at hg
   by_cases e2:SB+g=i
   ·simp[if_pos e2,AM.iI] at hg
   ·simp only[if_neg e2] at hg;exact S.iI g hg
 ·obtain⟨j,oj,hj,rj⟩:=hO
  by_cases e:j=id
  ·subst e
   simp[kn] at hj;subst hj;rw[DA b rj];exact ta
  ·have rj:=hold j oj b e rj
   exact⟨j,oj,(key j oj b hj rj e).2,rj⟩
 ·by_cases e:j=id
  ·subst e;exact .inr Lr
  ·rw[Le j e] at I1;exact .inl I1
 ·by_cases e:SB+g=id
  ·subst e;rw[Lr] at hg;cases hg
  ·by_cases e2:SB+g=i
   ·subst e2;rw[ho] at hg;cases hg;cases Fm
   ·simp only[kn,if_neg e,if_neg e2];exact hg
theorem jV.Uz {N:Names}{D:Nat->Prop}{w:World}{base:Nat}{h:Nat->Option fP}(S:jV N D w base h){id:Nat}{t:Ty}{xs:List t.den}(Lq:aO (β:=t.den) xs=0)(gV:h id=none):
  ∃N':Names,jV N' D w base (kn h id (.row false t xs))/\Ext N D w h N' D w (kn h id (.row false t xs))/\cq N' D w (.tail id 0) (.slice none 0 0):=by
 obtain⟨N',n1,n2,n3⟩:=S.make (w':=w) (o:= .row false t xs) (nm:=⟨none,rX t,true,0,0⟩) gV rfl rfl rfl (zdz _) (λ_ _=>rfl) (λa ha=>by cases ha) ⟨_,Names.BQ,rfl,rfl,Lq.symm,zdz _,rfl⟩
 refine⟨N',n2,n3,?_⟩;unfold cq;simp only[AV.isAgg,jw,an];exact⟨_,n1,rfl,zdz _,zdz _,by simp⟩
theorem Ext.mid {N N' WN:Names}{D D' WO:Nat->Prop}{w w' ON:World}{h h' Rc:Nat->Option fP}(x:Ext N D w h N' D' w' h')(y:Ext N' D' w' h' WN WO ON Rc):Ext N D w h WN WO ON Rc:=x.trans y
theorem yJ {N:Names}{w:World}{t:Ty}{xs:List t.den}{D:Nat->Prop}{c:Value}{cs:List Value}{size:Nat}(hs:size=t.size)(h:Rn N D w t xs c){w':World}(hw:w'.heap=w.heap)(hl:cs.length=aO (β:=t.den) xs*t.size)(hc: ∀a n cap,c= .slice (some a) n cap->aO (β:=t.den) xs≠0->∀j v,cs[j]?=some v->w.cell? (a.add j)=some v):
  (Builtin.firstCells size (aO (β:=t.den) xs) c).run P w'= .ok cs.toArray w':=by
 obtain⟨a,cap,rfl,h1,h2,h3⟩:=h;subst hs;by_cases h0:aO (β:=t.den) xs=0
 ·have yy:cs=[]:=zdM (by rw[hl,h0];simp)
  subst yy;rw[h0];cases a with
  |none=>exact run_firstCells_none (P:=P) w' _ _ _ _
  |some a=>exact run_firstCells_some (P:=P) w' t.size 0 a _ cap [] (by simp) (by simp)
 ·cases a with
  |none=>have:=h2 rfl;omega
  |some a=>
   refine run_firstCells_some (P:=P) w' t.size _ a _ cap cs hl λj v hv=>?_;have:=hc a _ _ rfl h0 j v hv;rw[<-this];simp only[World.cell?,hw]
theorem Rn.cells {N:Names}{w:World}{t:Ty}{xs:List t.den}{D:Nat->Prop}{c:Value}(h:Rn N D w t xs c): ∃cs:List Value,cs.length=aO (β:=t.den) xs*t.size/\ed N D w t xs (cs[·]?)/\(∀v∈cs,v.oneCell'=true)/\
  ∀w':World,w'.heap=w.heap->(Builtin.firstCells t.size (aO (β:=t.den) xs) c).run P w'= .ok cs.toArray w':=by
 have h':=h;obtain⟨a,cap,rfl,h1,h2,h3⟩:=h;by_cases h0:aO (β:=t.den) xs=0
 ·have Lq:xs=[]:=zdM h0
  refine⟨[],by rw[h0];simp,?_,by simp,λw' hw=>yJ rfl h' hw (by rw[h0];simp) (by simp)⟩
  subst Lq;exact ed.nil
 ·cases a with
  |none=>have:=h2 rfl;omega
  |some a=>
   obtain⟨f1,f2⟩:=h3 a rfl h0;obtain⟨cs,g1,g2,g3,g4⟩:=f2.cells;refine⟨cs,g1,g3,g4,λw' hw=>yJ rfl h' hw g1 λa' n sk e _ j v hv=>?_⟩;cases e;obtain⟨b,o,sp⟩:=a;simp only at f1;subst f1;rw[oy];exact g2 j v hv
end AM
namespace AM
open Go
variable {α:Type}{P:Program}{base:Nat}
structure Src (P:Program)(tys:Array TypeId)(rt e:TypeId)(i:TypeInfo)(z:Value)(N:Names)(D:Nat->Prop)(w:World)(te:Ty)(ys:List te.den)(x:Value)(cs:List Value):Prop where
 app:xA P tys rt e i z w x (aO (β:=te.den) ys) cs
 len:cs.length=aO (β:=te.den) ys*te.size
 row:ed N D w te ys (cs[·]?)
 one: ∀v∈cs,v.oneCell'=true
def xB (P:Program)(tys:Array TypeId)(rt:TypeId)(base:Nat)(N:Names)(D:Nat->Prop)(w:World)(h:Nat->Option fP)(v x:Value)(h':Nat->Option fP)(u:AV):Prop:=
 ∃N' D' w' v',(Builtin.append_ tys rt #[v,x]).run P w= .ok v' w'/\Ext N D w h N' D' w' h'/\jV N' D' w' base h'/\cq N' D' w' u v'
section
variable {tys:Array TypeId}{rt e:TypeId}{i:TypeInfo}{z:Value}{N:Names}{D:Nat->Prop}{w:World}{te:Ty}{h:Nat->Option fP}
theorem Gg (S:jV N D w base h){id:Nat}(gV:h id=none)(vk:i.size=te.size)(uk:z.cells.size=te.size){bs ys:List te.den}{olds cs:List Value}{x:Value}{b:Option Addr}{cap:Nat}(src:Src P tys rt e i z N D w te ys x cs)
  (hg:cap<aO (β:=te.den) bs+aO (β:=te.den) ys) (QL:(aO (β:=te.den) bs+aO (β:=te.den) ys)*i.bytes<=70368744177664) (ho:(Builtin.firstCells i.size (aO (β:=te.den) bs) (.slice b (aO (β:=te.den) bs) cap)).run P w.drew= .ok olds.toArray w.drew)
  (X6:olds.length=aO (β:=te.den) bs*te.size) (hor:ed N D w te bs (olds[·]?)):xB P tys rt base N D w h (.slice b (aO (β:=te.den) bs) cap) x (kn h id (.row false te (bs++ys:List te.den))) (.tail id 0):=by
 have jI:=src.app.zaj b _ cap hg QL olds ho;have so:=grownCap_ge w (aO (β:=te.den) bs+aO (β:=te.den) ys) cap e;have OY:aO (β:=te.den) (bs++ys)=aO (β:=te.den) bs+aO (β:=te.den) ys:=by simp[aO]
 obtain⟨N',n1,n2,n3⟩:=S.HF (t:=te) (xs:=(bs++ys:List te.den)) gV w.drew e (0,0) (grownCap w (aO (β:=te.den) bs+aO (β:=te.den) ys) cap e) rfl rfl rfl rfl (by rw[OY];exact so)
  (cells:=(olds++cs++(Builtin.zeroCells z.cells (grownCap w (aO (β:=te.den) bs+aO (β:=te.den) ys) cap e-(aO (β:=te.den) bs+aO (β:=te.den) ys))).toList).toArray)
  (by
   simp only[List.size_toArray,zdm,X6,src.len,Array.length_toList,size_zeroCells,uk,<-zdx];exact zdw _ (by omega)) (.inl rfl) (by
   have h1:=(hor.qX X6 src.row).more (ds:=(Builtin.zeroCells z.cells (grownCap w (aO (β:=te.den) bs+aO (β:=te.den) ys) cap e-(aO (β:=te.den) bs+aO (β:=te.den) ys))).toList) (by rw[zdm,X6,src.len,OY,zdx])
   refine h1.congr λj _=>?_;simp)
 rw[OY] at n3;exact⟨N',D,_,_,jI,n2,n1,n3⟩
theorem Nv (S:jV N D w base h){id:Nat}(gV:h id=none)(vk:i.size=te.size)(uk:z.cells.size=te.size){ys:List te.den}{cs:List Value}{x:Value}(src:Src P tys rt e i z N D w te ys x cs)
  (QL:(aO (β:=te.den) ys)*i.bytes<=70368744177664):xB P tys rt base N D w h (.slice none 0 0) x (kn h id (.row false te ys)) (.tail id 0):=by
 by_cases hn:aO (β:=te.den) ys=0
 ·obtain⟨N',n1,n2,n3⟩:=S.Uz hn gV
  have:=src.app.fits none 0 0 (by omega)
  refine⟨N',D,w,_,this,n2,n1,by rw[hn];exact n3⟩
 ·have:=Gg (bs:=[]) (olds:=[]) (b:=none) (cap:=0) S gV vk uk src (by simp only[aO,zdo];simp only[aO] at hn;omega) (by simpa [aO] using QL) (run_firstCells_none (P:=P) w.drew _ _ _ _) (by simp[aO]) ed.nil
  simpa [aO] using this
theorem xB.after {N':Names}{D':Nat->Prop}{w':World}{h' Rc:Nat->Option fP}{v x:Value}{u:AV}(hw:w'=w)(a:xB P tys rt base N' D' w' h' v x Rc u)(y:Ext N D w h N' D' w' h'):xB P tys rt base N D w h v x Rc u:=by
 subst hw;obtain⟨N2,D2,w2,v2,h1,h2,h3,h4⟩:=a;exact⟨N2,D2,w2,v2,h1,y.trans h2,h3,h4⟩
theorem pa {b o:Nat}{cs:List Value}{C:Array Value}{ty:TypeId}{fz:Nat×Nat}(hb:w.heap[b]?=some (.cells C ty fz))(hz:fz=(0,0)\/C.size<=fz.1)(hl:o+cs.length<=C.size)(h1: ∀v∈cs,v.oneCell'=true):
  (storeCells ⟨b,o,none⟩ cs).run P w= .ok () (w.setCells b o cs):=by
 have:=run_storeCells_cells (P:=P) b o cs 0 w (λj hj=>iX hb (by omega)) (λj hj=>vU hb hz (by omega)) h1
 simpa using this
theorem Rq (S:jV N D w base h){id q off:Nat}{xs:List te.den}(ho:h q=some (.row false te xs))(gV:kn h q .dead id=none)(vk:i.size=te.size)(uk:z.cells.size=te.size){ys:List te.den}{cs:List Value}{x v:Value}(src:Src P tys rt e i z N D w te ys x cs)
  (hv:cq N D w (.tail q off) v) (QL:(aO (β:=te.den) (xs.drop off)+aO (β:=te.den) ys)*i.bytes<=70368744177664):xB P tys rt base N D w h v x (kn (kn h q .dead) id (.row false te (xs.drop off++ys:List te.den))) (.tail id 0):=by
 unfold cq at hv;simp only[AV.isAgg,jw,an] at hv;obtain⟨nm,g1,g2,g3,g4,g5⟩:=hv;obtain⟨mD,i1,i2,i3,i4,i5,i6⟩:=S.obj q _ ho;rw[g1] at i1;cases i1;obtain⟨kS,kE⟩:=S.kill q;have hlen:aO (β:=te.den) (xs.drop off)=nm.len-off:=by simp only[aO,zdI];simp only[aO] at i4;omega
 cases hb:nm.base with
 |none=>
  rw[hb] at g5;obtain⟨g5,g6⟩:=g5;simp only[zdj] at g6;subst g6;have oA:(xs.drop off:List te.den)=[]:=zdM (by have:=hlen;simp only[aO] at this;omega)
  rw[oA,zed];rw[oA] at QL;exact(Nv kS gV vk uk src (by simpa [aO] using QL)).after rfl kE
 |some a=>
  rw[hb] at g5 i6;obtain⟨v',cap,g6,g7,a',sk,rfl,g8,rfl,g9⟩:=g5;simp only[zdj] at g6;subst g6;obtain⟨j1,⟨C,Lh,fz,j2,j3,j4⟩,j5,j6⟩:=i6;replace j4:=j4 rfl
  simp only[zdk,if_false] at j5;have mE:ed N D w te xs (aV w a):=j6;have FH:=vW (len:=nm.len-off) mE (by rw[<-iJ te,<-i3];exact⟨a',sk,rfl,g8,rfl,g9⟩) (by rw[<-i4];omega)
  have htk:((xs.drop off).take (nm.len-off):List te.den)=xs.drop off:=zdN (by have:=hlen;simp only[aO] at this;omega)
  rw[htk] at FH;by_cases lf:nm.len-off+aO (β:=te.den) ys<=sk
  ·have jI:=src.app.fits (some a') _ sk lf
   simp only at jI;have FC:off*te.size+sk*te.size<=nm.cap*te.size:=by rw[<-zdx];exact zdw _ g7
   have yf:(nm.len-off)*te.size+cs.length<=sk*te.size:=by rw[src.len,<-zdx];exact zdw _ lf
   have jZ:(storeCells (a'.add ((nm.len-off)*i.size)) cs).run P w= .ok () (w.setCells a.block (a.off+off*te.size+(nm.len-off)*te.size) cs):=by
    by_cases hc:cs=[]
    ·subst hc;rfl
    ·have lR:sk≠0:=by
      intro e0;have:aO (β:=te.den) ys=0:=by omega
      have:=src.len;rw[‹aO (β:=te.den) ys=0›,zd1] at this;exact hc (zdM this)
     rcases g9 with rfl|g9
     ·rw[i3,iJ,xz,vk]
      simp only[Addr.at_];rw[pa j2 (j4.imp_right And.left) (by omega) src.one,zdy]
     ·exact absurd g9 lR
   rw[jZ] at jI;simp only[zdF] at jI;obtain⟨o1,o2,o3⟩:=kT a.block cs (a.off+off*te.size+(nm.len-off)*te.size) w;obtain⟨C',f1,f2⟩:=je a.block cs (a.off+off*te.size+(nm.len-off)*te.size) w C Lh fz j2;have Ua:=jA a.block cs (a.off+off*te.size+(nm.len-off)*te.size) w;have one:=kx a.block cs (a.off+off*te.size+(nm.len-off)*te.size) w;have hD: ∀b,D b->(w.setCells a.block (a.off+off*te.size+(nm.len-off)*te.size) cs).heap[b]?=w.heap[b]?:=λb uX=>one b (λe=>j5.2 (e▸uX));have OY:aO (β:=te.den) (xs.drop off++ys)=nm.len-off+aO (β:=te.den) ys:=by rw[<-hlen];simp[aO]
   obtain⟨N',n1,n2,n3⟩:=S.move (id:=id) (mD:=⟨some (Addr.at_ a (off*te.size)),rX te,true,nm.len-off+aO (β:=te.den) ys,sk⟩) (a':=Addr.at_ a (off*te.size)) (o':= .row false te (xs.drop off++ys:List te.den)) ho rfl g1 hb gV rfl rfl o1 o2 o3 Ua one (by
    refine⟨_,Names.BQ,rfl,rfl,OY.symm,lf,?_⟩;show _/\_/\_/\_
    refine⟨rfl,⟨C',Lh,fz,f1,by simp only[Addr.at_];rw[f2];omega,λ_=>by rw[f2];exact j4⟩,by simp only[zdk,if_false];exact j5,?_⟩
    have hA:ed N D w te (xs.drop off:List te.den) (aV w (Addr.at_ a (off*te.size))):=by
     have:=mE.drop off;have e2:(λj=>aV w a (off*te.size+j))=aV w (Addr.at_ a (off*te.size)):=by
      funext j;simp only[aV,Addr.at_,zdy]
     rw[<-e2];exact this
    refine ed.append ((hA.Ns ((S.kill q).1.Ro gV _) (λ_ h=>h) hD).congr λj hj=>?_) ((src.row.Ns ((S.kill q).1.Ro gV _) (λ_ h=>h) hD).congr λj hj=>?_)
    ·rw[hlen] at hj
     simp only[aV,Addr.at_];exact(World.cell?_setCells_out _ _ _ _ _ (λ_ _=>by simp only;omega)).symm
    ·rw[<-src.len] at hj
     have:=World.cell?_setCells_in a.block cs (a.off+off*te.size+(nm.len-off)*te.size) w (λj hj=>iX j2 (by omega)) j hj
     simp only[aV,Addr.at_];rw[hlen,<-zdy,this];simp)
   refine⟨N',D,_,_,jI,n3,n2,?_⟩;unfold cq;simp only[AV.isAgg,jw,an];refine⟨_,n1,rfl,zek _,lf,?_⟩;show∃v room,_
   refine⟨_,sk,rfl,by simp,a',sk,by simp,by simpa using lf,rfl,?_⟩
   rcases g9 with rfl|g9
   ·left;rw[i3,iJ];simp[Addr.at_]
   ·exact .inr g9
  ·obtain⟨olds,k1,k2,_,k4⟩:=Rn.cells (P:=P) FH
   have zb7:(aO (β:=te.den) (xs.drop off)+aO (β:=te.den) ys)*i.bytes<=70368744177664:=QL;have:=Gg (P:=P) (tys:=tys) (rt:=rt) (e:=e) (z:=z) kS gV vk uk (bs:=(xs.drop off:List te.den)) (olds:=olds) (b:=some a') (cap:=sk) (x:=x) src (by rw[hlen];omega) zb7 (by
    have:=k4 w.drew rfl;rw[vk];rw[hlen] at this⊢;exact this) k1 k2
   rw[hlen] at this;exact this.after rfl kE
end
end AM
namespace AM
open Go
variable {α:Type}{P:Program}{base:Nat}
section
variable {tys:Array TypeId}{rt e:TypeId}{i:TypeInfo}{z:Value}{N:Names}{D:Nat->Prop}{w:World}{te:Ty}{h:Nat->Option fP}
theorem xC {h:Nat->Option fP}{q:Nat}{o:fP}(ho:h q=some o):kn h q o=h:=by
 funext j
 by_cases e:j=q
 ·subst e;simp[kn,ho]
 ·simp[kn,e]
theorem OZ (S:jV N D w base h){q off len:Nat}{xs:List te.den}(ho:h q=some (.row false te xs))(vk:i.size=te.size){ys:List te.den}{cs:List Value}{x v:Value}(src:Src P tys rt e i z N D w te ys x cs)
  (hv:cq N D w (.slice q [] off len) v) (lf:off+len+aO (β:=te.den) ys<=aO (β:=te.den) xs):xB P tys rt base N D w h v x (kn h q (.row false te (xs.take (off+len)++ys++xs.drop (off+len+aO (β:=te.den) ys):List te.den))) (.slice q [] off (len+aO (β:=te.den) ys)):=by
 unfold cq at hv;simp only[AV.isAgg,jw,an] at hv;obtain⟨nm,g1,hv⟩:=hv;obtain⟨mD,i1,i2,i3,i4,i5,i6⟩:=S.obj q _ ho;rw[g1] at i1;cases i1;have OY:aO (β:=te.den) (xs.take (off+len)++ys++xs.drop (off+len+aO (β:=te.den) ys))=nm.len:=by
  rw[i4];simp only[aO,zdm,zdH,zdI];simp only[aO] at lf;omega
 cases hb:nm.base with
 |none=>
  rw[hb] at hv;obtain⟨_,rfl,rfl,g4,g5⟩:=hv;simp only[zdj] at g5;subst g5;have hy0:aO (β:=te.den) ys=0:=by omega
  have hys:ys=[]:=zdM hy0;have Lq:(xs.take (0+0)++ys++xs.drop (0+0+aO (β:=te.den) ys):List te.den)=xs:=by subst hys;simp[aO]
  rw[Lq,xC ho];have jI:=src.app.fits none 0 0 (by omega)
  refine⟨N,D,w,_,jI,Ext.refl _ _ _ _,S,?_⟩;unfold cq;simp only[AV.isAgg,jw,an];refine⟨nm,g1,?_⟩;rw[hb];exact⟨by simp[i2],by simp,by omega,g4,by simp[hy0]⟩
 |some a=>
  rw[hb] at hv i6;simp only at hv;rw[if_pos (by simp[i2])] at hv
  obtain⟨g3,g4,v',room,g5,g6,g7,a',sk,rfl,g8,rfl,g9⟩:=hv;simp only[zdj] at g5;subst g5;obtain⟨j1,⟨C,Lh,fz,j2,j3,j4⟩,j5,j6⟩:=i6;replace j4:=j4 rfl
  simp only[zdk,if_false] at j5;have mE:ed N D w te xs (aV w a):=j6;have jI:=src.app.fits (some a') len sk (by omega)
  simp only at jI;have FC:(off+len)*te.size+cs.length<=nm.cap*te.size:=by rw[src.len,<-zdx];exact zdw _ (by omega)
  have jZ:(storeCells (a'.add (len*i.size)) cs).run P w= .ok () (w.setCells a.block (a.off+(off+len)*te.size) cs):=by
   by_cases hc:cs=[]
   ·subst hc;rfl
   ·have lR:sk≠0:=by
     intro e0;have h0:aO (β:=te.den) ys=0:=by omega
     have:=src.len;rw[h0,zd1] at this;exact hc (zdM this)
    rcases g9 with rfl|g9
    ·rw[i3,iJ,xz,vk]
     simp only[Addr.at_];rw[pa j2 (j4.imp_right And.left) (by rw[<-zdx];omega) src.one,<-zdx]
    ·exact absurd g9 lR
  rw[jZ] at jI;simp only[zdF] at jI;obtain⟨o1,o2,o3⟩:=kT a.block cs (a.off+(off+len)*te.size) w;obtain⟨C',f1,f2⟩:=je a.block cs (a.off+(off+len)*te.size) w C Lh fz j2;have Ua:=jA a.block cs (a.off+(off+len)*te.size) w;have one:=kx a.block cs (a.off+(off+len)*te.size) w;have hD: ∀b,D b->(w.setCells a.block (a.off+(off+len)*te.size) cs).heap[b]?=w.heap[b]?:=λb uX=>one b (λe=>j5.2 (e▸uX));have KO:=mE.mono (λ_ h=>h) hD;have key:=S.write (o':= .row false te (xs.take (off+len)++ys++xs.drop (off+len+aO (β:=te.den) ys):List te.den)) ho rfl g1 hb o1 o2 o3 Ua one (by
   refine⟨nm,g1,i2,i3,OY.symm,i5,?_⟩;rw[hb];show _/\_/\_/\_
   refine⟨j1,⟨C',Lh,fz,f1,by rw[f2];exact j3,λ_=>by rw[f2];exact j4⟩,by simp only[zdk,if_false];exact j5,?_⟩
   have I2:aO (β:=te.den) (xs.take (off+len))=off+len:=by simp only[aO,zdH];simp only[aO] at lf;omega
   have X7:aO (β:=te.den) (xs.take (off+len)++ys)=off+len+aO (β:=te.den) ys:=by rw[<-I2];simp[aO]
   have hA:ed N D (w.setCells a.block (a.off+(off+len)*te.size) cs) te (xs.take (off+len):List te.den) (aV (w.setCells a.block (a.off+(off+len)*te.size) cs) a):=by
    refine(KO.take (off+len)).congr λj hj=>?_;rw[I2] at hj;simp only[aV];exact(World.cell?_setCells_out _ _ _ _ _ (λ_ _=>by simp only;omega)).symm
   have hB:ed N D (w.setCells a.block (a.off+(off+len)*te.size) cs) te ys (λj=>aV (w.setCells a.block (a.off+(off+len)*te.size) cs) a ((off+len)*te.size+j)):=by
    refine(src.row.mono (λ_ h=>h) hD).congr λj hj=>?_;rw[<-src.len] at hj;have:=World.cell?_setCells_in a.block cs (a.off+(off+len)*te.size) w (λj hj=>iX j2 (by omega)) j hj
    simp only[aV];rw[<-zdy,this];simp
   have hC:ed N D (w.setCells a.block (a.off+(off+len)*te.size) cs) te (xs.drop (off+len+aO (β:=te.den) ys):List te.den) (λj=>aV (w.setCells a.block (a.off+(off+len)*te.size) cs) a ((off+len+aO (β:=te.den) ys)*te.size+j)):=by
    refine(KO.drop _).congr λj hj=>?_;simp only[aV];refine(World.cell?_setCells_out _ _ _ _ _ (λ_ _=>?_)).symm;right
    simp only;rw[src.len,zdx (off+len)];omega
   exact ed.append (ed.append hA (by rw[I2];exact hB)) (by rw[X7];exact hC))
  refine⟨N,D,_,_,jI,key.2,key.1,?_⟩;unfold cq;simp only[AV.isAgg,jw,an];refine⟨nm,g1,?_⟩;rw[hb];simp only;rw[if_pos (by simp[i2])]
  exact⟨by omega,i5,_,sk,rfl,g6,g7,a',sk,rfl,by omega,rfl,g9⟩
end
theorem DH {dst rt pos after guard}{x y:Operand}{args:Array Operand}{tys:Array TypeId}{st eY:St}{u:AV}(ha:args.toList=[x,y])(h:eY.t=st.t/\eY.nt=st.nt/\eY.ep=st.ep)(I0: ∀j,j∉vd (st.ev x)->j/100≠st.ep*1000+dst.getD 999->eY.h j=st.h j)
  (HH: ∀N D w a,kt N D w base st a->xB P tys rt base N D w st.h (a.eval x) (a.eval y) eY.h u):lq P base ⟨dst, .call ⟨.builtin .append,args,tys⟩,rt,pos,after,guard⟩ st u eY:=by
 refine⟨h.1,h.2.1,h.2.2,λj hj hn=>I0 j (λe=>hj (by simp[Nb,ha,e])) (λe=>by simp[qo,makes,e] at hn),λN D w a s=>?_⟩
 obtain⟨N',D',w',v',h1,h2,h3,h4⟩:=HH N D w a s;have nu:args= #[x,y]:=by cases args;simp at ha;subst ha;rfl
 subst nu;refine⟨N',D',w',v', .inl ?_,h2,h3,h4⟩;simp[execOp,resolve,invoke,builtin,h1]
theorem BV {t:TypeId}(h:yW P t=true): ∃d,P.underlying t=some d/\∀k,d≠ .int k:=by
 unfold yW at h;split at h
 ·cases h
 ·rename_i hk hd
  exact⟨_,hd,λk e=>hk k e⟩
 ·cases h
theorem xD (a:Option Addr)(n c:Nat)(w:World):(Builtin.lenOf (.slice a n c)).run P w= .ok n w:=by simp[Builtin.lenOf]
theorem Gh {tys:Array TypeId}{t u rt e:TypeId}{i:TypeInfo}{z:Value}{N:Names}{D:Nat->Prop}{w:World}{te:Ty}{ys:List te.den}{c:Value}(h0:tys[0]?=some t)(h1:tys[1]?=some u)(ht:P.underlying t=some (.slice e))(hi:P.info? e=some i)(hz:i.zero=some z)(hb:1<=i.bytes)(vk:i.size=te.size)
  (hu:yW P u=true) (hn:Rn N D w te ys c): ∃cs,Src P tys rt e i z N D w te ys c cs:=by
 obtain⟨d,hd,hk⟩:=BV hu;obtain⟨cs,k1,k2,k3,k4⟩:=Rn.cells (P:=P) hn;obtain⟨a,cap,rfl,_⟩:=hn;refine⟨cs,xA.of h0 h1 ht hi hz hb hd hk (λw'=>xD _ _ _ w') ?_ ?_,k1,k2,k3⟩
 ·rw[vk];exact k4 w rfl
 ·rw[vk];exact k4 w.drew rfl
theorem Gi {N:Names}{D:Nat->Prop}{w:World}(b:ByteArray):ed N D w (.int .u8) (b.data.toList.map λc=>((c.toNat:Nat):Int)) ((b.data.toList.map λc=>Value.int .u8 c.toNat)[·]?):=by
 intro i x hx;show _=_
 have key: ∀y:Int,(b.data.toList.map λc=>((c.toNat:Nat):Int))[i]?=some y->∃c,b.data.toList[i]?=some c/\y=((c.toNat:Nat):Int):=by
  intro y hy;rw[zej,zd9] at hy;obtain⟨c,hc,rfl⟩:=hy;exact⟨c,hc,rfl⟩
 obtain⟨c,hc,rfl⟩:=key x hx;simp only[Ty.size,zel,zec,zej,hc,zds]
theorem Ls {N:Names}{tys:Array TypeId}{t u rt e:TypeId}{i:TypeInfo}{z:Value}{D:Nat->Prop}{w:World}{b:ByteArray}(h0:tys[0]?=some t)(h1:tys[1]?=some u)(ht:P.underlying t=some (.slice e))(hi:P.info? e=some i)(hz:i.zero=some z)(hb:1<=i.bytes)
  (hu:yW P u=true):Src P tys rt e i z N D w (.int .u8) (b.data.toList.map λc=>((c.toNat:Nat):Int)) (.string b) (b.data.toList.map λc=>Value.int .u8 c.toNat):=by
 obtain⟨d,hd,hk⟩:=BV hu;have hl:aO (β:=Int) (b.data.toList.map λc=>((c.toNat:Nat):Int))=b.size:=by simp[aO]
 have hf: ∀w':World,(Builtin.firstCells i.size b.size (.string b)).run P w'= .ok (b.data.toList.map λc=>Value.int .u8 c.toNat).toArray w':=by
  intro w';have:b.extract 0 b.size=b:=by simp
  simp only[Builtin.firstCells,this,zdG];congr 1
  apply Array.ext';simp
 refine⟨xA.of h0 h1 ht hi hz hb hd hk (λw'=>?_) ?_ ?_,?_,Gi b,?_⟩
 ·rw[show aO (β:=(Ty.int .u8).den) (b.data.toList.map λc=>((c.toNat:Nat):Int))=b.size from hl]
  simp[Builtin.lenOf]
 ·rw[show aO (β:=(Ty.int .u8).den) (b.data.toList.map λc=>((c.toNat:Nat):Int))=b.size from hl]
  exact hf w
 ·rw[show aO (β:=(Ty.int .u8).den) (b.data.toList.map λc=>((c.toNat:Nat):Int))=b.size from hl]
  exact hf w.drew
 ·rw[show aO (β:=(Ty.int .u8).den) (b.data.toList.map λc=>((c.toNat:Nat):Int))=b.size from hl]
  simp[Ty.size]
 ·intro v hv
  simp only[List.mem_map] at hv;obtain⟨c,_,rfl⟩:=hv;rfl
end AM
namespace AM
open Go
variable {α:Type}{P:Program}{base:Nat}
theorem X8 {t:Ty}{xs:List t.den}{ys:List t.den}(h:rW t t xs=some ys):ys=xs:=by
 obtain⟨_,h⟩:=iK h;exact h
theorem O0 {N:Names}{tys:Array TypeId}{t u rt e:TypeId}{i:TypeInfo}{z:Value}{D:Nat->Prop}{w:World}{te:Ty}{n:Int}(h0:tys[0]?=some t)(h1:tys[1]?=some u)(ht:P.underlying t=some (.slice e))(hi:P.info? e=some i)(hz:i.zero=some z)(hb:1<=i.bytes)(vk:i.size=te.size)
  {k k':IntKind} (hu:P.underlying u=some (.int k)) (WT:0<=n) (OX:n*(i.bytes:Int)<=70368744177664) (zc:z.cells.toList=mR te (iy te)):Src P tys rt e i z N D w te (List.replicate n.toNat (iy te)) (.int k' n) (Builtin.zeroCells z.cells n.toNat).toList:=by
 have uk:z.cells.size=te.size:=by rw[<-mV te,<-zc];simp
 have hl:aO (β:=te.den) (List.replicate n.toNat (iy te))=n.toNat:=by simp[aO]
 refine⟨by rw[hl];exact xA.Jp h0 h1 ht hi hz hb hu WT OX (by rw[uk,vk]),by rw[hl];simp[size_zeroCells,uk],ed.Jp n.toNat zc λj hj=>?_,λv hv=>?_⟩
 ·have hp:0<te.size:=by
   rcases zdD te.size with q|q
   ·rw[q] at hj;omega
   ·exact q
  have hm:j%te.size<z.cells.size:=by rw[uk];exact Nat.mod_lt _ hp
  simp only[Builtin.zeroCells,Array.getElem?_toList];rw[Array.getElem?_map,Array.getElem?_range,if_pos (by rw[uk];exact hj),zds]
  rw[uk] at hm⊢;rw[getElem!_pos z.cells _ (by rw[uk];exact hm),zdV (by rw[uk];exact hm)]
 ·simp only[Builtin.zeroCells,Array.mem_toList_iff,Array.mem_map,Array.mem_range] at hv
  obtain⟨j,hj,rfl⟩:=hv;have hp:0<z.cells.size:=by
   rcases zdD z.cells.size with q|q
   ·rw[q] at hj;omega
   ·exact q
  have hm:j%z.cells.size<z.cells.size:=Nat.mod_lt _ hp;rw[getElem!_pos z.cells _ hm];have h2:ed N D w te [iy te] (z.cells[·]?):=by
   intro i x hx;have QM:i=0:=by have:=yh hx;simp only[aO,zdn,zdo] at this;omega
   subst QM;simp only[jU,zdP,zdj] at hx;subst hx;refine rH te _ λj hj=>?_;rw[<-zc];simp
  obtain⟨c,h3,h4⟩:=h2.cell (j:=j%z.cells.size) (by simp only[aO,zdn,zdo];omega)
  rw[zdV hm] at h3;cases h3;exact h4
theorem Gj {st:St}{id:Nat}{e:TypeId}{te:Ty}{bs ys:List te.den}{k:AV->St->Option α}{r:α}(h:grow P st id e te bs ys k=some r):
  st.h id=none/\k (.tail id 0) (st.set id (.row false te (bs++ys:List te.den)))=some r/\(aO (β:=te.den) bs+aO (β:=te.den) ys)*P.bytesOf e<=70368744177664:=by
 unfold grow at h;obtain⟨h1,h2⟩:=jk h;obtain⟨h3,h4⟩:=zR h2;refine⟨h3,h4,?_⟩;rw[HG] at h1;have:(((aO (β:=te.den) bs+aO (β:=te.den) ys)*P.bytesOf e:Nat):Int)<=(70368744177664:Nat):=by
  rw[Int.natCast_mul];exact h1
 omega
theorem DI {st:St}{id:Nat}{ty e tx:TypeId}{tys:Array TypeId}{rt:TypeId}{te:Ty}{bs:List te.den}{y:AV}{k:AV->St->Option α}{r:α}(zQ:zA P tx=some (e,te))(h0:tys[0]?=some tx)(h1:tys[1]?=some ty)(h:grown P st id ty e te bs y k=some r):
  ∃(ys:List te.den) (i:TypeInfo) (z:Value),P.info? e=some i/\i.zero=some z/\i.size=te.size/\z.cells.size=te.size/\st.h id=none/\k (.tail id 0) (st.set id (.row false te (bs++ys:List te.den)))=some r/\(aO (β:=te.den) bs+aO (β:=te.den) ys)*i.bytes<=70368744177664/\
   ∀N D w base,jV N D w base st.h->∀c,cq N D w y c->∃cs,Src P tys rt e i z N D w te ys c cs:=by
 obtain⟨hu,Nr,hsz,hb,i,hi,vk,Rp,z,hz,uk⟩:=qh zQ;rw[<-Rp] at hb;unfold grown at h;split at h
 ·rename_i n
  split at h
  ·rename_i ki hty
   obtain⟨⟨h2,h3⟩,h4⟩:=jk h;obtain⟨v,i',z',h5,nA,Ub,X0,zc,_,_⟩:=rJ h4;rw[hi] at nA;cases nA;rw[hz] at Ub;cases Ub;obtain⟨h6,h7⟩:=zR h5;have vl:=tu 12 e te v Nr X0;rw[<-zc] at vl;rw[HG,<-Rp] at h3;have hl:aO (β:=te.den) (List.replicate n.toNat (iy te))=n.toNat:=by simp[aO]
   refine⟨_,i,z,hi,hz,vk,uk,h6,h7,?_,λN D w base S c hc=>?_⟩
   ·rw[hl]
    have:(((aO (β:=te.den) bs+n.toNat)*i.bytes:Nat):Int)<=(70368744177664:Nat):=by
     rw[Int.natCast_mul,Int.natCast_add,Int.toNat_of_nonneg h2];exact h3
    omega
   ·rw[ee.1 hc]
    refine⟨_,O0 h0 h1 hu hi hz hb vk hty h2 ?_ vl⟩;have:n*(i.bytes:Int)<=((bs.length:Int)+n)*(i.bytes:Int):=Int.mul_le_mul_of_nonneg_right (by omega) (by omega)
    omega
  ·cases h
 ·rename_i b
  split at h
  ·rename_i ys hni hc
   obtain⟨rfl,rfl⟩:=iK hc;obtain⟨h2,h3,h4⟩:=Gj h;refine⟨_,i,z,hi,hz,vk,uk,h2,h3,by rw[Rp];exact h4,λN D w base S c hc=>?_⟩
   rw[ee.1 hc];exact⟨_,Ls h0 h1 hu hi hz hb hni⟩
  ·cases h
 ·replace h:=jl h;obtain⟨hni,h⟩:=h
  obtain⟨ys,ids,h2,h3⟩:=uA h;obtain⟨h4,h5,h6⟩:=Gj h2;exact⟨ys,i,z,hi,hz,vk,uk,h4,h5,by rw[Rp];exact h6,λN D w base S c hc=>Gh (N:=N) h0 h1 hu hi hz hb vk hni (h3 N D w base S c hc)⟩
theorem Jq {dst rt pos after guard}{x y:Operand}{args:Array Operand}{tys:Array TypeId}{tx ty:TypeId}{A2:List TypeId}{st:St}{id:Nat}(pF:id=name st.ep (dst.getD 999) 0){k:AV->St->Option α}{r:α}(ha:args.toList=[x,y])(ht:tys.toList=tx::ty::A2)
  (h:Dp P st id tx ty (st.ev x) (st.ev y) k=some r):nT P base ⟨dst, .call ⟨.builtin .append,args,tys⟩,rt,pos,after,guard⟩ st k r:=by
 have h0:tys[0]?=some tx:=by cases tys;simp at ht;subst ht;simp
 have h1:tys[1]?=some ty:=by cases tys;simp at ht;subst ht;simp
 unfold Dp at h;split at h
 ·rename_i e te zQ
  split at h
  ·rename_i e1
   obtain⟨ys,i,z,hi,hz,vk,uk,h2,h3,h4,h5⟩:=DI (rt:=rt) zQ h0 h1 h;refine⟨_,_,h3,DH ha ⟨rfl,rfl,rfl⟩ (λj _ hn=>by
    have hj:j≠id:=λe=>hn (by rw[e,pF,qW])
    simp[St.set,hj]) λN D w a s=>?_⟩
   obtain⟨cs,src⟩:=h5 N D w base s.nr _ (s.Fy y);rw[s.sJ e1,St.sY];exact Nv s.nr h2 vk uk src (by simpa [aO] using h4)
  ·rename_i q off e1
   split at h
   ·rename_i t' xs ho
    split at h
    ·rename_i BW hc
     obtain⟨rfl,rfl⟩:=iK hc;obtain⟨ys,i,z,hi,hz,vk,uk,h2,h3,h4,h5⟩:=DI (rt:=rt) zQ h0 h1 h;refine⟨_,_,h3,DH ha ⟨rfl,rfl,rfl⟩ (λj hj0 hn=>by
      have hj:j≠id:=λe=>hn (by rw[e,pF,qW])
      have hq:j≠q:=λe=>hj0 (by rw[e1];simp[vd,e])
      simp[St.set,hj,hq]) λN D w a s=>?_⟩
     obtain⟨cs,src⟩:=h5 N D w base (by rw[St.sY];exact(s.nr.kill q).1) _ (s.Fy y)
     rw[St.sY,St.sY];exact Rq s.nr ho h2 vk uk src (s.uj e1) h4
    ·cases h
   ·cases h
  ·rename_i q off len e1
   split at h
   ·rename_i t' xs ho
    split at h
    ·rename_i BW hc
     obtain⟨rfl,rfl⟩:=iK hc;replace h:=jl h;obtain⟨hni,h⟩:=h
     obtain⟨ys,ids,h2,h3⟩:=uA h;unfold inPlace at h2;obtain⟨h4,h5⟩:=jk h2;obtain⟨hu,Nr,hsz,hb,i,hi,vk,Rp,z,hz,uk⟩:=qh zQ;rw[<-Rp] at hb;refine⟨_,_,h5,DH ha ⟨rfl,rfl,rfl⟩ (λj hj0 _=>by
      have hq:j≠q:=λe=>hj0 (by rw[e1];simp[vd,e])
      simp[St.set,hq]) λN D w a s=>?_⟩
     obtain⟨cs,src⟩:=Gh (rt:=rt) (N:=N) h0 h1 hu hi hz hb vk hni (h3 N D w base s.nr _ (s.Fy y));rw[St.sY];exact OZ s.nr ho vk src (s.uj e1) h4
    ·cases h
   ·cases h
  ·cases h
 ·cases h
end AM
namespace AM
open Go
variable {α:Type}{P:Program}{base:Nat}
theorem UA {N:Names}{D:Nat->Prop}{w:World}{te:Ty}{h:Nat->Option fP}(S:jV N D w base h){q p:Nat}{xs ys:List te.den}(ho:h q=some (.row false te xs)){cs:List Value}(hl:cs.length=aO (β:=te.den) ys*te.size)(hr:ed N D w te ys (cs[·]?))(h1: ∀v∈cs,v.oneCell'=true)
  {nm:Nm} {a:Addr} (g1:N q=some nm) (hb:nm.base=some a) (lf:p+aO (β:=te.den) ys<=aO (β:=te.den) xs):
  (storeCells (Addr.at_ a (p*te.size)) cs).run P w= .ok () (w.setCells a.block (a.off+p*te.size) cs)/\
  jV N D (w.setCells a.block (a.off+p*te.size) cs) base (kn h q (.row false te (xs.take p++ys++xs.drop (p+aO (β:=te.den) ys):List te.den)))/\Ext N D w h N D (w.setCells a.block (a.off+p*te.size) cs) (kn h q (.row false te (xs.take p++ys++xs.drop (p+aO (β:=te.den) ys):List te.den))):=by
 obtain⟨mD,i1,i2,i3,i4,i5,i6⟩:=S.obj q _ ho;rw[g1] at i1;cases i1;have OY:aO (β:=te.den) (xs.take p++ys++xs.drop (p+aO (β:=te.den) ys))=nm.len:=by
  rw[i4];simp only[aO,zdm,zdH,zdI];simp only[aO] at lf;omega
 rw[hb] at i6;obtain⟨j1,⟨C,Lh,fz,j2,j3,j4⟩,j5,j6⟩:=i6;replace j4:=j4 rfl
 simp only[zdk,if_false] at j5;have mE:ed N D w te xs (aV w a):=j6;have FC:p*te.size+cs.length<=nm.cap*te.size:=by rw[hl,<-zdx];exact zdw _ (by omega)
 have jI:(storeCells (Addr.at_ a (p*te.size)) cs).run P w= .ok () (w.setCells a.block (a.off+p*te.size) cs):=by
  simp only[Addr.at_];exact pa j2 (j4.imp_right And.left) (by omega) h1
 obtain⟨o1,o2,o3⟩:=kT a.block cs (a.off+p*te.size) w;obtain⟨C',f1,f2⟩:=je a.block cs (a.off+p*te.size) w C Lh fz j2;have Ua:=jA a.block cs (a.off+p*te.size) w;have one:=kx a.block cs (a.off+p*te.size) w;have hD: ∀b,D b->(w.setCells a.block (a.off+p*te.size) cs).heap[b]?=w.heap[b]?:=λb uX=>one b (λe=>j5.2 (e▸uX));have KO:=mE.mono (λ_ h=>h) hD;refine⟨jI,S.write (o':= .row false te (xs.take p++ys++xs.drop (p+aO (β:=te.den) ys):List te.den)) ho rfl g1 hb o1 o2 o3 Ua one ?_⟩;refine⟨nm,g1,i2,i3,OY.symm,i5,?_⟩;rw[hb];show _/\_/\_/\_
 refine⟨j1,⟨C',Lh,fz,f1,by rw[f2];exact j3,λ_=>by rw[f2];exact j4⟩,by simp only[zdk,if_false];exact j5,?_⟩
 have I2:aO (β:=te.den) (xs.take p)=p:=by simp only[aO,zdH];simp only[aO] at lf;omega
 have X7:aO (β:=te.den) (xs.take p++ys)=p+aO (β:=te.den) ys:=by
  have:aO (β:=te.den) (xs.take p++ys)=aO (β:=te.den) (xs.take p)+aO (β:=te.den) ys:=by simp[aO]
  rw[this,I2]
 have hA:ed N D (w.setCells a.block (a.off+p*te.size) cs) te (xs.take p:List te.den) (aV (w.setCells a.block (a.off+p*te.size) cs) a):=by
  refine(KO.take p).congr λj hj=>?_;rw[I2] at hj;simp only[aV];exact(World.cell?_setCells_out _ _ _ _ _ (λ_ _=>by simp only;omega)).symm
 have hB:ed N D (w.setCells a.block (a.off+p*te.size) cs) te ys (λj=>aV (w.setCells a.block (a.off+p*te.size) cs) a (p*te.size+j)):=by
  refine(hr.mono (λ_ h=>h) hD).congr λj hj=>?_;rw[<-hl] at hj;have:=World.cell?_setCells_in a.block cs (a.off+p*te.size) w (λj hj=>iX j2 (by omega)) j hj
  simp only[aV];rw[<-zdy,this];simp
 have hC:ed N D (w.setCells a.block (a.off+p*te.size) cs) te (xs.drop (p+aO (β:=te.den) ys):List te.den) (λj=>aV (w.setCells a.block (a.off+p*te.size) cs) a ((p+aO (β:=te.den) ys)*te.size+j)):=by
  refine(KO.drop _).congr λj hj=>?_;simp only[aV];refine(World.cell?_setCells_out _ _ _ _ _ (λ_ _=>?_)).symm;right
  simp only;rw[hl,zdx p];omega
 exact ed.append (ed.append hA (by rw[I2];exact hB)) (by rw[X7];exact hC)
theorem Lt {N:Names}{D:Nat->Prop}{w:World}{te:Ty}{z:Value}{n:Nat}(zc:z.cells.toList=mR te (iy te)):(Builtin.zeroCells z.cells n).toList.length=aO (β:=te.den) (List.replicate n (iy te))*te.size/\ed N D w te (List.replicate n (iy te)) ((Builtin.zeroCells z.cells n).toList[·]?)/\∀v∈(Builtin.zeroCells z.cells n).toList,v.oneCell'=true:=by
 have uk:z.cells.size=te.size:=by rw[<-mV te,<-zc];simp
 refine⟨by simp[size_zeroCells,uk,aO],ed.Jp n zc λj hj=>?_,λv hv=>?_⟩
 ·have hp:0<te.size:=by
   rcases zdD te.size with q|q
   ·rw[q] at hj;omega
   ·exact q
  have hm:j%te.size<z.cells.size:=by rw[uk];exact Nat.mod_lt _ hp
  simp only[Builtin.zeroCells,Array.getElem?_toList];rw[Array.getElem?_map,Array.getElem?_range,if_pos (by rw[uk];exact hj),zds]
  rw[uk] at hm⊢;rw[getElem!_pos z.cells _ (by rw[uk];exact hm),zdV (by rw[uk];exact hm)]
 ·simp only[Builtin.zeroCells,Array.mem_toList_iff,Array.mem_map,Array.mem_range] at hv
  obtain⟨j,hj,rfl⟩:=hv;have hp:0<z.cells.size:=by
   rcases zdD z.cells.size with q|q
   ·rw[q] at hj;omega
   ·exact q
  have hm:j%z.cells.size<z.cells.size:=Nat.mod_lt _ hp;rw[getElem!_pos z.cells _ hm];have h2:ed N D w te [iy te] (z.cells[·]?):=by
   intro i x hx;have QM:i=0:=by have:=yh hx;simp only[aO,zdn,zdo] at this;omega
   subst QM;simp only[jU,zdP,zdj] at hx;subst hx;refine rH te _ λj hj=>?_;rw[<-zc];simp
  obtain⟨c,h3,h4⟩:=h2.cell (j:=j%z.cells.size) (by simp only[aO,zdn,zdo];omega)
  rw[zdV hm] at h3;cases h3;exact h4
theorem Lu {dst rt pos after guard}{x:Operand}{args:Array Operand}{tys:Array TypeId}{tx:TypeId}{A2:List TypeId}{st:St}{k:AV->St->Option α}{r:α}(ha:args.toList=[x])(ht:tys.toList=tx::A2)
  (h:Hn P st tx (st.ev x) k=some r):nT P base ⟨dst, .call ⟨.builtin .clear,args,tys⟩,rt,pos,after,guard⟩ st k r:=by
 have nu:args= #[x]:=by cases args;simp at ha;subst ha;rfl
 have zO:tys[0]?=some tx:=by cases tys;simp at ht;subst ht;simp
 subst nu;unfold Hn at h;split at h
 ·rename_i e te zQ
  obtain⟨hu,zb8,hsz,_⟩:=qh zQ;obtain⟨zv,i,z,h,hi,hz,X0,zc,uk,_⟩:=rJ h;have hzf:z.cells.toList=mR te (iy te):=by rw[zc];exact tu 12 e te zv zb8 X0
  split at h
  ·rename_i q off len e1
   split at h
   ·rename_i t' xs ho
    split at h
    ·rename_i ys hc
     obtain⟨rfl,rfl⟩:=iK hc;refine⟨_,_,h,rfl,rfl,rfl,λj hj _=>?_,λN D w a s=>?_⟩
     ·have lR:j≠q:=by
       rintro rfl
       exact hj (by simp[Nb,e1,vd])
      simp[St.set,lR]
     ·have hv:=s.uj e1
      unfold cq at hv;simp only[AV.isAgg,jw,an] at hv;obtain⟨nm,g1,hv⟩:=hv;obtain⟨mD,i1,i2,i3,i4,i5,i6⟩:=s.nr.obj q _ ho;rw[g1] at i1;cases i1;cases hb:nm.base with
      |none=>
       rw[hb] at hv;obtain⟨_,rfl,rfl,g4,g5⟩:=hv;simp only[zdj] at g5;have Hw:ys=[]:=zdM (by simp only[aO] at i4;omega)
       subst Hw;have vn:kn st.h q (.row false t' (([]:List t'.den).take 0++List.replicate 0 (iy t')++([]:List t'.den).drop (0+0):List t'.den))=st.h:=by simpa using xC ho
       refine⟨N,D,w, .tuple #[], .inl ?_,?_,?_,lJ.2 ⟨#[],rfl,by simp only[bA]⟩⟩
       ·simp[execOp,resolve,invoke,builtin,Builtin.clear_,zO,g5,run_underlying hu]
       ·show Ext N D w st.h N D w (kn st.h q _)
        rw[vn];exact Ext.refl _ _ _ _
       ·show jV N D w base (kn st.h q _)
        rw[vn];exact s.nr
      |some ad=>
       rw[hb] at hv;simp only at hv;rw[if_pos (by simp[i2])] at hv
       obtain⟨g3,g4,v',room,g5,g6,g7,a',sk,rfl,g8,rfl,g9⟩:=hv;simp only[zdj] at g5;obtain⟨z1,z2,z3⟩:=Lt (N:=N) (D:=D) (w:=w) (n:=len) hzf;have hrl:aO (β:=t'.den) (List.replicate len (iy t'))=len:=by simp[aO]
       obtain⟨p1,p2,p3⟩:=UA (P:=P) (p:=off) (ys:=(List.replicate len (iy t'):List t'.den)) s.nr ho z1 z2 z3 g1 hb (by rw[hrl,<-i4];exact g3)
       rw[hrl] at p2 p3;have zcZ: ∀l,List.replicate l (iy t')=(List.replicate l (iy t'):List t'.den):=λ_=>rfl;have Fz:ad.spot=none:=by rw[hb] at i6;exact i6.1
       cases len with
       |zero=>
        have hxx:(ys.take off++List.replicate 0 (iy t')++ys.drop (off+0):List t'.den)=ys:=by simp
        refine⟨N,D,w, .tuple #[], .inl ?_,?_,?_,lJ.2 ⟨#[],rfl,by simp only[bA]⟩⟩
        ·simp[execOp,resolve,invoke,builtin,Builtin.clear_,zO,g5,run_underlying hu]
        ·show Ext N D w st.h N D w (kn st.h q (.row false t' (ys.take off++List.replicate 0 (iy t')++ys.drop (off+0):List t'.den)))
         rw[hxx,xC ho];exact Ext.refl _ _ _ _
        ·show jV N D w base (kn st.h q (.row false t' (ys.take off++List.replicate 0 (iy t')++ys.drop (off+0):List t'.den)))
         rw[hxx,xC ho];exact s.nr
       |succ n=>
        have ha':a'=Addr.at_ ad (off*t'.size):=by
         rcases g9 with h9|h9
         ·rw[h9,i3,iJ]
         ·omega
        subst ha';refine⟨N,D,_, .tuple #[], .inl ?_,p3,p2,lJ.2 ⟨#[],rfl,by simp only[bA]⟩⟩
        have hzv:(zeroValue e).run P w= .ok z w:=by simp[zeroValue,typeInfo,hi,hz]
        simp[execOp,resolve,invoke,builtin,Builtin.clear_,zO,g5,run_underlying hu,hzv,p1]
    ·cases h
   ·cases h
  ·cases h
 ·cases h
end AM
