/- An abstract machine over programs of the model, and its soundness: what it tells of a function, the model's machine does. Conditions: none. -/
import GoSem.Claim
import Derived.Calls
import Derived.Laws.Sem
import Derived.KernelRfl
import Derived.Laws.Entries
import Derived.ChangeKeysEq
import Derived.Laws.Cells
import Derived.Laws.IdiomCopy
import Derived.Below
import Derived.Laws.Slices
import Derived.Laws.IdiomStrings
import Derived.Laws.MakeOwn
set_option linter.unusedVariables false
set_option linter.unusedSimpArgs false
namespace AM
theorem zdF.{u,v} {α : Type u} {β : Type v} (a : α) (f : α → Option β) : (some a).bind f = f a := rfl
theorem zdG.{u} {α : Sort u} (a b : α) : cond false a b = b := rfl
theorem zdH.{u} {α : Sort u} (a b : α) : cond true a b = a := rfl
theorem zdI (n : Nat) : ((n : Int)).toNat = n := rfl
theorem zdJ : (!true) = false := rfl
theorem zdK : (!false) = true := rfl
theorem zdL.{u} {α : Type u} {l : List α} {i : Nat} (h : i < l.length) : l[i]? = some l[i] := List.getElem?_eq_getElem h
theorem zdM.{u} {α : Type u} (a b : α) : (some a = some b) = (a = b) := Option.some.injEq a b
theorem zdN : (false = true) = False := Bool.false_eq_true
theorem zdO (a b : Bool) : ((a && b) = true) = (a = true ∧ b = true) := Bool.and_eq_true a b
theorem zdP.{u} {α : Type u} {a b : List α} : (a ++ b).length = a.length + b.length := List.length_append
theorem zdQ.{u} {α : Type u} {a : α} {b : List α} : (a :: b).length = b.length + 1 := rfl
theorem zdR.{u} {α : Type u} : ([] : List α).length = 0 := rfl
theorem zdS.{u} {α : Type u} (y : α) {a : α} {l : List α} (h : a ∈ l) : a ∈ y :: l := List.mem_cons_of_mem y h
theorem zdT.{u} {α : Type u} {a : α} {l : List α} : a ∈ a :: l := List.mem_cons_self
theorem zdU {p : Prop} [Decidable p] : (decide p = true) = p := decide_eq_true_eq
theorem zdV.{u,v} {α : Type u} {β : Type v} {a : α} {f : α → β} : (some a).map f = some (f a) := rfl
theorem zdW.{u} {α : Type u} {l : List α} {i : Nat} {a : α} : l.getD i a = l[i]?.getD a := List.getD_eq_getElem?_getD
open Go
abbrev zdX:=@List.mem_append_left
abbrev zdY:=@List.mem_append_right
abbrev zdZ:=@Nat.mul_le_mul_right
abbrev zd0:=@Nat.add_mul
abbrev zd1:=@Nat.add_assoc
abbrev zd2:=@Nat.le_refl
abbrev zd3:=@Nat.le_trans
abbrev zd4:=@Nat.lt_of_lt_of_le
abbrev zd5:=@Nat.lt_or_ge
abbrev zd6:=@Nat.eq_zero_or_pos
abbrev zd7:=@Sem.run_bind
abbrev zd8:=@Result.andThen_ok
abbrev zd9:=@Sem.run_pure
abbrev zea:=@List.length_take
abbrev zeb:=@List.length_drop
abbrev zec:=@List.getElem?_take
abbrev zed:=@List.getElem?_drop
abbrev zee:=@Bool.and_false
abbrev zef:=@List.eq_nil_of_length_eq_zero
abbrev zeg:=@List.take_of_length_le
abbrev zeh:=@List.isEmpty_iff
abbrev zei:=@List.getElem?_cons_zero
abbrev zej:=@List.length_set
abbrev zek:=@List.getElem?_set_ne
abbrev zel:=@List.cons_append
abbrev zem:=@Array.getElem?_modify
abbrev zen:=@List.getElem_of_mem
abbrev zeo:=@Array.getElem?_eq_getElem
abbrev zep:=@List.all_eq_true
abbrev zeq:=@List.mem_cons
abbrev zer:=@Array.getElem?_push
abbrev zes:=@List.replicate_succ
abbrev zet:=@List.flatMap_cons
abbrev zeu:=@Nat.zero_mul
abbrev zev:=@Nat.zero_add
abbrev zew:=@List.getElem?_append_left
abbrev zex:=@List.getElem?_append_right
abbrev zey:=@Nat.add_comm
abbrev zez:=@List.length_replicate
abbrev zeA:=@List.getElem?_replicate
abbrev zeB:=@List.foldr_cons
abbrev zeC:=@Option.map_eq_some_iff
abbrev zeD:=@List.map_cons
abbrev zeE:=@Array.eq_empty_of_size_eq_zero
abbrev zeF:=@Nat.add_zero
abbrev zeG:=@List.nil_append
abbrev zeH:=@List.mem_of_getElem?
abbrev zeI:=@List.mem_of_mem_take
abbrev zeJ:=@Nat.min_eq_left
abbrev zeK:=@Option.map_none
abbrev zeL:=@Int.le_refl
abbrev zeM:=@List.getElem?_map
abbrev zeN:=@Nat.zero_le
abbrev zeO:=@Nat.mul_one
abbrev zeP:=@List.foldl_cons
abbrev zeQ:=@List.length_map
abbrev zeR:=@Bool.or_eq_true
abbrev zeS:=@List.mem_or_eq_of_mem_set
abbrev zeT:=@List.getElem_mem
abbrev zeU:=@List.replicate_zero
abbrev zeV:=@List.contains_eq_mem
abbrev zeW:=@Option.isSome_none
abbrev zeX:=@List.take_length
abbrev zeY:=@List.take_append_drop
abbrev zeZ:=@Array.getD_eq_getD_getElem?
abbrev ze0:=@Option.getD_some
abbrev ze1:=@Nat.lt_succ_self
abbrev ze2:=@Bool.and_self
abbrev ze3:=@List.mem_append
abbrev ze4:=@List.mem_singleton
abbrev ze5:=@Bool.not_eq_true'
abbrev ze6:=@Bool.false_or
abbrev ze7:=@List.append_nil
abbrev ze8:=@Nat.le_add_right
abbrev ze9:=@List.filterMap_cons
abbrev zfa:=@List.mem_of_mem_drop
abbrev zfb:=@List.drop_eq_nil_of_le
abbrev zfc:=@List.getElem?_set
abbrev zfd:=@List.take_add_one
abbrev zfe:=@Int.natCast_zero
abbrev zff:=@Nat.eq_of_beq_eq_true
abbrev zfg:=@List.drop_zero
abbrev zfh:=@List.set_set
abbrev zfi:=@List.singleton_append
abbrev zfj:=@List.eraseIdx_eq_take_drop_succ
abbrev zfk:=@List.length_eraseIdx_of_lt
abbrev zfl:=@List.findIdx?_eq_none_iff
abbrev zfm:=@List.findIdx?_eq_some_iff_getElem
abbrev zfn:=@Int.le_trans
abbrev zfo:=@List.map_append
abbrev zfp:=@Bool.false_and
abbrev zfq:=@List.drop_eq_getElem_cons
abbrev zfr:=@Option.isSome_some
abbrev zfs:=@List.suffix_refl
abbrev zft:=@List.pairwise_cons
abbrev zfu:=@List.set_eq_take_append_cons_drop
abbrev zfv:=@List.eraseIdx_sublist
abbrev zfw:=@List.length_singleton
abbrev zfx:=@List.length_range
abbrev zfy:=@List.range_succ
abbrev zfz:=@Int.eq_ofNat_of_zero_le
abbrev zfA:=@List.countP_cons
end AM
namespace AM
open Go
inductive Ty where
 |int (k:IntKind)|bool|str|nil|cons (a b:Ty)|arr (n:Nat) (t:Ty)|deep (t:Ty)
 |ref (tag:Nat)
 deriving DecidableEq
def Ty.den:Ty->Type
 | .int _=>Int| .bool=>Bool| .str=>ByteArray| .nil=>Unit| .cons a b=>a.den×b.den| .arr _ t=>List t.den| .deep t=>List t.den| .ref _=>Nat
def Ty.size:Ty->Nat
 | .int _=>1| .bool=>1| .str=>1| .nil=>0| .cons a b=>a.size+b.size| .arr n t=>n*t.size| .deep _=>1| .ref _=>1
def Ty.ks:Ty->List Nat
 | .cons a b=>a.ks++b.ks
 | .arr _ t=>t.ks
 | .deep t=>t.ks
 | .ref g=> [g]
 |_=> []
def sB (t t':Ty)(xs:List t.den):Option (List t'.den):=if h:t=t' then some (h▸xs) else none
noncomputable def af (p:Prop):Bool:= @decide p (Classical.propDecidable p)
theorem kZ {p:Prop}:af p=true↔p:= @decide_eq_true_iff p (Classical.propDecidable p)
theorem k0 (p:Prop) [h:Decidable p]:af p=decide p:=by
 cases h with
 |isTrue h=>rw[kZ.2 h];rfl
 |isFalse h=>
  have:af p=false:=by
   cases e:af p with
   |false=>rfl
   |true=>exact absurd (kZ.1 e) h
  rw[this];rfl
noncomputable def wr (k:IntKind)(n:Int):Int:=Classical.choose (⟨k.wrap n,rfl⟩: ∃m,m=k.wrap n)
theorem pU (k:IntKind)(n:Int):wr k n=k.wrap n:=Classical.choose_spec (⟨k.wrap n,rfl⟩: ∃m,m=k.wrap n)
noncomputable def sZ (a b:Int):Int:=bif af (b<a) then b else a
noncomputable def imax (a b:Int):Int:=bif af (b>a) then b else a
noncomputable def s6 (k:IntKind)(a b:Int):Int:=wr k ((BitVec.ofInt k.bits a&&&BitVec.ofInt k.bits b).toNat)
noncomputable def A7 (k:IntKind)(a b:Int):Int:=wr k ((BitVec.ofInt k.bits a|||BitVec.ofInt k.bits b).toNat)
noncomputable def pJ (k:IntKind)(a b:Int):Int:=wr k ((BitVec.ofInt k.bits a^^^BitVec.ofInt k.bits b).toNat)
noncomputable def DL (k:IntKind)(a b:Int):Int:=wr k ((BitVec.ofInt k.bits a&&& ~~~BitVec.ofInt k.bits b).toNat)
noncomputable def shr (k:IntKind)(a b:Int):Int:=Classical.choose (⟨a.fdiv (2^(min b.toNat k.bits)),rfl⟩: ∃m:Int,m=a.fdiv (2^(min b.toNat k.bits)))
theorem RB (k:IntKind)(a b:Int):shr k a b=a.fdiv (2^(min b.toNat k.bits)):=Classical.choose_spec (⟨a.fdiv (2^(min b.toNat k.bits)),rfl⟩: ∃m:Int,m=a.fdiv (2^(min b.toNat k.bits)))
noncomputable def shl (k:IntKind)(a b:Int):Int:=wr k (a*2^(min b.toNat k.bits))
def RC (k:IntKind):Int:=if k.signed then-1 else k.max
inductive Step where
 |iH (n:Nat)|idx (i:Nat)
inductive AV where
 |undef
 |val (v:Value)
 |ptr (id:Nat) (path:List Step)
 |tail (id:Nat) (off:Nat)
 |slice (id:Nat) (path:List Step) (off len:Nat)
 |dp (t:Ty) (xs:List t.den)
 |ub (v:AV)
 |agg (fs:List AV)
 |arr (n:Nat) (t:Ty) (xs:List t.den)
 |A8 (vs:List AV)
 |xq (fn:Fn) (captured:List AV)
 |xG
 |uD (id:Nat) (n:Nat)
 |xr (fn:Fn) (first:List AV)
 |Ro (id:Nat) (path:List Step) (f off:Nat)
 |rf (tag n c:Nat)
mutual
def AV.size:AV->Nat
 | .agg fs=>AV.dK fs
 | .arr n t _=>n*t.size
 |_=>1
def AV.dK:List AV->Nat
 | []=>0
 |x::xs=>x.size+AV.dK xs
end
def AV.isAgg:AV->Bool
 | .agg _| .arr _ _ _=>true
 |_=>false
mutual
def AV.ids:AV->List Nat
 | .tail i _=> [i]
 | .slice i _ _ _=> [i]
 | .uD i _=> [i]
 | .agg fs=>AV.zaD fs
 |_=> []
def AV.zaD:List AV->List Nat
 | []=> []
 |x::xs=>x.ids++AV.zaD xs
end
def enc:(t:Ty)->t.den->AV
 | .int k,n=> .val (.int k n)
 | .bool,b=> .val (.bool b)
 | .str,s=> .val (.string s)
 | .nil,_=> .agg []
 | .cons a b,p=>match enc b p.2 with| .agg l=> .agg (enc a p.1::l)|v=> .agg [enc a p.1,v]
 | .arr n t,xs=> .arr n t xs
 | .deep t,xs=> .dp t xs
 | .ref g,n=> .rf g n 50
inductive oE where
 |iH (n:Nat)|idx
inductive cg where
 |hole (t:Ty)|const (v:Value)|ptr (c:Nat)|own (c:Nat)|F4 (c:Nat)|agg (ps:List cg)|vE (t:Ty)
 |kv (c:Nat) (p:List oE)
 |xq (fn:Fn) (ps:List cg)|uD (c n:Nat)
 |skip|Jx (p:cg)
inductive aG where
 |var (p:cg)|row (t:Ty)|store (ep:List (Nat×aG))
def oE.xt:List oE->Type
 | []=>Unit
 | .iH _::p=>oE.xt p
 | .idx::p=>Nat×oE.xt p
mutual
def cg.den:cg->Type
 | .hole t=>t.den
 | .vE t=>t.den
 | .agg ps=>cg.xt ps
 | .xq _ ps=>cg.xt ps
 | .F4 _=>Nat
 | .kv _ p=>oE.xt p
 | .Jx p=>p.den
 |_=>Unit
def cg.xt:List cg->Type
 | []=>Unit
 |p::ps=>p.den×cg.xt ps
end
mutual
def aG.den:aG->Type
 | .var p=>p.den
 | .row t=>List t.den
 | .store ep=>List (cS ep)
def cS:List (Nat×aG)->Type
 | []=>Unit
 |(_,p)::os=>p.den×cS os
end
def oE.mk:(p:List oE)->oE.xt p->List Step
 | [],_=> []
 | .iH n::p,d=> .iH n::oE.mk p d
 | .idx::p,d=> .idx d.1::oE.mk p d.2
mutual
def cg.mk (b:Nat->Nat):(p:cg)->p.den->AV
 | .hole t,x=>enc t x
 | .vE t,x=> .ub (enc t x)
 | .const v,_=> .val v
 | .ptr c,_=> .ptr (b c) []
 | .own c,_=> .tail (b c) 0
 | .F4 c,n=> .slice (b c) [] 0 n
 | .agg ps,d=> .agg (cg.pK b ps d)
 | .kv c p,d=> .ptr (b c) (oE.mk p d)
 | .xq fn ps,d=> .xq fn (cg.pK b ps d)
 | .uD c n,_=> .uD (b c) n
 | .skip,_=> .undef
 | .Jx p,d=> .ub (cg.mk b p d)
def cg.pK (b:Nat->Nat):(ps:List cg)->cg.xt ps->List AV
 | [],_=> []
 |p::ps,d=>cg.mk b p d.1::cg.pK b ps d.2
end
inductive gi where
 |var (v:AV)
 |row (ro:Bool) (t:Ty) (xs:List t.den)
 |dead
 |store (ep:List (Nat×aG)) (xs:List (cS ep))
 |void
structure St where
 t:Nat->AV
 h:Nat->Option gi
 ep:Nat
 nt:Nat
def St.put (s:St)(d:Option Tmp)(v:AV):St:=match d with
 |some d=>if d<s.nt then{s with t:=λx=>if x=d then v else s.t x} else s
 |none=>s
def St.set (s:St)(id:Nat)(o:gi):St:={s with h:=λx=>if x=id then some o else s.h x}
def St.ev (s:St):Operand->AV
 | .tmp t=>s.t t
 | .const v=> .val v
 | .func f=> .val (.func (.func f) #[] #[])
 | .global _=> .undef
def SB:Nat:=100000000000000
def name (ep slot j:Nat):Nat:=(ep*1000+slot)*100+j
section
variable {α:Type}
def St.new (s:St)(id:Nat)(o:gi)(k:St->Option α):Option α:=match s.h id with|none=>k (s.set id o)|some _=>none
def Jy:List Step->AV->(AV->Option α)->Option α
 | [],v,k=>k v
 | .iH n::p, .agg fs,k=>match fs[n]? with|some v=>Jy p v k|none=>none
 | .idx i::p, .arr _ t xs,k=>match xs[i]? with|some x=>Jy p (enc t x) k|none=>none
 |_,_,_=>none
def St.get (s:St)(id:Nat)(p:List Step)(k:AV->Option α):Option α:=
 match s.h id with
 |some (.var v)=>Jy p v k
 |some (.row _ t xs)=>(match p with
  | .idx i::p=>(match xs[i]? with|some x=>Jy p (enc t x) k|none=>none)
  |_=>none)
 |_=>none
def zV (s:St)(i:Nat):Bool:=match s.h i with|some (.row _ _ _)=>true|_=>false
def qv (s:St)(t:Ty):AV->(List t.den->List Nat->Option α)->Option α
 | .dp t' xs,k=>match sB t' t xs with|some ys=>k ys []|none=>none
 | .val (.slice none 0 0),k=>k [] []
 | .tail id off,k=>match s.h id with
  |some (.row _ t' xs)=>(match sB t' t xs with|some ys=>k (ys.drop off) [id]|none=>none)
  |_=>none
 | .slice id p off len,k=>match p.isEmpty&&zV s id with
  |true=>(match s.h id with
   |some (.row _ t' xs)=>(match sB t' t xs with|some ys=>k ((ys.drop off).take len) [id]|none=>none)
   |_=>none)
  |false=>s.get id p λu=>(match u with
   | .arr _ t' xs=>(match sB t' t xs with|some ys=>k ((ys.drop off).take len) [id]|none=>none)
   |_=>none)
 |_,_=>none
def Vh {β:Type}(f:AV->(β->List Nat->Option α)->Option α):List AV->(List β->List Nat->Option α)->Option α
 | [],k=>k [] []
 |v::vs,k=>f v λx i=>Vh f vs λxs j=>k (x::xs) (i++j)
def LA (s:St)(t:Ty)(f:AV->(t.den->List Nat->Option α)->Option α)(v:AV)(k:List t.den->List Nat->Option α):Option α:=match v with
 | .uD id n=>(match s.h id with
  |some (.var (.agg vs))=>(match decide (vs.length=n) with|true=>Vh f vs λxs ids=>k xs (id::ids)|false=>none)
  |_=>none)
 |v=>qv s t v k
mutual
def qT (s:St):(t:Ty)->AV->(t.den->List Nat->Option α)->Option α
 | .int k',v,k=>match v with| .val (.int k'' n)=>(if k''=k' then k n [] else none)|_=>none
 | .bool,v,k=>match v with| .val (.bool b)=>k b []|_=>none
 | .str,v,k=>match v with| .val (.string b)=>k b []|_=>none
 | .nil,v,k=>match v with| .agg []=>k () []|_=>none
 | .cons a b,v,k=>match v with
  | .agg (x::l)=>qT s a x λp i=>qT s b (.agg l) λq j=>k (p,q) (i++j)
  |_=>none
 | .arr n t,v,k=>match v with
  | .arr n' t' xs=>(if n'=n then(match sB t' t xs with|some ys=>k ys []|none=>none) else none)
  |_=>none
 | .deep t,v,k=>LA s t (qT s t) v k
 | .ref g,v,k=>match v with| .rf g' n 50=>(if g'=g then k n [] else none)| .val (.pointer none)=>k (0:Nat) []|_=>none
end
def St.freeze (s:St):List Nat->Option St
 | []=>some s
 |i::l=>match s.h i with
  |some (.row _ t xs)=>(s.set i (.row true t xs)).freeze l
  |_=>none
mutual
def AV.lD:AV->AV->Bool
 | .agg fs, .agg gs=>AV.vF fs gs
 | .arr n t _, .arr n' t' _=>decide (n=n')&&decide (t=t')
 | .agg _,_=>false
 | .arr _ _ _,_=>false
 | .A8 _,_=>false
 | .undef,_=>false
 |_, .agg _=>false
 |_, .arr _ _ _=>false
 |_, .A8 _=>false
 |_, .undef=>false
 |_,_=>true
def AV.vF:List AV->List AV->Bool
 | [],[]=>true
 |x::xs,y::ys=>x.lD y&&AV.vF xs ys
 |_,_=>false
end
def Jz (s:St):List Step->AV->AV->(AV->Option α)->Option α
 | [],u,v,k=>match v.lD u with|true=>k u|false=>none
 | .iH n::p,u, .agg fs,k=>match fs[n]? with|some v=>Jz s p u v λv'=>k (.agg (fs.set n v'))|none=>none
 | .idx i::p,u, .arr n t xs,k=>match xs[i]? with
  |some x=>Jz s p u (enc t x) λv'=>qT s t v' λx' ids=>(match ids with| []=>k (.arr n t (xs.set i x'))|_=>none)
  |none=>none
 |_,_,_,_=>none
def St.store (s:St)(id:Nat)(p:List Step)(u:AV)(k:St->Option α):Option α:=
 match s.h id with
 |some (.var v)=>Jz s p u v λv'=>k (s.set id (.var v'))
 |some (.row false t xs)=>(match p with
  | .idx i::p=>(match xs[i]? with
   |some x=>Jz s p u (enc t x) λv'=>qT s t v' λx' ids=>(match ids.contains id||!(ids.all λj=>u.ids.contains j) with
    |true=>none
    |false=>match s.freeze ids with
     |some s=>k (s.set id (.row false t (xs.set i x')))
     |none=>none)
   |none=>none)
  |_=>none)
 |_=>none
inductive Sh where
 |one|agg (l:List Sh)|arr (n:Nat) (e:Sh)
mutual
def Sh.size:Sh->Nat
 | .one=>1
 | .agg l=>Sh.dK l
 | .arr n e=>n*e.size
def Sh.dK:List Sh->Nat
 | []=>0
 |x::xs=>x.size+Sh.dK xs
end
def sC:Ty->Sh
 | .nil=> .agg []
 | .cons a b=>match sC b with| .agg l=> .agg (sC a::l)|v=> .agg [sC a,v]
 | .arr n t=> .arr n (sC t)
 |_=> .one
mutual
def AV.sh:AV->Sh
 | .agg fs=> .agg (AV.xH fs)
 | .arr n t _=> .arr n (sC t)
 |_=> .one
def AV.xH:List AV->List Sh
 | []=> []
 |x::xs=>x.sh::AV.xH xs
end
def zW:List Step->Sh->Option Sh
 | [],s=>some s
 | .iH n::p, .agg l=>match l[n]? with|some s=>zW p s|none=>none
 | .idx _::p, .arr _ e=>zW p e
 |_,_=>none
def St.shape (s:St)(id:Nat)(p:List Step):Option Sh:=
 match s.h id with
 |some (.var v)=>zW p v.sh
 |some (.row _ t _)=>(match p with| .idx _::p=>zW p (sC t)|_=>none)
 |_=>none
def np (P:Program)(t:TypeId):Bool:=match P.underlying t with|some (.slice _)=>true|_=>false
def vG (P:Program):Nat->TypeId->Option Ty
 |0,_=>none
 |n+1,t=>match P.underlying t with
  |some (.int k)=>some (.int k)
  |some .bool=>some .bool
  |some .string=>some .str
  |some (.struct fs)=>fs.toList.foldr (λf acc=>match vG P n f.type,acc with|some a,some b=>some (.cons a b)|_,_=>none) (some .nil)
  |some (.array m e)=>(vG P n e).map (.arr m)
  |some (.slice e)=>(vG P n e).map .deep
  |some (.pointer e)=>some (.ref e)
  |_=>none
def iL:(t:Ty)->t.den
 | .int _=>(0:Int)| .bool=>false| .str=>ByteArray.empty| .nil=>()| .cons a b=>(iL a,iL b)| .arr n t=>List.replicate n (iL t)| .deep _=> []| .ref _=>(0:Nat)
def zeroOf (P:Program):Nat->TypeId->Option AV
 |0,_=>none
 |n+1,t=>match P.underlying t with
  |some (.int k)=>some (.val (.int k 0))
  |some .bool=>some (.val (.bool false))
  |some .string=>some (.val (.string ByteArray.empty))
  |some (.pointer _)=>some (.val (.pointer none))
  |some (.slice _)=>some (.val (.slice none 0 0))
  |some (.struct fs)=>(fs.toList.foldr (λf acc=>match zeroOf P n f.type,acc with|some a,some b=>some (a::b)|_,_=>none) (some [])).map .agg
  |some (.array m e)=>(match np P e with
   |true=>some (.agg (List.replicate m (.val (.slice none 0 0))))
   |false=>(vG P n e).map λt=> .arr m t (List.replicate m (iL t)))
  |_=>none
def m9:(t:Ty)->t.den->List Value
 | .int k,n=> [.int k n]
 | .bool,b=> [.bool b]
 | .str,s=> [.string s]
 | .nil,_=> []
 | .cons a b,p=>m9 a p.1++m9 b p.2
 | .arr _ t,xs=>xs.flatMap (m9 t)
 | .deep _,_=> [.slice none 0 0]
 | .ref _,_=> [.pointer none]
mutual
def qZ:AV->List Value
 | .val v=> [v]
 | .agg fs=>rQ fs
 | .arr _ t xs=>xs.flatMap (m9 t)
 |_=> [.nilFunc]
def rQ:List AV->List Value
 | []=> []
 |x::xs=>qZ x++rQ xs
end
def veq:Value->Value->Bool
 | .int k a, .int k' b=>decide (k=k')&&decide (a=b)
 | .bool a, .bool b=>a==b
 | .string a, .string b=>a.data.toList==b.data.toList
 | .pointer none, .pointer none=>true
 | .slice none a b, .slice none c d=>decide (a=c)&&decide (b=d)
 |_,_=>false
def Py:List Value->List Value->Bool
 | [],[]=>true
 |x::xs,y::ys=>veq x y&&Py xs ys
 |_,_=>false
def zeroV (P:Program)(t:TypeId)(k:AV->Option α):Option α:=
 match(P.info? t).bind (·.zero),zeroOf P 12 t with
 |some z,some v=>(match Py z.cells.toList (qZ v) with|true=>k v|false=>none)
 |_,_=>none
mutual
def AV.nF:AV->Bool
 | .undef=>false
 | .A8 _=>false
 | .val v=>v.oneCell'
 | .agg fs=>AV.A9 fs
 |_=>true
def AV.A9:List AV->Bool
 | []=>true
 |x::xs=>x.nF&&AV.A9 xs
end
def ra (P:Program)(t:TypeId):Bool:=match P.underlying t with|some (.struct _)|some (.array _ _)=>true|_=>false
def sD (P:Program)(t:TypeId)(v:AV):Bool:=
 v.nF&& (v.isAgg==ra P t)&&decide (v.size=P.cellsOf t)&& (P.underlying t).isSome
noncomputable def aj (a b:Int):Bool:=af (a=b)
def Ba (a b:Bool):Bool:=a==b
def JA (a b:ByteArray):Bool:=a.toList==b.toList
noncomputable def zm:(t:Ty)->t.den->t.den->Bool
 | .int _,a,b=>aj a b
 | .bool,a,b=>Ba a b
 | .str,a,b=>JA a b
 | .nil,_,_=>true
 | .cons a b,x,y=>zm a x.1 y.1&&zm b x.2 y.2
 | .arr _ t,xs,ys=>(xs.zip ys).all λp=>zm t p.1 p.2
 | .deep _,_,_=>false
 | .ref _,_,_=>false
def NX:Ty->Bool
 | .int _=>true
 |_=>false
def LB:Ty->Bool
 | .int _=>true| .bool=>true| .nil=>true| .cons a b=>LB a&&LB b| .arr _ t=>LB t|_=>false
noncomputable def US (P:Program):Nat->TypeId->AV->AV->Option Bool
 |0,_,_,_=>none
 |d+1,t,x,y=>match P.underlying t,x,y with
  |some (.int k), .val (.int ka a), .val (.int kb b)=>if ka=k/\kb=k then some (aj a b) else none
  |some .bool, .val (.bool a), .val (.bool b)=>some (Ba a b)
  |some .string, .val (.string a), .val (.string b)=>some (JA a b)
  |some (.struct fs), .agg xs, .agg ys=>(match P.stoodInHeld t with|true=>none|false=>LC P d fs.toList 0 xs ys)
  |some (.array n e), .arr m t xs, .arr m' t' ys=>(match vG P 12 e,sB t' t ys with
   |some te,some ys=>if te=t/\m=n/\m'=n/\NX t=true/\1<=d/\P.cellsOf e=1/\(P.info? e).isSome=true then some ((xs.zip ys).all λp=>zm t p.1 p.2) else none
   |_,_=>none)
  |_,_,_=>none
 where LC (P:Program) (d:Nat):List Field->Nat->List AV->List AV->Option Bool
 | [],_,[],[]=>some true
 |f::fs,off,x::xs,y::ys=>if f.name= "_" \/f.offset≠off then none else
  match sD P f.type x&&sD P f.type y&&decide (x.size=y.size) with
  |false=>none
  |true=>match US P d f.type x y,LC P d fs (off+x.size) xs ys with|some a,some b=>some (a&&b)|_,_=>none
 |_,_,_,_=>none
noncomputable def Vi (P:Program)(t:TypeId)(x y:AV):Option Bool:=match x.isAgg&&y.isAgg with
 |true=>(match P.eqGuardType P.depth t with|true=>none|false=>US P 12 t x y)
 |false=>none
def Xo (P:Program)(t:TypeId):Bool:=match P.underlying t with|some (.slice e)=>(P.info? e).isSome|_=>false
def ve (P:Program)(t:TypeId)(n:Nat):Bool:=match P.underlying t with|some (.slice e)=>(P.info? e).isSome&&decide (P.cellsOf e=n)|_=>false
def zn (P:Program)(t:TypeId)(m n:Nat):Bool:=match P.underlying t with|some (.array m' e)=>(P.info? e).isSome&&decide (m'=m)&&decide (P.cellsOf e=n)|_=>false
def Dq (P:Program)(t:TypeId)(m n:Nat):Bool:=match P.underlying t with|some (.pointer t')=>zn P t' m n|_=>zn P t m n
def RD (P:Program)(t:TypeId)(m:Nat)(te:Ty):Bool:=match P.underlying t with|some (.array m' e)=>decide (m'=m)&& (match vG P 12 e with|some Yp=>decide (Yp=te)&&decide (P.cellsOf e=te.size)|none=>false)|_=>false
def HC (s:St)(id:Nat)(p:List Step):Option Nat:=match s.h id,p with
 |some (.row _ te _),[]=>some te.size
 |_,p=>match s.shape id p with|some (.arr _ e)=>some e.size|_=>none
def JB (P:Program)(s:St)(t:TypeId):AV->(Int->Option α)->Option α
 | .dp _ xs,k=>(match np P t with|true=>k xs.length|false=>none)
 | .val (.slice none 0 0),k=>(match np P t with|true=>k 0|false=>none)
 | .val (.string b),k=>(match P.underlying t with|some .string=>k b.size|_=>none)
 | .tail id off,k=>match s.h id with|some (.row _ _ xs)=>(match np P t with|true=>k ((xs.length-off:Nat):Int)|false=>none)|_=>none
 | .slice _ _ _ len,k=>(match np P t with|true=>k len|false=>none)
 | .uD _ n,k=>(match np P t with|true=>k n|false=>none)
 | .arr n _ _,k=>(match P.underlying t with|some (.array m _)=>(if m=n then k n else none)|_=>none)
 |_,_=>none
def xI (P:Program)(s:TypeId)(f:Nat):Option Nat:=
 match P.underlying s with
 |some (.struct fs)=>match fs[f]? with
  |some fd=>if P.cellsOf fd.type=0 then none else some fd.offset
  |none=>none
 |_=>none
def RE (P:Program)(s:TypeId)(f:Nat)(v:AV):Bool:=
 match P.underlying s with
 |some (.struct fs)=>match fs[f]? with
  |some fd=>sD P fd.type v
  |none=>false
 |_=>false
def NY (P:Program)(e:TypeId)(n:Nat):Bool:=match(P.info? e).bind (·.zero) with|some z=>decide (z.cells.size=n)|none=>false
def zX (P:Program)(t:TypeId):Option (TypeId×Ty):=
 match P.underlying t with
 |some (.slice e)=>match vG P 12 e with|some te=>(if te.size=P.cellsOf e/\1<=P.bytesOf e/\NY P e te.size=true then some (e,te) else none)|none=>none
 |_=>none
def nat?:AV->(Int->Option α)->Option α
 | .val (.int _ n),k=>k n
 |_,_=>none
def HD (s:St)(x:Option Operand)(d:Int)(k:Int->Option α):Option α:=match x with|none=>k d|some x=>nat? (s.ev x) k
def ifk (c:Bool)(k:Option α):Option α:=match c with|true=>k|false=>none
def elems (s:St)(t:Ty):List AV->(List t.den->List Nat->Option α)->Option α
 | [],k=>k [] []
 |v::vs,k=>qT s t v λx i=>elems s t vs λxs j=>k (x::xs) (i++j)
def DM (sz:Nat):List AV->List (Nat×AV)->Option (List AV)
 |l,[]=>some l
 |l,(i,u)::ps=>match decide (i<l.length)&&u.nF&&decide (u.size=sz) with|true=>DM sz (l.set i u) ps|false=>none
def zY (fs:List AV):List (Nat×AV)->Option (List AV)
 | []=>some fs
 |(i,u)::ps=>match fs[i]? with|some v=>(match v.lD u&&u.nF with|true=>zY (fs.set i u) ps|false=>none)|none=>none
def Dr (s:St)(t:Ty)(xs:List t.den):List (Nat×AV)->(List t.den->Option α)->Option α
 | [],k=>k xs
 |(i,u)::ps,k=>qT s t u λx ids=>match ids with| []=>(match decide (i<xs.length)&&u.nF with|true=>Dr s t (xs.set i x) ps k|false=>none)|_=>none
def tP (P:Program):List Field->Nat->List AV->Bool
 | [],_,[]=>true
 |f::fs,off,v::vs=>decide (f.offset=off)&&decide (P.cellsOf f.type=v.size)&& (P.info? f.type).isSome&&tP P fs (off+v.size) vs
 |_,_,_=>false
def room:Nat:=2^46
def uO (xs:List Int):ByteArray:=⟨(xs.map λn=>n.toNat.toUInt8).toArray⟩
noncomputable def RF (s:St)(op:BinOp)(ka kb:IntKind)(a b:Int)(k:AV->St->Option α):Option α:=match op with
 | .shl=>(match af (b<0) with|true=>none|false=>k (.val (.int ka (shl ka a b))) s)
 | .shr=>(match af (b<0) with|true=>none|false=>k (.val (.int ka (shr ka a b))) s)
 |op=>if ka=kb then(match op with
  | .add=>k (.val (.int ka (wr ka (a+b)))) s
  | .sub=>k (.val (.int ka (wr ka (a-b)))) s
  | .mul=>k (.val (.int ka (wr ka (a*b)))) s
  | .quo=>(match af (b=0) with|true=>none|false=>k (.val (.int ka (wr ka (a.tdiv b)))) s)
  | .rem=>(match af (b=0) with|true=>none|false=>k (.val (.int ka (a.tmod b))) s)
  | .and=>k (.val (.int ka (s6 ka a b))) s
  | .or=>k (.val (.int ka (A7 ka a b))) s
  | .xor=>k (.val (.int ka (pJ ka a b))) s
  | .andNot=>k (.val (.int ka (DL ka a b))) s
  | .eql=>k (.val (.bool (af (a=b)))) s
  | .neq=>k (.val (.bool (!af (a=b)))) s
  | .lss=>k (.val (.bool (af (a<b)))) s
  | .leq=>k (.val (.bool (af (a<=b)))) s
  | .gtr=>k (.val (.bool (af (a>b)))) s
  | .geq=>k (.val (.bool (af (a>=b)))) s
  |_=>none) else none
def Rp (s:St)(op:BinOp)(r:Bool)(k:AV->St->Option α):Option α:=match op with
 | .eql=>k (.val (.bool r)) s
 | .neq=>k (.val (.bool (!r))) s
 |_=>none
def zo (P:Program)(t:TypeId):Bool:=match P.underlying t with|some (.pointer _)=>true|_=>false
noncomputable def JC (P:Program)(s:St)(op:BinOp)(t:TypeId)(x:AV)(k:AV->St->Option α):Option α:=match np P t with
 |false=>none
 |true=>JB P s t x λn=>match af (n=0) with
  |true=>(match op with| .eql=>k .xG s| .neq=>k .xG s|_=>none)
  |false=>Rp s op false k
noncomputable def RG (P:Program)(s:St)(op:BinOp)(t:TypeId)(x y:AV)(k:AV->St->Option α):Option α:=match x,y with
 | .val (.int ka a), .val (.int kb b)=>RF s op ka kb a b k
 | .val (.bool a), .val (.bool b)=>(match P.underlying t with|some .bool=>Rp s op (Ba a b) k|_=>none)
 | .val (.string a), .val (.string b)=>Rp s op (JA a b) k
 | .val (.pointer none), .val (.pointer none)=>(match zo P t with|true=>Rp s op true k|false=>none)
 | .val (.slice none _ _), .val (.slice none _ _)=>(match np P t with|true=>Rp s op true k|false=>none)
 | .ptr _ _, .val (.pointer none)=>(match zo P t with|true=>Rp s op false k|false=>none)
 | .val (.pointer none), .ptr _ _=>(match zo P t with|true=>Rp s op false k|false=>none)
 | .rf _ n _, .val (.pointer none)=>(match zo P t with|true=>Rp s op (af (n=0)) k|false=>none)
 | .val (.pointer none), .rf _ n _=>(match zo P t with|true=>Rp s op (af (n=0)) k|false=>none)
 | .dp te xs, .val (.slice none _ _)=>JC P s op t (.dp te xs) k
 | .tail i off, .val (.slice none _ _)=>JC P s op t (.tail i off) k
 | .slice i p off len, .val (.slice none _ _)=>JC P s op t (.slice i p off len) k
 |a,b=>(match Vi P t a b with|some r=>Rp s op r k|none=>none)
def xJ (P:Program)(s:St)(t:TypeId)(x:AV)(f:Nat)(k:AV->St->Option α):Option α:=match x,xI P t f with
 | .ptr i p,some off=>(match s.h i with
  |some .dead=>k (.Ro i p f off) s
  |_=>(match s.shape i p with|some (.agg fs)=>(match decide (Sh.dK (fs.take f)=off/\f<fs.length) with|true=>k (.ptr i (p++ [.iH f])) s|false=>none)|_=>none))
 | .ub (.agg fs),some off=>(match decide (AV.dK (fs.take f)=off) with|true=>(match fs[f]? with|some v=>k (.ub v) s|none=>none)|false=>none)
 |_,_=>none
def HE (P:Program)(s:St)(t:TypeId)(x:AV)(f:Nat)(k:AV->St->Option α):Option α:=match x,xI P t f with
 | .agg fs,some off=>(match decide (AV.dK (fs.take f)=off) with|true=>(match fs[f]? with|some v=>(match RE P t f v with|true=>k v s|false=>none)|none=>none)|false=>none)
 |_,_=>none
def LD (P:Program)(s:St)(t:TypeId)(x:AV)(k:AV->St->Option α):Option α:=match x with
 | .ptr i p=>s.get i p λv=>(match sD P t v with|true=>k v s|false=>none)
 | .ub v=>(match sD P t v with|true=>k v s|false=>none)
 |_=>none
def HF (P:Program)(s:St)(t:TypeId)(x y:AV)(k:AV->St->Option α):Option α:=match x with
 | .ptr i p=>(match sD P t y with|true=>s.store i p y λs'=>k (.val Go.undef) s'|false=>none)
 |_=>none
def HG (P:Program)(s:St)(id:Nat)(t:TypeId)(k:AV->St->Option α):Option α:=zeroV P t λv=>s.new id (.var v) λs=>k (.ptr id []) s
def RH (s:St)(id:Nat)(v:AV)(k:AV->St->Option α):Option α:=match v.nF with
 |true=>s.new id (.var v) λs=>k (.ptr id []) s
 |false=>none
def HH (P:Program)(s:St)(t:TypeId)(parts:List (Nat×AV))(k:AV->St->Option α):Option α:=zeroV P t λz=>match P.underlying t,z with
 |some (.struct fl), .agg fs=>(match tP P fl.toList 0 fs with|true=>(match zY fs parts with|some fs=>k (.agg fs) s|none=>none)|false=>none)
 |some (.array m e), .arr n te xs=>(match decide (m=n)&&decide (P.cellsOf e=te.size)&& (P.info? e).isSome with|true=>Dr s te xs parts λxs=>k (.arr n te xs) s|false=>none)
 |_,_=>none
def AV.Yq:AV->Bool
 | .ptr _ _=>true
 | .agg (.ptr _ _::_)=>true
 |_=>false
def AV.zcx:AV->Bool
 | .tail _ _=>true
 | .slice _ _ _ _=>true
 |_=>false
def HI (s:St)(id len sz:Nat)(l:List AV)(k:AV->St->Option α):Option α:=match decide (0<len*sz/\len*sz<=1000) with|true=>s.new id (.var (.agg l)) λs=>k (.uD id len) s|false=>none
def wz (P:Program)(s:St)(id:Nat)(t:TypeId)(len:Nat)(parts:List (Nat×AV))(k:AV->St->Option α):Option α:=match zX P t with
 |some (e,te)=>zeroV P e λz=>match DM te.size (List.replicate len z) parts with
  |none=>none
  |some l=>match l.any AV.Yq||(decide (2<=len)&&l.any AV.zcx) with
   |true=>HI s id len te.size l k
   |false=>elems s te l λxs ids=>(match ids.all (zV s) with
    |true=>(match s.freeze ids with
     |some s=>(match decide (len*te.size<=1000)&&ids.all (λj=>(parts.flatMap λp=>p.2.ids).contains j) with|true=>s.new id (.row false te xs) λs=>k (.tail id 0) s|false=>none)
     |none=>none)
    |false=>HI s id len te.size l k)
 |none=>none
noncomputable def xK (P:Program)(s:St)(id:Nat)(t:TypeId)(l c:AV)(k:AV->St->Option α):Option α:=match zX P t with
 |some (e,te)=>nat? l λn=>nat? c λm=>
  (match af (n=m/\0<=n/\n*P.bytesOf e<=room) with
  |true=>zeroV P e λ_=>s.new id (.row false te (List.replicate n.toNat (iL te))) λs=>k (.tail id 0) s
  |false=>none)
 |none=>none
noncomputable def DN (i:Int)(k:Nat->Option α):Nat->Nat->Option α
 |0,_=>none
 |f+1,j=>match af (i=j) with|true=>k j|false=>DN i k f (j+1)
def DO (l:List Sh)(n:Nat):Bool:=l.all λe=>decide (e.size=n)
def Bb (l:List Sh):Nat:=match l with|e::_=>e.size| []=>0
noncomputable def xL (P:Program)(s:St)(t:TypeId)(x ix:AV)(k:AV->St->Option α):Option α:=nat? ix λi=>match x with
 | .dp te xs=>(match ve P t te.size with|false=>none|true=>match af (0<=i) with|true=>(match xs[i.toNat]? with|some x=>k (.ub (enc te x)) s|none=>none)|false=>none)
 | .tail id off=>(match s.h id with
  |some (.row _ te xs)=>(match ve P t te.size with|false=>none|true=>match af (0<=i/\i<((xs.length-off:Nat):Int)) with|true=>k (.ptr id [.idx (i.toNat+off)]) s|false=>none)
  |_=>none)
 | .slice id p off len=>(match HC s id p with
  |some n=>(match ve P t n with|false=>none|true=>match af (0<=i/\i<len) with|true=>k (.ptr id (p++ [.idx (i.toNat+off)])) s|false=>none)
  |none=>none)
 | .ptr id p=>(match s.shape id p with
  |some (.arr n e)=>(match zn P t n e.size with|false=>none|true=>match af (0<=i/\i<n) with|true=>k (.ptr id (p++ [.idx i.toNat])) s|false=>none)
  |some (.agg l)=>(match zn P t l.length (Bb l)&&DO l (Bb l) with|false=>none|true=>DN i (λj=>k (.ptr id (p++ [.iH j])) s) l.length 0)
  |_=>none)
 | .uD id n=>(match s.shape id [] with
  |some (.agg l)=>(match ve P t (Bb l)&&DO l (Bb l)&&decide (l.length=n) with|false=>none|true=>DN i (λj=>k (.ptr id [.iH j]) s) l.length 0)
  |_=>none)
 | .ub (.arr n te xs)=>(match zn P t n te.size with|false=>none|true=>match af (0<=i/\i<n) with|true=>(match xs[i.toNat]? with|some x=>k (.ub (enc te x)) s|none=>none)|false=>none)
 |_=>none
def RI (P:Program)(t:TypeId)(fs:List AV):Bool:=match P.underlying t with|some (.array m e)=>decide (m=fs.length)&&fs.all (λv=>sD P e v)|_=>false
noncomputable def HJ (P:Program)(s:St)(t:TypeId)(x ix:AV)(k:AV->St->Option α):Option α:=nat? ix λi=>match x with
 | .arr n te xs=>(match RD P t n te with|false=>none|true=>match af (0<=i/\i<n) with|true=>(match xs[i.toNat]? with|some x=>k (enc te x) s|none=>none)|false=>none)
 | .agg fs=>(match RI P t fs with|false=>none|true=>DN i (λj=>match fs[j]? with|some v=>k v s|none=>none) fs.length 0)
 |_=>none
def Yr {β:Type}(lo hi:Option Operand)(l h:Int)(xs:List β):List β:=match lo,hi with|none,none=>xs|none,some _=>xs.take h.toNat|some _,none=>xs.drop l.toNat|some _,some _=>(xs.take h.toNat).drop l.toNat
def GC (s:St)(id:Nat)(p:List Step)(off len:Nat):Nat:=match s.h id,p with|some (.row _ _ xs),[]=>xs.length-off|_,_=>len
noncomputable def DP (P:Program)(s:St)(t:TypeId)(x:AV)(lo hi:Option Operand)(mx:Operand)(k:AV->St->Option α):Option α:=HD s lo 0 λl=>match hi with
 |none=>none
 |some hi=>nat? (s.ev hi) λh=>nat? (s.ev mx) λm=>match x with
  | .tail id off=>(match s.h id with
   |some (.row _ te xs)=>(match ve P t te.size with|false=>none|true=>match af (0<=l/\l<=h/\h<=m/\m<=((xs.length-off:Nat):Int)) with|true=>k .undef s|false=>none)
   |_=>none)
  |_=>none
noncomputable def HK (P:Program)(s:St)(t:TypeId)(x:AV)(lo hi:Option Operand)(k:AV->St->Option α):Option α:=HD s lo 0 λl=>match x with
 | .dp te xs=>(match ve P t te.size with|false=>none|true=>HD s hi xs.length λh=>(match af (0<=l/\l<=h/\h<=xs.length) with
  |true=>k (.dp te (Yr lo hi l h xs)) s
  |false=>none))
 | .val (.slice none 0 0)=>(match Xo P t with|false=>none|true=>HD s hi 0 λh=>(match af (l=0/\h=0) with|true=>k (.val (.slice none 0 0)) s|false=>none))
 | .tail id off=>(match s.h id with
  |some (.row _ te xs)=>(match ve P t te.size with|false=>none|true=>match hi with
   |none=>(match af (0<=l/\l<=((xs.length-off:Nat):Int)) with|true=>k (.tail id (l.toNat+off)) s|false=>none)
   |some hi=>nat? (s.ev hi) λh=>(match af (0<=l/\l<=h/\h<=((xs.length-off:Nat):Int)) with|true=>k (.slice id [] (l.toNat+off) (h-l).toNat) s|false=>none))
  |_=>none)
 | .slice id p off len=>(match HC s id p with
  |some n=>(match ve P t n with|false=>none|true=>HD s hi len λh=>(match af (0<=l/\l<=h/\h<=GC s id p off len) with|true=>k (.slice id p (l.toNat+off) (h-l).toNat) s|false=>none))
  |none=>none)
 | .ptr id p=>(match s.shape id p with
  |some (.arr n e)=>(match Dq P t n e.size with|false=>none|true=>HD s hi n λh=>(match af (0<=l/\l<=h/\h<=n) with|true=>k (.slice id p l.toNat (h-l).toNat) s|false=>none))
  |_=>none)
 | .ub (.arr n te xs)=>(match Dq P t n te.size with|false=>none|true=>HD s hi n λh=>(match af (0<=l/\l<=h/\h<=n) with|true=>k (.dp te ((xs.take h.toNat).drop l.toNat)) s|false=>none))
 |_=>none
noncomputable def Bc (P:Program)(s:St)(id:Nat)(src dst:TypeId)(x:AV)(k:AV->St->Option α):Option α:=match x with
 | .val (.int _ n)=>(match P.underlying src,P.underlying dst with|some (.int _),some (.int kd)=>k (.val (.int kd (wr kd n))) s|_,_=>none)
 | .val (.string b)=>(match P.underlying src,P.underlying dst with
  |some .string,some .string=>k (.val (.string b)) s
  |some .string,some (.slice e)=>(match P.underlying e with
   |some (.int .u8)=>s.new id (.row false (.int .u8) (b.data.toList.map λc=>((c.toNat:Nat):Int))) λs=>k (.tail id 0) s
   |_=>none)
  |_,_=>none)
 |v=>(match P.underlying src,P.underlying dst with
  |some (.slice e),some .string=>(match P.underlying e with
   |some (.int .u8)=>qv s (.int .u8) v λxs _=>k (.val (.string (uO xs))) s
   |_=>none)
  |some (.slice _),some (.slice e)=>(match P.underlying e,decide (src=dst),v with
   |some (.int .u8),true, .tail j off=>(match s.h j with
    |some (.row false (.int .u8) xs)=>(match decide (off<xs.length) with|true=>k (.tail j off) s|false=>none)
    |_=>none)
   |_,_,_=>none)
  |_,_=>none)
def zp (P:Program)(t:TypeId):Bool:=match P.underlying t with|some (.int _)=>false|some _=>true|none=>false
noncomputable def inPlace (s:St)(i off len:Nat)(te:Ty)(xs ys:List te.den)(k:AV->St->Option α):Option α:=
 match af (off+len+ys.length<=xs.length) with
 |true=>k (.slice i [] off (len+ys.length)) (s.set i (.row false te (xs.take (off+len)++ys++xs.drop (off+len+ys.length))))
 |false=>none
noncomputable def grow (P:Program)(s:St)(id:Nat)(e:TypeId)(te:Ty)(base ys:List te.den)(k:AV->St->Option α):Option α:=
 match af (((base.length+ys.length:Nat):Int)*P.bytesOf e<=room) with
 |true=>s.new id (.row false te (base++ys)) λs=>k (.tail id 0) s
 |false=>none
noncomputable def grown (P:Program)(s:St)(id:Nat)(ty:TypeId)(e:TypeId)(te:Ty)(base:List te.den)(y:AV)(k:AV->St->Option α):Option α:=match y with
 | .val (.int .i64 n)=>(match P.underlying ty with
  |some (.int _)=>(match af (0<=n/\((base.length:Int)+n)*P.bytesOf e<=room) with
   |true=>zeroV P e λ_=>s.new id (.row false te (base++List.replicate n.toNat (iL te))) λs=>k (.tail id 0) s
   |false=>none)
  |_=>none)
 | .val (.string b)=>(match zp P ty,sB (.int .u8) te (b.data.toList.map λc=>((c.toNat:Nat):Int)) with
  |true,some ys=>grow P s id e te base ys k
  |_,_=>none)
 |v=>(match zp P ty with|false=>none|true=>qv s te v λys _=>grow P s id e te base ys k)
noncomputable def DQ (P:Program)(s:St)(id:Nat)(tx ty:TypeId)(x y:AV)(k:AV->St->Option α):Option α:=match zX P tx with
 |some (e,te)=>(match x with
  | .val (.slice none 0 0)=>grown P s id ty e te [] y k
  | .tail i off=>(match s.h i with
   |some (.row false t' xs)=>(match sB t' te xs with
    |some xs=>grown P (s.set i .dead) id ty e te (xs.drop off) y k
    |none=>none)
   |_=>none)
  | .slice i [] off len=>(match s.h i with
   |some (.row false t' xs)=>(match sB t' te xs with
    |some xs=>(match zp P ty with|false=>none|true=>qv s te y λys _=>inPlace s i off len te xs ys k)
    |none=>none)
   |_=>none)
  |_=>none)
 |none=>none
noncomputable def LF (P:Program)(s:St)(tx:TypeId)(x y:AV)(k:AV->St->Option α):Option α:=match zX P tx with
 |some (_,te)=>qv s te y λys _=>(match x with
  | .tail id off=>(match s.h id with
   |some (.row false t' xs)=>(match decide (off=0) with|false=>none|true=>match sB t' te xs with
    |some xs=>k (.val (.int .i64 ((min ys.length xs.length:Nat):Int))) (s.set id (.row false te (ys.take xs.length++xs.drop ys.length)))
    |none=>none)
   |_=>none)
  | .slice id p off len=>(match p.isEmpty&&zV s id with
   |true=>none
   |false=>s.get id p λu=>(match u with
    | .arr n t' xs=>(match sB t' te xs with
     |some xs=>s.store id p (.arr n te (xs.take off++(ys.take len++xs.drop (off+min ys.length len)))) λs=>k (.val (.int .i64 ((min ys.length len:Nat):Int))) s
     |none=>none)
    |_=>none))
  |_=>none)
 |none=>none
noncomputable def HL (P:Program)(s:St)(t:TypeId)(x:AV)(k:AV->St->Option α):Option α:=match zX P t with
 |some (e,te)=>zeroV P e λ_=>(match x with
  | .slice i [] off len=>(match s.h i with
   |some (.row false t' xs)=>(match sB t' te xs with
    |some xs=>k (.A8 []) (s.set i (.row false te (xs.take off++List.replicate len (iL te)++xs.drop (off+len))))
    |none=>none)
   |_=>none)
  |_=>none)
 |none=>none
noncomputable def Bd (P:Program)(s:St)(id:Nat)(b:Builtin)(args:List AV)(tys:List TypeId)(k:AV->St->Option α):Option α:=match b,args,tys with
 | .len,[x],t::_=>JB P s t x λn=>k (.val (.int .i64 n)) s
 | .cap,[x],t::_=>(match x with| .val (.slice none 0 0)=>(match np P t with|true=>k (.val (.int .i64 0)) s|false=>none)|_=>none)
 | .min,[x,y],_=>(match x,y with| .val (.int ka a), .val (.int kb b)=>(if ka=kb then k (.val (.int ka (sZ a b))) s else none)|_,_=>none)
 | .max,[x,y],_=>(match x,y with| .val (.int ka a), .val (.int kb b)=>(if ka=kb then k (.val (.int ka (imax a b))) s else none)|_,_=>none)
 | .append,[x,y],tx::ty::_=>DQ P s id tx ty x y k
 | .copy,[x,y],tx::_=>LF P s tx x y k
 | .clear,[x],tx::_=>HL P s tx x k
 |_,_,_=>none
noncomputable def aop (P:Program)(s:St)(o:Oper)(k:AV->St->Option α):Option α:=
 match o.op with
 | .move x=>k (s.ev x) s
 | .assign x=>k (s.ev x) s
 | .nilCheck x=>(match s.ev x with| .ptr i p=>k (.ptr i p) s| .ub v=>k (.ub v) s| .rf g n c=>(match af (n=0) with|true=>none|false=>k (.rf g n c) s)|_=>none)
 | .fieldAddr t x f=>xJ P s t (s.ev x) f k
 | .field t x f=>HE P s t (s.ev x) f k
 | .load t x=>LD P s t (s.ev x) k
 | .store t x y=>HF P s t (s.ev x) (s.ev y) k
 | .pick c a b=>(match s.ev c with| .val (.bool t)=>(match t with|true=>k (s.ev a) s|false=>k (s.ev b) s)|_=>none)
 | .binOp op t x y _=>RG P s op t (s.ev x) (s.ev y) k
 | .unOp op _ x=>(match op,s.ev x with
  | .not, .val (.bool b)=>k (.val (.bool (!b))) s
  | .neg, .val (.int ki n)=>k (.val (.int ki (wr ki (0-n)))) s
  | .xor, .val (.int ki n)=>k (.val (.int ki (pJ ki (RC ki) n))) s
  |_,_=>none)
 | .convert src dst x=>Bc P s (name s.ep (o.dst.getD 999) 0) src dst (s.ev x) k
 | .extract x i=>(match s.ev x with| .A8 vs=>(match vs[i]? with|some v=>k v s|none=>none)|_=>none)
 | .alloc t=>HG P s (name s.ep (o.dst.getD 999) 0) t k
 | .box _ x=>RH s (name s.ep (o.dst.getD 999) 0) (s.ev x) k
 | .build t parts=>HH P s t (parts.toList.map λp=>(p.1,s.ev p.2)) k
 | .buildSlice t len parts=>wz P s (name s.ep (o.dst.getD 999) 0) t len (parts.toList.map λp=>(p.1,s.ev p.2)) k
 | .makeSlice t l c=>xK P s (name s.ep (o.dst.getD 999) 0) t (s.ev l) (s.ev c) k
 | .indexAddr t x ix=>xL P s t (s.ev x) (s.ev ix) k
 | .index t x ix=>HJ P s t (s.ev x) (s.ev ix) k
 | .slice t x lo hi none=>HK P s t (s.ev x) lo hi k
 | .slice t x lo hi (some mx)=>DP P s t (s.ev x) lo hi mx k
 | .makeFunc fn first captured=>(match first.size,captured.size with|0,_=>k (.xq fn (captured.toList.map s.ev)) s|_,0=>k (.xr fn (first.toList.map s.ev)) s|_,_=>none)
 | .call {callee:= .builtin b,args,argTypes}=>Bd P s (name s.ep (o.dst.getD 999) 0) b (args.toList.map s.ev) argTypes.toList k
 |_=>none
inductive Item where
 |code (c:Code)
 |ops (all:Array Oper) (rest:List Oper)
 |zZ (all:Array Oper) (i:Nat) (rest:List Oper) (DR:List (Nat×(List Nat×List Nat)×Option Nat))
 |NZ (id:Nat)
inductive Out where
 |norm|ret|exit (id:Nat)
def unwind (id:Nat):List Item->Option (List Item)
 | []=>none
 | .NZ i::k=>if i=id then some k else unwind id k
 |_::k=>unwind id k
structure Env (α:Type) where
 call:FuncId->List AV->St->(fresh:Nat)->(AV->St->Option α)->Option α
 loop:Nat->St->(Out->St->Option α)->Option α
 fp:FuncId->List AV->St->Nat->List Nat×List Nat
def mw:Code->Option Nat
 | .region id _ _=>some id
 | .seq a b=>match mw a with|some i=>some i|none=>mw b
 | .cond _ a b=>match mw a with|some i=>some i|none=>mw b
 | .block _ c| .loop c| .scope c=>mw c
 |_=>none
def vH:AV->List Nat
 | .ptr i _| .tail i _| .slice i _ _ _| .uD i _| .Ro i _ _ _=> [i]
 |_=> []
def N0 (s:St)(o:Oper):List Nat:=
 match o.op with
 | .store _ x y=>vH (s.ev x)++(s.ev y).ids
 | .buildSlice _ _ ps=>ps.toList.flatMap λp=>(s.ev p.2).ids
 | .call {callee:= .builtin .append,args,argTypes:=_}=>args.toList.flatMap λx=>vH (s.ev x)
 | .call {callee:= .builtin .copy,args,argTypes:=_}=>args.toList.flatMap λx=>vH (s.ev x)
 | .call {callee:= .builtin .clear,args,argTypes:=_}=>args.toList.flatMap λx=>vH (s.ev x)
 |_=> []
def makes (o:Oper):Bool:=
 match o.op with
 | .alloc _| .box _ _| .makeSlice _ _ _| .convert _ _ _| .buildSlice _ _ _=>true
 | .call {callee:= .builtin .append,args:=_,argTypes:=_}=>true
 | .call {callee:= .value _,args:=_,argTypes:=_}=>true
 |_=>false
def qI (ep:Nat)(o:Oper)(id:Nat):Bool:=makes o&&decide (id/100=ep*1000+o.dst.getD 999)
def RJ (o:Oper):List Nat:=o.op.operands.toList.filterMap fun| .tmp t=>some t|_=>none
def HM (h:Nat->Option gi):AV->AV
 | .Ro i p f off=>match St.shape ⟨λ_=> .undef,h,0,0⟩ i p with
  |some (.agg fs)=>(match decide (Sh.dK (fs.take f)=off/\f<fs.length) with|true=> .ptr i (p++ [.iH f])|false=> .Ro i p f off)
  |_=> .Ro i p f off
 |v=>v
def rR (s:St):St:={s with t:=λx=>HM s.h (s.t x)}
def DS (s:St)(o:Oper)(fp:List Nat×List Nat):Nat->Option gi:=λid=>if fp.1.contains id||fp.2.contains id||qI s.ep o id then s.h id else some .dead
def xe (s:St)(o:Oper)(fp:List Nat×List Nat):St:=
 {t:=λx=>if(RJ o).contains x then HM (DS s o fp) (s.t x) else .undef,h:=DS s o fp,ep:=s.ep,nt:=s.nt}
def merge (s:St)(o:Oper)(W:List Nat)(s':St):St:={s with h:=λid=>if W.contains id||qI s.ep o id then s'.h id else s.h id}
noncomputable def yR (env:Env α)(s:St)(o:Oper):List Nat×List Nat:=
 match o.op with
 | .load _ x| .fieldAddr _ x _| .indexAddr _ x _| .slice _ x _ _ _| .convert _ _ x=>(vH (s.ev x),N0 s o)
 | .call {callee:= .builtin _,args,argTypes:=_}=>(args.toList.flatMap λx=>vH (s.ev x),N0 s o)
 | .call {callee:= .value f,args,argTypes:=_}=>match s.ev f with
  | .val (.func (.func f) _ _)=>env.fp f (args.toList.map s.ev) s (name s.ep (o.dst.getD 999) 0)
  | .xq (.func f) cs=>env.fp f (args.toList.map s.ev++cs) s (name s.ep (o.dst.getD 999) 0)
  |_=>([],[])
 |_=>([],N0 s o)
abbrev Fp:=(List Nat×List Nat)×Option Nat
def keyOf (ep:Nat)(o:Oper):Option Nat:=if makes o then some (ep*1000+o.dst.getD 999) else none
def Xp (k:Option Nat)(l:List Nat):Bool:=match k with|none=>false|some k=>l.any λi=>decide (i/100=k)
def zb (a b:Fp):Bool:=
 a.1.2.any (λi=>b.1.1.contains i||b.1.2.contains i)||b.1.2.any (λi=>a.1.1.contains i)||
 Xp a.2 (b.1.1++b.1.2)||Xp b.2 (a.1.1++a.1.2)||(match a.2,b.2 with|some k,some k'=>decide (k=k')|_,_=>false)
def Xq (bj:Nat)(f:Fp)(DR:List (Nat×Fp)):Bool:=
 DR.all λp=>bj.testBit p.1||!zb p.2 f
noncomputable def JD (P:Program)(env:Env α)(st:St)(o:Oper)(k:AV->St->Option α):Option α:=match o.op with
 | .call {callee:= .value f,args,argTypes:=_}=>(match st.ev f with
  | .val (.func (.func f) first captured)=>(match first.size+captured.size with|0=>env.call f (args.toList.map st.ev) st (name st.ep (o.dst.getD 999) 0) k|_=>none)
  | .xq (.func f) cs=>env.call f (args.toList.map st.ev++cs) st (name st.ep (o.dst.getD 999) 0) k
  |_=>none)
 |_=>aop P st o k
noncomputable def guarded (all:Array Oper)(o:Oper)(st:St)(next:St->Option α)(skip:St->Option α):Option α:=match o.guard with
 |none=>next st
 |some (j,want)=>match(all[j]?).bind (·.dst) with
  |none=>none
  |some slot=>match st.t slot with
   | .val (.bool b)=>(match b with
    |true=>(match want with|true=>next (st.put (some slot) (.val (.bool true)))|false=>skip ((st.put (some slot) (.val (.bool true))).put o.dst (.val Go.undef)))
    |false=>(match want with|false=>next (st.put (some slot) (.val (.bool false)))|true=>skip ((st.put (some slot) (.val (.bool false))).put o.dst (.val Go.undef))))
   | .val (.tuple _)=>skip (st.put o.dst (.val Go.undef))
   |_=>none
noncomputable def exec (P:Program)(env:Env α):Nat->List Item->St->(Out->St->Option α)->Option α
 |0,_,_,_=>none
 |n+1,todo,st,K=>
  match todo with
  | []=>K .norm st
  | .NZ _::k=>exec P env n k st K
  | .ops all rest::k=>(match rest with
   | []=>exec P env n k st K
   |o::rest=>guarded all o st (λst=>JD P env st o λv fy=>exec P env n (.ops all rest::k) (fy.put o.dst v) K) (λst=>exec P env n (.ops all rest::k) st K))
  | .zZ all i rest DR::k=>(match rest with
   | []=>exec P env n k (rR st) K
   |o::rest=>guarded all o st
    (λst=>match Xq ((Region.before all).getD i 0) (yR env (rR st) o,keyOf st.ep o) DR with
     |true=>match(yR env (xe st o (yR env (rR st) o)) o).2.all (λi=>(yR env (rR st) o).2.contains i) with|false=>none|true=>JD P env (xe st o (yR env (rR st) o)) o λv fy=>exec P env n (.zZ all (i+1) rest ((i,yR env (rR st) o,keyOf st.ep o)::DR)::k) ((merge st o (yR env (rR st) o).2 fy).put o.dst v) K
     |false=>(match o.op with
      | .fieldAddr _ _ _=>(match Xq ((Region.before all).getD i 0) (([],[]),keyOf st.ep o) DR with
       |true=>JD P env (xe st o ([],[])) o λv fy=>exec P env n (.zZ all (i+1) rest ((i,([],[]),keyOf st.ep o)::DR)::k) ((merge st o [] fy).put o.dst v) K
       |false=>none)
      |_=>none))
    (λst=>exec P env n (.zZ all (i+1) rest DR::k) st K))
  | .code c::k=>match c with
   | .skip=>exec P env n k st K
   | .label _=>exec P env n k st K
   | .seq a b=>exec P env n (.code a:: .code b::k) st K
   | .region _ ops draw=>(match draw with
    |false=>exec P env n (.ops ops ops.toList::k) {st with ep:=st.ep+1} K
    |true=>exec P env n (.zZ ops 0 ops.toList []::k) {st with ep:=st.ep+1} K)
   | .cond c x y=>(match st.ev c with
    | .val (.bool b)=>(match b with|true=>exec P env n (.code x::k) st K|false=>exec P env n (.code y::k) st K)
    | .xG=>(match af (exec P env n (.code x::k) st K=exec P env n (.code y::k) st K) with|true=>exec P env n (.code x::k) st K|false=>none)
    |_=>none)
   | .block id c=>exec P env n (.code c:: .NZ id::k) st K
   | .exit id=>(match unwind id k with|some k'=>exec P env n k' st K|none=>K (.exit id) st)
   | .ret=>K .ret st
   | .loop c=>(match mw c with
    |some id=>env.loop id st λout st=>(match out with
     | .norm=>none
     | .ret=>K .ret st
     | .exit id=>(match unwind id k with|some k'=>exec P env n k' st K|none=>K (.exit id) st))
    |none=>none)
   |_=>none
end
end AM
namespace AM
open Go
def xf:List (Nat×cg)->Type
 | []=>Unit
 |o::os=>o.2.den×xf os
structure jG where
 jX:List (Nat×cg)
 heap:List (Nat×aG)
def jG.den (s:jG):Type:=xf s.jX×cS s.heap
def hJ:List jG->Type
 | []=>Empty
 | [e]=>e.den
 |e::es=>e.den⊕hJ es
def aG.mk (b:Nat->Nat):(p:aG)->p.den->gi
 | .var p,d=> .var (p.mk b d)
 | .row t,d=> .row false t d
 | .store ep,d=> .store ep d
def mY (b:Nat->Nat):(l:List (Nat×aG))->cS l->(Nat->Option gi)->(Nat->Option gi)
 | [],_,h=>h
 |(c,p)::os,d,h=>λx=>if x=b c then some (p.mk b d.1) else mY b os d.2 h x
def zq (b:Nat->Nat):(l:List (Nat×cg))->xf l->Nat->AV
 | [],_,_=> .undef
 |o::os,d,x=>if x=o.1 then o.2.mk b d.1 else zq b os d.2 x
def jG.st (s:jG)(nt:Nat)(d:s.den):St:={t:=zq id s.jX d.1,h:=mY id s.heap d.2 (λ_=>none),ep:=0,nt}
inductive xu where
 |at_ (i:Nat)|tl (i off:Nat)|nil|sl (i off len:Nat)
abbrev kG:=List (Nat×xu)
def kG.get (b:kG)(c:Nat):Option xu:=match b with| []=>none|p::ps=>if p.1=c then some p.2 else kG.get ps c
def kG.add (b:kG)(c:Nat)(g:xu):Option kG:=match b.get c,g with
 |none,g=>some ((c,g)::b)
 |some (.at_ i), .at_ j=>if i=j then some b else none
 |some (.tl i 0), .tl j 0=>if i=j then some b else none
 |some _,_=>none
def kG.look (b:kG)(c:Nat):Option xu:=match decide (SB<=c) with|true=>some (.at_ c)|false=>b.get c
mutual
def cg.beq:cg->cg->Bool
 | .hole t, .hole t'=>decide (t=t')
 | .ptr c, .ptr c'=>decide (c=c')
 | .own c, .own c'=>decide (c=c')
 | .agg ps, .agg Xr=>cg.RK ps Xr
 |_,_=>false
def cg.RK:List cg->List cg->Bool
 | [],[]=>true
 |p::ps,q::qs=>p.beq q&&cg.RK ps qs
 |_,_=>false
end
mutual
def aG.beq:aG->aG->Bool
 | .var p, .var q=>p.beq q
 | .row t, .row t'=>decide (t=t')
 | .store e, .store e'=>LG e e'
 |_,_=>false
def LG:List (Nat×aG)->List (Nat×aG)->Bool
 | [],[]=>true
 |(c,p)::os,(c',p')::os'=>decide (c=c')&&p.beq p'&&LG os os'
 |_,_=>false
end
mutual
theorem cg.beq_eq: ∀{p q:cg},p.beq q=true->p=q
 | .hole t,q,h=>by cases q<;>simp[cg.beq] at h;subst h;rfl
 | .ptr c,q,h=>by cases q<;>simp[cg.beq] at h;subst h;rfl
 | .own c,q,h=>by cases q<;>simp[cg.beq] at h;subst h;rfl
 | .agg ps,q,h=>by cases q<;>simp[cg.beq] at h;rw[cg.N3 h]
 | .const _,q,h=>by simp[cg.beq] at h
 | .F4 _,q,h=>by simp[cg.beq] at h
 | .vE _,q,h=>by simp[cg.beq] at h
 | .kv _ _,q,h=>by simp[cg.beq] at h
 | .xq _ _,q,h=>by simp[cg.beq] at h
 | .uD _ _,q,h=>by simp[cg.beq] at h
 | .skip,q,h=>by simp[cg.beq] at h
 | .Jx _,q,h=>by simp[cg.beq] at h
theorem cg.N3: ∀{ps qs:List cg},cg.RK ps qs=true->ps=qs
 | [],qs,h=>by cases qs<;>simp[cg.RK] at h;rfl
 |p::ps,qs,h=>by
  cases qs<;>simp[cg.RK] at h
  rw[cg.beq_eq h.1,cg.N3 h.2]
end
mutual
theorem aG.beq_eq: ∀{p q:aG},p.beq q=true->p=q
 | .var p,q,h=>by cases q<;>simp[aG.beq] at h;rw[cg.beq_eq h]
 | .row t,q,h=>by cases q<;>simp[aG.beq] at h;subst h;rfl
 | .store e,q,h=>by cases q<;>simp[aG.beq] at h;rw[Ds h]
theorem Ds: ∀{l m:List (Nat×aG)},LG l m=true->l=m
 | [],m,h=>by cases m<;>simp[LG] at h;rfl
 |(c,p)::os,m,h=>by
  cases m with
  |nil=>simp[LG] at h
  |cons x xs=>
   obtain⟨c',p'⟩:=x;simp[LG] at h;rw[h.1.1,aG.beq_eq h.1.2,Ds h.2]
end
def N4 (e e':List (Nat×aG))(xs:List (cS e)):Option (List (cS e')):=if h:LG e e'=true then some (Ds h▸xs) else none
section
variable {α:Type}
def Ys:Ty->AV->Bool
 | .int _, .val (.int _ _)=>true
 | .bool, .val (.bool _)=>true
 | .str, .val (.string _)=>true
 | .nil, .agg _=>true
 | .cons _ _, .agg _=>true
 | .arr _ _, .arr _ _ _=>true
 | .deep _, .val (.slice _ _ _)=>true
 | .deep _, .tail _ _=>true
 | .deep _, .slice _ _ _ _=>true
 | .deep _, .dp _ _=>true
 | .deep _, .uD _ _=>true
 | .ref _, .rf _ _ _=>true
 | .ref _, .val (.pointer none)=>true
 |_,_=>false
def Yt:Fn->Fn->Bool
 | .func f, .func g=>decide (f=g)
 |_,_=>false
def nN:(p:List oE)->List Step->(oE.xt p->Option α)->Option α->Option α
 | [],[],k,_=>k ()
 | .iH n::p, .iH m::q,k,f=>(match decide (n=m) with|true=>nN p q k f|false=>f)
 | .idx::p, .idx i::q,k,f=>nN p q (λd=>k (i,d)) f
 |_,_,_,f=>f
def zaE (s:St)(t:Ty)(v:AV)(k:t.den->List Nat->Option α)(fail:Option α):Option α:=
 match Ys t v with|true=>qT s t v k|false=>fail
mutual
def oS (s:St):(p:cg)->AV->kG->(p.den->List Nat->kG->Option α)->Option α->Option α
 | .hole t,v,b,k,f=>zaE s t v (λx i=>k x i b) f
 | .vE t,v,b,k,f=>match v with
  | .ptr i p=>s.get i p λu=>qT s t u λx ids=>k x (i::ids) b
  | .ub u=>qT s t u λx ids=>k x ids b
  |_=>f
 | .const c,v,b,k,f=>match v with| .val v=>(match veq c v with|true=>k () [] b|false=>f)|_=>f
 | .ptr c,v,b,k,f=>match v with| .ptr i []=>(match b.add c (.at_ i) with|some b=>k () [] b|none=>f)|_=>f
 | .own c,v,b,k,f=>match v with
  | .tail i off=>(match b.add c (.tl i off) with|some b=>k () [] b|none=>f)
  | .val (.slice none 0 0)=>(match b.add c .nil with|some b=>k () [] b|none=>f)
  | .slice i [] off len=>(match zV s i with|true=>(match b.add c (.sl i off len) with|some b=>k () [] b|none=>f)|false=>f)
  |_=>f
 | .F4 c,v,b,k,f=>match v with
  | .slice i [] off len=>(match decide (off=0) with|true=>(match b.add c (.tl i 0) with|some b=>k len [] b|none=>f)|false=>f)
  |_=>f
 | .agg ps,v,b,k,f=>match v with| .agg vs=>uP s ps vs b k f|_=>f
 | .kv c p,v,b,k,f=>match v with| .ptr i q=>nN p q (λd=>match b.add c (.at_ i) with|some b=>k d [] b|none=>f) f|_=>f
 | .xq fn ps,v,b,k,f=>match v with| .xq fn' vs=>(match Yt fn fn' with|true=>uP s ps vs b k f|false=>f)|_=>f
 | .uD c n,v,b,k,f=>match v with| .uD i m=>(match decide (n=m) with|true=>(match b.add c (.at_ i) with|some b=>k () [] b|none=>f)|false=>f)|_=>f
 | .skip,v,b,k,f=>match v.sh with| .one=>k () [] b|_=>f
 | .Jx p,v,b,k,f=>match v with
  | .ptr i q=>s.get i q λu=>oS s p u b (λx ids b=>k x (i::ids) b) f
  | .ub u=>oS s p u b k f
  |_=>f
def uP (s:St):(ps:List cg)->List AV->kG->(cg.xt ps->List Nat->kG->Option α)->Option α->Option α
 | [],[],b,k,_=>k () [] b
 |p::ps,v::vs,b,k,f=>oS s p v b (λx i b=>uP s ps vs b (λy j b=>k (x,y) (i++j) b) f) f
 |_,_,_,_,f=>f
end
def HN (s:St):(l:List (Nat×cg))->kG->(xf l->List Nat->kG->Option α)->Option α->Option α
 | [],b,k,_=>k () [] b
 |o::os,b,k,f=>oS s o.2 (s.t o.1) b (λx i b=>HN s os b (λy j b=>k (x,y) (i++j) b) f) f
def LH (s:St)(f:Option α):(p:aG)->xu->kG->(p.den->List Nat->kG->Option α)->Option α
 | .var p, .at_ i,b,k=>match s.h i with|some (.var v)=>oS s p v b k f|_=>none
 | .row t, .tl i off,b,k=>match s.h i with
  |some (.row false t' xs)=>(match sB t' t xs with|some ys=>k (ys.drop off) [] b|none=>none)
  |_=>none
 | .row t, .sl i off len,b,k=>match s.h i with
  |some (.row false t' xs)=>(match sB t' t xs with|some ys=>k ((ys.drop off).take len) [] b|none=>none)
  |_=>none
 | .row _, .nil,b,k=>k [] [] b
 | .store ep, .at_ i,b,k=>match decide (SB<=i) with
  |true=>(match s.h i with
   |some (.store F5 xs)=>(match N4 F5 ep xs with|some ys=>k ys [] b|none=>none)
   |none=>k [] [] b
   |some .void=>k [] [] b
   |_=>none)
  |false=>none
 |_,_,_,_=>none
def HO (s:St)(f:Option α):(l:List (Nat×aG))->kG->(cS l->List Nat->kG->Option α)->Option α
 | [],b,k=>k () [] b
 |(c,p)::os,b,k=>match b.look c with
  |some g=>LH s f p g b λx i b=>HO s f os b λy j b=>k (x,y) (i++j) b
  |none=>none
def xu.ids:xu->List Nat
 | .at_ i=> [i]| .tl i _=> [i]| .nil=> []| .sl i _ _=> [i]
def iZ (l:List (Nat×aG))(b:kG):List Nat:=l.flatMap λo=>match b.look o.1 with|some g=>g.ids|none=> []
def nodup:List Nat->Bool
 | []=>true
 |x::xs=>!xs.contains x&&nodup xs
def isObj (s:St)(i:Nat):Bool:=match s.h i with|some (.var _)=>true|some (.row _ _ _)=>true|_=>false
def oX (sp:jG)(s:St)(b:kG)(k:sp.den->List Nat->kG->Option α)(fail:Option α):Option α:=
 HN s sp.jX b (λx i b=>HO s fail sp.heap b λy j b=>
  match nodup (iZ sp.heap b)&& (i++j).all (λi=>!(iZ sp.heap b).contains i&&isObj s i) with
  |true=>k (x,y) (i++j) b
  |false=>none) fail
def DT (s:St)(b:kG):(es:List jG)->(hJ es->Option α)->Option α
 | [],_=>none
 | [e],k=>oX e s b (λd _ _=>k d) none
 |e::e'::es,k=>oX e s b (λd _ _=>k (.inl d)) (DT s b (e'::es) λd=>k (.inr d))
def HP:(es:List jG)->hJ es->((e:jG)->Nat->e.den->Option α)->Option α
 | [],d,_=>nomatch d
 | [e],d,k=>k e 0 d
 |e::e'::es,d,k=>match d with
  | .inl d=>k e 0 d
  | .inr d=>HP (e'::es) d λe n d=>k e (n+1) d
def iter {L R:Type}(b:L->Option (L⊕R)):Nat->L->Option R
 |0,_=>none
 |n+1,l=>match b l with
  |none=>none
  |some (.inr r)=>some r
  |some (.inl l)=>iter b n l
open Classical in
noncomputable def ag {L R:Type}(b:L->Option (L⊕R))(l:L):Option R:=if h: ∃r,∃n,iter b n l=some r then some h.choose else none
theorem Be {L R:Type}{b:L->Option (L⊕R)}{r:R}: ∀{n m:Nat} {l:L},iter b n l=some r->n<=m->iter b m l=some r
 |0,_,_,h,_=>by simp[iter] at h
 |n+1,0,_,_,hm=>by omega
 |n+1,m+1,l,h,hm=>by
  simp only[iter] at h⊢;split at h
  ·cases h
  ·exact h
  ·exact Be h (by omega)
theorem pw {L R:Type}{b:L->Option (L⊕R)}{l:L}{r:R}:ag b l=some r↔∃n,iter b n l=some r:=by
 unfold ag;constructor
 ·intro h
  split at h
  ·rename_i hx
   injection h with h;subst h;exact hx.choose_spec
  ·cases h
 ·rintro⟨n,hn⟩
  have hx: ∃r,∃n,iter b n l=some r:=⟨r,n,hn⟩;rw[dif_pos hx];obtain⟨m,hm⟩:=hx.choose_spec;have h1:=Be hm (Nat.le_max_left m n);have h2:=Be hn (Nat.le_max_right m n);rw[h1] at h2;exact h2
theorem aq {L R:Type}(b:L->Option (L⊕R))(l:L):ag b l=match b l with|none=>none|some (.inr r)=>some r|some (.inl l')=>ag b l':=by
 cases h:b l with
 |none=>
  cases h2:ag b l with
  |none=>rfl
  |some r=>
   obtain⟨n,hn⟩:=pw.1 h2;cases n<;>simp[iter,h] at hn
 |some x=>
  cases x with
  |inr r=>exact pw.2 ⟨1,by simp[iter,h]⟩
  |inl l'=>
   show _=ag b l'
   cases h2:ag b l' with
   |some r=>
    obtain⟨n,hn⟩:=pw.1 h2;exact pw.2 ⟨n+1,by simp[iter,h,hn]⟩
   |none=>
    cases h3:ag b l with
    |none=>rfl
    |some r=>
     obtain⟨n,hn⟩:=pw.1 h3;cases n with
     |zero=>simp[iter] at hn
     |succ n=>
      simp only[iter,h] at hn;rw[pw.2 ⟨n,hn⟩] at h2;cases h2
def back (b:kG)(fresh c:Nat):Nat:=match decide (c<50) with
 |true=>(match b.get c with|some (.at_ i)=>i|_=>0)
 |false=>(match decide (SB<=c) with|true=>c|false=>fresh+(c-50))
def sr (h:Nat->Option gi):List Nat->(Nat->Option gi)
 | []=>h
 |i::l=>λx=>if x=i then some .dead else sr h l x
def tQ (h:Nat->Option gi):List Nat->(Nat->Option gi)
 | []=>h
 |i::l=>λx=>if x=i then(match h i with|some (.row _ t xs)=>some (.row true t xs)|_=>some .dead) else tQ h l x
structure ak where
 pre:jG
 jf:List jG
 z5:Bool
def iS:Option gi->Bool
 |none=>true
 |some .void=>true
 |_=>false
def oY (h:Nat->Option gi)(fresh:Nat)(pre l:List (Nat×aG)):Bool:=l.all λo=>decide (o.1<50)||(match decide (SB<=o.1) with
 |true=>(pre.any λq=>decide (q.1=o.1))||iS (h o.1)
 |false=>decide (o.1<150)&& (h (fresh+(o.1-50))).isNone)
def rb:List AV->AV
 | [v]=>v
 |vs=> .A8 vs
def zaF (sp:ak):List Nat:=sp.jf.flatMap λe=>(e.heap.map (·.1)).filter λc=>decide (SB<=c)
def Vj (sp:ak)(args:List AV)(st:St)(fail:List Nat×List Nat):List Nat×List Nat:=
 (oX sp.pre {t:=λi=>(args[i]?).getD .undef,h:=st.h,ep:=0,nt:=0} [] (λ_ ro b=>some (match sp.z5 with|true=>(ro,iZ sp.pre.heap b++zaF sp)|false=>([],iZ sp.pre.heap b++(ro++zaF sp)))) (some fail)).getD ([],[])
def uc (lt:Bool)(h:Nat->Option gi)(pre:jG)(b:kG)(ro:List Nat):Nat->Option gi:=match lt with|true=>sr h (iZ pre.heap b)|false=>tQ (sr h (iZ pre.heap b)) ro
def DU (sp:ak)(f:sp.pre.den->Option (hJ sp.jf))(args:List AV)(st:St)(W:List Nat)(fresh:Nat)(k:jG->List Nat->AV->St->Option α)(fail:Option α):Option α:=
 match decide (args.length=sp.pre.jX.length) with
 |false=>none
 |true=>oX sp.pre {t:=λi=>(args[i]?).getD .undef,h:=st.h,ep:=0,nt:=0} [] (λd ro b=>
  match f d with
  |none=>none
  |some r=>match(iZ sp.pre.heap b++(match sp.z5 with|true=> []|false=>ro)).all (λi=>W.contains i) with
   |false=>none
   |true=>HP sp.jf r λe _ d'=>
    match oY st.h fresh sp.pre.heap e.heap&&e.heap.all (λo=>!decide (SB<=o.1)||W.contains o.1) with
    |false=>none
    |true=>k e (e.heap.map λo=>back b fresh o.1) (rb (e.jX.map λo=>zq (back b fresh) e.jX d'.1 o.1)) {st with h:=mY (back b fresh) e.heap d'.2 (uc sp.z5 st.h sp.pre b ro)}) fail
mutual
def cg.ks:cg->List Nat
 | .hole t=>t.ks
 | .vE t=>t.ks
 | .agg ps=>cg.RL ps
 | .xq _ ps=>cg.RL ps
 | .Jx p=>p.ks
 |_=> []
def cg.RL:List cg->List Nat
 | []=> []
 |p::ps=>p.ks++cg.RL ps
end
def aG.ks:aG->List Nat
 | .var p=>p.ks
 | .row t=>t.ks
 | .store _=> []
def Xs (ks l:List Nat):Bool:=l.all λg=>!ks.contains g
def xM (ep:List (Nat×aG)):List Nat:=ep.filterMap λo=>match o.2 with| .store _=>some (o.1-SB)|_=>none
def de (ep:List (Nat×aG))(x:Nat):Bool:=ep.any λo=>decide (o.1=x)&& (match o.2 with| .store _=>true|_=>false)
def Bf (e:jG)(ids rw:List Nat)(ks:List Nat):Bool:=
 (e.jX.all λo=>Xs ks o.2.ks)&& ((e.heap.zip ids).all λp=>rw.contains p.2||(Xs ks p.1.2.ks&& (match p.1.2 with| .store _=>false|_=>true)))
def aG.nf:aG->Bool
 | .store _=>true
 |_=>false
mutual
def cg.cs:cg->List Nat
 | .ptr c=> [c]| .own c=> [c]| .F4 c=> [c]| .kv c _=> [c]| .uD c _=> [c]
 | .agg ps=>cg.Vk ps
 | .xq _ ps=>cg.Vk ps
 | .Jx p=>p.cs
 |_=> []
def cg.Vk:List cg->List Nat
 | []=> []
 |p::ps=>p.cs++cg.Vk ps
end
def aG.cs:aG->List Nat
 | .var p=>p.cs
 |_=> []
def Bg (l:List (Nat×cg)):List Nat:=l.flatMap λo=>o.2.cs
def DV (l:List (Nat×cg)):List Nat:=l.flatMap λo=>o.2.ks
def Bh (l:List (Nat×aG)):List Nat:=l.flatMap λo=>o.2.cs
def DW (l:List (Nat×aG)):List Nat:=l.flatMap λo=>o.2.ks
def jG.closed (sp:jG):Bool:=((Bg sp.jX++Bh sp.heap).all λc=>decide (c<SB)&&sp.heap.any λe=>decide (e.1=c))&& ((DV sp.jX++DW sp.heap).all λg=>de sp.heap (SB+g))&&sp.heap.all λe=>e.2.nf==decide (SB<=e.1)
def Pz (ep:List (Nat×aG)):Bool:=(jG.mk [] ep).closed&& (ep.all λo=>o.2.nf||(decide (50<=o.1)&&decide (o.1<90)))&&nodup (ep.map (·.1))
def epB (off:Nat)(ep:List (Nat×aG)):kG:=ep.filterMap λo=>match o.2 with| .var _=>some (o.1, .at_ (off+(o.1-50)))|_=>none
def GD (ep:List (Nat×aG))(c:Nat):Bool:=ep.any λo=>decide (o.1=c)&& (match o.2 with| .var _=>true|_=>false)
def LI (g n off:Nat)(ep:List (Nat×aG)):AV->AV
 | .ptr i []=>(match decide (off<=i)&&GD ep (i-off+50) with|true=> .rf g n (i-off+50)|false=> .ptr i [])
 |v=>v
def Yu:AV->List AV
 | .A8 vs=>vs
 |v=> [v]
def Xt (f:AV->AV):AV->AV
 | .A8 vs=> .A8 (vs.map f)
 |v=>f v
def ud (h:Nat->Option gi)(ep:List (Nat×aG))(rw:List Nat)(g:Nat)(o:gi):Nat->Option gi:=λx=>
 if x=SB+g then some o else match de ep x with|true=>some .void|false=>if rw.contains x then some .dead else h x
def JE {ep:List (Nat×aG)}(xs:List (cS ep))(n:Nat)(d:cS ep):List (cS ep):=xs.set n d
def Ca {ep:List (Nat×aG)}(xs:List (cS ep))(d:cS ep):List (cS ep):=xs++ [d]
def LJ {ep:List (Nat×aG)}(xs:List (cS ep)):Nat:=xs.length
def RM:Option gi->Bool
 |some .dead=>true
 |_=>false
def inW (W:List Nat)(fresh:Nat)(l:List Nat):Bool:=l.all λi=>W.contains i||decide (i/100=fresh/100)
def Yv (W:List Nat)(fresh g n off:Nat)(ep:List (Nat×aG))(xs:List (cS ep))(e:jG)(ids:List Nat)(av:AV)(st:St)(k:AV->St->Option α):Option α:=
 oX ⟨[],ep⟩ st (epB off ep) (λd ro b=>match ro.isEmpty&&Bf e ids (iZ ep b) (xM ep)&&!(iZ ep b).contains (SB+g)&&ep.all (λo=>o.2.nf||(iZ ep b).contains (back [] off o.1)||RM (st.h (back [] off o.1)))&&inW W fresh (iZ ep b) with
  |false=>none
  |true=>k (Xt (LI g (n+1) off ep) av) {st with h:=ud st.h ep (iZ ep b) g (.store ep (JE xs n d.2))}) none
def Xu (g n:Nat)(vs:List AV)(i:Nat):AV:=rb (vs.set i (.rf g n 50))
def storeAt (ep:List (Nat×aG))(o:Option gi)(k:List (cS ep)->Option α):Option α:=match o with
 |some (.store F5 xs)=>(match N4 F5 ep xs with|some ys=>k ys|none=>none)
 |none=>k []
 |some .void=>k []
 |_=>none
def Yw (W:List Nat)(fresh i g:Nat)(ep:List (Nat×aG))(e:jG)(ids:List Nat)(av:AV)(st:St)(k:AV->St->Option α):Option α:=
 match(Yu av)[i]? with
 |some (.ptr j [])=>storeAt ep (st.h (SB+g)) λxs=>oX ⟨[],ep⟩ st [(50, .at_ j)] (λd ro b=>
  match ro.isEmpty&&Bf e ids (iZ ep b) (xM ep)&&!(iZ ep b).contains (SB+g)&&GD ep 50&&!de ep (SB+g)&&inW W fresh (iZ ep b) with
  |false=>none
  |true=>k (Xu g (LJ (ep:=ep) xs+1) (Yu av) i) {st with h:=ud st.h ep (iZ ep b) g (.store ep (Ca xs d.2))}) none
 |some (.val (.pointer none))=>k av st
 |_=>none
structure oF where
 sp:ak
 f:sp.pre.den->Option (hJ sp.jf)
 dep:Option (Nat×Nat×List (Nat×aG))
def xN:List AV->List (Nat×cg)->Nat->Option (Nat×Nat×Nat×Nat)
 | .rf g n c::vs,(_, .ptr _)::ps,j=>some (j,g,n,c)
 |_::vs,_::ps,j=>xN vs ps (j+1)
 |_,_,_=>none
def oE.HQ:(p:List oE)->oE.xt p
 | []=>()
 | .iH _::p=>oE.HQ p
 | .idx::p=>((0:Nat),oE.HQ p)
mutual
def cg.HQ:(p:cg)->p.den
 | .hole t=>iL t
 | .vE t=>iL t
 | .agg ps=>cg.RN ps
 | .xq _ ps=>cg.RN ps
 | .F4 _=>(0:Nat)
 | .kv _ p=>oE.HQ p
 | .const _=>()
 | .ptr _=>()
 | .own _=>()
 | .uD _ _=>()
 | .skip=>()
 | .Jx p=>p.HQ
def cg.RN:(ps:List cg)->cg.xt ps
 | []=>()
 |p::ps=>(p.HQ,cg.RN ps)
end
def aG.HQ:(p:aG)->p.den
 | .var p=>p.HQ
 | .row _=> []
 | .store _=> []
def Xv:(l:List (Nat×aG))->cS l
 | []=>()
 |(_,p)::os=>(p.HQ,Xv os)
def ue (st:St)(g off:Nat)(ep:List (Nat×aG))(d:cS ep):St:={st with h:=mY (back [] off) ep d (sr st.h [SB+g])}
def fpX (oZ:oF)(args:List AV)(st:St)(fresh:Nat)(fail:List Nat×List Nat):List Nat×List Nat:=match xN args oZ.sp.pre.jX 0 with
 |none=>(match oZ.dep with
  |none=>Vj oZ.sp args st fail
  |some (_,g,ep)=>((Vj oZ.sp args st fail).1,(SB+g)::(ep.map (·.1)++(Vj oZ.sp args st fail).2)))
 |some (j,g,_,c)=>match st.h (SB+g) with
  |some (.store ep _)=>
    let fp:=Vj oZ.sp (args.set j (.ptr (back [] (fresh+60) c) [])) (ue st g (fresh+60) ep (Xv ep)) fail
    (fp.1,(SB+g)::(ep.map (λo=>back [] (fresh+60) o.1)++fp.2))
  |_=>([],[])
def RO (oZ:oF)(args:List AV)(st:St)(W:List Nat)(fresh:Nat)(k:AV->St->Option α)(fail:Option α):Option α:=match xN args oZ.sp.pre.jX 0 with
 |none=>(match oZ.dep with
  |none=>DU oZ.sp oZ.f args st W fresh (λ_ _ av fy=>k av fy) fail
  |some (i,g,ep)=>match W.contains (SB+g)&&ep.all (λo=>W.contains o.1)&&Pz ep&&ep.all (λo=>!o.2.nf||iS (st.h o.1)) with
   |true=>DU oZ.sp oZ.f args st W fresh (λe ids av fy=>Yw W fresh i g ep e ids av fy k) fail
   |false=>none)
 |some (j,g,n,c)=>match st.h (SB+g) with
  |some (.store ep xs)=>(match n with
   |0=>none
   |n+1=>match xs[n]? with
    |none=>none
    |some d=>match Pz ep&&oY st.h (fresh+60) [] ep&&W.contains (SB+g)&&ep.all (λo=>W.contains (back [] (fresh+60) o.1))&&GD ep c with
     |false=>none
     |true=>DU oZ.sp oZ.f (args.set j (.ptr (back [] (fresh+60) c) [])) (ue st g (fresh+60) ep d) W fresh (λe ids av fy=>Yv W fresh g n (fresh+60) ep xs e ids av fy k) fail)
  |_=>none
def mM {β:Type}(n:Nat)(k:Nat->Option β):Option β:=match n with|0=>none|m+1=>k m
structure bu where
 pre:jG
 jf:List jG
 outs:List Out
 nt:Nat
noncomputable def LK (sp:bu)(f:sp.pre.den->Option (sp.pre.den⊕hJ sp.jf))(st:St)(k:Out->St->Option α)(fail:Option α):Option α:=
 match decide (st.nt=sp.nt) with
 |false=>none
 |true=>oX sp.pre st [] (λd ro b=>
  match ag f d with
  |none=>none
  |some r=>HP sp.jf r λe n d'=>
   match oY st.h (name (st.ep+1) 998 0) sp.pre.heap e.heap with
   |false=>none
   |true=>k ((sp.outs[n]?).getD .norm) {t:=zq (back b (name (st.ep+1) 998 0)) e.jX d'.1,h:=mY (back b (name (st.ep+1) 998 0)) e.heap d'.2 (uc false st.h sp.pre b ro),ep:=st.ep+1,nt:=st.nt}) fail
def Cb (sp:jG):kG:=sp.heap.filterMap λo=>match o.2 with| .var _=>(match decide (o.1<50) with|true=>some (o.1, .at_ o.1)|false=>none)|_=>none
def tR (P:Program)(st:St):List ResultVar->(List AV->Option α)->Option α
 | [],k=>k []
 | .tmp t::l,k=>tR P st l λvs=>k (st.t t::vs)
 | .cell a t::l,k=>match st.t a with| .ptr i p=>st.get i p λv=>(match sD P t v with|true=>tR P st l λvs=>k (v::vs)|false=>none)|_=>none
def RP (P:Program)(sp:ak)(fn:Func)(o:Out)(st:St):Option (hJ sp.jf):=
 match o with
 | .exit _=>none
 |_=>tR P st fn.results.toList λvs=>DT {st with t:=λi=>(vs[i]?).getD .undef} (Cb sp.pre) sp.jf some
noncomputable def re (P:Program)(sp:ak)(env:Env (hJ sp.jf))(fn:Func)(d:sp.pre.den):Option (hJ sp.jf):=
 match fn.body with
 |some c=>exec P env 100000 [.code c] (sp.pre.st fn.ntmps d) (RP P sp fn)
 |none=>none
def dm (id:Nat):Code->Option Code
 | .seq a b=>match dm id a with|some c=>some c|none=>dm id b
 | .cond _ a b=>match dm id a with|some c=>some c|none=>dm id b
 | .block _ c=>dm id c
 | .scope c=>dm id c
 | .loop c=>if mw c=some id then some c else dm id c
 |_=>none
def rh (id:Nat)(fn:Func):Code:=match fn.body with|some c=>(dm id c).getD .skip|none=> .skip
structure uG where
 sp:bu
 f:sp.pre.den->Option (sp.pre.den⊕hJ sp.jf)
def uQ {β:Type}(n:Nat):List (Nat×β)->Option β
 | []=>none
 |p::l=>if p.1=n then some p.2 else uQ n l
noncomputable def Dt (st:St)(k:Out->St->Option α):List uG->Option α
 | []=>none
 |l::ls=>LK l.sp l.f st k (Dt st k ls)
def Bi (args:List AV)(st:St)(W:List Nat)(fresh:Nat)(k:AV->St->Option α):List oF->Option α
 | []=>none
 |c::cs=>RO c args st W fresh k (Bi args st W fresh k cs)
def PA (args:List AV)(st:St)(fresh:Nat):List oF->List Nat×List Nat
 | []=>([],[])
 |c::cs=>fpX c args st fresh (PA args st fresh cs)
noncomputable def sF (calls:List (Nat×List oF))(loops:List (Nat×List uG)):Env α where
 call f args st fresh k:=match uQ f calls with
  |some cs=>Bi args st (PA args st fresh cs).2 fresh k cs
  |none=>none
 loop id st k:=match uQ id loops with
  |some ls=>Dt st k ls
  |none=>none
 fp f args st fresh:=match uQ f calls with
  |some cs=>PA args st fresh cs
  |none=>([],[])
def N5:Out->Out->Bool
 | .norm, .norm=>true| .ret, .ret=>true| .exit i, .exit j=>decide (i=j)|_,_=>false
def rk (s:St)(b:kG)(o:Out):(es:List jG)->List Out->(hJ es->Option α)->Option α
 | [],_,_=>none
 | [e],outs,k=>match outs with|o'::_=>(match N5 o o' with|true=>oX e s b (λd _ _=>k d) none|false=>none)| []=>none
 |e::e'::es,outs,k=>match outs with
  |o'::outs=>(match N5 o o' with
   |true=>oX e s b (λd _ _=>k (.inl d)) (rk s b o (e'::es) outs λd=>k (.inr d))
   |false=>rk s b o (e'::es) outs λd=>k (.inr d))
  | []=>none
def RQ (sp:bu)(o:Out)(st:St):Option (sp.pre.den⊕hJ sp.jf):=
 match decide (st.nt=sp.nt) with
 |false=>none
 |true=>match o with
  | .norm=>oX sp.pre st (Cb sp.pre) (λd _ _=>some (.inl d)) none
  |o=>rk st (Cb sp.pre) o sp.jf sp.outs λd=>some (.inr d)
noncomputable def uf (P:Program)(sp:bu)(env:Env (sp.pre.den⊕hJ sp.jf))(fn:Func)(id:Nat)(d:sp.pre.den):Option (sp.pre.den⊕hJ sp.jf):=
 exec P env 100000 [.code (rh id fn)] (sp.pre.st sp.nt d) (RQ sp)
end
end AM
namespace AM
open Go
structure Nm where
 base:Option Addr
 sh:Sh
 row:Bool
 len:Nat
 cap:Nat
structure Names where
 at_:List (Nat×Nat)->Nat->Option Nm
instance :CoeFun Names (λ_=>Nat->Option Nm):=⟨λN=>N.at_ []⟩
def Names.sub (N:Names)(g k:Nat):Names:=⟨λp=>N.at_ ((g,k)::p)⟩
def Names.up (N:Names)(f:Nat->Option Nm):Names:=⟨λp=>match p with| []=>f|q::p=>N.at_ (q::p)⟩
def Names.nil:Names:=⟨λ_ _=>none⟩
def Names.JF (N N':Names):Prop:= ∀g k c nm,N.sub g k c=some nm->nm.row=false->N'.sub g k c=some nm
structure Names.le (N N':Names):Prop where
 st: ∀i nm,N i=some nm->N' i=some nm
 sub:N.JF N'
instance {N N':Names}:CoeFun (N.le N') (λ_=> ∀i nm,N i=some nm->N' i=some nm):=⟨λh=>h.st⟩
theorem Names.le_refl (N:Names):N.le N:=⟨λ_ _ h=>h,λ_ _ _ _ h _=>h⟩
theorem Names.le.trans {N N' Xw:Names}(h:N.le N')(h':N'.le Xw):N.le Xw:=⟨λ_ _ e=>h'.st _ _ (h.st _ _ e),λg k c nm e r=>h'.sub g k c nm (h.sub g k c nm e r) r⟩
theorem Names.RR {N:Names}{f:Nat->Option Nm}(h: ∀i nm,N i=some nm->f i=some nm):N.le (N.up f):=⟨h,λ_ _ _ _ e _=>e⟩
def fX:List Step->Sh->Option Nat
 | [],_=>some 0
 | .iH n::p, .agg l=>match l[n]? with|some s=>(fX p s).map (Sh.dK (l.take n)+·)|none=>none
 | .idx i::p, .arr n e=>if i<n then(fX p e).map (i*e.size+·) else none
 |_,_=>none
def Nm.off (nm:Nm):List Step->Option Nat
 | .idx i::p=>if nm.row then(if i<nm.len then(fX p nm.sh).map (i*nm.sh.size+·) else none) else fX (.idx i::p) nm.sh
 |p=>if nm.row then none else fX p nm.sh
def Nm.Ln (nm:Nm)(p:List Step):Option Sh:=if nm.row then(match p with| .idx _::p=>zW p nm.sh|_=>none) else zW p nm.sh
def Addr.at_ (a:Addr)(n:Nat):Addr:=⟨a.block,a.off+n,none⟩
def aX (w:World)(a:Addr)(j:Nat):Option Value:=w.cell? ⟨a.block,a.off+j,none⟩
abbrev ko {β:Type}(xs:List β)(i:Nat):Option β:=xs[i]?
abbrev aM {β:Type}(xs:List β):Nat:=xs.length
def HR (ad:Addr)(len room:Nat)(v:Value):Prop:= ∃a cap,v= .slice (some a) len cap/\len<=cap/\cap=room/\(a=ad\/cap=0)
section
variable (N:Names)(D:Nat->Prop)(w:World)
def xO (tag n c:Nat)(v:Option Value):Prop:=match n with
 |0=>v=some (.pointer none)
 |k+1=> ∃nm a,N.sub tag k c=some nm/\nm.row=false/\nm.base=some a/\v=some (.pointer (some (Addr.at_ a 0)))
def iI:(t:Ty)->t.den->(Nat->Option Value)->Prop
 | .int k,n,g=>g 0=some (.int k n)
 | .bool,b,g=>g 0=some (.bool b)
 | .str,s,g=>g 0=some (.string s)
 | .nil,_,_=>True
 | .cons a b,p,g=>iI a p.1 g/\iI b p.2 (λj=>g (a.size+j))
 | .arr n t,xs,g=>aM (β:=t.den) xs=n/\∀i (x:t.den),ko (β:=t.den) xs i=some x->iI t x (λj=>g (i*t.size+j))
 | .deep t,xs,g=> ∃a cap,g 0=some (.slice a (aM (β:=t.den) xs) cap)/\aM (β:=t.den) xs<=cap/\(a=none->cap=0)/\
   ∀ad,a=some ad->aM (β:=t.den) xs≠0->ad.spot=none/\D ad.block/\∀i (x:t.den),ko (β:=t.den) xs i=some x->iI t x (λj=>aX w ad (i*t.size+j))
 | .ref g,n,c=>xO N g n 50 (c 0)
def zdt (t:Ty)(xs:List t.den)(v:Value):Prop:=iI N D w (.deep t) xs (λ_=>some v)
end
def jJ (agg:Bool)(size:Nat)(R:(Nat->Option Value)->Prop)(v:Value):Prop:=
 match agg with
 |true=> ∃cells:Array Value,v= .agg cells/\cells.size=size/\R (cells[·]?)
 |false=>R (λ_=>some v)
section
variable (N:Names)(D:Nat->Prop)(w:World)
mutual
def an:AV->(Nat->Option Value)->Prop
 | .undef,_=>True
 | .val v,g=>g 0=some v
 | .ptr id p,g=> ∃nm a o,N id=some nm/\nm.base=some a/\nm.off p=some o/\g 0=some (.pointer (some (Addr.at_ a o)))
 | .tail id off,g=> ∃nm,N id=some nm/\nm.row=true/\off<=nm.len/\nm.len<=nm.cap/\
   match nm.base with
   |none=>nm.len=0/\g 0=some (.slice none 0 0)
   |some a=> ∃v room,g 0=some v/\off+room<=nm.cap/\HR (Addr.at_ a (off*nm.sh.size)) (nm.len-off) room v
 | .slice id p off len,g=> ∃nm,N id=some nm/\match nm.base with
  |none=>(nm.row&&p.isEmpty)=true/\off=0/\len=0/\nm.len=0/\g 0=some (.slice none 0 0)
  |some a=>
   if(nm.row&&p.isEmpty)=true then off+len<=nm.len/\nm.len<=nm.cap/\∃v room,g 0=some v/\off+room<=nm.cap/\nm.len<=off+room/\HR (Addr.at_ a (off*nm.sh.size)) len room v
   else∃o n e v room,nm.off p=some o/\nm.Ln p=some (.arr n e)/\off+len<=n/\g 0=some v/\off+room=n/\HR (Addr.at_ a (o+off*e.size)) len room v
 | .dp t xs,g=>iI N D w (.deep t) xs g
 | .ub v,g=> ∃a,g 0=some (.pointer (some a))/\a.spot=none/\D a.block/\an v (aX w a)
 | .agg fs,g=>fE fs g
 | .arr n t xs,g=>iI N D w (.arr n t) xs g
 | .rf tag n c,g=>xO N tag n c (g 0)
 | .A8 vs,g=> ∃cs:Array Value,g 0=some (.tuple cs)/\bB vs cs.toList
 | .xq fn vs,g=> ∃cs:Array Value,g 0=some (.func fn #[] cs)/\bB vs cs.toList
 | .xG,g=> ∃b,g 0=some (.bool b)
 | .Ro id p f off,g=> ∃nm a o,N id=some nm/\nm.base=some a/\nm.off p=some o/\g 0=some (.pointer (some (Addr.at_ a (o+off))))
 | .xr fn vs,g=> ∃cs:Array Value,g 0=some (.func fn cs #[])/\bB vs cs.toList
 | .uD id n,g=> ∃nm a,N id=some nm/\nm.base=some a/\nm.row=false/\g 0=some (.slice (some a) n n)
def fE:List AV->(Nat->Option Value)->Prop
 | [],_=>True
 |x::xs,g=>an x g/\fE xs (λj=>g (x.size+j))
def bB:List AV->List Value->Prop
 | [],cs=>cs=[]
 |x::xs,cs=> ∃c tS,cs=c::tS/\jJ x.isAgg x.size (an x) c/\bB xs tS
end
def cp (x:AV)(v:Value):Prop:=jJ x.isAgg x.size (an N D w x) v
end
theorem PB {N N':Names}(hN:N.JF N'){tag n c:Nat}{v:Option Value}(h:xO N tag n c v):xO N' tag n c v:=by
 cases n with
 |zero=>exact h
 |succ k=>obtain⟨nm,a,h1,h2,h3⟩:=h;exact⟨nm,a,hN _ _ _ _ h1 h2,h2,h3⟩
def my (ks:List Nat)(N N':Names):Prop:= ∀g∈ks,∀k c nm,N.sub g k c=some nm->nm.row=false->N'.sub g k c=some nm
theorem Names.JF.on {N N':Names}(h:N.JF N')(ks:List Nat):my ks N N':=λg _=>h g
theorem my.left {ks ks':List Nat}{N N':Names}(h:my (ks++ks') N N'):my ks N N':=λg hg=>h g (zdX _ hg)
theorem my.right {ks ks':List Nat}{N N':Names}(h:my (ks++ks') N N'):my ks' N N':=λg hg=>h g (zdY _ hg)
theorem kH {N N':Names}{D D':Nat->Prop}{w w':World}(hD: ∀b,D b->D' b)(hw: ∀b,D b->w'.heap[b]?=w.heap[b]?): ∀(t:Ty) (x:t.den) (g:Nat->Option Value),my t.ks N N'->iI N D w t x g->iI N' D' w' t x g
 | .int _,_,_,_,h=>by simp only[iI] at*;exact h
 | .bool,_,_,_,h=>by simp only[iI] at*;exact h
 | .str,_,_,_,h=>by simp only[iI] at*;exact h
 | .nil,_,_,_,_=>by simp only[iI]
 | .cons a b,p,g,hN,h=>⟨kH hD hw a p.1 g hN.left h.1,kH hD hw b p.2 _ hN.right h.2⟩
 | .arr n t,xs,g,hN,h=>⟨h.1,λi x hx=>kH hD hw t x _ hN (h.2 i x hx)⟩
 | .deep t,xs,g,hN,h=>by
  obtain⟨a,cap,h1,h2,h3,h4⟩:=h;refine⟨a,cap,h1,h2,h3,λad ha hx=>?_⟩;obtain⟨h5,h6,h7⟩:=h4 ad ha hx;refine⟨h5,hD _ h6,λi x hi=>?_⟩;have:=kH hD hw t x _ hN (h7 i x hi);have e:(λj=>aX w ad (i*t.size+j))=λj=>aX w' ad (i*t.size+j):=by
   funext j;simp only[aX,World.cell?,hw _ h6]
  rw[<-e];exact this
 | .ref g,n,c,hN,h=>by
  show xO N' g n 50 (c 0)
  have h:xO N g n 50 (c 0):=h;cases n with
  |zero=>exact h
  |succ k=>obtain⟨nm,a,h1,h2,h3⟩:=h;exact⟨nm,a,hN g (List.mem_singleton.2 rfl) _ _ _ h1 h2,h2,h3⟩
theorem LL {N N':Names}{D D':Nat->Prop}{w w':World}(hN:N.JF N')(hD: ∀b,D b->D' b)(hw: ∀b,D b->w'.heap[b]?=w.heap[b]?)(t:Ty)(x:t.den)(g:Nat->Option Value)(h:iI N D w t x g):iI N' D' w' t x g:=
 kH hD hw t x g (hN.on _) h
theorem kK {N N':Names}{D D':Nat->Prop}{w w':World}(hN:N.le N')(hD: ∀b,D b->D' b)(hw: ∀b,D b->w'.heap[b]?=w.heap[b]?)(t:Ty)(x:t.den)(g:Nat->Option Value)(h:iI N D w t x g):iI N' D' w' t x g:=
 LL hN.sub hD hw t x g h
theorem jv {N:Names}{D:Nat->Prop}{w:World}: ∀(t:Ty) (x:t.den) (g g':Nat->Option Value),(∀j,j<t.size->g j=g' j)->iI N D w t x g->iI N D w t x g'
 | .int _,_,g,g',hg,h=>by simp only[iI] at*;rw[<-hg 0 (by simp[Ty.size])];exact h
 | .bool,_,g,g',hg,h=>by simp only[iI] at*;rw[<-hg 0 (by simp[Ty.size])];exact h
 | .str,_,g,g',hg,h=>by simp only[iI] at*;rw[<-hg 0 (by simp[Ty.size])];exact h
 | .nil,_,_,_,_,_=>by simp only[iI]
 | .cons a b,p,g,g',hg,h=>⟨jv a p.1 g g' (λj hj=>hg j (by simp[Ty.size];omega)) h.1,jv b p.2 _ _ (λj hj=>hg _ (by simp[Ty.size];omega)) h.2⟩
 | .arr n t,xs,g,g',hg,h=>by
  refine⟨h.1,λi x hx=>jv t x _ _ (λj hj=>hg _ ?_) (h.2 i x hx)⟩;have hi:i<aM (β:=t.den) xs:=(List.getElem?_eq_some_iff.1 hx).1;have:i+1<=n:=by have:=h.1;omega
  have:=zdZ t.size this;simp only[Ty.size];rw[zd0] at this;omega
 | .deep t,xs,g,g',hg,h=>by
  obtain⟨a,cap,h1,h2⟩:=h;exact⟨a,cap,by rw[<-hg 0 (by simp[Ty.size])];exact h1,h2⟩
 | .ref _,_,g,g',hg,h=>by simp only[iI] at*;rw[<-hg 0 (by simp[Ty.size])];exact h
theorem xP {agg:Bool}{size:Nat}{R R':(Nat->Option Value)->Prop}(h: ∀g,R g->R' g){v:Value}(hv:jJ agg size R v):jJ agg size R' v:=by
 cases agg with
 |true=>obtain⟨c,h1,h2,h3⟩:=hv;exact⟨c,h1,h2,h _ h3⟩
 |false=>exact h _ hv
section
variable {N N':Names}{D D':Nat->Prop}{w w':World}
mutual
theorem qA (hN:N.le N')(hD: ∀b,D b->D' b)(hw: ∀b,D b->w'.heap[b]?=w.heap[b]?):
  ∀(x:AV) (g:Nat->Option Value),an N D w x g->an N' D' w' x g
 | .undef,_,_=>by simp only[an]
 | .val v,g,h=>by simp only[an] at*;exact h
 | .ptr id p,g,h=>by
  simp only[an] at*;obtain⟨nm,a,o,h1,h2⟩:=h;exact⟨nm,a,o,hN _ _ h1,h2⟩
 | .tail id off,g,h=>by
  simp only[an] at*;obtain⟨nm,h1,h2⟩:=h;exact⟨nm,hN _ _ h1,h2⟩
 | .slice id p off len,g,h=>by
  simp only[an] at*;obtain⟨nm,h1,h2⟩:=h;exact⟨nm,hN _ _ h1,h2⟩
 | .dp t xs,g,h=>by simp only[an] at*;exact kK hN hD hw _ _ _ h
 | .ub v,g,h=>by
  simp only[an] at*;obtain⟨a,h1,h2,h3,h4⟩:=h;refine⟨a,h1,h2,hD _ h3,?_⟩;have e:aX w a=aX w' a:=by funext j;simp only[aX,World.cell?,hw _ h3]
  rw[<-e];exact qA hN hD hw v _ h4
 | .agg fs,g,h=>by simp only[an] at*;exact Cc hN hD hw fs g h
 | .arr n t xs,g,h=>by simp only[an] at*;exact kK hN hD hw _ _ _ h
 | .A8 vs,g,h=>by
  simp only[an] at*;obtain⟨cs,h1,h2⟩:=h;exact⟨cs,h1,pL hN hD hw vs _ h2⟩
 | .xq fn vs,g,h=>by
  simp only[an] at*;obtain⟨cs,h1,h2⟩:=h;exact⟨cs,h1,pL hN hD hw vs _ h2⟩
 | .xG,g,h=>by simp only[an] at*;exact h
 | .Ro id p f off,g,h=>by
  simp only[an] at*;obtain⟨nm,a,o,h1,h2⟩:=h;exact⟨nm,a,o,hN _ _ h1,h2⟩
 | .xr fn vs,g,h=>by
  simp only[an] at*;obtain⟨cs,h1,h2⟩:=h;exact⟨cs,h1,pL hN hD hw vs cs.toList h2⟩
 | .uD id n,g,h=>by
  simp only[an] at*;obtain⟨nm,a,h1,h2⟩:=h;exact⟨nm,a,hN _ _ h1,h2⟩
 | .rf _ _ _,g,h=>by simp only[an] at*;exact PB hN.sub h
theorem Cc (hN:N.le N')(hD: ∀b,D b->D' b)(hw: ∀b,D b->w'.heap[b]?=w.heap[b]?):
  ∀(l:List AV) (g:Nat->Option Value),fE N D w l g->fE N' D' w' l g
 | [],_,_=>by simp only[fE]
 |x::xs,g,h=>by
  simp only[fE] at*;exact⟨qA hN hD hw x g h.1,Cc hN hD hw xs _ h.2⟩
theorem pL (hN:N.le N')(hD: ∀b,D b->D' b)(hw: ∀b,D b->w'.heap[b]?=w.heap[b]?):
  ∀(l:List AV) (cs:List Value),bB N D w l cs->bB N' D' w' l cs
 | [],_,h=>by simp only[bB] at*;exact h
 |x::xs,cs,h=>by
  simp only[bB] at*;obtain⟨c,tS,h1,h2,h3⟩:=h;exact⟨c,tS,h1,xP (λg hg=>qA hN hD hw x g hg) h2,pL hN hD hw xs tS h3⟩
end
theorem GF (hN:N.le N')(hD: ∀b,D b->D' b)(hw: ∀b,D b->w'.heap[b]?=w.heap[b]?){x:AV}{v:Value}(h:cp N D w x v):cp N' D' w' x v:=
 xP (λg hg=>qA hN hD hw x g hg) h
mutual
theorem ke: ∀(x:AV) (g g':Nat->Option Value),(∀j,j<x.size->g j=g' j)->an N D w x g->an N D w x g'
 | .undef,_,_,_,_=>by simp only[an]
 | .val v,g,g',hg,h=>by simp only[an] at*;rw[<-hg 0 (by simp[AV.size])];exact h
 | .ptr id p,g,g',hg,h=>by simp only[an] at*;rw[<-hg 0 (by simp[AV.size])];exact h
 | .tail id off,g,g',hg,h=>by simp only[an] at*;rw[<-hg 0 (by simp[AV.size])];exact h
 | .slice id p off len,g,g',hg,h=>by simp only[an] at*;rw[<-hg 0 (by simp[AV.size])];exact h
 | .dp t xs,g,g',hg,h=>by simp only[an] at*;exact jv _ _ _ _ (λj hj=>hg j (by simpa [AV.size,Ty.size] using hj)) h
 | .ub v,g,g',hg,h=>by simp only[an] at*;rw[<-hg 0 (by simp[AV.size])];exact h
 | .agg fs,g,g',hg,h=>by simp only[an] at*;exact wA fs g g' (λj hj=>hg j (by simpa [AV.size] using hj)) h
 | .arr n t xs,g,g',hg,h=>by simp only[an] at*;exact jv _ _ _ _ (λj hj=>hg j (by simpa [AV.size,Ty.size] using hj)) h
 | .A8 vs,g,g',hg,h=>by simp only[an] at*;rw[<-hg 0 (by simp[AV.size])];exact h
 | .xq fn vs,g,g',hg,h=>by simp only[an] at*;rw[<-hg 0 (by simp[AV.size])];exact h
 | .xG,g,g',hg,h=>by simp only[an] at*;rw[<-hg 0 (by simp[AV.size])];exact h
 | .Ro id p f off,g,g',hg,h=>by simp only[an] at*;rw[<-hg 0 (by simp[AV.size])];exact h
 | .xr fn vs,g,g',hg,h=>by simp only[an] at*;rw[<-hg 0 (by simp[AV.size])];exact h
 | .uD id n,g,g',hg,h=>by simp only[an] at*;rw[<-hg 0 (by simp[AV.size])];exact h
 | .rf _ _ _,g,g',hg,h=>by simp only[an] at*;rw[<-hg 0 (by simp[AV.size])];exact h
theorem wA: ∀(l:List AV) (g g':Nat->Option Value),(∀j,j<AV.dK l->g j=g' j)->fE N D w l g->fE N D w l g'
 | [],_,_,_,_=>by simp only[fE]
 |x::xs,g,g',hg,h=>by
  simp only[fE] at*;exact⟨ke x g g' (λj hj=>hg j (by simp[AV.dK];omega)) h.1,wA xs _ _ (λj hj=>hg _ (by simp[AV.dK];omega)) h.2⟩
end
end
end AM
namespace AM
open Go
theorem iT: ∀t:Ty,(sC t).size=t.size
 | .int _=>by simp[sC,Sh.size,Ty.size]
 | .bool=>by simp[sC,Sh.size,Ty.size]
 | .str=>by simp[sC,Sh.size,Ty.size]
 | .nil=>by simp[sC,Sh.size,Sh.dK,Ty.size]
 | .deep _=>by simp[sC,Sh.size,Ty.size]
 | .ref _=>by simp[sC,Sh.size,Ty.size]
 | .arr n t=>by simp[sC,Sh.size,Ty.size,iT t]
 | .cons a b=>by
  have ha:=iT a;have hb:=iT b;unfold sC;cases h:sC b<;>simp[h,Sh.size,Sh.dK,Ty.size] at* <;>omega
theorem nO: ∀(t:Ty) (x:t.den),(enc t x).size=t.size
 | .int _,_=>by simp[enc,AV.size,Ty.size]
 | .bool,_=>by simp[enc,AV.size,Ty.size]
 | .str,_=>by simp[enc,AV.size,Ty.size]
 | .nil,_=>by simp[enc,AV.size,AV.dK,Ty.size]
 | .deep _,_=>by simp[enc,AV.size,Ty.size]
 | .ref _,_=>by simp[enc,AV.size,Ty.size]
 | .arr n t,_=>by simp[enc,AV.size,Ty.size]
 | .cons a b,p=>by
  have ha:=nO a p.1;have hb:=nO b p.2;unfold enc;cases h:enc b p.2<;>simp[h,AV.size,AV.dK,Ty.size] at* <;>omega
theorem rS: ∀(t:Ty) (x:t.den),(enc t x).sh=sC t
 | .int _,_=>by simp[enc,AV.sh,sC]
 | .bool,_=>by simp[enc,AV.sh,sC]
 | .str,_=>by simp[enc,AV.sh,sC]
 | .nil,_=>by simp[enc,AV.sh,AV.xH,sC]
 | .deep _,_=>by simp[enc,AV.sh,sC]
 | .ref _,_=>by simp[enc,AV.sh,sC]
 | .arr n t,_=>by simp[enc,AV.sh,sC]
 | .cons a b,p=>by
  have ha:=rS a p.1;have hb:=rS b p.2;unfold enc sC;cases h:enc b p.2<;>simp[h,AV.sh,AV.xH] at hb⊢ <;>simp[<-hb,ha]
mutual
theorem la: ∀v:AV,v.sh.size=v.size
 | .undef=>by simp[AV.sh,Sh.size,AV.size]
 | .val _=>by simp[AV.sh,Sh.size,AV.size]
 | .ptr _ _=>by simp[AV.sh,Sh.size,AV.size]
 | .tail _ _=>by simp[AV.sh,Sh.size,AV.size]
 | .slice _ _ _ _=>by simp[AV.sh,Sh.size,AV.size]
 | .dp _ _=>by simp[AV.sh,Sh.size,AV.size]
 | .ub _=>by simp[AV.sh,Sh.size,AV.size]
 | .A8 _=>by simp[AV.sh,Sh.size,AV.size]
 | .xq _ _=>by simp[AV.sh,Sh.size,AV.size]
 | .xG=>by simp[AV.sh,Sh.size,AV.size]
 | .Ro _ _ _ _=>by simp[AV.sh,Sh.size,AV.size]
 | .xr _ _=>by simp[AV.sh,Sh.size,AV.size]
 | .uD _ _=>by simp[AV.sh,Sh.size,AV.size]
 | .rf _ _ _=>by simp[AV.sh,Sh.size,AV.size]
 | .arr n t _=>by simp[AV.sh,Sh.size,AV.size,iT]
 | .agg fs=>by simp[AV.sh,Sh.size,AV.size,z6 fs]
theorem z6: ∀l:List AV,Sh.dK (AV.xH l)=AV.dK l
 | []=>by simp[AV.xH,Sh.dK,AV.dK]
 |x::xs=>by simp[AV.xH,Sh.dK,AV.dK,la x,z6 xs]
end
theorem DX: ∀(l:List AV) (n:Nat),AV.xH (l.take n)=(AV.xH l).take n
 | [],n=>by simp[AV.xH]
 |x::xs,0=>by simp[AV.xH]
 |x::xs,n+1=>by simp[AV.xH,DX xs n]
theorem z7: ∀(l:List AV) (n:Nat),(AV.xH l)[n]?=(l[n]?).map AV.sh
 | [],n=>by simp[AV.xH]
 |x::xs,0=>by simp[AV.xH]
 |x::xs,n+1=>by simp[AV.xH,z7 xs n]
theorem LM: ∀(l:List AV),(AV.xH l).length=l.length
 | []=>by simp[AV.xH]
 |x::xs=>by simp[AV.xH,LM xs]
section
variable {N:Names}{D:Nat->Prop}{w:World}
theorem kV: ∀(t:Ty) (x:t.den) (g:Nat->Option Value),an N D w (enc t x) g↔iI N D w t x g
 | .int _,_,_=>by simp[enc,an,iI]
 | .bool,_,_=>by simp[enc,an,iI]
 | .str,_,_=>by simp[enc,an,iI]
 | .nil,_,_=>by simp[enc,an,fE,iI]
 | .deep _,_,_=>by simp[enc,an]
 | .ref _,_,_=>by simp[enc,an,iI]
 | .arr n t,_,_=>by simp[enc,an]
 | .cons a b,⟨p,q⟩,g=>by
  have ha:=kV a p g;have hb:=kV b q (λj=>g (a.size+j));have hs:=nO a p;have e:enc (.cons a b) (p,q)=match enc b q with| .agg l=> .agg (enc a p::l)|v=> .agg [enc a p,v]:=rfl
  have e2:iI N D w (.cons a b) (p,q) g=(iI N D w a p g/\iI N D w b q (λj=>g (a.size+j))):=rfl;rw[e,e2,<-ha,<-hb,<-hs];cases h:enc b q<;>simp only[an,fE,and_true]
theorem qJ: ∀(l:List AV) (n:Nat) (v:AV) (g:Nat->Option Value),l[n]?=some v->fE N D w l g->an N D w v (λj=>g (AV.dK (l.take n)+j))
 | [],n,v,g,h,_=>by simp at h
 |x::xs,0,v,g,h,hr=>by
  simp at h;subst h;simp only[fE] at hr;simpa [AV.dK] using hr.1
 |x::xs,n+1,v,g,h,hr=>by
  simp only[fE] at hr;have:=qJ xs n v _ (by simpa using h) hr.2
  simpa [AV.dK,zd1] using this
end
theorem vf: ∀(l:List AV) (n:Nat) (v:AV),l[n]?=some v->AV.dK (l.take n)+v.size<=AV.dK l
 | [],n,v,h=>by simp at h
 |x::xs,0,v,h=>by simp at h;subst h;simp[AV.dK]
 |x::xs,n+1,v,h=>by
  have:=vf xs n v (by simpa using h)
  simp[AV.dK];omega
section
variable (N:Names)(D:Nat->Prop)(w:World)(base:Nat)
def tw (id:Nat)(v:AV):Prop:= ∃nm a,N id=some nm/\nm.base=some a/\nm.row=false/\nm.sh=v.sh/\a.spot=none/\a.off=0/\base<=a.block/\¬D a.block/\
   (∃c ty,w.heap[a.block]?=some (.cells c ty (0,0))/\c.size=v.size)/\an N D w v (aX w a)
def nP (id:Nat)(ro:Bool)(t:Ty)(xs:List t.den):Prop:= ∃nm,N id=some nm/\nm.row=true/\nm.sh=sC t/\nm.len=aM (β:=t.den) xs/\nm.len<=nm.cap/\
   match nm.base with
   |none=>nm.len=0
   |some a=>a.spot=none/\(∃c ty fz,w.heap[a.block]?=some (.cells c ty fz)/\a.off+nm.cap*t.size<=c.size/\(ro=false->fz=(0,0)\/c.size<=fz.1/\t= .int .u8))/\
     (if ro=true then D a.block else base<=a.block/\¬D a.block)/\∀i (x:t.den),ko (β:=t.den) xs i=some x->iI N D w t x (λj=>aX w a (i*t.size+j))
def oG (id b:Nat):Prop:= ∃nm a,N id=some nm/\nm.base=some a/\a.block=b
mutual
def pZ (N:Names)(c:Nat):(p:aG)->p.den->Nat->Prop
 | .var _,_,b=>oG N c b
 | .row _,_,b=>oG N c b
 | .store ep,xs,b=> ∃(k:Nat) (d:cS ep),ko (β:=cS ep) xs k=some d/\pM (N.sub (c-SB) k) ep d b
def pM (N:Names):(l:List (Nat×aG))->cS l->Nat->Prop
 | [],_,_=>False
 |(c,p)::os,d,b=>pZ N c p d.1 b\/pM N os d.2 b
end
def Du (M:Names)(ep:List (Nat×aG)):Prop:=(∀c nm,M c=some nm->∃e∈ep,e.1=c/\e.2.nf=false)/\∀g,(∀e∈ep,e.1≠SB+g)->∀k,M.sub g k=Names.nil
mutual
def jr (N:Names)(c:Nat):(p:aG)->p.den->Prop
 | .var p,d=>tw N D w base c (p.mk (λc=>c) d)
 | .row t,xs=>nP N D w base c false t xs
 | .store ep,xs=>SB<=c/\(∀(k:Nat) (d:cS ep),ko (β:=cS ep) xs k=some d->kX (N.sub (c-SB) k) ep d/\Du (N.sub (c-SB) k) ep)/\(∀k,aM (β:=cS ep) xs<=k->N.sub (c-SB) k=Names.nil)/\
   ∀(k k':Nat) (d d':cS ep) (b:Nat),ko (β:=cS ep) xs k=some d->ko (β:=cS ep) xs k'=some d'->pM (N.sub (c-SB) k) ep d b->pM (N.sub (c-SB) k') ep d' b->k=k'
def kX (N:Names):(l:List (Nat×aG))->cS l->Prop
 | [],_=>True
 |(c,p)::os,d=>jr N c p d.1/\kX N os d.2/\∀b,pZ N c p d.1 b->pM N os d.2 b->False
end
def qK (id:Nat):gi->Prop
 | .dead=>True
 | .void=>True
 | .store ep xs=>jr D w base N id (.store ep) xs
 | .var v=>tw N D w base id v
 | .row ro t xs=>nP N D w base id ro t xs
def jd (id:Nat):gi->Nat->Prop
 | .var _,b=>oG N id b
 | .row false _ _,b=>oG N id b
 | .store ep xs,b=>pZ N id (.store ep) xs b
 |_,_=>False
def gi.rw:gi->Bool
 | .var _=>true| .row ro _ _=>!ro|_=>false
def zr (h:Nat->Option gi)(b:Nat):Prop:= ∃id o,h id=some o/\jd N id o b
structure kp (h:Nat->Option gi):Prop where
 obj: ∀id o,h id=some o->qK N D w base id o
 apart: ∀id Rq o o' b,h id=some o->h Rq=some o'->jd N id o b->jd N Rq o' b->id=Rq
 frozen: ∀b,D b->b<w.heap.size
 named: ∀id nm,N id=some nm->h id≠none
 size:base<=w.heap.size
 iS: ∀g,AM.iS (h (SB+g))=true->∀k,N.sub g k=Names.nil
structure kI (st:St)(a:Act):Prop where
 nG:kp N D w base st.h
 tmps: ∀x,cp N D w (st.t x) (a.tmps.getD x Go.undef)
 nt:a.tmps.size=st.nt
 defers:a.defers=[]
end
theorem jd.of {N:Names}{id:Nat}{o:gi}{nm:Nm}{a:Addr}(hr:o.rw=true)(hn:N id=some nm)(hb:nm.base=some a):jd N id o a.block:=by
 cases o with
 |var v=>exact⟨nm,a,hn,hb,rfl⟩
 |row ro t xs=>cases ro<;>simp[gi.rw] at hr;exact⟨nm,a,hn,hb,rfl⟩
 |dead=>cases hr
 |void=>cases hr
 |store ep xs=>cases hr
structure Ext (N:Names)(D:Nat->Prop)(w:World)(h:Nat->Option gi)(N':Names)(D':Nat->Prop)(w':World)(h':Nat->Option gi):Prop where
 names:N.le N'
 frozen: ∀b,D b->D' b
 os:w'.os=w.os
 tape:w'.tape=w.tape
 output:w'.output=w.output
 size:w.heap.size<=w'.heap.size
 s7: ∀b,b<w.heap.size->¬zr N h b->w'.heap[b]?=w.heap[b]?
 own: ∀b,b<w.heap.size->zr N' h' b->zr N h b
 JG: ∀b,D' b->D b\/zr N h b\/w.heap.size<=b
 fresh: ∀i nm,N' i=some nm->N i=some nm\/h i=none
 live: ∀i,h' i=none->h i=none
 oT: ∀g,h (SB+g)=some .dead->h' (SB+g)=some .dead/\∀k,N'.sub g k=N.sub g k
theorem Ext.refl (N:Names)(D:Nat->Prop)(w:World)(h:Nat->Option gi):Ext N D w h N D w h:=
 ⟨Names.le_refl N,λ_ h=>h,rfl,rfl,rfl,zd2 _,λ_ _ _=>rfl,λ_ _ h=>h,λ_ h=> .inl h,λ_ _ h=> .inl h,λ_ h=>h,λ_ h=>⟨h,λ_=>rfl⟩⟩
theorem Ext.trans {N N' Xw:Names}{D D' Xx:Nat->Prop}{w w' PC:World}{h h' RS:Nat->Option gi}(x:Ext N D w h N' D' w' h')(y:Ext N' D' w' h' Xw Xx PC RS):Ext N D w h Xw Xx PC RS where
 names:=x.names.trans y.names
 frozen b e:=y.frozen b (x.frozen b e)
 os:=y.os.trans x.os
 tape:=y.tape.trans x.tape
 output:=y.output.trans x.output
 size:=zd3 x.size y.size
 s7 b hb ho:=by
  rw[y.s7 b (zd4 hb x.size) (λo=>ho (x.own b hb o)),x.s7 b hb ho]
 own b hb o:=x.own b hb (y.own b (zd4 hb x.size) o)
 JG b hb:=by
  rcases y.JG b hb with h1|h1|h1
  ·exact x.JG b h1
  ·rcases zd5 b w.heap.size with h2|h2
   ·exact .inr (.inl (x.own b h2 h1))
   ·exact .inr (.inr h2)
  ·exact .inr (.inr (zd3 x.size h1))
 fresh i nm hi:=by
  rcases y.fresh i nm hi with h1|h1
  ·exact x.fresh i nm h1
  ·exact .inr (x.live i h1)
 live i hi:=x.live i (y.live i hi)
 oT g e:=⟨(y.oT g (x.oT g e).1).1,λk=>((y.oT g (x.oT g e).1).2 k).trans ((x.oT g e).2 k)⟩
def GG (D:Nat->Prop)(w:World)(base b:Nat):Prop:= ¬D b/\base<=b/\b<w.heap.size
theorem tw.px {N:Names}{D:Nat->Prop}{w:World}{base id:Nat}{v:AV}(h:tw N D w base id v){b:Nat}(ho:oG N id b):GG D w base b:=by
 obtain⟨nm,a,h3,h4,rfl⟩:=ho;obtain⟨mN,a',e1,e2,_,_,_,_,h6,h7,⟨c,ty,h8,_⟩,_⟩:=h;rw[h3] at e1;cases e1;rw[h4] at e2;cases e2;exact⟨h7,h6,(Array.getElem?_eq_some_iff.1 h8).1⟩
theorem nP.px {N:Names}{D:Nat->Prop}{w:World}{base id:Nat}{t:Ty}{xs:List t.den}(h:nP N D w base id false t xs){b:Nat}(ho:oG N id b):GG D w base b:=by
 obtain⟨nm,a,h3,h4,rfl⟩:=ho;obtain⟨mN,e1,_,_,_,_,h6⟩:=h;rw[h3] at e1;cases e1;rw[h4] at h6;obtain⟨_,⟨c,ty,fz,h8,_⟩,h7,_⟩:=h6;simp at h7;exact⟨h7.2,h7.1,(Array.getElem?_eq_some_iff.1 h8).1⟩
mutual
theorem jr.px {D:Nat->Prop}{w:World}{base:Nat}: ∀{N:Names} {c:Nat} {p:aG} {d:p.den},jr D w base N c p d->∀{b:Nat},pZ N c p d b->GG D w base b
 |_,_, .var _,_,h,_,ho=>tw.px (by simpa only[jr] using h) (by simpa only[pZ] using ho)
 |_,_, .row _,_,h,_,ho=>nP.px (by simpa only[jr] using h) (by simpa only[pZ] using ho)
 |N,c, .store ep,xs,h,b,ho=>by
  simp only[jr] at h;simp only[pZ] at ho;obtain⟨k,d,h1,h2⟩:=ho;exact kX.px (h.2.1 k d h1).1 h2
theorem kX.px {D:Nat->Prop}{w:World}{base:Nat}: ∀{N:Names} {l:List (Nat×aG)} {d:cS l},kX D w base N l d->∀{b:Nat},pM N l d b->GG D w base b
 |_,[],_,_,_,ho=>by simp only[pM] at ho
 |_,(c,p)::os,d,h,b,ho=>by
  simp only[kX] at h;simp only[pM] at ho;rcases ho with ho|ho
  ·exact jr.px h.1 ho
  ·exact kX.px h.2.1 ho
end
theorem kp.px {N:Names}{D:Nat->Prop}{w:World}{base:Nat}{h:Nat->Option gi}(s:kp N D w base h){id:Nat}{o:gi}(hi:h id=some o){b:Nat}(ho:jd N id o b):GG D w base b:=by
 have:=s.obj id o hi;cases o with
 |dead=>exact ho.elim
 |void=>exact ho.elim
 |var v=>exact tw.px this ho
 |row ro t xs=>
  cases ro with
  |true=>exact ho.elim
  |false=>exact nP.px this ho
 |store ep xs=>exact jr.px this ho
theorem kp.ug {N:Names}{D:Nat->Prop}{w:World}{base:Nat}{h:Nat->Option gi}(s:kp N D w base h){b:Nat}(o:zr N h b): ¬D b/\base<=b:=by
 obtain⟨id,o,h1,h2⟩:=o;exact⟨(s.px h1 h2).1,(s.px h1 h2).2.1⟩
theorem Ext.JH {N N':Names}{D D':Nat->Prop}{w w':World}{base:Nat}{h h':Nat->Option gi}(x:Ext N D w h N' D' w' h')(s:kp N D w base h): ∀b,D b->w'.heap[b]?=w.heap[b]?:=
 λb hb=>x.s7 b (s.frozen b hb) (λo=>(s.ug o).1 hb)
theorem Ext.val {N N':Names}{D D':Nat->Prop}{w w':World}{base:Nat}{h h':Nat->Option gi}(x:Ext N D w h N' D' w' h')(s:kp N D w base h){u:AV}{v:Value}(hv:cp N D w u v):cp N' D' w' u v:=
 GF x.names x.frozen (x.JH s) hv
theorem St.Cd (s:St)(d:Option Tmp)(v:AV):(s.put d v).h=s.h:=by
 cases d with
 |none=>rfl
 |some d=>simp only[St.put];split<;>rfl
theorem St.HS (s:St)(d:Option Tmp)(v:AV):(s.put d v).nt=s.nt:=by
 cases d with
 |none=>rfl
 |some d=>simp only[St.put];split<;>rfl
theorem St.RT (s:St)(d:Option Tmp)(v:AV):(s.put d v).ep=s.ep:=by
 cases d with
 |none=>rfl
 |some d=>simp only[St.put];split<;>rfl
theorem kI.put {N N':Names}{D D':Nat->Prop}{w w':World}{base:Nat}{st fy:St}{a:Act}(s:kI N D w base st a)(x:Ext N D w st.h N' D' w' fy.h)(hs:kp N' D' w' base fy.h)(ht:fy.t=st.t)(hn:fy.nt=st.nt)
  (d:Option Tmp) {u:AV} {v:Value} (hv:cp N' D' w' u v):kI N' D' w' base (fy.put d u) (a.put d v):=by
 refine⟨by rw[St.Cd];exact hs,λy=>?_,?_,?_⟩
 ·cases d with
  |none=>simp only[St.put,Act.put,ht];exact x.val s.nG (s.tmps y)
  |some d=>
   have hsz:a.tmps.size=fy.nt:=by rw[s.nt,hn]
   simp only[St.put,Act.put];by_cases hd:d<fy.nt
   ·rw[if_pos hd]
    have LN:d<a.tmps.size:=by rw[hsz];exact hd
    by_cases e:y=d
    ·subst e
     simp[LN];exact hv
    ·have:(a.tmps.setIfInBounds d v).getD y Go.undef=a.tmps.getD y Go.undef:=by
      simp[Array.getElem?_setIfInBounds_ne (Ne.symm e)]
     simp only[if_neg e];rw[this,ht];exact x.val s.nG (s.tmps y)
   ·rw[if_neg hd]
    rw[Array.setIfInBounds_eq_of_size_le (by rw[hsz];exact Nat.le_of_not_lt hd),ht]
    exact x.val s.nG (s.tmps y)
 ·rw[St.HS,hn,<-s.nt]
  cases d<;>simp[Act.put]
 ·cases d<;>simp only[Act.put]<;>exact s.defers
theorem kI.ev {N:Names}{D:Nat->Prop}{w:World}{base:Nat}{st:St}{a:Act}(s:kI N D w base st a)(x:Operand)(hx: ∀v,x= .const v->(∀c,v≠ .agg c)):cp N D w (st.ev x) (a.eval x):=by
 cases x with
 |tmp t=>exact s.tmps t
 |const v=>simp[St.ev,Act.eval,cp,AV.isAgg,jJ,an]
 |global g=>simp[St.ev,Act.eval,cp,AV.isAgg,jJ,an]
 |func f=>simp[St.ev,Act.eval,cp,AV.isAgg,jJ,an]
end AM
namespace AM
open Go
section
variable {N:Names}{D:Nat->Prop}{w:World}{v c:Value}
theorem py:cp N D w .undef c:=by simp[cp,AV.isAgg,jJ,an]
theorem eE:cp N D w (.val v) c↔c=v:=by simp[cp,AV.isAgg,jJ,an]
theorem jC {id:Nat}{p:List Step}:cp N D w (.ptr id p) c↔∃nm a o,N id=some nm/\nm.base=some a/\nm.off p=some o/\c= .pointer (some (Addr.at_ a o)):=by
 simp[cp,AV.isAgg,jJ,an]
theorem qL {x:AV}:cp N D w (.ub x) c↔∃a,c= .pointer (some a)/\a.spot=none/\D a.block/\an N D w x (aX w a):=by
 simp[cp,AV.isAgg,jJ,an]
theorem lT {vs:List AV}:cp N D w (.A8 vs) c↔∃cs:Array Value,c= .tuple cs/\bB N D w vs cs.toList:=by
 simp[cp,AV.isAgg,jJ,an]
theorem xQ {fs:List AV}:cp N D w (.agg fs) c↔∃cells:Array Value,c= .agg cells/\cells.size=AV.dK fs/\fE N D w fs (cells[·]?):=by
 simp[cp,AV.isAgg,jJ,an,AV.size]
theorem vI {n:Nat}{t:Ty}{xs:List t.den}:cp N D w (.arr n t xs) c↔∃cells:Array Value,c= .agg cells/\cells.size=n*t.size/\iI N D w (.arr n t) xs (cells[·]?):=by
 simp[cp,AV.isAgg,jJ,an,AV.size]
theorem uR {t:Ty}{xs:List t.den}:cp N D w (.dp t xs) c↔iI N D w (.deep t) xs (λ_=>some c):=by
 simp[cp,AV.isAgg,jJ,an]
theorem sG: ∀(vs:List AV) (cs:List Value) (i:Nat) (u:AV),bB N D w vs cs->vs[i]?=some u->∃c,cs[i]?=some c/\cp N D w u c
 | [],_,_,_,_,h=>by simp at h
 |x::xs,cs,0,u,hr,h=>by
  simp only[bB] at hr;obtain⟨c,tS,rfl,h2,_⟩:=hr;simp at h;subst h;exact⟨c,by simp,h2⟩
 |x::xs,cs,i+1,u,hr,h=>by
  simp only[bB] at hr;obtain⟨c,tS,rfl,_,h3⟩:=hr;obtain⟨c',h4,h5⟩:=sG xs tS i u h3 (by simpa using h)
  exact⟨c',by simpa using h4,h5⟩
end
def lE (P:Program)(base:Nat)(o:Oper)(st:St)(av:AV)(fy:St):Prop:=
 fy.t=st.t/\fy.nt=st.nt/\fy.ep=st.ep/\(∀id,id∉N0 st o->qI st.ep o id=false->fy.h id=st.h id)/\∀N D w a,kI N D w base st a->∃N' D' w' v,
  ((execOp a.eval o).run P w= .ok (.value v) w'\/((execOp a.eval o).run P w= .ok .skip w'/\v=Go.undef))/\
  Ext N D w st.h N' D' w' fy.h/\kp N' D' w' base fy.h/\cp N' D' w' av v
theorem lE.pure {P:Program}{base:Nat}{o:Oper}{st:St}{av:AV}(h: ∀N D w a,kI N D w base st a->∃v,(execOp a.eval o).run P w= .ok (.value v) w/\cp N D w av v):lE P base o st av st:=
 ⟨rfl,rfl,rfl,λ_ _ _=>rfl,λN D w a s=>let ⟨v,h1,h2⟩:=h N D w a s;⟨N,D,w,v, .inl h1,Ext.refl _ _ _ _,s.nG,h2⟩⟩
theorem kI.F6 {N:Names}{D:Nat->Prop}{w:World}{base:Nat}{st:St}{a:Act}(s:kI N D w base st a)(x:Operand):cp N D w (st.ev x) (a.eval x):=by
 cases x with
 |tmp t=>exact s.tmps t
 |const v=>simp[St.ev,Act.eval,eE]
 |global g=>exact py
 |func f=>simp[St.ev,Act.eval,eE]
variable {α:Type}{P:Program}{base:Nat}
abbrev ow (P:Program)(base:Nat)(o:Oper)(st:St)(k:AV->St->Option α)(r:α):Prop:= ∃av fy,k av fy=some r/\lE P base o st av fy
theorem RU {dst ty pos after guard}{op:BinOp}{xT yT:TypeId}{x y:Operand}{st:St}{ka kb:IntKind}{a b:Int}(hx:st.ev x= .val (.int ka a))(hy:st.ev y= .val (.int kb b)){k:AV->St->Option α}{r:α}
  (h:RF st op ka kb a b k=some r):ow P base ⟨dst, .binOp op xT x y yT,ty,pos,after,guard⟩ st k r:=by
 have key: ∀u:Value,(∀w,(Go.binOp op xT (.int ka a) (.int kb b)).run P w= .ok u w)->k (.val u) st=some r->ow P base ⟨dst, .binOp op xT x y yT,ty,pos,after,guard⟩ st k r:=by
  intro u hu hk;refine⟨_,_,hk,lE.pure λN D w act s=>⟨u,?_,eE.2 rfl⟩⟩;have e1:=eE.1 (hx▸s.F6 x);have e2:=eE.1 (hy▸s.F6 y);simp[execOp,e1,e2,eqGuard_at_int,hu]
 have cond: ∀(b:Bool) (p:Prop) (z:Option α),b=af p->(match b with|true=>none|false=>z)=some r->¬p/\z=some r:=by
  intro b p z hb hz;cases b with
  |true=>simp at hz
  |false=>exact⟨λhp=>(by rw[kZ.2 hp] at hb;exact absurd hb (by simp)),hz⟩
 have LP: ∀z:Option α,(if ka=kb then z else none)=some r->ka=kb/\z=some r:=by
  intro z hz;split at hz
  ·exact⟨‹_›,hz⟩
  ·cases hz
 have hb: ∀(p:Prop) [Decidable p],af p=decide p:=λp _=>k0 p;cases op<;>simp only[RF] at h
 case shl=>replace h:=cond _ _ _ rfl h;obtain⟨hn,h⟩:=h;exact key _ (λw=>by simp[binOp_shl,Op.shift,hn,shl,pU]) h
 case shr=>replace h:=cond _ _ _ rfl h;obtain⟨hn,h⟩:=h;exact key _ (λw=>by simp[binOp_shr,Op.shift,hn,RB]) h
 case add=>replace h:=LP _ h;obtain⟨rfl,h⟩:=h;exact key _ (λw=>by simp[binOp_add,Op.intArith,pU]) h
 case sub=>replace h:=LP _ h;obtain⟨rfl,h⟩:=h;exact key _ (λw=>by simp[binOp_sub,Op.intArith,pU]) h
 case mul=>replace h:=LP _ h;obtain⟨rfl,h⟩:=h;exact key _ (λw=>by simp[binOp_mul,Op.intArith,pU]) h
 case quo=>replace h:=LP _ h;obtain⟨rfl,h⟩:=h;replace h:=cond _ _ _ rfl h;obtain⟨hn,h⟩:=h;exact key _ (λw=>by simp[binOp_quo,Op.intDiv,hn,pU]) h
 case rem=>replace h:=LP _ h;obtain⟨rfl,h⟩:=h;replace h:=cond _ _ _ rfl h;obtain⟨hn,h⟩:=h;exact key _ (λw=>by simp[binOp_rem,Op.intDiv,hn]) h
 case and=>replace h:=LP _ h;obtain⟨rfl,h⟩:=h;exact key _ (λw=>by simp[binOp_and,Op.intBits,s6,pU]) h
 case or=>replace h:=LP _ h;obtain⟨rfl,h⟩:=h;exact key _ (λw=>by simp[binOp_or,Op.intBits,A7,pU]) h
 case xor=>replace h:=LP _ h;obtain⟨rfl,h⟩:=h;exact key _ (λw=>by simp[binOp_xor,Op.intBits,pJ,pU]) h
 case andNot=>replace h:=LP _ h;obtain⟨rfl,h⟩:=h;exact key _ (λw=>by simp[binOp_andNot,Op.intBits,DL,pU]) h
 case eql=>replace h:=LP _ h;obtain⟨rfl,h⟩:=h;exact key _ (λw=>by simp[binOp_eql,hb];rfl) h
 case neq=>replace h:=LP _ h;obtain⟨rfl,h⟩:=h;exact key _ (λw=>by simp[binOp_neq,hb];rfl) h
 case lss=>replace h:=LP _ h;obtain⟨rfl,h⟩:=h;exact key _ (λw=>by simp[binOp_lss,hb]) h
 case leq=>replace h:=LP _ h;obtain⟨rfl,h⟩:=h;exact key _ (λw=>by simp[binOp_leq,hb]) h
 case gtr=>replace h:=LP _ h;obtain⟨rfl,h⟩:=h;exact key _ (λw=>by simp[binOp_gtr,hb]) h
 case geq=>replace h:=LP _ h;obtain⟨rfl,h⟩:=h;exact key _ (λw=>by simp[binOp_geq,hb]) h
end AM
namespace AM
open Go
theorem mF {N:Names}{D:Nat->Prop}{w:World}{x:AV}{g g':Nat->Option Value}(h:an N D w x g)(e: ∀j,g j=g' j):an N D w x g':=by
 have:g=g':=funext e;subst this;exact h
theorem wB {α:Type}: ∀(p:List Step) (v:AV) (k:AV->Option α) (r:α),Jy p v k=some r->
  ∃u,k u=some r/\zW p v.sh=some u.sh/\∀N D w g o,an N D w v g->fX p v.sh=some o->an N D w u (λj=>g (o+j))/\o+u.size<=v.size
 | [],v,k,r,h=>by
  simp only[Jy] at h;refine⟨v,h,rfl,λN D w g o hr ho=>?_⟩;simp only[fX,zdM] at ho;subst ho;exact⟨by simpa using hr,by omega⟩
 | .iH n::p,v,k,r,h=>by
  cases v<;>simp only[Jy] at h<;>try (cases h;done)
  rename_i fs;cases hv:fs[n]? with
  |none=>simp[hv] at h
  |some x=>
   simp only[hv] at h;obtain⟨u,h1,h2,h3⟩:=wB p x k r h;refine⟨u,h1,by simp only[AV.sh,zW,z7,hv,zdV];exact h2,λN D w g o hr ho=>?_⟩
   simp only[AV.sh,fX,z7,hv,zdV] at ho;cases na:fX p x.sh with
   |none=>simp[na] at ho
   |some o'=>
    simp only[na,zdV,zdM] at ho;rw[<-DX,z6] at ho;subst ho;simp only[an] at hr;have:=qJ fs n x g hv hr;obtain⟨h4,h5⟩:=h3 N D w _ o' this na;exact⟨mF h4 (λj=>by rw[zd1]),by have:=vf fs n x hv;simp only[AV.size];omega⟩
 | .idx i::p,v,k,r,h=>by
  cases v<;>simp only[Jy] at h<;>try (cases h;done)
  rename_i n t xs;cases hv:(show List t.den from xs)[i]? with
  |none=>simp[hv] at h
  |some x=>
   simp only[hv] at h;obtain⟨u,h1,h2,h3⟩:=wB p (enc t x) k r h;refine⟨u,h1,by simp only[AV.sh,zW];rw[<-rS t x];exact h2,λN D w g o hr ho=>?_⟩
   simp only[AV.sh,fX] at ho;by_cases hi:i<n
   ·simp only[hi,if_true] at ho
    cases na:fX p (sC t) with
    |none=>simp[na] at ho
    |some o'=>
     simp only[na,zdV,zdM,iT] at ho;subst ho;simp only[an,iI] at hr;have:=(kV (N:=N) t x _).2 (hr.2 i x hv);obtain⟨h4,h5⟩:=h3 N D w _ o' this (by rw[rS];exact na)
     refine⟨mF h4 (λj=>by rw[zd1]),?_⟩
     rw[nO] at h5;have:(i+1)*t.size<=n*t.size:=zdZ _ hi;rw[zd0] at this;simp only[AV.size];omega
   ·simp only[hi,if_false] at ho;cases ho
theorem pN {α:Type}{s:St}{id:Nat}{p:List Step}{k:AV->Option α}{r:α}(h:s.get id p k=some r):
  ∃u,k u=some r/\s.shape id p=some u.sh/\∀N D w base,kp N D w base s.h->∀nm a o,N id=some nm->nm.base=some a->nm.off p=some o->
   a.spot=none/\an N D w u (λj=>aX w a (o+j))/\∃c ty fz,w.heap[a.block]?=some (.cells c ty fz)/\a.off+o+u.size<=c.size:=by
 unfold St.get at h;cases ho:s.h id with
 |none=>simp[ho] at h
 |some ob=>
  cases ob with
  |dead=>simp[ho] at h
  |store _ _=>simp[ho] at h
  |void=>simp[ho] at h
  |var v=>
   simp only[ho] at h;obtain⟨u,h1,h2,h3⟩:=wB p v k r h;refine⟨u,h1,by simp only[St.shape,ho];exact h2,λN D w base S nm a o hn hb nJ=>?_⟩
   have:=S.obj id _ ho;obtain⟨mN,a',e1,e2,e3,e4,e5,e6,_,_,⟨c,ty,e7,e8⟩,e9⟩:=this;rw[hn] at e1;cases e1;rw[hb] at e2;cases e2;have hof:fX p v.sh=some o:=by
    have:nm.off p=fX p nm.sh:=by
     unfold Nm.off;split<;>simp[e3]
    rw[this,e4] at nJ;exact nJ
   obtain⟨h4,h5⟩:=h3 N D w _ o e9 hof;exact⟨e5,h4,c,ty,_,e7,by rw[e8,e6];omega⟩
  |row ro t xs=>
   simp only[ho] at h;cases p with
   |nil=>simp at h
   |cons st p=>
    cases st with
    |iH n=>simp at h
    |idx i=>
     simp only at h;cases hv:(show List t.den from xs)[i]? with
     |none=>simp[hv] at h
     |some x=>
      simp only[hv] at h;obtain⟨u,h1,h2,h3⟩:=wB p (enc t x) k r h;refine⟨u,h1,by simp only[St.shape,ho];rw[<-rS t x];exact h2,λN D w base S nm a o hn hb nJ=>?_⟩
      have:=S.obj id _ ho;obtain⟨mN,e1,e2,e3,e4,e5,e6⟩:=this;rw[hn] at e1;cases e1;rw[hb] at e6;obtain⟨e7,⟨c,ty,fz,e8,e9,_⟩,_,xE⟩:=e6;simp only[Nm.off,e2,if_true] at nJ;by_cases hi:i<nm.len
      ·simp only[hi,if_true] at nJ
       cases na:fX p nm.sh with
       |none=>simp[na] at nJ
       |some o'=>
        simp only[na,zdV,zdM] at nJ;rw[e3,iT] at nJ;subst nJ;have hx:=(kV (N:=N) t x _).2 (xE i x hv);obtain⟨h4,h5⟩:=h3 N D w _ o' hx (by rw[rS,<-e3];exact na)
        refine⟨e7,mF h4 (λj=>by rw[zd1]),c,ty,fz,e8,?_⟩
        rw[nO] at h5;have:(i+1)*t.size<=nm.cap*t.size:=zdZ _ (by omega)
        rw[zd0] at this;omega
      ·simp only[hi,if_false] at nJ;cases nJ
end AM
namespace AM
open Go
theorem Bj {N:Names}{tag n c:Nat}{v:Option Value}(h:xO N tag n c v): ∃c,v=some c/\c.oneCell'=true:=by
 cases n with
 |zero=>exact⟨_,h,rfl⟩
 |succ k=>obtain⟨_,_,_,_,_,h⟩:=h;exact⟨_,h,rfl⟩
theorem rT {N:Names}{D:Nat->Prop}{w:World}: ∀(t:Ty) (x:t.den) (g:Nat->Option Value),iI N D w t x g->∀j,j<t.size->∃c,g j=some c/\c.oneCell'=true
 | .int k,n,g,h,j,hj=>by simp[Ty.size] at hj;subst hj;exact⟨_,h,rfl⟩
 | .bool,n,g,h,j,hj=>by simp[Ty.size] at hj;subst hj;exact⟨_,h,rfl⟩
 | .str,n,g,h,j,hj=>by simp[Ty.size] at hj;subst hj;exact⟨_,h,rfl⟩
 | .nil,n,g,h,j,hj=>by simp[Ty.size] at hj
 | .deep t,xs,g,h,j,hj=>by
  simp[Ty.size] at hj;subst hj;obtain⟨a,cap,h1,_⟩:=h;exact⟨_,h1,rfl⟩
 | .ref _,n,g,h,j,hj=>by simp[Ty.size] at hj;subst hj;exact Bj h
 | .cons a b,p,g,h,j,hj=>by
  by_cases hja:j<a.size
  ·exact rT a p.1 g h.1 j hja
  ·have:=rT b p.2 _ h.2 (j-a.size) (by simp[Ty.size] at hj;omega)
   rwa [show a.size+(j-a.size)=j by omega] at this
 | .arr n t,xs,g,h,j,hj=>by
  simp only[Ty.size] at hj;have hp:0<t.size:=by
   rcases zd6 t.size with e|e
   ·rw[e] at hj;omega
   ·exact e
  have hi:j/t.size<aM (β:=t.den) xs:=by rw[h.1];exact(Nat.div_lt_iff_lt_mul hp).2 hj
  have:=rT t _ _ (h.2 (j/t.size) _ (zdL hi)) (j%t.size) (Nat.mod_lt _ hp);rwa [show j/t.size*t.size+j%t.size=j by rw[Nat.mul_comm];exact Nat.div_add_mod j t.size] at this
mutual
theorem sH {N:Names}{D:Nat->Prop}{w:World}: ∀(v:AV) (g:Nat->Option Value),v.nF=true->an N D w v g->∀j,j<v.size->∃c,g j=some c/\c.oneCell'=true
 | .undef,_,hs,_,_,_=>by simp[AV.nF] at hs
 | .A8 _,_,hs,_,_,_=>by simp[AV.nF] at hs
 | .val v,g,hs,h,j,hj=>by simp[AV.size] at hj;subst hj;simp only[an] at h;exact⟨_,h,by simpa [AV.nF] using hs⟩
 | .ptr id p,g,hs,h,j,hj=>by simp[AV.size] at hj;subst hj;simp only[an] at h;obtain⟨_,_,_,_,_,_,h⟩:=h;exact⟨_,h,rfl⟩
 | .tail id off,g,hs,h,j,hj=>by
  simp[AV.size] at hj;subst hj;simp only[an] at h;obtain⟨nm,_,_,_,_,h⟩:=h;cases hb:nm.base with
  |none=>rw[hb] at h;exact⟨_,h.2,rfl⟩
  |some a=>rw[hb] at h;obtain⟨v,room,h1,_,a',cap,rfl,_⟩:=h;exact⟨_,h1,rfl⟩
 | .slice id p off len,g,hs,h,j,hj=>by
  simp[AV.size] at hj;subst hj;simp only[an] at h;obtain⟨nm,_,h⟩:=h;cases hb:nm.base with
  |none=>rw[hb] at h;obtain⟨_,_,_,_,h⟩:=h;exact⟨_,h,rfl⟩
  |some a=>
  rw[hb] at h;simp only at h;split at h
  ·obtain⟨_,_,v,room,h1,_,_,a',cap,rfl,_⟩:=h;exact⟨_,h1,rfl⟩
  ·obtain⟨_,_,_,v,room,_,_,_,h1,_,a',cap,rfl,_⟩:=h;exact⟨_,h1,rfl⟩
 | .dp t xs,g,hs,h,j,hj=>by simp only[an] at h;exact rT _ _ _ h j (by simpa [AV.size,Ty.size] using hj)
 | .ub v,g,hs,h,j,hj=>by simp[AV.size] at hj;subst hj;simp only[an] at h;obtain⟨_,h,_⟩:=h;exact⟨_,h,rfl⟩
 | .xq _ _,g,hs,h,j,hj=>by simp[AV.size] at hj;subst hj;simp only[an] at h;obtain⟨_,h,_⟩:=h;exact⟨_,h,rfl⟩
 | .Ro _ _ _ _,g,hs,h,j,hj=>by simp[AV.size] at hj;subst hj;simp only[an] at h;obtain⟨_,_,_,_,_,_,h⟩:=h;exact⟨_,h,rfl⟩
 | .xr _ _,g,hs,h,j,hj=>by simp[AV.size] at hj;subst hj;simp only[an] at h;obtain⟨_,h,_⟩:=h;exact⟨_,h,rfl⟩
 | .xG,g,hs,h,j,hj=>by simp[AV.size] at hj;subst hj;simp only[an] at h;obtain⟨_,h⟩:=h;exact⟨_,h,rfl⟩
 | .uD _ _,g,hs,h,j,hj=>by simp[AV.size] at hj;subst hj;simp only[an] at h;obtain⟨_,_,_,_,_,h⟩:=h;exact⟨_,h,rfl⟩
 | .rf _ _ _,g,hs,h,j,hj=>by simp[AV.size] at hj;subst hj;simp only[an] at h;exact Bj h
 | .arr n t xs,g,hs,h,j,hj=>by simp only[an] at h;exact rT _ _ _ h j (by simpa [AV.size,Ty.size] using hj)
 | .agg fs,g,hs,h,j,hj=>by simp only[an] at h;exact z8 fs g (by simpa [AV.nF] using hs) h j (by simpa [AV.size] using hj)
theorem z8 {N:Names}{D:Nat->Prop}{w:World}: ∀(l:List AV) (g:Nat->Option Value),AV.A9 l=true->fE N D w l g->∀j,j<AV.dK l->∃c,g j=some c/\c.oneCell'=true
 | [],_,_,_,j,hj=>by simp[AV.dK] at hj
 |x::xs,g,hs,h,j,hj=>by
  simp only[AV.A9,zdO] at hs;simp only[fE] at h;by_cases hjx:j<x.size
  ·exact sH x g hs.1 h.1 j hjx
  ·have:=z8 xs _ hs.2 h.2 (j-x.size) (by simp[AV.dK] at hj;omega)
   rwa [show x.size+(j-x.size)=j by omega] at this
end
theorem rl {v:AV}(hs:v.nF=true)(h:v.isAgg=false):v.size=1:=by cases v<;>simp_all [AV.isAgg,AV.size]
theorem rU {P:Program}{t:TypeId}{v:AV}(h:sD P t v=true):v.nF=true/\v.isAgg=ra P t/\v.size=P.cellsOf t/\∃d,P.underlying t=some d:=by
 simp only[sD,zdO,beq_iff_eq,zdU] at h;exact⟨h.1.1.1,h.1.1.2,h.1.2,Option.isSome_iff_exists.1 h.2⟩
theorem oH (b o n:Nat):(⟨b,o,none⟩:Addr).add n=⟨b,o+n,none⟩:=Addr.add_lit b o n
theorem DY {P:Program}{N:Names}{D:Nat->Prop}{w:World}{t:TypeId}{v:AV}{ad:Addr}(ha:ad.spot=none)(hf:sD P t v=true)(hr:an N D w v (aX w ad)):
  ∃c,(Instr.loadAt t (.pointer (some ad))).run P w= .ok c w/\cp N D w v c:=by
 obtain⟨hs,h1,h2,d,hd⟩:=rU hf;obtain⟨i,hi⟩:=info_of_underlying hd;obtain⟨b,o,sp⟩:=ad;simp only at ha;subst ha;have hc:=sH v _ hs hr;have HT:(isAgg t).run P w= .ok (ra P t) w:=by
  simp only[isAgg,zd7,run_underlying hd,zd8,ra,hd];cases d<;>rfl
 simp only[Instr.loadAt,Instr.sureAddr,zd7,zd9,zd8,loadVar,HT];cases FX:v.isAgg with
 |true=>
  rw[<-h1,FX];have LQ: ∀j,j<v.size->w.cell? ((⟨b,o,none⟩:Addr).add j)=some ((aX w ⟨b,o,none⟩ j).getD Go.undef):=by
   intro j hj;obtain⟨c,h3,_⟩:=hc j hj;rw[oH,h3];exact h3
  have hl:=run_loadCells (P:=P) w ⟨b,o,none⟩ v.size (λj=>(aX w ⟨b,o,none⟩ j).getD Go.undef) LQ;refine⟨.agg ((List.range v.size).map λj=>(aX w ⟨b,o,none⟩ j).getD Go.undef).toArray,?_,?_⟩
  ·simp only[if_true,zd7,run_sizeOf w hi,zd8,<-h2,hl,zd9]
  ·unfold cp
   rw[FX];refine⟨_,rfl,by simp,ke v _ _ (λj hj=>?_) hr⟩
   obtain⟨c,h3,_⟩:=hc j hj;simp[hj,h3]
 |false=>
  rw[<-h1,FX];obtain⟨c,h3,_⟩:=hc 0 (by rw[rl hs FX];omega)
  have RV:w.cell? ⟨b,o,none⟩=some c:=h3;refine⟨c,by simp[RV],?_⟩
  unfold cp;rw[FX];refine ke v _ _ (λj hj=>?_) hr;rw[rl hs FX] at hj;obtain rfl:j=0:=by omega
  exact h3
end AM
namespace AM
open Go
theorem iU {t t':Ty}{xs:List t.den}{ys:List t'.den}(h:sB t t' xs=some ys): ∃e:t=t',ys=e▸xs:=by
 unfold sB at h;split at h
 ·rename_i e;exact⟨e,(Option.some.inj h).symm⟩
 ·cases h
def lF (N:Names)(D':Nat->Prop)(ids:List Nat):Prop:= ∀id∈ids,∀nm a,N id=some nm->nm.base=some a->D' a.block
def N6 (R:(Nat->Prop)->World->Prop)(N:Names)(D:Nat->Prop)(w:World)(ids:List Nat):Prop:= ∀D':Nat->Prop,(∀b,D b->D' b)->lF N D' ids->R D' w
theorem xR {N:Names}{D':Nat->Prop}{w:World}{t:Ty}{xs:List t.den}{a:Addr}{off len room:Nat}{v:Value}(hD:D' a.block)(hx: ∀i (x:t.den),ko (β:=t.den) xs i=some x->iI N D' w t x (λj=>aX w a (i*t.size+j)))
  (hv:HR (Addr.at_ a (off*t.size)) len room v) (hl:off+len<=aM (β:=t.den) xs):iI N D' w (.deep t) ((xs.drop off).take len:List t.den) (λ_=>some v):=by
 obtain⟨a',cap,rfl,h1,rfl,h2⟩:=hv;have e:aM (β:=t.den) ((xs.drop off).take len)=len:=by simp only[aM,zea,zeb];simp only[aM] at hl;omega
 refine⟨some a',cap,by rw[e],by rw[e];exact h1,(by intro h;cases h),λad F7 mb=>?_⟩
 cases F7;rw[e] at mb;rcases h2 with rfl|h2
 ·refine⟨rfl,hD,λi x hi=>?_⟩
  have nM:ko (β:=t.den) xs (off+i)=some x:=by
   simp only[ko] at hi⊢;rw[zec] at hi;split at hi
   ·rwa [zed] at hi
   ·cases hi
  have:=hx (off+i) x nM;have e2:(λj=>aX w (Addr.at_ a (off*t.size)) (i*t.size+j))=λj=>aX w a ((off+i)*t.size+j):=by
   funext j
   simp only[aX,Addr.at_];congr 2
   rw[zd0];omega
  rw[e2];exact this
 ·omega
theorem Bl {s:St}{id:Nat}{p:List Step}{sh:Sh}(h:s.shape id p=some sh){N:Names}{D:Nat->Prop}{w:World}{base:Nat}(S:kp N D w base s.h){nm:Nm}(hn:N id=some nm):nm.Ln p=some sh:=by
 unfold St.shape at h;split at h
 ·rename_i v ho
  obtain⟨mN,a,h1,h2,h3,h4,_⟩:=S.obj id _ ho;rw[hn] at h1;cases h1;unfold Nm.Ln;rw[h3,h4];exact h
 ·rename_i ro t xs ho
  obtain⟨mN,h1,h2,h3,_⟩:=S.obj id _ ho;rw[hn] at h1;cases h1;unfold Nm.Ln;rw[h2,h3];simp only[if_true];split at h
  ·exact h
  ·cases h
 ·cases h
theorem xS {s:St}{id:Nat}{p:List Step}{sh:Sh}(hr:(p.isEmpty&&zV s id)=false)(h:s.shape id p=some sh){N:Names}{D:Nat->Prop}{w:World}{base:Nat}(S:kp N D w base s.h){nm:Nm}(hn:N id=some nm):(nm.row&&p.isEmpty)=false:=by
 unfold St.shape at h;split at h
 ·rename_i v ho
  obtain⟨mN,a,h1,h2,h3,h4,_⟩:=S.obj id _ ho;rw[hn] at h1;cases h1;rw[h3];rfl
 ·rename_i ro t xs ho
  have:zV s id=true:=by unfold zV;rw[ho]
  rw[this,Bool.and_true] at hr;rw[hr,zee]
 ·cases h
theorem F8 {α:Type}{s:St}{t:Ty}{v:AV}{k:List t.den->List Nat->Option α}{r:α}(h:qv s t v k=some r):
  ∃xs ids,k xs ids=some r/\∀N D w base,kp N D w base s.h->∀c,cp N D w v c->N6 (λD' w=>iI N D' w (.deep t) xs (λ_=>some c)) N D w ids:=by
 unfold qv at h;split at h
 ·rename_i t' zs
  split at h
  ·rename_i ys hc
   obtain⟨rfl,rfl⟩:=iU hc;exact⟨_,_,h,λN D w base S c hv D' hD _=>kK (Names.le_refl _) hD (λ_ _=>rfl) _ _ _ (uR.1 hv)⟩
  ·cases h
 ·refine⟨_,_,h,λN D w base S c hv D' hD _=>?_⟩
  rw[eE.1 hv];exact⟨none,0,rfl,by simp[aM],λ_=>rfl,(by intro ad ha;cases ha)⟩
 ·rename_i id off
  split at h
  ·rename_i ro t' xs ho
   split at h
   ·rename_i ys hc
    obtain⟨rfl,rfl⟩:=iU hc;refine⟨_,_,h,λN D w base S c hv D' hD hF=>?_⟩;simp only[cp,AV.isAgg,jJ,an] at hv;obtain⟨nm,h1,h2,h3,h4,h5⟩:=hv;obtain⟨mN,e1,e2,e3,e4,e5,e6⟩:=S.obj id _ ho;rw[h1] at e1;cases e1;cases hb:nm.base with
    |none=>
     rw[hb] at h5;obtain⟨h6,h7⟩:=h5;have HU:aM (β:=t'.den) ys=0:=by omega
     have hxe:ys=[]:=zef HU;subst hxe;simp only[zdM] at h7;subst h7;exact⟨none,0,by simp[aM],by simp[aM],λ_=>rfl,(by intro ad ha;cases ha)⟩
    |some a=>
     rw[hb] at h5 e6;obtain⟨u,room,h6,h7,h8⟩:=h5;simp only[zdM] at h6;subst h6;obtain⟨_,_,_,xE⟩:=e6;rw[e3,iT] at h8;have:=xR (off:=off) (len:=nm.len-off) (hF id (by simp) nm a h1 hb) (λi x hi=>kK (Names.le_refl _) hD (λ_ _=>rfl) _ _ _ (xE i x hi)) h8 (by omega)
     rwa [zeg (by simp only[aM] at e4;simp;omega)] at this
   ·cases h
  ·cases h
 ·rename_i id p off len
  split at h
  ·rename_i mO
   simp only[zdO,zeh] at mO;obtain⟨rfl,mO⟩:=mO;split at h;rotate_left
   ·cases h
   rename_i ro t' xs ho;split at h
   ·rename_i ys hc
    obtain⟨rfl,rfl⟩:=iU hc;refine⟨_,_,h,λN D w base S c hv D' hD hF=>?_⟩;simp only[cp,AV.isAgg,jJ,an] at hv;obtain⟨nm,h1,hv⟩:=hv;obtain⟨mN,e1,e2,e3,e4,e5,e6⟩:=S.obj id _ ho;rw[h1] at e1;cases e1;cases h2:nm.base with
    |none=>
     rw[h2] at hv;obtain⟨_,rfl,rfl,_,h7⟩:=hv;simp only[zdM] at h7;subst h7;exact⟨none,0,by simp[aM],by simp[aM],λ_=>rfl,(by intro ad ha;cases ha)⟩
    |some a=>
    rw[h2] at hv;simp only at hv;rw[if_pos (by simp[e2])] at hv
    obtain⟨h4,h5,u,room,h6,h7,h8,h9⟩:=hv;rw[h2] at e6;simp only[zdM] at h6;subst h6;obtain⟨_,_,_,xE⟩:=e6;rw[e3,iT] at h9;exact xR (off:=off) (len:=len) (hF id (by simp) nm a h1 h2) (λi x hi=>kK (Names.le_refl _) hD (λ_ _=>rfl) _ _ _ (xE i x hi)) h9 (by omega)
   ·cases h
  ·rename_i mO
   obtain⟨u,h,yS,qU⟩:=pN h;split at h;rotate_left
   ·cases h
   rename_i n t' xs;split at h;rotate_left
   ·cases h
   rename_i ys hc;obtain⟨rfl,rfl⟩:=iU hc;refine⟨_,_,h,λN D w base S c hv D' hD hF=>?_⟩;simp only[cp,AV.isAgg,jJ,an] at hv;obtain⟨nm,h1,hv⟩:=hv;have Lo:=xS mO yS S h1;cases h2:nm.base with
   |none=>
    rw[h2] at hv;obtain⟨h3,_⟩:=hv;rw[Lo] at h3;cases h3
   |some a=>
    rw[h2] at hv;simp only at hv;rw[if_neg (by rw[Lo];simp)] at hv
    obtain⟨o,n',e,u,room,h3,h4,h5,h6,h7,h8⟩:=hv;simp only[zdM] at h6;subst h6;obtain⟨g1,g2,_⟩:=qU N D w base S nm a o h1 h2 h3;simp only[an,iI] at g2;have Lp:=Bl yS S h1;rw[h4] at Lp;simp only[AV.sh,zdM,Sh.arr.injEq] at Lp;obtain⟨rfl,rfl⟩:=Lp;have hlen:aM (β:=t'.den) ys=n':=g2.1;refine xR (a:=Addr.at_ a o) (off:=off) (len:=len) (room:=room) (by simpa [Addr.at_] using hF id (by simp) nm a h1 h2) (λi x hi=>?_) (by rw[iT] at h8;simpa [Addr.at_,zd1] using h8) (by omega)
    refine jv _ _ _ _ (λj _=>?_) (kK (Names.le_refl _) hD (λ_ _=>rfl) _ _ _ (g2.2 i x hi));simp only[aX,Addr.at_,zd1]
 ·cases h
theorem lF.left {N:Names}{D':Nat->Prop}{i j:List Nat}(h:lF N D' (i++j)):lF N D' i:=λid oT=>h id (by simp[oT])
theorem lF.right {N:Names}{D':Nat->Prop}{i j:List Nat}(h:lF N D' (i++j)):lF N D' j:=λid oT=>h id (by simp[oT])
theorem Aa {α:Type}{s:St}{t:Ty}{v:AV}{k:List t.den->List Nat->Option α}{r:α}(h:qv s t v k=some r):v.isAgg=false/\v.size=1/\v≠ .undef:=by
 cases v<;>first
  |(refine⟨rfl,by simp[AV.size],?_⟩;intro h0;cases h0;done)
  |(unfold qv at h;simp at h;done)
theorem PD {N:Names}{tag n c:Nat}{v:Option Value}(h:xO N tag n c v): ∃c,v=some c:=by
 obtain⟨c,h,_⟩:=Bj h;exact⟨c,h⟩
theorem LR {N:Names}{D:Nat->Prop}{w:World}{v:AV}{g:Nat->Option Value}(h1:v.isAgg=false)(h2:v≠ .undef)(h:an N D w v g): ∃c,g 0=some c:=by
 cases v<;>simp only[an] at h<;>first
  |exact absurd rfl h2
  |exact PD h
  |exact⟨_,h⟩
  |(obtain⟨_,_,_,_,_,_,h⟩:=h;exact⟨_,h⟩)
  |(obtain⟨a,cap,e,_⟩:=h;exact⟨_,e⟩)
  |(obtain⟨_,e,_⟩:=h;exact⟨_,e⟩)
  |(obtain⟨_,e⟩:=h;exact⟨_,e⟩)
  |(obtain⟨_,_,_,_,_,e⟩:=h;exact⟨_,e⟩)
  |(simp[AV.isAgg] at h1;done)
  |skip
 ·obtain⟨nm,_,_,_,_,h⟩:=h
  cases hb:nm.base with
  |none=>rw[hb] at h;exact⟨_,h.2⟩
  |some a=>rw[hb] at h;obtain⟨u,room,e,_⟩:=h;exact⟨_,e⟩
 ·obtain⟨nm,_,h⟩:=h
  cases hb:nm.base with
  |none=>rw[hb] at h;obtain⟨_,_,_,_,h⟩:=h;exact⟨_,h⟩
  |some a=>
  rw[hb] at h;simp only at h;split at h
  ·obtain⟨_,_,u,room,e,_⟩:=h;exact⟨_,e⟩
  ·obtain⟨_,_,_,u,room,_,_,_,e,_⟩:=h;exact⟨_,e⟩
theorem LS {α:Type}{s:St}{t:Ty}{v:AV}{k:List t.den->List Nat->Option α}{r:α}(h:qv s t v k=some r):v.size=Ty.size (.deep t)/\∃x ids,k x ids=some r/\∀N D w base,kp N D w base s.h->∀g,an N D w v g->N6 (λD' w=>iI N D' w (.deep t) x g) N D w ids:=by
 have hna:=Aa h;obtain⟨xs,ids,h1,h2⟩:=F8 h;refine⟨by rw[hna.2.1];simp[Ty.size],xs,ids,h1,λN D w base S g hv D' hD hF=>?_⟩
 obtain⟨c,hc⟩:=LR hna.1 hna.2.2 hv;have hv':cp N D w v c:=by
  unfold cp;rw[hna.1];refine ke v _ _ (λj hj=>?_) hv;rw[hna.2.1] at hj;obtain rfl:j=0:=by omega
  exact hc
 exact jv _ _ _ _ (λj hj=>by simp only[Ty.size] at hj;have hj0:j=0:=(by omega);subst hj0;exact hc.symm) (h2 N D w base S c hv' D' hD hF)
theorem DZ {α:Type}{s:St}{t:Ty}(IH: ∀(v:AV) (k:t.den->List Nat->Option α) (r:α),qT s t v k=some r->v.size=t.size/\∃x ids,k x ids=some r/\∀N D w base,kp N D w base s.h->∀g,an N D w v g->N6 (λD' w=>iI N D' w t x g) N D w ids):
  ∀(vs:List AV) (k:List t.den->List Nat->Option α) (r:α),Vh (qT s t) vs k=some r->∃(xs:List t.den) (ids:List Nat),k xs ids=some r/\xs.length=vs.length/\
   ∀N D w base,kp N D w base s.h->∀D':Nat->Prop,(∀b,D b->D' b)->lF N D' ids->∀g,fE N D w vs g->∀i (x:t.den),ko (β:=t.den) xs i=some x->iI N D' w t x (λj=>g (i*t.size+j))
 | [],k,r,h=>⟨[],[],h,rfl,λN D w base S D' _ _ g _ i x hx=>by simp[ko] at hx⟩
 |v::vs,k,r,h=>by
  unfold Vh at h;obtain⟨hsz,x,ids,h1,h2⟩:=IH v _ r h;obtain⟨xs,Yx,h3,h4,h5⟩:=DZ IH vs _ r h1;refine⟨x::xs,ids++Yx,h3,by simp[h4],λN D w base S D' hD hF g hg i y hy=>?_⟩
  simp only[fE] at hg;cases i with
  |zero=>
   simp only[ko,zei,zdM] at hy;subst hy;exact jv _ _ _ _ (λj _=>by simp) (h2 N D w base S g hg.1 D' hD (λq hq=>hF q (List.mem_append.2 (.inl hq))))
  |succ i=>
   refine jv _ _ _ _ (λj _=>congrArg g (by rw[hsz,zd0];omega)) (h5 N D w base S D' hD (λq hq=>hF q (List.mem_append.2 (.inr hq))) _ hg.2 i y (by simpa [ko] using hy))
theorem mP {α:Type}{s:St}: ∀(t:Ty) (v:AV) (k:t.den->List Nat->Option α) (r:α),qT s t v k=some r->
  v.size=t.size/\∃x ids,k x ids=some r/\∀N D w base,kp N D w base s.h->∀g,an N D w v g->N6 (λD' w=>iI N D' w t x g) N D w ids
 | .int k',v,k,r,h=>by
  unfold qT at h;split at h
  ·split at h
   ·rename_i k'' n e;subst e
    exact⟨by simp[AV.size,Ty.size],_,_,h,λN D w base S g hv D' hD _=>by simp only[an] at hv;exact hv⟩
   ·cases h
  ·cases h
 | .bool,v,k,r,h=>by
  unfold qT at h;split at h
  ·exact⟨by simp[AV.size,Ty.size],_,_,h,λN D w base S g hv D' hD _=>by simp only[an] at hv;exact hv⟩
  ·cases h
 | .str,v,k,r,h=>by
  unfold qT at h;split at h
  ·exact⟨by simp[AV.size,Ty.size],_,_,h,λN D w base S g hv D' hD _=>by simp only[an] at hv;exact hv⟩
  ·cases h
 | .nil,v,k,r,h=>by
  unfold qT at h;split at h
  ·exact⟨by simp[AV.size,AV.dK,Ty.size],_,_,h,λN D w base S g hv D' hD _=>trivial⟩
  ·cases h
 | .cons a b,v,k,r,h=>by
  unfold qT at h;split at h
  ·rename_i x l
   obtain⟨hsz,p,i,h1,h2⟩:=mP a x _ r h;obtain⟨xg,q,j,h3,h4⟩:=mP b (.agg l) _ r h1;refine⟨by simp only[AV.size,AV.dK,Ty.size] at*;omega,_,_,h3,λN D w base S g hv D' hD hF=>?_⟩
   simp only[an,fE] at hv;have hp:=h2 N D w base S g hv.1 D' hD hF.left;refine⟨hp,?_⟩;have:=h4 N D w base S (λj=>g (x.size+j)) (by simp only[an];exact hv.2) D' hD hF.right
   rwa [hsz] at this
  ·cases h
 | .arr n t,v,k,r,h=>by
  unfold qT at h;split at h
  ·rename_i n' t' xs
   split at h
   ·rename_i e;subst e
    split at h
    ·rename_i ys hc
     obtain⟨rfl,rfl⟩:=iU hc;exact⟨by simp[AV.size,Ty.size],_,_,h,λN D w base S g hv D' hD _=>by simp only[an] at hv;exact kK (Names.le_refl _) hD (λ_ _=>rfl) _ _ _ hv⟩
    ·cases h
   ·cases h
  ·cases h
 | .deep t,v,k,r,h=>by
  unfold qT LA at h;split at h;rotate_left
  ·exact LS h
  rename_i id n;split at h;rotate_left
  ·cases h
  rename_i vs ho;split at h;rotate_left
  ·cases h
  rename_i hn;simp only[zdU] at hn;obtain⟨xs,ids,h1,h2,h3⟩:=DZ (λv k r hv=>mP t v k r hv) vs _ r h;refine⟨by simp[AV.size,Ty.size],xs,id::ids,h1,λN D w base S g hv D' hD hF=>?_⟩
  simp only[an] at hv;obtain⟨nm,a,e1,e2,e3,e4⟩:=hv;obtain⟨mN,a',f1,f2,f3,f4,f5,f6,_,_,_,f7⟩:=S.obj id _ ho;rw[e1] at f1;cases f1;rw[e2] at f2;cases f2;simp only[an] at f7;have hlen:aM (β:=t.den) xs=n:=by rw[<-hn];exact h2
  refine⟨some a,n,by rw[hlen];exact e4,by rw[hlen];exact zd2 _,(by intro h;cases h),λad F7 mb=>?_⟩
  cases F7;exact⟨f5,hF id (by simp) nm a e1 e2,h3 N D w base S D' hD (λq hq=>hF q (zdS _ hq)) _ f7⟩
 | .ref g,v,k,r,h=>by
  unfold qT at h;split at h
  ·split at h
   ·rename_i e;subst e
    exact⟨by simp[AV.size,Ty.size],_,_,h,λN D w base S g hv D' hD _=>by simp only[an] at hv;exact hv⟩
   ·cases h
  ·exact⟨by simp[AV.size,Ty.size],_,_,h,λN D w base S g hv D' hD _=>by simp only[an] at hv;exact hv⟩
  ·cases h
end AM
namespace AM
open Go
mutual
theorem wC: ∀(v u:AV),v.lD u=true->v.sh=u.sh
 | .agg fs,u,h=>by
  cases u<;>simp only[AV.lD] at h<;>first|(cases h;done)|skip
  simp only[AV.sh];rw[Ab _ _ h]
 | .arr n t xs,u,h=>by
  cases u<;>simp only[AV.lD] at h<;>first|(cases h;done)|skip
  simp only[zdO,zdU] at h;simp only[AV.sh,h.1,h.2]
 | .undef,u,h=>by cases u<;>simp[AV.lD] at h
 | .A8 _,u,h=>by cases u<;>simp[AV.lD] at h
 | .val _,u,h=>by cases u<;>simp[AV.lD] at h<;>simp[AV.sh]
 | .ptr _ _,u,h=>by cases u<;>simp[AV.lD] at h<;>simp[AV.sh]
 | .tail _ _,u,h=>by cases u<;>simp[AV.lD] at h<;>simp[AV.sh]
 | .slice _ _ _ _,u,h=>by cases u<;>simp[AV.lD] at h<;>simp[AV.sh]
 | .dp _ _,u,h=>by cases u<;>simp[AV.lD] at h<;>simp[AV.sh]
 | .ub _,u,h=>by cases u<;>simp[AV.lD] at h<;>simp[AV.sh]
 | .xq _ _,u,h=>by cases u<;>simp[AV.lD] at h<;>simp[AV.sh]
 | .xG,u,h=>by cases u<;>simp[AV.lD] at h<;>simp[AV.sh]
 | .Ro _ _ _ _,u,h=>by cases u<;>simp[AV.lD] at h<;>simp[AV.sh]
 | .xr _ _,u,h=>by cases u<;>simp[AV.lD] at h<;>simp[AV.sh]
 | .uD _ _,u,h=>by cases u<;>simp[AV.lD] at h<;>simp[AV.sh]
 | .rf _ _ _,u,h=>by cases u<;>simp[AV.lD] at h<;>simp[AV.sh]
theorem Ab: ∀(l m:List AV),AV.vF l m=true->AV.xH l=AV.xH m
 | [],m,h=>by cases m<;>simp[AV.vF] at h<;>simp[AV.xH]
 |x::xs,m,h=>by
  cases m with
  |nil=>simp[AV.vF] at h
  |cons y ys=>
   simp only[AV.vF,zdO] at h;simp only[AV.xH,wC _ _ h.1,Ab _ _ h.2]
end
theorem N7: ∀(l:List AV) (n:Nat) (v v':AV),l[n]?=some v->v'.sh=v.sh->AV.xH (l.set n v')=AV.xH l
 | [],_,_,_,h,_=>by simp at h
 |x::xs,0,v,v',h,e=>by simp at h;subst h;simp[AV.xH,e]
 |x::xs,n+1,v,v',h,e=>by simp[AV.xH,N7 xs n v v' (by simpa using h) e]
theorem zt {N:Names}{D:Nat->Prop}{w:World}: ∀(l:List AV) (n:Nat) (v v':AV) (g g':Nat->Option Value),l[n]?=some v->v'.size=v.size->fE N D w l g->
  (∀j,(j<AV.dK (l.take n)\/AV.dK (l.take n)+v.size<=j)->g' j=g j)->an N D w v' (λj=>g' (AV.dK (l.take n)+j))->fE N D w (l.set n v') g'
 | [],_,_,_,_,_,h,_,_,_,_=>by simp at h
 |x::xs,0,v,v',g,g',h,e,hr,hg,hv=>by
  simp at h;subst h;simp only[List.set,fE] at*;refine⟨mF hv (λj=>by simp[AV.dK]),?_⟩
  refine wA xs _ _ (λj _=>?_) hr.2;rw[hg _ (.inr (by simp[AV.dK];omega)),e]
 |x::xs,n+1,v,v',g,g',h,e,hr,hg,hv=>by
  simp only[List.set,fE] at*;refine⟨ke x _ _ (λj hj=>(hg j (.inl (by simp[AV.dK];omega))).symm) hr.1,?_⟩
  refine zt xs n v v' (λj=>g (x.size+j)) (λj=>g' (x.size+j)) (by simpa using h) e hr.2 (λj hj=>hg _ ?_) (mF hv (λj=>by simp[AV.dK,zd1]))
  simp only[List.take_succ_cons,AV.dK];omega
theorem Ce: ∀(l:List Sh) (n:Nat) (v:Sh),l[n]?=some v->Sh.dK (l.take n)+v.size<=Sh.dK l
 | [],n,v,h=>by simp at h
 |z::zs,0,v,h=>by simp at h;subst h;simp[Sh.dK]
 |z::zs,n+1,v,h=>by have:=Ce zs n v (by simpa using h);simp[Sh.dK];omega
theorem Ac: ∀(p:List Step) (sh:Sh) (o:Nat) (t:Sh),fX p sh=some o->zW p sh=some t->o+t.size<=sh.size:=by
 intro p;induction p with
 |nil=>intro sh o t h1 h2;simp only[fX,zW,zdM] at h1 h2;subst h1;subst h2;omega
 |cons st p ih=>
  intro sh o t h1 h2;cases st with
  |iH n=>
   cases sh<;>simp only[fX,zW] at h1 h2<;>try (cases h1;done)
   rename_i l;cases hl:l[n]? with
   |none=>simp[hl] at h1
   |some y=>
    simp only[hl] at h1 h2;cases h5:fX p y with
    |none=>simp[h5] at h1
    |some o2=>
     simp only[h5,zdV,zdM] at h1;have:=ih y o2 t h5 h2;have:=Ce l n y hl;simp only[Sh.size];omega
  |idx i=>
   cases sh<;>simp only[fX,zW] at h1 h2<;>try (cases h1;done)
   rename_i n e;by_cases hi:i<n
   ·simp only[hi,if_true] at h1
    cases h5:fX p e with
    |none=>simp[h5] at h1
    |some o2=>
     simp only[h5,zdV,zdM] at h1;have:=ih e o2 t h5 h2;have h6:(i+1)*e.size<=n*e.size:=zdZ _ hi;rw[zd0] at h6;simp only[Sh.size];omega
   ·simp only[hi,if_false] at h1;cases h1
theorem wD {α:Type}{s:St}: ∀(p:List Step) (u v:AV) (k:AV->Option α) (r:α),Jz s p u v k=some r->
  ∃v',k v'=some r/\v'.sh=v.sh/\zW p v.sh=some u.sh/\∀N D w base,kp N D w base s.h->∀g g' o,an N D w v g->fX p v.sh=some o->
   (∀j,(j<o\/o+u.size<=j)->g' j=g j)->an N D w u (λj=>g' (o+j))->an N D w v' g'
 | [],u,v,k,r,h=>by
  simp only[Jz] at h;cases hs:v.lD u with
  |false=>simp[hs] at h
  |true=>
   simp only[hs] at h;refine⟨u,h,(wC _ _ hs).symm,by rw[zW,wC _ _ hs],λN D w base S g g' o hv ho hg hu=>?_⟩
   simp only[fX,zdM] at ho;subst ho;exact mF hu (λj=>by simp)
 | .iH n::p,u,v,k,r,h=>by
  cases v<;>simp only[Jz] at h<;>try (cases h;done)
  rename_i fs;cases hv:fs[n]? with
  |none=>simp[hv] at h
  |some x=>
   simp only[hv] at h;obtain⟨v',h1,h2,h3,h4⟩:=wD p u x _ r h;have hsz:v'.size=x.size:=by rw[<-la,<-la,h2]
   refine⟨_,h1,by simp only[AV.sh,N7 fs n x v' hv h2],by simp only[AV.sh,zW,z7,hv,zdV];exact h3,λN D w base S g g' o hr ho hg hu=>?_⟩
   simp only[AV.sh,fX,z7,hv,zdV] at ho;cases na:fX p x.sh with
   |none=>simp[na] at ho
   |some o'=>
    simp only[na,zdV,zdM] at ho;rw[<-DX,z6] at ho;subst ho;simp only[an] at hr⊢;have hx:=qJ fs n x g hv hr;have xF:o'+u.size<=x.size:=by
     have:=Ac p x.sh o' u.sh na h3;rwa [la,la] at this
    have:=h4 N D w base S _ (λj=>g' (AV.dK (fs.take n)+j)) o' hx na (λj hj=>hg _ (by omega)) (mF hu (λj=>by rw[zd1]))
    exact zt fs n x v' g g' hv hsz hr (λj hj=>hg j (by omega)) this
 | .idx i::p,u,v,k,r,h=>by
  cases v<;>simp only[Jz] at h<;>try (cases h;done)
  rename_i n t xs;cases hv:(show List t.den from xs)[i]? with
  |none=>simp[hv] at h
  |some x=>
   simp only[hv] at h;obtain⟨v',h1,h2,h3,h4⟩:=wD p u (enc t x) _ r h;obtain⟨_,x',ids,h5,h6⟩:=mP t v' _ r h1;cases ids with
   |cons _ _=>simp at h5
   |nil=>
    simp only at h5;refine⟨_,h5,by simp only[AV.sh],by simp only[AV.sh,zW];rw[<-rS t x];exact h3,λN D w base S g g' o hr ho hg hu=>?_⟩
    simp only[AV.sh,fX] at ho;by_cases hi:i<n
    ·simp only[hi,if_true] at ho
     cases na:fX p (sC t) with
     |none=>simp[na] at ho
     |some o'=>
      simp only[na,zdV,zdM,iT] at ho;subst ho;simp only[an,iI] at hr⊢;have hx:=(kV (N:=N) t x _).2 (hr.2 i x hv);have xF:o'+u.size<=t.size:=by
       have:=Ac p (sC t) o' u.sh na (by rw[<-rS t x];exact h3)
       rwa [la,iT] at this
      have:=h4 N D w base S _ (λj=>g' (i*t.size+j)) o' hx (by rw[rS];exact na) (λj hj=>hg _ (by omega)) (mF hu (λj=>by rw[zd1]))
      have Cf:=h6 N D w base S _ this D (λ_ h=>h) (by intro id oT;simp at oT)
      refine⟨by simp only[aM,zej];exact hr.1,λi' y hy=>?_⟩
      by_cases UT:i=i'
      ·subst UT
       have lj:i<(show List t.den from xs).length:=(List.getElem?_eq_some_iff.1 hv).1
       simp only[ko,List.getElem?_set_self lj,zdM] at hy;subst hy;exact Cf
      ·simp only[ko,zek UT] at hy
       refine jv t y _ _ (λj hj=>?_) (hr.2 i' y hy);refine(hg _ ?_).symm;rcases Nat.lt_or_gt_of_ne UT with lj|lj
       ·right
        have:(i+1)*t.size<=i'*t.size:=zdZ _ lj;rw[zd0] at this;omega
       ·left
        have:(i'+1)*t.size<=i*t.size:=zdZ _ lj;rw[zd0] at this;omega
    ·simp only[hi,if_false] at ho;cases ho
end AM
namespace AM
open Go
theorem tw.congr {N N':Names}{D D':Nat->Prop}{w w':World}{base:Nat}{id:Nat}{v:AV}(h:tw N D w base id v)(hN:N.le N')(hD: ∀b,D b->D' b)(hw: ∀b,D b->w'.heap[b]?=w.heap[b]?)
  (hb: ∀b,oG N id b->w'.heap[b]?=w.heap[b]?/\(¬D b->¬D' b)):tw N' D' w' base id v:=by
 obtain⟨nm,a,h1,h2,h3,h4,h5,h6,h7,h8,⟨c,ty,h9,GH⟩,N8⟩:=h;obtain⟨e1,e2⟩:=hb _ ⟨nm,a,h1,h2,rfl⟩;refine⟨nm,a,hN _ _ h1,h2,h3,h4,h5,h6,h7,e2 h8,⟨c,ty,by rw[e1];exact h9,GH⟩,?_⟩
 refine mF (qA hN hD hw v _ N8) (λj=>?_);simp only[aX,World.cell?,e1]
theorem nP.congr {N N':Names}{D D':Nat->Prop}{w w':World}{base:Nat}{id:Nat}{ro:Bool}{t:Ty}{xs:List t.den}(h:nP N D w base id ro t xs)(hN:N.le N')(hD: ∀b,D b->D' b)(hw: ∀b,D b->w'.heap[b]?=w.heap[b]?)
  (hb:ro=false->∀b,oG N id b->w'.heap[b]?=w.heap[b]?/\(¬D b->¬D' b)):nP N' D' w' base id ro t xs:=by
 obtain⟨nm,h1,h2,h3,h4,h5,h6⟩:=h;refine⟨nm,hN _ _ h1,h2,h3,h4,h5,?_⟩;cases pV:nm.base with
 |none=>rw[pV] at h6;exact h6
 |some a=>
  rw[pV] at h6;obtain⟨h7,⟨c,ty,fz,h8,h9⟩,GH,N8⟩:=h6;have e1:w'.heap[a.block]?=w.heap[a.block]?:=by
   cases ro with
   |true=>simp only[if_true] at GH;exact hw _ GH
   |false=>exact(hb rfl _ ⟨nm,a,h1,pV,rfl⟩).1
  refine⟨h7,⟨c,ty,fz,by rw[e1];exact h8,h9⟩,?_,λi x hx=>?_⟩
  ·cases ro with
   |true=>simp only[if_true] at GH⊢;exact hD _ GH
   |false=>simp at GH⊢;exact⟨GH.1,(hb rfl _ ⟨nm,a,h1,pV,rfl⟩).2 GH.2⟩
  ·have:=kK hN hD hw t x _ (N8 i x hx)
   have e:(λj=>aX w' a (i*t.size+j))=λj=>aX w a (i*t.size+j):=by
    funext j;simp only[aX,World.cell?,e1]
   rw[e];exact this
mutual
theorem jr.congr {D D':Nat->Prop}{w w':World}{base:Nat}(hD: ∀b,D b->D' b)(hw: ∀b,D b->w'.heap[b]?=w.heap[b]?): ∀{N:Names} {c:Nat} {p:aG} {d:p.den},jr D w base N c p d->
  (∀b,pZ N c p d b->w'.heap[b]?=w.heap[b]?/\(¬D b->¬D' b))->jr D' w' base N c p d
 |_,_, .var _,_,h,hb=>by
  simp only[jr,pZ] at*;exact h.congr (Names.le_refl _) hD hw hb
 |_,_, .row _,_,h,hb=>by
  simp only[jr,pZ] at*;exact h.congr (Names.le_refl _) hD hw λ_=>hb
 |N,c, .store ep,xs,h,hb=>by
  simp only[jr] at*;refine⟨h.1,λk d hk=>⟨kX.congr hD hw (h.2.1 k d hk).1 λb ho=>hb b ?_,(h.2.1 k d hk).2⟩,h.2.2.1,h.2.2.2⟩;simp only[pZ];exact⟨k,d,hk,ho⟩
theorem kX.congr {D D':Nat->Prop}{w w':World}{base:Nat}(hD: ∀b,D b->D' b)(hw: ∀b,D b->w'.heap[b]?=w.heap[b]?): ∀{N:Names} {l:List (Nat×aG)} {d:cS l},kX D w base N l d->
  (∀b,pM N l d b->w'.heap[b]?=w.heap[b]?/\(¬D b->¬D' b))->kX D' w' base N l d
 |_,[],_,_,_=>by simp only[kX]
 |N,(c,p)::os,d,h,hb=>by
  simp only[kX,pM] at*;exact⟨jr.congr hD hw h.1 λb ho=>hb b (.inl ho),kX.congr hD hw h.2.1 λb ho=>hb b (.inr ho),h.2.2⟩
end
mutual
theorem jr.uS {D:Nat->Prop}{w:World}{base:Nat}{N N':Names}{c:Nat}{ep:List (Nat×aG)}{xs:List (cS ep)}(h:jr D w base N c (.store ep) xs)(e: ∀k,N'.sub (c-SB) k=N.sub (c-SB) k):jr D w base N' c (.store ep) xs:=by
 simp only[jr,e] at*;exact h
end
theorem pZ.uS {N N':Names}{c:Nat}{ep:List (Nat×aG)}{xs:List (cS ep)}{b:Nat}(e: ∀k,N'.sub (c-SB) k=N.sub (c-SB) k):pZ N' c (.store ep) xs b↔pZ N c (.store ep) xs b:=by
 simp only[pZ,e]
theorem oc {N N':Names}{D D':Nat->Prop}{w w':World}{base:Nat}{id:Nat}{o:gi}(h:qK N D w base id o)(hN:N.le N')(hD: ∀b,D b->D' b)(hw: ∀b,D b->w'.heap[b]?=w.heap[b]?)
  (hb: ∀b,jd N id o b->w'.heap[b]?=w.heap[b]?/\(¬D b->¬D' b)) (hs: ∀ep xs,o= .store ep xs->∀k,N'.sub (id-SB) k=N.sub (id-SB) k):qK N' D' w' base id o:=by
 cases o with
 |dead=>trivial
 |void=>trivial
 |store ep xs=>exact(jr.congr hD hw (show jr D w base N id (.store ep) xs from h) hb).uS (hs ep xs rfl)
 |var v=>exact tw.congr h hN hD hw hb
 |row ro t xs=>exact nP.congr h hN hD hw λe=>by subst e;exact hb
def kC (h:Nat->Option gi)(id:Nat)(o:gi):Nat->Option gi:=λx=>if x=id then some o else h x
theorem St.tz (s:St)(id:Nat)(o:gi):(s.set id o).h=kC s.h id o:=rfl
theorem vJ {h:Nat->Option gi}{id i:Nat}{o:gi}(e:kC h id o i=none):h i=none:=by
 unfold kC at e;split at e
 ·cases e
 ·exact e
theorem oG.eq {N N':Names}{i b:Nat}(h:N' i=N i):oG N' i b↔oG N i b:=by unfold oG;rw[h]
theorem jd.names {N N':Names}{i:Nat}{o:gi}{b:Nat}(h1:N' i=N i)(h2: ∀k,N'.sub (i-SB) k=N.sub (i-SB) k):jd N' i o b↔jd N i o b:=by
 cases o with
 |dead=>exact Iff.rfl
 |void=>exact Iff.rfl
 |var v=>exact oG.eq h1
 |row ro t xs=>
  cases ro with
  |true=>exact Iff.rfl
  |false=>exact oG.eq h1
 |store ep xs=>exact pZ.uS h2
theorem jd.at_ {N:Names}{i:Nat}{o:gi}{nm:Nm}{a:Addr}{b:Nat}(hr:o.rw=true)(hn:N i=some nm)(hb:nm.base=some a)(h:jd N i o b):b=a.block:=by
 have key:oG N i b->b=a.block:=by
  rintro⟨mN,a',h1,h2,rfl⟩
  rw[hn] at h1;cases h1;rw[hb] at h2;cases h2;rfl
 cases o with
 |dead=>exact h.elim
 |void=>exact h.elim
 |var v=>exact key h
 |row ro t xs=>cases ro<;>first|exact key h|exact h.elim
 |store ep xs=>cases hr
theorem kp.write {N:Names}{D:Nat->Prop}{w w':World}{base:Nat}{h:Nat->Option gi}(S:kp N D w base h){id:Nat}{o o':gi}{nm:Nm}{a:Addr}(ho:h id=some o)(FY:o.rw=true)(hn:N id=some nm)(hb:nm.base=some a)
  (RW:w'.os=w.os) (JI:w'.tape=w.tape) (jD:w'.output=w.output) (xU:w'.heap.size=w.heap.size) (mQ: ∀b,b≠a.block->w'.heap[b]?=w.heap[b]?) (nq:qK N D w' base id o') (UU:o'.rw=true:=by rfl):
  kp N D w' base (kC h id o')/\Ext N D w h N D w' (kC h id o'):=by
 have tH:jd N id o a.block:=jd.of FY hn hb;have zaG:zr N h a.block:=⟨id,o,ho,tH⟩;have hnd:=(S.ug zaG).1;have hD: ∀b,D b->w'.heap[b]?=w.heap[b]?:=λb vC=>mQ b (λe=>hnd (e▸vC));have key: ∀i oi b,kC h id o' i=some oi->jd N i oi b->∃o2,h i=some o2/\jd N i o2 b:=by
  intro i oi b hi ri;by_cases e:i=id
  ·subst e
   simp[kC] at hi;subst hi;rw[jd.at_ UU hn hb ri];exact⟨o,ho,tH⟩
  ·simp only[kC,if_neg e] at hi;exact⟨oi,hi,ri⟩
 have N9: ∀x,kC h id o' x≠h x->∃o2,kC h id o' x=some o2/\o2.rw=true/\∃o3,h x=some o3/\o3.rw=true:=by
  intro x hx;by_cases e:x=id
  ·subst e;exact⟨o',by simp[kC],UU,o,ho,FY⟩
  ·simp[kC,e] at hx
 constructor
 ·refine⟨λRq o'' h'=>?_,?_,λb vC=>by rw[xU];exact S.frozen b vC,λRq mN PE=>?_,by rw[xU];exact S.size,λg hg=>?_⟩
  ·by_cases e:Rq=id
   ·subst e;simp[kC] at h';subst h';exact nq
   ·simp only[kC,if_neg e] at h'
    refine oc (S.obj Rq o'' h') (Names.le_refl N) (λ_ h=>h) hD (λb hO=>⟨mQ _ (λeb=>e ?_),λh=>h⟩) (λ_ _ _ _=>rfl);exact S.apart Rq id o'' o b h' ho hO (eb▸tH)
  ·intro i j oi oj b hi hj ri rj
   obtain⟨o1,h1,r1⟩:=key i oi b hi ri;obtain⟨o2,h2,r2⟩:=key j oj b hj rj;exact S.apart i j o1 o2 b h1 h2 r1 r2
  ·by_cases e:Rq=id
   ·simp[kC,e]
   ·simp only[kC,if_neg e];exact S.named Rq mN PE
  ·by_cases e:SB+g=id
   ·simp only[kC,if_pos e] at hg
    cases o'<;>simp[AM.iS] at hg
    cases UU
   ·simp only[kC,if_neg e] at hg;exact S.iS g hg
 ·refine⟨Names.le_refl N,λ_ h=>h,RW,JI,jD,by rw[xU];exact zd2 _,λb _ uH=>mQ b (λe=>uH (e▸zaG)),λb _ hO=>?_,λ_ h=> .inl h,λ_ _ h=> .inl h,λ_ h=>vJ h,λg hg=>⟨?_,λ_=>rfl⟩⟩
  ·obtain⟨i,oi,hi,ri⟩:=hO
   obtain⟨o2,h2,r2⟩:=key i oi b hi ri;exact⟨i,o2,h2,r2⟩
  ·by_cases e:SB+g=id
   ·subst e;rw[ho] at hg;cases hg;cases FY
   ·simp only[kC,if_neg e];exact hg
theorem kp.kill {N:Names}{D:Nat->Prop}{w:World}{base:Nat}{h:Nat->Option gi}(S:kp N D w base h)(id:Nat):kp N D w base (kC h id .dead)/\Ext N D w h N D w (kC h id .dead):=by
 have key: ∀i oi b,kC h id .dead i=some oi->jd N i oi b->h i=some oi:=by
  intro i oi b hi ri;by_cases e:i=id
  ·subst e;simp[kC] at hi;subst hi;exact ri.elim
  ·simpa only[kC,if_neg e] using hi
 constructor
 ·refine⟨λi o hi=>?_,?_,S.frozen,λi nm hn=>?_,S.size,λg hg=>?_⟩
  ·by_cases e:i=id
   ·subst e;simp[kC] at hi;subst hi;trivial
   ·simp only[kC,if_neg e] at hi;exact S.obj i o hi
  ·intro i j oi oj b hi hj ri rj
   exact S.apart i j oi oj b (key i oi b hi ri) (key j oj b hj rj) ri rj
  ·by_cases e:i=id
   ·simp[kC,e]
   ·simp only[kC,if_neg e];exact S.named i nm hn
  ·by_cases e:SB+g=id
   ·simp[kC,if_pos e,AM.iS] at hg
   ·simp only[kC,if_neg e] at hg;exact S.iS g hg
 ·refine⟨Names.le_refl N,λ_ h=>h,rfl,rfl,rfl,zd2 _,λ_ _ _=>rfl,λb _ hO=>?_,λ_ h=> .inl h,λ_ _ h=> .inl h,λ_ h=>vJ h,λg hg=>⟨?_,λ_=>rfl⟩⟩
  ·obtain⟨i,oi,hi,ri⟩:=hO
   exact⟨i,oi,key i oi b hi ri,ri⟩
  ·by_cases e:SB+g=id
   ·simp[kC,if_pos e]
   ·simp only[kC,if_neg e];exact hg
theorem kp.Vl {N:Names}{D:Nat->Prop}{w:World}{base:Nat}{h:Nat->Option gi}(S:kp N D w base h){id:Nat}{ro:Bool}{t:Ty}{xs:List t.den}(ho:h id=some (.row ro t xs)):
  ∃D':Nat->Prop,(∀b,D b->D' b)/\lF N D' [id]/\kp N D' w base (kC h id (.row true t xs))/\Ext N D w h N D' w (kC h id (.row true t xs)):=by
 have nq:=S.obj id _ ho;have key: ∀i oi b,kC h id (.row true t xs) i=some oi->jd N i oi b->i≠id/\h i=some oi:=by
  intro i oi b hi ri;by_cases e:i=id
  ·subst e;simp[kC] at hi;subst hi;exact ri.elim
  ·exact⟨e,by simpa only[kC,if_neg e] using hi⟩
 let D':Nat->Prop:=λb=>D b\/∃nm a,N id=some nm/\nm.base=some a/\a.block=b
 have lj: ∀nm a,N id=some nm->nm.base=some a->a.block<w.heap.size:=by
  intro nm a hn hb;obtain⟨mN,h1,_,_,_,_,h6⟩:=nq;rw[hn] at h1;cases h1;rw[hb] at h6;obtain⟨_,⟨c,ty,fz,h8,_⟩,_⟩:=h6;exact(Array.getElem?_eq_some_iff.1 h8).1
 refine⟨D',λb h=> .inl h,?_,?_,?_⟩
 ·intro i hi nm a hn hb
  simp at hi;subst hi;exact .inr ⟨nm,a,hn,hb,rfl⟩
 ·refine⟨λi o hi=>?_,?_,?_,λi nm hn=>?_,S.size,λg hg=>?_⟩
  ·by_cases e:i=id
   ·subst e;simp[kC] at hi;subst hi
    obtain⟨nm,h1,h2,h3,h4,h5,h6⟩:=nq;refine⟨nm,h1,h2,h3,h4,h5,?_⟩;cases hb:nm.base with
    |none=>rw[hb] at h6;exact h6
    |some a=>
     rw[hb] at h6;obtain⟨h7,⟨c,ty,fz,h8,h9,_⟩,_,N8⟩:=h6;refine⟨h7,⟨c,ty,fz,h8,h9,by simp⟩,by simp only[if_true];exact .inr ⟨nm,a,h1,hb,rfl⟩,λi x hx=>kK (Names.le_refl _) (λb h=> .inl h) (λ_ _=>rfl) _ _ _ (N8 i x hx)⟩
   ·simp only[kC,if_neg e] at hi
    refine oc (S.obj i o hi) (Names.le_refl N) (λb h=> .inl h) (λ_ _=>rfl) (λb hO=>⟨rfl,λhnd LN=>?_⟩) (λ_ _ _ _=>rfl);rcases LN with LN|⟨nm,a,hn,hb,LU⟩
    ·exact hnd LN
    ·cases ro with
     |true=>
      obtain⟨Xy,h1,_,_,_,_,h6⟩:=nq;rw[hn] at h1;cases h1;rw[hb] at h6;obtain⟨_,_,GH,_⟩:=h6;simp only[if_true] at GH;exact hnd (LU▸GH)
     |false=>exact e (S.apart i id o _ b hi ho hO ⟨nm,a,hn,hb,LU⟩)
  ·intro i j oi oj b hi hj ri rj
   exact S.apart i j oi oj b (key i oi b hi ri).2 (key j oj b hj rj).2 ri rj
  ·rintro b (hb|⟨nm,a,hn,hb,rfl⟩)
   ·exact S.frozen b hb
   ·exact lj nm a hn hb
  ·by_cases e:i=id
   ·simp[kC,e]
   ·simp only[kC,if_neg e];exact S.named i nm hn
  ·by_cases e:SB+g=id
   ·simp[kC,if_pos e,AM.iS] at hg
   ·simp only[kC,if_neg e] at hg;exact S.iS g hg
 ·refine⟨Names.le_refl N,λb h=> .inl h,rfl,rfl,rfl,zd2 _,λ_ _ _=>rfl,λb _ hO=>?_,λb hb=>?_,λ_ _ h=> .inl h,λ_ h=>vJ h,λg hg=>⟨?_,λ_=>rfl⟩⟩
  case refine_2=>
   rcases hb with hb|⟨nm,a,hn,hb,rfl⟩
   ·exact .inl hb
   ·cases ro with
    |true=>
     obtain⟨Xy,h1,_,_,_,_,h6⟩:=nq;rw[hn] at h1;cases h1;rw[hb] at h6;obtain⟨_,_,GH,_⟩:=h6;exact .inl (by simpa using GH)
    |false=>exact .inr (.inl ⟨id,_,ho,⟨nm,a,hn,hb,rfl⟩⟩)
  ·obtain⟨i,oi,hi,ri⟩:=hO
   exact⟨i,oi,(key i oi b hi ri).2,ri⟩
  ·by_cases e:SB+g=id
   ·subst e;rw[ho] at hg;cases hg
   ·simp only[kC,if_neg e];exact hg
theorem wE: ∀(ids:List Nat) (s s':St),s.freeze ids=some s'->s'.t=s.t/\s'.nt=s.nt/\s'.ep=s.ep/\∀N D w base,kp N D w base s.h->
  ∃D':Nat->Prop,(∀b,D b->D' b)/\lF N D' ids/\kp N D' w base s'.h/\Ext N D w s.h N D' w s'.h
 | [],s,s',h=>by
  simp only[St.freeze,zdM] at h;subst h;exact⟨rfl,rfl,rfl,λN D w base S=>⟨D,λ_ h=>h,by intro i hi;simp at hi,S,Ext.refl _ _ _ _⟩⟩
 |i::l,s,s',h=>by
  simp only[St.freeze] at h;split at h
  ·rename_i ro t xs ho
   obtain⟨h1,h2,h3,h4⟩:=wE l _ s' h;refine⟨h1,h2,h3,λN D w base S=>?_⟩;obtain⟨D1,e1,e2,e3,e4⟩:=S.Vl ho;obtain⟨D2,f1,f2,f3,f4⟩:=h4 N D1 w base (by rw[St.tz];exact e3)
   refine⟨D2,λb hb=>f1 b (e1 b hb),λid oT nm a hn hb=>?_,f3,e4.trans f4⟩;rcases List.mem_cons.1 oT with rfl|oT
   ·exact f1 _ (e2 id (by simp) nm a hn hb)
   ·exact f2 id oT nm a hn hb
  ·cases h
theorem Names.Cg {N:Names}{id:Nat}{nm:Nm}:(N.up λi=>if i=id then some nm else N i) id=some nm:=by show(if id=id then some nm else N id)=_;simp
theorem Names.RX {N:Names}{id:Nat}{nm:Nm}(Yy:N id=none):N.le (N.up λi=>if i=id then some nm else N i):=Names.RR λi mN h'=>by
 by_cases e:i=id
 ·subst e;rw[Yy] at h';cases h'
 ·rw[if_neg e];exact h'
theorem kp.make {N:Names}{D:Nat->Prop}{w w':World}{base:Nat}{h:Nat->Option gi}(S:kp N D w base h){id:Nat}{o:gi}{nm:Nm}(im:h id=none)(RW:w'.os=w.os)(JI:w'.tape=w.tape)(jD:w'.output=w.output)
  (xU:w.heap.size<=w'.heap.size) (mQ: ∀b,b<w.heap.size->w'.heap[b]?=w.heap[b]?) (rn: ∀a,nm.base=some a->w.heap.size<=a.block/\a.block<w'.heap.size)
  (nq:qK (N.up λi=>if i=id then some nm else N i) D w' base id o) (hr:o.rw=true:=by rfl):
  ∃N':Names,N' id=some nm/\kp N' D w' base (kC h id o)/\Ext N D w h N' D w' (kC h id o):=by
 have Yy:N id=none:=by
  cases e:N id with
  |none=>rfl
  |some mN=>exact absurd im (S.named id mN e)
 have hN:N.le (N.up λi=>if i=id then some nm else N i):=Names.RR λi mN h'=>by
  by_cases e:i=id
  ·subst e;rw[Yy] at h';cases h'
  ·rw[if_neg e];exact h'
 have Yz:(N.up λi=>if i=id then some nm else N i) id=some nm:=by show(if id=id then some nm else N id)=_;simp
 have LV: ∀i,i≠id->(N.up λi=>if i=id then some nm else N i) i=N i:=λi e=>if_neg e
 have hold: ∀i oi b,i≠id->jd (N.up λi=>if i=id then some nm else N i) i oi b->jd N i oi b:=λi oi b e=>(jd.names (LV i e) (λ_=>rfl)).1
 have D0: ∀b,jd (N.up λi=>if i=id then some nm else N i) id o b->w.heap.size<=b:=by
  intro b hO;cases hb:nm.base with
  |some a=>rw[jd.at_ hr Yz hb hO];exact(rn a hb).1
  |none=>
   have key:oG (N.up λi=>if i=id then some nm else N i) id b->False:=by
    rintro⟨mN,a',h1,h2,_⟩
    rw[Yz] at h1;cases h1;rw[hb] at h2;cases h2
   cases o with
   |dead=>exact hO.elim
   |void=>exact hO.elim
   |var v=>exact(key hO).elim
   |row ro t xs=>cases ro<;>first|exact(key hO).elim|exact hO.elim
   |store ep xs=>cases hr
 refine⟨N.up λi=>if i=id then some nm else N i,Yz,⟨λi oi hi=>?_,?_,λb hb=>zd4 (S.frozen b hb) xU,λi mN hn=>?_,zd3 S.size xU,λg hg=>?_⟩,⟨hN,λ_ h=>h,RW,JI,jD,xU,λb hb _=>mQ b hb,λb hb hO=>?_,λ_ h=> .inl h,λi mN hn=>?_,λ_ h=>vJ h,λg hg=>⟨?_,λ_=>rfl⟩⟩⟩
 ·by_cases e:i=id
  ·subst e;simp[kC] at hi;subst hi;exact nq
  ·simp only[kC,if_neg e] at hi
   exact oc (S.obj i oi hi) hN (λ_ h=>h) (λb hb=>mQ b (S.frozen b hb)) (λb hO=>⟨mQ _ (S.px hi hO).2.2,λh=>h⟩) (λ_ _ _ _=>rfl)
 ·intro i j oi oj b hi hj ri rj
  by_cases ei:i=id<;>by_cases ej:j=id
  ·rw[ei,ej]
  ·exfalso
   subst ei;simp[kC] at hi;subst hi;simp only[kC,if_neg ej] at hj;have:=(S.px hj (hold j oj b ej rj)).2.2;have:=D0 b ri;omega
  ·exfalso
   subst ej;simp[kC] at hj;subst hj;simp only[kC,if_neg ei] at hi;have:=(S.px hi (hold i oi b ei ri)).2.2;have:=D0 b rj;omega
  ·simp only[kC,if_neg ei] at hi
   simp only[kC,if_neg ej] at hj;exact S.apart i j oi oj b hi hj (hold i oi b ei ri) (hold j oj b ej rj)
 ·by_cases e:i=id
  ·simp[kC,e]
  ·simp only[kC,if_neg e]
   rw[LV i e] at hn;exact S.named i mN hn
 ·by_cases e:SB+g=id
  ·simp only[kC,if_pos e] at hg
   cases o<;>simp[AM.iS] at hg
   cases hr
  ·simp only[kC,if_neg e] at hg;exact S.iS g hg
 ·obtain⟨i,oi,hi,ri⟩:=hO
  by_cases e:i=id
  ·subst e
   simp[kC] at hi;subst hi;have:=D0 b ri;omega
  ·simp only[kC,if_neg e] at hi
   exact⟨i,oi,hi,hold i oi b e ri⟩
 ·by_cases e:i=id
  ·subst e;exact .inr im
  ·rw[LV i e] at hn;exact .inl hn
 ·by_cases e:SB+g=id
  ·subst e;rw[im] at hg;cases hg
  ·simp only[kC,if_neg e];exact hg
end AM
namespace AM
open Go
variable {α:Type}{P:Program}{base:Nat}
def Ad (op:BinOp)(b:Bool):Bool:=match op with| .eql=>b|_=>!b
theorem kI.s8 {N:Names}{D:Nat->Prop}{w:World}{st:St}{a:Act}(s:kI N D w base st a){x:Operand}{v:Value}(h:st.ev x= .val v):a.eval x=v:=by
 have:=s.F6 x;rw[h] at this;exact eE.1 this
theorem kI.uI {N:Names}{D:Nat->Prop}{w:World}{st:St}{a:Act}(s:kI N D w base st a){x:Operand}{v:AV}(h:st.ev x=v):cp N D w v (a.eval x):=h▸s.F6 x
theorem oN {t:TypeId}{x y:Value}{b:Bool}{w:World}(h:(Op.equalIn (9999+1) t x y).run P w= .ok b w):(Op.equal t x y).run P w= .ok b w:=h
section
variable {t:TypeId}{w:World}(d:Nat)
theorem HV (hu:P.underlying t=some .bool)(a b:Bool):(Op.equalIn (d+1) t (.bool a) (.bool b)).run P w= .ok (a==b) w:=by simp[Op.equalIn,run_underlying hu]
theorem rp {e:TypeId}(hu:P.underlying t=some (.pointer e))(b:Option Addr):(Op.equalIn (d+1) t (.pointer none) (.pointer b)).run P w= .ok b.isNone w:=by simp[Op.equalIn,run_underlying hu]
theorem Ae {e:TypeId}(hu:P.underlying t=some (.pointer e))(b:Addr):(Op.equalIn (d+1) t (.pointer (some b)) (.pointer none)).run P w= .ok false w:=by simp[Op.equalIn,run_underlying hu]
theorem HW {e:TypeId}(hu:P.underlying t=some (.slice e))(a:Option Addr)(n m n' m':Nat):(Op.equalIn (d+1) t (.slice a n m) (.slice none n' m')).run P w= .ok a.isNone w:=by cases a<;>simp[Op.equalIn,run_underlying hu]
theorem HX {e:TypeId}(hu:P.underlying t=some (.slice e))(n m n' m':Nat):(Op.equalIn (d+1) t (.slice none n m) (.slice none n' m')).run P w= .ok true w:=by simp[Op.equalIn,run_underlying hu]
end
theorem su {op:BinOp}{t:TypeId}{x y:Value}{b:Bool}{w:World}(vD:op= .eql\/op= .neq)(hx: ∀k n,x≠ .int k n)(hf: ∀k n,x≠ .float k n)(hcx: ∀k n m,x≠ .complex k n m)(hs: ∀s,x≠ .string s)
  (h:(Op.equal t x y).run P w= .ok b w):(Go.binOp op t x y).run P w= .ok (.bool (Ad op b)) w:=by
 rcases vD with rfl|rfl<;>cases x<;>first
  |(exfalso;first|exact hx _ _ rfl|exact hf _ _ rfl|exact hcx _ _ _ rfl|exact hs _ rfl)
  |(cases y<;>simp[Go.binOp,h,Ad])
theorem qd {dst ty pos after guard}{op:BinOp}{t yT:TypeId}{x y:Operand}{st:St}{b:Bool}{k:AV->St->Option α}{r:α}(h:Rp st op b k=some r)
  (he: ∀N D w a,kI N D w base st a->(op= .eql\/op= .neq)->(do eqGuard op t x y (a.eval x) (a.eval y);Go.binOp op t (a.eval x) (a.eval y):Sem Value).run P w= .ok (.bool (Ad op b)) w):
  ow P base ⟨dst, .binOp op t x y yT,ty,pos,after,guard⟩ st k r:=by
 unfold Rp at h;split at h
 ·refine⟨_,_,h,lE.pure λN D w a s=>⟨_,?_,eE.2 rfl⟩⟩
  have:=he N D w a s (.inl rfl);simp only[execOp];rw[zd7,this];rfl
 ·refine⟨_,_,h,lE.pure λN D w a s=>⟨_,?_,eE.2 rfl⟩⟩
  have:=he N D w a s (.inr rfl);simp only[execOp];rw[zd7,this];rfl
 ·cases h
theorem sI {t:TypeId}(h:zo P t=true): ∃e,P.underlying t=some (.pointer e):=by
 unfold zo at h;split at h
 ·exact⟨_,‹_›⟩
 ·cases h
theorem sv {t:TypeId}(h:np P t=true): ∃e,P.underlying t=some (.slice e):=by
 unfold np at h;split at h
 ·exact⟨_,‹_›⟩
 ·cases h
theorem LW {s:St}{t:TypeId}{x:AV}{k:Int->Option α}{r:α}(h:JB P s t x k=some r)(hx:(∃te xs,x= .dp te xs)\/(∃i off,x= .tail i off)\/∃i p off len,x= .slice i p off len):
  ∃n:Int,k n=some r/\∀N D w,kp N D w base s.h->∀c,cp N D w x c->∃a m cap,c= .slice a m cap/\(n≠0->a≠none):=by
 rcases hx with⟨te,xs,rfl⟩|⟨i,off,rfl⟩|⟨i,p,off,len,rfl⟩
 ·simp only[JB] at h
  split at h
  ·refine⟨_,h,λN D w S c hc=>?_⟩
   obtain⟨a,cap,h1,h2,h3,_⟩:=uR.1 hc;simp only[zdM] at h1;refine⟨a,_,cap,h1,λhn ha=>hn ?_⟩;have:=h3 ha;simp only[aM] at h2;omega
  ·cases h
 ·simp only[JB] at h
  split at h
  ·rename_i ro t' xs ho
   split at h
   ·refine⟨_,h,λN D w S c hc=>?_⟩
    simp only[cp,AV.isAgg,jJ,an] at hc;obtain⟨nm,h1,h2,h3,h4,h5⟩:=hc;obtain⟨mN,e1,e2,e3,e4,e5,e6⟩:=S.obj i _ ho;rw[h1] at e1;cases e1;cases hb:nm.base with
    |none=>
     rw[hb] at h5;obtain⟨h6,h7⟩:=h5;simp only[zdM] at h7;refine⟨none,0,0,h7,λhn=>absurd ?_ hn⟩;simp only[aM] at e4;omega
    |some a=>
     rw[hb] at h5;obtain⟨u,room,h6,h7,a',cap,h8,_⟩:=h5;simp only[zdM] at h6;exact⟨_,_,_,h6.trans h8,λ_=>by simp⟩
   ·cases h
  ·cases h
 ·simp only[JB] at h
  split at h
  ·refine⟨_,h,λN D w S c hc=>?_⟩
   simp only[cp,AV.isAgg,jJ,an] at hc;obtain⟨nm,h1,hc⟩:=hc;cases hb:nm.base with
   |none=>
    rw[hb] at hc;obtain⟨_,_,h6,_,h7⟩:=hc;simp only[zdM] at h7;exact⟨none,0,0,h7,λhn=>absurd (by omega) hn⟩
   |some a=>
    rw[hb] at hc;simp only at hc;split at hc
    ·obtain⟨_,_,u,room,h6,_,_,a',cap,h8,_⟩:=hc
     simp only[zdM] at h6;exact⟨_,_,_,h6.trans h8,λ_=>by simp⟩
    ·obtain⟨_,_,_,u,room,_,_,_,h6,_,a',cap,h8,_⟩:=hc
     simp only[zdM] at h6;exact⟨_,_,_,h6.trans h8,λ_=>by simp⟩
  ·cases h
theorem PF {op:BinOp}{t:TypeId}{e:TypeId}(hu:P.underlying t=some (.slice e))(vD:op= .eql\/op= .neq)(a:Option Addr)(n c n' c':Nat)(w:World):(Go.binOp op t (.slice a n c) (.slice none n' c')).run P w= .ok (.bool (Ad op a.isNone)) w:=by
 exact su vD (by simp) (by simp) (by simp) (by simp) (oN (HW 9999 hu a n c n' c'))
theorem zu {dst ty pos after guard}{op:BinOp}{t yT:TypeId}{x y:Operand}{st:St}{k:AV->St->Option α}{r:α}{u:AV}{c d:Nat}(h:JC P st op t u k=some r)(e1:st.ev x=u)(e2:st.ev y= .val (.slice none c d))
  (hu:(∃te xs,u= .dp te xs)\/(∃i off,u= .tail i off)\/∃i p off len,u= .slice i p off len):
  ow P base ⟨dst, .binOp op t x y yT,ty,pos,after,guard⟩ st k r:=by
 unfold JC at h;split at h
 ·cases h
 rename_i hs;obtain⟨e,hue⟩:=sv hs;obtain⟨n,h,hlen⟩:=LW (base:=base) h hu;have run: ∀N D w act,kI N D w base st act->(op= .eql\/op= .neq)->∃a m cap,act.eval x= .slice a m cap/\(n≠0->a≠none)/\(do eqGuard op t x y (act.eval x) (act.eval y);Go.binOp op t (act.eval x) (act.eval y):Sem Value).run P w= .ok (.bool (Ad op a.isNone)) w:=by
  intro N D w act s vD;obtain⟨a,m,cap,h1,h2⟩:=hlen N D w s.nG _ (s.uI e1);refine⟨a,m,cap,h1,h2,?_⟩;rw[h1,s.s8 e2];simp only[eqGuard_at_slice,zd7,zd9,zd8];exact PF hue vD a m cap c d w
 split at h
 ·have key: ∀vD:(op= .eql\/op= .neq),k .xG st=some r->ow P base ⟨dst, .binOp op t x y yT,ty,pos,after,guard⟩ st k r:=by
   intro vD h;refine⟨_,_,h,lE.pure λN D w act s=>?_⟩;obtain⟨a,m,cap,_,_,h3⟩:=run N D w act s vD;refine⟨.bool (Ad op a.isNone),?_,by unfold cp;simp only[AV.isAgg,jJ,an];exact⟨_,rfl⟩⟩
   simp only[execOp];rw[zd7,h3];rfl
  split at h
  ·exact key (.inl rfl) h
  ·exact key (.inr rfl) h
  ·cases h
 ·rename_i hn
  refine qd h λN D w act s vD=>?_;obtain⟨a,m,cap,_,h2,h3⟩:=run N D w act s vD;have ha:a≠none:=h2 λe=>by rw[kZ.2 e] at hn;cases hn
  cases a with
  |none=>exact absurd rfl ha
  |some a=>exact h3
theorem HY {N:Names}{D:Nat->Prop}{w:World}{g n c:Nat}{v:Value}(h:cp N D w (.rf g n c) v):(n=0/\v= .pointer none)\/(n≠0/\∃a,v= .pointer (some a)):=by
 unfold cp at h;simp only[AV.isAgg,jJ,an,xO] at h;cases n with
 |zero=>simp only[zdM] at h;exact .inl ⟨rfl,h⟩
 |succ k=>
  obtain⟨_,_,_,_,_,h⟩:=h;simp only[zdM] at h;exact .inr ⟨by simp,_,h⟩
theorem Oa {p:Prop}(h: ¬p):af p=false:=by
 cases e:af p with
 |false=>rfl
 |true=>exact absurd (kZ.1 e) h
theorem RY {dst ty pos after guard}{op:BinOp}{t yT:TypeId}{x y:Operand}{st:St}{k:AV->St->Option α}{r:α}(h:RG P st op t (st.ev x) (st.ev y) k=some r)
  (zcy: ∀b,Vi P t (st.ev x) (st.ev y)=some b->∀N D w a,kI N D w base st a->(op= .eql\/op= .neq)->(do eqGuard op t x y (a.eval x) (a.eval y);Go.binOp op t (a.eval x) (a.eval y):Sem Value).run P w= .ok (.bool (Ad op b)) w):
  ow P base ⟨dst, .binOp op t x y yT,ty,pos,after,guard⟩ st k r:=by
 unfold RG at h;split at h
 ·rename_i ka a kb b e1 e2
  exact RU e1 e2 h
 ·rename_i a b e1 e2
  split at h
  ·rename_i hu
   refine qd h λN D w act s vD=>?_;rw[s.s8 e1,s.s8 e2];simp only[eqGuard_at_bool,zd7,zd9,zd8];exact su vD (by simp) (by simp) (by simp) (by simp) (oN (HV 9999 hu a b))
  ·cases h
 ·rename_i a b e1 e2
  refine qd h λN D w act s vD=>?_;rw[s.s8 e1,s.s8 e2];simp only[eqGuard_at_string,zd7,zd9,zd8];rcases vD with rfl|rfl<;>simp[Go.binOp,Op.stringOp,JA,Ad]
 ·rename_i e1 e2
  split at h
  ·rename_i hp
   obtain⟨e,hu⟩:=sI hp;refine qd h λN D w act s vD=>?_;rw[s.s8 e1,s.s8 e2];simp only[eqGuard_at_pointer,zd7,zd9,zd8];exact su vD (by simp) (by simp) (by simp) (by simp) (oN (rp 9999 hu none))
  ·cases h
 ·rename_i e1 e2
  split at h
  ·rename_i hp
   obtain⟨e,hu⟩:=sv hp;refine qd h λN D w act s vD=>?_;rw[s.s8 e1,s.s8 e2];simp only[eqGuard_at_slice,zd7,zd9,zd8];exact su vD (by simp) (by simp) (by simp) (by simp) (oN (HX 9999 hu _ _ _ _))
  ·cases h
 ·rename_i id p e1 e2
  split at h
  ·rename_i hp
   obtain⟨e,hu⟩:=sI hp;refine qd h λN D w act s vD=>?_;obtain⟨nm,a,o,_,_,_,e3⟩:=jC.1 (s.uI e1);rw[e3,s.s8 e2];simp only[eqGuard_at_pointer,zd7,zd9,zd8];exact su vD (by simp) (by simp) (by simp) (by simp) (oN (Ae 9999 hu _))
  ·cases h
 ·rename_i id p e1 e2
  split at h
  ·rename_i hp
   obtain⟨e,hu⟩:=sI hp;refine qd h λN D w act s vD=>?_;obtain⟨nm,a,o,_,_,_,e3⟩:=jC.1 (s.uI e2);rw[e3,s.s8 e1];simp only[eqGuard_at_pointer,zd7,zd9,zd8];exact su vD (by simp) (by simp) (by simp) (by simp) (oN (rp 9999 hu (some _)))
  ·cases h
 ·rename_i g n c e1 e2
  split at h
  ·rename_i hp
   obtain⟨e,hu⟩:=sI hp;refine qd h λN D w act s vD=>?_;rcases HY (s.uI e1) with⟨hn,e3⟩|⟨hn,ad,e3⟩
   ·rw[e3,s.s8 e2,kZ.2 hn]
    simp only[eqGuard_at_pointer,zd7,zd9,zd8];exact su vD (by simp) (by simp) (by simp) (by simp) (oN (rp 9999 hu none))
   ·rw[e3,s.s8 e2,Oa hn]
    simp only[eqGuard_at_pointer,zd7,zd9,zd8];exact su vD (by simp) (by simp) (by simp) (by simp) (oN (Ae 9999 hu _))
  ·cases h
 ·rename_i g n c e1 e2
  split at h
  ·rename_i hp
   obtain⟨e,hu⟩:=sI hp;refine qd h λN D w act s vD=>?_;rcases HY (s.uI e2) with⟨hn,e3⟩|⟨hn,ad,e3⟩
   ·rw[e3,s.s8 e1,kZ.2 hn]
    simp only[eqGuard_at_pointer,zd7,zd9,zd8];exact su vD (by simp) (by simp) (by simp) (by simp) (oN (rp 9999 hu none))
   ·rw[e3,s.s8 e1,Oa hn]
    simp only[eqGuard_at_pointer,zd7,zd9,zd8];exact su vD (by simp) (by simp) (by simp) (by simp) (oN (rp 9999 hu (some _)))
  ·cases h
 ·rename_i te xs c d e1 e2
  exact zu h e1 e2 (.inl ⟨_,_,rfl⟩)
 ·rename_i i off c d e1 e2
  exact zu h e1 e2 (.inr (.inl ⟨_,_,rfl⟩))
 ·rename_i i p off len c d e1 e2
  exact zu h e1 e2 (.inr (.inr ⟨_,_,_,_,rfl⟩))
 ·split at h
  ·rename_i b hb
   exact qd h λN D w act s vD=>zcy b hb N D w act s vD
  ·cases h
theorem zc {t:TypeId}{f off:Nat}(h:xI P t f=some off): ∃fs fd,P.underlying t=some (.struct fs)/\fs[f]?=some fd/\P.cellsOf fd.type≠0/\fd.offset=off:=by
 unfold xI at h;split at h
 ·rename_i fs hu
  split at h
  ·rename_i fd hf
   split at h
   ·cases h
   ·exact⟨fs,fd,hu,hf,‹_›,Option.some.inj h⟩
  ·cases h
 ·cases h
theorem F9 {t:TypeId}(h:P.cellsOf t≠0): ∃i,P.info? t=some i:=by
 unfold Program.cellsOf at h;cases e:P.info? t with
 |none=>simp[e] at h
 |some i=>exact⟨i,rfl⟩
theorem xV {t:TypeId}{f off:Nat}(h:xI P t f=some off){a:Addr}(ha:a.spot=none)(w:World):(Instr.fieldAt t (.pointer (some a)) f).run P w= .ok (.pointer (some (Addr.at_ a off))) w:=by
 obtain⟨fs,fd,hu,hf,hc,ho⟩:=zc h;obtain⟨i,hi⟩:=F9 hc;obtain⟨b,o,sp⟩:=a;simp only at ha;subst ha;simp only[Instr.fieldAt,zd7,run_underlying hu,zd8,hf,Instr.sureAddr,zd9,fieldPlace,run_sizeOf w hi,hc,if_false,oH,ho,Addr.at_]
theorem oe {s:St}{id:Nat}{p:List Step}{sh:Sh}(h:s.shape id p=some sh){N:Names}{D:Nat->Prop}{w:World}{base:Nat}(S:kp N D w base s.h){nm:Nm}(hn:N id=some nm):nm.Ln p=some sh:=by
 unfold St.shape at h;split at h
 ·rename_i v ho
  obtain⟨mN,a,h1,h2,h3,h4,_⟩:=S.obj id _ ho;rw[hn] at h1;cases h1;unfold Nm.Ln;rw[h3,h4];exact h
 ·rename_i ro t xs ho
  obtain⟨mN,h1,h2,h3,_⟩:=S.obj id _ ho;rw[hn] at h1;cases h1;unfold Nm.Ln;rw[h2,h3];simp only[if_true];split at h
  ·exact h
  ·cases h
 ·cases h
theorem rq: ∀(p:List Step) (s:Sh) (o:Nat) (l:List Sh) (n:Nat),fX p s=some o->zW p s=some (.agg l)->n<l.length->fX (p++ [.iH n]) s=some (o+Sh.dK (l.take n))
 | [],s,o,l,n,h1,h2,h3=>by
  simp only[fX,zW,zdM] at h1 h2;subst h1;subst h2;simp[fX,zdL h3]
 | .iH m::p,s,o,l,n,h1,h2,h3=>by
  cases s<;>simp only[fX,zW] at h1 h2<;>try (cases h1;done)
  rename_i l';cases hl:l'[m]? with
  |none=>simp[hl] at h1
  |some y=>
   simp only[hl] at h1 h2;cases h5:fX p y with
   |none=>simp[h5] at h1
   |some o2=>
    simp only[h5,zdV,zdM] at h1;have:=rq p y o2 l n h5 h2 h3;simp only[zel,fX,hl,this,zdV];congr 1;omega
 | .idx i::p,s,o,l,n,h1,h2,h3=>by
  cases s<;>simp only[fX,zW] at h1 h2<;>try (cases h1;done)
  rename_i m e;by_cases hi:i<m
  ·simp only[hi,if_true] at h1
   cases h5:fX p e with
   |none=>simp[h5] at h1
   |some o2=>
    simp only[h5,zdV,zdM] at h1;have:=rq p e o2 l n h5 h2 h3;simp only[zel,fX,hi,if_true,this,zdV];congr 1;omega
  ·simp only[hi,if_false] at h1;cases h1
theorem rr: ∀(p:List Step) (s:Sh) (o:Nat) (m i:Nat) (e:Sh),fX p s=some o->zW p s=some (.arr m e)->i<m->fX (p++ [.idx i]) s=some (o+i*e.size)
 | [],s,o,m,i,e,h1,h2,h3=>by
  simp only[fX,zW,zdM] at h1 h2;subst h1;subst h2;simp[fX,h3]
 | .iH k::p,s,o,m,i,e,h1,h2,h3=>by
  cases s<;>simp only[fX,zW] at h1 h2<;>try (cases h1;done)
  rename_i l';cases hl:l'[k]? with
  |none=>simp[hl] at h1
  |some y=>
   simp only[hl] at h1 h2;cases h5:fX p y with
   |none=>simp[h5] at h1
   |some o2=>
    simp only[h5,zdV,zdM] at h1;have:=rr p y o2 m i e h5 h2 h3;simp only[zel,fX,hl,this,zdV];congr 1;omega
 | .idx j::p,s,o,m,i,e,h1,h2,h3=>by
  cases s<;>simp only[fX,zW] at h1 h2<;>try (cases h1;done)
  rename_i m' e';by_cases hi:j<m'
  ·simp only[hi,if_true] at h1
   cases h5:fX p e' with
   |none=>simp[h5] at h1
   |some o2=>
    simp only[h5,zdV,zdM] at h1;have:=rr p e' o2 m i e h5 h2 h3;simp only[zel,fX,hi,if_true,this,zdV];congr 1;omega
  ·simp only[hi,if_false] at h1;cases h1
theorem tI {nm:Nm}{p:List Step}{o:Nat}{l:List Sh}{n:Nat}(h1:nm.off p=some o)(h2:nm.Ln p=some (.agg l))(h3:n<l.length):
  nm.off (p++ [.iH n])=some (o+Sh.dK (l.take n)):=by
 cases hr:nm.row with
 |false=>
  simp only[Nm.Ln,hr] at h2;have e: ∀p,nm.off p=fX p nm.sh:=by intro p;unfold Nm.off;split<;>simp[hr]
  rw[e] at h1⊢;exact rq p _ o l n h1 h2 h3
 |true=>
  simp only[Nm.Ln,hr,if_true] at h2;split at h2
  ·rename_i i p'
   simp only[Nm.off,hr,if_true,zel] at h1⊢;by_cases hi:i<nm.len
   ·simp only[hi,if_true] at h1⊢
    cases h5:fX p' nm.sh with
    |none=>simp[h5] at h1
    |some o2=>
     simp only[h5,zdV,zdM] at h1;rw[rq p' _ o2 l n h5 h2 h3];simp only[zdV];congr 1;omega
   ·simp only[hi,if_false] at h1;cases h1
  ·cases h2
theorem D5 {dst ty pos after guard}{t:TypeId}{x:Operand}{f:Nat}{st:St}{k:AV->St->Option α}{r:α}(h:xJ P st t (st.ev x) f k=some r):ow P base ⟨dst, .fieldAddr t x f,ty,pos,after,guard⟩ st k r:=by
 unfold xJ at h;split at h
 ·rename_i i p off e1 e2
  split at h
  ·refine⟨_,_,h,lE.pure λN D w a s=>?_⟩
   obtain⟨nm,ad,o,h1,h2,h3,h4⟩:=jC.1 (s.uI e1);refine⟨.pointer (some (Addr.at_ (Addr.at_ ad o) off)),by simp only[execOp,h4,zd7,xV (a:=Addr.at_ ad o) e2 rfl,zd8,zd9],?_⟩
   unfold cp;simp only[AV.isAgg,jJ,an];exact⟨nm,ad,o,h1,h2,h3,by simp only[Addr.at_,zd1]⟩
  ·split at h
   ·rename_i fs hs
    split at h
    ·rename_i hd
     simp only[zdU] at hd;refine⟨_,_,h,lE.pure λN D w a s=>?_⟩;obtain⟨nm,ad,o,h1,h2,h3,h4⟩:=jC.1 (s.uI e1);have yS:=oe hs s.nG h1;refine⟨.pointer (some (Addr.at_ (Addr.at_ ad o) off)),by simp only[execOp,h4,zd7,xV (a:=Addr.at_ ad o) e2 rfl,zd8,zd9],jC.2 ⟨nm,ad,_,h1,h2,tI h3 yS hd.2,?_⟩⟩
     simp only[Addr.at_,hd.1,zd1]
    ·cases h
   ·cases h
 ·rename_i fs off e1 e2
  split at h
  ·rename_i hd
   simp only[zdU] at hd;split at h
   ·rename_i v hv
    refine⟨_,_,h,lE.pure λN D w a s=>?_⟩;obtain⟨ad,h1,h2,h3,h4⟩:=qL.1 (s.uI e1);refine⟨.pointer (some (Addr.at_ ad off)),by simp only[execOp,h1,zd7,xV e2 h2,zd8,zd9],qL.2 ⟨_,rfl,rfl,h3,?_⟩⟩
    simp only[an] at h4;refine mF (qJ fs f v _ hv h4) (λj=>?_);simp only[aX,Addr.at_,hd,zd1]
   ·cases h
  ·cases h
 ·cases h
theorem PG {dst ty pos after guard}{t:TypeId}{x:Operand}{st:St}{k:AV->St->Option α}{r:α}(h:LD P st t (st.ev x) k=some r):ow P base ⟨dst, .load t x,ty,pos,after,guard⟩ st k r:=by
 unfold LD at h;split at h
 ·rename_i i p e1
  obtain⟨v,h1,_,h3⟩:=pN h;split at h1
  ·rename_i hf
   refine⟨_,_,h1,lE.pure λN D w a s=>?_⟩;obtain⟨nm,ad,o,g1,g2,g3,g4⟩:=jC.1 (s.uI e1);obtain⟨g5,g6,_⟩:=h3 N D w base s.nG nm ad o g1 g2 g3;obtain⟨c,g7,g8⟩:=DY (P:=P) (ad:=Addr.at_ ad o) rfl hf (mF g6 (λj=>by simp only[aX,Addr.at_,zd1]))
   exact⟨c,by simp only[execOp,g4,zd7,g7,zd8,zd9],g8⟩
  ·cases h1
 ·rename_i v e1
  split at h
  ·rename_i hf
   refine⟨_,_,h,lE.pure λN D w a s=>?_⟩;obtain⟨ad,h1,h2,h3,h4⟩:=qL.1 (s.uI e1);obtain⟨c,g7,g8⟩:=DY (P:=P) h2 hf h4;exact⟨c,by simp only[execOp,h1,zd7,g7,zd8,zd9],g8⟩
  ·cases h
 ·cases h
end AM
namespace AM
open Go
variable {α:Type}{P:Program}{base:Nat}
theorem jO (b:Nat): ∀(vs:List Value) (o:Nat) (w:World),(w.setCells b o vs).heap.size=w.heap.size
 | [],_,_=>rfl
 |v::r,o,w=>by rw[World.setCells,jO b r];simp[World.setCell]
theorem kL (b:Nat): ∀(vs:List Value) (o:Nat) (w:World) (b':Nat),b'≠b->(w.setCells b o vs).heap[b']?=w.heap[b']?
 | [],_,_,_,_=>rfl
 |v::r,o,w,b',h=>by
  rw[World.setCells,kL b r _ _ b' h];simp only[World.setCell,zem];rw[if_neg (by simpa using Ne.symm h)]
theorem ll (b:Nat): ∀(vs:List Value) (o:Nat) (w:World),(w.setCells b o vs).os=w.os/\(w.setCells b o vs).tape=w.tape/\(w.setCells b o vs).output=w.output
 | [],_,_=>⟨rfl,rfl,rfl⟩
 |v::r,o,w=>by
  obtain⟨h1,h2,h3⟩:=ll b r (o+1) (w.setCell ⟨b,o,none⟩ v);exact⟨by rw[World.setCells,h1];rfl,by rw[World.setCells,h2];rfl,by rw[World.setCells,h3];rfl⟩
theorem js (b:Nat): ∀(vs:List Value) (o:Nat) (w:World) (c:Array Value) (ty:TypeId) (fz:Nat×Nat),w.heap[b]?=some (.cells c ty fz)->∃c',(w.setCells b o vs).heap[b]?=some (.cells c' ty fz)/\c'.size=c.size
 | [],_,_,c,ty,fz,h=>⟨c,h,rfl⟩
 |v::r,o,w,c,ty,fz,h=>by
  have h1:(w.setCell ⟨b,o,none⟩ v).heap[b]?=some (.cells (c.setIfInBounds o v) ty fz):=by
   simp[World.setCell,zem,h]
  obtain⟨c',h2,h3⟩:=js b r (o+1) _ _ ty fz h1;exact⟨c',h2,by rw[h3];simp⟩
theorem jk {w:World}{b o:Nat}{c:Array Value}{ty:TypeId}{fz:Nat×Nat}(h:w.heap[b]?=some (.cells c ty fz))(ho:o<c.size):(w.cell? ⟨b,o,none⟩).isSome=true:=by
 simp[World.cell?,h,ho]
theorem wF {w:World}{b o:Nat}{c:Array Value}{ty:TypeId}{fz:Nat×Nat}(h:w.heap[b]?=some (.cells c ty fz))(hz:fz=(0,0)\/c.size<=fz.1)(ho:o<c.size):w.frozen? ⟨b,o,none⟩=false:=by
 obtain⟨lo,hi⟩:=fz;simp only[World.frozen?,h];rcases hz with hz|hz
 ·cases hz;simp
 ·simp only at hz
  have: ¬lo<=o:=by omega
  simp[this]
theorem uh {N:Names}{D:Nat->Prop}{w:World}{u:AV}{c:Value}(hs:u.nF=true)(h:cp N D w u c):c.cells.size=u.size/\an N D w u (c.cells[·]?)/\∀x∈c.cells.toList,x.oneCell'=true:=by
 unfold cp at h;cases FX:u.isAgg with
 |true=>
  rw[FX] at h;obtain⟨cs,rfl,h2,h3⟩:=h;refine⟨h2,h3,λx hx=>?_⟩;change x∈cs.toList at hx;obtain⟨j,hj,rfl⟩:=zen hx;have Ch:j<cs.size:=by simpa using hj
  obtain⟨y,h4,h5⟩:=sH u _ hs h3 j (by omega)
  simp only[zeo Ch,zdM] at h4;subst h4;simpa using h5
 |false=>
  rw[FX] at h;have hsz:=rl hs FX;obtain⟨y,h4,h5⟩:=sH u _ hs h 0 (by omega)
  simp only[zdM] at h4;subst h4;have hc:c.cells= #[c]:=by cases c<;>first|rfl|(simp[Value.oneCell'] at h5;done)
  rw[hc];refine⟨by simp[hsz],ke u _ _ (λj hj=>?_) h,λx hx=>by simp at hx;subst hx;exact h5⟩
  obtain rfl:j=0:=by omega
  simp
theorem JJ {t:TypeId}{u:AV}{ad:Addr}{c:Value}{w:World}{N:Names}{D:Nat->Prop}(ha:ad.spot=none)(hf:sD P t u=true)(hv:cp N D w u c){cs:Array Value}{ty:TypeId}{fz:Nat×Nat}(hb:w.heap[ad.block]?=some (.cells cs ty fz))(hz:fz=(0,0)\/cs.size<=fz.1)(hsz:ad.off+u.size<=cs.size):
  (Instr.storeAt t (.pointer (some ad)) c).run P w= .ok () (w.setCells ad.block ad.off c.cells.toList):=by
 obtain⟨hs,_,h2,d,hd⟩:=rU hf;obtain⟨i,hi⟩:=info_of_underlying hd;obtain⟨h3,_,h5⟩:=uh hs hv;obtain⟨b,o,sp⟩:=ad;simp only at ha;subst ha;simp only[Instr.storeAt,Instr.sureAddr,zd7,zd9,zd8,storeVar,run_sizeOf w hi];rw[if_neg (by rw[h3,h2];simp)]
 have:=run_storeCells_cells (P:=P) b o c.cells.toList 0 w (λj hj=>by
   refine jk hb ?_;simp at hj;simp only at hsz;omega) (λj hj=>wF hb hz (by simp at hj;simp only at hsz;omega)) h5
 simpa using this
theorem xW {s:St}{id:Nat}{p:List Step}{u:AV}{k:St->Option α}{r:α}(h:s.store id p u k=some r)(zaH:u.nF=true):
  ∃s',k s'=some r/\s'.t=s.t/\s'.nt=s.nt/\s'.ep=s.ep/\(∀j,j≠id->j∉u.ids->s'.h j=s.h j)/\∀N D w base,kp N D w base s.h->∀nm a o c,N id=some nm->nm.base=some a->nm.off p=some o->cp N D w u c->
   a.spot=none/\(∃cs ty fz,w.heap[a.block]?=some (.cells cs ty fz)/\(fz=(0,0)\/cs.size<=fz.1)/\a.off+o+u.size<=cs.size)/\
   ∃D',kp N D' (w.setCells a.block (a.off+o) c.cells.toList) base s'.h/\Ext N D w s.h N D' (w.setCells a.block (a.off+o) c.cells.toList) s'.h:=by
 unfold St.store at h;split at h
 ·rename_i v ho
  obtain⟨v',h1,h2,h3,h4⟩:=wD p u v _ r h;refine⟨_,h1,rfl,rfl,rfl,λj hj _=>by simp[St.set,hj],λN D w base S nm a o c hn hb nJ hc=>?_⟩
  obtain⟨mN,a',e1,e2,e3,e4,e5,e6,e7,e8,⟨cs,ty,e9,xE⟩,Ob⟩:=S.obj id _ ho;rw[hn] at e1;cases e1;rw[hb] at e2;cases e2;have hof:fX p v.sh=some o:=by
   have:nm.off p=fX p nm.sh:=by unfold Nm.off;split<;>simp[e3]
   rw[this,e4] at nJ;exact nJ
  have xF:=Ac p v.sh o u.sh hof h3;rw[la,la] at xF;obtain⟨g1,g2,g3⟩:=uh zaH hc;have hlen:c.cells.toList.length=u.size:=by simpa using g1
  refine⟨e5,⟨cs,ty,_,e9, .inl rfl,by omega⟩,D,?_⟩
  obtain⟨tS,f1,f2⟩:=js a.block c.cells.toList (a.off+o) w cs ty _ e9;obtain⟨o1,o2,o3⟩:=ll a.block c.cells.toList (a.off+o) w;have hD: ∀b,D b->(w.setCells a.block (a.off+o) c.cells.toList).heap[b]?=w.heap[b]?:=λb vC=>kL _ _ _ _ _ (λe=>e8 (e▸vC));rw[St.tz];refine S.write ho rfl hn hb o1 o2 o3 (jO _ _ _ _) (λb mb=>kL _ _ _ _ _ mb) ?_;refine⟨nm,a,hn,hb,e3,by rw[e4,h2],e5,e6,e7,e8,⟨tS,ty,f1,by rw[f2,xE,<-la,<-la,h2]⟩,?_⟩
  refine qA (Names.le_refl _) (λ_ h=>h) hD v' _ ?_;refine h4 N D w base S (aX w a) _ o Ob hof (λj hj=>?_) ?_
  ·simp only[aX]
   exact World.cell?_setCells_out _ _ _ _ _ (λ_ _=>by simp only;rw[hlen];omega)
  ·refine ke u _ _ (λj hj=>?_) g2
   have Ch:j<c.cells.toList.length:=by omega
   have:=World.cell?_setCells_in a.block c.cells.toList (a.off+o) w (λj hj=>jk e9 (by rw[hlen] at hj;omega)) j Ch
   simp only[aX];rw[show a.off+(o+j)=a.off+o+j by omega,this]
   simp at Ch⊢
 ·rename_i t xs ho
  split at h
  ·rename_i i p'
   split at h
   ·rename_i x hx
    obtain⟨v',h1,h2,h3,h4⟩:=wD p' u (enc t x) _ r h;obtain⟨_,x',ids,h5,h6⟩:=mP t v' _ r h1;split at h5
    ·cases h5
    rename_i Xz;split at h5
    ·rename_i s1 hfz
     obtain⟨z1,z2,z3,z4⟩:=wE ids s s1 hfz;simp only[Bool.or_eq_false_iff,Bool.not_eq_eq_eq_not,zdK,zep,List.contains_iff_mem] at Xz;obtain⟨Xz,Af⟩:=Xz;have yU: ∀(ids:List Nat) (s s1:St),s.freeze ids=some s1->∀j,j∉ids->s1.h j=s.h j:=by
      intro ids;induction ids with
      |nil=>intro s s1 hz j _;simp only[St.freeze,zdM] at hz;subst hz;rfl
      |cons q l ih=>
       intro s s1 hz j hj;simp only[zeq,not_or] at hj;simp only[St.freeze] at hz;split at hz
       ·rw[ih _ s1 hz j hj.2];simp[St.set,hj.1]
       ·cases hz
     refine⟨_,h5,z1,z2,z3,λj hj YA=>by
      have:=yU ids s s1 hfz j (λhm=>YA (Af j hm));simp[St.set,hj,this],λN D w base S nm a o c hn hb nJ hc=>?_⟩
     obtain⟨mN,e1,e2,e3,e4,e5,e6⟩:=S.obj id _ ho;rw[hn] at e1;cases e1;rw[hb] at e6;obtain⟨e7,⟨cs,ty,fz,e8,e9,xE⟩,Ob,Oc⟩:=e6;replace xE:=xE rfl
     simp only[zdN,if_false] at Ob;simp only[Nm.off,e2,if_true] at nJ;by_cases hi:i<nm.len
     ·simp only[hi,if_true] at nJ
      cases na:fX p' nm.sh with
      |none=>simp[na] at nJ
      |some o'=>
       simp only[na,zdV,zdM] at nJ;rw[e3,iT] at nJ;subst nJ;have zcz:fX p' (enc t x).sh=some o':=by rw[rS,<-e3];exact na
       have xF:=Ac p' (sC t) o' u.sh (by rw[<-e3];exact na) (by rw[<-rS t x];exact h3)
       rw[la,iT] at xF;have Ga:(i+1)*t.size<=nm.cap*t.size:=zdZ _ (by omega)
       rw[zd0] at Ga;obtain⟨g1,g2,g3⟩:=uh zaH hc;have hlen:c.cells.toList.length=u.size:=by simpa using g1
       refine⟨e7,⟨cs,ty,fz,e8,xE.imp_right And.left,by omega⟩,?_⟩
       generalize Vm:w.setCells a.block (a.off+(i*t.size+o')) c.cells.toList=w';obtain⟨tS,f1,f2⟩:=js a.block c.cells.toList (a.off+(i*t.size+o')) w cs ty _ e8;obtain⟨o1,o2,o3⟩:=ll a.block c.cells.toList (a.off+(i*t.size+o')) w;have UW:=jO a.block c.cells.toList (a.off+(i*t.size+o')) w;have one:=kL a.block c.cells.toList (a.off+(i*t.size+o')) w;have jD: ∀j,(j<i*t.size+o'\/i*t.size+o'+u.size<=j)->aX w' a j=aX w a j:=by
        intro j hj;simp only[aX,<-Vm];exact World.cell?_setCells_out _ _ _ _ _ (λ_ _=>by simp only;rw[hlen];omega)
       have Bm:an N D w u (λj=>aX w' a (i*t.size+o'+j)):=by
        refine ke u _ _ (λj hj=>?_) g2;have Ch:j<c.cells.toList.length:=by omega
        have:=World.cell?_setCells_in a.block c.cells.toList (a.off+(i*t.size+o')) w (λj hj=>jk e8 (by rw[hlen] at hj;omega)) j Ch
        simp only[aX,<-Vm];rw[show a.off+(i*t.size+o'+j)=a.off+(i*t.size+o')+j by omega,this]
        simp at Ch⊢
       rw[Vm] at f1 o1 o2 o3 UW one;obtain⟨D',d1,d2,d3,d4⟩:=z4 N D w base S;have YB:=h4 N D w base S (λj=>aX w a (i*t.size+j)) (λj=>aX w' a (i*t.size+j)) o' ((kV t x _).2 (Oc i x hx)) zcz (λj hj=>jD _ (by omega)) (mF Bm (λj=>by rw[zd1]))
       have Cf:=h6 N D w base S _ YB D' d1 d2;have ho1:s1.h id=some (.row false t xs):=by
        rw[yU ids s s1 hfz id (by simpa using Xz)];exact ho
       have XA:True:=trivial;refine⟨D',?_⟩;have hnd: ¬D' a.block:=(d3.ug ⟨id,_,ho1,jd.of rfl hn hb⟩).1;have hDw: ∀b,D' b->w'.heap[b]?=w.heap[b]?:=λb vC=>one b (λe=>hnd (e▸vC));rw[St.tz];have:=d3.write (o':= .row false t (xs.set i x')) ho1 rfl hn hb o1 o2 o3 UW (λb mb=>one b mb) ?_
       ·exact⟨this.1,d4.trans this.2⟩
       ·refine⟨nm,hn,e2,e3,by rw[e4];simp[aM],e5,?_⟩
        rw[hb];refine⟨e7,⟨tS,ty,_,f1,by rw[f2];exact e9,λ_=>by rw[f2];exact xE⟩,by simp;exact⟨Ob.1,hnd⟩,λi' y hy=>?_⟩
        by_cases UT:i=i'
        ·subst UT
         have lj:i<(show List t.den from xs).length:=(List.getElem?_eq_some_iff.1 hx).1
         simp only[ko,List.getElem?_set_self lj,zdM] at hy;subst hy;exact kK (Names.le_refl _) (λ_ h=>h) hDw _ _ _ Cf
        ·simp only[ko,zek UT] at hy
         refine kK (Names.le_refl _) (λ_ h=>h) hDw _ _ _ (jv t y _ _ (λj hj=>(jD _ ?_).symm) (kK (Names.le_refl _) d1 (λ_ _=>rfl) _ _ _ (Oc i' y hy)));rcases Nat.lt_or_gt_of_ne UT with lj|lj
         ·right
          have:(i+1)*t.size<=i'*t.size:=zdZ _ lj;rw[zd0] at this;omega
         ·left
          have:(i'+1)*t.size<=i*t.size:=zdZ _ lj;rw[zd0] at this;omega
     ·simp only[hi,if_false] at nJ;cases nJ
    ·cases h5
   ·cases h
  ·cases h
 ·cases h
end AM
namespace AM
open Go
variable {α:Type}{P:Program}{base:Nat}
theorem LX {dst ty pos after guard}{t:TypeId}{x y:Operand}{st:St}{k:AV->St->Option α}{r:α}(h:HF P st t (st.ev x) (st.ev y) k=some r):ow P base ⟨dst, .store t x y,ty,pos,after,guard⟩ st k r:=by
 unfold HF at h;split at h
 ·rename_i i p e1
  split at h
  ·rename_i hf
   obtain⟨s',h1,h2,h3,h4,Jr,h5⟩:=xW h (rU hf).1;refine⟨_,_,h1,h2,h3,h4,λj hj _=>Jr j (λe=>hj (by simp[N0,e1,vH,e])) (λe=>hj (by simp[N0,e])),λN D w a s=>?_⟩
   obtain⟨nm,ad,o,g1,g2,g3,g4⟩:=jC.1 (s.uI e1);have hv:=s.F6 y;obtain⟨g5,⟨cs,LY,fz,g6,g6z,g7⟩,D',g8,g9⟩:=h5 N D w base s.nG nm ad o _ g1 g2 g3 hv;have e5:=JJ (P:=P) (ad:=Addr.at_ ad o) rfl hf hv g6 g6z (by simpa [Addr.at_] using g7)
   refine⟨N,D',_,Go.undef, .inr ⟨?_,rfl⟩,g9,g8,eE.2 rfl⟩;simp only[execOp,g4];rw[zd7,e5];rfl
  ·cases h
 ·cases h
theorem HZ {s:St}{id:Nat}{v:AV}{k:St->Option α}{r:α}(h:s.new id (.var v) k=some r):
  ∃s',k s'=some r/\s'.t=s.t/\s'.nt=s.nt/\s'.ep=s.ep/\(∀j,j≠id->s'.h j=s.h j)/\∀N D w base,kp N D w base s.h->∀(cells:Array Value) (ty:TypeId),cells.size=v.size->an N D w v (cells[·]?)->
   ∃N',kp N' D (w.alloc (.cells cells ty)) base s'.h/\Ext N D w s.h N' D (w.alloc (.cells cells ty)) s'.h/\cp N' D (w.alloc (.cells cells ty)) (.ptr id []) (.pointer (some ⟨w.heap.size,0,none⟩)):=by
 unfold St.new at h;split at h
 ·rename_i im
  refine⟨_,h,rfl,rfl,rfl,λj hj=>by simp[St.set,hj],λN D w base S cells ty hsz hr=>?_⟩
  have vK:(w.alloc (.cells cells ty)).heap=w.heap.push (.cells cells ty):=rfl;have rn:(w.alloc (.cells cells ty)).heap[w.heap.size]?=some (.cells cells ty (0,0)):=by rw[vK];simp
  have mQ: ∀b,b<w.heap.size->(w.alloc (.cells cells ty)).heap[b]?=w.heap[b]?:=λb hb=>by rw[vK,zer,if_neg (by omega)]
  let nm:Nm:=⟨some ⟨w.heap.size,0,none⟩,v.sh,false,0,0⟩
  have Yy:N id=none:=by
   cases e:N id with
   |none=>rfl
   |some mN=>exact absurd im (S.named id mN e)
  obtain⟨N',n1,n2,n3⟩:=S.make (w':=w.alloc (.cells cells ty)) (o:= .var v) (nm:=nm) im rfl rfl rfl (by rw[vK];simp) mQ (λa ha=>by cases ha;rw[vK];simp) (by
   refine⟨nm,⟨w.heap.size,0,none⟩,Names.Cg,rfl,rfl,rfl,rfl,rfl,S.size,λhd=>Nat.lt_irrefl _ (S.frozen _ hd),⟨cells,ty,rn,hsz⟩,?_⟩;refine qA (Names.RX Yy) (λ_ h=>h) (λb hb=>mQ b (S.frozen b hb)) v _ (ke v _ _ (λj hj=>?_) hr)
   ·unfold aX World.cell?
    rw[rn];simp)
  refine⟨N',by rw[St.tz];exact n2,by rw[St.tz];exact n3,jC.2 ⟨nm,_,0,n1,rfl,by simp[Nm.off,nm,fX],rfl⟩⟩
 ·cases h
theorem ru (ep slot:Nat):name ep slot 0/100=ep*1000+slot:=by
 unfold name;omega
theorem RZ {dst ty pos after guard}{t:TypeId}{x:Operand}{st:St}{id:Nat}(oT:id=name st.ep (dst.getD 999) 0){k:AV->St->Option α}{r:α}(h:RH st id (st.ev x) k=some r):ow P base ⟨dst, .box t x,ty,pos,after,guard⟩ st k r:=by
 unfold RH at h;split at h
 ·rename_i hs
  obtain⟨s',h1,h2,h3,h4,Jr,h5⟩:=HZ h;refine⟨_,_,h1,h2,h3,h4,λj _ hj=>Jr j (λe=>by subst e;subst oT;simp[qI,makes,ru] at hj),λN D w a s=>?_⟩
  obtain⟨g1,g2,_⟩:=uh hs (s.F6 x);obtain⟨N',n1,n2,n3⟩:=h5 N D w base s.nG _ t g1 g2;exact⟨N',D,_,_, .inl (by simp only[execOp,Instr.box,newVar,newRow,zd7,run_newObj,zd8,zd9];rfl),n2,n1,n3⟩
 ·cases h
theorem R0: ∀{x y:Value},veq x y=true->x=y:=by
 intro x y h;unfold veq at h;split at h<;>first
  |(simp only[zdO,zdU] at h;rw[h.1,h.2])
  |(simp at h;rw[h])
  |rfl
  |(rename_i a b;have:a.data.toList=b.data.toList:=(by simpa using h);congr 1;cases a;cases b;congr 1;exact Array.toList_inj.1 this)
  |(cases h;done)
theorem Oe: ∀{l m:List Value},Py l m=true->l=m
 | [],[],_=>rfl
 | [],_::_,h=>by simp[Py] at h
 |_::_,[],h=>by simp[Py] at h
 |x::xs,y::ys,h=>by
  simp only[Py,zdO] at h;rw[R0 h.1,Oe h.2]
end AM
namespace AM
open Go
variable {α:Type}{P:Program}{base:Nat}
theorem flatMap_replicate {β γ:Type}(f:β->List γ)(x:β)(s:Nat)(hs:(f x).length=s): ∀n i j,i<n->j<s->((List.replicate n x).flatMap f)[i*s+j]?=(f x)[j]?
 |0,i,j,h,_=>by omega
 |n+1,0,j,_,hj=>by
  simp only[zes,zet,zeu,zev];rw[zew (by omega)]
 |n+1,i+1,j,hi,hj=>by
  simp only[zes,zet];rw[zex (by rw[hs,zd0];omega)]
  rw[show(i+1)*s+j-(f x).length=i*s+j by rw[hs,zd0];omega]
  exact flatMap_replicate f x s hs n i j (by omega) hj
theorem rL {β γ:Type}(f:β->List γ)(x:β): ∀n,((List.replicate n x).flatMap f).length=n*(f x).length
 |0=>by simp
 |n+1=>by simp[zes,zet,rL f x n,zd0,zey]
theorem ni: ∀t:Ty,(m9 t (iL t)).length=t.size
 | .int _=>rfl| .bool=>rfl| .str=>rfl| .nil=>rfl| .deep _=>rfl| .ref _=>rfl
 | .cons a b=>by simp only[m9,iL,zdP,Ty.size,ni a,ni b]
 | .arr n t=>by
  have:=rL (m9 t) (iL t) n;rw[ni t] at this;exact this
theorem rV {N:Names}{D:Nat->Prop}{w:World}: ∀(t:Ty) (g:Nat->Option Value),(∀j,j<t.size->g j=(m9 t (iL t))[j]?)->iI N D w t (iL t) g
 | .int k,g,h=>h 0 (by simp[Ty.size])
 | .bool,g,h=>h 0 (by simp[Ty.size])
 | .str,g,h=>h 0 (by simp[Ty.size])
 | .nil,g,h=>trivial
 | .deep t,g,h=>⟨none,0,h 0 (by simp[Ty.size]),zd2 _,λ_=>rfl,λad ha=>by cases ha⟩
 | .ref _,g,h=>h 0 (by simp[Ty.size])
 | .cons a b,g,h=>by
  refine⟨rV a g λj hj=>?_,rV b _ λj hj=>?_⟩
  ·rw[h j (by simp only[Ty.size];omega)]
   have e:=zew (l₁:=m9 a (iL a)) (l₂:=m9 b (iL b)) (i:=j) (by rw[ni];exact hj)
   exact e
  ·rw[h _ (by simp only[Ty.size];omega)]
   have:=zex (l₁:=m9 a (iL a)) (l₂:=m9 b (iL b)) (i:=a.size+j) (by rw[ni];omega)
   rw[ni,Nat.add_sub_cancel_left] at this;exact this
 | .arr n t,g,h=>by
  refine⟨zez,λi x hx=>?_⟩;have hi:i<n:=by
   have:=(List.getElem?_eq_some_iff.1 hx).1;simpa [iL] using this
  have Cf:x=iL t:=by
   have h2:(List.replicate n (iL t))[i]?=some x:=hx;rw[zeA,if_pos hi] at h2;exact(Option.some.inj h2).symm
  subst Cf;refine rV t _ λj hj=>?_;have hb:(i+1)*t.size<=n*t.size:=zdZ _ hi;rw[zd0] at hb;rw[h _ (by simp only[Ty.size];omega)]
  exact flatMap_replicate (m9 t) (iL t) t.size (ni t) n i j hi hj
theorem yB (fs:List AV):qZ (.agg fs)=rQ fs:=by simp[qZ]
theorem zaw:True:=trivial
def vL (v:AV):Prop:=(qZ v).length=v.size/\∀(N:Names) (D:Nat->Prop) (w:World) (g:Nat->Option Value),(∀j,j<v.size->g j=(qZ v)[j]?)->an N D w v g
theorem vL.val (x:Value):vL (.val x):=⟨rfl,λN D w g h=>by simp only[an];exact h 0 (by simp[AV.size])⟩
def rW (l:List AV):Prop:=(rQ l).length=AV.dK l/\∀(N:Names) (D:Nat->Prop) (w:World) (g:Nat->Option Value),(∀j,j<AV.dK l->g j=(rQ l)[j]?)->fE N D w l g
theorem rW.cons {v:AV}{l:List AV}(h1:vL v)(h2:rW l):rW (v::l):=by
 refine⟨by simp only[rQ,zdP,AV.dK,h1.1,h2.1],λN D w g h=>?_⟩
 simp only[fE];refine⟨h1.2 N D w g λj hj=>?_,h2.2 N D w _ λj hj=>?_⟩
 ·rw[h j (by simp only[AV.dK];omega)]
  simp only[rQ];exact zew (by rw[h1.1];exact hj)
 ·rw[h _ (by simp only[AV.dK];omega)]
  have:=zex (l₁:=qZ v) (l₂:=rQ l) (i:=v.size+j) (by rw[h1.1];omega)
  rw[h1.1,Nat.add_sub_cancel_left] at this;simpa only[rQ] using this
theorem Ci: ∀(n:Nat) (t:TypeId) (v:AV),zeroOf P n t=some v->vL v
 |0,_,_,h=>by simp[zeroOf] at h
 |n+1,t,v,h=>by
  unfold zeroOf at h;split at h<;>first
   |(simp only[zdM] at h;subst h;exact vL.val _)
   |skip
  ·rename_i fs _
   have key: ∀(l:List Field) (vs:List AV),l.foldr (λf acc=>match zeroOf P n f.type,acc with|some a,some b=>some (a::b)|_,_=>none) (some [])=some vs->rW vs:=by
    intro l;induction l with
    |nil=>intro vs h;simp only[List.foldr_nil,zdM] at h;subst h;exact⟨rfl,λ_ _ _ _ _=>by simp only[fE]⟩
    |cons f l ih=>
     intro vs h;simp only[zeB] at h;split at h
     ·rename_i a b h1 h2
      simp only[zdM] at h;subst h;exact rW.cons (Ci n _ _ h1) (ih _ h2)
     ·cases h
   simp only[zeC] at h;obtain⟨vs,h1,rfl⟩:=h;obtain⟨h2,h3⟩:=key _ _ h1;exact⟨by simpa [qZ,AV.size] using h2,λN D w g hg=>by simp only[an];exact h3 N D w g (λj hj=>by rw[hg j (by simpa [AV.size] using hj),yB])⟩
  ·rename_i m e _
   split at h
   ·simp only[zdM] at h
    subst h;have key: ∀m,rW (List.replicate m (.val (.slice none 0 0))):=by
     intro m;induction m with
     |zero=>exact⟨rfl,λ_ _ _ _ _=>by simp only[List.replicate,fE]⟩
     |succ m ih=>exact rW.cons (vL.val _) ih
    obtain⟨h2,h3⟩:=key m;exact⟨by simpa [qZ,AV.size] using h2,λN D w g hg=>by simp only[an];exact h3 N D w g (λj hj=>by rw[hg j (by simpa [AV.size] using hj),yB])⟩
   simp only[zeC] at h;obtain⟨te,_,rfl⟩:=h;refine⟨?_,λN D w g hg=>?_⟩
   ·have:=ni (.arr m te)
    simpa only[qZ,AV.size,Ty.size,m9,iL] using this
   ·simp only[an]
    refine rV (.arr m te) g λj hj=>?_;rw[hg j (by simpa only[AV.size,Ty.size] using hj)]
    simp only[qZ,m9,iL]
  ·cases h
theorem rX {t:TypeId}{k:AV->Option α}{r:α}(h:zeroV P t k=some r): ∃v i z,k v=some r/\P.info? t=some i/\i.zero=some z/\zeroOf P 12 t=some v/\z.cells.toList=qZ v/\z.cells.size=v.size/\∀N D w,an N D w v (z.cells[·]?):=by
 unfold zeroV at h;split at h
 ·rename_i z v hz hv
  split at h
  ·rename_i hq
   obtain⟨i,hi,UX⟩:=Option.bind_eq_some_iff.1 hz;have e:=Oe hq;obtain⟨l1,l2⟩:=Ci 12 t v hv;refine⟨v,i,z,h,hi,UX,hv,e,by rw[<-l1,<-e];simp,λN D w=>l2 N D w _ λj hj=>?_⟩
   rw[<-e];simp
  ·cases h
 ·cases h
theorem LZ {dst ty pos after guard}{t:TypeId}{st:St}{id:Nat}(oT:id=name st.ep (dst.getD 999) 0){k:AV->St->Option α}{r:α}(h:HG P st id t k=some r):ow P base ⟨dst, .alloc t,ty,pos,after,guard⟩ st k r:=by
 unfold HG at h;obtain⟨v,i,z,h,hi,hz,_,_,g1,g2⟩:=rX h;obtain⟨s',h1,h2,h3,h4,Jr,h5⟩:=HZ h;refine⟨_,_,h1,h2,h3,h4,λj _ hj=>Jr j (λe=>by subst e;subst oT;simp[qI,makes,ru] at hj),λN D w a s=>?_⟩
 obtain⟨N',n1,n2,n3⟩:=h5 N D w base s.nG _ t g1 (g2 N D w);exact⟨N',D,_,_, .inl (by simp only[execOp,Instr.alloc,newVar,newRow,zeroValue,typeInfo,zd7,run_newObj,zd8,zd9];simp[hi,hz]),n2,n1,n3⟩
theorem PH {dst ty pos after guard}{x:Operand}{st:St}{k:AV->St->Option α}{r:α}(h:k (st.ev x) st=some r):ow P base ⟨dst, .move x,ty,pos,after,guard⟩ st k r:=
 ⟨_,_,h,lE.pure λN D w a s=>⟨a.eval x,by simp only[execOp,zd9],s.F6 x⟩⟩
theorem JK {dst ty pos after guard}{x:Operand}{st:St}{k:AV->St->Option α}{r:α}(h:k (st.ev x) st=some r):ow P base ⟨dst, .assign x,ty,pos,after,guard⟩ st k r:=
 ⟨_,_,h,lE.pure λN D w a s=>⟨a.eval x,by simp only[execOp,zd9],s.F6 x⟩⟩
theorem Gb {dst ty pos after guard}{x:Operand}{st:St}{k:AV->St->Option α}{r:α}(h:(match st.ev x with| .ptr i p=>k (.ptr i p) st| .ub v=>k (.ub v) st| .rf g n c=>(match af (n=0) with|true=>none|false=>k (.rf g n c) st)|_=>none)=some r):ow P base ⟨dst, .nilCheck x,ty,pos,after,guard⟩ st k r:=by
 split at h
 ·rename_i i p e1
  refine⟨_,_,h,lE.pure λN D w a s=>?_⟩;have hv:=s.uI e1;obtain⟨nm,ad,o,h1,h2,h3,h4⟩:=jC.1 hv;exact⟨a.eval x,by simp only[execOp,h4,zd9],hv⟩
 ·rename_i v e1
  refine⟨_,_,h,lE.pure λN D w a s=>?_⟩;have hv:=s.uI e1;obtain⟨ad,h1,_⟩:=qL.1 hv;exact⟨a.eval x,by simp only[execOp,h1,zd9],hv⟩
 ·rename_i g n c e1
  split at h
  ·cases h
  ·rename_i hn
   refine⟨_,_,h,lE.pure λN D w a s=>?_⟩;have hv:=s.uI e1;rcases HY hv with⟨h1,_⟩|⟨_,ad,h1⟩
   ·rw[kZ.2 h1] at hn;cases hn
   ·exact⟨a.eval x,by simp only[execOp,h1,zd9],hv⟩
 ·cases h
theorem PI {dst ty pos after guard}{c x y:Operand}{st:St}{k:AV->St->Option α}{r:α}(h:(match st.ev c with| .val (.bool t)=>(match t with|true=>k (st.ev x) st|false=>k (st.ev y) st)|_=>none)=some r):ow P base ⟨dst, .pick c x y,ty,pos,after,guard⟩ st k r:=by
 split at h
 ·rename_i t e1
  cases t with
  |true=>exact⟨_,_,h,lE.pure λN D w a s=>⟨a.eval x,by simp[execOp,s.s8 e1,asBool],s.F6 x⟩⟩
  |false=>exact⟨_,_,h,lE.pure λN D w a s=>⟨a.eval y,by simp[execOp,s.s8 e1,asBool],s.F6 y⟩⟩
 ·cases h
theorem PJ {dst ty pos after guard}{op:UnOp}{t:TypeId}{x:Operand}{st:St}{k:AV->St->Option α}{r:α}(h:(match op,st.ev x with
  | .not, .val (.bool b)=>k (.val (.bool (!b))) st
  | .neg, .val (.int ki n)=>k (.val (.int ki (wr ki (0-n)))) st
  | .xor, .val (.int ki n)=>k (.val (.int ki (pJ ki (RC ki) n))) st
  |_,_=>none)=some r):ow P base ⟨dst, .unOp op t x,ty,pos,after,guard⟩ st k r:=by
 split at h
 ·rename_i b e1
  exact⟨_,_,h,lE.pure λN D w a s=>⟨_,by simp[execOp,s.s8 e1,Op.unary];first|rfl|done,eE.2 rfl⟩⟩
 ·rename_i ki n e1
  exact⟨_,_,h,lE.pure λN D w a s=>⟨_,by simp[execOp,s.s8 e1,Op.unary,Op.intArith];first|rfl|done,eE.2 (by simp[pU])⟩⟩
 ·rename_i ki n e1
  exact⟨_,_,h,lE.pure λN D w a s=>⟨_,by simp[execOp,s.s8 e1,Op.unary,Op.intBits];first|rfl|done,eE.2 (by simp[pJ,RC,pU])⟩⟩
 ·cases h
theorem H0 {dst ty pos after guard}{x:Operand}{i:Nat}{st:St}{k:AV->St->Option α}{r:α}(h:(match st.ev x with| .A8 vs=>(match vs[i]? with|some v=>k v st|none=>none)|_=>none)=some r):ow P base ⟨dst, .extract x i,ty,pos,after,guard⟩ st k r:=by
 split at h
 ·rename_i vs e1
  split at h
  ·rename_i v hv
   refine⟨_,_,h,lE.pure λN D w a s=>?_⟩;obtain⟨cs,h1,h2⟩:=lT.1 (s.uI e1);obtain⟨c,h3,h4⟩:=sG vs _ i v h2 hv;refine⟨c,?_,h4⟩;have h5:cs[i]?=some c:=by simpa using h3
   simp[execOp,h1,Instr.extract,h5]
  ·cases h
 ·cases h
theorem uT {N:Names}{D:Nat->Prop}{w:World}{st:St}{a:Act}(s:kI N D w base st a): ∀l:List Operand,bB N D w (l.map st.ev) (l.map a.eval)
 | []=>by simp[bB]
 |x::xs=>by
  simp only[zeD,bB];exact⟨_,_,rfl,s.F6 x,uT s xs⟩
theorem Gc {dst ty pos after guard}{fn:Fn}{first captured:Array Operand}{st:St}{k:AV->St->Option α}{r:α}(h:(match first.size,captured.size with|0,_=>k (.xq fn (captured.toList.map st.ev)) st|_,0=>k (.xr fn (first.toList.map st.ev)) st|_,_=>none)=some r):ow P base ⟨dst, .makeFunc fn first captured,ty,pos,after,guard⟩ st k r:=by
 split at h
 ·rename_i h0
  refine⟨_,_,h,lE.pure λN D w a s=>⟨.func fn #[] (captured.map a.eval),?_,?_⟩⟩
  ·have:first= #[]:=zeE h0
   subst this;simp[execOp,Instr.makeFunc]
  ·unfold cp
   simp only[AV.isAgg,jJ,an];refine⟨_,rfl,?_⟩;have:=uT s captured.toList;simpa using this
 ·rename_i h0 _
  refine⟨_,_,h,lE.pure λN D w a s=>⟨.func fn (first.map a.eval) #[],?_,?_⟩⟩
  ·have:captured= #[]:=zeE h0
   subst this;simp[execOp,Instr.makeFunc]
  ·unfold cp
   simp only[AV.isAgg,jJ,an];refine⟨_,rfl,?_⟩;have:=uT s first.toList;simpa using this
 ·cases h
end AM
namespace AM
open Go
variable {α:Type}{P:Program}{base:Nat}
theorem ui {N:Names}{D:Nat->Prop}{w:World}{t:TypeId}{v:AV}{cs:Array Value}{off:Nat}(hf:sD P t v=true)(hr:an N D w v (λj=>cs[off+j]?)): ∃c,(part t cs off).run P w= .ok c w/\cp N D w v c:=by
 obtain⟨hs,h1,h2,d,hd⟩:=rU hf;obtain⟨i,hi⟩:=info_of_underlying hd;have HT:(isAgg t).run P w= .ok (ra P t) w:=by
  simp only[isAgg,zd7,run_underlying hd,zd8,ra,hd];cases d<;>rfl
 have hc:=sH v _ hs hr;cases FX:v.isAgg with
 |true=>
  refine⟨.agg (cs.extract off (off+v.size)),?_,?_⟩
  ·simp only[part,zd7,HT,zd8,<-h1,FX,if_true,run_sizeOf w hi,zd9,h2]
  ·unfold cp;rw[FX]
   have hle:v.size=0\/off+v.size<=cs.size:=by
    by_cases e:v.size=0
    ·exact .inl e
    ·obtain⟨c,h3,_⟩:=hc (v.size-1) (by omega)
     have:=(Array.getElem?_eq_some_iff.1 h3).1;right;omega
   refine⟨_,rfl,by simp;omega,ke v _ _ (λj hj=>?_) hr⟩
   simp[Array.getElem?_extract];intro hh;omega
 |false=>
  obtain⟨c,h3,_⟩:=hc 0 (by rw[rl hs FX];omega)
  simp only[zeF] at h3;refine⟨c,by simp[part,HT,<-h1,FX,h3],?_⟩
  unfold cp;rw[FX];refine ke v _ _ (λj hj=>?_) hr;rw[rl hs FX] at hj;obtain rfl:j=0:=by omega
  exact h3
theorem L0 {t:TypeId}{f:Nat}{v:AV}(h:RE P t f v=true): ∃fs fd,P.underlying t=some (.struct fs)/\fs[f]?=some fd/\sD P fd.type v=true:=by
 unfold RE at h;split at h
 ·rename_i fs hu
  split at h
  ·rename_i fd hf
   exact⟨fs,fd,hu,hf,h⟩
  ·cases h
 ·cases h
theorem L1 {dst ty pos after guard}{t:TypeId}{x:Operand}{f:Nat}{st:St}{k:AV->St->Option α}{r:α}(h:HE P st t (st.ev x) f k=some r):ow P base ⟨dst, .field t x f,ty,pos,after,guard⟩ st k r:=by
 unfold HE at h;split at h
 ·rename_i fs off e1 e2
  split at h
  ·rename_i hd
   simp only[zdU] at hd;split at h
   ·rename_i v hv
    split at h
    ·rename_i lB
     refine⟨_,_,h,lE.pure λN D w a s=>?_⟩;obtain⟨cells,h1,h2,h3⟩:=xQ.1 (s.uI e1);obtain⟨fs',fd,hu,hf,hft⟩:=L0 lB;obtain⟨fs2,fd2,hu2,xX,_,ho⟩:=zc e2;rw[hu] at hu2;cases hu2;rw[hf] at xX;cases xX;have:=qJ fs f v _ hv h3;rw[hd] at this;subst ho;obtain⟨c,h4,h5⟩:=ui (P:=P) hft this;refine⟨c,?_,h5⟩;simp only[execOp,h1,Instr.field,zd7,run_underlying hu,zd8,hf,asAgg,zd9,h4]
    ·cases h
   ·cases h
  ·cases h
 ·cases h
theorem qM {x:AV}{k:Int->Option α}{r:α}(h:nat? x k=some r): ∃ki n,x= .val (.int ki n)/\k n=some r:=by
 unfold nat? at h;split at h
 ·exact⟨_,_,rfl,h⟩
 ·cases h
theorem og {t:TypeId}{n:Nat}(h:ve P t n=true): ∃e i,P.underlying t=some (.slice e)/\P.info? e=some i/\P.cellsOf e=n:=by
 unfold ve at h;split at h
 ·rename_i e hu
  simp only[zdO,zdU] at h;obtain⟨i,hi⟩:=Option.isSome_iff_exists.1 h.1;exact⟨e,i,hu,hi,h.2⟩
 ·cases h
theorem sJ {t:TypeId}{m n:Nat}(h:zn P t m n=true): ∃e i,P.underlying t=some (.array m e)/\P.info? e=some i/\P.cellsOf e=n:=by
 unfold zn at h;split at h
 ·rename_i m' e hu
  simp only[zdO,zdU] at h;obtain⟨i,hi⟩:=Option.isSome_iff_exists.1 h.1.1;exact⟨e,i,by rw[hu,h.1.2],hi,h.2⟩
 ·cases h
theorem uj {t e:TypeId}{i:TypeInfo}(hu:P.underlying t=some (.slice e))(hi:P.info? e=some i){k:IntKind}{n:Int}{a:Addr}{len cap:Nat}(h0:0<=n)(h1:n<len)(w:World):
  (Instr.indexAt t (.slice (some a) len cap) (.int k n)).run P w= .ok (.pointer (some (a.add (n.toNat*P.cellsOf e)))) w:=by
 simp[Instr.indexAt,asIntOf,run_underlying hu,h0,h1,run_sizeOf w hi]
theorem zw {t e:TypeId}{m:Nat}{i:TypeInfo}(hu:P.underlying t=some (.array m e))(hi:P.info? e=some i){k:IntKind}{n:Int}{a:Addr}(h0:0<=n)(h1:n<m)(w:World):
  (Instr.indexAt t (.pointer (some a)) (.int k n)).run P w= .ok (.pointer (some (a.add (n.toNat*P.cellsOf e)))) w:=by
 simp[Instr.indexAt,asIntOf,run_underlying hu,h0,h1,run_sizeOf w hi,Instr.sureAddr]
theorem Ag {nm:Nm}{p:List Step}{o m i:Nat}{e:Sh}(h1:nm.off p=some o)(h2:nm.Ln p=some (.arr m e))(h3:i<m):
  nm.off (p++ [.idx i])=some (o+i*e.size):=by
 cases hr:nm.row with
 |false=>
  simp only[Nm.Ln,hr] at h2;have e': ∀p,nm.off p=fX p nm.sh:=by intro p;unfold Nm.off;split<;>simp[hr]
  rw[e'] at h1⊢;exact rr p _ o m i e h1 h2 h3
 |true=>
  simp only[Nm.Ln,hr,if_true] at h2;split at h2
  ·rename_i j p'
   simp only[Nm.off,hr,if_true,zel] at h1⊢;by_cases hi:j<nm.len
   ·simp only[hi,if_true] at h1⊢
    cases h5:fX p' nm.sh with
    |none=>simp[h5] at h1
    |some o2=>
     simp only[h5,zdV,zdM] at h1;rw[rr p' _ o2 m i e h5 h2 h3];simp only[zdV];congr 1;omega
   ·simp only[hi,if_false] at h1;cases h1
  ·cases h2
theorem xY (b:Addr)(n m:Nat):(Addr.at_ b n).add m=Addr.at_ b (n+m):=by
 simp only[Addr.at_,oH,zd1]
theorem D6 {ad:Addr}{len room:Nat}{v:Value}(h:HR ad len room v)(hl:0<len):v= .slice (some ad) len room:=by
 obtain⟨a,cap,rfl,h2,h3,h4⟩:=h;rcases h4 with h4|h4
 ·rw[h4,h3]
 ·omega
end AM
namespace AM
open Go
variable {α:Type}{P:Program}{base:Nat}
theorem jw {p:Prop}{z:Option α}{r:α}(h:(match af p with|true=>z|false=>none)=some r):p/\z=some r:=by
 split at h
 ·exact⟨kZ.1 ‹_›,h⟩
 ·cases h
theorem jx {b:Bool}{z:Option α}{r:α}(h:(match b with|false=>none|true=>z)=some r):b=true/\z=some r:=by
 cases b with
 |true=>exact⟨rfl,h⟩
 |false=>cases h
theorem wG {i:Int}{k:Nat->Option α}{r:α}: ∀{f j:Nat},DN i k f j=some r->∃m,j<=m/\m<j+f/\i=m/\k m=some r
 |0,j,h=>by simp[DN] at h
 |f+1,j,h=>by
  unfold DN at h;split at h
  ·exact⟨j,zd2 _,by omega,kZ.1 ‹_›,h⟩
  ·obtain⟨m,h1,h2,h3⟩:=wG h
   exact⟨m,by omega,by omega,h3⟩
theorem Bn {n:Nat}: ∀{l:List Sh},DO l n=true->∀{j:Nat},j<=l.length->Sh.dK (l.take j)=j*n
 | [],_,j,hj=>by simp at hj;subst hj;simp[Sh.dK]
 |e::l,h,0,_=>by simp[Sh.dK]
 |e::l,h,j+1,hj=>by
  have h':e.size=n/\DO l n=true:=by simpa [DO] using h
  have ih:=Bn h'.2 (j:=j) (by simpa using hj)
  simp only[List.take_succ_cons,Sh.dK,ih,h'.1,zd0];omega
theorem Cj {s:St}{id:Nat}{p:List Step}{n:Nat}(h:HC s id p=some n){N:Names}{D:Nat->Prop}{w:World}{base:Nat}(S:kp N D w base s.h){nm:Nm}(hn:N id=some nm):
  ((nm.row&&p.isEmpty)=true/\nm.sh.size=n)\/(¬(nm.row&&p.isEmpty)=true/\∃m e,nm.Ln p=some (.arr m e)/\e.size=n):=by
 unfold HC at h;split at h
 ·rename_i ro te xs ho
  obtain⟨mN,h1,h2,h3,_⟩:=S.obj id _ ho;rw[hn] at h1;cases h1;left
  refine⟨by simp[h2],?_⟩
  rw[h3,iT];exact Option.some.inj h
 ·rename_i hp
  split at h
  ·rename_i m e hs
   right
   refine⟨?_,m,e,oe hs S hn,Option.some.inj h⟩;cases mO:nm.row with
   |false=>simp
   |true=>
    have yS:=oe hs S hn;intro hp2;simp only[Bool.true_and,zeh] at hp2;rw[hp2] at yS;simp[Nm.Ln,mO] at yS
  ·cases h
theorem D7 {dst ty pos after guard}{t:TypeId}{x ix:Operand}{st:St}{k:AV->St->Option α}{r:α}(h:xL P st t (st.ev x) (st.ev ix) k=some r):ow P base ⟨dst, .indexAddr t x ix,ty,pos,after,guard⟩ st k r:=by
 unfold xL at h;obtain⟨ki,n,ei,h⟩:=qM h;split at h
 ·rename_i te xs e1
  replace h:=jx h;obtain⟨xg,h⟩:=h
  replace h:=jw h;obtain⟨h0,h⟩:=h
  split at h
  ·rename_i y hy
   obtain⟨e,i,hu,hi,hsz⟩:=og xg;refine⟨_,_,h,lE.pure λN D w a s=>?_⟩;obtain⟨ba,cap,g1,g2,g3,g4⟩:=uR.1 (s.uI e1);simp only[zdM] at g1;have lj:n.toNat<aM (β:=te.den) xs:=(List.getElem?_eq_some_iff.1 hy).1;cases ba with
   |none=>have:=g3 rfl;omega
   |some ba=>
    obtain⟨f1,f2,f3⟩:=g4 ba rfl (by omega)
    obtain⟨b,o,sp⟩:=ba;simp only at f1;subst f1;refine⟨.pointer (some ⟨b,o+n.toNat*te.size,none⟩),?_,qL.2 ⟨_,rfl,rfl,f2,?_⟩⟩
    ·simp only[execOp,s.s8 ei,g1,zd7,uj hu hi h0 (show n<(aM (β:=te.den) xs:Int) by omega),zd8,zd9,oH,hsz]
    ·rw[kV]
     have e2:(λj=>aX w ⟨b,o,none⟩ (n.toNat*te.size+j))=aX w ⟨b,o+n.toNat*te.size,none⟩:=by
      funext j;simp only[aX,zd1]
     rw[<-e2];exact f3 n.toNat y hy
  ·cases h
 ·rename_i id off e1
  split at h
  ·rename_i ro te xs ho
   replace h:=jx h;obtain⟨xg,h⟩:=h
   replace h:=jw h;obtain⟨h0,h⟩:=h
   obtain⟨e,i,hu,hi,hsz⟩:=og xg;refine⟨_,_,h,lE.pure λN D w a s=>?_⟩;have hv:=s.uI e1;unfold cp at hv;simp only[AV.isAgg,jJ,an] at hv;obtain⟨nm,g1,g2,g3,g4,g5⟩:=hv;obtain⟨mN,h1,h2,h3,h4,_⟩:=s.nG.obj id _ ho;rw[g1] at h1;cases h1;cases hb:nm.base with
   |none=>rw[hb] at g5;obtain⟨g5,_⟩:=g5;exfalso;have:=h0.2;simp only[aM] at h4;omega
   |some ba=>
    rw[hb] at g5;obtain⟨v,room,g6,g7,g8⟩:=g5;simp only[zdM] at g6;have lj:n<((nm.len-off:Nat):Int):=by rw[h4];exact h0.2
    have e3:=D6 g8 (by omega)
    rw[e3] at g6;refine⟨.pointer (some (Addr.at_ ba (off*nm.sh.size+n.toNat*te.size))),?_,jC.2 ⟨nm,ba,_,g1,hb,?_,rfl⟩⟩
    ·simp only[execOp,s.s8 ei,g6,zd7,uj hu hi h0.1 lj,zd8,zd9,xY,hsz]
    ·simp only[Nm.off,g2,if_true]
     rw[if_pos (by omega),h3,iT]
     simp only[fX,zdV,zdM,zeF];rw[<-zd0,zey]
  ·cases h
 ·rename_i id p off len e1
  split at h
  ·rename_i m YC
   replace h:=jx h;obtain⟨xg,h⟩:=h
   replace h:=jw h;obtain⟨h0,h⟩:=h
   obtain⟨e,i,hu,hi,hsz⟩:=og xg;refine⟨_,_,h,lE.pure λN D w a s=>?_⟩;have hv:=s.uI e1;unfold cp at hv;simp only[AV.isAgg,jJ,an] at hv;obtain⟨nm,g1,g3⟩:=hv;cases g2:nm.base with
   |none=>rw[g2] at g3;obtain⟨_,_,rfl,_⟩:=g3;omega
   |some ba=>
   rw[g2] at g3;simp only at g3;rcases Cj YC s.nG g1 with⟨hp,H2⟩|⟨hp,m',e',H2,YD⟩
   ·rw[if_pos hp] at g3
    simp only[zdO,zeh] at hp;obtain⟨mO,rfl⟩:=hp;obtain⟨g4,g5,v,room,g6,g7,g8,g9⟩:=g3;simp only[zdM] at g6;have e3:=D6 g9 (by omega)
    rw[e3] at g6;refine⟨.pointer (some (Addr.at_ ba (off*nm.sh.size+n.toNat*nm.sh.size))),?_,jC.2 ⟨nm,ba,_,g1,g2,?_,rfl⟩⟩
    ·simp only[execOp,s.s8 ei,g6,zd7,uj hu hi h0.1 h0.2,zd8,zd9,xY,hsz,H2]
    ·simp only[Nm.off,mO,if_true,zeG]
     rw[if_pos (by omega)]
     simp only[fX,zdV,zdM,zeF];rw[<-zd0,zey]
   ·rw[if_neg hp] at g3
    obtain⟨o,m2,e2,v,room,g4,JL,g7,g8,g9,YE⟩:=g3;simp only[zdM] at g8;have e3:=D6 YE (by omega)
    rw[e3] at g8;rw[JL] at H2;cases H2;refine⟨.pointer (some (Addr.at_ ba (o+off*e'.size+n.toNat*e'.size))),?_,jC.2 ⟨nm,ba,_,g1,g2,Ag g4 JL (show n.toNat+off<m' by omega),?_⟩⟩
    ·simp only[execOp,s.s8 ei,g8,zd7,uj hu hi h0.1 h0.2,zd8,zd9,xY,hsz,YD]
    ·rw[zd0,zd1,zey (n.toNat*e'.size)]
  ·cases h
 ·rename_i id p e1
  split at h
  ·rename_i m e' hs
   replace h:=jx h;obtain⟨xg,h⟩:=h
   replace h:=jw h;obtain⟨h0,h⟩:=h
   obtain⟨e,i,hu,hi,hsz⟩:=sJ xg;refine⟨_,_,h,lE.pure λN D w a s=>?_⟩;obtain⟨nm,ad,o,h1,h2,h3,h4⟩:=jC.1 (s.uI e1);refine⟨.pointer (some (Addr.at_ ad (o+n.toNat*e'.size))),?_,jC.2 ⟨nm,ad,_,h1,h2,Ag h3 (oe hs s.nG h1) (show n.toNat<m by omega),rfl⟩⟩
   simp only[execOp,s.s8 ei,h4,zd7,zw hu hi h0.1 h0.2,zd8,zd9,xY,hsz]
  ·rename_i l hs
   replace h:=jx h;obtain⟨xg,h⟩:=h
   rw[zdO] at xg;obtain⟨m,_,lj,hm,h⟩:=wG h;rw[zev] at lj;obtain⟨e,i,hu,hi,hsz⟩:=sJ xg.1;refine⟨_,_,h,lE.pure λN D w a s=>?_⟩;obtain⟨nm,ad,o,h1,h2,h3,h4⟩:=jC.1 (s.uI e1);refine⟨.pointer (some (Addr.at_ ad (o+n.toNat*Bb l))),?_,jC.2 ⟨nm,ad,_,h1,h2,tI h3 (oe hs s.nG h1) lj,?_⟩⟩
   ·simp only[execOp,s.s8 ei,h4,zd7,zw hu hi (show 0<=n by omega) (show n<l.length by omega),zd8,zd9,xY,hsz]
   ·rw[Bn xg.2 (Nat.le_of_lt lj),hm];rfl
  ·cases h
 ·rename_i id m0 e1
  split at h
  ·rename_i l hs
   replace h:=jx h;obtain⟨xg,h⟩:=h
   simp only[zdO,zdU] at xg;obtain⟨m,_,lj,hm,h⟩:=wG h;rw[zev] at lj;obtain⟨e,i,hu,hi,hsz⟩:=og xg.1.1;refine⟨_,_,h,lE.pure λN D w a s=>?_⟩;have hv:=s.uI e1;unfold cp at hv;simp only[AV.isAgg,jJ,an] at hv;obtain⟨nm,ad,h1,h2,h3,h4⟩:=hv;simp only[zdM] at h4;have nJ:nm.off []=some 0:=by simp[Nm.off,h3,fX]
   have yS:=oe hs s.nG h1;have Of:ad.spot=none:=by
    have: ∃v,st.h id=some (.var v):=by
     unfold St.shape at hs;split at hs
     ·exact⟨_,‹_›⟩
     ·cases hs
     ·cases hs
    obtain⟨v,hv⟩:=this;obtain⟨mN,a',q1,q2,_,_,q5,_⟩:=s.nG.obj id _ hv;rw[h1] at q1;cases q1;rw[h2] at q2;cases q2;exact q5
   obtain⟨bb,oo,sp⟩:=ad;simp only at Of;subst Of;refine⟨.pointer (some ⟨bb,oo+n.toNat*Bb l,none⟩),?_,jC.2 ⟨nm,_,_,h1,h2,tI (p:=[]) nJ yS lj,?_⟩⟩
   ·simp only[execOp,s.s8 ei,h4,zd7,uj hu hi (show 0<=n by omega) (show n<m0 by omega),zd8,zd9,oH,hsz]
   ·rw[Bn xg.1.2 (Nat.le_of_lt lj),hm];simp[Addr.at_]
  ·cases h
 ·rename_i m te xs e1
  replace h:=jx h;obtain⟨xg,h⟩:=h
  replace h:=jw h;obtain⟨h0,h⟩:=h
  split at h
  ·rename_i y hy
   obtain⟨e,i,hu,hi,hsz⟩:=sJ xg;refine⟨_,_,h,lE.pure λN D w a s=>?_⟩;obtain⟨ad,h1,h2,h3,h4⟩:=qL.1 (s.uI e1);obtain⟨b,o,sp⟩:=ad;simp only at h2;subst h2;simp only[an] at h4;refine⟨.pointer (some ⟨b,o+n.toNat*te.size,none⟩),?_,qL.2 ⟨_,rfl,rfl,h3,?_⟩⟩
   ·simp only[execOp,s.s8 ei,h1,zd7,zw hu hi h0.1 h0.2,zd8,zd9,oH,hsz]
   ·rw[kV]
    have e2:(λj=>aX w ⟨b,o,none⟩ (n.toNat*te.size+j))=aX w ⟨b,o+n.toNat*te.size,none⟩:=by
     funext j;simp only[aX,zd1]
    rw[<-e2];exact h4.2 n.toNat y hy
  ·cases h
 ·cases h
theorem R1 {dst ty pos after guard}{x:Operand}{args:Array Operand}{tys:Array TypeId}{t:TypeId}{Bo:List TypeId}{st:St}{k:AV->St->Option α}{r:α}(ha:args.toList=[x])(ht:tys.toList=t::Bo)
  (h:JB P st t (st.ev x) (λn=>k (.val (.int .i64 n)) st)=some r):ow P base ⟨dst, .call ⟨.builtin .len,args,tys⟩,ty,pos,after,guard⟩ st k r:=by
 have nH:args= #[x]:=by cases args;simp at ha;subst ha;rfl
 have Ah:tys[0]?=some t:=by cases tys;simp at ht;subst ht;simp
 subst nH;have slk: ∀(n:Nat),np P t=true->k (.val (.int .i64 n)) st=some r->(∀N D w a,kI N D w base st a->∃b c,a.eval x= .slice b n c)->ow P base ⟨dst, .call ⟨.builtin .len,#[x],tys⟩,ty,pos,after,guard⟩ st k r:=by
  intro n hs hk YB;obtain⟨e,hu⟩:=sv hs;refine⟨_,_,hk,lE.pure λN D w a s=>⟨.int .i64 n,?_,eE.2 rfl⟩⟩;obtain⟨b,c,e2⟩:=YB N D w a s;simp[execOp,resolve,invoke,builtin,Builtin.len_,Ah,e2,run_underlying hu,goInt]
 unfold JB at h;split at h
 ·rename_i te xs e1
  split at h
  ·rename_i hs
   refine slk _ hs h λN D w a s=>?_;obtain⟨ba,cap,g1,_⟩:=uR.1 (s.uI e1);simp only[zdM] at g1;exact⟨_,_,g1⟩
  ·cases h
 ·rename_i e1
  split at h
  ·rename_i hs
   exact slk 0 hs h λN D w a s=>⟨_,_,s.s8 e1⟩
  ·cases h
 ·rename_i b e1
  split at h
  ·rename_i hu
   refine⟨_,_,h,lE.pure λN D w a s=>⟨_,?_,eE.2 rfl⟩⟩;simp[execOp,resolve,invoke,builtin,Builtin.len_,Ah,s.s8 e1,run_underlying hu,goInt]
  ·cases h
 ·rename_i id off e1
  split at h
  ·rename_i ro te xs ho
   split at h
   ·rename_i hs
    refine slk _ hs h λN D w a s=>?_;have hv:=s.uI e1;unfold cp at hv;simp only[AV.isAgg,jJ,an] at hv;obtain⟨nm,g1,g2,g3,g4,g5⟩:=hv;obtain⟨mN,h1,h2,h3,h4,_⟩:=s.nG.obj id _ ho;rw[g1] at h1;cases h1;cases hb:nm.base with
    |none=>
     rw[hb] at g5;obtain⟨g5,g6⟩:=g5;simp only[zdM] at g6;have e0:aM (β:=te.den) xs-off=0:=by rw[<-h4];omega
     have e2:a.eval x= .slice none (aM (β:=te.den) xs-off) 0:=by rw[e0];exact g6
     exact⟨_,_,e2⟩
    |some ba=>
     rw[hb] at g5;obtain⟨v,room,g6,g7,a',cap,rfl,_⟩:=g5;simp only[zdM] at g6;rw[h4] at g6;exact⟨_,_,g6⟩
   ·cases h
  ·cases h
 ·rename_i id p off len e1
  split at h
  ·rename_i hs
   refine slk _ hs h λN D w a s=>?_;have hv:=s.uI e1;unfold cp at hv;simp only[AV.isAgg,jJ,an] at hv;obtain⟨nm,g1,g3⟩:=hv;cases g2:nm.base with
   |none=>rw[g2] at g3;obtain⟨_,_,rfl,_,g3⟩:=g3;simp only[zdM] at g3;exact⟨_,_,g3⟩
   |some ba=>
   rw[g2] at g3;simp only at g3;split at g3
   ·obtain⟨_,_,v,room,g6,_,_,a',cap,rfl,_⟩:=g3
    simp only[zdM] at g6;exact⟨_,_,g6⟩
   ·obtain⟨_,_,_,v,room,_,_,_,g6,_,a',cap,rfl,_⟩:=g3
    simp only[zdM] at g6;exact⟨_,_,g6⟩
  ·cases h
 ·rename_i id n e1
  split at h
  ·rename_i hs
   refine slk _ hs h λN D w a s=>?_;have hv:=s.uI e1;unfold cp at hv;simp only[AV.isAgg,jJ,an] at hv;obtain⟨nm,ad,_,_,_,h4⟩:=hv;simp only[zdM] at h4;exact⟨_,_,h4⟩
  ·cases h
 ·rename_i n te xs e1
  split at h
  ·rename_i m e hu
   split at h
   ·rename_i hmn
    subst hmn;refine⟨_,_,h,lE.pure λN D w a s=>⟨.int .i64 m,?_,eE.2 rfl⟩⟩;obtain⟨cells,h1,_⟩:=vI.1 (s.uI e1);simp[execOp,resolve,invoke,builtin,Builtin.len_,Ah,h1,run_underlying hu,goInt]
   ·cases h
  ·cases h
 ·cases h
end AM
namespace AM
open Go
variable {α:Type}{P:Program}{base:Nat}
theorem Bp: ∀(t:Ty) (x:t.den),(enc t x).nF=true
 | .int _,_=>by simp[enc,AV.nF,Value.oneCell']
 | .bool,_=>by simp[enc,AV.nF,Value.oneCell']
 | .str,_=>by simp[enc,AV.nF,Value.oneCell']
 | .nil,_=>by simp[enc,AV.nF,AV.A9]
 | .deep _,_=>by simp[enc,AV.nF]
 | .ref _,_=>by simp[enc,AV.nF]
 | .arr n t,_=>by simp[enc,AV.nF]
 | .cons a b,p=>by
  have ha:=Bp a p.1;have hb:=Bp b p.2;unfold enc;cases h:enc b p.2<;>simp[h,AV.nF,AV.A9] at* <;>simp[*]
theorem D8: ∀(n:Nat) (t:TypeId) (te:Ty),vG P n t=some te->(∃d,P.underlying t=some d)/\∀x:te.den,(enc te x).isAgg=ra P t
 |0,_,_,h=>by simp[vG] at h
 |n+1,t,te,h=>by
  unfold vG at h;split at h
  ·rename_i k hu;simp only[zdM] at h;subst h;exact⟨⟨_,hu⟩,λx=>by simp[enc,AV.isAgg,ra,hu]⟩
  ·rename_i hu;simp only[zdM] at h;subst h;exact⟨⟨_,hu⟩,λx=>by simp[enc,AV.isAgg,ra,hu]⟩
  ·rename_i hu;simp only[zdM] at h;subst h;exact⟨⟨_,hu⟩,λx=>by simp[enc,AV.isAgg,ra,hu]⟩
  ·rename_i fs hu
   refine⟨⟨_,hu⟩,?_⟩;have key: ∀(l:List Field) (te:Ty),l.foldr (λf acc=>match vG P n f.type,acc with|some a,some b=>some (Ty.cons a b)|_,_=>none) (some .nil)=some te->∀x:te.den,∃l,enc te x= .agg l:=by
    intro l;induction l with
    |nil=>intro te h;simp only[List.foldr_nil,zdM] at h;subst h;intro x;exact⟨[],rfl⟩
    |cons f l ih=>
     intro te h;simp only[zeB] at h;split at h
     ·rename_i a b h1 h2
      simp only[zdM] at h;subst h;intro x;obtain⟨l',hl⟩:=ih b h2 x.2;exact⟨enc a x.1::l',by have e:enc (.cons a b) x=(match enc b x.2 with| .agg l=> .agg (enc a x.1::l)|v=> .agg [enc a x.1,v]):=rfl;rw[e,hl]⟩
     ·cases h
   intro x;obtain⟨l,hl⟩:=key _ _ h x;simp[hl,AV.isAgg,ra,hu]
  ·rename_i m e hu
   simp only[zeC] at h;obtain⟨Yp,_,rfl⟩:=h;exact⟨⟨_,hu⟩,λx=>by simp[enc,AV.isAgg,ra,hu]⟩
  ·rename_i e hu
   simp only[zeC] at h;obtain⟨Yp,_,rfl⟩:=h;exact⟨⟨_,hu⟩,λx=>by simp[enc,AV.isAgg,ra,hu]⟩
  ·rename_i hu;simp only[zdM] at h;subst h;exact⟨⟨_,hu⟩,λx=>by simp[enc,AV.isAgg,ra,hu]⟩
  ·cases h
theorem D9 {t:TypeId}{te:Ty}(h:vG P 12 t=some te)(hs:te.size=P.cellsOf t)(x:te.den):sD P t (enc te x)=true:=by
 obtain⟨⟨d,hd⟩,h2⟩:=D8 12 t te h;simp only[sD,zdO,beq_iff_eq,zdU];exact⟨⟨⟨Bp _ _,h2 x⟩,by rw[nO,hs]⟩,by rw[hd];rfl⟩
theorem Ai {sz:Nat}: ∀(l:List AV),(∀v∈l,v.size=sz)->AV.dK l=l.length*sz
 | [],_=>by simp[AV.dK]
 |x::xs,h=>by
  have ih:=Ai xs λv hv=>h v (zdS _ hv);simp only[AV.dK,zdQ,ih,h x (zdT ..),zd0];omega
theorem L2 {dst ty pos after guard}{t:TypeId}{x ix:Operand}{st:St}{k:AV->St->Option α}{r:α}(h:HJ P st t (st.ev x) (st.ev ix) k=some r):ow P base ⟨dst, .index t x ix,ty,pos,after,guard⟩ st k r:=by
 unfold HJ at h;obtain⟨ki,n,ei,h⟩:=qM h;split at h
 ·rename_i m te xs e1
  replace h:=jx h;obtain⟨Aj,h⟩:=h
  replace h:=jw h;obtain⟨h0,h⟩:=h
  split at h
  ·rename_i y hy
   unfold RD at Aj;split at Aj
   ·rename_i m' e hu
    simp only[zdO,zdU] at Aj;obtain⟨rfl,Aj⟩:=Aj;split at Aj
    ·rename_i Yp Og
     simp only[zdO,zdU] at Aj;obtain⟨rfl,hsz⟩:=Aj;refine⟨_,_,h,lE.pure λN D w a s=>?_⟩;obtain⟨cells,h1,h2,h3⟩:=vI.1 (s.uI e1);have lB:=D9 Og hsz.symm y;obtain⟨⟨d,hd⟩,_⟩:=D8 12 e _ Og;obtain⟨i,hi⟩:=info_of_underlying hd;obtain⟨c,h4,h5⟩:=ui (P:=P) (N:=N) (off:=n.toNat*Yp.size) lB ((kV Yp y _).2 (h3.2 n.toNat y hy));refine⟨c,?_,h5⟩;simp only[execOp,s.s8 ei,h1,Instr.index,asIntOf,zd7,zd9,zd8,run_underlying hu,h0,and_self,if_true,run_sizeOf w hi,hsz,h4]
    ·cases Aj
   ·cases Aj
  ·cases h
 ·rename_i fs e1
  replace h:=jx h;obtain⟨Aj,h⟩:=h
  obtain⟨m,_,lj,hm,h⟩:=wG h;rw[zev] at lj;split at h
  ·rename_i v hv
   unfold RI at Aj;split at Aj
   ·rename_i m' e hu
    simp only[zdO,zdU,zep] at Aj;obtain⟨rfl,Aj⟩:=Aj;refine⟨_,_,h,lE.pure λN D w a s=>?_⟩;obtain⟨cells,h1,h2,h3⟩:=xQ.1 (s.uI e1);have lB:=Aj v (zeH hv);obtain⟨_,_,hsz,d,hd⟩:=rU lB;obtain⟨i,hi⟩:=info_of_underlying hd;have YF:AV.dK (fs.take m)=m*P.cellsOf e:=by
     have:=Ai (sz:=P.cellsOf e) (fs.take m) λu hu'=>(rU (Aj u (zeI hu'))).2.2.1;rw[this,zea,zeJ (Nat.le_of_lt lj)]
    have hr:=qJ fs m v _ hv h3;rw[YF] at hr;obtain⟨c,h4,h5⟩:=ui (P:=P) (N:=N) (off:=m*P.cellsOf e) lB hr;refine⟨c,?_,h5⟩;have hn:n.toNat=m:=by omega
    simp only[execOp,s.s8 ei,h1,Instr.index,asIntOf,zd7,zd9,zd8,run_underlying hu,show(0<=n/\n<fs.length) from⟨by omega,by omega⟩,and_self,if_true,run_sizeOf w hi,hn,h4]
   ·cases Aj
  ·cases h
 ·cases h
theorem rY {s:St}{x:Option Operand}{d:Int}{k:Int->Option α}{r:α}(h:HD s x d k=some r): ∃n,k n=some r/\((x=none/\n=d)\/∃o ki,x=some o/\s.ev o= .val (.int ki n)):=by
 unfold HD at h;split at h
 ·exact⟨d,h, .inl ⟨rfl,rfl⟩⟩
 ·obtain⟨ki,n,e,h⟩:=qM h
  exact⟨n,h, .inr ⟨_,ki,rfl,e⟩⟩
def mR (v:Option Value)(d n:Int):Prop:=(v=none/\n=d)\/∃ki,v=some (.int ki n)
theorem mR.of {N:Names}{D:Nat->Prop}{w:World}{st:St}{a:Act}(s:kI N D w base st a){x:Option Operand}{d n:Int}(h:(x=none/\n=d)\/∃o ki,x=some o/\st.ev o= .val (.int ki n)):mR (x.map a.eval) d n:=by
 rcases h with⟨rfl,rfl⟩|⟨o,ki,rfl,e⟩
 ·exact .inl ⟨rfl,rfl⟩
 ·exact .inr ⟨ki,by simp[s.s8 e]⟩
theorem zx {lo hi:Option Value}{l h:Int}{sl:Bool}{len cap:Nat}(hl:mR lo 0 l)(hh:mR hi len h)(h0:0<=l)(h1:l<=h)(h2:h<=cap)(w:World):
  (Instr.sliceBounds sl len cap lo hi none).run P w= .ok (l.toNat,h.toNat,cap) w:=by
 have hbh: ∀(y:Nat) ki code,(h<=y)->(Instr.sliceBound (.int ki h) y code).run P w= .ok h.toNat w:=λy ki code hy=>run_sliceBound w ki h y code (by omega) hy
 have hbl: ∀ki code,(Instr.sliceBound (.int ki l) h.toNat code).run P w= .ok l.toNat w:=λki code=>run_sliceBound w ki l h.toNat code h0 (by omega)
 rcases hl with⟨rfl,rfl⟩|⟨kl,rfl⟩<;>rcases hh with⟨rfl,rfl⟩|⟨kh,rfl⟩
 ·simp[Instr.sliceBounds]
 ·simp[Instr.sliceBounds,hbh cap kh _ h2]
 ·have:=run_sliceBound (P:=P) w kl l len .sliceB h0 h1
  simp[Instr.sliceBounds,this]
 ·simp[Instr.sliceBounds,hbh cap kh _ h2,hbl]
theorem ox {t e:TypeId}{i:TypeInfo}(hu:P.underlying t=some (.slice e))(hi:P.info? e=some i){lo nM:Option Value}{l h:Int}{a:Option Addr}{len cap:Nat}(hl:mR lo 0 l)(hh:mR nM len h)(h0:0<=l)(h1:l<=h)(h2:h<=cap)(w:World):
  (Instr.sliceAt t (.slice a len cap) lo nM none).run P w= .ok (.slice (if cap=l.toNat then a else a.map (·.add (l.toNat*P.cellsOf e))) (h.toNat-l.toNat) (cap-l.toNat)) w:=by
 simp only[Instr.sliceAt,zd7,run_underlying hu,zd8,Instr.slice,zx hl hh h0 h1 h2,run_sizeOf w hi,zd9]
theorem L3 {t e:TypeId}{i:TypeInfo}{m:Nat}(hu:P.underlying t=some (.array m e))(hi:P.info? e=some i){lo nM:Option Value}{l h:Int}{a:Addr}(hl:mR lo 0 l)(hh:mR nM m h)(h0:0<=l)(h1:l<=h)(h2:h<=m)(w:World):
  (Instr.sliceAt t (.pointer (some a)) lo nM none).run P w= .ok (.slice (some (if m=l.toNat then a else a.add (l.toNat*P.cellsOf e))) (h.toNat-l.toNat) (m-l.toNat)) w:=by
 simp only[Instr.sliceAt,zd7,run_underlying hu,zd8,Instr.sureAddr,zx hl hh h0 h1 h2,run_sizeOf w hi,zd9]
theorem JM {t t' e:TypeId}{i:TypeInfo}{m:Nat}(ht:P.underlying t=some (.pointer t'))(hu:P.underlying t'=some (.array m e))(hi:P.info? e=some i){lo nM:Option Value}{l h:Int}{a:Addr}(hl:mR lo 0 l)(hh:mR nM m h)(h0:0<=l)(h1:l<=h)(h2:h<=m)(w:World):
  (Instr.sliceAt t (.pointer (some a)) lo nM none).run P w= .ok (.slice (some (if m=l.toNat then a else a.add (l.toNat*P.cellsOf e))) (h.toNat-l.toNat) (m-l.toNat)) w:=by
 simp only[Instr.sliceAt,zd7,run_underlying ht,run_underlying hu,zd8,Instr.slice,asAddr,zx hl hh h0 h1 h2,run_sizeOf w hi,zd9]
theorem Ck {t:TypeId}{m n:Nat}(ht:Dq P t m n=true){lo nM:Option Value}{l h:Int}{a:Addr}(hl:mR lo 0 l)(hh:mR nM m h)(h0:0<=l)(h1:l<=h)(h2:h<=m)(w:World):
  (Instr.sliceAt t (.pointer (some a)) lo nM none).run P w= .ok (.slice (some (if m=l.toNat then a else a.add (l.toNat*n))) (h.toNat-l.toNat) (m-l.toNat)) w:=by
 unfold Dq at ht;split at ht
 ·rename_i t' hp
  obtain⟨e,i,hu,hi,rfl⟩:=sJ ht;exact JM hp hu hi hl hh h0 h1 h2 w
 ·obtain⟨e,i,hu,hi,rfl⟩:=sJ ht
  exact L3 hu hi hl hh h0 h1 h2 w
theorem vM {b:Addr}{o n len room:Nat}{a:Addr}{l h:Nat}(h1:l<=h)(h2:h<=len)(h3:len<=room)(ha:a=Addr.at_ b o\/room=0):
  HR (Addr.at_ b (o+l*n)) (h-l) (room-l) (.slice (if room=l then some a else(some a).map (·.add (l*n))) (h-l) (room-l)):=by
 by_cases e:room=l
 ·rw[if_pos e]
  exact⟨a,room-l,rfl,by omega,rfl, .inr (by omega)⟩
 ·rw[if_neg e]
  rcases ha with rfl|ha
  ·exact⟨_,room-l,rfl,by omega,rfl, .inl (xY _ _ _)⟩
  ·omega
end AM
namespace AM
open Go
variable {α:Type}{P:Program}{base:Nat}
theorem GI {s:St}{id:Nat}{p:List Step}{off len:Nat}{N:Names}{D:Nat->Prop}{w:World}(S:kp N D w base s.h){nm:Nm}(hn:N id=some nm)(hp:(nm.row&&p.isEmpty)=true):GC s id p off len=nm.len-off\/GC s id p off len=len:=by
 unfold GC;split
 ·rename_i xs ho
  obtain⟨mN,h1,_,_,h4,_⟩:=S.obj id _ ho;rw[hn] at h1;cases h1;exact .inl (by rw[h4])
 ·exact .inr rfl
theorem PL {s:St}{id:Nat}{p:List Step}{off len:Nat}{N:Names}{D:Nat->Prop}{w:World}(S:kp N D w base s.h){nm:Nm}(hn:N id=some nm)(hp: ¬(nm.row&&p.isEmpty)=true):GC s id p off len=len:=by
 unfold GC;split
 ·rename_i xs ho
  obtain⟨mN,h1,h2,_⟩:=S.obj id _ ho;rw[hn] at h1;cases h1;simp[h2] at hp
 ·rfl
theorem L4 {dst ty pos after guard}{t:TypeId}{x:Operand}{lo hj:Option Operand}{st:St}{k:AV->St->Option α}{r:α}(h:HK P st t (st.ev x) lo hj k=some r):ow P base ⟨dst, .slice t x lo hj none,ty,pos,after,guard⟩ st k r:=by
 unfold HK at h;obtain⟨l,h,hl⟩:=rY h;split at h
 ·rename_i te xs e1
  replace h:=jx h;obtain⟨xg,h⟩:=h
  obtain⟨hh,h,Lq⟩:=rY h;replace h:=jw h;obtain⟨⟨h0,h1,h2⟩,h⟩:=h
  obtain⟨e,i,hu,hi,hsz⟩:=og xg;have L5:Yr (β:=te.den) lo hj l hh xs=(xs.take hh.toNat).drop l.toNat:=by
   rcases hl with⟨rfl,rfl⟩|⟨o,ki,rfl,_⟩<;>rcases Lq with⟨rfl,rfl⟩|⟨o',ki',rfl,_⟩<;>simp[Yr]
  rw[L5] at h;refine⟨_,_,h,lE.pure λN D w a s=>?_⟩;obtain⟨ba,cap,g1,g2,g3,g4⟩:=uR.1 (s.uI e1);simp only[zdM] at g1;have jT:=ox (P:=P) (a:=ba) (len:=aM (β:=te.den) xs) (cap:=cap) hu hi (mR.of s hl) (mR.of s Lq) h0 h1 (by simp only[aM] at g2⊢;omega) w
  refine⟨_,by simp only[execOp,g1,zd7,zeK,jT,zd8,zd9];rfl,uR.2 ?_⟩
  have hlen:aM (β:=te.den) ((xs.take hh.toNat).drop l.toNat)=hh.toNat-l.toNat:=by
   simp only[aM,zeb,zea];simp only[aM] at g2;omega
  refine⟨_,_,by rw[hlen],by rw[hlen];simp only[aM] at g2;omega,?_,?_⟩
  ·intro hn
   split at hn
   ·rw[g3 hn];omega
   ·cases hb:ba with
    |none=>rw[g3 hb];omega
    |some b=>rw[hb] at hn;cases hn
  ·intro ad F7 mb
   rw[hlen] at mb;split at F7
   ·exfalso;simp only[aM] at g2;omega
   ·cases hb:ba with
    |none=>rw[hb] at F7;cases F7
    |some b=>
     rw[hb] at F7;simp only[zdV,zdM] at F7;obtain⟨f1,f2,f3⟩:=g4 b hb (by simp only[aM];omega)
     obtain⟨bb,oo,sp⟩:=b;simp only at f1;subst f1;rw[oH] at F7;subst F7;refine⟨rfl,f2,λj y hy=>?_⟩;have hy':ko (β:=te.den) xs (l.toNat+j)=some y:=by
      simp only[ko] at hy⊢;rw[zed,zec] at hy;split at hy
      ·exact hy
      ·cases hy
     have:=f3 _ y hy';rw[hsz];have e2:(λq=>aX w ⟨bb,oo,none⟩ ((l.toNat+j)*te.size+q))=λq=>aX w ⟨bb,oo+l.toNat*te.size,none⟩ (j*te.size+q):=by
      funext q;simp only[aX,zd0,zd1]
     rw[<-e2];exact this
 ·rename_i e1
  replace h:=jx h;obtain⟨xg,h⟩:=h
  obtain⟨hh,h,Lq⟩:=rY h;obtain⟨⟨Gd,hh0⟩,hk⟩:=jw h;subst Gd;subst hh0;unfold Xo at xg;split at xg
  ·rename_i e hu
   obtain⟨i,hi⟩:=Option.isSome_iff_exists.1 xg;refine⟨_,_,hk,lE.pure λN D w a s=>?_⟩;have jT:=ox (P:=P) (a:=none) (len:=0) (cap:=0) hu hi (mR.of s hl) (mR.of s Lq) (zeL _) (zeL _) (zeL _) w;exact⟨_,by simp only[execOp,s.s8 e1,zd7,zeK,jT,zd8,zd9];rfl,eE.2 (by simp)⟩
  ·cases xg
 ·rename_i id off e1
  split at h
  ·rename_i ro te xs ho
   replace h:=jx h;obtain⟨xg,h⟩:=h
   obtain⟨e,i,hu,hi,hsz⟩:=og xg;split at h
   ·replace h:=jw h;obtain⟨⟨h0,h1⟩,h⟩:=h
    refine⟨_,_,h,lE.pure λN D w a s=>?_⟩;have hv:=s.uI e1;unfold cp at hv;simp only[AV.isAgg,jJ,an] at hv;obtain⟨nm,g1,g2,g3,g4,g5⟩:=hv;obtain⟨mN,i1,i2,i3,i4,_⟩:=s.nG.obj id _ ho;rw[g1] at i1;cases i1;cases hb:nm.base with
    |none=>
     rw[hb] at g5;obtain⟨g5,g6⟩:=g5;simp only[zdM] at g6;have Gd:l=0:=by simp only[aM] at i4;omega
     subst Gd;have jT:=ox (P:=P) (a:=none) (len:=0) (cap:=0) hu hi (mR.of s hl) (nM:=none) (.inl ⟨rfl,rfl⟩) (zeL _) (zeL _) (zeL _) w;refine⟨_,by simp only[execOp,g6,zd7,zeK,jT,zd8,zd9];rfl,?_⟩
     unfold cp;simp only[AV.isAgg,jJ,an];refine⟨nm,g1,g2,by simpa using g3,g4,?_⟩
     rw[hb];exact⟨g5,by simp⟩
    |some ba=>
     rw[hb] at g5;obtain⟨v,room,g6,g7,a',cap,rfl,g8,rfl,g9⟩:=g5;simp only[zdM] at g6;have hlen:(l:Int)<=((nm.len-off:Nat):Int):=by rw[i4];exact h1
     have jT:=ox (P:=P) (a:=some a') (len:=nm.len-off) (cap:=cap) hu hi (mR.of s hl) (nM:=none) (h:=((nm.len-off:Nat):Int)) (.inl ⟨rfl,rfl⟩) h0 hlen (by omega) w
     refine⟨_,by simp only[execOp,g6,zd7,zeK,jT,zd8,zd9];rfl,?_⟩
     unfold cp;simp only[AV.isAgg,jJ,an];refine⟨nm,g1,g2,by omega,g4,?_⟩
     rw[hb];have:=vM (b:=ba) (n:=nm.sh.size) (l:=l.toNat) (h:=nm.len-off) (by omega) (zd2 _) g8 g9
     refine⟨_,cap-l.toNat,rfl,by omega,?_⟩
     rw[zdI,hsz,show nm.len-(l.toNat+off)=nm.len-off-l.toNat by omega,show(l.toNat+off)*nm.sh.size=off*nm.sh.size+l.toNat*nm.sh.size by rw[zd0,zey]]
     rw[i3,iT] at this⊢;exact this
   ·rename_i nM
    obtain⟨kh,hh,eh,h⟩:=qM h;replace h:=jw h;obtain⟨⟨h0,h1,h2⟩,h⟩:=h
    refine⟨_,_,h,lE.pure λN D w a s=>?_⟩;have hv:=s.uI e1;unfold cp at hv;simp only[AV.isAgg,jJ,an] at hv;obtain⟨nm,g1,g2,g3,g4,g5⟩:=hv;obtain⟨mN,i1,i2,i3,i4,_⟩:=s.nG.obj id _ ho;rw[g1] at i1;cases i1;cases hb:nm.base with
    |none=>
     rw[hb] at g5;obtain⟨g5,g6⟩:=g5;simp only[zdM] at g6;have Gd:l=0/\hh=0:=by simp only[aM] at i4;omega
     obtain⟨rfl,rfl⟩:=Gd;have jT:=ox (P:=P) (a:=none) (len:=0) (cap:=0) hu hi (mR.of s hl) (nM:=some (.int kh 0)) (.inr ⟨kh,rfl⟩) (zeL _) (zeL _) (zeL _) w;refine⟨_,by simp only[execOp,g6,zd7,zeK,zdV,s.s8 eh,jT,zd8,zd9];rfl,?_⟩
     unfold cp;simp only[AV.isAgg,jJ,an];refine⟨nm,g1,?_⟩;rw[hb];exact⟨by simp[g2],by simp;omega,by simp,g5,by simp⟩
    |some ba=>
     rw[hb] at g5;obtain⟨v,room,g6,g7,a',cap,rfl,g8,rfl,g9⟩:=g5;simp only[zdM] at g6;have hlen:(hh:Int)<=((nm.len-off:Nat):Int):=by rw[i4];exact h2
     have jT:=ox (P:=P) (a:=some a') (len:=nm.len-off) (cap:=cap) hu hi (mR.of s hl) (nM:=some (.int kh hh)) (.inr ⟨kh,rfl⟩) h0 h1 (by omega) w
     refine⟨_,by simp only[execOp,g6,zd7,zeK,zdV,s.s8 eh,jT,zd8,zd9];rfl,?_⟩
     unfold cp;simp only[AV.isAgg,jJ,an];refine⟨nm,g1,?_⟩;rw[hb];simp only;rw[if_pos (by simp[g2])]
     have:=vM (b:=ba) (n:=nm.sh.size) (l:=l.toNat) (h:=hh.toNat) (by omega) (by omega) g8 g9
     refine⟨by omega,g4,_,cap-l.toNat,rfl,by omega,by omega,?_⟩
     rw[hsz,show(l.toNat+off)*nm.sh.size=off*nm.sh.size+l.toNat*nm.sh.size by rw[zd0,zey],show(hh-l).toNat=hh.toNat-l.toNat by omega]
     rw[i3,iT] at this⊢;exact this
  ·cases h
 ·rename_i id p off len e1
  split at h
  ·rename_i m YC
   replace h:=jx h;obtain⟨xg,h⟩:=h
   obtain⟨hh,h,Lq⟩:=rY h;replace h:=jw h;obtain⟨⟨h0,h1,h2⟩,h⟩:=h
   obtain⟨e,i,hu,hi,hsz⟩:=og xg;refine⟨_,_,h,lE.pure λN D w a s=>?_⟩;have hv:=s.uI e1;unfold cp at hv;simp only[AV.isAgg,jJ,an] at hv;obtain⟨nm,g1,g3⟩:=hv;cases g2:nm.base with
   |none=>
    rw[g2] at g3;obtain⟨g3,rfl,rfl,g4,g6⟩:=g3;simp only[zdM] at g6;have hrm:=GI (p:=p) (off:=0) (len:=0) s.nG g1 g3;have Gd:l=0/\hh=0:=by omega
    obtain⟨rfl,rfl⟩:=Gd;have jT:=ox (P:=P) (a:=none) (len:=0) (cap:=0) hu hi (mR.of s hl) (mR.of s Lq) (zeL _) (zeL _) (zeL _) w;refine⟨_,by simp only[execOp,g6,zd7,zeK,jT,zd8,zd9];rfl,?_⟩
    unfold cp;simp only[AV.isAgg,jJ,an];refine⟨nm,g1,?_⟩;rw[g2];exact⟨g3,by simp,by simp,g4,by simp⟩
   |some ba=>
   rw[g2] at g3;simp only at g3;rcases Cj YC s.nG g1 with⟨hp,H2⟩|⟨hp,m',e',H2,YD⟩
   ·rw[if_pos hp] at g3
    obtain⟨g4,g5,v,room,g6,g7,g8,a',cap,rfl,g9,rfl,YE⟩:=g3;simp only[zdM] at g6;have hrm:=GI (off:=off) (len:=len) s.nG g1 hp;have jT:=ox (P:=P) (a:=some a') (len:=len) (cap:=cap) hu hi (mR.of s hl) (mR.of s Lq) h0 h1 (by omega) w
    refine⟨_,by simp only[execOp,g6,zd7,zeK,jT,zd8,zd9];rfl,?_⟩
    unfold cp;simp only[AV.isAgg,jJ,an];refine⟨nm,g1,?_⟩;rw[g2];simp only;rw[if_pos hp];have:=vM (b:=ba) (n:=nm.sh.size) (l:=l.toNat) (h:=hh.toNat) (len:=cap) (by omega) (by omega) (zd2 _) YE
    refine⟨by omega,g5,_,cap-l.toNat,rfl,by omega,by omega,?_⟩
    rw[hsz,show(l.toNat+off)*nm.sh.size=off*nm.sh.size+l.toNat*nm.sh.size by rw[zd0,zey],show(hh-l).toNat=hh.toNat-l.toNat by omega]
    rw[H2] at this⊢;exact this
   ·rw[if_neg hp] at g3
    obtain⟨o,m2,e2,v,room,g4,JL,g7,g8,g9,a',cap,rfl,YE,rfl,g11⟩:=g3;simp only[zdM] at g8;rw[JL] at H2;cases H2;rw[PL s.nG g1 hp] at h2;have jT:=ox (P:=P) (a:=some a') (len:=len) (cap:=cap) hu hi (mR.of s hl) (mR.of s Lq) h0 h1 (by omega) w
    refine⟨_,by simp only[execOp,g8,zd7,zeK,jT,zd8,zd9];rfl,?_⟩
    unfold cp;simp only[AV.isAgg,jJ,an];refine⟨nm,g1,?_⟩;rw[g2];simp only;rw[if_neg hp];have:=vM (b:=ba) (n:=e'.size) (l:=l.toNat) (h:=hh.toNat) (by omega) (by omega) YE g11
    refine⟨o,m',e',_,cap-l.toNat,g4,JL,by omega,rfl,by omega,?_⟩
    rw[hsz,show o+(l.toNat+off)*e'.size=o+off*e'.size+l.toNat*e'.size by rw[zd0,zd1,zey (l.toNat*e'.size)],show(hh-l).toNat=hh.toNat-l.toNat by omega]
    rw[YD] at this⊢;exact this
  ·cases h
 ·rename_i id p e1
  split at h
  ·rename_i m e' hs
   replace h:=jx h;obtain⟨xg,h⟩:=h
   obtain⟨hh,h,Lq⟩:=rY h;replace h:=jw h;obtain⟨⟨h0,h1,h2⟩,h⟩:=h
   refine⟨_,_,h,lE.pure λN D w a s=>?_⟩;obtain⟨nm,ad,o,g1,g2,g3,g4⟩:=jC.1 (s.uI e1);have JL:=oe hs s.nG g1;have jT:=Ck (P:=P) (a:=Addr.at_ ad o) xg (mR.of s hl) (mR.of s Lq) h0 h1 h2 w;refine⟨_,by simp only[execOp,g4,zd7,zeK,jT,zd8,zd9];rfl,?_⟩
   unfold cp;simp only[AV.isAgg,jJ,an];refine⟨nm,g1,?_⟩;rw[g2];simp only;have hp: ¬(nm.row&&p.isEmpty)=true:=by
    intro hp;simp only[zdO,zeh] at hp;simp[Nm.Ln,hp.1,hp.2] at JL
   rw[if_neg hp];have:=vM (b:=ad) (o:=o) (n:=e'.size) (l:=l.toNat) (h:=hh.toNat) (len:=m) (room:=m) (a:=Addr.at_ ad o) (by omega) (by omega) (zd2 _) (.inl rfl)
   refine⟨o,m,e',_,m-l.toNat,g3,JL,by omega,rfl,by omega,?_⟩
   rw[show(hh-l).toNat=hh.toNat-l.toNat by omega]
   by_cases hm:m=l.toNat
   ·rw[if_pos hm] at this⊢;exact this
   ·rw[if_neg hm] at this⊢;exact this
  ·cases h
 ·rename_i m te xs e1
  replace h:=jx h;obtain⟨xg,h⟩:=h
  obtain⟨hh,h,Lq⟩:=rY h;replace h:=jw h;obtain⟨⟨h0,h1,h2⟩,h⟩:=h
  refine⟨_,_,h,lE.pure λN D w a s=>?_⟩;obtain⟨ad,g1,g2,g3,g4⟩:=qL.1 (s.uI e1);have jT:=Ck (P:=P) (a:=ad) xg (mR.of s hl) (mR.of s Lq) h0 h1 h2 w;refine⟨_,by simp only[execOp,g1,zd7,zeK,jT,zd8,zd9];rfl,uR.2 ?_⟩
  simp only[an] at g4;obtain⟨g5,g6⟩:=g4;have hlen:aM (β:=te.den) ((xs.take hh.toNat).drop l.toNat)=hh.toNat-l.toNat:=by
   simp only[aM,zeb,zea];simp only[aM] at g5;omega
  refine⟨_,_,by rw[hlen],by rw[hlen];omega,λh=>(by cases h),?_⟩
  intro ad' F7 mb;rw[hlen] at mb;rw[if_neg (by omega)] at F7
  simp only[zdM] at F7;obtain⟨bb,oo,sp⟩:=ad;simp only at g2;subst g2;rw[oH] at F7;subst F7;refine⟨rfl,g3,λj y hy=>?_⟩;have hy':ko (β:=te.den) xs (l.toNat+j)=some y:=by
   simp only[ko] at hy⊢;rw[zed,zec] at hy;split at hy
   ·exact hy
   ·cases hy
  have:=g6 _ y hy';have e2:(λq=>aX w ⟨bb,oo,none⟩ ((l.toNat+j)*te.size+q))=λq=>aX w ⟨bb,oo+l.toNat*te.size,none⟩ (j*te.size+q):=by
   funext q;simp only[aX,zd0,zd1]
  rw[<-e2];exact this
 ·cases h
theorem JN {dst ty pos after guard}{t:TypeId}{x mx:Operand}{lo hj:Option Operand}{st:St}{k:AV->St->Option α}{r:α}(h:DP P st t (st.ev x) lo hj mx k=some r):ow P base ⟨dst, .slice t x lo hj (some mx),ty,pos,after,guard⟩ st k r:=by
 unfold DP at h;obtain⟨l,h,hl⟩:=rY h;split at h
 ·cases h
 obtain⟨kh,hh,eh,h⟩:=qM h;obtain⟨km,m,em,h⟩:=qM h;split at h
 ·rename_i id off e1
  split at h
  ·rename_i ro te xs ho
   replace h:=jx h;obtain⟨xg,h⟩:=h
   obtain⟨e,i,hu,hi,hsz⟩:=og xg;replace h:=jw h;obtain⟨⟨h0,h1,h2,h3⟩,h⟩:=h
   refine⟨_,_,h,lE.pure λN D w a s=>?_⟩;have hv:=s.uI e1;unfold cp at hv;simp only[AV.isAgg,jJ,an] at hv;obtain⟨nm,g1,g2,g3,g4,g5⟩:=hv;obtain⟨mN,i1,i2,i3,i4,_⟩:=s.nG.obj id _ ho;rw[g1] at i1;cases i1;have hx: ∃b n c,a.eval x= .slice b n c/\m<=c:=by
    cases hb:nm.base with
    |none=>
     rw[hb] at g5;obtain⟨g5,g6⟩:=g5;simp only[zdM] at g6;exact⟨_,_,_,g6,by simp only[aM] at i4;omega⟩
    |some ba=>
     rw[hb] at g5;obtain⟨v,room,g6,g7,a',cap,rfl,g8,rfl,g9⟩:=g5;simp only[zdM] at g6;exact⟨_,_,_,g6,by simp only[aM] at i4;omega⟩
   obtain⟨b,n,c,hx,hmc⟩:=hx;have r1:(Instr.sliceBound (.int km m) c .slice3Acap).run P w= .ok m.toNat w:=run_sliceBound w km m c .slice3Acap (by omega) hmc
   have r2:(Instr.sliceBound (.int kh hh) m.toNat .slice3B).run P w= .ok hh.toNat w:=run_sliceBound w kh hh m.toNat .slice3B (by omega) (by omega)
   have hb:(Instr.sliceBounds true n c (lo.map a.eval) (some (.int kh hh)) (some (.int km m))).run P w= .ok (l.toNat,hh.toNat,m.toNat) w:=by
    rcases mR.of s hl with⟨q1,rfl⟩|⟨kl,q1⟩
    ·rw[q1];simp[Instr.sliceBounds,r1,r2]
    ·have r3:(Instr.sliceBound (.int kl l) hh.toNat .slice3C).run P w= .ok l.toNat w:=run_sliceBound w kl l hh.toNat .slice3C h0 (by omega)
     rw[q1];simp[Instr.sliceBounds,r1,r2,r3]
   refine⟨_,by simp only[execOp,hx,zd7,zdV,s.s8 eh,s.s8 em,Instr.sliceAt,run_underlying hu,zd8,Instr.slice,hb,run_sizeOf w hi,zd9];rfl,py⟩
  ·cases h
 ·cases h
end AM
namespace AM
open Go
variable {α:Type}{P:Program}{base:Nat}
def eC (N:Names)(D:Nat->Prop)(w:World)(t:Ty)(xs:List t.den)(g:Nat->Option Value):Prop:= ∀i (x:t.den),ko (β:=t.den) xs i=some x->iI N D w t x (λj=>g (i*t.size+j))
theorem R3 {i n s j:Nat}(hi:i<n)(hj:j<s):i*s+j<n*s:=by
 have:(i+1)*s<=n*s:=zdZ _ hi;rw[zd0] at this;omega
theorem iI.func {N:Names}{D:Nat->Prop}{w:World}{t:Ty}{x:t.den}{g g':Nat->Option Value}(h:iI N D w t x g)(e: ∀j,g j=g' j):iI N D w t x g':=by
 rw[<-funext e];exact h
section
variable {N:Names}{D:Nat->Prop}{w:World}{t:Ty}
theorem yC {xs:List t.den}{i:Nat}{x:t.den}(h:ko (β:=t.den) xs i=some x):i<aM (β:=t.den) xs:=(List.getElem?_eq_some_iff.1 h).1
theorem eC.congr {xs:List t.den}{g g':Nat->Option Value}(h:eC N D w t xs g)(e: ∀j,j<aM (β:=t.den) xs*t.size->g j=g' j):eC N D w t xs g':=
 λi x hx=>jv t x _ _ (λj hj=>e _ (R3 (yC hx) hj)) (h i x hx)
theorem eC.mono {D':Nat->Prop}{w':World}{xs:List t.den}{g:Nat->Option Value}(h:eC N D w t xs g)(hD: ∀b,D b->D' b)(hw: ∀b,D b->w'.heap[b]?=w.heap[b]?):eC N D' w' t xs g:=
 λi x hx=>kK (Names.le_refl _) hD hw _ _ _ (h i x hx)
theorem eC.Oh {N':Names}{D':Nat->Prop}{w':World}{xs:List t.den}{g:Nat->Option Value}(h:eC N D w t xs g)(hN:N.le N')(hD: ∀b,D b->D' b)(hw: ∀b,D b->w'.heap[b]?=w.heap[b]?):eC N' D' w' t xs g:=
 λi x hx=>kK hN hD hw _ _ _ (h i x hx)
theorem eC.cell {xs:List t.den}{g:Nat->Option Value}(h:eC N D w t xs g){j:Nat}(hj:j<aM (β:=t.den) xs*t.size): ∃c,g j=some c/\c.oneCell'=true:=
 rT (.arr (aM (β:=t.den) xs) t) xs g ⟨rfl,h⟩ j hj
theorem eC.cells {xs:List t.den}{g:Nat->Option Value}(h:eC N D w t xs g): ∃cs:List Value,cs.length=aM (β:=t.den) xs*t.size/\(∀j v,cs[j]?=some v->g j=some v)/\eC N D w t xs (cs[·]?)/\∀v∈cs,v.oneCell'=true:=by
 refine⟨(List.range (aM (β:=t.den) xs*t.size)).map λj=>(g j).getD Go.undef,by simp,λj v hv=>?_,h.congr λj hj=>?_,λv hv=>?_⟩
 ·simp only[zeM,zeC] at hv
  obtain⟨i,hi,rfl⟩:=hv;obtain⟨hi1,YG⟩:=List.getElem?_eq_some_iff.1 hi;simp at hi1 YG;subst YG;obtain⟨c,h1,_⟩:=h.cell hi1;rw[h1];rfl
 ·obtain⟨c,h1,_⟩:=h.cell hj
  simp[hj,h1]
 ·simp only[List.mem_map,List.mem_range] at hv
  obtain⟨j,hj,rfl⟩:=hv;obtain⟨c,h1,h2⟩:=h.cell hj;rw[h1];exact h2
theorem eC.nil {g:Nat->Option Value}:eC N D w t [] g:=λi x hx=>by simp[ko] at hx
theorem eC.append {xs ys:List t.den}{g:Nat->Option Value}(h1:eC N D w t xs g)(h2:eC N D w t ys (λj=>g (aM (β:=t.den) xs*t.size+j))):eC N D w t (xs++ys:List t.den) g:=by
 intro i x hx;by_cases hi:i<aM (β:=t.den) xs
 ·exact h1 i x (by simp only[ko] at hx⊢;rwa [zew hi] at hx)
 ·have Cf:ko (β:=t.den) ys (i-aM (β:=t.den) xs)=some x:=by
   simp only[ko] at hx⊢;rwa [zex (Nat.le_of_not_lt hi)] at hx
  have:=h2 _ x Cf;refine this.func λj=>?_;simp only;rw[<-zd1,<-zd0,Nat.add_sub_cancel' (Nat.le_of_not_lt hi)]
theorem eC.rv {xs ys:List t.den}{cs ds:List Value}(h1:eC N D w t xs (cs[·]?))(hl:cs.length=aM (β:=t.den) xs*t.size)(h2:eC N D w t ys (ds[·]?)):eC N D w t (xs++ys:List t.den) ((cs++ds)[·]?):=by
 refine eC.append (h1.congr λj hj=>?_) ?_
 ·rw[zew (by omega)]
 ·have e:(λj=>(cs++ds)[aM (β:=t.den) xs*t.size+j]?)=(ds[·]?):=by
   funext j
   rw[<-hl,zex (by omega),Nat.add_sub_cancel_left]
  rw[e];exact h2
theorem eC.more {xs:List t.den}{cs ds:List Value}(h1:eC N D w t xs (cs[·]?))(hl:cs.length=aM (β:=t.den) xs*t.size):eC N D w t xs ((cs++ds)[·]?):=
 h1.congr λj hj=>by rw[zew (by omega)]
theorem eC.take {xs:List t.den}{g:Nat->Option Value}(n:Nat)(h:eC N D w t xs g):eC N D w t (xs.take n:List t.den) g:=λi x hx=>h i x (by
 simp only[ko] at hx⊢;rw[zec] at hx;split at hx
 ·exact hx
 ·cases hx)
theorem eC.drop {xs:List t.den}{g:Nat->Option Value}(n:Nat)(h:eC N D w t xs g):eC N D w t (xs.drop n:List t.den) (λj=>g (n*t.size+j)):=λi x hx=>by
 have:=h (n+i) x (by simp only[ko] at hx⊢;rwa [zed] at hx)
 rw[show(λj=>g (n*t.size+(i*t.size+j)))=λj=>g ((n+i)*t.size+j) by funext j;rw[zd0,zd1]]
 exact this
theorem eC.JO (n:Nat){z:Array Value}(hz:z.toList=m9 t (iL t)){g:Nat->Option Value}(hg: ∀j,j<n*t.size->g j=z[j%t.size]?):eC N D w t (List.replicate n (iL t)) g:=by
 intro i x hx;have hi:i<n:=by have:=yC hx;simpa [aM] using this
 simp only[ko,zeA,hi,if_true,zdM] at hx;subst hx;refine rV t _ λj hj=>?_;rw[hg _ (R3 hi hj),Nat.mul_comm,Nat.mul_add_mod,Nat.mod_eq_of_lt hj,<-hz];simp
end
def R4 (N:Names)(D:Nat->Prop)(w:World)(t:Ty)(xs:List t.den)(c:Value):Prop:= ∃a cap,c= .slice a (aM (β:=t.den) xs) cap/\aM (β:=t.den) xs<=cap/\(a=none->cap=0)/\∀ad,a=some ad->aM (β:=t.den) xs≠0->ad.spot=none/\eC N D w t xs (aX w ad)
theorem wH {N:Names}{D:Nat->Prop}{w:World}{t:Ty}{xs:List t.den}{a:Addr}{off len room:Nat}{v:Value}(hx:eC N D w t xs (aX w a))
  (hv:HR (Addr.at_ a (off*t.size)) len room v) (hl:off+len<=aM (β:=t.den) xs):R4 N D w t ((xs.drop off).take len:List t.den) v:=by
 obtain⟨a',cap,rfl,h1,rfl,h2⟩:=hv;have e:aM (β:=t.den) ((xs.drop off).take len)=len:=by simp only[aM,zea,zeb];simp only[aM] at hl;omega
 refine⟨some a',cap,by rw[e],by rw[e];exact h1,(by intro h;cases h),λad F7 mb=>?_⟩
 cases F7;rw[e] at mb;rcases h2 with rfl|h2
 ·refine⟨rfl,?_⟩
  have:=(hx.drop off).take len;have e2:(λj=>aX w a (off*t.size+j))=aX w (Addr.at_ a (off*t.size)):=by
   funext j;simp only[aX,Addr.at_,zd1]
  rw[<-e2];exact this
 ·omega
theorem uU {s:St}{t:Ty}{v:AV}{k:List t.den->List Nat->Option α}{r:α}(h:qv s t v k=some r):
  ∃xs ids,k xs ids=some r/\∀N D w base,kp N D w base s.h->∀c,cp N D w v c->R4 N D w t xs c:=by
 unfold qv at h;split at h
 ·rename_i t' zs
  split at h
  ·rename_i ys hc
   obtain⟨rfl,rfl⟩:=iU hc;refine⟨_,_,h,λN D w base S c hv=>?_⟩;obtain⟨a,cap,h1,h2,h3,h4⟩:=uR.1 hv;simp only[zdM] at h1;exact⟨a,cap,h1,h2,h3,λad ha mb=>⟨(h4 ad ha mb).1,(h4 ad ha mb).2.2⟩⟩
  ·cases h
 ·refine⟨_,_,h,λN D w base S c hv=>?_⟩
  rw[eE.1 hv];exact⟨none,0,rfl,by simp[aM],λ_=>rfl,(by intro ad ha;cases ha)⟩
 ·rename_i id off
  split at h
  ·rename_i ro t' xs ho
   split at h
   ·rename_i ys hc
    obtain⟨rfl,rfl⟩:=iU hc;refine⟨_,_,h,λN D w base S c hv=>?_⟩;simp only[cp,AV.isAgg,jJ,an] at hv;obtain⟨nm,h1,h2,h3,h4,h5⟩:=hv;obtain⟨mN,e1,e2,e3,e4,e5,e6⟩:=S.obj id _ ho;rw[h1] at e1;cases e1;cases hb:nm.base with
    |none=>
     rw[hb] at h5;obtain⟨h6,h7⟩:=h5;have HU:aM (β:=t'.den) ys=0:=by omega
     have hxe:ys=[]:=zef HU;subst hxe;simp only[zdM] at h7;subst h7;exact⟨none,0,by simp[aM],by simp[aM],λ_=>rfl,(by intro ad ha;cases ha)⟩
    |some a=>
     rw[hb] at h5 e6;obtain⟨u,room,h6,h7,h8⟩:=h5;simp only[zdM] at h6;subst h6;obtain⟨_,_,_,xE⟩:=e6;rw[e3,iT] at h8;have:=wH (off:=off) (len:=nm.len-off) xE h8 (by omega)
     rwa [zeg (by simp only[aM] at e4;simp;omega)] at this
   ·cases h
  ·cases h
 ·rename_i id p off len
  split at h
  ·rename_i mO
   simp only[zdO,zeh] at mO;obtain⟨rfl,mO⟩:=mO;split at h;rotate_left
   ·cases h
   rename_i ro t' xs ho;split at h
   ·rename_i ys hc
    obtain⟨rfl,rfl⟩:=iU hc;refine⟨_,_,h,λN D w base S c hv=>?_⟩;simp only[cp,AV.isAgg,jJ,an] at hv;obtain⟨nm,h1,hv⟩:=hv;obtain⟨mN,e1,e2,e3,e4,e5,e6⟩:=S.obj id _ ho;rw[h1] at e1;cases e1;cases h2:nm.base with
    |none=>
     rw[h2] at hv;obtain⟨_,rfl,rfl,_,h7⟩:=hv;simp only[zdM] at h7;subst h7;exact⟨none,0,by simp[aM],by simp[aM],λ_=>rfl,(by intro ad ha;cases ha)⟩
    |some a=>
    rw[h2] at hv;simp only at hv;rw[if_pos (by simp[e2])] at hv
    obtain⟨h4,h5,u,room,h6,h7,h8,h9⟩:=hv;rw[h2] at e6;simp only[zdM] at h6;subst h6;obtain⟨_,_,_,xE⟩:=e6;rw[e3,iT] at h9;exact wH (off:=off) (len:=len) xE h9 (by omega)
   ·cases h
  ·rename_i mO
   obtain⟨u,h,yS,qU⟩:=pN h;split at h;rotate_left
   ·cases h
   rename_i n t' xs;split at h;rotate_left
   ·cases h
   rename_i ys hc;obtain⟨rfl,rfl⟩:=iU hc;refine⟨_,_,h,λN D w base S c hv=>?_⟩;simp only[cp,AV.isAgg,jJ,an] at hv;obtain⟨nm,h1,hv⟩:=hv;have Lo:=xS (by simpa using mO) yS S h1
   cases h2:nm.base with
   |none=>
    rw[h2] at hv;obtain⟨h3,_⟩:=hv;rw[Lo] at h3;cases h3
   |some a=>
    rw[h2] at hv;simp only at hv;rw[if_neg (by rw[Lo];simp)] at hv
    obtain⟨o,n',e,u,room,h3,h4,h5,h6,h7,h8⟩:=hv;simp only[zdM] at h6;subst h6;obtain⟨g1,g2,_⟩:=qU N D w base S nm a o h1 h2 h3;simp only[an,iI] at g2;have Lp:=Bl yS S h1;rw[h4] at Lp;simp only[AV.sh,zdM,Sh.arr.injEq] at Lp;obtain⟨rfl,rfl⟩:=Lp;have hlen:aM (β:=t'.den) ys=n':=g2.1;refine wH (a:=Addr.at_ a o) (off:=off) (len:=len) (room:=room) (λi x hi=>?_) (by rw[iT] at h8;simpa [Addr.at_,zd1] using h8) (by omega)
    refine jv _ _ _ _ (λj _=>?_) (g2.2 i x hi);simp only[aX,Addr.at_,zd1]
 ·cases h
theorem kp.R5 {N:Names}{D:Nat->Prop}{w:World}{base:Nat}{h:Nat->Option gi}(S:kp N D w base h){id:Nat}(im:h id=none)(nm:Nm):N.le (N.up λi=>if i=id then some nm else N i):=
 Names.RR λi mN h'=>by
 by_cases e:i=id
 ·subst e;exact absurd im (S.named _ _ h')
 ·rw[if_neg e];exact h'
theorem kp.H3 {N:Names}{D:Nat->Prop}{w:World}{base:Nat}{h:Nat->Option gi}(S:kp N D w base h){id:Nat}{t:Ty}{xs:List t.den}(im:h id=none)(w1:World)(cells:Array Value)(ty:TypeId)(fz:Nat×Nat)(cap:Nat)
  (hw1:w1.heap=w.heap) (RW:w1.os=w.os) (htp:w1.tape=w.tape) (jD:w1.output=w.output) (hle:aM (β:=t.den) xs<=cap) (hsz:cap*t.size<=cells.size) (hfz:fz=(0,0)\/cells.size<=fz.1/\t= .int .u8) (hr:eC N D w t xs (cells[·]?)):
   ∃N',kp N' D (w1.alloc (.cells cells ty fz)) base (kC h id (.row false t xs))/\Ext N D w h N' D (w1.alloc (.cells cells ty fz)) (kC h id (.row false t xs))/\cp N' D (w1.alloc (.cells cells ty fz)) (.tail id 0) (.slice (some ⟨w.heap.size,0,none⟩) (aM (β:=t.den) xs) cap):=by
 have vK:(w1.alloc (.cells cells ty fz)).heap=w.heap.push (.cells cells ty fz):=by rw[<-hw1];rfl
 have rn:(w1.alloc (.cells cells ty fz)).heap[w.heap.size]?=some (.cells cells ty fz):=by rw[vK];simp
 have mQ: ∀b,b<w.heap.size->(w1.alloc (.cells cells ty fz)).heap[b]?=w.heap[b]?:=λb hb=>by rw[vK,zer,if_neg (by omega)]
 let nm:Nm:=⟨some ⟨w.heap.size,0,none⟩,sC t,true,aM (β:=t.den) xs,cap⟩
 obtain⟨N',n1,n2,n3⟩:=S.make (w':=w1.alloc (.cells cells ty fz)) (o:= .row false t xs) (nm:=nm) im RW htp jD (by rw[vK];simp) mQ (λa ha=>by cases ha;rw[vK];simp) (by
  refine⟨nm,Names.Cg,rfl,rfl,rfl,hle,?_⟩;show _/\_/\_/\_
  refine⟨rfl,⟨cells,ty,fz,rn,by simpa [nm] using hsz,λ_=>hfz⟩,?_,λi x hx=>?_⟩
  ·simp only[zdN,if_false]
   exact⟨S.size,λhd=>Nat.lt_irrefl _ (S.frozen _ hd)⟩
  ·have e:(λj=>aX (w1.alloc (.cells cells ty fz)) ⟨w.heap.size,0,none⟩ (i*t.size+j))=λj=>cells[i*t.size+j]?:=by
    funext j
    unfold aX World.cell?;rw[rn];simp
   rw[e];exact kK (S.R5 im nm) (λ_ h=>h) (λb hb=>mQ b (S.frozen b hb)) _ _ _ (hr i x hx))
 refine⟨N',n2,n3,?_⟩;unfold cp;simp only[AV.isAgg,jJ,an];refine⟨nm,n1,rfl,zeN _,hle,?_⟩;show∃v room,_
 exact⟨_,cap,rfl,by simp[nm],_,_,rfl,hle,rfl, .inl (by simp[Addr.at_])⟩
theorem Ak {s:St}{id:Nat}{o:gi}{k:St->Option α}{r:α}(h:s.new id o k=some r):s.h id=none/\k (s.set id o)=some r:=by
 unfold St.new at h;split at h
 ·exact⟨‹_›,h⟩
 ·cases h
theorem Oi {s:St}{id:Nat}{t:Ty}{xs:List t.den}{k:St->Option α}{r:α}(h:s.new id (.row false t xs) k=some r):
  ∃s',k s'=some r/\s'.t=s.t/\s'.nt=s.nt/\s'.ep=s.ep/\(∀j,j≠id->s'.h j=s.h j)/\∀N D w base,kp N D w base s.h->∀(w1:World) (cells:Array Value) (ty:TypeId) (fz:Nat×Nat) (cap:Nat),
   w1.heap=w.heap->w1.os=w.os->w1.tape=w.tape->w1.output=w.output->aM (β:=t.den) xs<=cap->cap*t.size<=cells.size->(fz=(0,0)\/cells.size<=fz.1/\t= .int .u8)->eC N D w t xs (cells[·]?)->
   ∃N',kp N' D (w1.alloc (.cells cells ty fz)) base s'.h/\Ext N D w s.h N' D (w1.alloc (.cells cells ty fz)) s'.h/\cp N' D (w1.alloc (.cells cells ty fz)) (.tail id 0) (.slice (some ⟨w.heap.size,0,none⟩) (aM (β:=t.den) xs) cap):=by
 obtain⟨im,hk⟩:=Ak h;exact⟨_,hk,rfl,rfl,rfl,λj hj=>by simp[St.set,hj],λN D w base S w1 cells ty fz cap h1 h2 h3 h4 h5 h6 h7 h8=>S.H3 im w1 cells ty fz cap h1 h2 h3 h4 h5 h6 h7 h8⟩
theorem tT: ∀(n:Nat) (t:TypeId) (te:Ty) (v:AV),vG P n t=some te->zeroOf P n t=some v->qZ v=m9 te (iL te)
 |0,_,_,_,h,_=>by simp[vG] at h
 |n+1,t,te,v,h1,h2=>by
  unfold vG at h1;unfold zeroOf at h2;split at h1
  ·rename_i k hu;rw[hu] at h2;simp only[zdM] at h1 h2;subst h1;subst h2;simp[qZ,m9,iL]
  ·rename_i hu;rw[hu] at h2;simp only[zdM] at h1 h2;subst h1;subst h2;simp[qZ,m9,iL]
  ·rename_i hu;rw[hu] at h2;simp only[zdM] at h1 h2;subst h1;subst h2;simp[qZ,m9,iL]
  ·rename_i fs hu
   rw[hu] at h2;simp only[zeC] at h2;obtain⟨vs,h2,rfl⟩:=h2;have key: ∀(l:List Field) (te:Ty) (vs:List AV),l.foldr (λf acc=>match vG P n f.type,acc with|some a,some b=>some (Ty.cons a b)|_,_=>none) (some .nil)=some te->
     l.foldr (λf acc=>match zeroOf P n f.type,acc with|some a,some b=>some (a::b)|_,_=>none) (some [])=some vs->rQ vs=m9 te (iL te):=by
    intro l;induction l with
    |nil=>intro te vs h1 h2;simp only[List.foldr_nil,zdM] at h1 h2;subst h1;subst h2;rfl
    |cons f l ih=>
     intro te vs h1 h2;simp only[zeB] at h1 h2;split at h1
     ·rename_i a b g1 g2
      simp only[zdM] at h1;subst h1;split at h2
      ·rename_i a' b' g3 g4
       simp only[zdM] at h2;subst h2;simp only[rQ,tT n _ _ _ g1 g3,ih _ _ g2 g4,m9,iL]
      ·cases h2
     ·cases h1
   rw[yB];exact key _ _ _ h1 h2
  ·rename_i m e hu
   rw[hu] at h2;simp only[zeC] at h1;obtain⟨te1,g1,rfl⟩:=h1;simp only at h2;split at h2
   ·rename_i hs
    simp only[zdM] at h2;subst h2;have hz:zeroOf P n e=some (.val (.slice none 0 0)):=by
     unfold np at hs;split at hs
     ·rename_i e' hu'
      cases n with
      |zero=>simp[vG] at g1
      |succ n=>unfold zeroOf;rw[hu']
     ·cases hs
    have ih:=tT n e te1 _ g1 hz;have key: ∀m,rQ (List.replicate m (.val (.slice none 0 0)))=(List.replicate m (iL te1)).flatMap (m9 te1):=by
     intro m;induction m with
     |zero=>rfl
     |succ m ihm=>simp only[zes,rQ,zet,ihm,ih]
    rw[yB,key];simp only[m9,iL]
   ·simp only[zeC] at h2
    obtain⟨te2,g2,rfl⟩:=h2;rw[g1] at g2;cases g2;simp only[qZ,m9,iL]
  ·rename_i e hu
   rw[hu] at h2;simp only[zeC] at h1;obtain⟨te1,g1,rfl⟩:=h1;simp only[zdM] at h2;subst h2;simp[qZ,m9,iL]
  ·rename_i hu;rw[hu] at h2;simp only[zdM] at h1 h2;subst h1;subst h2;simp[qZ,m9,iL]
  ·cases h1
end AM
namespace AM
open Go
variable {α:Type}{P:Program}{base:Nat}
theorem qB {t e:TypeId}{te:Ty}(h:zX P t=some (e,te)):P.underlying t=some (.slice e)/\vG P 12 e=some te/\te.size=P.cellsOf e/\1<=P.bytesOf e/\∃i,P.info? e=some i/\i.size=te.size/\i.bytes=P.bytesOf e/\∃z,i.zero=some z/\z.cells.size=te.size:=by
 unfold zX at h;split at h
 ·rename_i e' hu
  split at h
  ·rename_i Yp ht
   split at h
   ·rename_i hs
    simp only[zdM,Prod.mk.injEq] at h;obtain⟨rfl,rfl⟩:=h;obtain⟨⟨d,hd⟩,_⟩:=D8 12 _ _ ht;obtain⟨i,hi⟩:=info_of_underlying hd;refine⟨hu,ht,hs.1,hs.2.1,i,hi,?_,?_,?_⟩
    ·rw[hs.1];simp[Program.cellsOf,hi]
    ·simp[Program.bytesOf,hi]
    ·have hz:=hs.2.2
     unfold NY at hz;split at hz
     ·rename_i z hz2
      rw[hi] at hz2;exact⟨z,hz2,by simpa using hz⟩
     ·cases hz
   ·cases h
  ·cases h
 ·cases h
theorem H4:room=70368744177664:=by decide
theorem Ea {dst ty pos after guard}{t:TypeId}{x y:Operand}{st:St}{id:Nat}(oT:id=name st.ep (dst.getD 999) 0){k:AV->St->Option α}{r:α}(h:xK P st id t (st.ev x) (st.ev y) k=some r):ow P base ⟨dst, .makeSlice t x y,ty,pos,after,guard⟩ st k r:=by
 unfold xK at h;split at h
 ·rename_i e te he
  obtain⟨hu,Og,hsz,hb,i,hi,vO,R6,_⟩:=qB he;obtain⟨ka,n,ea,h⟩:=qM h;obtain⟨kb,m,eb,h⟩:=qM h;obtain⟨⟨h1,h2,h3⟩,hk⟩:=jw h;subst h1;obtain⟨v,i',z,PM,nM,hz,YH,zy,_,_⟩:=rX hk;rw[hi] at nM;cases nM;obtain⟨s',g1,g2,g3,g4,Jr,g5⟩:=Oi PM;refine⟨_,_,g1,g2,g3,g4,λj _ hj=>Jr j (λe=>by subst e;subst oT;simp[qI,makes,ru] at hj),λN D w a s=>?_⟩
  have vP:=tT 12 e te v Og YH;rw[<-zy] at vP;have uJ:z.cells.size=te.size:=by rw[<-ni te,<-vP];simp
  rw[H4] at h3;have hn:n<=70368744177664:=by
   have:n*1<=n*(P.bytesOf e:Int):=Int.mul_le_mul_of_nonneg_left (by omega) h2
   omega
  have jT:=run_make (P:=P) w t e i z hu hi hz ka kb n n h2 (zeL _) (by rw[R6,Int.mul_comm];omega) (by omega)
  obtain⟨N',n1,n2,n3⟩:=g5 N D w base s.nG w (madeCells z.cells (n.toNat*i.size)) e (0,0) n.toNat rfl rfl rfl rfl (by simp[aM]) (by rw[size_madeCells,vO];exact zd2 _) (.inl rfl) (by
   refine eC.JO n.toNat vP λj hj=>?_;have hp:0<te.size:=by
    rcases zd6 te.size with q|q
    ·rw[q] at hj;omega
    ·exact q
   have hm:j%te.size<z.cells.size:=by rw[uJ];exact Nat.mod_lt _ hp
   simp only[madeCells,vO];rw[Array.getElem?_map,Array.getElem?_range,if_pos hj];rw[uJ,zdV,getElem!_pos z.cells _ hm,zeo hm])
  rw[show aM (β:=te.den) (List.replicate n.toNat (iL te))=n.toNat by simp[aM]] at n3
  refine⟨N',D,_,_, .inl ?_,n2,n1,n3⟩;simp only[execOp,s.s8 ea,s.s8 eb,zd7,jT,zd8,zd9,vO]
 ·cases h
end AM
namespace AM
open Go
variable {α:Type}{P:Program}{base:Nat}
structure xZ (P:Program)(tys:Array TypeId)(rt e:TypeId)(i:TypeInfo)(z:Value)(w:World)(x:Value)(n:Nat)(cs:List Value):Prop where
 fits: ∀b pz vQ,pz+n<=vQ->(Builtin.append_ tys rt #[.slice b pz vQ,x]).run P w=(match b with|none=> .ok (.slice b (pz+n) vQ) w|some a=>((storeCells (a.add (pz*i.size)) cs).run P w).andThen λ_ w'=> .ok (.slice b (pz+n) vQ) w')
 zaI: ∀b pz vQ,vQ<pz+n->(pz+n)*i.bytes<=70368744177664->∀olds:List Value,(Builtin.firstCells i.size pz (.slice b pz vQ)).run P w.drew= .ok olds.toArray w.drew->
  (Builtin.append_ tys rt #[.slice b pz vQ,x]).run P w= .ok (.slice (some ⟨w.heap.size,0,none⟩) (pz+n) (grownCap w (pz+n) vQ e)) (w.drew.alloc (.cells (olds++cs++(Builtin.zeroCells z.cells (grownCap w (pz+n) vQ e-(pz+n))).toList).toArray e))
theorem zdu (a:Array Value)(cs:List Value)(b:Array Value):a++cs.toArray++b=(a.toList++cs++b.toList).toArray:=by
 apply Array.ext';simp
theorem xZ.of {tys:Array TypeId}{t u rt e:TypeId}{i:TypeInfo}{z:Value}{w:World}{x:Value}{n:Nat}{cs:List Value}(h0:tys[0]?=some t)(h1:tys[1]?=some u)(ht:P.underlying t=some (.slice e))(hi:P.info? e=some i)(hz:i.zero=some z)(hb:1<=i.bytes)
  {d:TypeDesc} (hu:P.underlying u=some d) (hd: ∀k,d≠ .int k) (hl: ∀w',(Builtin.lenOf x).run P w'= .ok n w') (hf:(Builtin.firstCells i.size n x).run P w= .ok cs.toArray w) (xX:(Builtin.firstCells i.size n x).run P w.drew= .ok cs.toArray w.drew):xZ P tys rt e i z w x n cs:=by
 constructor
 ·intro b pz vQ lB
  simp only[Builtin.append_,h0,h1];cases b<;>simp[run_underlying ht,run_underlying hu,Go.sizeOf,typeInfo,hi,hl,lB,hf]
 ·intro b pz vQ hg Rr olds ho
  have Vn:pz+n<=70368744177664:=by
   have:(pz+n)*1<=(pz+n)*i.bytes:=Nat.mul_le_mul_left _ hb;omega
  have h48: ¬(281474976710656<Builtin.nextslicecap (pz+n) vQ*i.bytes):=by
   have:=growslice_fits (old:=vQ) (need:=pz+n) (bytes:=i.bytes) hg (by omega)
   omega
  have hn: ¬(pz+n<=vQ):=by omega
  have h63: ¬(9223372036854775807<((pz:Int)+(n:Int))):=by omega
  simp only[Builtin.append_,h0,h1];simp[run_underlying ht,run_underlying hu,Go.sizeOf,typeInfo,zeroValue,hi,hz,hl,hn,h63,h48,Question.forced,xX,ho,newRow,grownCap];congr 2
  apply Array.ext';simp
theorem wrap_small {n:Int}(h0:0<=n)(h1:n<=70368744177664):IntKind.i64.wrap n=n:=by rw[IntKind.wrap_i64];omega
theorem xZ.JO {tys:Array TypeId}{t u rt e:TypeId}{i:TypeInfo}{z:Value}{w:World}{n:Int}(h0:tys[0]?=some t)(h1:tys[1]?=some u)(ht:P.underlying t=some (.slice e))(hi:P.info? e=some i)(hz:i.zero=some z)(hb:1<=i.bytes)
  {k k':IntKind} (hu:P.underlying u=some (.int k)) (XB:0<=n) (H5:n*(i.bytes:Int)<=70368744177664) (hs:z.cells.size=i.size):xZ P tys rt e i z w (.int k' n) n.toNat (Builtin.zeroCells z.cells n.toNat).toList:=by
 have hnn:n<=70368744177664:=by
  have:n*1<=n*(i.bytes:Int):=Int.mul_le_mul_of_nonneg_left (by omega) XB
  omega
 have hw:=wrap_small XB hnn;have Vo: ¬n<0:=by omega
 have Ge: ¬(281474976710656<n*(i.bytes:Int)):=by omega
 have hzero:n.toNat*i.size=0->(Builtin.zeroCells z.cells n.toNat)= #[]:=by
  intro h;apply zeE;rw[size_zeroCells,hs];exact h
 constructor
 ·intro b pz vQ lB
  simp only[Builtin.append_,h0,h1];by_cases hq:n.toNat*i.size=0
  ·cases b<;>simp[run_underlying ht,run_underlying hu,Go.sizeOf,typeInfo,hi,asInt,asIntOf,hw,Vo,Ge,lB,hq,hzero hq]
  ·cases b<;>simp[run_underlying ht,run_underlying hu,Go.sizeOf,typeInfo,zeroValue,hz,hi,asInt,asIntOf,hw,Vo,Ge,lB,hq]
 ·intro b pz vQ hg Rr olds ho
  have Vn:pz+n.toNat<=70368744177664:=by
   have:(pz+n.toNat)*1<=(pz+n.toNat)*i.bytes:=Nat.mul_le_mul_left _ hb;omega
  have h48: ¬(281474976710656<Builtin.nextslicecap (pz+n.toNat) vQ*i.bytes):=by
   have:=growslice_fits (old:=vQ) (need:=pz+n.toNat) (bytes:=i.bytes) hg (by omega)
   omega
  have hn: ¬(pz+n.toNat<=vQ):=by omega
  have h63: ¬(9223372036854775807<((pz:Int)+(n.toNat:Int))):=by omega
  have zaJ: ¬(9223372036854775807<((pz:Int)+n)):=by omega
  have XC: ¬(9223372036854775807<((pz:Int)+max n 0)):=by omega
  simp only[Builtin.append_,h0,h1];by_cases hq:n.toNat*i.size=0
  ·simp[run_underlying ht,run_underlying hu,Go.sizeOf,typeInfo,zeroValue,hi,hz,asInt,asIntOf,hw,Vo,Ge,hn,h63,zaJ,XC,h48,Question.forced,hq,hzero hq,ho,newRow,grownCap]
   congr 2
   apply Array.ext';simp
  ·simp[run_underlying ht,run_underlying hu,Go.sizeOf,typeInfo,zeroValue,hi,hz,asInt,asIntOf,hw,Vo,Ge,hn,h63,zaJ,XC,h48,Question.forced,hq,ho,newRow,grownCap]
   congr 2
   apply Array.ext';simp
end AM
namespace AM
open Go
variable {α:Type}{P:Program}{base:Nat}
theorem kp.move {N:Names}{D:Nat->Prop}{w w':World}{base:Nat}{h:Nat->Option gi}(S:kp N D w base h){i id:Nat}{o o':gi}{nm mN:Nm}{a a':Addr}(ho:h i=some o)(FY:o.rw=true)(hn:N i=some nm)(hb:nm.base=some a)(im:kC h i .dead id=none)
  (vC:mN.base=some a') (LU:a'.block=a.block)
  (RW:w'.os=w.os) (JI:w'.tape=w.tape) (jD:w'.output=w.output) (xU:w'.heap.size=w.heap.size) (mQ: ∀b,b≠a.block->w'.heap[b]?=w.heap[b]?) (nq:qK (N.up λj=>if j=id then some mN else N j) D w' base id o') (UU:o'.rw=true:=by rfl):
  ∃N':Names,N' id=some mN/\kp N' D w' base (kC (kC h i .dead) id o')/\Ext N D w h N' D w' (kC (kC h i .dead) id o'):=by
 have Oj:jd N i o a.block:=jd.of FY hn hb;have tH:zr N h a.block:=⟨i,o,ho,Oj⟩;have hnd:=(S.ug tH).1;have hD: ∀b,D b->w'.heap[b]?=w.heap[b]?:=λb vC=>mQ b (λe=>hnd (e▸vC));have mb:id≠i:=by intro e;subst e;simp[kC] at im
 have L7:h id=none:=by simpa only[kC,if_neg mb] using im
 have Yy:N id=none:=by
  cases e:N id with
  |none=>rfl
  |some mN=>exact absurd L7 (S.named id mN e)
 have hN:N.le (N.up λj=>if j=id then some mN else N j):=Names.RX Yy
 have LV: ∀j,j≠id->(N.up λj=>if j=id then some mN else N j) j=N j:=λj e=>if_neg e
 have hold: ∀j oj b,j≠id->jd (N.up λj=>if j=id then some mN else N j) j oj b->jd N j oj b:=λj oj b e=>(jd.names (LV j e) (λ_=>rfl)).1
 have D0: ∀b,jd (N.up λj=>if j=id then some mN else N j) id o' b->b=a.block:=λb hO=>by rw[jd.at_ UU Names.Cg vC hO,LU]
 have key: ∀j oj b,kC (kC h i .dead) id o' j=some oj->jd N j oj b->j≠id->j≠i/\h j=some oj:=by
  intro j oj b hj rj e;simp only[kC,if_neg e] at hj;by_cases e2:j=i
  ·subst e2;simp at hj;subst hj;exact rj.elim
  ·exact⟨e2,by simpa only[if_neg e2] using hj⟩
 refine⟨N.up λj=>if j=id then some mN else N j,Names.Cg,⟨λj oj hj=>?_,?_,λb hb=>by rw[xU];exact S.frozen b hb,λj Xy Dv=>?_,by rw[xU];exact S.size,λg hg=>?_⟩,⟨hN,λ_ h=>h,RW,JI,jD,by rw[xU];exact zd2 _,λb _ uH=>mQ b (λe=>uH (e▸tH)),λb _ hO=>?_,λ_ h=> .inl h,λj Xy Dv=>?_,λ_ h=>vJ (vJ h),λg hg=>⟨?_,λ_=>rfl⟩⟩⟩
 ·by_cases e:j=id
  ·subst e;simp[kC] at hj;subst hj;exact nq
  ·simp only[kC,if_neg e] at hj
   by_cases e2:j=i
   ·subst e2;simp at hj;subst hj;trivial
   ·simp only[if_neg e2] at hj
    refine oc (S.obj j oj hj) hN (λ_ h=>h) hD (λb hO=>⟨mQ _ (λeb=>e2 ?_),λh=>h⟩) (λ_ _ _ _=>rfl);exact S.apart j i oj o b hj ho hO (eb▸Oj)
 ·intro j1 j2 o1 o2 b h1 h2 r1 r2
  by_cases e1:j1=id<;>by_cases e2:j2=id
  ·rw[e1,e2]
  ·exfalso
   subst e1;simp[kC] at h1;subst h1;have e4:=D0 b r1;have r2:=hold j2 o2 b e2 r2;obtain⟨e3,h3⟩:=key j2 o2 b h2 r2 e2;exact e3 (S.apart j2 i o2 o b h3 ho r2 (e4▸Oj))
  ·exfalso
   subst e2;simp[kC] at h2;subst h2;have e4:=D0 b r2;have r1:=hold j1 o1 b e1 r1;obtain⟨e3,h3⟩:=key j1 o1 b h1 r1 e1;exact e3 (S.apart j1 i o1 o b h3 ho r1 (e4▸Oj))
  ·have r1:=hold j1 o1 b e1 r1
   have r2:=hold j2 o2 b e2 r2;exact S.apart j1 j2 o1 o2 b (key j1 o1 b h1 r1 e1).2 (key j2 o2 b h2 r2 e2).2 r1 r2
 ·by_cases e:j=id
  ·simp[kC,e]
  ·simp only[kC,if_neg e]
   rw[LV j e] at Dv;by_cases e2:j=i
   ·simp[e2]
   ·simp only[if_neg e2];exact S.named j Xy Dv
 ·by_cases e:SB+g=id
  ·simp only[kC,if_pos e] at hg
   cases o'<;>simp[AM.iS] at hg
   cases UU
  ·simp only[kC,if_neg e] at hg
   by_cases e2:SB+g=i
   ·simp[if_pos e2,AM.iS] at hg
   ·simp only[if_neg e2] at hg;exact S.iS g hg
 ·obtain⟨j,oj,hj,rj⟩:=hO
  by_cases e:j=id
  ·subst e
   simp[kC] at hj;subst hj;rw[D0 b rj];exact tH
  ·have rj:=hold j oj b e rj
   exact⟨j,oj,(key j oj b hj rj e).2,rj⟩
 ·by_cases e:j=id
  ·subst e;exact .inr L7
  ·rw[LV j e] at Dv;exact .inl Dv
 ·by_cases e:SB+g=id
  ·subst e;rw[L7] at hg;cases hg
  ·by_cases e2:SB+g=i
   ·subst e2;rw[ho] at hg;cases hg;cases FY
   ·simp only[kC,if_neg e,if_neg e2];exact hg
theorem kp.Vp {N:Names}{D:Nat->Prop}{w:World}{base:Nat}{h:Nat->Option gi}(S:kp N D w base h){id:Nat}{t:Ty}{xs:List t.den}(L5:aM (β:=t.den) xs=0)(im:h id=none):
  ∃N':Names,kp N' D w base (kC h id (.row false t xs))/\Ext N D w h N' D w (kC h id (.row false t xs))/\cp N' D w (.tail id 0) (.slice none 0 0):=by
 obtain⟨N',n1,n2,n3⟩:=S.make (w':=w) (o:= .row false t xs) (nm:=⟨none,sC t,true,0,0⟩) im rfl rfl rfl (zd2 _) (λ_ _=>rfl) (λa ha=>by cases ha) ⟨_,Names.Cg,rfl,rfl,L5.symm,zd2 _,rfl⟩
 refine⟨N',n2,n3,?_⟩;unfold cp;simp only[AV.isAgg,jJ,an];exact⟨_,n1,rfl,zd2 _,zd2 _,by simp⟩
theorem Ext.mid {N N' Xw:Names}{D D' Xx:Nat->Prop}{w w' PC:World}{h h' RS:Nat->Option gi}(x:Ext N D w h N' D' w' h')(y:Ext N' D' w' h' Xw Xx PC RS):Ext N D w h Xw Xx PC RS:=x.trans y
theorem zd {N:Names}{w:World}{t:Ty}{xs:List t.den}{D:Nat->Prop}{c:Value}{cs:List Value}{size:Nat}(hs:size=t.size)(h:R4 N D w t xs c){w':World}(hw:w'.heap=w.heap)(hl:cs.length=aM (β:=t.den) xs*t.size)(hc: ∀a n cap,c= .slice (some a) n cap->aM (β:=t.den) xs≠0->∀j v,cs[j]?=some v->w.cell? (a.add j)=some v):
  (Builtin.firstCells size (aM (β:=t.den) xs) c).run P w'= .ok cs.toArray w':=by
 obtain⟨a,cap,rfl,h1,h2,h3⟩:=h;subst hs;by_cases h0:aM (β:=t.den) xs=0
 ·have yV:cs=[]:=zef (by rw[hl,h0];simp)
  subst yV;rw[h0];cases a with
  |none=>exact run_firstCells_none (P:=P) w' _ _ _ _
  |some a=>exact run_firstCells_some (P:=P) w' t.size 0 a _ cap [] (by simp) (by simp)
 ·cases a with
  |none=>have:=h2 rfl;omega
  |some a=>
   refine run_firstCells_some (P:=P) w' t.size _ a _ cap cs hl λj v hv=>?_;have:=hc a _ _ rfl h0 j v hv;rw[<-this];simp only[World.cell?,hw]
theorem R4.cells {N:Names}{w:World}{t:Ty}{xs:List t.den}{D:Nat->Prop}{c:Value}(h:R4 N D w t xs c): ∃cs:List Value,cs.length=aM (β:=t.den) xs*t.size/\eC N D w t xs (cs[·]?)/\(∀v∈cs,v.oneCell'=true)/\
  ∀w':World,w'.heap=w.heap->(Builtin.firstCells t.size (aM (β:=t.den) xs) c).run P w'= .ok cs.toArray w':=by
 have h':=h;obtain⟨a,cap,rfl,h1,h2,h3⟩:=h;by_cases h0:aM (β:=t.den) xs=0
 ·have L5:xs=[]:=zef h0
  refine⟨[],by rw[h0];simp,?_,by simp,λw' hw=>zd rfl h' hw (by rw[h0];simp) (by simp)⟩
  subst L5;exact eC.nil
 ·cases a with
  |none=>have:=h2 rfl;omega
  |some a=>
   obtain⟨f1,f2⟩:=h3 a rfl h0;obtain⟨cs,g1,g2,g3,g4⟩:=f2.cells;refine⟨cs,g1,g3,g4,λw' hw=>zd rfl h' hw g1 λa' n sK e _ j v hv=>?_⟩;cases e;obtain⟨b,o,sp⟩:=a;simp only at f1;subst f1;rw[oH];exact g2 j v hv
end AM
namespace AM
open Go
variable {α:Type}{P:Program}{base:Nat}
structure Src (P:Program)(tys:Array TypeId)(rt e:TypeId)(i:TypeInfo)(z:Value)(N:Names)(D:Nat->Prop)(w:World)(te:Ty)(ys:List te.den)(x:Value)(cs:List Value):Prop where
 app:xZ P tys rt e i z w x (aM (β:=te.den) ys) cs
 len:cs.length=aM (β:=te.den) ys*te.size
 row:eC N D w te ys (cs[·]?)
 one: ∀v∈cs,v.oneCell'=true
def ya (P:Program)(tys:Array TypeId)(rt:TypeId)(base:Nat)(N:Names)(D:Nat->Prop)(w:World)(h:Nat->Option gi)(v x:Value)(h':Nat->Option gi)(u:AV):Prop:=
 ∃N' D' w' v',(Builtin.append_ tys rt #[v,x]).run P w= .ok v' w'/\Ext N D w h N' D' w' h'/\kp N' D' w' base h'/\cp N' D' w' u v'
section
variable {tys:Array TypeId}{rt e:TypeId}{i:TypeInfo}{z:Value}{N:Names}{D:Nat->Prop}{w:World}{te:Ty}{h:Nat->Option gi}
theorem GJ (S:kp N D w base h){id:Nat}(im:h id=none)(vO:i.size=te.size)(uJ:z.cells.size=te.size){bs ys:List te.den}{olds cs:List Value}{x:Value}{b:Option Addr}{cap:Nat}(src:Src P tys rt e i z N D w te ys x cs)
  (hg:cap<aM (β:=te.den) bs+aM (β:=te.den) ys) (Rr:(aM (β:=te.den) bs+aM (β:=te.den) ys)*i.bytes<=70368744177664) (ho:(Builtin.firstCells i.size (aM (β:=te.den) bs) (.slice b (aM (β:=te.den) bs) cap)).run P w.drew= .ok olds.toArray w.drew)
  (YI:olds.length=aM (β:=te.den) bs*te.size) (hor:eC N D w te bs (olds[·]?)):ya P tys rt base N D w h (.slice b (aM (β:=te.den) bs) cap) x (kC h id (.row false te (bs++ys:List te.den))) (.tail id 0):=by
 have jT:=src.app.zaI b _ cap hg Rr olds ho;have rZ:=grownCap_ge w (aM (β:=te.den) bs+aM (β:=te.den) ys) cap e;have PN:aM (β:=te.den) (bs++ys)=aM (β:=te.den) bs+aM (β:=te.den) ys:=by simp[aM]
 obtain⟨N',n1,n2,n3⟩:=S.H3 (t:=te) (xs:=(bs++ys:List te.den)) im w.drew e (0,0) (grownCap w (aM (β:=te.den) bs+aM (β:=te.den) ys) cap e) rfl rfl rfl rfl (by rw[PN];exact rZ)
  (cells:=(olds++cs++(Builtin.zeroCells z.cells (grownCap w (aM (β:=te.den) bs+aM (β:=te.den) ys) cap e-(aM (β:=te.den) bs+aM (β:=te.den) ys))).toList).toArray)
  (by
   simp only[List.size_toArray,zdP,YI,src.len,Array.length_toList,size_zeroCells,uJ,<-zd0];exact zdZ _ (by omega)) (.inl rfl) (by
   have h1:=(hor.rv YI src.row).more (ds:=(Builtin.zeroCells z.cells (grownCap w (aM (β:=te.den) bs+aM (β:=te.den) ys) cap e-(aM (β:=te.den) bs+aM (β:=te.den) ys))).toList) (by rw[zdP,YI,src.len,PN,zd0])
   refine h1.congr λj _=>?_;simp)
 rw[PN] at n3;exact⟨N',D,_,_,jT,n2,n1,n3⟩
theorem Ok (S:kp N D w base h){id:Nat}(im:h id=none)(vO:i.size=te.size)(uJ:z.cells.size=te.size){ys:List te.den}{cs:List Value}{x:Value}(src:Src P tys rt e i z N D w te ys x cs)
  (Rr:(aM (β:=te.den) ys)*i.bytes<=70368744177664):ya P tys rt base N D w h (.slice none 0 0) x (kC h id (.row false te ys)) (.tail id 0):=by
 by_cases hn:aM (β:=te.den) ys=0
 ·obtain⟨N',n1,n2,n3⟩:=S.Vp hn im
  have:=src.app.fits none 0 0 (by omega)
  refine⟨N',D,w,_,this,n2,n1,by rw[hn];exact n3⟩
 ·have:=GJ (bs:=[]) (olds:=[]) (b:=none) (cap:=0) S im vO uJ src (by simp only[aM,zdR];simp only[aM] at hn;omega) (by simpa [aM] using Rr) (run_firstCells_none (P:=P) w.drew _ _ _ _) (by simp[aM]) eC.nil
  simpa [aM] using this
theorem ya.after {N':Names}{D':Nat->Prop}{w':World}{h' RS:Nat->Option gi}{v x:Value}{u:AV}(hw:w'=w)(a:ya P tys rt base N' D' w' h' v x RS u)(y:Ext N D w h N' D' w' h'):ya P tys rt base N D w h v x RS u:=by
 subst hw;obtain⟨N2,D2,w2,v2,h1,h2,h3,h4⟩:=a;exact⟨N2,D2,w2,v2,h1,y.trans h2,h3,h4⟩
theorem pA {b o:Nat}{cs:List Value}{C:Array Value}{ty:TypeId}{fz:Nat×Nat}(hb:w.heap[b]?=some (.cells C ty fz))(hz:fz=(0,0)\/C.size<=fz.1)(hl:o+cs.length<=C.size)(h1: ∀v∈cs,v.oneCell'=true):
  (storeCells ⟨b,o,none⟩ cs).run P w= .ok () (w.setCells b o cs):=by
 have:=run_storeCells_cells (P:=P) b o cs 0 w (λj hj=>jk hb (by omega)) (λj hj=>wF hb hz (by omega)) h1
 simpa using this
theorem R7 (S:kp N D w base h){id q off:Nat}{xs:List te.den}(ho:h q=some (.row false te xs))(im:kC h q .dead id=none)(vO:i.size=te.size)(uJ:z.cells.size=te.size){ys:List te.den}{cs:List Value}{x v:Value}(src:Src P tys rt e i z N D w te ys x cs)
  (hv:cp N D w (.tail q off) v) (Rr:(aM (β:=te.den) (xs.drop off)+aM (β:=te.den) ys)*i.bytes<=70368744177664):ya P tys rt base N D w h v x (kC (kC h q .dead) id (.row false te (xs.drop off++ys:List te.den))) (.tail id 0):=by
 unfold cp at hv;simp only[AV.isAgg,jJ,an] at hv;obtain⟨nm,g1,g2,g3,g4,g5⟩:=hv;obtain⟨mN,i1,i2,i3,i4,i5,i6⟩:=S.obj q _ ho;rw[g1] at i1;cases i1;obtain⟨kS,kE⟩:=S.kill q;have hlen:aM (β:=te.den) (xs.drop off)=nm.len-off:=by simp only[aM,zeb];simp only[aM] at i4;omega
 cases hb:nm.base with
 |none=>
  rw[hb] at g5;obtain⟨g5,g6⟩:=g5;simp only[zdM] at g6;subst g6;have oI:(xs.drop off:List te.den)=[]:=zef (by have:=hlen;simp only[aM] at this;omega)
  rw[oI,zeG];rw[oI] at Rr;exact(Ok kS im vO uJ src (by simpa [aM] using Rr)).after rfl kE
 |some a=>
  rw[hb] at g5 i6;obtain⟨v',cap,g6,g7,a',sK,rfl,g8,rfl,g9⟩:=g5;simp only[zdM] at g6;subst g6;obtain⟨j1,⟨C,LY,fz,j2,j3,j4⟩,j5,j6⟩:=i6;replace j4:=j4 rfl
  simp only[zdN,if_false] at j5;have mO:eC N D w te xs (aX w a):=j6;have Eb:=wH (len:=nm.len-off) mO (by rw[<-iT te,<-i3];exact⟨a',sK,rfl,g8,rfl,g9⟩) (by rw[<-i4];omega)
  have htk:((xs.drop off).take (nm.len-off):List te.den)=xs.drop off:=zeg (by have:=hlen;simp only[aM] at this;omega)
  rw[htk] at Eb;by_cases lB:nm.len-off+aM (β:=te.den) ys<=sK
  ·have jT:=src.app.fits (some a') _ sK lB
   simp only at jT;have Ga:off*te.size+sK*te.size<=nm.cap*te.size:=by rw[<-zd0];exact zdZ _ g7
   have xF:(nm.len-off)*te.size+cs.length<=sK*te.size:=by rw[src.len,<-zd0];exact zdZ _ lB
   have kf:(storeCells (a'.add ((nm.len-off)*i.size)) cs).run P w= .ok () (w.setCells a.block (a.off+off*te.size+(nm.len-off)*te.size) cs):=by
    by_cases hc:cs=[]
    ·subst hc;rfl
    ·have mb:sK≠0:=by
      intro e0;have:aM (β:=te.den) ys=0:=by omega
      have:=src.len;rw[‹aM (β:=te.den) ys=0›,zeu] at this;exact hc (zef this)
     rcases g9 with rfl|g9
     ·rw[i3,iT,xY,vO]
      simp only[Addr.at_];rw[pA j2 (j4.imp_right And.left) (by omega) src.one,zd1]
     ·exact absurd g9 mb
   rw[kf] at jT;simp only[zd8] at jT;obtain⟨o1,o2,o3⟩:=ll a.block cs (a.off+off*te.size+(nm.len-off)*te.size) w;obtain⟨C',f1,f2⟩:=js a.block cs (a.off+off*te.size+(nm.len-off)*te.size) w C LY fz j2;have UW:=jO a.block cs (a.off+off*te.size+(nm.len-off)*te.size) w;have one:=kL a.block cs (a.off+off*te.size+(nm.len-off)*te.size) w;have hD: ∀b,D b->(w.setCells a.block (a.off+off*te.size+(nm.len-off)*te.size) cs).heap[b]?=w.heap[b]?:=λb vC=>one b (λe=>j5.2 (e▸vC));have PN:aM (β:=te.den) (xs.drop off++ys)=nm.len-off+aM (β:=te.den) ys:=by rw[<-hlen];simp[aM]
   obtain⟨N',n1,n2,n3⟩:=S.move (id:=id) (mN:=⟨some (Addr.at_ a (off*te.size)),sC te,true,nm.len-off+aM (β:=te.den) ys,sK⟩) (a':=Addr.at_ a (off*te.size)) (o':= .row false te (xs.drop off++ys:List te.den)) ho rfl g1 hb im rfl rfl o1 o2 o3 UW one (by
    refine⟨_,Names.Cg,rfl,rfl,PN.symm,lB,?_⟩;show _/\_/\_/\_
    refine⟨rfl,⟨C',LY,fz,f1,by simp only[Addr.at_];rw[f2];omega,λ_=>by rw[f2];exact j4⟩,by simp only[zdN,if_false];exact j5,?_⟩
    have hA:eC N D w te (xs.drop off:List te.den) (aX w (Addr.at_ a (off*te.size))):=by
     have:=mO.drop off;have e2:(λj=>aX w a (off*te.size+j))=aX w (Addr.at_ a (off*te.size)):=by
      funext j;simp only[aX,Addr.at_,zd1]
     rw[<-e2];exact this
    refine eC.append ((hA.Oh ((S.kill q).1.R5 im _) (λ_ h=>h) hD).congr λj hj=>?_) ((src.row.Oh ((S.kill q).1.R5 im _) (λ_ h=>h) hD).congr λj hj=>?_)
    ·rw[hlen] at hj
     simp only[aX,Addr.at_];exact(World.cell?_setCells_out _ _ _ _ _ (λ_ _=>by simp only;omega)).symm
    ·rw[<-src.len] at hj
     have:=World.cell?_setCells_in a.block cs (a.off+off*te.size+(nm.len-off)*te.size) w (λj hj=>jk j2 (by omega)) j hj
     simp only[aX,Addr.at_];rw[hlen,<-zd1,this];simp)
   refine⟨N',D,_,_,jT,n3,n2,?_⟩;unfold cp;simp only[AV.isAgg,jJ,an];refine⟨_,n1,rfl,zeN _,lB,?_⟩;show∃v room,_
   refine⟨_,sK,rfl,by simp,a',sK,by simp,by simpa using lB,rfl,?_⟩
   rcases g9 with rfl|g9
   ·left;rw[i3,iT];simp[Addr.at_]
   ·exact .inr g9
  ·obtain⟨olds,k1,k2,_,k4⟩:=R4.cells (P:=P) Eb
   have zcA:(aM (β:=te.den) (xs.drop off)+aM (β:=te.den) ys)*i.bytes<=70368744177664:=Rr;have:=GJ (P:=P) (tys:=tys) (rt:=rt) (e:=e) (z:=z) kS im vO uJ (bs:=(xs.drop off:List te.den)) (olds:=olds) (b:=some a') (cap:=sK) (x:=x) src (by rw[hlen];omega) zcA (by
    have:=k4 w.drew rfl;rw[vO];rw[hlen] at this⊢;exact this) k1 k2
   rw[hlen] at this;exact this.after rfl kE
end
end AM
namespace AM
open Go
variable {α:Type}{P:Program}{base:Nat}
section
variable {tys:Array TypeId}{rt e:TypeId}{i:TypeInfo}{z:Value}{N:Names}{D:Nat->Prop}{w:World}{te:Ty}{h:Nat->Option gi}
theorem yb {h:Nat->Option gi}{q:Nat}{o:gi}(ho:h q=some o):kC h q o=h:=by
 funext j
 by_cases e:j=q
 ·subst e;simp[kC,ho]
 ·simp[kC,e]
theorem PO (S:kp N D w base h){q off len:Nat}{xs:List te.den}(ho:h q=some (.row false te xs))(vO:i.size=te.size){ys:List te.den}{cs:List Value}{x v:Value}(src:Src P tys rt e i z N D w te ys x cs)
  (hv:cp N D w (.slice q [] off len) v) (lB:off+len+aM (β:=te.den) ys<=aM (β:=te.den) xs):ya P tys rt base N D w h v x (kC h q (.row false te (xs.take (off+len)++ys++xs.drop (off+len+aM (β:=te.den) ys):List te.den))) (.slice q [] off (len+aM (β:=te.den) ys)):=by
 unfold cp at hv;simp only[AV.isAgg,jJ,an] at hv;obtain⟨nm,g1,hv⟩:=hv;obtain⟨mN,i1,i2,i3,i4,i5,i6⟩:=S.obj q _ ho;rw[g1] at i1;cases i1;have PN:aM (β:=te.den) (xs.take (off+len)++ys++xs.drop (off+len+aM (β:=te.den) ys))=nm.len:=by
  rw[i4];simp only[aM,zdP,zea,zeb];simp only[aM] at lB;omega
 cases hb:nm.base with
 |none=>
  rw[hb] at hv;obtain⟨_,rfl,rfl,g4,g5⟩:=hv;simp only[zdM] at g5;subst g5;have hy0:aM (β:=te.den) ys=0:=by omega
  have hys:ys=[]:=zef hy0;have L5:(xs.take (0+0)++ys++xs.drop (0+0+aM (β:=te.den) ys):List te.den)=xs:=by subst hys;simp[aM]
  rw[L5,yb ho];have jT:=src.app.fits none 0 0 (by omega)
  refine⟨N,D,w,_,jT,Ext.refl _ _ _ _,S,?_⟩;unfold cp;simp only[AV.isAgg,jJ,an];refine⟨nm,g1,?_⟩;rw[hb];exact⟨by simp[i2],by simp,by omega,g4,by simp[hy0]⟩
 |some a=>
  rw[hb] at hv i6;simp only at hv;rw[if_pos (by simp[i2])] at hv
  obtain⟨g3,g4,v',room,g5,g6,g7,a',sK,rfl,g8,rfl,g9⟩:=hv;simp only[zdM] at g5;subst g5;obtain⟨j1,⟨C,LY,fz,j2,j3,j4⟩,j5,j6⟩:=i6;replace j4:=j4 rfl
  simp only[zdN,if_false] at j5;have mO:eC N D w te xs (aX w a):=j6;have jT:=src.app.fits (some a') len sK (by omega)
  simp only at jT;have Ga:(off+len)*te.size+cs.length<=nm.cap*te.size:=by rw[src.len,<-zd0];exact zdZ _ (by omega)
  have kf:(storeCells (a'.add (len*i.size)) cs).run P w= .ok () (w.setCells a.block (a.off+(off+len)*te.size) cs):=by
   by_cases hc:cs=[]
   ·subst hc;rfl
   ·have mb:sK≠0:=by
     intro e0;have h0:aM (β:=te.den) ys=0:=by omega
     have:=src.len;rw[h0,zeu] at this;exact hc (zef this)
    rcases g9 with rfl|g9
    ·rw[i3,iT,xY,vO]
     simp only[Addr.at_];rw[pA j2 (j4.imp_right And.left) (by rw[<-zd0];omega) src.one,<-zd0]
    ·exact absurd g9 mb
  rw[kf] at jT;simp only[zd8] at jT;obtain⟨o1,o2,o3⟩:=ll a.block cs (a.off+(off+len)*te.size) w;obtain⟨C',f1,f2⟩:=js a.block cs (a.off+(off+len)*te.size) w C LY fz j2;have UW:=jO a.block cs (a.off+(off+len)*te.size) w;have one:=kL a.block cs (a.off+(off+len)*te.size) w;have hD: ∀b,D b->(w.setCells a.block (a.off+(off+len)*te.size) cs).heap[b]?=w.heap[b]?:=λb vC=>one b (λe=>j5.2 (e▸vC));have Lr:=mO.mono (λ_ h=>h) hD;have key:=S.write (o':= .row false te (xs.take (off+len)++ys++xs.drop (off+len+aM (β:=te.den) ys):List te.den)) ho rfl g1 hb o1 o2 o3 UW one (by
   refine⟨nm,g1,i2,i3,PN.symm,i5,?_⟩;rw[hb];show _/\_/\_/\_
   refine⟨j1,⟨C',LY,fz,f1,by rw[f2];exact j3,λ_=>by rw[f2];exact j4⟩,by simp only[zdN,if_false];exact j5,?_⟩
   have Js:aM (β:=te.den) (xs.take (off+len))=off+len:=by simp only[aM,zea];simp only[aM] at lB;omega
   have YJ:aM (β:=te.den) (xs.take (off+len)++ys)=off+len+aM (β:=te.den) ys:=by rw[<-Js];simp[aM]
   have hA:eC N D (w.setCells a.block (a.off+(off+len)*te.size) cs) te (xs.take (off+len):List te.den) (aX (w.setCells a.block (a.off+(off+len)*te.size) cs) a):=by
    refine(Lr.take (off+len)).congr λj hj=>?_;rw[Js] at hj;simp only[aX];exact(World.cell?_setCells_out _ _ _ _ _ (λ_ _=>by simp only;omega)).symm
   have hB:eC N D (w.setCells a.block (a.off+(off+len)*te.size) cs) te ys (λj=>aX (w.setCells a.block (a.off+(off+len)*te.size) cs) a ((off+len)*te.size+j)):=by
    refine(src.row.mono (λ_ h=>h) hD).congr λj hj=>?_;rw[<-src.len] at hj;have:=World.cell?_setCells_in a.block cs (a.off+(off+len)*te.size) w (λj hj=>jk j2 (by omega)) j hj
    simp only[aX];rw[<-zd1,this];simp
   have hC:eC N D (w.setCells a.block (a.off+(off+len)*te.size) cs) te (xs.drop (off+len+aM (β:=te.den) ys):List te.den) (λj=>aX (w.setCells a.block (a.off+(off+len)*te.size) cs) a ((off+len+aM (β:=te.den) ys)*te.size+j)):=by
    refine(Lr.drop _).congr λj hj=>?_;simp only[aX];refine(World.cell?_setCells_out _ _ _ _ _ (λ_ _=>?_)).symm;right
    simp only;rw[src.len,zd0 (off+len)];omega
   exact eC.append (eC.append hA (by rw[Js];exact hB)) (by rw[YJ];exact hC))
  refine⟨N,D,_,_,jT,key.2,key.1,?_⟩;unfold cp;simp only[AV.isAgg,jJ,an];refine⟨nm,g1,?_⟩;rw[hb];simp only;rw[if_pos (by simp[i2])]
  exact⟨by omega,i5,_,sK,rfl,g6,g7,a',sK,rfl,by omega,rfl,g9⟩
end
theorem Ec {dst rt pos after guard}{x y:Operand}{args:Array Operand}{tys:Array TypeId}{st fy:St}{u:AV}(ha:args.toList=[x,y])(h:fy.t=st.t/\fy.nt=st.nt/\fy.ep=st.ep)(Jr: ∀j,j∉vH (st.ev x)->j/100≠st.ep*1000+dst.getD 999->fy.h j=st.h j)
  (H6: ∀N D w a,kI N D w base st a->ya P tys rt base N D w st.h (a.eval x) (a.eval y) fy.h u):lE P base ⟨dst, .call ⟨.builtin .append,args,tys⟩,rt,pos,after,guard⟩ st u fy:=by
 refine⟨h.1,h.2.1,h.2.2,λj hj hn=>Jr j (λe=>hj (by simp[N0,ha,e])) (λe=>by simp[qI,makes,e] at hn),λN D w a s=>?_⟩
 obtain⟨N',D',w',v',h1,h2,h3,h4⟩:=H6 N D w a s;have nH:args= #[x,y]:=by cases args;simp at ha;subst ha;rfl
 subst nH;refine⟨N',D',w',v', .inl ?_,h2,h3,h4⟩;simp[execOp,resolve,invoke,builtin,h1]
theorem Cl {t:TypeId}(h:zp P t=true): ∃d,P.underlying t=some d/\∀k,d≠ .int k:=by
 unfold zp at h;split at h
 ·cases h
 ·rename_i hk hd
  exact⟨_,hd,λk e=>hk k e⟩
 ·cases h
theorem yc (a:Option Addr)(n c:Nat)(w:World):(Builtin.lenOf (.slice a n c)).run P w= .ok n w:=by simp[Builtin.lenOf]
theorem GK {tys:Array TypeId}{t u rt e:TypeId}{i:TypeInfo}{z:Value}{N:Names}{D:Nat->Prop}{w:World}{te:Ty}{ys:List te.den}{c:Value}(h0:tys[0]?=some t)(h1:tys[1]?=some u)(ht:P.underlying t=some (.slice e))(hi:P.info? e=some i)(hz:i.zero=some z)(hb:1<=i.bytes)(vO:i.size=te.size)
  (hu:zp P u=true) (hn:R4 N D w te ys c): ∃cs,Src P tys rt e i z N D w te ys c cs:=by
 obtain⟨d,hd,hk⟩:=Cl hu;obtain⟨cs,k1,k2,k3,k4⟩:=R4.cells (P:=P) hn;obtain⟨a,cap,rfl,_⟩:=hn;refine⟨cs,xZ.of h0 h1 ht hi hz hb hd hk (λw'=>yc _ _ _ w') ?_ ?_,k1,k2,k3⟩
 ·rw[vO];exact k4 w rfl
 ·rw[vO];exact k4 w.drew rfl
theorem GL {N:Names}{D:Nat->Prop}{w:World}(b:ByteArray):eC N D w (.int .u8) (b.data.toList.map λc=>((c.toNat:Nat):Int)) ((b.data.toList.map λc=>Value.int .u8 c.toNat)[·]?):=by
 intro i x hx;show _=_
 have key: ∀y:Int,(b.data.toList.map λc=>((c.toNat:Nat):Int))[i]?=some y->∃c,b.data.toList[i]?=some c/\y=((c.toNat:Nat):Int):=by
  intro y hy;rw[zeM,zeC] at hy;obtain⟨c,hc,rfl⟩:=hy;exact⟨c,hc,rfl⟩
 obtain⟨c,hc,rfl⟩:=key x hx;simp only[Ty.size,zeO,zeF,zeM,hc,zdV]
theorem L8 {N:Names}{tys:Array TypeId}{t u rt e:TypeId}{i:TypeInfo}{z:Value}{D:Nat->Prop}{w:World}{b:ByteArray}(h0:tys[0]?=some t)(h1:tys[1]?=some u)(ht:P.underlying t=some (.slice e))(hi:P.info? e=some i)(hz:i.zero=some z)(hb:1<=i.bytes)
  (hu:zp P u=true):Src P tys rt e i z N D w (.int .u8) (b.data.toList.map λc=>((c.toNat:Nat):Int)) (.string b) (b.data.toList.map λc=>Value.int .u8 c.toNat):=by
 obtain⟨d,hd,hk⟩:=Cl hu;have hl:aM (β:=Int) (b.data.toList.map λc=>((c.toNat:Nat):Int))=b.size:=by simp[aM]
 have hf: ∀w':World,(Builtin.firstCells i.size b.size (.string b)).run P w'= .ok (b.data.toList.map λc=>Value.int .u8 c.toNat).toArray w':=by
  intro w';have:b.extract 0 b.size=b:=by simp
  simp only[Builtin.firstCells,this,zd9];congr 1
  apply Array.ext';simp
 refine⟨xZ.of h0 h1 ht hi hz hb hd hk (λw'=>?_) ?_ ?_,?_,GL b,?_⟩
 ·rw[show aM (β:=(Ty.int .u8).den) (b.data.toList.map λc=>((c.toNat:Nat):Int))=b.size from hl]
  simp[Builtin.lenOf]
 ·rw[show aM (β:=(Ty.int .u8).den) (b.data.toList.map λc=>((c.toNat:Nat):Int))=b.size from hl]
  exact hf w
 ·rw[show aM (β:=(Ty.int .u8).den) (b.data.toList.map λc=>((c.toNat:Nat):Int))=b.size from hl]
  exact hf w.drew
 ·rw[show aM (β:=(Ty.int .u8).den) (b.data.toList.map λc=>((c.toNat:Nat):Int))=b.size from hl]
  simp[Ty.size]
 ·intro v hv
  simp only[List.mem_map] at hv;obtain⟨c,_,rfl⟩:=hv;rfl
end AM
namespace AM
open Go
variable {α:Type}{P:Program}{base:Nat}
theorem YK {t:Ty}{xs:List t.den}{ys:List t.den}(h:sB t t xs=some ys):ys=xs:=by
 obtain⟨_,h⟩:=iU h;exact h
theorem PQ {N:Names}{tys:Array TypeId}{t u rt e:TypeId}{i:TypeInfo}{z:Value}{D:Nat->Prop}{w:World}{te:Ty}{n:Int}(h0:tys[0]?=some t)(h1:tys[1]?=some u)(ht:P.underlying t=some (.slice e))(hi:P.info? e=some i)(hz:i.zero=some z)(hb:1<=i.bytes)(vO:i.size=te.size)
  {k k':IntKind} (hu:P.underlying u=some (.int k)) (XB:0<=n) (H5:n*(i.bytes:Int)<=70368744177664) (zy:z.cells.toList=m9 te (iL te)):Src P tys rt e i z N D w te (List.replicate n.toNat (iL te)) (.int k' n) (Builtin.zeroCells z.cells n.toNat).toList:=by
 have uJ:z.cells.size=te.size:=by rw[<-ni te,<-zy];simp
 have hl:aM (β:=te.den) (List.replicate n.toNat (iL te))=n.toNat:=by simp[aM]
 refine⟨by rw[hl];exact xZ.JO h0 h1 ht hi hz hb hu XB H5 (by rw[uJ,vO]),by rw[hl];simp[size_zeroCells,uJ],eC.JO n.toNat zy λj hj=>?_,λv hv=>?_⟩
 ·have hp:0<te.size:=by
   rcases zd6 te.size with q|q
   ·rw[q] at hj;omega
   ·exact q
  have hm:j%te.size<z.cells.size:=by rw[uJ];exact Nat.mod_lt _ hp
  simp only[Builtin.zeroCells,Array.getElem?_toList];rw[Array.getElem?_map,Array.getElem?_range,if_pos (by rw[uJ];exact hj),zdV]
  rw[uJ] at hm⊢;rw[getElem!_pos z.cells _ (by rw[uJ];exact hm),zeo (by rw[uJ];exact hm)]
 ·simp only[Builtin.zeroCells,Array.mem_toList_iff,Array.mem_map,Array.mem_range] at hv
  obtain⟨j,hj,rfl⟩:=hv;have hp:0<z.cells.size:=by
   rcases zd6 z.cells.size with q|q
   ·rw[q] at hj;omega
   ·exact q
  have hm:j%z.cells.size<z.cells.size:=Nat.mod_lt _ hp;rw[getElem!_pos z.cells _ hm];have h2:eC N D w te [iL te] (z.cells[·]?):=by
   intro i x hx;have Rs:i=0:=by have:=yC hx;simp only[aM,zdQ,zdR] at this;omega
   subst Rs;simp only[ko,zei,zdM] at hx;subst hx;refine rV te _ λj hj=>?_;rw[<-zy];simp
  obtain⟨c,h3,h4⟩:=h2.cell (j:=j%z.cells.size) (by simp only[aM,zdQ,zdR];omega)
  rw[zeo hm] at h3;cases h3;exact h4
theorem GM {st:St}{id:Nat}{e:TypeId}{te:Ty}{bs ys:List te.den}{k:AV->St->Option α}{r:α}(h:grow P st id e te bs ys k=some r):
  st.h id=none/\k (.tail id 0) (st.set id (.row false te (bs++ys:List te.den)))=some r/\(aM (β:=te.den) bs+aM (β:=te.den) ys)*P.bytesOf e<=70368744177664:=by
 unfold grow at h;obtain⟨h1,h2⟩:=jw h;obtain⟨h3,h4⟩:=Ak h2;refine⟨h3,h4,?_⟩;rw[H4] at h1;have:(((aM (β:=te.den) bs+aM (β:=te.den) ys)*P.bytesOf e:Nat):Int)<=(70368744177664:Nat):=by
  rw[Int.natCast_mul];exact h1
 omega
theorem Ed {st:St}{id:Nat}{ty e tx:TypeId}{tys:Array TypeId}{rt:TypeId}{te:Ty}{bs:List te.den}{y:AV}{k:AV->St->Option α}{r:α}(Aj:zX P tx=some (e,te))(h0:tys[0]?=some tx)(h1:tys[1]?=some ty)(h:grown P st id ty e te bs y k=some r):
  ∃(ys:List te.den) (i:TypeInfo) (z:Value),P.info? e=some i/\i.zero=some z/\i.size=te.size/\z.cells.size=te.size/\st.h id=none/\k (.tail id 0) (st.set id (.row false te (bs++ys:List te.den)))=some r/\(aM (β:=te.den) bs+aM (β:=te.den) ys)*i.bytes<=70368744177664/\
   ∀N D w base,kp N D w base st.h->∀c,cp N D w y c->∃cs,Src P tys rt e i z N D w te ys c cs:=by
 obtain⟨hu,Og,hsz,hb,i,hi,vO,R6,z,hz,uJ⟩:=qB Aj;rw[<-R6] at hb;unfold grown at h;split at h
 ·rename_i n
  split at h
  ·rename_i ki hty
   obtain⟨⟨h2,h3⟩,h4⟩:=jw h;obtain⟨v,i',z',h5,nM,UX,YH,zy,_,_⟩:=rX h4;rw[hi] at nM;cases nM;rw[hz] at UX;cases UX;obtain⟨h6,h7⟩:=Ak h5;have vP:=tT 12 e te v Og YH;rw[<-zy] at vP;rw[H4,<-R6] at h3;have hl:aM (β:=te.den) (List.replicate n.toNat (iL te))=n.toNat:=by simp[aM]
   refine⟨_,i,z,hi,hz,vO,uJ,h6,h7,?_,λN D w base S c hc=>?_⟩
   ·rw[hl]
    have:(((aM (β:=te.den) bs+n.toNat)*i.bytes:Nat):Int)<=(70368744177664:Nat):=by
     rw[Int.natCast_mul,Int.natCast_add,Int.toNat_of_nonneg h2];exact h3
    omega
   ·rw[eE.1 hc]
    refine⟨_,PQ h0 h1 hu hi hz hb vO hty h2 ?_ vP⟩;have:n*(i.bytes:Int)<=((bs.length:Int)+n)*(i.bytes:Int):=Int.mul_le_mul_of_nonneg_right (by omega) (by omega)
    omega
  ·cases h
 ·rename_i b
  split at h
  ·rename_i ys hni hc
   obtain⟨rfl,rfl⟩:=iU hc;obtain⟨h2,h3,h4⟩:=GM h;refine⟨_,i,z,hi,hz,vO,uJ,h2,h3,by rw[R6];exact h4,λN D w base S c hc=>?_⟩
   rw[eE.1 hc];exact⟨_,L8 h0 h1 hu hi hz hb hni⟩
  ·cases h
 ·replace h:=jx h;obtain⟨hni,h⟩:=h
  obtain⟨ys,ids,h2,h3⟩:=uU h;obtain⟨h4,h5,h6⟩:=GM h2;exact⟨ys,i,z,hi,hz,vO,uJ,h4,h5,by rw[R6];exact h6,λN D w base S c hc=>GK (N:=N) h0 h1 hu hi hz hb vO hni (h3 N D w base S c hc)⟩
theorem JP {dst rt pos after guard}{x y:Operand}{args:Array Operand}{tys:Array TypeId}{tx ty:TypeId}{Bo:List TypeId}{st:St}{id:Nat}(oT:id=name st.ep (dst.getD 999) 0){k:AV->St->Option α}{r:α}(ha:args.toList=[x,y])(ht:tys.toList=tx::ty::Bo)
  (h:DQ P st id tx ty (st.ev x) (st.ev y) k=some r):ow P base ⟨dst, .call ⟨.builtin .append,args,tys⟩,rt,pos,after,guard⟩ st k r:=by
 have h0:tys[0]?=some tx:=by cases tys;simp at ht;subst ht;simp
 have h1:tys[1]?=some ty:=by cases tys;simp at ht;subst ht;simp
 unfold DQ at h;split at h
 ·rename_i e te Aj
  split at h
  ·rename_i e1
   obtain⟨ys,i,z,hi,hz,vO,uJ,h2,h3,h4,h5⟩:=Ed (rt:=rt) Aj h0 h1 h;refine⟨_,_,h3,Ec ha ⟨rfl,rfl,rfl⟩ (λj _ hn=>by
    have hj:j≠id:=λe=>hn (by rw[e,oT,ru])
    simp[St.set,hj]) λN D w a s=>?_⟩
   obtain⟨cs,src⟩:=h5 N D w base s.nG _ (s.F6 y);rw[s.s8 e1,St.tz];exact Ok s.nG h2 vO uJ src (by simpa [aM] using h4)
  ·rename_i q off e1
   split at h
   ·rename_i t' xs ho
    split at h
    ·rename_i Cm hc
     obtain⟨rfl,rfl⟩:=iU hc;obtain⟨ys,i,z,hi,hz,vO,uJ,h2,h3,h4,h5⟩:=Ed (rt:=rt) Aj h0 h1 h;refine⟨_,_,h3,Ec ha ⟨rfl,rfl,rfl⟩ (λj hj0 hn=>by
      have hj:j≠id:=λe=>hn (by rw[e,oT,ru])
      have hq:j≠q:=λe=>hj0 (by rw[e1];simp[vH,e])
      simp[St.set,hj,hq]) λN D w a s=>?_⟩
     obtain⟨cs,src⟩:=h5 N D w base (by rw[St.tz];exact(s.nG.kill q).1) _ (s.F6 y)
     rw[St.tz,St.tz];exact R7 s.nG ho h2 vO uJ src (s.uI e1) h4
    ·cases h
   ·cases h
  ·rename_i q off len e1
   split at h
   ·rename_i t' xs ho
    split at h
    ·rename_i Cm hc
     obtain⟨rfl,rfl⟩:=iU hc;replace h:=jx h;obtain⟨hni,h⟩:=h
     obtain⟨ys,ids,h2,h3⟩:=uU h;unfold inPlace at h2;obtain⟨h4,h5⟩:=jw h2;obtain⟨hu,Og,hsz,hb,i,hi,vO,R6,z,hz,uJ⟩:=qB Aj;rw[<-R6] at hb;refine⟨_,_,h5,Ec ha ⟨rfl,rfl,rfl⟩ (λj hj0 _=>by
      have hq:j≠q:=λe=>hj0 (by rw[e1];simp[vH,e])
      simp[St.set,hq]) λN D w a s=>?_⟩
     obtain⟨cs,src⟩:=GK (rt:=rt) (N:=N) h0 h1 hu hi hz hb vO hni (h3 N D w base s.nG _ (s.F6 y));rw[St.tz];exact PO s.nG ho vO src (s.uI e1) h4
    ·cases h
   ·cases h
  ·cases h
 ·cases h
end AM
namespace AM
open Go
variable {α:Type}{P:Program}{base:Nat}
theorem Vq {N:Names}{D:Nat->Prop}{w:World}{te:Ty}{h:Nat->Option gi}(S:kp N D w base h){q p:Nat}{xs ys:List te.den}(ho:h q=some (.row false te xs)){cs:List Value}(hl:cs.length=aM (β:=te.den) ys*te.size)(hr:eC N D w te ys (cs[·]?))(h1: ∀v∈cs,v.oneCell'=true)
  {nm:Nm} {a:Addr} (g1:N q=some nm) (hb:nm.base=some a) (lB:p+aM (β:=te.den) ys<=aM (β:=te.den) xs):
  (storeCells (Addr.at_ a (p*te.size)) cs).run P w= .ok () (w.setCells a.block (a.off+p*te.size) cs)/\
  kp N D (w.setCells a.block (a.off+p*te.size) cs) base (kC h q (.row false te (xs.take p++ys++xs.drop (p+aM (β:=te.den) ys):List te.den)))/\Ext N D w h N D (w.setCells a.block (a.off+p*te.size) cs) (kC h q (.row false te (xs.take p++ys++xs.drop (p+aM (β:=te.den) ys):List te.den))):=by
 obtain⟨mN,i1,i2,i3,i4,i5,i6⟩:=S.obj q _ ho;rw[g1] at i1;cases i1;have PN:aM (β:=te.den) (xs.take p++ys++xs.drop (p+aM (β:=te.den) ys))=nm.len:=by
  rw[i4];simp only[aM,zdP,zea,zeb];simp only[aM] at lB;omega
 rw[hb] at i6;obtain⟨j1,⟨C,LY,fz,j2,j3,j4⟩,j5,j6⟩:=i6;replace j4:=j4 rfl
 simp only[zdN,if_false] at j5;have mO:eC N D w te xs (aX w a):=j6;have Ga:p*te.size+cs.length<=nm.cap*te.size:=by rw[hl,<-zd0];exact zdZ _ (by omega)
 have jT:(storeCells (Addr.at_ a (p*te.size)) cs).run P w= .ok () (w.setCells a.block (a.off+p*te.size) cs):=by
  simp only[Addr.at_];exact pA j2 (j4.imp_right And.left) (by omega) h1
 obtain⟨o1,o2,o3⟩:=ll a.block cs (a.off+p*te.size) w;obtain⟨C',f1,f2⟩:=js a.block cs (a.off+p*te.size) w C LY fz j2;have UW:=jO a.block cs (a.off+p*te.size) w;have one:=kL a.block cs (a.off+p*te.size) w;have hD: ∀b,D b->(w.setCells a.block (a.off+p*te.size) cs).heap[b]?=w.heap[b]?:=λb vC=>one b (λe=>j5.2 (e▸vC));have Lr:=mO.mono (λ_ h=>h) hD;refine⟨jT,S.write (o':= .row false te (xs.take p++ys++xs.drop (p+aM (β:=te.den) ys):List te.den)) ho rfl g1 hb o1 o2 o3 UW one ?_⟩;refine⟨nm,g1,i2,i3,PN.symm,i5,?_⟩;rw[hb];show _/\_/\_/\_
 refine⟨j1,⟨C',LY,fz,f1,by rw[f2];exact j3,λ_=>by rw[f2];exact j4⟩,by simp only[zdN,if_false];exact j5,?_⟩
 have Js:aM (β:=te.den) (xs.take p)=p:=by simp only[aM,zea];simp only[aM] at lB;omega
 have YJ:aM (β:=te.den) (xs.take p++ys)=p+aM (β:=te.den) ys:=by
  have:aM (β:=te.den) (xs.take p++ys)=aM (β:=te.den) (xs.take p)+aM (β:=te.den) ys:=by simp[aM]
  rw[this,Js]
 have hA:eC N D (w.setCells a.block (a.off+p*te.size) cs) te (xs.take p:List te.den) (aX (w.setCells a.block (a.off+p*te.size) cs) a):=by
  refine(Lr.take p).congr λj hj=>?_;rw[Js] at hj;simp only[aX];exact(World.cell?_setCells_out _ _ _ _ _ (λ_ _=>by simp only;omega)).symm
 have hB:eC N D (w.setCells a.block (a.off+p*te.size) cs) te ys (λj=>aX (w.setCells a.block (a.off+p*te.size) cs) a (p*te.size+j)):=by
  refine(hr.mono (λ_ h=>h) hD).congr λj hj=>?_;rw[<-hl] at hj;have:=World.cell?_setCells_in a.block cs (a.off+p*te.size) w (λj hj=>jk j2 (by omega)) j hj
  simp only[aX];rw[<-zd1,this];simp
 have hC:eC N D (w.setCells a.block (a.off+p*te.size) cs) te (xs.drop (p+aM (β:=te.den) ys):List te.den) (λj=>aX (w.setCells a.block (a.off+p*te.size) cs) a ((p+aM (β:=te.den) ys)*te.size+j)):=by
  refine(Lr.drop _).congr λj hj=>?_;simp only[aX];refine(World.cell?_setCells_out _ _ _ _ _ (λ_ _=>?_)).symm;right
  simp only;rw[hl,zd0 p];omega
 exact eC.append (eC.append hA (by rw[Js];exact hB)) (by rw[YJ];exact hC)
theorem L9 {N:Names}{D:Nat->Prop}{w:World}{te:Ty}{z:Value}{n:Nat}(zy:z.cells.toList=m9 te (iL te)):(Builtin.zeroCells z.cells n).toList.length=aM (β:=te.den) (List.replicate n (iL te))*te.size/\eC N D w te (List.replicate n (iL te)) ((Builtin.zeroCells z.cells n).toList[·]?)/\∀v∈(Builtin.zeroCells z.cells n).toList,v.oneCell'=true:=by
 have uJ:z.cells.size=te.size:=by rw[<-ni te,<-zy];simp
 refine⟨by simp[size_zeroCells,uJ,aM],eC.JO n zy λj hj=>?_,λv hv=>?_⟩
 ·have hp:0<te.size:=by
   rcases zd6 te.size with q|q
   ·rw[q] at hj;omega
   ·exact q
  have hm:j%te.size<z.cells.size:=by rw[uJ];exact Nat.mod_lt _ hp
  simp only[Builtin.zeroCells,Array.getElem?_toList];rw[Array.getElem?_map,Array.getElem?_range,if_pos (by rw[uJ];exact hj),zdV]
  rw[uJ] at hm⊢;rw[getElem!_pos z.cells _ (by rw[uJ];exact hm),zeo (by rw[uJ];exact hm)]
 ·simp only[Builtin.zeroCells,Array.mem_toList_iff,Array.mem_map,Array.mem_range] at hv
  obtain⟨j,hj,rfl⟩:=hv;have hp:0<z.cells.size:=by
   rcases zd6 z.cells.size with q|q
   ·rw[q] at hj;omega
   ·exact q
  have hm:j%z.cells.size<z.cells.size:=Nat.mod_lt _ hp;rw[getElem!_pos z.cells _ hm];have h2:eC N D w te [iL te] (z.cells[·]?):=by
   intro i x hx;have Rs:i=0:=by have:=yC hx;simp only[aM,zdQ,zdR] at this;omega
   subst Rs;simp only[ko,zei,zdM] at hx;subst hx;refine rV te _ λj hj=>?_;rw[<-zy];simp
  obtain⟨c,h3,h4⟩:=h2.cell (j:=j%z.cells.size) (by simp only[aM,zdQ,zdR];omega)
  rw[zeo hm] at h3;cases h3;exact h4
theorem Ma {dst rt pos after guard}{x:Operand}{args:Array Operand}{tys:Array TypeId}{tx:TypeId}{Bo:List TypeId}{st:St}{k:AV->St->Option α}{r:α}(ha:args.toList=[x])(ht:tys.toList=tx::Bo)
  (h:HL P st tx (st.ev x) k=some r):ow P base ⟨dst, .call ⟨.builtin .clear,args,tys⟩,rt,pos,after,guard⟩ st k r:=by
 have nH:args= #[x]:=by cases args;simp at ha;subst ha;rfl
 have Ah:tys[0]?=some tx:=by cases tys;simp at ht;subst ht;simp
 subst nH;unfold HL at h;split at h
 ·rename_i e te Aj
  obtain⟨hu,zcB,hsz,_⟩:=qB Aj;obtain⟨zv,i,z,h,hi,hz,YH,zy,uJ,_⟩:=rX h;have hzf:z.cells.toList=m9 te (iL te):=by rw[zy];exact tT 12 e te zv zcB YH
  split at h
  ·rename_i q off len e1
   split at h
   ·rename_i t' xs ho
    split at h
    ·rename_i ys hc
     obtain⟨rfl,rfl⟩:=iU hc;refine⟨_,_,h,rfl,rfl,rfl,λj hj _=>?_,λN D w a s=>?_⟩
     ·have mb:j≠q:=by
       rintro rfl
       exact hj (by simp[N0,e1,vH])
      simp[St.set,mb]
     ·have hv:=s.uI e1
      unfold cp at hv;simp only[AV.isAgg,jJ,an] at hv;obtain⟨nm,g1,hv⟩:=hv;obtain⟨mN,i1,i2,i3,i4,i5,i6⟩:=s.nG.obj q _ ho;rw[g1] at i1;cases i1;cases hb:nm.base with
      |none=>
       rw[hb] at hv;obtain⟨_,rfl,rfl,g4,g5⟩:=hv;simp only[zdM] at g5;have HU:ys=[]:=zef (by simp only[aM] at i4;omega)
       subst HU;have vR:kC st.h q (.row false t' (([]:List t'.den).take 0++List.replicate 0 (iL t')++([]:List t'.den).drop (0+0):List t'.den))=st.h:=by simpa using yb ho
       refine⟨N,D,w, .tuple #[], .inl ?_,?_,?_,lT.2 ⟨#[],rfl,by simp only[bB]⟩⟩
       ·simp[execOp,resolve,invoke,builtin,Builtin.clear_,Ah,g5,run_underlying hu]
       ·show Ext N D w st.h N D w (kC st.h q _)
        rw[vR];exact Ext.refl _ _ _ _
       ·show kp N D w base (kC st.h q _)
        rw[vR];exact s.nG
      |some ad=>
       rw[hb] at hv;simp only at hv;rw[if_pos (by simp[i2])] at hv
       obtain⟨g3,g4,v',room,g5,g6,g7,a',sK,rfl,g8,rfl,g9⟩:=hv;simp only[zdM] at g5;obtain⟨z1,z2,z3⟩:=L9 (N:=N) (D:=D) (w:=w) (n:=len) hzf;have hrl:aM (β:=t'.den) (List.replicate len (iL t'))=len:=by simp[aM]
       obtain⟨p1,p2,p3⟩:=Vq (P:=P) (p:=off) (ys:=(List.replicate len (iL t'):List t'.den)) s.nG ho z1 z2 z3 g1 hb (by rw[hrl,<-i4];exact g3)
       rw[hrl] at p2 p3;have zdq: ∀l,List.replicate l (iL t')=(List.replicate l (iL t'):List t'.den):=λ_=>rfl;have F7:ad.spot=none:=by rw[hb] at i6;exact i6.1
       cases len with
       |zero=>
        have hxx:(ys.take off++List.replicate 0 (iL t')++ys.drop (off+0):List t'.den)=ys:=by simp
        refine⟨N,D,w, .tuple #[], .inl ?_,?_,?_,lT.2 ⟨#[],rfl,by simp only[bB]⟩⟩
        ·simp[execOp,resolve,invoke,builtin,Builtin.clear_,Ah,g5,run_underlying hu]
        ·show Ext N D w st.h N D w (kC st.h q (.row false t' (ys.take off++List.replicate 0 (iL t')++ys.drop (off+0):List t'.den)))
         rw[hxx,yb ho];exact Ext.refl _ _ _ _
        ·show kp N D w base (kC st.h q (.row false t' (ys.take off++List.replicate 0 (iL t')++ys.drop (off+0):List t'.den)))
         rw[hxx,yb ho];exact s.nG
       |succ n=>
        have ha':a'=Addr.at_ ad (off*t'.size):=by
         rcases g9 with h9|h9
         ·rw[h9,i3,iT]
         ·omega
        subst ha';refine⟨N,D,_, .tuple #[], .inl ?_,p3,p2,lT.2 ⟨#[],rfl,by simp only[bB]⟩⟩
        have hzv:(zeroValue e).run P w= .ok z w:=by simp[zeroValue,typeInfo,hi,hz]
        simp[execOp,resolve,invoke,builtin,Builtin.clear_,Ah,g5,run_underlying hu,hzv,p1]
    ·cases h
   ·cases h
  ·cases h
 ·cases h
end AM
