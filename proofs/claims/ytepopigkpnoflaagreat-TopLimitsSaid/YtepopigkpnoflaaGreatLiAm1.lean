/- An abstract machine over programs of the model, and its soundness: what it tells of a function, the model's machine does. Conditions: none. -/
import GoSem.Claim
import Derived.Calls
import Derived.Laws.Sem
import Derived.KernelRfl
import Derived.Laws.Entries
import Derived.ChangeKeysEq
import Derived.Laws.Cells
import Derived.Laws.IdiomCopy
import Derived.Below
import Derived.Laws.Slices
import Derived.Laws.IdiomStrings
import Derived.Laws.MakeOwn
set_option linter.unusedVariables false
set_option linter.unusedSimpArgs false
namespace AM
theorem zdy.{u,v} {α : Type u} {β : Type v} (a : α) (f : α → Option β) : (some a).bind f = f a := rfl
theorem zdz.{u} {α : Sort u} (a b : α) : cond false a b = b := rfl
theorem zdA.{u} {α : Sort u} (a b : α) : cond true a b = a := rfl
theorem zdB (n : Nat) : ((n : Int)).toNat = n := rfl
theorem zdC : (!true) = false := rfl
theorem zdD : (!false) = true := rfl
theorem zdE.{u} {α : Type u} {l : List α} {i : Nat} (h : i < l.length) : l[i]? = some l[i] := List.getElem?_eq_getElem h
theorem zdF.{u} {α : Type u} (a b : α) : (some a = some b) = (a = b) := Option.some.injEq a b
theorem zdG : (false = true) = False := Bool.false_eq_true
theorem zdH (a b : Bool) : ((a && b) = true) = (a = true ∧ b = true) := Bool.and_eq_true a b
theorem zdI.{u} {α : Type u} {a b : List α} : (a ++ b).length = a.length + b.length := List.length_append
theorem zdJ.{u} {α : Type u} {a : α} {b : List α} : (a :: b).length = b.length + 1 := rfl
theorem zdK.{u} {α : Type u} : ([] : List α).length = 0 := rfl
theorem zdL.{u} {α : Type u} (y : α) {a : α} {l : List α} (h : a ∈ l) : a ∈ y :: l := List.mem_cons_of_mem y h
theorem zdM.{u} {α : Type u} {a : α} {l : List α} : a ∈ a :: l := List.mem_cons_self
theorem zdN {p : Prop} [Decidable p] : (decide p = true) = p := decide_eq_true_eq
theorem zdO.{u,v} {α : Type u} {β : Type v} {a : α} {f : α → β} : (some a).map f = some (f a) := rfl
theorem zdP.{u} {α : Type u} {l : List α} {i : Nat} {a : α} : l.getD i a = l[i]?.getD a := List.getD_eq_getElem?_getD
open Go
abbrev zdQ:=@List.mem_append_left
abbrev zdR:=@List.mem_append_right
abbrev zdS:=@Nat.mul_le_mul_right
abbrev zdT:=@Nat.add_mul
abbrev zdU:=@Nat.add_assoc
abbrev zdV:=@Nat.le_refl
abbrev zdW:=@Nat.le_trans
abbrev zdX:=@Nat.lt_of_lt_of_le
abbrev zdY:=@Nat.lt_or_ge
abbrev zdZ:=@Nat.eq_zero_or_pos
abbrev zd0:=@Sem.run_bind
abbrev zd1:=@Result.andThen_ok
abbrev zd2:=@Sem.run_pure
abbrev zd3:=@List.length_take
abbrev zd4:=@List.length_drop
abbrev zd5:=@List.getElem?_take
abbrev zd6:=@List.getElem?_drop
abbrev zd7:=@Bool.and_false
abbrev zd8:=@List.eq_nil_of_length_eq_zero
abbrev zd9:=@List.take_of_length_le
abbrev zea:=@List.isEmpty_iff
abbrev zeb:=@List.getElem?_cons_zero
abbrev zec:=@List.length_set
abbrev zed:=@List.getElem?_set_self
abbrev zee:=@List.getElem?_set_ne
abbrev zef:=@List.cons_append
abbrev zeg:=@Array.getElem?_modify
abbrev zeh:=@List.getElem_of_mem
abbrev zei:=@Array.getElem?_eq_getElem
abbrev zej:=@List.all_eq_true
abbrev zek:=@List.mem_cons
abbrev zel:=@Array.getElem?_push
abbrev zem:=@List.replicate_succ
abbrev zen:=@List.flatMap_cons
abbrev zeo:=@Nat.zero_mul
abbrev zep:=@Nat.zero_add
abbrev zeq:=@List.getElem?_append_left
abbrev zer:=@List.getElem?_append_right
abbrev zes:=@Nat.add_comm
abbrev zet:=@List.length_replicate
abbrev zeu:=@List.getElem?_replicate
abbrev zev:=@List.foldr_cons
abbrev zew:=@Option.map_eq_some_iff
abbrev zex:=@List.map_cons
abbrev zey:=@Array.eq_empty_of_size_eq_zero
abbrev zez:=@Nat.add_zero
abbrev zeA:=@List.nil_append
abbrev zeB:=@List.mem_of_getElem?
abbrev zeC:=@List.mem_of_mem_take
abbrev zeD:=@Nat.min_eq_left
abbrev zeE:=@Option.map_none
abbrev zeF:=@Int.le_refl
abbrev zeG:=@List.getElem?_map
abbrev zeH:=@Nat.zero_le
abbrev zeI:=@Nat.mul_one
abbrev zeJ:=@List.foldl_cons
abbrev zeK:=@List.length_map
abbrev zeL:=@List.getElem?_cons_succ
abbrev zeM:=@Bool.or_eq_true
abbrev zeN:=@List.mem_or_eq_of_mem_set
abbrev zeO:=@List.getElem_mem
abbrev zeP:=@List.replicate_zero
abbrev zeQ:=@List.contains_eq_mem
abbrev zeR:=@Option.isSome_none
abbrev zeS:=@List.take_length
abbrev zeT:=@List.take_append_drop
abbrev zeU:=@Array.getD_eq_getD_getElem?
abbrev zeV:=@Option.getD_some
abbrev zeW:=@Nat.lt_succ_self
abbrev zeX:=@Bool.and_self
abbrev zeY:=@List.mem_append
abbrev zeZ:=@List.mem_singleton
abbrev ze0:=@Bool.not_eq_true'
abbrev ze1:=@Bool.false_or
abbrev ze2:=@List.append_nil
abbrev ze3:=@Nat.le_add_right
abbrev ze4:=@List.filterMap_cons
abbrev ze5:=@List.set_cons_zero
abbrev ze6:=@List.mem_of_mem_drop
abbrev ze7:=@List.drop_eq_nil_of_le
abbrev ze8:=@List.getElem?_set
abbrev ze9:=@List.take_add_one
abbrev zfa:=@Int.natCast_zero
abbrev zfb:=@Nat.eq_of_beq_eq_true
abbrev zfc:=@List.drop_zero
abbrev zfd:=@List.set_set
abbrev zfe:=@List.singleton_append
abbrev zff:=@List.eraseIdx_eq_take_drop_succ
abbrev zfg:=@List.length_eraseIdx_of_lt
abbrev zfh:=@List.findIdx?_eq_none_iff
abbrev zfi:=@List.findIdx?_eq_some_iff_getElem
abbrev zfj:=@Int.le_trans
abbrev zfk:=@List.map_append
abbrev zfl:=@Bool.false_and
abbrev zfm:=@List.drop_eq_getElem_cons
abbrev zfn:=@Option.isSome_some
abbrev zfo:=@List.suffix_refl
abbrev zfp:=@List.pairwise_cons
abbrev zfq:=@List.set_eq_take_append_cons_drop
abbrev zfr:=@List.eraseIdx_sublist
abbrev zfs:=@List.length_singleton
abbrev zft:=@Int.eq_ofNat_of_zero_le
end AM
namespace AM
open Go
inductive Ty where
 |int (k:IntKind)|bool|str|nil|cons (a b:Ty)|arr (n:Nat) (t:Ty)|deep (t:Ty)
 |ref (tag:Nat)
 deriving DecidableEq
def Ty.den:Ty->Type
 | .int _=>Int| .bool=>Bool| .str=>ByteArray| .nil=>Unit| .cons a b=>a.den×b.den| .arr _ t=>List t.den| .deep t=>List t.den| .ref _=>Nat
def Ty.size:Ty->Nat
 | .int _=>1| .bool=>1| .str=>1| .nil=>0| .cons a b=>a.size+b.size| .arr n t=>n*t.size| .deep _=>1| .ref _=>1
def Ty.ks:Ty->List Nat
 | .cons a b=>a.ks++b.ks
 | .arr _ t=>t.ks
 | .deep t=>t.ks
 | .ref g=> [g]
 |_=> []
def tc (t t':Ty)(xs:List t.den):Option (List t'.den):=if h:t=t' then some (h▸xs) else none
noncomputable def af (p:Prop):Bool:= @decide p (Classical.propDecidable p)
theorem kL {p:Prop}:af p=true↔p:= @decide_eq_true_iff p (Classical.propDecidable p)
theorem kM (p:Prop) [h:Decidable p]:af p=decide p:=by
 cases h with
 |isTrue h=>rw[kL.2 h];rfl
 |isFalse h=>
  have:af p=false:=by
   cases e:af p with
   |false=>rfl
   |true=>exact absurd (kL.1 e) h
  rw[this];rfl
noncomputable def wr (k:IntKind)(n:Int):Int:=Classical.choose (⟨k.wrap n,rfl⟩: ∃m,m=k.wrap n)
theorem pP (k:IntKind)(n:Int):wr k n=k.wrap n:=Classical.choose_spec (⟨k.wrap n,rfl⟩: ∃m,m=k.wrap n)
noncomputable def tp (a b:Int):Int:=bif af (b<a) then b else a
noncomputable def imax (a b:Int):Int:=bif af (b>a) then b else a
noncomputable def sT (k:IntKind)(a b:Int):Int:=wr k ((BitVec.ofInt k.bits a&&&BitVec.ofInt k.bits b).toNat)
noncomputable def AU (k:IntKind)(a b:Int):Int:=wr k ((BitVec.ofInt k.bits a|||BitVec.ofInt k.bits b).toNat)
noncomputable def pC (k:IntKind)(a b:Int):Int:=wr k ((BitVec.ofInt k.bits a^^^BitVec.ofInt k.bits b).toNat)
noncomputable def Dv (k:IntKind)(a b:Int):Int:=wr k ((BitVec.ofInt k.bits a&&& ~~~BitVec.ofInt k.bits b).toNat)
noncomputable def shr (k:IntKind)(a b:Int):Int:=Classical.choose (⟨a.fdiv (2^(min b.toNat k.bits)),rfl⟩: ∃m:Int,m=a.fdiv (2^(min b.toNat k.bits)))
theorem Rx (k:IntKind)(a b:Int):shr k a b=a.fdiv (2^(min b.toNat k.bits)):=Classical.choose_spec (⟨a.fdiv (2^(min b.toNat k.bits)),rfl⟩: ∃m:Int,m=a.fdiv (2^(min b.toNat k.bits)))
noncomputable def shl (k:IntKind)(a b:Int):Int:=wr k (a*2^(min b.toNat k.bits))
def Ry (k:IntKind):Int:=if k.signed then-1 else k.max
inductive Step where
 |im (n:Nat)|idx (i:Nat)
inductive AV where
 |undef
 |val (v:Value)
 |ptr (id:Nat) (path:List Step)
 |tail (id:Nat) (off:Nat)
 |slice (id:Nat) (path:List Step) (off len:Nat)
 |dp (t:Ty) (xs:List t.den)
 |tS (v:AV)
 |agg (fs:List AV)
 |arr (n:Nat) (t:Ty) (xs:List t.den)
 |AY (vs:List AV)
 |xh (fn:Fn) (captured:List AV)
 |xy
 |ux (id:Nat) (n:Nat)
 |AW (fn:Fn) (first:List AV)
 |Rk (id:Nat) (path:List Step) (f off:Nat)
 |rf (tag n c:Nat)
mutual
def AV.size:AV->Nat
 | .agg fs=>AV.dR fs
 | .arr n t _=>n*t.size
 |_=>1
def AV.dR:List AV->Nat
 | []=>0
 |x::xs=>x.size+AV.dR xs
end
def AV.isAgg:AV->Bool
 | .agg _| .arr _ _ _=>true
 |_=>false
mutual
def AV.ids:AV->List Nat
 | .tail i _=> [i]
 | .slice i _ _ _=> [i]
 | .ux i _=> [i]
 | .agg fs=>AV.zaD fs
 |_=> []
def AV.zaD:List AV->List Nat
 | []=> []
 |x::xs=>x.ids++AV.zaD xs
end
def enc:(t:Ty)->t.den->AV
 | .int k,n=> .val (.int k n)
 | .bool,b=> .val (.bool b)
 | .str,s=> .val (.string s)
 | .nil,_=> .agg []
 | .cons a b,p=>match enc b p.2 with| .agg l=> .agg (enc a p.1::l)|v=> .agg [enc a p.1,v]
 | .arr n t,xs=> .arr n t xs
 | .deep t,xs=> .dp t xs
 | .ref g,n=> .rf g n 50
inductive og where
 |im (n:Nat)|idx
inductive cf where
 |hole (t:Ty)|const (v:Value)|ptr (c:Nat)|own (c:Nat)|FH (c:Nat)|agg (ps:List cf)|vm (t:Ty)
 |jY (c:Nat) (p:List og)
 |xh (fn:Fn) (ps:List cf)|ux (c n:Nat)
 |skip|Js (p:cf)
inductive aK where
 |var (p:cf)|row (t:Ty)|store (ep:List (Nat×aK))
def og.xi:List og->Type
 | []=>Unit
 | .im _::p=>og.xi p
 | .idx::p=>Nat×og.xi p
mutual
def cf.den:cf->Type
 | .hole t=>t.den
 | .vm t=>t.den
 | .agg ps=>cf.xi ps
 | .xh _ ps=>cf.xi ps
 | .FH _=>Nat
 | .jY _ p=>og.xi p
 | .Js p=>p.den
 |_=>Unit
def cf.xi:List cf->Type
 | []=>Unit
 |p::ps=>p.den×cf.xi ps
end
mutual
def aK.den:aK->Type
 | .var p=>p.den
 | .row t=>List t.den
 | .store ep=>List (cM ep)
def cM:List (Nat×aK)->Type
 | []=>Unit
 |(_,p)::os=>p.den×cM os
end
def og.mk:(p:List og)->og.xi p->List Step
 | [],_=> []
 | .im n::p,d=> .im n::og.mk p d
 | .idx::p,d=> .idx d.1::og.mk p d.2
mutual
def cf.mk (b:Nat->Nat):(p:cf)->p.den->AV
 | .hole t,x=>enc t x
 | .vm t,x=> .tS (enc t x)
 | .const v,_=> .val v
 | .ptr c,_=> .ptr (b c) []
 | .own c,_=> .tail (b c) 0
 | .FH c,n=> .slice (b c) [] 0 n
 | .agg ps,d=> .agg (cf.pV b ps d)
 | .jY c p,d=> .ptr (b c) (og.mk p d)
 | .xh fn ps,d=> .xh fn (cf.pV b ps d)
 | .ux c n,_=> .ux (b c) n
 | .skip,_=> .undef
 | .Js p,d=> .tS (cf.mk b p d)
def cf.pV (b:Nat->Nat):(ps:List cf)->cf.xi ps->List AV
 | [],_=> []
 |p::ps,d=>cf.mk b p d.1::cf.pV b ps d.2
end
inductive fK where
 |var (v:AV)
 |row (ro:Bool) (t:Ty) (xs:List t.den)
 |dead
 |store (ep:List (Nat×aK)) (xs:List (cM ep))
 |void
structure St where
 t:Nat->AV
 h:Nat->Option fK
 ep:Nat
 nt:Nat
def St.put (s:St)(d:Option Tmp)(v:AV):St:=match d with
 |some d=>if d<s.nt then{s with t:=λx=>if x=d then v else s.t x} else s
 |none=>s
def St.set (s:St)(id:Nat)(o:fK):St:={s with h:=λx=>if x=id then some o else s.h x}
def St.ev (s:St):Operand->AV
 | .tmp t=>s.t t
 | .const v=> .val v
 | .func f=> .val (.func (.func f) #[] #[])
 | .global _=> .undef
def SB:Nat:=100000000000000
def name (ep slot j:Nat):Nat:=(ep*1000+slot)*100+j
section
variable {α:Type}
def St.new (s:St)(id:Nat)(o:fK)(k:St->Option α):Option α:=match s.h id with|none=>k (s.set id o)|some _=>none
def Jt:List Step->AV->(AV->Option α)->Option α
 | [],v,k=>k v
 | .im n::p, .agg fs,k=>match fs[n]? with|some v=>Jt p v k|none=>none
 | .idx i::p, .arr _ t xs,k=>match xs[i]? with|some x=>Jt p (enc t x) k|none=>none
 |_,_,_=>none
def St.get (s:St)(id:Nat)(p:List Step)(k:AV->Option α):Option α:=
 match s.h id with
 |some (.var v)=>Jt p v k
 |some (.row _ t xs)=>(match p with
  | .idx i::p=>(match xs[i]? with|some x=>Jt p (enc t x) k|none=>none)
  |_=>none)
 |_=>none
def zI (s:St)(i:Nat):Bool:=match s.h i with|some (.row _ _ _)=>true|_=>false
def qm (s:St)(t:Ty):AV->(List t.den->List Nat->Option α)->Option α
 | .dp t' xs,k=>match tc t' t xs with|some ys=>k ys []|none=>none
 | .val (.slice none 0 0),k=>k [] []
 | .tail id off,k=>match s.h id with
  |some (.row _ t' xs)=>(match tc t' t xs with|some ys=>k (ys.drop off) [id]|none=>none)
  |_=>none
 | .slice id p off len,k=>match p.isEmpty&&zI s id with
  |true=>(match s.h id with
   |some (.row _ t' xs)=>(match tc t' t xs with|some ys=>k ((ys.drop off).take len) [id]|none=>none)
   |_=>none)
  |false=>s.get id p λu=>(match u with
   | .arr _ t' xs=>(match tc t' t xs with|some ys=>k ((ys.drop off).take len) [id]|none=>none)
   |_=>none)
 |_,_=>none
def Vd {β:Type}(f:AV->(β->List Nat->Option α)->Option α):List AV->(List β->List Nat->Option α)->Option α
 | [],k=>k [] []
 |v::vs,k=>f v λx i=>Vd f vs λxs j=>k (x::xs) (i++j)
def Ly (s:St)(t:Ty)(f:AV->(t.den->List Nat->Option α)->Option α)(v:AV)(k:List t.den->List Nat->Option α):Option α:=match v with
 | .ux id n=>(match s.h id with
  |some (.var (.agg vs))=>(match decide (vs.length=n) with|true=>Vd f vs λxs ids=>k xs (id::ids)|false=>none)
  |_=>none)
 |v=>qm s t v k
mutual
def qP (s:St):(t:Ty)->AV->(t.den->List Nat->Option α)->Option α
 | .int k',v,k=>match v with| .val (.int k'' n)=>(if k''=k' then k n [] else none)|_=>none
 | .bool,v,k=>match v with| .val (.bool b)=>k b []|_=>none
 | .str,v,k=>match v with| .val (.string b)=>k b []|_=>none
 | .nil,v,k=>match v with| .agg []=>k () []|_=>none
 | .cons a b,v,k=>match v with
  | .agg (x::l)=>qP s a x λp i=>qP s b (.agg l) λq j=>k (p,q) (i++j)
  |_=>none
 | .arr n t,v,k=>match v with
  | .arr n' t' xs=>(if n'=n then(match tc t' t xs with|some ys=>k ys []|none=>none) else none)
  |_=>none
 | .deep t,v,k=>Ly s t (qP s t) v k
 | .ref g,v,k=>match v with| .rf g' n 50=>(if g'=g then k n [] else none)| .val (.pointer none)=>k (0:Nat) []|_=>none
end
def St.freeze (s:St):List Nat->Option St
 | []=>some s
 |i::l=>match s.h i with
  |some (.row _ t xs)=>(s.set i (.row true t xs)).freeze l
  |_=>none
mutual
def AV.lh:AV->AV->Bool
 | .agg fs, .agg gs=>AV.vn fs gs
 | .arr n t _, .arr n' t' _=>decide (n=n')&&decide (t=t')
 | .agg _,_=>false
 | .arr _ _ _,_=>false
 | .AY _,_=>false
 | .undef,_=>false
 |_, .agg _=>false
 |_, .arr _ _ _=>false
 |_, .AY _=>false
 |_, .undef=>false
 |_,_=>true
def AV.vn:List AV->List AV->Bool
 | [],[]=>true
 |x::xs,y::ys=>x.lh y&&AV.vn xs ys
 |_,_=>false
end
def Ju (s:St):List Step->AV->AV->(AV->Option α)->Option α
 | [],u,v,k=>match v.lh u with|true=>k u|false=>none
 | .im n::p,u, .agg fs,k=>match fs[n]? with|some v=>Ju s p u v λv'=>k (.agg (fs.set n v'))|none=>none
 | .idx i::p,u, .arr n t xs,k=>match xs[i]? with
  |some x=>Ju s p u (enc t x) λv'=>qP s t v' λx' ids=>(match ids with| []=>k (.arr n t (xs.set i x'))|_=>none)
  |none=>none
 |_,_,_,_=>none
def St.store (s:St)(id:Nat)(p:List Step)(u:AV)(k:St->Option α):Option α:=
 match s.h id with
 |some (.var v)=>Ju s p u v λv'=>k (s.set id (.var v'))
 |some (.row false t xs)=>(match p with
  | .idx i::p=>(match xs[i]? with
   |some x=>Ju s p u (enc t x) λv'=>qP s t v' λx' ids=>(match ids.contains id||!(ids.all λj=>u.ids.contains j) with
    |true=>none
    |false=>match s.freeze ids with
     |some s=>k (s.set id (.row false t (xs.set i x')))
     |none=>none)
   |none=>none)
  |_=>none)
 |_=>none
inductive Sh where
 |one|agg (l:List Sh)|arr (n:Nat) (e:Sh)
mutual
def Sh.size:Sh->Nat
 | .one=>1
 | .agg l=>Sh.dR l
 | .arr n e=>n*e.size
def Sh.dR:List Sh->Nat
 | []=>0
 |x::xs=>x.size+Sh.dR xs
end
def sw:Ty->Sh
 | .nil=> .agg []
 | .cons a b=>match sw b with| .agg l=> .agg (sw a::l)|v=> .agg [sw a,v]
 | .arr n t=> .arr n (sw t)
 |_=> .one
mutual
def AV.sh:AV->Sh
 | .agg fs=> .agg (AV.yU fs)
 | .arr n t _=> .arr n (sw t)
 |_=> .one
def AV.yU:List AV->List Sh
 | []=> []
 |x::xs=>x.sh::AV.yU xs
end
def zJ:List Step->Sh->Option Sh
 | [],s=>some s
 | .im n::p, .agg l=>match l[n]? with|some s=>zJ p s|none=>none
 | .idx _::p, .arr _ e=>zJ p e
 |_,_=>none
def St.shape (s:St)(id:Nat)(p:List Step):Option Sh:=
 match s.h id with
 |some (.var v)=>zJ p v.sh
 |some (.row _ t _)=>(match p with| .idx _::p=>zJ p (sw t)|_=>none)
 |_=>none
def na (P:Program)(t:TypeId):Bool:=match P.underlying t with|some (.slice _)=>true|_=>false
def vo (P:Program):Nat->TypeId->Option Ty
 |0,_=>none
 |n+1,t=>match P.underlying t with
  |some (.int k)=>some (.int k)
  |some .bool=>some .bool
  |some .string=>some .str
  |some (.struct fs)=>fs.toList.foldr (λf acc=>match vo P n f.type,acc with|some a,some b=>some (.cons a b)|_,_=>none) (some .nil)
  |some (.array m e)=>(vo P n e).map (.arr m)
  |some (.slice e)=>(vo P n e).map .deep
  |some (.pointer e)=>some (.ref e)
  |_=>none
def iz:(t:Ty)->t.den
 | .int _=>(0:Int)| .bool=>false| .str=>ByteArray.empty| .nil=>()| .cons a b=>(iz a,iz b)| .arr n t=>List.replicate n (iz t)| .deep _=> []| .ref _=>(0:Nat)
def zeroOf (P:Program):Nat->TypeId->Option AV
 |0,_=>none
 |n+1,t=>match P.underlying t with
  |some (.int k)=>some (.val (.int k 0))
  |some .bool=>some (.val (.bool false))
  |some .string=>some (.val (.string ByteArray.empty))
  |some (.pointer _)=>some (.val (.pointer none))
  |some (.slice _)=>some (.val (.slice none 0 0))
  |some (.struct fs)=>(fs.toList.foldr (λf acc=>match zeroOf P n f.type,acc with|some a,some b=>some (a::b)|_,_=>none) (some [])).map .agg
  |some (.array m e)=>(match na P e with
   |true=>some (.agg (List.replicate m (.val (.slice none 0 0))))
   |false=>(vo P n e).map λt=> .arr m t (List.replicate m (iz t)))
  |_=>none
def mW:(t:Ty)->t.den->List Value
 | .int k,n=> [.int k n]
 | .bool,b=> [.bool b]
 | .str,s=> [.string s]
 | .nil,_=> []
 | .cons a b,p=>mW a p.1++mW b p.2
 | .arr _ t,xs=>xs.flatMap (mW t)
 | .deep _,_=> [.slice none 0 0]
 | .ref _,_=> [.pointer none]
mutual
def qX:AV->List Value
 | .val v=> [v]
 | .agg fs=>rN fs
 | .arr _ t xs=>xs.flatMap (mW t)
 |_=> [.nilFunc]
def rN:List AV->List Value
 | []=> []
 |x::xs=>qX x++rN xs
end
def veq:Value->Value->Bool
 | .int k a, .int k' b=>decide (k=k')&&decide (a=b)
 | .bool a, .bool b=>a==b
 | .string a, .string b=>a.data.toList==b.data.toList
 | .pointer none, .pointer none=>true
 | .slice none a b, .slice none c d=>decide (a=c)&&decide (b=d)
 |_,_=>false
def Px:List Value->List Value->Bool
 | [],[]=>true
 |x::xs,y::ys=>veq x y&&Px xs ys
 |_,_=>false
def zeroV (P:Program)(t:TypeId)(k:AV->Option α):Option α:=
 match(P.info? t).bind (·.zero),zeroOf P 12 t with
 |some z,some v=>(match Px z.cells.toList (qX v) with|true=>k v|false=>none)
 |_,_=>none
mutual
def AV.nw:AV->Bool
 | .undef=>false
 | .AY _=>false
 | .val v=>v.oneCell'
 | .agg fs=>AV.AZ fs
 |_=>true
def AV.AZ:List AV->Bool
 | []=>true
 |x::xs=>x.nw&&AV.AZ xs
end
def qY (P:Program)(t:TypeId):Bool:=match P.underlying t with|some (.struct _)|some (.array _ _)=>true|_=>false
def sx (P:Program)(t:TypeId)(v:AV):Bool:=
 v.nw&& (v.isAgg==qY P t)&&decide (v.size=P.cellsOf t)&& (P.underlying t).isSome
noncomputable def ak (a b:Int):Bool:=af (a=b)
def Dx (a b:Bool):Bool:=a==b
def Jv (a b:ByteArray):Bool:=a.toList==b.toList
noncomputable def zd:(t:Ty)->t.den->t.den->Bool
 | .int _,a,b=>ak a b
 | .bool,a,b=>Dx a b
 | .str,a,b=>Jv a b
 | .nil,_,_=>true
 | .cons a b,x,y=>zd a x.1 y.1&&zd b x.2 y.2
 | .arr _ t,xs,ys=>(xs.zip ys).all λp=>zd t p.1 p.2
 | .deep _,_,_=>false
 | .ref _,_,_=>false
def NU:Ty->Bool
 | .int _=>true
 |_=>false
noncomputable def UN (P:Program):Nat->TypeId->AV->AV->Option Bool
 |0,_,_,_=>none
 |d+1,t,x,y=>match P.underlying t,x,y with
  |some (.int k), .val (.int ka a), .val (.int kb b)=>if ka=k/\kb=k then some (ak a b) else none
  |some .bool, .val (.bool a), .val (.bool b)=>some (Dx a b)
  |some .string, .val (.string a), .val (.string b)=>some (Jv a b)
  |some (.struct fs), .agg xs, .agg ys=>(match P.stoodInHeld t with|true=>none|false=>LA P d fs.toList 0 xs ys)
  |some (.array n e), .arr m t xs, .arr m' t' ys=>(match vo P 12 e,tc t' t ys with
   |some te,some ys=>if te=t/\m=n/\m'=n/\NU t=true/\1<=d/\P.cellsOf e=1/\(P.info? e).isSome=true then some ((xs.zip ys).all λp=>zd t p.1 p.2) else none
   |_,_=>none)
  |_,_,_=>none
 where LA (P:Program) (d:Nat):List Field->Nat->List AV->List AV->Option Bool
 | [],_,[],[]=>some true
 |f::fs,off,x::xs,y::ys=>if f.name= "_" \/f.offset≠off then none else
  match sx P f.type x&&sx P f.type y&&decide (x.size=y.size) with
  |false=>none
  |true=>match UN P d f.type x y,LA P d fs (off+x.size) xs ys with|some a,some b=>some (a&&b)|_,_=>none
 |_,_,_,_=>none
noncomputable def Ve (P:Program)(t:TypeId)(x y:AV):Option Bool:=match x.isAgg&&y.isAgg with
 |true=>(match P.eqGuardType P.depth t with|true=>none|false=>UN P 12 t x y)
 |false=>none
def Xp (P:Program)(t:TypeId):Bool:=match P.underlying t with|some (.slice e)=>(P.info? e).isSome|_=>false
def uX (P:Program)(t:TypeId)(n:Nat):Bool:=match P.underlying t with|some (.slice e)=>(P.info? e).isSome&&decide (P.cellsOf e=n)|_=>false
def ze (P:Program)(t:TypeId)(m n:Nat):Bool:=match P.underlying t with|some (.array m' e)=>(P.info? e).isSome&&decide (m'=m)&&decide (P.cellsOf e=n)|_=>false
def C3 (P:Program)(t:TypeId)(m n:Nat):Bool:=match P.underlying t with|some (.pointer t')=>ze P t' m n|_=>ze P t m n
def Rz (P:Program)(t:TypeId)(m:Nat)(te:Ty):Bool:=match P.underlying t with|some (.array m' e)=>decide (m'=m)&& (match vo P 12 e with|some Yo=>decide (Yo=te)&&decide (P.cellsOf e=te.size)|none=>false)|_=>false
def Hq (s:St)(id:Nat)(p:List Step):Option Nat:=match s.h id,p with
 |some (.row _ te _),[]=>some te.size
 |_,p=>match s.shape id p with|some (.arr _ e)=>some e.size|_=>none
def Jw (P:Program)(s:St)(t:TypeId):AV->(Int->Option α)->Option α
 | .dp _ xs,k=>(match na P t with|true=>k xs.length|false=>none)
 | .val (.slice none 0 0),k=>(match na P t with|true=>k 0|false=>none)
 | .val (.string b),k=>(match P.underlying t with|some .string=>k b.size|_=>none)
 | .tail id off,k=>match s.h id with|some (.row _ _ xs)=>(match na P t with|true=>k ((xs.length-off:Nat):Int)|false=>none)|_=>none
 | .slice _ _ _ len,k=>(match na P t with|true=>k len|false=>none)
 | .ux _ n,k=>(match na P t with|true=>k n|false=>none)
 | .arr n _ _,k=>(match P.underlying t with|some (.array m _)=>(if m=n then k n else none)|_=>none)
 |_,_=>none
def xz (P:Program)(s:TypeId)(f:Nat):Option Nat:=
 match P.underlying s with
 |some (.struct fs)=>match fs[f]? with
  |some fd=>if P.cellsOf fd.type=0 then none else some fd.offset
  |none=>none
 |_=>none
def RA (P:Program)(s:TypeId)(f:Nat)(v:AV):Bool:=
 match P.underlying s with
 |some (.struct fs)=>match fs[f]? with
  |some fd=>sx P fd.type v
  |none=>false
 |_=>false
def NV (P:Program)(e:TypeId)(n:Nat):Bool:=match(P.info? e).bind (·.zero) with|some z=>decide (z.cells.size=n)|none=>false
def zK (P:Program)(t:TypeId):Option (TypeId×Ty):=
 match P.underlying t with
 |some (.slice e)=>match vo P 12 e with|some te=>(if te.size=P.cellsOf e/\1<=P.bytesOf e/\NV P e te.size=true then some (e,te) else none)|none=>none
 |_=>none
def nat?:AV->(Int->Option α)->Option α
 | .val (.int _ n),k=>k n
 |_,_=>none
def Hr (s:St)(x:Option Operand)(d:Int)(k:Int->Option α):Option α:=match x with|none=>k d|some x=>nat? (s.ev x) k
def elems (s:St)(t:Ty):List AV->(List t.den->List Nat->Option α)->Option α
 | [],k=>k [] []
 |v::vs,k=>qP s t v λx i=>elems s t vs λxs j=>k (x::xs) (i++j)
def Dy (sz:Nat):List AV->List (Nat×AV)->Option (List AV)
 |l,[]=>some l
 |l,(i,u)::ps=>match decide (i<l.length)&&u.nw&&decide (u.size=sz) with|true=>Dy sz (l.set i u) ps|false=>none
def zL (fs:List AV):List (Nat×AV)->Option (List AV)
 | []=>some fs
 |(i,u)::ps=>match fs[i]? with|some v=>(match v.lh u&&u.nw with|true=>zL (fs.set i u) ps|false=>none)|none=>none
def C4 (s:St)(t:Ty)(xs:List t.den):List (Nat×AV)->(List t.den->Option α)->Option α
 | [],k=>k xs
 |(i,u)::ps,k=>qP s t u λx ids=>match ids with| []=>(match decide (i<xs.length)&&u.nw with|true=>C4 s t (xs.set i x) ps k|false=>none)|_=>none
def tH (P:Program):List Field->Nat->List AV->Bool
 | [],_,[]=>true
 |f::fs,off,v::vs=>decide (f.offset=off)&&decide (P.cellsOf f.type=v.size)&& (P.info? f.type).isSome&&tH P fs (off+v.size) vs
 |_,_,_=>false
def room:Nat:=2^46
def uI (xs:List Int):ByteArray:=⟨(xs.map λn=>n.toNat.toUInt8).toArray⟩
noncomputable def RB (s:St)(op:BinOp)(ka kb:IntKind)(a b:Int)(k:AV->St->Option α):Option α:=match op with
 | .shl=>(match af (b<0) with|true=>none|false=>k (.val (.int ka (shl ka a b))) s)
 | .shr=>(match af (b<0) with|true=>none|false=>k (.val (.int ka (shr ka a b))) s)
 |op=>if ka=kb then(match op with
  | .add=>k (.val (.int ka (wr ka (a+b)))) s
  | .sub=>k (.val (.int ka (wr ka (a-b)))) s
  | .mul=>k (.val (.int ka (wr ka (a*b)))) s
  | .quo=>(match af (b=0) with|true=>none|false=>k (.val (.int ka (wr ka (a.tdiv b)))) s)
  | .rem=>(match af (b=0) with|true=>none|false=>k (.val (.int ka (a.tmod b))) s)
  | .and=>k (.val (.int ka (sT ka a b))) s
  | .or=>k (.val (.int ka (AU ka a b))) s
  | .xor=>k (.val (.int ka (pC ka a b))) s
  | .andNot=>k (.val (.int ka (Dv ka a b))) s
  | .eql=>k (.val (.bool (af (a=b)))) s
  | .neq=>k (.val (.bool (!af (a=b)))) s
  | .lss=>k (.val (.bool (af (a<b)))) s
  | .leq=>k (.val (.bool (af (a<=b)))) s
  | .gtr=>k (.val (.bool (af (a>b)))) s
  | .geq=>k (.val (.bool (af (a>=b)))) s
  |_=>none) else none
def Rl (s:St)(op:BinOp)(r:Bool)(k:AV->St->Option α):Option α:=match op with
 | .eql=>k (.val (.bool r)) s
 | .neq=>k (.val (.bool (!r))) s
 |_=>none
def zf (P:Program)(t:TypeId):Bool:=match P.underlying t with|some (.pointer _)=>true|_=>false
noncomputable def Jx (P:Program)(s:St)(op:BinOp)(t:TypeId)(x:AV)(k:AV->St->Option α):Option α:=match na P t with
 |false=>none
 |true=>Jw P s t x λn=>match af (n=0) with
  |true=>(match op with| .eql=>k .xy s| .neq=>k .xy s|_=>none)
  |false=>Rl s op false k
noncomputable def RC (P:Program)(s:St)(op:BinOp)(t:TypeId)(x y:AV)(k:AV->St->Option α):Option α:=match x,y with
 | .val (.int ka a), .val (.int kb b)=>RB s op ka kb a b k
 | .val (.bool a), .val (.bool b)=>(match P.underlying t with|some .bool=>Rl s op (Dx a b) k|_=>none)
 | .val (.string a), .val (.string b)=>Rl s op (Jv a b) k
 | .val (.pointer none), .val (.pointer none)=>(match zf P t with|true=>Rl s op true k|false=>none)
 | .val (.slice none _ _), .val (.slice none _ _)=>(match na P t with|true=>Rl s op true k|false=>none)
 | .ptr _ _, .val (.pointer none)=>(match zf P t with|true=>Rl s op false k|false=>none)
 | .val (.pointer none), .ptr _ _=>(match zf P t with|true=>Rl s op false k|false=>none)
 | .rf _ n _, .val (.pointer none)=>(match zf P t with|true=>Rl s op (af (n=0)) k|false=>none)
 | .val (.pointer none), .rf _ n _=>(match zf P t with|true=>Rl s op (af (n=0)) k|false=>none)
 | .dp te xs, .val (.slice none _ _)=>Jx P s op t (.dp te xs) k
 | .tail i off, .val (.slice none _ _)=>Jx P s op t (.tail i off) k
 | .slice i p off len, .val (.slice none _ _)=>Jx P s op t (.slice i p off len) k
 |a,b=>(match Ve P t a b with|some r=>Rl s op r k|none=>none)
def xA (P:Program)(s:St)(t:TypeId)(x:AV)(f:Nat)(k:AV->St->Option α):Option α:=match x,xz P t f with
 | .ptr i p,some off=>(match s.h i with
  |some .dead=>k (.Rk i p f off) s
  |_=>(match s.shape i p with|some (.agg fs)=>(match decide (Sh.dR (fs.take f)=off/\f<fs.length) with|true=>k (.ptr i (p++ [.im f])) s|false=>none)|_=>none))
 | .tS (.agg fs),some off=>(match decide (AV.dR (fs.take f)=off) with|true=>(match fs[f]? with|some v=>k (.tS v) s|none=>none)|false=>none)
 |_,_=>none
def Hs (P:Program)(s:St)(t:TypeId)(x:AV)(f:Nat)(k:AV->St->Option α):Option α:=match x,xz P t f with
 | .agg fs,some off=>(match decide (AV.dR (fs.take f)=off) with|true=>(match fs[f]? with|some v=>(match RA P t f v with|true=>k v s|false=>none)|none=>none)|false=>none)
 |_,_=>none
def LB (P:Program)(s:St)(t:TypeId)(x:AV)(k:AV->St->Option α):Option α:=match x with
 | .ptr i p=>s.get i p λv=>(match sx P t v with|true=>k v s|false=>none)
 | .tS v=>(match sx P t v with|true=>k v s|false=>none)
 |_=>none
def Ht (P:Program)(s:St)(t:TypeId)(x y:AV)(k:AV->St->Option α):Option α:=match x with
 | .ptr i p=>(match sx P t y with|true=>s.store i p y λs'=>k (.val Go.undef) s'|false=>none)
 |_=>none
def Hu (P:Program)(s:St)(id:Nat)(t:TypeId)(k:AV->St->Option α):Option α:=zeroV P t λv=>s.new id (.var v) λs=>k (.ptr id []) s
def RD (s:St)(id:Nat)(v:AV)(k:AV->St->Option α):Option α:=match v.nw with
 |true=>s.new id (.var v) λs=>k (.ptr id []) s
 |false=>none
def Hv (P:Program)(s:St)(t:TypeId)(parts:List (Nat×AV))(k:AV->St->Option α):Option α:=zeroV P t λz=>match P.underlying t,z with
 |some (.struct fl), .agg fs=>(match tH P fl.toList 0 fs with|true=>(match zL fs parts with|some fs=>k (.agg fs) s|none=>none)|false=>none)
 |some (.array m e), .arr n te xs=>(match decide (m=n)&&decide (P.cellsOf e=te.size)&& (P.info? e).isSome with|true=>C4 s te xs parts λxs=>k (.arr n te xs) s|false=>none)
 |_,_=>none
def AV.Yp:AV->Bool
 | .ptr _ _=>true
 | .agg (.ptr _ _::_)=>true
 |_=>false
def AV.zcs:AV->Bool
 | .tail _ _=>true
 | .slice _ _ _ _=>true
 |_=>false
def Hw (s:St)(id len sz:Nat)(l:List AV)(k:AV->St->Option α):Option α:=match decide (0<len*sz/\len*sz<=1000) with|true=>s.new id (.var (.agg l)) λs=>k (.ux id len) s|false=>none
def wi (P:Program)(s:St)(id:Nat)(t:TypeId)(len:Nat)(parts:List (Nat×AV))(k:AV->St->Option α):Option α:=match zK P t with
 |some (e,te)=>zeroV P e λz=>match Dy te.size (List.replicate len z) parts with
  |none=>none
  |some l=>match l.any AV.Yp||(decide (2<=len)&&l.any AV.zcs) with
   |true=>Hw s id len te.size l k
   |false=>elems s te l λxs ids=>(match ids.all (zI s) with
    |true=>(match s.freeze ids with
     |some s=>(match decide (len*te.size<=1000)&&ids.all (λj=>(parts.flatMap λp=>p.2.ids).contains j) with|true=>s.new id (.row false te xs) λs=>k (.tail id 0) s|false=>none)
     |none=>none)
    |false=>Hw s id len te.size l k)
 |none=>none
noncomputable def xB (P:Program)(s:St)(id:Nat)(t:TypeId)(l c:AV)(k:AV->St->Option α):Option α:=match zK P t with
 |some (e,te)=>nat? l λn=>nat? c λm=>
  (match af (n=m/\0<=n/\n*P.bytesOf e<=room) with
  |true=>zeroV P e λ_=>s.new id (.row false te (List.replicate n.toNat (iz te))) λs=>k (.tail id 0) s
  |false=>none)
 |none=>none
noncomputable def Dz (i:Int)(k:Nat->Option α):Nat->Nat->Option α
 |0,_=>none
 |f+1,j=>match af (i=j) with|true=>k j|false=>Dz i k f (j+1)
def DA (l:List Sh)(n:Nat):Bool:=l.all λe=>decide (e.size=n)
def A0 (l:List Sh):Nat:=match l with|e::_=>e.size| []=>0
noncomputable def xC (P:Program)(s:St)(t:TypeId)(x ix:AV)(k:AV->St->Option α):Option α:=nat? ix λi=>match x with
 | .dp te xs=>(match uX P t te.size with|false=>none|true=>match af (0<=i) with|true=>(match xs[i.toNat]? with|some x=>k (.tS (enc te x)) s|none=>none)|false=>none)
 | .tail id off=>(match s.h id with
  |some (.row _ te xs)=>(match uX P t te.size with|false=>none|true=>match af (0<=i/\i<((xs.length-off:Nat):Int)) with|true=>k (.ptr id [.idx (i.toNat+off)]) s|false=>none)
  |_=>none)
 | .slice id p off len=>(match Hq s id p with
  |some n=>(match uX P t n with|false=>none|true=>match af (0<=i/\i<len) with|true=>k (.ptr id (p++ [.idx (i.toNat+off)])) s|false=>none)
  |none=>none)
 | .ptr id p=>(match s.shape id p with
  |some (.arr n e)=>(match ze P t n e.size with|false=>none|true=>match af (0<=i/\i<n) with|true=>k (.ptr id (p++ [.idx i.toNat])) s|false=>none)
  |some (.agg l)=>(match ze P t l.length (A0 l)&&DA l (A0 l) with|false=>none|true=>Dz i (λj=>k (.ptr id (p++ [.im j])) s) l.length 0)
  |_=>none)
 | .ux id n=>(match s.shape id [] with
  |some (.agg l)=>(match uX P t (A0 l)&&DA l (A0 l)&&decide (l.length=n) with|false=>none|true=>Dz i (λj=>k (.ptr id [.im j]) s) l.length 0)
  |_=>none)
 | .tS (.arr n te xs)=>(match ze P t n te.size with|false=>none|true=>match af (0<=i/\i<n) with|true=>(match xs[i.toNat]? with|some x=>k (.tS (enc te x)) s|none=>none)|false=>none)
 |_=>none
def RE (P:Program)(t:TypeId)(fs:List AV):Bool:=match P.underlying t with|some (.array m e)=>decide (m=fs.length)&&fs.all (λv=>sx P e v)|_=>false
noncomputable def Hy (P:Program)(s:St)(t:TypeId)(x ix:AV)(k:AV->St->Option α):Option α:=nat? ix λi=>match x with
 | .arr n te xs=>(match Rz P t n te with|false=>none|true=>match af (0<=i/\i<n) with|true=>(match xs[i.toNat]? with|some x=>k (enc te x) s|none=>none)|false=>none)
 | .agg fs=>(match RE P t fs with|false=>none|true=>Dz i (λj=>match fs[j]? with|some v=>k v s|none=>none) fs.length 0)
 |_=>none
def Yq {β:Type}(lo hi:Option Operand)(l h:Int)(xs:List β):List β:=match lo,hi with|none,none=>xs|none,some _=>xs.take h.toNat|some _,none=>xs.drop l.toNat|some _,some _=>(xs.take h.toNat).drop l.toNat
def Gl (s:St)(id:Nat)(p:List Step)(off len:Nat):Nat:=match s.h id,p with|some (.row _ _ xs),[]=>xs.length-off|_,_=>len
noncomputable def DB (P:Program)(s:St)(t:TypeId)(x:AV)(lo hi:Option Operand)(mx:Operand)(k:AV->St->Option α):Option α:=Hr s lo 0 λl=>match hi with
 |none=>none
 |some hi=>nat? (s.ev hi) λh=>nat? (s.ev mx) λm=>match x with
  | .tail id off=>(match s.h id with
   |some (.row _ te xs)=>(match uX P t te.size with|false=>none|true=>match af (0<=l/\l<=h/\h<=m/\m<=((xs.length-off:Nat):Int)) with|true=>k .undef s|false=>none)
   |_=>none)
  |_=>none
noncomputable def Hz (P:Program)(s:St)(t:TypeId)(x:AV)(lo hi:Option Operand)(k:AV->St->Option α):Option α:=Hr s lo 0 λl=>match x with
 | .dp te xs=>(match uX P t te.size with|false=>none|true=>Hr s hi xs.length λh=>(match af (0<=l/\l<=h/\h<=xs.length) with
  |true=>k (.dp te (Yq lo hi l h xs)) s
  |false=>none))
 | .val (.slice none 0 0)=>(match Xp P t with|false=>none|true=>Hr s hi 0 λh=>(match af (l=0/\h=0) with|true=>k (.val (.slice none 0 0)) s|false=>none))
 | .tail id off=>(match s.h id with
  |some (.row _ te xs)=>(match uX P t te.size with|false=>none|true=>match hi with
   |none=>(match af (0<=l/\l<=((xs.length-off:Nat):Int)) with|true=>k (.tail id (l.toNat+off)) s|false=>none)
   |some hi=>nat? (s.ev hi) λh=>(match af (0<=l/\l<=h/\h<=((xs.length-off:Nat):Int)) with|true=>k (.slice id [] (l.toNat+off) (h-l).toNat) s|false=>none))
  |_=>none)
 | .slice id p off len=>(match Hq s id p with
  |some n=>(match uX P t n with|false=>none|true=>Hr s hi len λh=>(match af (0<=l/\l<=h/\h<=Gl s id p off len) with|true=>k (.slice id p (l.toNat+off) (h-l).toNat) s|false=>none))
  |none=>none)
 | .ptr id p=>(match s.shape id p with
  |some (.arr n e)=>(match C3 P t n e.size with|false=>none|true=>Hr s hi n λh=>(match af (0<=l/\l<=h/\h<=n) with|true=>k (.slice id p l.toNat (h-l).toNat) s|false=>none))
  |_=>none)
 | .tS (.arr n te xs)=>(match C3 P t n te.size with|false=>none|true=>Hr s hi n λh=>(match af (0<=l/\l<=h/\h<=n) with|true=>k (.dp te ((xs.take h.toNat).drop l.toNat)) s|false=>none))
 |_=>none
noncomputable def A1 (P:Program)(s:St)(id:Nat)(src dst:TypeId)(x:AV)(k:AV->St->Option α):Option α:=match x with
 | .val (.int _ n)=>(match P.underlying src,P.underlying dst with|some (.int _),some (.int kd)=>k (.val (.int kd (wr kd n))) s|_,_=>none)
 | .val (.string b)=>(match P.underlying src,P.underlying dst with
  |some .string,some .string=>k (.val (.string b)) s
  |some .string,some (.slice e)=>(match P.underlying e with
   |some (.int .u8)=>s.new id (.row false (.int .u8) (b.data.toList.map λc=>((c.toNat:Nat):Int))) λs=>k (.tail id 0) s
   |_=>none)
  |_,_=>none)
 |v=>(match P.underlying src,P.underlying dst with
  |some (.slice e),some .string=>(match P.underlying e with
   |some (.int .u8)=>qm s (.int .u8) v λxs _=>k (.val (.string (uI xs))) s
   |_=>none)
  |some (.slice _),some (.slice e)=>(match P.underlying e,decide (src=dst),v with
   |some (.int .u8),true, .tail j off=>(match s.h j with
    |some (.row false (.int .u8) xs)=>(match decide (off<xs.length) with|true=>k (.tail j off) s|false=>none)
    |_=>none)
   |_,_,_=>none)
  |_,_=>none)
def zg (P:Program)(t:TypeId):Bool:=match P.underlying t with|some (.int _)=>false|some _=>true|none=>false
noncomputable def inPlace (s:St)(i off len:Nat)(te:Ty)(xs ys:List te.den)(k:AV->St->Option α):Option α:=
 match af (off+len+ys.length<=xs.length) with
 |true=>k (.slice i [] off (len+ys.length)) (s.set i (.row false te (xs.take (off+len)++ys++xs.drop (off+len+ys.length))))
 |false=>none
noncomputable def grow (P:Program)(s:St)(id:Nat)(e:TypeId)(te:Ty)(base ys:List te.den)(k:AV->St->Option α):Option α:=
 match af (((base.length+ys.length:Nat):Int)*P.bytesOf e<=room) with
 |true=>s.new id (.row false te (base++ys)) λs=>k (.tail id 0) s
 |false=>none
noncomputable def grown (P:Program)(s:St)(id:Nat)(ty:TypeId)(e:TypeId)(te:Ty)(base:List te.den)(y:AV)(k:AV->St->Option α):Option α:=match y with
 | .val (.int .i64 n)=>(match P.underlying ty with
  |some (.int _)=>(match af (0<=n/\((base.length:Int)+n)*P.bytesOf e<=room) with
   |true=>zeroV P e λ_=>s.new id (.row false te (base++List.replicate n.toNat (iz te))) λs=>k (.tail id 0) s
   |false=>none)
  |_=>none)
 | .val (.string b)=>(match zg P ty,tc (.int .u8) te (b.data.toList.map λc=>((c.toNat:Nat):Int)) with
  |true,some ys=>grow P s id e te base ys k
  |_,_=>none)
 |v=>(match zg P ty with|false=>none|true=>qm s te v λys _=>grow P s id e te base ys k)
noncomputable def DC (P:Program)(s:St)(id:Nat)(tx ty:TypeId)(x y:AV)(k:AV->St->Option α):Option α:=match zK P tx with
 |some (e,te)=>(match x with
  | .val (.slice none 0 0)=>grown P s id ty e te [] y k
  | .tail i off=>(match s.h i with
   |some (.row false t' xs)=>(match tc t' te xs with
    |some xs=>grown P (s.set i .dead) id ty e te (xs.drop off) y k
    |none=>none)
   |_=>none)
  | .slice i [] off len=>(match s.h i with
   |some (.row false t' xs)=>(match tc t' te xs with
    |some xs=>(match zg P ty with|false=>none|true=>qm s te y λys _=>inPlace s i off len te xs ys k)
    |none=>none)
   |_=>none)
  |_=>none)
 |none=>none
noncomputable def LC (P:Program)(s:St)(tx:TypeId)(x y:AV)(k:AV->St->Option α):Option α:=match zK P tx with
 |some (_,te)=>qm s te y λys _=>(match x with
  | .tail id off=>(match s.h id with
   |some (.row false t' xs)=>(match decide (off=0) with|false=>none|true=>match tc t' te xs with
    |some xs=>k (.val (.int .i64 ((min ys.length xs.length:Nat):Int))) (s.set id (.row false te (ys.take xs.length++xs.drop ys.length)))
    |none=>none)
   |_=>none)
  | .slice id p off len=>(match p.isEmpty&&zI s id with
   |true=>none
   |false=>s.get id p λu=>(match u with
    | .arr n t' xs=>(match tc t' te xs with
     |some xs=>s.store id p (.arr n te (xs.take off++(ys.take len++xs.drop (off+min ys.length len)))) λs=>k (.val (.int .i64 ((min ys.length len:Nat):Int))) s
     |none=>none)
    |_=>none))
  |_=>none)
 |none=>none
noncomputable def HA (P:Program)(s:St)(t:TypeId)(x:AV)(k:AV->St->Option α):Option α:=match zK P t with
 |some (e,te)=>zeroV P e λ_=>(match x with
  | .slice i [] off len=>(match s.h i with
   |some (.row false t' xs)=>(match tc t' te xs with
    |some xs=>k (.AY []) (s.set i (.row false te (xs.take off++List.replicate len (iz te)++xs.drop (off+len))))
    |none=>none)
   |_=>none)
  |_=>none)
 |none=>none
noncomputable def A2 (P:Program)(s:St)(id:Nat)(b:Builtin)(args:List AV)(tys:List TypeId)(k:AV->St->Option α):Option α:=match b,args,tys with
 | .len,[x],t::_=>Jw P s t x λn=>k (.val (.int .i64 n)) s
 | .cap,[x],t::_=>(match x with| .val (.slice none 0 0)=>(match na P t with|true=>k (.val (.int .i64 0)) s|false=>none)|_=>none)
 | .min,[x,y],_=>(match x,y with| .val (.int ka a), .val (.int kb b)=>(if ka=kb then k (.val (.int ka (tp a b))) s else none)|_,_=>none)
 | .max,[x,y],_=>(match x,y with| .val (.int ka a), .val (.int kb b)=>(if ka=kb then k (.val (.int ka (imax a b))) s else none)|_,_=>none)
 | .append,[x,y],tx::ty::_=>DC P s id tx ty x y k
 | .copy,[x,y],tx::_=>LC P s tx x y k
 | .clear,[x],tx::_=>HA P s tx x k
 |_,_,_=>none
noncomputable def aop (P:Program)(s:St)(o:Oper)(k:AV->St->Option α):Option α:=
 match o.op with
 | .move x=>k (s.ev x) s
 | .assign x=>k (s.ev x) s
 | .nilCheck x=>(match s.ev x with| .ptr i p=>k (.ptr i p) s| .tS v=>k (.tS v) s| .rf g n c=>(match af (n=0) with|true=>none|false=>k (.rf g n c) s)|_=>none)
 | .fieldAddr t x f=>xA P s t (s.ev x) f k
 | .field t x f=>Hs P s t (s.ev x) f k
 | .load t x=>LB P s t (s.ev x) k
 | .store t x y=>Ht P s t (s.ev x) (s.ev y) k
 | .pick c a b=>(match s.ev c with| .val (.bool t)=>(match t with|true=>k (s.ev a) s|false=>k (s.ev b) s)|_=>none)
 | .binOp op t x y _=>RC P s op t (s.ev x) (s.ev y) k
 | .unOp op _ x=>(match op,s.ev x with
  | .not, .val (.bool b)=>k (.val (.bool (!b))) s
  | .neg, .val (.int ki n)=>k (.val (.int ki (wr ki (0-n)))) s
  | .xor, .val (.int ki n)=>k (.val (.int ki (pC ki (Ry ki) n))) s
  |_,_=>none)
 | .convert src dst x=>A1 P s (name s.ep (o.dst.getD 999) 0) src dst (s.ev x) k
 | .extract x i=>(match s.ev x with| .AY vs=>(match vs[i]? with|some v=>k v s|none=>none)|_=>none)
 | .alloc t=>Hu P s (name s.ep (o.dst.getD 999) 0) t k
 | .box _ x=>RD s (name s.ep (o.dst.getD 999) 0) (s.ev x) k
 | .build t parts=>Hv P s t (parts.toList.map λp=>(p.1,s.ev p.2)) k
 | .buildSlice t len parts=>wi P s (name s.ep (o.dst.getD 999) 0) t len (parts.toList.map λp=>(p.1,s.ev p.2)) k
 | .makeSlice t l c=>xB P s (name s.ep (o.dst.getD 999) 0) t (s.ev l) (s.ev c) k
 | .indexAddr t x ix=>xC P s t (s.ev x) (s.ev ix) k
 | .index t x ix=>Hy P s t (s.ev x) (s.ev ix) k
 | .slice t x lo hi none=>Hz P s t (s.ev x) lo hi k
 | .slice t x lo hi (some mx)=>DB P s t (s.ev x) lo hi mx k
 | .makeFunc fn first captured=>(match first.size,captured.size with|0,_=>k (.xh fn (captured.toList.map s.ev)) s|_,0=>k (.AW fn (first.toList.map s.ev)) s|_,_=>none)
 | .call {callee:= .builtin b,args,argTypes}=>A2 P s (name s.ep (o.dst.getD 999) 0) b (args.toList.map s.ev) argTypes.toList k
 |_=>none
inductive Item where
 |code (c:Code)
 |ops (all:Array Oper) (rest:List Oper)
 |zM (all:Array Oper) (i:Nat) (rest:List Oper) (DD:List (Nat×(List Nat×List Nat)×Option Nat))
 |NW (id:Nat)
inductive Out where
 |norm|ret|exit (id:Nat)
def unwind (id:Nat):List Item->Option (List Item)
 | []=>none
 | .NW i::k=>if i=id then some k else unwind id k
 |_::k=>unwind id k
structure Env (α:Type) where
 call:FuncId->List AV->St->(fresh:Nat)->(AV->St->Option α)->Option α
 loop:Nat->St->(Out->St->Option α)->Option α
 fp:FuncId->List AV->St->Nat->List Nat×List Nat
def mu:Code->Option Nat
 | .region id _ _=>some id
 | .seq a b=>match mu a with|some i=>some i|none=>mu b
 | .cond _ a b=>match mu a with|some i=>some i|none=>mu b
 | .block _ c| .loop c| .scope c=>mu c
 |_=>none
def vp:AV->List Nat
 | .ptr i _| .tail i _| .slice i _ _ _| .ux i _| .Rk i _ _ _=> [i]
 |_=> []
def NX (s:St)(o:Oper):List Nat:=
 match o.op with
 | .store _ x y=>vp (s.ev x)++(s.ev y).ids
 | .buildSlice _ _ ps=>ps.toList.flatMap λp=>(s.ev p.2).ids
 | .call {callee:= .builtin .append,args,argTypes:=_}=>args.toList.flatMap λx=>vp (s.ev x)
 | .call {callee:= .builtin .copy,args,argTypes:=_}=>args.toList.flatMap λx=>vp (s.ev x)
 | .call {callee:= .builtin .clear,args,argTypes:=_}=>args.toList.flatMap λx=>vp (s.ev x)
 |_=> []
def makes (o:Oper):Bool:=
 match o.op with
 | .alloc _| .box _ _| .makeSlice _ _ _| .convert _ _ _| .buildSlice _ _ _=>true
 | .call {callee:= .builtin .append,args:=_,argTypes:=_}=>true
 | .call {callee:= .value _,args:=_,argTypes:=_}=>true
 |_=>false
def qD (ep:Nat)(o:Oper)(id:Nat):Bool:=makes o&&decide (id/100=ep*1000+o.dst.getD 999)
def RF (o:Oper):List Nat:=o.op.operands.toList.filterMap fun| .tmp t=>some t|_=>none
def HB (h:Nat->Option fK):AV->AV
 | .Rk i p f off=>match St.shape ⟨λ_=> .undef,h,0,0⟩ i p with
  |some (.agg fs)=>(match decide (Sh.dR (fs.take f)=off/\f<fs.length) with|true=> .ptr i (p++ [.im f])|false=> .Rk i p f off)
  |_=> .Rk i p f off
 |v=>v
def rO (s:St):St:={s with t:=λx=>HB s.h (s.t x)}
def DE (s:St)(o:Oper)(fp:List Nat×List Nat):Nat->Option fK:=λid=>if fp.1.contains id||fp.2.contains id||qD s.ep o id then s.h id else some .dead
def wY (s:St)(o:Oper)(fp:List Nat×List Nat):St:=
 {t:=λx=>if(RF o).contains x then HB (DE s o fp) (s.t x) else .undef,h:=DE s o fp,ep:=s.ep,nt:=s.nt}
def merge (s:St)(o:Oper)(W:List Nat)(s':St):St:={s with h:=λid=>if W.contains id||qD s.ep o id then s'.h id else s.h id}
noncomputable def yH (env:Env α)(s:St)(o:Oper):List Nat×List Nat:=
 match o.op with
 | .load _ x| .fieldAddr _ x _| .indexAddr _ x _| .slice _ x _ _ _| .convert _ _ x=>(vp (s.ev x),NX s o)
 | .call {callee:= .builtin _,args,argTypes:=_}=>(args.toList.flatMap λx=>vp (s.ev x),NX s o)
 | .call {callee:= .value f,args,argTypes:=_}=>match s.ev f with
  | .val (.func (.func f) _ _)=>env.fp f (args.toList.map s.ev) s (name s.ep (o.dst.getD 999) 0)
  | .xh (.func f) cs=>env.fp f (args.toList.map s.ev++cs) s (name s.ep (o.dst.getD 999) 0)
  |_=>([],[])
 |_=>([],NX s o)
abbrev Fp:=(List Nat×List Nat)×Option Nat
def keyOf (ep:Nat)(o:Oper):Option Nat:=if makes o then some (ep*1000+o.dst.getD 999) else none
def Xq (k:Option Nat)(l:List Nat):Bool:=match k with|none=>false|some k=>l.any λi=>decide (i/100=k)
def yV (a b:Fp):Bool:=
 a.1.2.any (λi=>b.1.1.contains i||b.1.2.contains i)||b.1.2.any (λi=>a.1.1.contains i)||
 Xq a.2 (b.1.1++b.1.2)||Xq b.2 (a.1.1++a.1.2)||(match a.2,b.2 with|some k,some k'=>decide (k=k')|_,_=>false)
def Xr (bj:Nat)(f:Fp)(DD:List (Nat×Fp)):Bool:=
 DD.all λp=>bj.testBit p.1||!yV p.2 f
noncomputable def Jy (P:Program)(env:Env α)(st:St)(o:Oper)(k:AV->St->Option α):Option α:=match o.op with
 | .call {callee:= .value f,args,argTypes:=_}=>(match st.ev f with
  | .val (.func (.func f) first captured)=>(match first.size+captured.size with|0=>env.call f (args.toList.map st.ev) st (name st.ep (o.dst.getD 999) 0) k|_=>none)
  | .xh (.func f) cs=>env.call f (args.toList.map st.ev++cs) st (name st.ep (o.dst.getD 999) 0) k
  |_=>none)
 |_=>aop P st o k
noncomputable def guarded (all:Array Oper)(o:Oper)(st:St)(next:St->Option α)(skip:St->Option α):Option α:=match o.guard with
 |none=>next st
 |some (j,want)=>match(all[j]?).bind (·.dst) with
  |none=>none
  |some slot=>match st.t slot with
   | .val (.bool b)=>(match b with
    |true=>(match want with|true=>next (st.put (some slot) (.val (.bool true)))|false=>skip ((st.put (some slot) (.val (.bool true))).put o.dst (.val Go.undef)))
    |false=>(match want with|false=>next (st.put (some slot) (.val (.bool false)))|true=>skip ((st.put (some slot) (.val (.bool false))).put o.dst (.val Go.undef))))
   | .val (.tuple _)=>skip (st.put o.dst (.val Go.undef))
   |_=>none
noncomputable def exec (P:Program)(env:Env α):Nat->List Item->St->(Out->St->Option α)->Option α
 |0,_,_,_=>none
 |n+1,todo,st,K=>
  match todo with
  | []=>K .norm st
  | .NW _::k=>exec P env n k st K
  | .ops all rest::k=>(match rest with
   | []=>exec P env n k st K
   |o::rest=>guarded all o st (λst=>Jy P env st o λv eZ=>exec P env n (.ops all rest::k) (eZ.put o.dst v) K) (λst=>exec P env n (.ops all rest::k) st K))
  | .zM all i rest DD::k=>(match rest with
   | []=>exec P env n k (rO st) K
   |o::rest=>guarded all o st
    (λst=>match Xr ((Region.before all).getD i 0) (yH env (rO st) o,keyOf st.ep o) DD with
     |true=>match(yH env (wY st o (yH env (rO st) o)) o).2.all (λi=>(yH env (rO st) o).2.contains i) with|false=>none|true=>Jy P env (wY st o (yH env (rO st) o)) o λv eZ=>exec P env n (.zM all (i+1) rest ((i,yH env (rO st) o,keyOf st.ep o)::DD)::k) ((merge st o (yH env (rO st) o).2 eZ).put o.dst v) K
     |false=>(match o.op with
      | .fieldAddr _ _ _=>(match Xr ((Region.before all).getD i 0) (([],[]),keyOf st.ep o) DD with
       |true=>Jy P env (wY st o ([],[])) o λv eZ=>exec P env n (.zM all (i+1) rest ((i,([],[]),keyOf st.ep o)::DD)::k) ((merge st o [] eZ).put o.dst v) K
       |false=>none)
      |_=>none))
    (λst=>exec P env n (.zM all (i+1) rest DD::k) st K))
  | .code c::k=>match c with
   | .skip=>exec P env n k st K
   | .label _=>exec P env n k st K
   | .seq a b=>exec P env n (.code a:: .code b::k) st K
   | .region _ ops draw=>(match draw with
    |false=>exec P env n (.ops ops ops.toList::k) {st with ep:=st.ep+1} K
    |true=>exec P env n (.zM ops 0 ops.toList []::k) {st with ep:=st.ep+1} K)
   | .cond c x y=>(match st.ev c with
    | .val (.bool b)=>(match b with|true=>exec P env n (.code x::k) st K|false=>exec P env n (.code y::k) st K)
    | .xy=>(match af (exec P env n (.code x::k) st K=exec P env n (.code y::k) st K) with|true=>exec P env n (.code x::k) st K|false=>none)
    |_=>none)
   | .block id c=>exec P env n (.code c:: .NW id::k) st K
   | .exit id=>(match unwind id k with|some k'=>exec P env n k' st K|none=>K (.exit id) st)
   | .ret=>K .ret st
   | .loop c=>(match mu c with
    |some id=>env.loop id st λout st=>(match out with
     | .norm=>none
     | .ret=>K .ret st
     | .exit id=>(match unwind id k with|some k'=>exec P env n k' st K|none=>K (.exit id) st))
    |none=>none)
   |_=>none
end
end AM
namespace AM
open Go
def wZ:List (Nat×cf)->Type
 | []=>Unit
 |o::os=>o.2.den×wZ os
structure jt where
 jJ:List (Nat×cf)
 heap:List (Nat×aK)
def jt.den (s:jt):Type:=wZ s.jJ×cM s.heap
def gS:List jt->Type
 | []=>Empty
 | [e]=>e.den
 |e::es=>e.den⊕gS es
def aK.mk (b:Nat->Nat):(p:aK)->p.den->fK
 | .var p,d=> .var (p.mk b d)
 | .row t,d=> .row false t d
 | .store ep,d=> .store ep d
def mT (b:Nat->Nat):(l:List (Nat×aK))->cM l->(Nat->Option fK)->(Nat->Option fK)
 | [],_,h=>h
 |(c,p)::os,d,h=>λx=>if x=b c then some (p.mk b d.1) else mT b os d.2 h x
def zh (b:Nat->Nat):(l:List (Nat×cf))->wZ l->Nat->AV
 | [],_,_=> .undef
 |o::os,d,x=>if x=o.1 then o.2.mk b d.1 else zh b os d.2 x
def jt.st (s:jt)(nt:Nat)(d:s.den):St:={t:=zh id s.jJ d.1,h:=mT id s.heap d.2 (λ_=>none),ep:=0,nt}
inductive xj where
 |at_ (i:Nat)|tl (i off:Nat)|nil|sl (i off len:Nat)
abbrev kr:=List (Nat×xj)
def kr.get (b:kr)(c:Nat):Option xj:=match b with| []=>none|p::ps=>if p.1=c then some p.2 else kr.get ps c
def kr.add (b:kr)(c:Nat)(g:xj):Option kr:=match b.get c,g with
 |none,g=>some ((c,g)::b)
 |some (.at_ i), .at_ j=>if i=j then some b else none
 |some (.tl i 0), .tl j 0=>if i=j then some b else none
 |some _,_=>none
def kr.look (b:kr)(c:Nat):Option xj:=match decide (SB<=c) with|true=>some (.at_ c)|false=>b.get c
mutual
def cf.beq:cf->cf->Bool
 | .hole t, .hole t'=>decide (t=t')
 | .ptr c, .ptr c'=>decide (c=c')
 | .own c, .own c'=>decide (c=c')
 | .agg ps, .agg Xs=>cf.RG ps Xs
 |_,_=>false
def cf.RG:List cf->List cf->Bool
 | [],[]=>true
 |p::ps,q::qs=>p.beq q&&cf.RG ps qs
 |_,_=>false
end
mutual
def aK.beq:aK->aK->Bool
 | .var p, .var q=>p.beq q
 | .row t, .row t'=>decide (t=t')
 | .store e, .store e'=>LD e e'
 |_,_=>false
def LD:List (Nat×aK)->List (Nat×aK)->Bool
 | [],[]=>true
 |(c,p)::os,(c',p')::os'=>decide (c=c')&&p.beq p'&&LD os os'
 |_,_=>false
end
mutual
theorem cf.beq_eq: ∀{p q:cf},p.beq q=true->p=q
 | .hole t,q,h=>by cases q<;>simp[cf.beq] at h;subst h;rfl
 | .ptr c,q,h=>by cases q<;>simp[cf.beq] at h;subst h;rfl
 | .own c,q,h=>by cases q<;>simp[cf.beq] at h;subst h;rfl
 | .agg ps,q,h=>by cases q<;>simp[cf.beq] at h;rw[cf.NY h]
 | .const _,q,h=>by simp[cf.beq] at h
 | .FH _,q,h=>by simp[cf.beq] at h
 | .vm _,q,h=>by simp[cf.beq] at h
 | .jY _ _,q,h=>by simp[cf.beq] at h
 | .xh _ _,q,h=>by simp[cf.beq] at h
 | .ux _ _,q,h=>by simp[cf.beq] at h
 | .skip,q,h=>by simp[cf.beq] at h
 | .Js _,q,h=>by simp[cf.beq] at h
theorem cf.NY: ∀{ps qs:List cf},cf.RG ps qs=true->ps=qs
 | [],qs,h=>by cases qs<;>simp[cf.RG] at h;rfl
 |p::ps,qs,h=>by
  cases qs<;>simp[cf.RG] at h
  rw[cf.beq_eq h.1,cf.NY h.2]
end
mutual
theorem aK.beq_eq: ∀{p q:aK},p.beq q=true->p=q
 | .var p,q,h=>by cases q<;>simp[aK.beq] at h;rw[cf.beq_eq h]
 | .row t,q,h=>by cases q<;>simp[aK.beq] at h;subst h;rfl
 | .store e,q,h=>by cases q<;>simp[aK.beq] at h;rw[C5 h]
theorem C5: ∀{l m:List (Nat×aK)},LD l m=true->l=m
 | [],m,h=>by cases m<;>simp[LD] at h;rfl
 |(c,p)::os,m,h=>by
  cases m with
  |nil=>simp[LD] at h
  |cons x xs=>
   obtain⟨c',p'⟩:=x;simp[LD] at h;rw[h.1.1,aK.beq_eq h.1.2,C5 h.2]
end
def NZ (e e':List (Nat×aK))(xs:List (cM e)):Option (List (cM e')):=if h:LD e e'=true then some (C5 h▸xs) else none
section
variable {α:Type}
def Yr:Ty->AV->Bool
 | .int _, .val (.int _ _)=>true
 | .bool, .val (.bool _)=>true
 | .str, .val (.string _)=>true
 | .nil, .agg _=>true
 | .cons _ _, .agg _=>true
 | .arr _ _, .arr _ _ _=>true
 | .deep _, .val (.slice _ _ _)=>true
 | .deep _, .tail _ _=>true
 | .deep _, .slice _ _ _ _=>true
 | .deep _, .dp _ _=>true
 | .deep _, .ux _ _=>true
 | .ref _, .rf _ _ _=>true
 | .ref _, .val (.pointer none)=>true
 |_,_=>false
def Ys:Fn->Fn->Bool
 | .func f, .func g=>decide (f=g)
 |_,_=>false
def nE:(p:List og)->List Step->(og.xi p->Option α)->Option α->Option α
 | [],[],k,_=>k ()
 | .im n::p, .im m::q,k,f=>(match decide (n=m) with|true=>nE p q k f|false=>f)
 | .idx::p, .idx i::q,k,f=>nE p q (λd=>k (i,d)) f
 |_,_,_,f=>f
def zaE (s:St)(t:Ty)(v:AV)(k:t.den->List Nat->Option α)(fail:Option α):Option α:=
 match Yr t v with|true=>qP s t v k|false=>fail
mutual
def oJ (s:St):(p:cf)->AV->kr->(p.den->List Nat->kr->Option α)->Option α->Option α
 | .hole t,v,b,k,f=>zaE s t v (λx i=>k x i b) f
 | .vm t,v,b,k,f=>match v with
  | .ptr i p=>s.get i p λu=>qP s t u λx ids=>k x (i::ids) b
  | .tS u=>qP s t u λx ids=>k x ids b
  |_=>f
 | .const c,v,b,k,f=>match v with| .val v=>(match veq c v with|true=>k () [] b|false=>f)|_=>f
 | .ptr c,v,b,k,f=>match v with| .ptr i []=>(match b.add c (.at_ i) with|some b=>k () [] b|none=>f)|_=>f
 | .own c,v,b,k,f=>match v with
  | .tail i off=>(match b.add c (.tl i off) with|some b=>k () [] b|none=>f)
  | .val (.slice none 0 0)=>(match b.add c .nil with|some b=>k () [] b|none=>f)
  | .slice i [] off len=>(match zI s i with|true=>(match b.add c (.sl i off len) with|some b=>k () [] b|none=>f)|false=>f)
  |_=>f
 | .FH c,v,b,k,f=>match v with
  | .slice i [] off len=>(match decide (off=0) with|true=>(match b.add c (.tl i 0) with|some b=>k len [] b|none=>f)|false=>f)
  |_=>f
 | .agg ps,v,b,k,f=>match v with| .agg vs=>uJ s ps vs b k f|_=>f
 | .jY c p,v,b,k,f=>match v with| .ptr i q=>nE p q (λd=>match b.add c (.at_ i) with|some b=>k d [] b|none=>f) f|_=>f
 | .xh fn ps,v,b,k,f=>match v with| .xh fn' vs=>(match Ys fn fn' with|true=>uJ s ps vs b k f|false=>f)|_=>f
 | .ux c n,v,b,k,f=>match v with| .ux i m=>(match decide (n=m) with|true=>(match b.add c (.at_ i) with|some b=>k () [] b|none=>f)|false=>f)|_=>f
 | .skip,v,b,k,f=>match v.sh with| .one=>k () [] b|_=>f
 | .Js p,v,b,k,f=>match v with
  | .ptr i q=>s.get i q λu=>oJ s p u b (λx ids b=>k x (i::ids) b) f
  | .tS u=>oJ s p u b k f
  |_=>f
def uJ (s:St):(ps:List cf)->List AV->kr->(cf.xi ps->List Nat->kr->Option α)->Option α->Option α
 | [],[],b,k,_=>k () [] b
 |p::ps,v::vs,b,k,f=>oJ s p v b (λx i b=>uJ s ps vs b (λy j b=>k (x,y) (i++j) b) f) f
 |_,_,_,_,f=>f
end
def HC (s:St):(l:List (Nat×cf))->kr->(wZ l->List Nat->kr->Option α)->Option α->Option α
 | [],b,k,_=>k () [] b
 |o::os,b,k,f=>oJ s o.2 (s.t o.1) b (λx i b=>HC s os b (λy j b=>k (x,y) (i++j) b) f) f
def LF (s:St)(f:Option α):(p:aK)->xj->kr->(p.den->List Nat->kr->Option α)->Option α
 | .var p, .at_ i,b,k=>match s.h i with|some (.var v)=>oJ s p v b k f|_=>none
 | .row t, .tl i off,b,k=>match s.h i with
  |some (.row false t' xs)=>(match tc t' t xs with|some ys=>k (ys.drop off) [] b|none=>none)
  |_=>none
 | .row t, .sl i off len,b,k=>match s.h i with
  |some (.row false t' xs)=>(match tc t' t xs with|some ys=>k ((ys.drop off).take len) [] b|none=>none)
  |_=>none
 | .row _, .nil,b,k=>k [] [] b
 | .store ep, .at_ i,b,k=>match decide (SB<=i) with
  |true=>(match s.h i with
   |some (.store FI xs)=>(match NZ FI ep xs with|some ys=>k ys [] b|none=>none)
   |none=>k [] [] b
   |some .void=>k [] [] b
   |_=>none)
  |false=>none
 |_,_,_,_=>none
def HD (s:St)(f:Option α):(l:List (Nat×aK))->kr->(cM l->List Nat->kr->Option α)->Option α
 | [],b,k=>k () [] b
 |(c,p)::os,b,k=>match b.look c with
  |some g=>LF s f p g b λx i b=>HD s f os b λy j b=>k (x,y) (i++j) b
  |none=>none
def xj.ids:xj->List Nat
 | .at_ i=> [i]| .tl i _=> [i]| .nil=> []| .sl i _ _=> [i]
def iK (l:List (Nat×aK))(b:kr):List Nat:=l.flatMap λo=>match b.look o.1 with|some g=>g.ids|none=> []
def nodup:List Nat->Bool
 | []=>true
 |x::xs=>!xs.contains x&&nodup xs
def isObj (s:St)(i:Nat):Bool:=match s.h i with|some (.var _)=>true|some (.row _ _ _)=>true|_=>false
def oP (sp:jt)(s:St)(b:kr)(k:sp.den->List Nat->kr->Option α)(fail:Option α):Option α:=
 HC s sp.jJ b (λx i b=>HD s fail sp.heap b λy j b=>
  match nodup (iK sp.heap b)&& (i++j).all (λi=>!(iK sp.heap b).contains i&&isObj s i) with
  |true=>k (x,y) (i++j) b
  |false=>none) fail
def DF (s:St)(b:kr):(es:List jt)->(gS es->Option α)->Option α
 | [],_=>none
 | [e],k=>oP e s b (λd _ _=>k d) none
 |e::e'::es,k=>oP e s b (λd _ _=>k (.inl d)) (DF s b (e'::es) λd=>k (.inr d))
def HE:(es:List jt)->gS es->((e:jt)->Nat->e.den->Option α)->Option α
 | [],d,_=>nomatch d
 | [e],d,k=>k e 0 d
 |e::e'::es,d,k=>match d with
  | .inl d=>k e 0 d
  | .inr d=>HE (e'::es) d λe n d=>k e (n+1) d
def iter {L R:Type}(b:L->Option (L⊕R)):Nat->L->Option R
 |0,_=>none
 |n+1,l=>match b l with
  |none=>none
  |some (.inr r)=>some r
  |some (.inl l)=>iter b n l
open Classical in
noncomputable def ag {L R:Type}(b:L->Option (L⊕R))(l:L):Option R:=if h: ∃r,∃n,iter b n l=some r then some h.choose else none
theorem A3 {L R:Type}{b:L->Option (L⊕R)}{r:R}: ∀{n m:Nat} {l:L},iter b n l=some r->n<=m->iter b m l=some r
 |0,_,_,h,_=>by simp[iter] at h
 |n+1,0,_,_,hm=>by omega
 |n+1,m+1,l,h,hm=>by
  simp only[iter] at h⊢;split at h
  ·cases h
  ·exact h
  ·exact A3 h (by omega)
theorem oY {L R:Type}{b:L->Option (L⊕R)}{l:L}{r:R}:ag b l=some r↔∃n,iter b n l=some r:=by
 unfold ag;constructor
 ·intro h
  split at h
  ·rename_i hx
   injection h with h;subst h;exact hx.choose_spec
  ·cases h
 ·rintro⟨n,hn⟩
  have hx: ∃r,∃n,iter b n l=some r:=⟨r,n,hn⟩;rw[dif_pos hx];obtain⟨m,hm⟩:=hx.choose_spec;have h1:=A3 hm (Nat.le_max_left m n);have h2:=A3 hn (Nat.le_max_right m n);rw[h1] at h2;exact h2
theorem aw {L R:Type}(b:L->Option (L⊕R))(l:L):ag b l=match b l with|none=>none|some (.inr r)=>some r|some (.inl l')=>ag b l':=by
 cases h:b l with
 |none=>
  cases h2:ag b l with
  |none=>rfl
  |some r=>
   obtain⟨n,hn⟩:=oY.1 h2;cases n<;>simp[iter,h] at hn
 |some x=>
  cases x with
  |inr r=>exact oY.2 ⟨1,by simp[iter,h]⟩
  |inl l'=>
   show _=ag b l'
   cases h2:ag b l' with
   |some r=>
    obtain⟨n,hn⟩:=oY.1 h2;exact oY.2 ⟨n+1,by simp[iter,h,hn]⟩
   |none=>
    cases h3:ag b l with
    |none=>rfl
    |some r=>
     obtain⟨n,hn⟩:=oY.1 h3;cases n with
     |zero=>simp[iter] at hn
     |succ n=>
      simp only[iter,h] at hn;rw[oY.2 ⟨n,hn⟩] at h2;cases h2
def back (b:kr)(fresh c:Nat):Nat:=match decide (c<50) with
 |true=>(match b.get c with|some (.at_ i)=>i|_=>0)
 |false=>(match decide (SB<=c) with|true=>c|false=>fresh+(c-50))
def sb (h:Nat->Option fK):List Nat->(Nat->Option fK)
 | []=>h
 |i::l=>λx=>if x=i then some .dead else sb h l x
def tI (h:Nat->Option fK):List Nat->(Nat->Option fK)
 | []=>h
 |i::l=>λx=>if x=i then(match h i with|some (.row _ t xs)=>some (.row true t xs)|_=>some .dead) else tI h l x
structure al where
 pre:jt
 jb:List jt
 zN:Bool
def iG:Option fK->Bool
 |none=>true
 |some .void=>true
 |_=>false
def oQ (h:Nat->Option fK)(fresh:Nat)(pre l:List (Nat×aK)):Bool:=l.all λo=>decide (o.1<50)||(match decide (SB<=o.1) with
 |true=>(pre.any λq=>decide (q.1=o.1))||iG (h o.1)
 |false=>decide (o.1<150)&& (h (fresh+(o.1-50))).isNone)
def qZ:List AV->AV
 | [v]=>v
 |vs=> .AY vs
def zaF (sp:al):List Nat:=sp.jb.flatMap λe=>(e.heap.map (·.1)).filter λc=>decide (SB<=c)
def Vf (sp:al)(args:List AV)(st:St)(fail:List Nat×List Nat):List Nat×List Nat:=
 (oP sp.pre {t:=λi=>(args[i]?).getD .undef,h:=st.h,ep:=0,nt:=0} [] (λ_ ro b=>some (match sp.zN with|true=>(ro,iK sp.pre.heap b++zaF sp)|false=>([],iK sp.pre.heap b++(ro++zaF sp)))) (some fail)).getD ([],[])
def tT (lt:Bool)(h:Nat->Option fK)(pre:jt)(b:kr)(ro:List Nat):Nat->Option fK:=match lt with|true=>sb h (iK pre.heap b)|false=>tI (sb h (iK pre.heap b)) ro
def DG (sp:al)(f:sp.pre.den->Option (gS sp.jb))(args:List AV)(st:St)(W:List Nat)(fresh:Nat)(k:jt->List Nat->AV->St->Option α)(fail:Option α):Option α:=
 match decide (args.length=sp.pre.jJ.length) with
 |false=>none
 |true=>oP sp.pre {t:=λi=>(args[i]?).getD .undef,h:=st.h,ep:=0,nt:=0} [] (λd ro b=>
  match f d with
  |none=>none
  |some r=>match(iK sp.pre.heap b++(match sp.zN with|true=> []|false=>ro)).all (λi=>W.contains i) with
   |false=>none
   |true=>HE sp.jb r λe _ d'=>
    match oQ st.h fresh sp.pre.heap e.heap&&e.heap.all (λo=>!decide (SB<=o.1)||W.contains o.1) with
    |false=>none
    |true=>k e (e.heap.map λo=>back b fresh o.1) (qZ (e.jJ.map λo=>zh (back b fresh) e.jJ d'.1 o.1)) {st with h:=mT (back b fresh) e.heap d'.2 (tT sp.zN st.h sp.pre b ro)}) fail
mutual
def cf.ks:cf->List Nat
 | .hole t=>t.ks
 | .vm t=>t.ks
 | .agg ps=>cf.RH ps
 | .xh _ ps=>cf.RH ps
 | .Js p=>p.ks
 |_=> []
def cf.RH:List cf->List Nat
 | []=> []
 |p::ps=>p.ks++cf.RH ps
end
def aK.ks:aK->List Nat
 | .var p=>p.ks
 | .row t=>t.ks
 | .store _=> []
def Xt (ks l:List Nat):Bool:=l.all λg=>!ks.contains g
def xD (ep:List (Nat×aK)):List Nat:=ep.filterMap λo=>match o.2 with| .store _=>some (o.1-SB)|_=>none
def cV (ep:List (Nat×aK))(x:Nat):Bool:=ep.any λo=>decide (o.1=x)&& (match o.2 with| .store _=>true|_=>false)
def A4 (e:jt)(ids rw:List Nat)(ks:List Nat):Bool:=
 (e.jJ.all λo=>Xt ks o.2.ks)&& ((e.heap.zip ids).all λp=>rw.contains p.2||(Xt ks p.1.2.ks&& (match p.1.2 with| .store _=>false|_=>true)))
def aK.mY:aK->Bool
 | .store _=>true
 |_=>false
mutual
def cf.cs:cf->List Nat
 | .ptr c=> [c]| .own c=> [c]| .FH c=> [c]| .jY c _=> [c]| .ux c _=> [c]
 | .agg ps=>cf.Vg ps
 | .xh _ ps=>cf.Vg ps
 | .Js p=>p.cs
 |_=> []
def cf.Vg:List cf->List Nat
 | []=> []
 |p::ps=>p.cs++cf.Vg ps
end
def aK.cs:aK->List Nat
 | .var p=>p.cs
 |_=> []
def A5 (l:List (Nat×cf)):List Nat:=l.flatMap λo=>o.2.cs
def DH (l:List (Nat×cf)):List Nat:=l.flatMap λo=>o.2.ks
def A6 (l:List (Nat×aK)):List Nat:=l.flatMap λo=>o.2.cs
def DI (l:List (Nat×aK)):List Nat:=l.flatMap λo=>o.2.ks
def jt.closed (sp:jt):Bool:=((A5 sp.jJ++A6 sp.heap).all λc=>decide (c<SB)&&sp.heap.any λe=>decide (e.1=c))&& ((DH sp.jJ++DI sp.heap).all λg=>cV sp.heap (SB+g))&&sp.heap.all λe=>e.2.mY==decide (SB<=e.1)
def Py (ep:List (Nat×aK)):Bool:=(jt.mk [] ep).closed&& (ep.all λo=>o.2.mY||(decide (50<=o.1)&&decide (o.1<90)))&&nodup (ep.map (·.1))
def epB (off:Nat)(ep:List (Nat×aK)):kr:=ep.filterMap λo=>match o.2 with| .var _=>some (o.1, .at_ (off+(o.1-50)))|_=>none
def Gm (ep:List (Nat×aK))(c:Nat):Bool:=ep.any λo=>decide (o.1=c)&& (match o.2 with| .var _=>true|_=>false)
def LG (g n off:Nat)(ep:List (Nat×aK)):AV->AV
 | .ptr i []=>(match decide (off<=i)&&Gm ep (i-off+50) with|true=> .rf g n (i-off+50)|false=> .ptr i [])
 |v=>v
def Yt:AV->List AV
 | .AY vs=>vs
 |v=> [v]
def Xu (f:AV->AV):AV->AV
 | .AY vs=> .AY (vs.map f)
 |v=>f v
def tU (h:Nat->Option fK)(ep:List (Nat×aK))(rw:List Nat)(g:Nat)(o:fK):Nat->Option fK:=λx=>
 if x=SB+g then some o else match cV ep x with|true=>some .void|false=>if rw.contains x then some .dead else h x
def Jz {ep:List (Nat×aK)}(xs:List (cM ep))(n:Nat)(d:cM ep):List (cM ep):=xs.set n d
def BS {ep:List (Nat×aK)}(xs:List (cM ep))(d:cM ep):List (cM ep):=xs++ [d]
def LH {ep:List (Nat×aK)}(xs:List (cM ep)):Nat:=xs.length
def RI:Option fK->Bool
 |some .dead=>true
 |_=>false
def inW (W:List Nat)(fresh:Nat)(l:List Nat):Bool:=l.all λi=>W.contains i||decide (i/100=fresh/100)
def Yu (W:List Nat)(fresh g n off:Nat)(ep:List (Nat×aK))(xs:List (cM ep))(e:jt)(ids:List Nat)(av:AV)(st:St)(k:AV->St->Option α):Option α:=
 oP ⟨[],ep⟩ st (epB off ep) (λd ro b=>match ro.isEmpty&&A4 e ids (iK ep b) (xD ep)&&!(iK ep b).contains (SB+g)&&ep.all (λo=>o.2.mY||(iK ep b).contains (back [] off o.1)||RI (st.h (back [] off o.1)))&&inW W fresh (iK ep b) with
  |false=>none
  |true=>k (Xu (LG g (n+1) off ep) av) {st with h:=tU st.h ep (iK ep b) g (.store ep (Jz xs n d.2))}) none
def Xv (g n:Nat)(vs:List AV)(i:Nat):AV:=qZ (vs.set i (.rf g n 50))
def storeAt (ep:List (Nat×aK))(o:Option fK)(k:List (cM ep)->Option α):Option α:=match o with
 |some (.store FI xs)=>(match NZ FI ep xs with|some ys=>k ys|none=>none)
 |none=>k []
 |some .void=>k []
 |_=>none
def Yv (W:List Nat)(fresh i g:Nat)(ep:List (Nat×aK))(e:jt)(ids:List Nat)(av:AV)(st:St)(k:AV->St->Option α):Option α:=
 match(Yt av)[i]? with
 |some (.ptr j [])=>storeAt ep (st.h (SB+g)) λxs=>oP ⟨[],ep⟩ st [(50, .at_ j)] (λd ro b=>
  match ro.isEmpty&&A4 e ids (iK ep b) (xD ep)&&!(iK ep b).contains (SB+g)&&Gm ep 50&&!cV ep (SB+g)&&inW W fresh (iK ep b) with
  |false=>none
  |true=>k (Xv g (LH (ep:=ep) xs+1) (Yt av) i) {st with h:=tU st.h ep (iK ep b) g (.store ep (BS xs d.2))}) none
 |some (.val (.pointer none))=>k av st
 |_=>none
structure oZ where
 sp:al
 f:sp.pre.den->Option (gS sp.jb)
 dep:Option (Nat×Nat×List (Nat×aK))
def xE:List AV->List (Nat×cf)->Nat->Option (Nat×Nat×Nat×Nat)
 | .rf g n c::vs,(_, .ptr _)::ps,j=>some (j,g,n,c)
 |_::vs,_::ps,j=>xE vs ps (j+1)
 |_,_,_=>none
def og.HF:(p:List og)->og.xi p
 | []=>()
 | .im _::p=>og.HF p
 | .idx::p=>((0:Nat),og.HF p)
mutual
def cf.HF:(p:cf)->p.den
 | .hole t=>iz t
 | .vm t=>iz t
 | .agg ps=>cf.RJ ps
 | .xh _ ps=>cf.RJ ps
 | .FH _=>(0:Nat)
 | .jY _ p=>og.HF p
 | .const _=>()
 | .ptr _=>()
 | .own _=>()
 | .ux _ _=>()
 | .skip=>()
 | .Js p=>p.HF
def cf.RJ:(ps:List cf)->cf.xi ps
 | []=>()
 |p::ps=>(p.HF,cf.RJ ps)
end
def aK.HF:(p:aK)->p.den
 | .var p=>p.HF
 | .row _=> []
 | .store _=> []
def Xw:(l:List (Nat×aK))->cM l
 | []=>()
 |(_,p)::os=>(p.HF,Xw os)
def tV (st:St)(g off:Nat)(ep:List (Nat×aK))(d:cM ep):St:={st with h:=mT (back [] off) ep d (sb st.h [SB+g])}
def fpX (pa:oZ)(args:List AV)(st:St)(fresh:Nat)(fail:List Nat×List Nat):List Nat×List Nat:=match xE args pa.sp.pre.jJ 0 with
 |none=>(match pa.dep with
  |none=>Vf pa.sp args st fail
  |some (_,g,ep)=>((Vf pa.sp args st fail).1,(SB+g)::(ep.map (·.1)++(Vf pa.sp args st fail).2)))
 |some (j,g,_,c)=>match st.h (SB+g) with
  |some (.store ep _)=>
    let fp:=Vf pa.sp (args.set j (.ptr (back [] (fresh+60) c) [])) (tV st g (fresh+60) ep (Xw ep)) fail
    (fp.1,(SB+g)::(ep.map (λo=>back [] (fresh+60) o.1)++fp.2))
  |_=>([],[])
def RK (pa:oZ)(args:List AV)(st:St)(W:List Nat)(fresh:Nat)(k:AV->St->Option α)(fail:Option α):Option α:=match xE args pa.sp.pre.jJ 0 with
 |none=>(match pa.dep with
  |none=>DG pa.sp pa.f args st W fresh (λ_ _ av eZ=>k av eZ) fail
  |some (i,g,ep)=>match W.contains (SB+g)&&ep.all (λo=>W.contains o.1)&&Py ep&&ep.all (λo=>!o.2.mY||iG (st.h o.1)) with
   |true=>DG pa.sp pa.f args st W fresh (λe ids av eZ=>Yv W fresh i g ep e ids av eZ k) fail
   |false=>none)
 |some (j,g,n,c)=>match st.h (SB+g) with
  |some (.store ep xs)=>(match n with
   |0=>none
   |n+1=>match xs[n]? with
    |none=>none
    |some d=>match Py ep&&oQ st.h (fresh+60) [] ep&&W.contains (SB+g)&&ep.all (λo=>W.contains (back [] (fresh+60) o.1))&&Gm ep c with
     |false=>none
     |true=>DG pa.sp pa.f (args.set j (.ptr (back [] (fresh+60) c) [])) (tV st g (fresh+60) ep d) W fresh (λe ids av eZ=>Yu W fresh g n (fresh+60) ep xs e ids av eZ k) fail)
  |_=>none
def nC {β:Type}(n:Nat)(k:Nat->Option β):Option β:=match n with|0=>none|m+1=>k m
structure bK where
 pre:jt
 jb:List jt
 outs:List Out
 nt:Nat
noncomputable def LI (sp:bK)(f:sp.pre.den->Option (sp.pre.den⊕gS sp.jb))(st:St)(k:Out->St->Option α)(fail:Option α):Option α:=
 match decide (st.nt=sp.nt) with
 |false=>none
 |true=>oP sp.pre st [] (λd ro b=>
  match ag f d with
  |none=>none
  |some r=>HE sp.jb r λe n d'=>
   match oQ st.h (name (st.ep+1) 998 0) sp.pre.heap e.heap with
   |false=>none
   |true=>k ((sp.outs[n]?).getD .norm) {t:=zh (back b (name (st.ep+1) 998 0)) e.jJ d'.1,h:=mT (back b (name (st.ep+1) 998 0)) e.heap d'.2 (tT false st.h sp.pre b ro),ep:=st.ep+1,nt:=st.nt}) fail
def BT (sp:jt):kr:=sp.heap.filterMap λo=>match o.2 with| .var _=>(match decide (o.1<50) with|true=>some (o.1, .at_ o.1)|false=>none)|_=>none
def tJ (P:Program)(st:St):List ResultVar->(List AV->Option α)->Option α
 | [],k=>k []
 | .tmp t::l,k=>tJ P st l λvs=>k (st.t t::vs)
 | .cell a t::l,k=>match st.t a with| .ptr i p=>st.get i p λv=>(match sx P t v with|true=>tJ P st l λvs=>k (v::vs)|false=>none)|_=>none
def RL (P:Program)(sp:al)(fn:Func)(o:Out)(st:St):Option (gS sp.jb):=
 match o with
 | .exit _=>none
 |_=>tJ P st fn.results.toList λvs=>DF {st with t:=λi=>(vs[i]?).getD .undef} (BT sp.pre) sp.jb some
noncomputable def ra (P:Program)(sp:al)(env:Env (gS sp.jb))(fn:Func)(d:sp.pre.den):Option (gS sp.jb):=
 match fn.body with
 |some c=>exec P env 100000 [.code c] (sp.pre.st fn.ntmps d) (RL P sp fn)
 |none=>none
def da (id:Nat):Code->Option Code
 | .seq a b=>match da id a with|some c=>some c|none=>da id b
 | .cond _ a b=>match da id a with|some c=>some c|none=>da id b
 | .block _ c=>da id c
 | .scope c=>da id c
 | .loop c=>if mu c=some id then some c else da id c
 |_=>none
def rb (id:Nat)(fn:Func):Code:=match fn.body with|some c=>(da id c).getD .skip|none=> .skip
structure uY where
 sp:bK
 f:sp.pre.den->Option (sp.pre.den⊕gS sp.jb)
def uK {β:Type}(n:Nat):List (Nat×β)->Option β
 | []=>none
 |p::l=>if p.1=n then some p.2 else uK n l
noncomputable def C6 (st:St)(k:Out->St->Option α):List uY->Option α
 | []=>none
 |l::ls=>LI l.sp l.f st k (C6 st k ls)
def A7 (args:List AV)(st:St)(W:List Nat)(fresh:Nat)(k:AV->St->Option α):List oZ->Option α
 | []=>none
 |c::cs=>RK c args st W fresh k (A7 args st W fresh k cs)
def Pz (args:List AV)(st:St)(fresh:Nat):List oZ->List Nat×List Nat
 | []=>([],[])
 |c::cs=>fpX c args st fresh (Pz args st fresh cs)
noncomputable def sy (calls:List (Nat×List oZ))(loops:List (Nat×List uY)):Env α where
 call f args st fresh k:=match uK f calls with
  |some cs=>A7 args st (Pz args st fresh cs).2 fresh k cs
  |none=>none
 loop id st k:=match uK id loops with
  |some ls=>C6 st k ls
  |none=>none
 fp f args st fresh:=match uK f calls with
  |some cs=>Pz args st fresh cs
  |none=>([],[])
def N0:Out->Out->Bool
 | .norm, .norm=>true| .ret, .ret=>true| .exit i, .exit j=>decide (i=j)|_,_=>false
def re (s:St)(b:kr)(o:Out):(es:List jt)->List Out->(gS es->Option α)->Option α
 | [],_,_=>none
 | [e],outs,k=>match outs with|o'::_=>(match N0 o o' with|true=>oP e s b (λd _ _=>k d) none|false=>none)| []=>none
 |e::e'::es,outs,k=>match outs with
  |o'::outs=>(match N0 o o' with
   |true=>oP e s b (λd _ _=>k (.inl d)) (re s b o (e'::es) outs λd=>k (.inr d))
   |false=>re s b o (e'::es) outs λd=>k (.inr d))
  | []=>none
def RM (sp:bK)(o:Out)(st:St):Option (sp.pre.den⊕gS sp.jb):=
 match decide (st.nt=sp.nt) with
 |false=>none
 |true=>match o with
  | .norm=>oP sp.pre st (BT sp.pre) (λd _ _=>some (.inl d)) none
  |o=>re st (BT sp.pre) o sp.jb sp.outs λd=>some (.inr d)
noncomputable def vq (P:Program)(sp:bK)(env:Env (sp.pre.den⊕gS sp.jb))(fn:Func)(id:Nat)(d:sp.pre.den):Option (sp.pre.den⊕gS sp.jb):=
 exec P env 100000 [.code (rb id fn)] (sp.pre.st sp.nt d) (RM sp)
end
end AM
namespace AM
open Go
structure Nm where
 base:Option Addr
 sh:Sh
 row:Bool
 len:Nat
 cap:Nat
structure Names where
 at_:List (Nat×Nat)->Nat->Option Nm
instance :CoeFun Names (λ_=>Nat->Option Nm):=⟨λN=>N.at_ []⟩
def Names.sub (N:Names)(g k:Nat):Names:=⟨λp=>N.at_ ((g,k)::p)⟩
def Names.up (N:Names)(f:Nat->Option Nm):Names:=⟨λp=>match p with| []=>f|q::p=>N.at_ (q::p)⟩
def Names.nil:Names:=⟨λ_ _=>none⟩
def Names.JA (N N':Names):Prop:= ∀g k c nm,N.sub g k c=some nm->nm.row=false->N'.sub g k c=some nm
structure Names.le (N N':Names):Prop where
 st: ∀i nm,N i=some nm->N' i=some nm
 sub:N.JA N'
instance {N N':Names}:CoeFun (N.le N') (λ_=> ∀i nm,N i=some nm->N' i=some nm):=⟨λh=>h.st⟩
theorem Names.le_refl (N:Names):N.le N:=⟨λ_ _ h=>h,λ_ _ _ _ h _=>h⟩
theorem Names.le.trans {N N' N'':Names}(h:N.le N')(h':N'.le N''):N.le N'':=⟨λ_ _ e=>h'.st _ _ (h.st _ _ e),λg k c nm e r=>h'.sub g k c nm (h.sub g k c nm e r) r⟩
theorem Names.RN {N:Names}{f:Nat->Option Nm}(h: ∀i nm,N i=some nm->f i=some nm):N.le (N.up f):=⟨h,λ_ _ _ _ e _=>e⟩
def fE:List Step->Sh->Option Nat
 | [],_=>some 0
 | .im n::p, .agg l=>match l[n]? with|some s=>(fE p s).map (Sh.dR (l.take n)+·)|none=>none
 | .idx i::p, .arr n e=>if i<n then(fE p e).map (i*e.size+·) else none
 |_,_=>none
def Nm.off (nm:Nm):List Step->Option Nat
 | .idx i::p=>if nm.row then(if i<nm.len then(fE p nm.sh).map (i*nm.sh.size+·) else none) else fE (.idx i::p) nm.sh
 |p=>if nm.row then none else fE p nm.sh
def Nm.Lj (nm:Nm)(p:List Step):Option Sh:=if nm.row then(match p with| .idx _::p=>zJ p nm.sh|_=>none) else zJ p nm.sh
def Addr.at_ (a:Addr)(n:Nat):Addr:=⟨a.block,a.off+n,none⟩
def aX (w:World)(a:Addr)(j:Nat):Option Value:=w.cell? ⟨a.block,a.off+j,none⟩
abbrev jT {β:Type}(xs:List β)(i:Nat):Option β:=xs[i]?
abbrev aQ {β:Type}(xs:List β):Nat:=xs.length
def LJ (ad:Addr)(len room:Nat)(v:Value):Prop:= ∃a cap,v= .slice (some a) len cap/\len<=cap/\cap=room/\(a=ad\/cap=0)
section
variable (N:Names)(D:Nat->Prop)(w:World)
def xF (tag n c:Nat)(v:Option Value):Prop:=match n with
 |0=>v=some (.pointer none)
 |k+1=> ∃nm a,N.sub tag k c=some nm/\nm.row=false/\nm.base=some a/\v=some (.pointer (some (Addr.at_ a 0)))
def iw:(t:Ty)->t.den->(Nat->Option Value)->Prop
 | .int k,n,g=>g 0=some (.int k n)
 | .bool,b,g=>g 0=some (.bool b)
 | .str,s,g=>g 0=some (.string s)
 | .nil,_,_=>True
 | .cons a b,p,g=>iw a p.1 g/\iw b p.2 (λj=>g (a.size+j))
 | .arr n t,xs,g=>aQ (β:=t.den) xs=n/\∀i (x:t.den),jT (β:=t.den) xs i=some x->iw t x (λj=>g (i*t.size+j))
 | .deep t,xs,g=> ∃a cap,g 0=some (.slice a (aQ (β:=t.den) xs) cap)/\aQ (β:=t.den) xs<=cap/\(a=none->cap=0)/\
   ∀ad,a=some ad->aQ (β:=t.den) xs≠0->ad.spot=none/\D ad.block/\∀i (x:t.den),jT (β:=t.den) xs i=some x->iw t x (λj=>aX w ad (i*t.size+j))
 | .ref g,n,c=>xF N g n 50 (c 0)
end
def jv (agg:Bool)(size:Nat)(R:(Nat->Option Value)->Prop)(v:Value):Prop:=
 match agg with
 |true=> ∃cells:Array Value,v= .agg cells/\cells.size=size/\R (cells[·]?)
 |false=>R (λ_=>some v)
section
variable (N:Names)(D:Nat->Prop)(w:World)
mutual
def ar:AV->(Nat->Option Value)->Prop
 | .undef,_=>True
 | .val v,g=>g 0=some v
 | .ptr id p,g=> ∃nm a o,N id=some nm/\nm.base=some a/\nm.off p=some o/\g 0=some (.pointer (some (Addr.at_ a o)))
 | .tail id off,g=> ∃nm,N id=some nm/\nm.row=true/\off<=nm.len/\nm.len<=nm.cap/\
   match nm.base with
   |none=>nm.len=0/\g 0=some (.slice none 0 0)
   |some a=> ∃v room,g 0=some v/\off+room<=nm.cap/\LJ (Addr.at_ a (off*nm.sh.size)) (nm.len-off) room v
 | .slice id p off len,g=> ∃nm,N id=some nm/\match nm.base with
  |none=>(nm.row&&p.isEmpty)=true/\off=0/\len=0/\nm.len=0/\g 0=some (.slice none 0 0)
  |some a=>
   if(nm.row&&p.isEmpty)=true then off+len<=nm.len/\nm.len<=nm.cap/\∃v room,g 0=some v/\off+room<=nm.cap/\nm.len<=off+room/\LJ (Addr.at_ a (off*nm.sh.size)) len room v
   else∃o n e v room,nm.off p=some o/\nm.Lj p=some (.arr n e)/\off+len<=n/\g 0=some v/\off+room=n/\LJ (Addr.at_ a (o+off*e.size)) len room v
 | .dp t xs,g=>iw N D w (.deep t) xs g
 | .tS v,g=> ∃a,g 0=some (.pointer (some a))/\a.spot=none/\D a.block/\ar v (aX w a)
 | .agg fs,g=>fg fs g
 | .arr n t xs,g=>iw N D w (.arr n t) xs g
 | .rf tag n c,g=>xF N tag n c (g 0)
 | .AY vs,g=> ∃cs:Array Value,g 0=some (.tuple cs)/\bA vs cs.toList
 | .xh fn vs,g=> ∃cs:Array Value,g 0=some (.func fn #[] cs)/\bA vs cs.toList
 | .xy,g=> ∃b,g 0=some (.bool b)
 | .Rk id p f off,g=> ∃nm a o,N id=some nm/\nm.base=some a/\nm.off p=some o/\g 0=some (.pointer (some (Addr.at_ a (o+off))))
 | .AW fn vs,g=> ∃cs:Array Value,g 0=some (.func fn cs #[])/\bA vs cs.toList
 | .ux id n,g=> ∃nm a,N id=some nm/\nm.base=some a/\nm.row=false/\g 0=some (.slice (some a) n n)
def fg:List AV->(Nat->Option Value)->Prop
 | [],_=>True
 |x::xs,g=>ar x g/\fg xs (λj=>g (x.size+j))
def bA:List AV->List Value->Prop
 | [],cs=>cs=[]
 |x::xs,cs=> ∃c tK,cs=c::tK/\jv x.isAgg x.size (ar x) c/\bA xs tK
end
def ck (x:AV)(v:Value):Prop:=jv x.isAgg x.size (ar N D w x) v
end
theorem PA {N N':Names}(hN:N.JA N'){tag n c:Nat}{v:Option Value}(h:xF N tag n c v):xF N' tag n c v:=by
 cases n with
 |zero=>exact h
 |succ k=>obtain⟨nm,a,h1,h2,h3⟩:=h;exact⟨nm,a,hN _ _ _ _ h1 h2,h2,h3⟩
def mw (ks:List Nat)(N N':Names):Prop:= ∀g∈ks,∀k c nm,N.sub g k c=some nm->nm.row=false->N'.sub g k c=some nm
theorem Names.JA.on {N N':Names}(h:N.JA N')(ks:List Nat):mw ks N N':=λg _=>h g
theorem mw.left {ks ks':List Nat}{N N':Names}(h:mw (ks++ks') N N'):mw ks N N':=λg hg=>h g (zdQ _ hg)
theorem mw.right {ks ks':List Nat}{N N':Names}(h:mw (ks++ks') N N'):mw ks' N N':=λg hg=>h g (zdR _ hg)
theorem ko {N N':Names}{D D':Nat->Prop}{w w':World}(hD: ∀b,D b->D' b)(hw: ∀b,D b->w'.heap[b]?=w.heap[b]?): ∀(t:Ty) (x:t.den) (g:Nat->Option Value),mw t.ks N N'->iw N D w t x g->iw N' D' w' t x g
 | .int _,_,_,_,h=>by simp only[iw] at*;exact h
 | .bool,_,_,_,h=>by simp only[iw] at*;exact h
 | .str,_,_,_,h=>by simp only[iw] at*;exact h
 | .nil,_,_,_,_=>by simp only[iw]
 | .cons a b,p,g,hN,h=>⟨ko hD hw a p.1 g hN.left h.1,ko hD hw b p.2 _ hN.right h.2⟩
 | .arr n t,xs,g,hN,h=>⟨h.1,λi x hx=>ko hD hw t x _ hN (h.2 i x hx)⟩
 | .deep t,xs,g,hN,h=>by
  obtain⟨a,cap,h1,h2,h3,h4⟩:=h;refine⟨a,cap,h1,h2,h3,λad ha hx=>?_⟩;obtain⟨h5,h6,h7⟩:=h4 ad ha hx;refine⟨h5,hD _ h6,λi x hi=>?_⟩;have:=ko hD hw t x _ hN (h7 i x hi);have e:(λj=>aX w ad (i*t.size+j))=λj=>aX w' ad (i*t.size+j):=by
   funext j;simp only[aX,World.cell?,hw _ h6]
  rw[<-e];exact this
 | .ref g,n,c,hN,h=>by
  show xF N' g n 50 (c 0)
  have h:xF N g n 50 (c 0):=h;cases n with
  |zero=>exact h
  |succ k=>obtain⟨nm,a,h1,h2,h3⟩:=h;exact⟨nm,a,hN g (List.mem_singleton.2 rfl) _ _ _ h1 h2,h2,h3⟩
theorem LK {N N':Names}{D D':Nat->Prop}{w w':World}(hN:N.JA N')(hD: ∀b,D b->D' b)(hw: ∀b,D b->w'.heap[b]?=w.heap[b]?)(t:Ty)(x:t.den)(g:Nat->Option Value)(h:iw N D w t x g):iw N' D' w' t x g:=
 ko hD hw t x g (hN.on _) h
theorem kt {N N':Names}{D D':Nat->Prop}{w w':World}(hN:N.le N')(hD: ∀b,D b->D' b)(hw: ∀b,D b->w'.heap[b]?=w.heap[b]?)(t:Ty)(x:t.den)(g:Nat->Option Value)(h:iw N D w t x g):iw N' D' w' t x g:=
 LK hN.sub hD hw t x g h
theorem jh {N:Names}{D:Nat->Prop}{w:World}: ∀(t:Ty) (x:t.den) (g g':Nat->Option Value),(∀j,j<t.size->g j=g' j)->iw N D w t x g->iw N D w t x g'
 | .int _,_,g,g',hg,h=>by simp only[iw] at*;rw[<-hg 0 (by simp[Ty.size])];exact h
 | .bool,_,g,g',hg,h=>by simp only[iw] at*;rw[<-hg 0 (by simp[Ty.size])];exact h
 | .str,_,g,g',hg,h=>by simp only[iw] at*;rw[<-hg 0 (by simp[Ty.size])];exact h
 | .nil,_,_,_,_,_=>by simp only[iw]
 | .cons a b,p,g,g',hg,h=>⟨jh a p.1 g g' (λj hj=>hg j (by simp[Ty.size];omega)) h.1,jh b p.2 _ _ (λj hj=>hg _ (by simp[Ty.size];omega)) h.2⟩
 | .arr n t,xs,g,g',hg,h=>by
  refine⟨h.1,λi x hx=>jh t x _ _ (λj hj=>hg _ ?_) (h.2 i x hx)⟩;have hi:i<aQ (β:=t.den) xs:=(List.getElem?_eq_some_iff.1 hx).1;have:i+1<=n:=by have:=h.1;omega
  have:=zdS t.size this;simp only[Ty.size];rw[zdT] at this;omega
 | .deep t,xs,g,g',hg,h=>by
  obtain⟨a,cap,h1,h2⟩:=h;exact⟨a,cap,by rw[<-hg 0 (by simp[Ty.size])];exact h1,h2⟩
 | .ref _,_,g,g',hg,h=>by simp only[iw] at*;rw[<-hg 0 (by simp[Ty.size])];exact h
theorem xG {agg:Bool}{size:Nat}{R R':(Nat->Option Value)->Prop}(h: ∀g,R g->R' g){v:Value}(hv:jv agg size R v):jv agg size R' v:=by
 cases agg with
 |true=>obtain⟨c,h1,h2,h3⟩:=hv;exact⟨c,h1,h2,h _ h3⟩
 |false=>exact h _ hv
section
variable {N N':Names}{D D':Nat->Prop}{w w':World}
mutual
theorem qv (hN:N.le N')(hD: ∀b,D b->D' b)(hw: ∀b,D b->w'.heap[b]?=w.heap[b]?):
  ∀(x:AV) (g:Nat->Option Value),ar N D w x g->ar N' D' w' x g
 | .undef,_,_=>by simp only[ar]
 | .val v,g,h=>by simp only[ar] at*;exact h
 | .ptr id p,g,h=>by
  simp only[ar] at*;obtain⟨nm,a,o,h1,h2⟩:=h;exact⟨nm,a,o,hN _ _ h1,h2⟩
 | .tail id off,g,h=>by
  simp only[ar] at*;obtain⟨nm,h1,h2⟩:=h;exact⟨nm,hN _ _ h1,h2⟩
 | .slice id p off len,g,h=>by
  simp only[ar] at*;obtain⟨nm,h1,h2⟩:=h;exact⟨nm,hN _ _ h1,h2⟩
 | .dp t xs,g,h=>by simp only[ar] at*;exact kt hN hD hw _ _ _ h
 | .tS v,g,h=>by
  simp only[ar] at*;obtain⟨a,h1,h2,h3,h4⟩:=h;refine⟨a,h1,h2,hD _ h3,?_⟩;have e:aX w a=aX w' a:=by funext j;simp only[aX,World.cell?,hw _ h3]
  rw[<-e];exact qv hN hD hw v _ h4
 | .agg fs,g,h=>by simp only[ar] at*;exact BU hN hD hw fs g h
 | .arr n t xs,g,h=>by simp only[ar] at*;exact kt hN hD hw _ _ _ h
 | .AY vs,g,h=>by
  simp only[ar] at*;obtain⟨cs,h1,h2⟩:=h;exact⟨cs,h1,pD hN hD hw vs _ h2⟩
 | .xh fn vs,g,h=>by
  simp only[ar] at*;obtain⟨cs,h1,h2⟩:=h;exact⟨cs,h1,pD hN hD hw vs _ h2⟩
 | .xy,g,h=>by simp only[ar] at*;exact h
 | .Rk id p f off,g,h=>by
  simp only[ar] at*;obtain⟨nm,a,o,h1,h2⟩:=h;exact⟨nm,a,o,hN _ _ h1,h2⟩
 | .AW fn vs,g,h=>by
  simp only[ar] at*;obtain⟨cs,h1,h2⟩:=h;exact⟨cs,h1,pD hN hD hw vs cs.toList h2⟩
 | .ux id n,g,h=>by
  simp only[ar] at*;obtain⟨nm,a,h1,h2⟩:=h;exact⟨nm,a,hN _ _ h1,h2⟩
 | .rf _ _ _,g,h=>by simp only[ar] at*;exact PA hN.sub h
theorem BU (hN:N.le N')(hD: ∀b,D b->D' b)(hw: ∀b,D b->w'.heap[b]?=w.heap[b]?):
  ∀(l:List AV) (g:Nat->Option Value),fg N D w l g->fg N' D' w' l g
 | [],_,_=>by simp only[fg]
 |x::xs,g,h=>by
  simp only[fg] at*;exact⟨qv hN hD hw x g h.1,BU hN hD hw xs _ h.2⟩
theorem pD (hN:N.le N')(hD: ∀b,D b->D' b)(hw: ∀b,D b->w'.heap[b]?=w.heap[b]?):
  ∀(l:List AV) (cs:List Value),bA N D w l cs->bA N' D' w' l cs
 | [],_,h=>by simp only[bA] at*;exact h
 |x::xs,cs,h=>by
  simp only[bA] at*;obtain⟨c,tK,h1,h2,h3⟩:=h;exact⟨c,tK,h1,xG (λg hg=>qv hN hD hw x g hg) h2,pD hN hD hw xs tK h3⟩
end
theorem Gn (hN:N.le N')(hD: ∀b,D b->D' b)(hw: ∀b,D b->w'.heap[b]?=w.heap[b]?){x:AV}{v:Value}(h:ck N D w x v):ck N' D' w' x v:=
 xG (λg hg=>qv hN hD hw x g hg) h
mutual
theorem jN: ∀(x:AV) (g g':Nat->Option Value),(∀j,j<x.size->g j=g' j)->ar N D w x g->ar N D w x g'
 | .undef,_,_,_,_=>by simp only[ar]
 | .val v,g,g',hg,h=>by simp only[ar] at*;rw[<-hg 0 (by simp[AV.size])];exact h
 | .ptr id p,g,g',hg,h=>by simp only[ar] at*;rw[<-hg 0 (by simp[AV.size])];exact h
 | .tail id off,g,g',hg,h=>by simp only[ar] at*;rw[<-hg 0 (by simp[AV.size])];exact h
 | .slice id p off len,g,g',hg,h=>by simp only[ar] at*;rw[<-hg 0 (by simp[AV.size])];exact h
 | .dp t xs,g,g',hg,h=>by simp only[ar] at*;exact jh _ _ _ _ (λj hj=>hg j (by simpa [AV.size,Ty.size] using hj)) h
 | .tS v,g,g',hg,h=>by simp only[ar] at*;rw[<-hg 0 (by simp[AV.size])];exact h
 | .agg fs,g,g',hg,h=>by simp only[ar] at*;exact wj fs g g' (λj hj=>hg j (by simpa [AV.size] using hj)) h
 | .arr n t xs,g,g',hg,h=>by simp only[ar] at*;exact jh _ _ _ _ (λj hj=>hg j (by simpa [AV.size,Ty.size] using hj)) h
 | .AY vs,g,g',hg,h=>by simp only[ar] at*;rw[<-hg 0 (by simp[AV.size])];exact h
 | .xh fn vs,g,g',hg,h=>by simp only[ar] at*;rw[<-hg 0 (by simp[AV.size])];exact h
 | .xy,g,g',hg,h=>by simp only[ar] at*;rw[<-hg 0 (by simp[AV.size])];exact h
 | .Rk id p f off,g,g',hg,h=>by simp only[ar] at*;rw[<-hg 0 (by simp[AV.size])];exact h
 | .AW fn vs,g,g',hg,h=>by simp only[ar] at*;rw[<-hg 0 (by simp[AV.size])];exact h
 | .ux id n,g,g',hg,h=>by simp only[ar] at*;rw[<-hg 0 (by simp[AV.size])];exact h
 | .rf _ _ _,g,g',hg,h=>by simp only[ar] at*;rw[<-hg 0 (by simp[AV.size])];exact h
theorem wj: ∀(l:List AV) (g g':Nat->Option Value),(∀j,j<AV.dR l->g j=g' j)->fg N D w l g->fg N D w l g'
 | [],_,_,_,_=>by simp only[fg]
 |x::xs,g,g',hg,h=>by
  simp only[fg] at*;exact⟨jN x g g' (λj hj=>hg j (by simp[AV.dR];omega)) h.1,wj xs _ _ (λj hj=>hg _ (by simp[AV.dR];omega)) h.2⟩
end
end
end AM
namespace AM
open Go
theorem iH: ∀t:Ty,(sw t).size=t.size
 | .int _=>by simp[sw,Sh.size,Ty.size]
 | .bool=>by simp[sw,Sh.size,Ty.size]
 | .str=>by simp[sw,Sh.size,Ty.size]
 | .nil=>by simp[sw,Sh.size,Sh.dR,Ty.size]
 | .deep _=>by simp[sw,Sh.size,Ty.size]
 | .ref _=>by simp[sw,Sh.size,Ty.size]
 | .arr n t=>by simp[sw,Sh.size,Ty.size,iH t]
 | .cons a b=>by
  have ha:=iH a;have hb:=iH b;unfold sw;cases h:sw b<;>simp[h,Sh.size,Sh.dR,Ty.size] at* <;>omega
theorem nF: ∀(t:Ty) (x:t.den),(enc t x).size=t.size
 | .int _,_=>by simp[enc,AV.size,Ty.size]
 | .bool,_=>by simp[enc,AV.size,Ty.size]
 | .str,_=>by simp[enc,AV.size,Ty.size]
 | .nil,_=>by simp[enc,AV.size,AV.dR,Ty.size]
 | .deep _,_=>by simp[enc,AV.size,Ty.size]
 | .ref _,_=>by simp[enc,AV.size,Ty.size]
 | .arr n t,_=>by simp[enc,AV.size,Ty.size]
 | .cons a b,p=>by
  have ha:=nF a p.1;have hb:=nF b p.2;unfold enc;cases h:enc b p.2<;>simp[h,AV.size,AV.dR,Ty.size] at* <;>omega
theorem rP: ∀(t:Ty) (x:t.den),(enc t x).sh=sw t
 | .int _,_=>by simp[enc,AV.sh,sw]
 | .bool,_=>by simp[enc,AV.sh,sw]
 | .str,_=>by simp[enc,AV.sh,sw]
 | .nil,_=>by simp[enc,AV.sh,AV.yU,sw]
 | .deep _,_=>by simp[enc,AV.sh,sw]
 | .ref _,_=>by simp[enc,AV.sh,sw]
 | .arr n t,_=>by simp[enc,AV.sh,sw]
 | .cons a b,p=>by
  have ha:=rP a p.1;have hb:=rP b p.2;unfold enc sw;cases h:enc b p.2<;>simp[h,AV.sh,AV.yU] at hb⊢ <;>simp[<-hb,ha]
mutual
theorem kN: ∀v:AV,v.sh.size=v.size
 | .undef=>by simp[AV.sh,Sh.size,AV.size]
 | .val _=>by simp[AV.sh,Sh.size,AV.size]
 | .ptr _ _=>by simp[AV.sh,Sh.size,AV.size]
 | .tail _ _=>by simp[AV.sh,Sh.size,AV.size]
 | .slice _ _ _ _=>by simp[AV.sh,Sh.size,AV.size]
 | .dp _ _=>by simp[AV.sh,Sh.size,AV.size]
 | .tS _=>by simp[AV.sh,Sh.size,AV.size]
 | .AY _=>by simp[AV.sh,Sh.size,AV.size]
 | .xh _ _=>by simp[AV.sh,Sh.size,AV.size]
 | .xy=>by simp[AV.sh,Sh.size,AV.size]
 | .Rk _ _ _ _=>by simp[AV.sh,Sh.size,AV.size]
 | .AW _ _=>by simp[AV.sh,Sh.size,AV.size]
 | .ux _ _=>by simp[AV.sh,Sh.size,AV.size]
 | .rf _ _ _=>by simp[AV.sh,Sh.size,AV.size]
 | .arr n t _=>by simp[AV.sh,Sh.size,AV.size,iH]
 | .agg fs=>by simp[AV.sh,Sh.size,AV.size,zO fs]
theorem zO: ∀l:List AV,Sh.dR (AV.yU l)=AV.dR l
 | []=>by simp[AV.yU,Sh.dR,AV.dR]
 |x::xs=>by simp[AV.yU,Sh.dR,AV.dR,kN x,zO xs]
end
theorem DJ: ∀(l:List AV) (n:Nat),AV.yU (l.take n)=(AV.yU l).take n
 | [],n=>by simp[AV.yU]
 |x::xs,0=>by simp[AV.yU]
 |x::xs,n+1=>by simp[AV.yU,DJ xs n]
theorem zP: ∀(l:List AV) (n:Nat),(AV.yU l)[n]?=(l[n]?).map AV.sh
 | [],n=>by simp[AV.yU]
 |x::xs,0=>by simp[AV.yU]
 |x::xs,n+1=>by simp[AV.yU,zP xs n]
section
variable {N:Names}{D:Nat->Prop}{w:World}
theorem kH: ∀(t:Ty) (x:t.den) (g:Nat->Option Value),ar N D w (enc t x) g↔iw N D w t x g
 | .int _,_,_=>by simp[enc,ar,iw]
 | .bool,_,_=>by simp[enc,ar,iw]
 | .str,_,_=>by simp[enc,ar,iw]
 | .nil,_,_=>by simp[enc,ar,fg,iw]
 | .deep _,_,_=>by simp[enc,ar]
 | .ref _,_,_=>by simp[enc,ar,iw]
 | .arr n t,_,_=>by simp[enc,ar]
 | .cons a b,⟨p,q⟩,g=>by
  have ha:=kH a p g;have hb:=kH b q (λj=>g (a.size+j));have hs:=nF a p;have e:enc (.cons a b) (p,q)=match enc b q with| .agg l=> .agg (enc a p::l)|v=> .agg [enc a p,v]:=rfl
  have e2:iw N D w (.cons a b) (p,q) g=(iw N D w a p g/\iw N D w b q (λj=>g (a.size+j))):=rfl;rw[e,e2,<-ha,<-hb,<-hs];cases h:enc b q<;>simp only[ar,fg,and_true]
theorem qE: ∀(l:List AV) (n:Nat) (v:AV) (g:Nat->Option Value),l[n]?=some v->fg N D w l g->ar N D w v (λj=>g (AV.dR (l.take n)+j))
 | [],n,v,g,h,_=>by simp at h
 |x::xs,0,v,g,h,hr=>by
  simp at h;subst h;simp only[fg] at hr;simpa [AV.dR] using hr.1
 |x::xs,n+1,v,g,h,hr=>by
  simp only[fg] at hr;have:=qE xs n v _ (by simpa using h) hr.2
  simpa [AV.dR,zdU] using this
end
theorem uZ: ∀(l:List AV) (n:Nat) (v:AV),l[n]?=some v->AV.dR (l.take n)+v.size<=AV.dR l
 | [],n,v,h=>by simp at h
 |x::xs,0,v,h=>by simp at h;subst h;simp[AV.dR]
 |x::xs,n+1,v,h=>by
  have:=uZ xs n v (by simpa using h)
  simp[AV.dR];omega
section
variable (N:Names)(D:Nat->Prop)(w:World)(base:Nat)
def tf (id:Nat)(v:AV):Prop:= ∃nm a,N id=some nm/\nm.base=some a/\nm.row=false/\nm.sh=v.sh/\a.spot=none/\a.off=0/\base<=a.block/\¬D a.block/\
   (∃c ty,w.heap[a.block]?=some (.cells c ty (0,0))/\c.size=v.size)/\ar N D w v (aX w a)
def nG (id:Nat)(ro:Bool)(t:Ty)(xs:List t.den):Prop:= ∃nm,N id=some nm/\nm.row=true/\nm.sh=sw t/\nm.len=aQ (β:=t.den) xs/\nm.len<=nm.cap/\
   match nm.base with
   |none=>nm.len=0
   |some a=>a.spot=none/\(∃c ty fz,w.heap[a.block]?=some (.cells c ty fz)/\a.off+nm.cap*t.size<=c.size/\(ro=false->fz=(0,0)\/c.size<=fz.1/\t= .int .u8))/\
     (if ro=true then D a.block else base<=a.block/\¬D a.block)/\∀i (x:t.den),jT (β:=t.den) xs i=some x->iw N D w t x (λj=>aX w a (i*t.size+j))
def oh (id b:Nat):Prop:= ∃nm a,N id=some nm/\nm.base=some a/\a.block=b
mutual
def pW (N:Names)(c:Nat):(p:aK)->p.den->Nat->Prop
 | .var _,_,b=>oh N c b
 | .row _,_,b=>oh N c b
 | .store ep,xs,b=> ∃(k:Nat) (d:cM ep),jT (β:=cM ep) xs k=some d/\pE (N.sub (c-SB) k) ep d b
def pE (N:Names):(l:List (Nat×aK))->cM l->Nat->Prop
 | [],_,_=>False
 |(c,p)::os,d,b=>pW N c p d.1 b\/pE N os d.2 b
end
def C7 (M:Names)(ep:List (Nat×aK)):Prop:=(∀c nm,M c=some nm->∃e∈ep,e.1=c/\e.2.mY=false)/\∀g,(∀e∈ep,e.1≠SB+g)->∀k,M.sub g k=Names.nil
mutual
def jc (N:Names)(c:Nat):(p:aK)->p.den->Prop
 | .var p,d=>tf N D w base c (p.mk (λc=>c) d)
 | .row t,xs=>nG N D w base c false t xs
 | .store ep,xs=>SB<=c/\(∀(k:Nat) (d:cM ep),jT (β:=cM ep) xs k=some d->kK (N.sub (c-SB) k) ep d/\C7 (N.sub (c-SB) k) ep)/\(∀k,aQ (β:=cM ep) xs<=k->N.sub (c-SB) k=Names.nil)/\
   ∀(k k':Nat) (d d':cM ep) (b:Nat),jT (β:=cM ep) xs k=some d->jT (β:=cM ep) xs k'=some d'->pE (N.sub (c-SB) k) ep d b->pE (N.sub (c-SB) k') ep d' b->k=k'
def kK (N:Names):(l:List (Nat×aK))->cM l->Prop
 | [],_=>True
 |(c,p)::os,d=>jc N c p d.1/\kK N os d.2/\∀b,pW N c p d.1 b->pE N os d.2 b->False
end
def qF (id:Nat):fK->Prop
 | .dead=>True
 | .void=>True
 | .store ep xs=>jc D w base N id (.store ep) xs
 | .var v=>tf N D w base id v
 | .row ro t xs=>nG N D w base id ro t xs
def iP (id:Nat):fK->Nat->Prop
 | .var _,b=>oh N id b
 | .row false _ _,b=>oh N id b
 | .store ep xs,b=>pW N id (.store ep) xs b
 |_,_=>False
def fK.rw:fK->Bool
 | .var _=>true| .row ro _ _=>!ro|_=>false
def zi (h:Nat->Option fK)(b:Nat):Prop:= ∃id o,h id=some o/\iP N id o b
structure jU (h:Nat->Option fK):Prop where
 obj: ∀id o,h id=some o->qF N D w base id o
 apart: ∀id Rm o o' b,h id=some o->h Rm=some o'->iP N id o b->iP N Rm o' b->id=Rm
 frozen: ∀b,D b->b<w.heap.size
 named: ∀id nm,N id=some nm->h id≠none
 size:base<=w.heap.size
 iG: ∀g,AM.iG (h (SB+g))=true->∀k,N.sub g k=Names.nil
structure kp (st:St)(a:Act):Prop where
 ny:jU N D w base st.h
 tmps: ∀x,ck N D w (st.t x) (a.tmps.getD x Go.undef)
 nt:a.tmps.size=st.nt
 defers:a.defers=[]
end
theorem iP.of {N:Names}{id:Nat}{o:fK}{nm:Nm}{a:Addr}(hr:o.rw=true)(hn:N id=some nm)(hb:nm.base=some a):iP N id o a.block:=by
 cases o with
 |var v=>exact⟨nm,a,hn,hb,rfl⟩
 |row ro t xs=>cases ro<;>simp[fK.rw] at hr;exact⟨nm,a,hn,hb,rfl⟩
 |dead=>cases hr
 |void=>cases hr
 |store ep xs=>cases hr
structure Ext (N:Names)(D:Nat->Prop)(w:World)(h:Nat->Option fK)(N':Names)(D':Nat->Prop)(w':World)(h':Nat->Option fK):Prop where
 names:N.le N'
 frozen: ∀b,D b->D' b
 os:w'.os=w.os
 tape:w'.tape=w.tape
 output:w'.output=w.output
 size:w.heap.size<=w'.heap.size
 sU: ∀b,b<w.heap.size->¬zi N h b->w'.heap[b]?=w.heap[b]?
 own: ∀b,b<w.heap.size->zi N' h' b->zi N h b
 JB: ∀b,D' b->D b\/zi N h b\/w.heap.size<=b
 fresh: ∀i nm,N' i=some nm->N i=some nm\/h i=none
 live: ∀i,h' i=none->h i=none
 pQ: ∀g,h (SB+g)=some .dead->h' (SB+g)=some .dead/\∀k,N'.sub g k=N.sub g k
theorem Ext.refl (N:Names)(D:Nat->Prop)(w:World)(h:Nat->Option fK):Ext N D w h N D w h:=
 ⟨Names.le_refl N,λ_ h=>h,rfl,rfl,rfl,zdV _,λ_ _ _=>rfl,λ_ _ h=>h,λ_ h=> .inl h,λ_ _ h=> .inl h,λ_ h=>h,λ_ h=>⟨h,λ_=>rfl⟩⟩
theorem Ext.trans {N N' N'':Names}{D D' D'':Nat->Prop}{w w' UO:World}{h h' Xx:Nat->Option fK}(x:Ext N D w h N' D' w' h')(y:Ext N' D' w' h' N'' D'' UO Xx):Ext N D w h N'' D'' UO Xx where
 names:=x.names.trans y.names
 frozen b e:=y.frozen b (x.frozen b e)
 os:=y.os.trans x.os
 tape:=y.tape.trans x.tape
 output:=y.output.trans x.output
 size:=zdW x.size y.size
 sU b hb ho:=by
  rw[y.sU b (zdX hb x.size) (λo=>ho (x.own b hb o)),x.sU b hb ho]
 own b hb o:=x.own b hb (y.own b (zdX hb x.size) o)
 JB b hb:=by
  rcases y.JB b hb with h1|h1|h1
  ·exact x.JB b h1
  ·rcases zdY b w.heap.size with h2|h2
   ·exact .inr (.inl (x.own b h2 h1))
   ·exact .inr (.inr h2)
  ·exact .inr (.inr (zdW x.size h1))
 fresh i nm hi:=by
  rcases y.fresh i nm hi with h1|h1
  ·exact x.fresh i nm h1
  ·exact .inr (x.live i h1)
 live i hi:=x.live i (y.live i hi)
 pQ g e:=⟨(y.pQ g (x.pQ g e).1).1,λk=>((y.pQ g (x.pQ g e).1).2 k).trans ((x.pQ g e).2 k)⟩
def Gp (D:Nat->Prop)(w:World)(base b:Nat):Prop:= ¬D b/\base<=b/\b<w.heap.size
theorem tf.pb {N:Names}{D:Nat->Prop}{w:World}{base id:Nat}{v:AV}(h:tf N D w base id v){b:Nat}(ho:oh N id b):Gp D w base b:=by
 obtain⟨nm,a,h3,h4,rfl⟩:=ho;obtain⟨mM,a',e1,e2,_,_,_,_,h6,h7,⟨c,ty,h8,_⟩,_⟩:=h;rw[h3] at e1;cases e1;rw[h4] at e2;cases e2;exact⟨h7,h6,(Array.getElem?_eq_some_iff.1 h8).1⟩
theorem nG.pb {N:Names}{D:Nat->Prop}{w:World}{base id:Nat}{t:Ty}{xs:List t.den}(h:nG N D w base id false t xs){b:Nat}(ho:oh N id b):Gp D w base b:=by
 obtain⟨nm,a,h3,h4,rfl⟩:=ho;obtain⟨mM,e1,_,_,_,_,h6⟩:=h;rw[h3] at e1;cases e1;rw[h4] at h6;obtain⟨_,⟨c,ty,fz,h8,_⟩,h7,_⟩:=h6;simp at h7;exact⟨h7.2,h7.1,(Array.getElem?_eq_some_iff.1 h8).1⟩
mutual
theorem jc.pb {D:Nat->Prop}{w:World}{base:Nat}: ∀{N:Names} {c:Nat} {p:aK} {d:p.den},jc D w base N c p d->∀{b:Nat},pW N c p d b->Gp D w base b
 |_,_, .var _,_,h,_,ho=>tf.pb (by simpa only[jc] using h) (by simpa only[pW] using ho)
 |_,_, .row _,_,h,_,ho=>nG.pb (by simpa only[jc] using h) (by simpa only[pW] using ho)
 |N,c, .store ep,xs,h,b,ho=>by
  simp only[jc] at h;simp only[pW] at ho;obtain⟨k,d,h1,h2⟩:=ho;exact kK.pb (h.2.1 k d h1).1 h2
theorem kK.pb {D:Nat->Prop}{w:World}{base:Nat}: ∀{N:Names} {l:List (Nat×aK)} {d:cM l},kK D w base N l d->∀{b:Nat},pE N l d b->Gp D w base b
 |_,[],_,_,_,ho=>by simp only[pE] at ho
 |_,(c,p)::os,d,h,b,ho=>by
  simp only[kK] at h;simp only[pE] at ho;rcases ho with ho|ho
  ·exact jc.pb h.1 ho
  ·exact kK.pb h.2.1 ho
end
theorem jU.pb {N:Names}{D:Nat->Prop}{w:World}{base:Nat}{h:Nat->Option fK}(s:jU N D w base h){id:Nat}{o:fK}(hi:h id=some o){b:Nat}(ho:iP N id o b):Gp D w base b:=by
 have:=s.obj id o hi;cases o with
 |dead=>exact ho.elim
 |void=>exact ho.elim
 |var v=>exact tf.pb this ho
 |row ro t xs=>
  cases ro with
  |true=>exact ho.elim
  |false=>exact nG.pb this ho
 |store ep xs=>exact jc.pb this ho
theorem jU.tW {N:Names}{D:Nat->Prop}{w:World}{base:Nat}{h:Nat->Option fK}(s:jU N D w base h){b:Nat}(o:zi N h b): ¬D b/\base<=b:=by
 obtain⟨id,o,h1,h2⟩:=o;exact⟨(s.pb h1 h2).1,(s.pb h1 h2).2.1⟩
theorem Ext.JC {N N':Names}{D D':Nat->Prop}{w w':World}{base:Nat}{h h':Nat->Option fK}(x:Ext N D w h N' D' w' h')(s:jU N D w base h): ∀b,D b->w'.heap[b]?=w.heap[b]?:=
 λb hb=>x.sU b (s.frozen b hb) (λo=>(s.tW o).1 hb)
theorem Ext.val {N N':Names}{D D':Nat->Prop}{w w':World}{base:Nat}{h h':Nat->Option fK}(x:Ext N D w h N' D' w' h')(s:jU N D w base h){u:AV}{v:Value}(hv:ck N D w u v):ck N' D' w' u v:=
 Gn x.names x.frozen (x.JC s) hv
theorem St.BV (s:St)(d:Option Tmp)(v:AV):(s.put d v).h=s.h:=by
 cases d with
 |none=>rfl
 |some d=>simp only[St.put];split<;>rfl
theorem St.HG (s:St)(d:Option Tmp)(v:AV):(s.put d v).nt=s.nt:=by
 cases d with
 |none=>rfl
 |some d=>simp only[St.put];split<;>rfl
theorem St.RO (s:St)(d:Option Tmp)(v:AV):(s.put d v).ep=s.ep:=by
 cases d with
 |none=>rfl
 |some d=>simp only[St.put];split<;>rfl
theorem kp.put {N N':Names}{D D':Nat->Prop}{w w':World}{base:Nat}{st eZ:St}{a:Act}(s:kp N D w base st a)(x:Ext N D w st.h N' D' w' eZ.h)(hs:jU N' D' w' base eZ.h)(ht:eZ.t=st.t)(hn:eZ.nt=st.nt)
  (d:Option Tmp) {u:AV} {v:Value} (hv:ck N' D' w' u v):kp N' D' w' base (eZ.put d u) (a.put d v):=by
 refine⟨by rw[St.BV];exact hs,λy=>?_,?_,?_⟩
 ·cases d with
  |none=>simp only[St.put,Act.put,ht];exact x.val s.ny (s.tmps y)
  |some d=>
   have hsz:a.tmps.size=eZ.nt:=by rw[s.nt,hn]
   simp only[St.put,Act.put];by_cases hd:d<eZ.nt
   ·rw[if_pos hd]
    have LL:d<a.tmps.size:=by rw[hsz];exact hd
    by_cases e:y=d
    ·subst e
     simp[LL];exact hv
    ·have:(a.tmps.setIfInBounds d v).getD y Go.undef=a.tmps.getD y Go.undef:=by
      simp[Array.getElem?_setIfInBounds_ne (Ne.symm e)]
     simp only[if_neg e];rw[this,ht];exact x.val s.ny (s.tmps y)
   ·rw[if_neg hd]
    rw[Array.setIfInBounds_eq_of_size_le (by rw[hsz];exact Nat.le_of_not_lt hd),ht]
    exact x.val s.ny (s.tmps y)
 ·rw[St.HG,hn,<-s.nt]
  cases d<;>simp[Act.put]
 ·cases d<;>simp only[Act.put]<;>exact s.defers
theorem kp.ev {N:Names}{D:Nat->Prop}{w:World}{base:Nat}{st:St}{a:Act}(s:kp N D w base st a)(x:Operand)(hx: ∀v,x= .const v->(∀c,v≠ .agg c)):ck N D w (st.ev x) (a.eval x):=by
 cases x with
 |tmp t=>exact s.tmps t
 |const v=>simp[St.ev,Act.eval,ck,AV.isAgg,jv,ar]
 |global g=>simp[St.ev,Act.eval,ck,AV.isAgg,jv,ar]
 |func f=>simp[St.ev,Act.eval,ck,AV.isAgg,jv,ar]
end AM
namespace AM
open Go
section
variable {N:Names}{D:Nat->Prop}{w:World}{v c:Value}
theorem pc:ck N D w .undef c:=by simp[ck,AV.isAgg,jv,ar]
theorem dY:ck N D w (.val v) c↔c=v:=by simp[ck,AV.isAgg,jv,ar]
theorem jq {id:Nat}{p:List Step}:ck N D w (.ptr id p) c↔∃nm a o,N id=some nm/\nm.base=some a/\nm.off p=some o/\c= .pointer (some (Addr.at_ a o)):=by
 simp[ck,AV.isAgg,jv,ar]
theorem qG {x:AV}:ck N D w (.tS x) c↔∃a,c= .pointer (some a)/\a.spot=none/\D a.block/\ar N D w x (aX w a):=by
 simp[ck,AV.isAgg,jv,ar]
theorem lJ {vs:List AV}:ck N D w (.AY vs) c↔∃cs:Array Value,c= .tuple cs/\bA N D w vs cs.toList:=by
 simp[ck,AV.isAgg,jv,ar]
theorem xH {fs:List AV}:ck N D w (.agg fs) c↔∃cells:Array Value,c= .agg cells/\cells.size=AV.dR fs/\fg N D w fs (cells[·]?):=by
 simp[ck,AV.isAgg,jv,ar,AV.size]
theorem vr {n:Nat}{t:Ty}{xs:List t.den}:ck N D w (.arr n t xs) c↔∃cells:Array Value,c= .agg cells/\cells.size=n*t.size/\iw N D w (.arr n t) xs (cells[·]?):=by
 simp[ck,AV.isAgg,jv,ar,AV.size]
theorem uL {t:Ty}{xs:List t.den}:ck N D w (.dp t xs) c↔iw N D w (.deep t) xs (λ_=>some c):=by
 simp[ck,AV.isAgg,jv,ar]
theorem sA: ∀(vs:List AV) (cs:List Value) (i:Nat) (u:AV),bA N D w vs cs->vs[i]?=some u->∃c,cs[i]?=some c/\ck N D w u c
 | [],_,_,_,_,h=>by simp at h
 |x::xs,cs,0,u,hr,h=>by
  simp only[bA] at hr;obtain⟨c,tK,rfl,h2,_⟩:=hr;simp at h;subst h;exact⟨c,by simp,h2⟩
 |x::xs,cs,i+1,u,hr,h=>by
  simp only[bA] at hr;obtain⟨c,tK,rfl,_,h3⟩:=hr;obtain⟨c',h4,h5⟩:=sA xs tK i u h3 (by simpa using h)
  exact⟨c',by simpa using h4,h5⟩
end
def ll (P:Program)(base:Nat)(o:Oper)(st:St)(av:AV)(eZ:St):Prop:=
 eZ.t=st.t/\eZ.nt=st.nt/\eZ.ep=st.ep/\(∀id,id∉NX st o->qD st.ep o id=false->eZ.h id=st.h id)/\∀N D w a,kp N D w base st a->∃N' D' w' v,
  ((execOp a.eval o).run P w= .ok (.value v) w'\/((execOp a.eval o).run P w= .ok .skip w'/\v=Go.undef))/\
  Ext N D w st.h N' D' w' eZ.h/\jU N' D' w' base eZ.h/\ck N' D' w' av v
theorem ll.pure {P:Program}{base:Nat}{o:Oper}{st:St}{av:AV}(h: ∀N D w a,kp N D w base st a->∃v,(execOp a.eval o).run P w= .ok (.value v) w/\ck N D w av v):ll P base o st av st:=
 ⟨rfl,rfl,rfl,λ_ _ _=>rfl,λN D w a s=>let ⟨v,h1,h2⟩:=h N D w a s;⟨N,D,w,v, .inl h1,Ext.refl _ _ _ _,s.ny,h2⟩⟩
theorem kp.FJ {N:Names}{D:Nat->Prop}{w:World}{base:Nat}{st:St}{a:Act}(s:kp N D w base st a)(x:Operand):ck N D w (st.ev x) (a.eval x):=by
 cases x with
 |tmp t=>exact s.tmps t
 |const v=>simp[St.ev,Act.eval,dY]
 |global g=>exact pc
 |func f=>simp[St.ev,Act.eval,dY]
variable {α:Type}{P:Program}{base:Nat}
abbrev nW (P:Program)(base:Nat)(o:Oper)(st:St)(k:AV->St->Option α)(r:α):Prop:= ∃av eZ,k av eZ=some r/\ll P base o st av eZ
theorem RP {dst ty pos after guard}{op:BinOp}{xT yT:TypeId}{x y:Operand}{st:St}{ka kb:IntKind}{a b:Int}(hx:st.ev x= .val (.int ka a))(hy:st.ev y= .val (.int kb b)){k:AV->St->Option α}{r:α}
  (h:RB st op ka kb a b k=some r):nW P base ⟨dst, .binOp op xT x y yT,ty,pos,after,guard⟩ st k r:=by
 have key: ∀u:Value,(∀w,(Go.binOp op xT (.int ka a) (.int kb b)).run P w= .ok u w)->k (.val u) st=some r->nW P base ⟨dst, .binOp op xT x y yT,ty,pos,after,guard⟩ st k r:=by
  intro u hu hk;refine⟨_,_,hk,ll.pure λN D w act s=>⟨u,?_,dY.2 rfl⟩⟩;have e1:=dY.1 (hx▸s.FJ x);have e2:=dY.1 (hy▸s.FJ y);simp[execOp,e1,e2,eqGuard_at_int,hu]
 have cond: ∀(b:Bool) (p:Prop) (z:Option α),b=af p->(match b with|true=>none|false=>z)=some r->¬p/\z=some r:=by
  intro b p z hb hz;cases b with
  |true=>simp at hz
  |false=>exact⟨λhp=>(by rw[kL.2 hp] at hb;exact absurd hb (by simp)),hz⟩
 have LM: ∀z:Option α,(if ka=kb then z else none)=some r->ka=kb/\z=some r:=by
  intro z hz;split at hz
  ·exact⟨‹_›,hz⟩
  ·cases hz
 have hb: ∀(p:Prop) [Decidable p],af p=decide p:=λp _=>kM p;cases op<;>simp only[RB] at h
 case shl=>replace h:=cond _ _ _ rfl h;obtain⟨hn,h⟩:=h;exact key _ (λw=>by simp[binOp_shl,Op.shift,hn,shl,pP]) h
 case shr=>replace h:=cond _ _ _ rfl h;obtain⟨hn,h⟩:=h;exact key _ (λw=>by simp[binOp_shr,Op.shift,hn,Rx]) h
 case add=>replace h:=LM _ h;obtain⟨rfl,h⟩:=h;exact key _ (λw=>by simp[binOp_add,Op.intArith,pP]) h
 case sub=>replace h:=LM _ h;obtain⟨rfl,h⟩:=h;exact key _ (λw=>by simp[binOp_sub,Op.intArith,pP]) h
 case mul=>replace h:=LM _ h;obtain⟨rfl,h⟩:=h;exact key _ (λw=>by simp[binOp_mul,Op.intArith,pP]) h
 case quo=>replace h:=LM _ h;obtain⟨rfl,h⟩:=h;replace h:=cond _ _ _ rfl h;obtain⟨hn,h⟩:=h;exact key _ (λw=>by simp[binOp_quo,Op.intDiv,hn,pP]) h
 case rem=>replace h:=LM _ h;obtain⟨rfl,h⟩:=h;replace h:=cond _ _ _ rfl h;obtain⟨hn,h⟩:=h;exact key _ (λw=>by simp[binOp_rem,Op.intDiv,hn]) h
 case and=>replace h:=LM _ h;obtain⟨rfl,h⟩:=h;exact key _ (λw=>by simp[binOp_and,Op.intBits,sT,pP]) h
 case or=>replace h:=LM _ h;obtain⟨rfl,h⟩:=h;exact key _ (λw=>by simp[binOp_or,Op.intBits,AU,pP]) h
 case xor=>replace h:=LM _ h;obtain⟨rfl,h⟩:=h;exact key _ (λw=>by simp[binOp_xor,Op.intBits,pC,pP]) h
 case andNot=>replace h:=LM _ h;obtain⟨rfl,h⟩:=h;exact key _ (λw=>by simp[binOp_andNot,Op.intBits,Dv,pP]) h
 case eql=>replace h:=LM _ h;obtain⟨rfl,h⟩:=h;exact key _ (λw=>by simp[binOp_eql,hb];rfl) h
 case neq=>replace h:=LM _ h;obtain⟨rfl,h⟩:=h;exact key _ (λw=>by simp[binOp_neq,hb];rfl) h
 case lss=>replace h:=LM _ h;obtain⟨rfl,h⟩:=h;exact key _ (λw=>by simp[binOp_lss,hb]) h
 case leq=>replace h:=LM _ h;obtain⟨rfl,h⟩:=h;exact key _ (λw=>by simp[binOp_leq,hb]) h
 case gtr=>replace h:=LM _ h;obtain⟨rfl,h⟩:=h;exact key _ (λw=>by simp[binOp_gtr,hb]) h
 case geq=>replace h:=LM _ h;obtain⟨rfl,h⟩:=h;exact key _ (λw=>by simp[binOp_geq,hb]) h
end AM
namespace AM
open Go
theorem mF {N:Names}{D:Nat->Prop}{w:World}{x:AV}{g g':Nat->Option Value}(h:ar N D w x g)(e: ∀j,g j=g' j):ar N D w x g':=by
 have:g=g':=funext e;subst this;exact h
theorem wk {α:Type}: ∀(p:List Step) (v:AV) (k:AV->Option α) (r:α),Jt p v k=some r->
  ∃u,k u=some r/\zJ p v.sh=some u.sh/\∀N D w g o,ar N D w v g->fE p v.sh=some o->ar N D w u (λj=>g (o+j))/\o+u.size<=v.size
 | [],v,k,r,h=>by
  simp only[Jt] at h;refine⟨v,h,rfl,λN D w g o hr ho=>?_⟩;simp only[fE,zdF] at ho;subst ho;exact⟨by simpa using hr,by omega⟩
 | .im n::p,v,k,r,h=>by
  cases v<;>simp only[Jt] at h<;>try (cases h;done)
  rename_i fs;cases hv:fs[n]? with
  |none=>simp[hv] at h
  |some x=>
   simp only[hv] at h;obtain⟨u,h1,h2,h3⟩:=wk p x k r h;refine⟨u,h1,by simp only[AV.sh,zJ,zP,hv,zdO];exact h2,λN D w g o hr ho=>?_⟩
   simp only[AV.sh,fE,zP,hv,zdO] at ho;cases mX:fE p x.sh with
   |none=>simp[mX] at ho
   |some o'=>
    simp only[mX,zdO,zdF] at ho;rw[<-DJ,zO] at ho;subst ho;simp only[ar] at hr;have:=qE fs n x g hv hr;obtain⟨h4,h5⟩:=h3 N D w _ o' this mX;exact⟨mF h4 (λj=>by rw[zdU]),by have:=uZ fs n x hv;simp only[AV.size];omega⟩
 | .idx i::p,v,k,r,h=>by
  cases v<;>simp only[Jt] at h<;>try (cases h;done)
  rename_i n t xs;cases hv:(show List t.den from xs)[i]? with
  |none=>simp[hv] at h
  |some x=>
   simp only[hv] at h;obtain⟨u,h1,h2,h3⟩:=wk p (enc t x) k r h;refine⟨u,h1,by simp only[AV.sh,zJ];rw[<-rP t x];exact h2,λN D w g o hr ho=>?_⟩
   simp only[AV.sh,fE] at ho;by_cases hi:i<n
   ·simp only[hi,if_true] at ho
    cases mX:fE p (sw t) with
    |none=>simp[mX] at ho
    |some o'=>
     simp only[mX,zdO,zdF,iH] at ho;subst ho;simp only[ar,iw] at hr;have:=(kH (N:=N) t x _).2 (hr.2 i x hv);obtain⟨h4,h5⟩:=h3 N D w _ o' this (by rw[rP];exact mX)
     refine⟨mF h4 (λj=>by rw[zdU]),?_⟩
     rw[nF] at h5;have:(i+1)*t.size<=n*t.size:=zdS _ hi;rw[zdT] at this;simp only[AV.size];omega
   ·simp only[hi,if_false] at ho;cases ho
theorem pF {α:Type}{s:St}{id:Nat}{p:List Step}{k:AV->Option α}{r:α}(h:s.get id p k=some r):
  ∃u,k u=some r/\s.shape id p=some u.sh/\∀N D w base,jU N D w base s.h->∀nm a o,N id=some nm->nm.base=some a->nm.off p=some o->
   a.spot=none/\ar N D w u (λj=>aX w a (o+j))/\∃c ty fz,w.heap[a.block]?=some (.cells c ty fz)/\a.off+o+u.size<=c.size:=by
 unfold St.get at h;cases ho:s.h id with
 |none=>simp[ho] at h
 |some ob=>
  cases ob with
  |dead=>simp[ho] at h
  |store _ _=>simp[ho] at h
  |void=>simp[ho] at h
  |var v=>
   simp only[ho] at h;obtain⟨u,h1,h2,h3⟩:=wk p v k r h;refine⟨u,h1,by simp only[St.shape,ho];exact h2,λN D w base S nm a o hn hb nX=>?_⟩
   have:=S.obj id _ ho;obtain⟨mM,a',e1,e2,e3,e4,e5,e6,_,_,⟨c,ty,e7,e8⟩,e9⟩:=this;rw[hn] at e1;cases e1;rw[hb] at e2;cases e2;have hof:fE p v.sh=some o:=by
    have:nm.off p=fE p nm.sh:=by
     unfold Nm.off;split<;>simp[e3]
    rw[this,e4] at nX;exact nX
   obtain⟨h4,h5⟩:=h3 N D w _ o e9 hof;exact⟨e5,h4,c,ty,_,e7,by rw[e8,e6];omega⟩
  |row ro t xs=>
   simp only[ho] at h;cases p with
   |nil=>simp at h
   |cons st p=>
    cases st with
    |im n=>simp at h
    |idx i=>
     simp only at h;cases hv:(show List t.den from xs)[i]? with
     |none=>simp[hv] at h
     |some x=>
      simp only[hv] at h;obtain⟨u,h1,h2,h3⟩:=wk p (enc t x) k r h;refine⟨u,h1,by simp only[St.shape,ho];rw[<-rP t x];exact h2,λN D w base S nm a o hn hb nX=>?_⟩
      have:=S.obj id _ ho;obtain⟨mM,e1,e2,e3,e4,e5,e6⟩:=this;rw[hn] at e1;cases e1;rw[hb] at e6;obtain⟨e7,⟨c,ty,fz,e8,e9,_⟩,_,yr⟩:=e6;simp only[Nm.off,e2,if_true] at nX;by_cases hi:i<nm.len
      ·simp only[hi,if_true] at nX
       cases mX:fE p nm.sh with
       |none=>simp[mX] at nX
       |some o'=>
        simp only[mX,zdO,zdF] at nX;rw[e3,iH] at nX;subst nX;have hx:=(kH (N:=N) t x _).2 (yr i x hv);obtain⟨h4,h5⟩:=h3 N D w _ o' hx (by rw[rP,<-e3];exact mX)
        refine⟨e7,mF h4 (λj=>by rw[zdU]),c,ty,fz,e8,?_⟩
        rw[nF] at h5;have:(i+1)*t.size<=nm.cap*t.size:=zdS _ (by omega)
        rw[zdT] at this;omega
      ·simp only[hi,if_false] at nX;cases nX
end AM
namespace AM
open Go
theorem A8 {N:Names}{tag n c:Nat}{v:Option Value}(h:xF N tag n c v): ∃c,v=some c/\c.oneCell'=true:=by
 cases n with
 |zero=>exact⟨_,h,rfl⟩
 |succ k=>obtain⟨_,_,_,_,_,h⟩:=h;exact⟨_,h,rfl⟩
theorem rQ {N:Names}{D:Nat->Prop}{w:World}: ∀(t:Ty) (x:t.den) (g:Nat->Option Value),iw N D w t x g->∀j,j<t.size->∃c,g j=some c/\c.oneCell'=true
 | .int k,n,g,h,j,hj=>by simp[Ty.size] at hj;subst hj;exact⟨_,h,rfl⟩
 | .bool,n,g,h,j,hj=>by simp[Ty.size] at hj;subst hj;exact⟨_,h,rfl⟩
 | .str,n,g,h,j,hj=>by simp[Ty.size] at hj;subst hj;exact⟨_,h,rfl⟩
 | .nil,n,g,h,j,hj=>by simp[Ty.size] at hj
 | .deep t,xs,g,h,j,hj=>by
  simp[Ty.size] at hj;subst hj;obtain⟨a,cap,h1,_⟩:=h;exact⟨_,h1,rfl⟩
 | .ref _,n,g,h,j,hj=>by simp[Ty.size] at hj;subst hj;exact A8 h
 | .cons a b,p,g,h,j,hj=>by
  by_cases hja:j<a.size
  ·exact rQ a p.1 g h.1 j hja
  ·have:=rQ b p.2 _ h.2 (j-a.size) (by simp[Ty.size] at hj;omega)
   rwa [show a.size+(j-a.size)=j by omega] at this
 | .arr n t,xs,g,h,j,hj=>by
  simp only[Ty.size] at hj;have hp:0<t.size:=by
   rcases zdZ t.size with e|e
   ·rw[e] at hj;omega
   ·exact e
  have hi:j/t.size<aQ (β:=t.den) xs:=by rw[h.1];exact(Nat.div_lt_iff_lt_mul hp).2 hj
  have:=rQ t _ _ (h.2 (j/t.size) _ (zdE hi)) (j%t.size) (Nat.mod_lt _ hp);rwa [show j/t.size*t.size+j%t.size=j by rw[Nat.mul_comm];exact Nat.div_add_mod j t.size] at this
mutual
theorem sB {N:Names}{D:Nat->Prop}{w:World}: ∀(v:AV) (g:Nat->Option Value),v.nw=true->ar N D w v g->∀j,j<v.size->∃c,g j=some c/\c.oneCell'=true
 | .undef,_,hs,_,_,_=>by simp[AV.nw] at hs
 | .AY _,_,hs,_,_,_=>by simp[AV.nw] at hs
 | .val v,g,hs,h,j,hj=>by simp[AV.size] at hj;subst hj;simp only[ar] at h;exact⟨_,h,by simpa [AV.nw] using hs⟩
 | .ptr id p,g,hs,h,j,hj=>by simp[AV.size] at hj;subst hj;simp only[ar] at h;obtain⟨_,_,_,_,_,_,h⟩:=h;exact⟨_,h,rfl⟩
 | .tail id off,g,hs,h,j,hj=>by
  simp[AV.size] at hj;subst hj;simp only[ar] at h;obtain⟨nm,_,_,_,_,h⟩:=h;cases hb:nm.base with
  |none=>rw[hb] at h;exact⟨_,h.2,rfl⟩
  |some a=>rw[hb] at h;obtain⟨v,room,h1,_,a',cap,rfl,_⟩:=h;exact⟨_,h1,rfl⟩
 | .slice id p off len,g,hs,h,j,hj=>by
  simp[AV.size] at hj;subst hj;simp only[ar] at h;obtain⟨nm,_,h⟩:=h;cases hb:nm.base with
  |none=>rw[hb] at h;obtain⟨_,_,_,_,h⟩:=h;exact⟨_,h,rfl⟩
  |some a=>
  rw[hb] at h;simp only at h;split at h
  ·obtain⟨_,_,v,room,h1,_,_,a',cap,rfl,_⟩:=h;exact⟨_,h1,rfl⟩
  ·obtain⟨_,_,_,v,room,_,_,_,h1,_,a',cap,rfl,_⟩:=h;exact⟨_,h1,rfl⟩
 | .dp t xs,g,hs,h,j,hj=>by simp only[ar] at h;exact rQ _ _ _ h j (by simpa [AV.size,Ty.size] using hj)
 | .tS v,g,hs,h,j,hj=>by simp[AV.size] at hj;subst hj;simp only[ar] at h;obtain⟨_,h,_⟩:=h;exact⟨_,h,rfl⟩
 | .xh _ _,g,hs,h,j,hj=>by simp[AV.size] at hj;subst hj;simp only[ar] at h;obtain⟨_,h,_⟩:=h;exact⟨_,h,rfl⟩
 | .Rk _ _ _ _,g,hs,h,j,hj=>by simp[AV.size] at hj;subst hj;simp only[ar] at h;obtain⟨_,_,_,_,_,_,h⟩:=h;exact⟨_,h,rfl⟩
 | .AW _ _,g,hs,h,j,hj=>by simp[AV.size] at hj;subst hj;simp only[ar] at h;obtain⟨_,h,_⟩:=h;exact⟨_,h,rfl⟩
 | .xy,g,hs,h,j,hj=>by simp[AV.size] at hj;subst hj;simp only[ar] at h;obtain⟨_,h⟩:=h;exact⟨_,h,rfl⟩
 | .ux _ _,g,hs,h,j,hj=>by simp[AV.size] at hj;subst hj;simp only[ar] at h;obtain⟨_,_,_,_,_,h⟩:=h;exact⟨_,h,rfl⟩
 | .rf _ _ _,g,hs,h,j,hj=>by simp[AV.size] at hj;subst hj;simp only[ar] at h;exact A8 h
 | .arr n t xs,g,hs,h,j,hj=>by simp only[ar] at h;exact rQ _ _ _ h j (by simpa [AV.size,Ty.size] using hj)
 | .agg fs,g,hs,h,j,hj=>by simp only[ar] at h;exact zQ fs g (by simpa [AV.nw] using hs) h j (by simpa [AV.size] using hj)
theorem zQ {N:Names}{D:Nat->Prop}{w:World}: ∀(l:List AV) (g:Nat->Option Value),AV.AZ l=true->fg N D w l g->∀j,j<AV.dR l->∃c,g j=some c/\c.oneCell'=true
 | [],_,_,_,j,hj=>by simp[AV.dR] at hj
 |x::xs,g,hs,h,j,hj=>by
  simp only[AV.AZ,zdH] at hs;simp only[fg] at h;by_cases hjx:j<x.size
  ·exact sB x g hs.1 h.1 j hjx
  ·have:=zQ xs _ hs.2 h.2 (j-x.size) (by simp[AV.dR] at hj;omega)
   rwa [show x.size+(j-x.size)=j by omega] at this
end
theorem rh {v:AV}(hs:v.nw=true)(h:v.isAgg=false):v.size=1:=by cases v<;>simp_all [AV.isAgg,AV.size]
theorem rR {P:Program}{t:TypeId}{v:AV}(h:sx P t v=true):v.nw=true/\v.isAgg=qY P t/\v.size=P.cellsOf t/\∃d,P.underlying t=some d:=by
 simp only[sx,zdH,beq_iff_eq,zdN] at h;exact⟨h.1.1.1,h.1.1.2,h.1.2,Option.isSome_iff_exists.1 h.2⟩
theorem ow (b o n:Nat):(⟨b,o,none⟩:Addr).add n=⟨b,o+n,none⟩:=Addr.add_lit b o n
theorem DK {P:Program}{N:Names}{D:Nat->Prop}{w:World}{t:TypeId}{v:AV}{ad:Addr}(ha:ad.spot=none)(hf:sx P t v=true)(hr:ar N D w v (aX w ad)):
  ∃c,(Instr.loadAt t (.pointer (some ad))).run P w= .ok c w/\ck N D w v c:=by
 obtain⟨hs,h1,h2,d,hd⟩:=rR hf;obtain⟨i,hi⟩:=info_of_underlying hd;obtain⟨b,o,sp⟩:=ad;simp only at ha;subst ha;have hc:=sB v _ hs hr;have HH:(isAgg t).run P w= .ok (qY P t) w:=by
  simp only[isAgg,zd0,run_underlying hd,zd1,qY,hd];cases d<;>rfl
 simp only[Instr.loadAt,Instr.sureAddr,zd0,zd2,zd1,loadVar,HH];cases Fz:v.isAgg with
 |true=>
  rw[<-h1,Fz];have LN: ∀j,j<v.size->w.cell? ((⟨b,o,none⟩:Addr).add j)=some ((aX w ⟨b,o,none⟩ j).getD Go.undef):=by
   intro j hj;obtain⟨c,h3,_⟩:=hc j hj;rw[ow,h3];exact h3
  have hl:=run_loadCells (P:=P) w ⟨b,o,none⟩ v.size (λj=>(aX w ⟨b,o,none⟩ j).getD Go.undef) LN;refine⟨.agg ((List.range v.size).map λj=>(aX w ⟨b,o,none⟩ j).getD Go.undef).toArray,?_,?_⟩
  ·simp only[if_true,zd0,run_sizeOf w hi,zd1,<-h2,hl,zd2]
  ·unfold ck
   rw[Fz];refine⟨_,rfl,by simp,jN v _ _ (λj hj=>?_) hr⟩
   obtain⟨c,h3,_⟩:=hc j hj;simp[hj,h3]
 |false=>
  rw[<-h1,Fz];obtain⟨c,h3,_⟩:=hc 0 (by rw[rh hs Fz];omega)
  have RQ:w.cell? ⟨b,o,none⟩=some c:=h3;refine⟨c,by simp[RQ],?_⟩
  unfold ck;rw[Fz];refine jN v _ _ (λj hj=>?_) hr;rw[rh hs Fz] at hj;obtain rfl:j=0:=by omega
  exact h3
end AM
namespace AM
open Go
theorem iV {t t':Ty}{xs:List t.den}{ys:List t'.den}(h:tc t t' xs=some ys): ∃e:t=t',ys=e▸xs:=by
 unfold tc at h;split at h
 ·rename_i e;exact⟨e,(Option.some.inj h).symm⟩
 ·cases h
def lq (N:Names)(D':Nat->Prop)(ids:List Nat):Prop:= ∀id∈ids,∀nm a,N id=some nm->nm.base=some a->D' a.block
def N3 (R:(Nat->Prop)->World->Prop)(N:Names)(D:Nat->Prop)(w:World)(ids:List Nat):Prop:= ∀D':Nat->Prop,(∀b,D b->D' b)->lq N D' ids->R D' w
theorem xI {N:Names}{D':Nat->Prop}{w:World}{t:Ty}{xs:List t.den}{a:Addr}{off len room:Nat}{v:Value}(hD:D' a.block)(hx: ∀i (x:t.den),jT (β:=t.den) xs i=some x->iw N D' w t x (λj=>aX w a (i*t.size+j)))
  (hv:LJ (Addr.at_ a (off*t.size)) len room v) (hl:off+len<=aQ (β:=t.den) xs):iw N D' w (.deep t) ((xs.drop off).take len:List t.den) (λ_=>some v):=by
 obtain⟨a',cap,rfl,h1,rfl,h2⟩:=hv;have e:aQ (β:=t.den) ((xs.drop off).take len)=len:=by simp only[aQ,zd3,zd4];simp only[aQ] at hl;omega
 refine⟨some a',cap,by rw[e],by rw[e];exact h1,(by intro h;cases h),λad FK lF=>?_⟩
 cases FK;rw[e] at lF;rcases h2 with rfl|h2
 ·refine⟨rfl,hD,λi x hi=>?_⟩
  have nb:jT (β:=t.den) xs (off+i)=some x:=by
   simp only[jT] at hi⊢;rw[zd5] at hi;split at hi
   ·rwa [zd6] at hi
   ·cases hi
  have:=hx (off+i) x nb;have e2:(λj=>aX w (Addr.at_ a (off*t.size)) (i*t.size+j))=λj=>aX w a ((off+i)*t.size+j):=by
   funext j
   simp only[aX,Addr.at_];congr 2
   rw[zdT];omega
  rw[e2];exact this
 ·omega
theorem A9 {s:St}{id:Nat}{p:List Step}{sh:Sh}(h:s.shape id p=some sh){N:Names}{D:Nat->Prop}{w:World}{base:Nat}(S:jU N D w base s.h){nm:Nm}(hn:N id=some nm):nm.Lj p=some sh:=by
 unfold St.shape at h;split at h
 ·rename_i v ho
  obtain⟨mM,a,h1,h2,h3,h4,_⟩:=S.obj id _ ho;rw[hn] at h1;cases h1;unfold Nm.Lj;rw[h3,h4];exact h
 ·rename_i ro t xs ho
  obtain⟨mM,h1,h2,h3,_⟩:=S.obj id _ ho;rw[hn] at h1;cases h1;unfold Nm.Lj;rw[h2,h3];simp only[if_true];split at h
  ·exact h
  ·cases h
 ·cases h
theorem xJ {s:St}{id:Nat}{p:List Step}{sh:Sh}(hr:(p.isEmpty&&zI s id)=false)(h:s.shape id p=some sh){N:Names}{D:Nat->Prop}{w:World}{base:Nat}(S:jU N D w base s.h){nm:Nm}(hn:N id=some nm):(nm.row&&p.isEmpty)=false:=by
 unfold St.shape at h;split at h
 ·rename_i v ho
  obtain⟨mM,a,h1,h2,h3,h4,_⟩:=S.obj id _ ho;rw[hn] at h1;cases h1;rw[h3];rfl
 ·rename_i ro t xs ho
  have:zI s id=true:=by unfold zI;rw[ho]
  rw[this,Bool.and_true] at hr;rw[hr,zd7]
 ·cases h
theorem FL {α:Type}{s:St}{t:Ty}{v:AV}{k:List t.den->List Nat->Option α}{r:α}(h:qm s t v k=some r):
  ∃xs ids,k xs ids=some r/\∀N D w base,jU N D w base s.h->∀c,ck N D w v c->N3 (λD' w=>iw N D' w (.deep t) xs (λ_=>some c)) N D w ids:=by
 unfold qm at h;split at h
 ·rename_i t' zs
  split at h
  ·rename_i ys hc
   obtain⟨rfl,rfl⟩:=iV hc;exact⟨_,_,h,λN D w base S c hv D' hD _=>kt (Names.le_refl _) hD (λ_ _=>rfl) _ _ _ (uL.1 hv)⟩
  ·cases h
 ·refine⟨_,_,h,λN D w base S c hv D' hD _=>?_⟩
  rw[dY.1 hv];exact⟨none,0,rfl,by simp[aQ],λ_=>rfl,(by intro ad ha;cases ha)⟩
 ·rename_i id off
  split at h
  ·rename_i ro t' xs ho
   split at h
   ·rename_i ys hc
    obtain⟨rfl,rfl⟩:=iV hc;refine⟨_,_,h,λN D w base S c hv D' hD hF=>?_⟩;simp only[ck,AV.isAgg,jv,ar] at hv;obtain⟨nm,h1,h2,h3,h4,h5⟩:=hv;obtain⟨mM,e1,e2,e3,e4,e5,e6⟩:=S.obj id _ ho;rw[h1] at e1;cases e1;cases hb:nm.base with
    |none=>
     rw[hb] at h5;obtain⟨h6,h7⟩:=h5;have HI:aQ (β:=t'.den) ys=0:=by omega
     have hxe:ys=[]:=zd8 HI;subst hxe;simp only[zdF] at h7;subst h7;exact⟨none,0,by simp[aQ],by simp[aQ],λ_=>rfl,(by intro ad ha;cases ha)⟩
    |some a=>
     rw[hb] at h5 e6;obtain⟨u,room,h6,h7,h8⟩:=h5;simp only[zdF] at h6;subst h6;obtain⟨_,_,_,yr⟩:=e6;rw[e3,iH] at h8;have:=xI (off:=off) (len:=nm.len-off) (hF id (by simp) nm a h1 hb) (λi x hi=>kt (Names.le_refl _) hD (λ_ _=>rfl) _ _ _ (yr i x hi)) h8 (by omega)
     rwa [zd9 (by simp only[aQ] at e4;simp;omega)] at this
   ·cases h
  ·cases h
 ·rename_i id p off len
  split at h
  ·rename_i mN
   simp only[zdH,zea] at mN;obtain⟨rfl,mN⟩:=mN;split at h;rotate_left
   ·cases h
   rename_i ro t' xs ho;split at h
   ·rename_i ys hc
    obtain⟨rfl,rfl⟩:=iV hc;refine⟨_,_,h,λN D w base S c hv D' hD hF=>?_⟩;simp only[ck,AV.isAgg,jv,ar] at hv;obtain⟨nm,h1,hv⟩:=hv;obtain⟨mM,e1,e2,e3,e4,e5,e6⟩:=S.obj id _ ho;rw[h1] at e1;cases e1;cases h2:nm.base with
    |none=>
     rw[h2] at hv;obtain⟨_,rfl,rfl,_,h7⟩:=hv;simp only[zdF] at h7;subst h7;exact⟨none,0,by simp[aQ],by simp[aQ],λ_=>rfl,(by intro ad ha;cases ha)⟩
    |some a=>
    rw[h2] at hv;simp only at hv;rw[if_pos (by simp[e2])] at hv
    obtain⟨h4,h5,u,room,h6,h7,h8,h9⟩:=hv;rw[h2] at e6;simp only[zdF] at h6;subst h6;obtain⟨_,_,_,yr⟩:=e6;rw[e3,iH] at h9;exact xI (off:=off) (len:=len) (hF id (by simp) nm a h1 h2) (λi x hi=>kt (Names.le_refl _) hD (λ_ _=>rfl) _ _ _ (yr i x hi)) h9 (by omega)
   ·cases h
  ·rename_i mN
   obtain⟨u,h,yI,qQ⟩:=pF h;split at h;rotate_left
   ·cases h
   rename_i n t' xs;split at h;rotate_left
   ·cases h
   rename_i ys hc;obtain⟨rfl,rfl⟩:=iV hc;refine⟨_,_,h,λN D w base S c hv D' hD hF=>?_⟩;simp only[ck,AV.isAgg,jv,ar] at hv;obtain⟨nm,h1,hv⟩:=hv;have Ll:=xJ mN yI S h1;cases h2:nm.base with
   |none=>
    rw[h2] at hv;obtain⟨h3,_⟩:=hv;rw[Ll] at h3;cases h3
   |some a=>
    rw[h2] at hv;simp only at hv;rw[if_neg (by rw[Ll];simp)] at hv
    obtain⟨o,n',e,u,room,h3,h4,h5,h6,h7,h8⟩:=hv;simp only[zdF] at h6;subst h6;obtain⟨g1,g2,_⟩:=qQ N D w base S nm a o h1 h2 h3;simp only[ar,iw] at g2;have Ln:=A9 yI S h1;rw[h4] at Ln;simp only[AV.sh,zdF,Sh.arr.injEq] at Ln;obtain⟨rfl,rfl⟩:=Ln;have hlen:aQ (β:=t'.den) ys=n':=g2.1;refine xI (a:=Addr.at_ a o) (off:=off) (len:=len) (room:=room) (by simpa [Addr.at_] using hF id (by simp) nm a h1 h2) (λi x hi=>?_) (by rw[iH] at h8;simpa [Addr.at_,zdU] using h8) (by omega)
    refine jh _ _ _ _ (λj _=>?_) (kt (Names.le_refl _) hD (λ_ _=>rfl) _ _ _ (g2.2 i x hi));simp only[aX,Addr.at_,zdU]
 ·cases h
theorem lq.left {N:Names}{D':Nat->Prop}{i j:List Nat}(h:lq N D' (i++j)):lq N D' i:=λid pQ=>h id (by simp[pQ])
theorem lq.right {N:Names}{D':Nat->Prop}{i j:List Nat}(h:lq N D' (i++j)):lq N D' j:=λid pQ=>h id (by simp[pQ])
theorem zR {α:Type}{s:St}{t:Ty}{v:AV}{k:List t.den->List Nat->Option α}{r:α}(h:qm s t v k=some r):v.isAgg=false/\v.size=1/\v≠ .undef:=by
 cases v<;>first
  |(refine⟨rfl,by simp[AV.size],?_⟩;intro h0;cases h0;done)
  |(unfold qm at h;simp at h;done)
theorem PB {N:Names}{tag n c:Nat}{v:Option Value}(h:xF N tag n c v): ∃c,v=some c:=by
 obtain⟨c,h,_⟩:=A8 h;exact⟨c,h⟩
theorem LP {N:Names}{D:Nat->Prop}{w:World}{v:AV}{g:Nat->Option Value}(h1:v.isAgg=false)(h2:v≠ .undef)(h:ar N D w v g): ∃c,g 0=some c:=by
 cases v<;>simp only[ar] at h<;>first
  |exact absurd rfl h2
  |exact PB h
  |exact⟨_,h⟩
  |(obtain⟨_,_,_,_,_,_,h⟩:=h;exact⟨_,h⟩)
  |(obtain⟨a,cap,e,_⟩:=h;exact⟨_,e⟩)
  |(obtain⟨_,e,_⟩:=h;exact⟨_,e⟩)
  |(obtain⟨_,e⟩:=h;exact⟨_,e⟩)
  |(obtain⟨_,_,_,_,_,e⟩:=h;exact⟨_,e⟩)
  |(simp[AV.isAgg] at h1;done)
  |skip
 ·obtain⟨nm,_,_,_,_,h⟩:=h
  cases hb:nm.base with
  |none=>rw[hb] at h;exact⟨_,h.2⟩
  |some a=>rw[hb] at h;obtain⟨u,room,e,_⟩:=h;exact⟨_,e⟩
 ·obtain⟨nm,_,h⟩:=h
  cases hb:nm.base with
  |none=>rw[hb] at h;obtain⟨_,_,_,_,h⟩:=h;exact⟨_,h⟩
  |some a=>
  rw[hb] at h;simp only at h;split at h
  ·obtain⟨_,_,u,room,e,_⟩:=h;exact⟨_,e⟩
  ·obtain⟨_,_,_,u,room,_,_,_,e,_⟩:=h;exact⟨_,e⟩
theorem LQ {α:Type}{s:St}{t:Ty}{v:AV}{k:List t.den->List Nat->Option α}{r:α}(h:qm s t v k=some r):v.size=Ty.size (.deep t)/\∃x ids,k x ids=some r/\∀N D w base,jU N D w base s.h->∀g,ar N D w v g->N3 (λD' w=>iw N D' w (.deep t) x g) N D w ids:=by
 have hna:=zR h;obtain⟨xs,ids,h1,h2⟩:=FL h;refine⟨by rw[hna.2.1];simp[Ty.size],xs,ids,h1,λN D w base S g hv D' hD hF=>?_⟩
 obtain⟨c,hc⟩:=LP hna.1 hna.2.2 hv;have hv':ck N D w v c:=by
  unfold ck;rw[hna.1];refine jN v _ _ (λj hj=>?_) hv;rw[hna.2.1] at hj;obtain rfl:j=0:=by omega
  exact hc
 exact jh _ _ _ _ (λj hj=>by simp only[Ty.size] at hj;have hj0:j=0:=(by omega);subst hj0;exact hc.symm) (h2 N D w base S c hv' D' hD hF)
theorem DL {α:Type}{s:St}{t:Ty}(IH: ∀(v:AV) (k:t.den->List Nat->Option α) (r:α),qP s t v k=some r->v.size=t.size/\∃x ids,k x ids=some r/\∀N D w base,jU N D w base s.h->∀g,ar N D w v g->N3 (λD' w=>iw N D' w t x g) N D w ids):
  ∀(vs:List AV) (k:List t.den->List Nat->Option α) (r:α),Vd (qP s t) vs k=some r->∃(xs:List t.den) (ids:List Nat),k xs ids=some r/\xs.length=vs.length/\
   ∀N D w base,jU N D w base s.h->∀D':Nat->Prop,(∀b,D b->D' b)->lq N D' ids->∀g,fg N D w vs g->∀i (x:t.den),jT (β:=t.den) xs i=some x->iw N D' w t x (λj=>g (i*t.size+j))
 | [],k,r,h=>⟨[],[],h,rfl,λN D w base S D' _ _ g _ i x hx=>by simp[jT] at hx⟩
 |v::vs,k,r,h=>by
  unfold Vd at h;obtain⟨hsz,x,ids,h1,h2⟩:=IH v _ r h;obtain⟨xs,Yw,h3,h4,h5⟩:=DL IH vs _ r h1;refine⟨x::xs,ids++Yw,h3,by simp[h4],λN D w base S D' hD hF g hg i y hy=>?_⟩
  simp only[fg] at hg;cases i with
  |zero=>
   simp only[jT,zeb,zdF] at hy;subst hy;exact jh _ _ _ _ (λj _=>by simp) (h2 N D w base S g hg.1 D' hD (λq hq=>hF q (List.mem_append.2 (.inl hq))))
  |succ i=>
   refine jh _ _ _ _ (λj _=>congrArg g (by rw[hsz,zdT];omega)) (h5 N D w base S D' hD (λq hq=>hF q (List.mem_append.2 (.inr hq))) _ hg.2 i y (by simpa [jT] using hy))
theorem mO {α:Type}{s:St}: ∀(t:Ty) (v:AV) (k:t.den->List Nat->Option α) (r:α),qP s t v k=some r->
  v.size=t.size/\∃x ids,k x ids=some r/\∀N D w base,jU N D w base s.h->∀g,ar N D w v g->N3 (λD' w=>iw N D' w t x g) N D w ids
 | .int k',v,k,r,h=>by
  unfold qP at h;split at h
  ·split at h
   ·rename_i k'' n e;subst e
    exact⟨by simp[AV.size,Ty.size],_,_,h,λN D w base S g hv D' hD _=>by simp only[ar] at hv;exact hv⟩
   ·cases h
  ·cases h
 | .bool,v,k,r,h=>by
  unfold qP at h;split at h
  ·exact⟨by simp[AV.size,Ty.size],_,_,h,λN D w base S g hv D' hD _=>by simp only[ar] at hv;exact hv⟩
  ·cases h
 | .str,v,k,r,h=>by
  unfold qP at h;split at h
  ·exact⟨by simp[AV.size,Ty.size],_,_,h,λN D w base S g hv D' hD _=>by simp only[ar] at hv;exact hv⟩
  ·cases h
 | .nil,v,k,r,h=>by
  unfold qP at h;split at h
  ·exact⟨by simp[AV.size,AV.dR,Ty.size],_,_,h,λN D w base S g hv D' hD _=>trivial⟩
  ·cases h
 | .cons a b,v,k,r,h=>by
  unfold qP at h;split at h
  ·rename_i x l
   obtain⟨hsz,p,i,h1,h2⟩:=mO a x _ r h;obtain⟨wu,q,j,h3,h4⟩:=mO b (.agg l) _ r h1;refine⟨by simp only[AV.size,AV.dR,Ty.size] at*;omega,_,_,h3,λN D w base S g hv D' hD hF=>?_⟩
   simp only[ar,fg] at hv;have hp:=h2 N D w base S g hv.1 D' hD hF.left;refine⟨hp,?_⟩;have:=h4 N D w base S (λj=>g (x.size+j)) (by simp only[ar];exact hv.2) D' hD hF.right
   rwa [hsz] at this
  ·cases h
 | .arr n t,v,k,r,h=>by
  unfold qP at h;split at h
  ·rename_i n' t' xs
   split at h
   ·rename_i e;subst e
    split at h
    ·rename_i ys hc
     obtain⟨rfl,rfl⟩:=iV hc;exact⟨by simp[AV.size,Ty.size],_,_,h,λN D w base S g hv D' hD _=>by simp only[ar] at hv;exact kt (Names.le_refl _) hD (λ_ _=>rfl) _ _ _ hv⟩
    ·cases h
   ·cases h
  ·cases h
 | .deep t,v,k,r,h=>by
  unfold qP Ly at h;split at h;rotate_left
  ·exact LQ h
  rename_i id n;split at h;rotate_left
  ·cases h
  rename_i vs ho;split at h;rotate_left
  ·cases h
  rename_i hn;simp only[zdN] at hn;obtain⟨xs,ids,h1,h2,h3⟩:=DL (λv k r hv=>mO t v k r hv) vs _ r h;refine⟨by simp[AV.size,Ty.size],xs,id::ids,h1,λN D w base S g hv D' hD hF=>?_⟩
  simp only[ar] at hv;obtain⟨nm,a,e1,e2,e3,e4⟩:=hv;obtain⟨mM,a',f1,f2,f3,f4,f5,f6,_,_,_,f7⟩:=S.obj id _ ho;rw[e1] at f1;cases f1;rw[e2] at f2;cases f2;simp only[ar] at f7;have hlen:aQ (β:=t.den) xs=n:=by rw[<-hn];exact h2
  refine⟨some a,n,by rw[hlen];exact e4,by rw[hlen];exact zdV _,(by intro h;cases h),λad FK lF=>?_⟩
  cases FK;exact⟨f5,hF id (by simp) nm a e1 e2,h3 N D w base S D' hD (λq hq=>hF q (zdL _ hq)) _ f7⟩
 | .ref g,v,k,r,h=>by
  unfold qP at h;split at h
  ·split at h
   ·rename_i e;subst e
    exact⟨by simp[AV.size,Ty.size],_,_,h,λN D w base S g hv D' hD _=>by simp only[ar] at hv;exact hv⟩
   ·cases h
  ·exact⟨by simp[AV.size,Ty.size],_,_,h,λN D w base S g hv D' hD _=>by simp only[ar] at hv;exact hv⟩
  ·cases h
end AM
namespace AM
open Go
mutual
theorem wv: ∀(v u:AV),v.lh u=true->v.sh=u.sh
 | .agg fs,u,h=>by
  cases u<;>simp only[AV.lh] at h<;>first|(cases h;done)|skip
  simp only[AV.sh];rw[zS _ _ h]
 | .arr n t xs,u,h=>by
  cases u<;>simp only[AV.lh] at h<;>first|(cases h;done)|skip
  simp only[zdH,zdN] at h;simp only[AV.sh,h.1,h.2]
 | .undef,u,h=>by cases u<;>simp[AV.lh] at h
 | .AY _,u,h=>by cases u<;>simp[AV.lh] at h
 | .val _,u,h=>by cases u<;>simp[AV.lh] at h<;>simp[AV.sh]
 | .ptr _ _,u,h=>by cases u<;>simp[AV.lh] at h<;>simp[AV.sh]
 | .tail _ _,u,h=>by cases u<;>simp[AV.lh] at h<;>simp[AV.sh]
 | .slice _ _ _ _,u,h=>by cases u<;>simp[AV.lh] at h<;>simp[AV.sh]
 | .dp _ _,u,h=>by cases u<;>simp[AV.lh] at h<;>simp[AV.sh]
 | .tS _,u,h=>by cases u<;>simp[AV.lh] at h<;>simp[AV.sh]
 | .xh _ _,u,h=>by cases u<;>simp[AV.lh] at h<;>simp[AV.sh]
 | .xy,u,h=>by cases u<;>simp[AV.lh] at h<;>simp[AV.sh]
 | .Rk _ _ _ _,u,h=>by cases u<;>simp[AV.lh] at h<;>simp[AV.sh]
 | .AW _ _,u,h=>by cases u<;>simp[AV.lh] at h<;>simp[AV.sh]
 | .ux _ _,u,h=>by cases u<;>simp[AV.lh] at h<;>simp[AV.sh]
 | .rf _ _ _,u,h=>by cases u<;>simp[AV.lh] at h<;>simp[AV.sh]
theorem zS: ∀(l m:List AV),AV.vn l m=true->AV.yU l=AV.yU m
 | [],m,h=>by cases m<;>simp[AV.vn] at h<;>simp[AV.yU]
 |x::xs,m,h=>by
  cases m with
  |nil=>simp[AV.vn] at h
  |cons y ys=>
   simp only[AV.vn,zdH] at h;simp only[AV.yU,wv _ _ h.1,zS _ _ h.2]
end
theorem N4: ∀(l:List AV) (n:Nat) (v v':AV),l[n]?=some v->v'.sh=v.sh->AV.yU (l.set n v')=AV.yU l
 | [],_,_,_,h,_=>by simp at h
 |x::xs,0,v,v',h,e=>by simp at h;subst h;simp[AV.yU,e]
 |x::xs,n+1,v,v',h,e=>by simp[AV.yU,N4 xs n v v' (by simpa using h) e]
theorem zj {N:Names}{D:Nat->Prop}{w:World}: ∀(l:List AV) (n:Nat) (v v':AV) (g g':Nat->Option Value),l[n]?=some v->v'.size=v.size->fg N D w l g->
  (∀j,(j<AV.dR (l.take n)\/AV.dR (l.take n)+v.size<=j)->g' j=g j)->ar N D w v' (λj=>g' (AV.dR (l.take n)+j))->fg N D w (l.set n v') g'
 | [],_,_,_,_,_,h,_,_,_,_=>by simp at h
 |x::xs,0,v,v',g,g',h,e,hr,hg,hv=>by
  simp at h;subst h;simp only[List.set,fg] at*;refine⟨mF hv (λj=>by simp[AV.dR]),?_⟩
  refine wj xs _ _ (λj _=>?_) hr.2;rw[hg _ (.inr (by simp[AV.dR];omega)),e]
 |x::xs,n+1,v,v',g,g',h,e,hr,hg,hv=>by
  simp only[List.set,fg] at*;refine⟨jN x _ _ (λj hj=>(hg j (.inl (by simp[AV.dR];omega))).symm) hr.1,?_⟩
  refine zj xs n v v' (λj=>g (x.size+j)) (λj=>g' (x.size+j)) (by simpa using h) e hr.2 (λj hj=>hg _ ?_) (mF hv (λj=>by simp[AV.dR,zdU]))
  simp only[List.take_succ_cons,AV.dR];omega
theorem BW: ∀(l:List Sh) (n:Nat) (v:Sh),l[n]?=some v->Sh.dR (l.take n)+v.size<=Sh.dR l
 | [],n,v,h=>by simp at h
 |z::zs,0,v,h=>by simp at h;subst h;simp[Sh.dR]
 |z::zs,n+1,v,h=>by have:=BW zs n v (by simpa using h);simp[Sh.dR];omega
theorem zU: ∀(p:List Step) (sh:Sh) (o:Nat) (t:Sh),fE p sh=some o->zJ p sh=some t->o+t.size<=sh.size:=by
 intro p;induction p with
 |nil=>intro sh o t h1 h2;simp only[fE,zJ,zdF] at h1 h2;subst h1;subst h2;omega
 |cons st p ih=>
  intro sh o t h1 h2;cases st with
  |im n=>
   cases sh<;>simp only[fE,zJ] at h1 h2<;>try (cases h1;done)
   rename_i l;cases hl:l[n]? with
   |none=>simp[hl] at h1
   |some y=>
    simp only[hl] at h1 h2;cases h5:fE p y with
    |none=>simp[h5] at h1
    |some o2=>
     simp only[h5,zdO,zdF] at h1;have:=ih y o2 t h5 h2;have:=BW l n y hl;simp only[Sh.size];omega
  |idx i=>
   cases sh<;>simp only[fE,zJ] at h1 h2<;>try (cases h1;done)
   rename_i n e;by_cases hi:i<n
   ·simp only[hi,if_true] at h1
    cases h5:fE p e with
    |none=>simp[h5] at h1
    |some o2=>
     simp only[h5,zdO,zdF] at h1;have:=ih e o2 t h5 h2;have h6:(i+1)*e.size<=n*e.size:=zdS _ hi;rw[zdT] at h6;simp only[Sh.size];omega
   ·simp only[hi,if_false] at h1;cases h1
theorem wx {α:Type}{s:St}: ∀(p:List Step) (u v:AV) (k:AV->Option α) (r:α),Ju s p u v k=some r->
  ∃v',k v'=some r/\v'.sh=v.sh/\zJ p v.sh=some u.sh/\∀N D w base,jU N D w base s.h->∀g g' o,ar N D w v g->fE p v.sh=some o->
   (∀j,(j<o\/o+u.size<=j)->g' j=g j)->ar N D w u (λj=>g' (o+j))->ar N D w v' g'
 | [],u,v,k,r,h=>by
  simp only[Ju] at h;cases hs:v.lh u with
  |false=>simp[hs] at h
  |true=>
   simp only[hs] at h;refine⟨u,h,(wv _ _ hs).symm,by rw[zJ,wv _ _ hs],λN D w base S g g' o hv ho hg hu=>?_⟩
   simp only[fE,zdF] at ho;subst ho;exact mF hu (λj=>by simp)
 | .im n::p,u,v,k,r,h=>by
  cases v<;>simp only[Ju] at h<;>try (cases h;done)
  rename_i fs;cases hv:fs[n]? with
  |none=>simp[hv] at h
  |some x=>
   simp only[hv] at h;obtain⟨v',h1,h2,h3,h4⟩:=wx p u x _ r h;have hsz:v'.size=x.size:=by rw[<-kN,<-kN,h2]
   refine⟨_,h1,by simp only[AV.sh,N4 fs n x v' hv h2],by simp only[AV.sh,zJ,zP,hv,zdO];exact h3,λN D w base S g g' o hr ho hg hu=>?_⟩
   simp only[AV.sh,fE,zP,hv,zdO] at ho;cases mX:fE p x.sh with
   |none=>simp[mX] at ho
   |some o'=>
    simp only[mX,zdO,zdF] at ho;rw[<-DJ,zO] at ho;subst ho;simp only[ar] at hr⊢;have hx:=qE fs n x g hv hr;have xk:o'+u.size<=x.size:=by
     have:=zU p x.sh o' u.sh mX h3;rwa [kN,kN] at this
    have:=h4 N D w base S _ (λj=>g' (AV.dR (fs.take n)+j)) o' hx mX (λj hj=>hg _ (by omega)) (mF hu (λj=>by rw[zdU]))
    exact zj fs n x v' g g' hv hsz hr (λj hj=>hg j (by omega)) this
 | .idx i::p,u,v,k,r,h=>by
  cases v<;>simp only[Ju] at h<;>try (cases h;done)
  rename_i n t xs;cases hv:(show List t.den from xs)[i]? with
  |none=>simp[hv] at h
  |some x=>
   simp only[hv] at h;obtain⟨v',h1,h2,h3,h4⟩:=wx p u (enc t x) _ r h;obtain⟨_,x',ids,h5,h6⟩:=mO t v' _ r h1;cases ids with
   |cons _ _=>simp at h5
   |nil=>
    simp only at h5;refine⟨_,h5,by simp only[AV.sh],by simp only[AV.sh,zJ];rw[<-rP t x];exact h3,λN D w base S g g' o hr ho hg hu=>?_⟩
    simp only[AV.sh,fE] at ho;by_cases hi:i<n
    ·simp only[hi,if_true] at ho
     cases mX:fE p (sw t) with
     |none=>simp[mX] at ho
     |some o'=>
      simp only[mX,zdO,zdF,iH] at ho;subst ho;simp only[ar,iw] at hr⊢;have hx:=(kH (N:=N) t x _).2 (hr.2 i x hv);have xk:o'+u.size<=t.size:=by
       have:=zU p (sw t) o' u.sh mX (by rw[<-rP t x];exact h3)
       rwa [kN,iH] at this
      have:=h4 N D w base S _ (λj=>g' (i*t.size+j)) o' hx (by rw[rP];exact mX) (λj hj=>hg _ (by omega)) (mF hu (λj=>by rw[zdU]))
      have BX:=h6 N D w base S _ this D (λ_ h=>h) (by intro id pQ;simp at pQ)
      refine⟨by simp only[aQ,zec];exact hr.1,λi' y hy=>?_⟩
      by_cases UP:i=i'
      ·subst UP
       have kQ:i<(show List t.den from xs).length:=(List.getElem?_eq_some_iff.1 hv).1
       simp only[jT,zed kQ,zdF] at hy;subst hy;exact BX
      ·simp only[jT,zee UP] at hy
       refine jh t y _ _ (λj hj=>?_) (hr.2 i' y hy);refine(hg _ ?_).symm;rcases Nat.lt_or_gt_of_ne UP with kQ|kQ
       ·right
        have:(i+1)*t.size<=i'*t.size:=zdS _ kQ;rw[zdT] at this;omega
       ·left
        have:(i'+1)*t.size<=i*t.size:=zdS _ kQ;rw[zdT] at this;omega
    ·simp only[hi,if_false] at ho;cases ho
end AM
namespace AM
open Go
theorem tf.congr {N N':Names}{D D':Nat->Prop}{w w':World}{base:Nat}{id:Nat}{v:AV}(h:tf N D w base id v)(hN:N.le N')(hD: ∀b,D b->D' b)(hw: ∀b,D b->w'.heap[b]?=w.heap[b]?)
  (hb: ∀b,oh N id b->w'.heap[b]?=w.heap[b]?/\(¬D b->¬D' b)):tf N' D' w' base id v:=by
 obtain⟨nm,a,h1,h2,h3,h4,h5,h6,h7,h8,⟨c,ty,h9,Gq⟩,N5⟩:=h;obtain⟨e1,e2⟩:=hb _ ⟨nm,a,h1,h2,rfl⟩;refine⟨nm,a,hN _ _ h1,h2,h3,h4,h5,h6,h7,e2 h8,⟨c,ty,by rw[e1];exact h9,Gq⟩,?_⟩
 refine mF (qv hN hD hw v _ N5) (λj=>?_);simp only[aX,World.cell?,e1]
theorem nG.congr {N N':Names}{D D':Nat->Prop}{w w':World}{base:Nat}{id:Nat}{ro:Bool}{t:Ty}{xs:List t.den}(h:nG N D w base id ro t xs)(hN:N.le N')(hD: ∀b,D b->D' b)(hw: ∀b,D b->w'.heap[b]?=w.heap[b]?)
  (hb:ro=false->∀b,oh N id b->w'.heap[b]?=w.heap[b]?/\(¬D b->¬D' b)):nG N' D' w' base id ro t xs:=by
 obtain⟨nm,h1,h2,h3,h4,h5,h6⟩:=h;refine⟨nm,hN _ _ h1,h2,h3,h4,h5,?_⟩;cases pR:nm.base with
 |none=>rw[pR] at h6;exact h6
 |some a=>
  rw[pR] at h6;obtain⟨h7,⟨c,ty,fz,h8,h9⟩,Gq,N5⟩:=h6;have e1:w'.heap[a.block]?=w.heap[a.block]?:=by
   cases ro with
   |true=>simp only[if_true] at Gq;exact hw _ Gq
   |false=>exact(hb rfl _ ⟨nm,a,h1,pR,rfl⟩).1
  refine⟨h7,⟨c,ty,fz,by rw[e1];exact h8,h9⟩,?_,λi x hx=>?_⟩
  ·cases ro with
   |true=>simp only[if_true] at Gq⊢;exact hD _ Gq
   |false=>simp at Gq⊢;exact⟨Gq.1,(hb rfl _ ⟨nm,a,h1,pR,rfl⟩).2 Gq.2⟩
  ·have:=kt hN hD hw t x _ (N5 i x hx)
   have e:(λj=>aX w' a (i*t.size+j))=λj=>aX w a (i*t.size+j):=by
    funext j;simp only[aX,World.cell?,e1]
   rw[e];exact this
mutual
theorem jc.congr {D D':Nat->Prop}{w w':World}{base:Nat}(hD: ∀b,D b->D' b)(hw: ∀b,D b->w'.heap[b]?=w.heap[b]?): ∀{N:Names} {c:Nat} {p:aK} {d:p.den},jc D w base N c p d->
  (∀b,pW N c p d b->w'.heap[b]?=w.heap[b]?/\(¬D b->¬D' b))->jc D' w' base N c p d
 |_,_, .var _,_,h,hb=>by
  simp only[jc,pW] at*;exact h.congr (Names.le_refl _) hD hw hb
 |_,_, .row _,_,h,hb=>by
  simp only[jc,pW] at*;exact h.congr (Names.le_refl _) hD hw λ_=>hb
 |N,c, .store ep,xs,h,hb=>by
  simp only[jc] at*;refine⟨h.1,λk d hk=>⟨kK.congr hD hw (h.2.1 k d hk).1 λb ho=>hb b ?_,(h.2.1 k d hk).2⟩,h.2.2.1,h.2.2.2⟩;simp only[pW];exact⟨k,d,hk,ho⟩
theorem kK.congr {D D':Nat->Prop}{w w':World}{base:Nat}(hD: ∀b,D b->D' b)(hw: ∀b,D b->w'.heap[b]?=w.heap[b]?): ∀{N:Names} {l:List (Nat×aK)} {d:cM l},kK D w base N l d->
  (∀b,pE N l d b->w'.heap[b]?=w.heap[b]?/\(¬D b->¬D' b))->kK D' w' base N l d
 |_,[],_,_,_=>by simp only[kK]
 |N,(c,p)::os,d,h,hb=>by
  simp only[kK,pE] at*;exact⟨jc.congr hD hw h.1 λb ho=>hb b (.inl ho),kK.congr hD hw h.2.1 λb ho=>hb b (.inr ho),h.2.2⟩
end
mutual
theorem jc.uM {D:Nat->Prop}{w:World}{base:Nat}{N N':Names}{c:Nat}{ep:List (Nat×aK)}{xs:List (cM ep)}(h:jc D w base N c (.store ep) xs)(e: ∀k,N'.sub (c-SB) k=N.sub (c-SB) k):jc D w base N' c (.store ep) xs:=by
 simp only[jc,e] at*;exact h
end
theorem pW.uM {N N':Names}{c:Nat}{ep:List (Nat×aK)}{xs:List (cM ep)}{b:Nat}(e: ∀k,N'.sub (c-SB) k=N.sub (c-SB) k):pW N' c (.store ep) xs b↔pW N c (.store ep) xs b:=by
 simp only[pW,e]
theorem nQ {N N':Names}{D D':Nat->Prop}{w w':World}{base:Nat}{id:Nat}{o:fK}(h:qF N D w base id o)(hN:N.le N')(hD: ∀b,D b->D' b)(hw: ∀b,D b->w'.heap[b]?=w.heap[b]?)
  (hb: ∀b,iP N id o b->w'.heap[b]?=w.heap[b]?/\(¬D b->¬D' b)) (hs: ∀ep xs,o= .store ep xs->∀k,N'.sub (id-SB) k=N.sub (id-SB) k):qF N' D' w' base id o:=by
 cases o with
 |dead=>trivial
 |void=>trivial
 |store ep xs=>exact(jc.congr hD hw (show jc D w base N id (.store ep) xs from h) hb).uM (hs ep xs rfl)
 |var v=>exact tf.congr h hN hD hw hb
 |row ro t xs=>exact nG.congr h hN hD hw λe=>by subst e;exact hb
def kf (h:Nat->Option fK)(id:Nat)(o:fK):Nat->Option fK:=λx=>if x=id then some o else h x
theorem St.th (s:St)(id:Nat)(o:fK):(s.set id o).h=kf s.h id o:=rfl
theorem vu {h:Nat->Option fK}{id i:Nat}{o:fK}(e:kf h id o i=none):h i=none:=by
 unfold kf at e;split at e
 ·cases e
 ·exact e
theorem oh.eq {N N':Names}{i b:Nat}(h:N' i=N i):oh N' i b↔oh N i b:=by unfold oh;rw[h]
theorem iP.names {N N':Names}{i:Nat}{o:fK}{b:Nat}(h1:N' i=N i)(h2: ∀k,N'.sub (i-SB) k=N.sub (i-SB) k):iP N' i o b↔iP N i o b:=by
 cases o with
 |dead=>exact Iff.rfl
 |void=>exact Iff.rfl
 |var v=>exact oh.eq h1
 |row ro t xs=>
  cases ro with
  |true=>exact Iff.rfl
  |false=>exact oh.eq h1
 |store ep xs=>exact pW.uM h2
theorem iP.at_ {N:Names}{i:Nat}{o:fK}{nm:Nm}{a:Addr}{b:Nat}(hr:o.rw=true)(hn:N i=some nm)(hb:nm.base=some a)(h:iP N i o b):b=a.block:=by
 have key:oh N i b->b=a.block:=by
  rintro⟨mM,a',h1,h2,rfl⟩
  rw[hn] at h1;cases h1;rw[hb] at h2;cases h2;rfl
 cases o with
 |dead=>exact h.elim
 |void=>exact h.elim
 |var v=>exact key h
 |row ro t xs=>cases ro<;>first|exact key h|exact h.elim
 |store ep xs=>cases hr
theorem jU.write {N:Names}{D:Nat->Prop}{w w':World}{base:Nat}{h:Nat->Option fK}(S:jU N D w base h){id:Nat}{o o':fK}{nm:Nm}{a:Addr}(ho:h id=some o)(FA:o.rw=true)(hn:N id=some nm)(hb:nm.base=some a)
  (RR:w'.os=w.os) (JD:w'.tape=w.tape) (jr:w'.output=w.output) (xK:w'.heap.size=w.heap.size) (mP: ∀b,b≠a.block->w'.heap[b]?=w.heap[b]?) (nf:qF N D w' base id o') (UQ:o'.rw=true:=by rfl):
  jU N D w' base (kf h id o')/\Ext N D w h N D w' (kf h id o'):=by
 have tq:iP N id o a.block:=iP.of FA hn hb;have zaG:zi N h a.block:=⟨id,o,ho,tq⟩;have hnd:=(S.tW zaG).1;have hD: ∀b,D b->w'.heap[b]?=w.heap[b]?:=λb vl=>mP b (λe=>hnd (e▸vl));have key: ∀i oi b,kf h id o' i=some oi->iP N i oi b->∃o2,h i=some o2/\iP N i o2 b:=by
  intro i oi b hi ri;by_cases e:i=id
  ·subst e
   simp[kf] at hi;subst hi;rw[iP.at_ UQ hn hb ri];exact⟨o,ho,tq⟩
  ·simp only[kf,if_neg e] at hi;exact⟨oi,hi,ri⟩
 have N6: ∀x,kf h id o' x≠h x->∃o2,kf h id o' x=some o2/\o2.rw=true/\∃o3,h x=some o3/\o3.rw=true:=by
  intro x hx;by_cases e:x=id
  ·subst e;exact⟨o',by simp[kf],UQ,o,ho,FA⟩
  ·simp[kf,e] at hx
 constructor
 ·refine⟨λRm o'' h'=>?_,?_,λb vl=>by rw[xK];exact S.frozen b vl,λRm mM PC=>?_,by rw[xK];exact S.size,λg hg=>?_⟩
  ·by_cases e:Rm=id
   ·subst e;simp[kf] at h';subst h';exact nf
   ·simp only[kf,if_neg e] at h'
    refine nQ (S.obj Rm o'' h') (Names.le_refl N) (λ_ h=>h) hD (λb hO=>⟨mP _ (λeb=>e ?_),λh=>h⟩) (λ_ _ _ _=>rfl);exact S.apart Rm id o'' o b h' ho hO (eb▸tq)
  ·intro i j oi oj b hi hj ri rj
   obtain⟨o1,h1,r1⟩:=key i oi b hi ri;obtain⟨o2,h2,r2⟩:=key j oj b hj rj;exact S.apart i j o1 o2 b h1 h2 r1 r2
  ·by_cases e:Rm=id
   ·simp[kf,e]
   ·simp only[kf,if_neg e];exact S.named Rm mM PC
  ·by_cases e:SB+g=id
   ·simp only[kf,if_pos e] at hg
    cases o'<;>simp[AM.iG] at hg
    cases UQ
   ·simp only[kf,if_neg e] at hg;exact S.iG g hg
 ·refine⟨Names.le_refl N,λ_ h=>h,RR,JD,jr,by rw[xK];exact zdV _,λb _ wy=>mP b (λe=>wy (e▸zaG)),λb _ hO=>?_,λ_ h=> .inl h,λ_ _ h=> .inl h,λ_ h=>vu h,λg hg=>⟨?_,λ_=>rfl⟩⟩
  ·obtain⟨i,oi,hi,ri⟩:=hO
   obtain⟨o2,h2,r2⟩:=key i oi b hi ri;exact⟨i,o2,h2,r2⟩
  ·by_cases e:SB+g=id
   ·subst e;rw[ho] at hg;cases hg;cases FA
   ·simp only[kf,if_neg e];exact hg
theorem jU.kill {N:Names}{D:Nat->Prop}{w:World}{base:Nat}{h:Nat->Option fK}(S:jU N D w base h)(id:Nat):jU N D w base (kf h id .dead)/\Ext N D w h N D w (kf h id .dead):=by
 have key: ∀i oi b,kf h id .dead i=some oi->iP N i oi b->h i=some oi:=by
  intro i oi b hi ri;by_cases e:i=id
  ·subst e;simp[kf] at hi;subst hi;exact ri.elim
  ·simpa only[kf,if_neg e] using hi
 constructor
 ·refine⟨λi o hi=>?_,?_,S.frozen,λi nm hn=>?_,S.size,λg hg=>?_⟩
  ·by_cases e:i=id
   ·subst e;simp[kf] at hi;subst hi;trivial
   ·simp only[kf,if_neg e] at hi;exact S.obj i o hi
  ·intro i j oi oj b hi hj ri rj
   exact S.apart i j oi oj b (key i oi b hi ri) (key j oj b hj rj) ri rj
  ·by_cases e:i=id
   ·simp[kf,e]
   ·simp only[kf,if_neg e];exact S.named i nm hn
  ·by_cases e:SB+g=id
   ·simp[kf,if_pos e,AM.iG] at hg
   ·simp only[kf,if_neg e] at hg;exact S.iG g hg
 ·refine⟨Names.le_refl N,λ_ h=>h,rfl,rfl,rfl,zdV _,λ_ _ _=>rfl,λb _ hO=>?_,λ_ h=> .inl h,λ_ _ h=> .inl h,λ_ h=>vu h,λg hg=>⟨?_,λ_=>rfl⟩⟩
  ·obtain⟨i,oi,hi,ri⟩:=hO
   exact⟨i,oi,key i oi b hi ri,ri⟩
  ·by_cases e:SB+g=id
   ·simp[kf,if_pos e]
   ·simp only[kf,if_neg e];exact hg
theorem jU.Vh {N:Names}{D:Nat->Prop}{w:World}{base:Nat}{h:Nat->Option fK}(S:jU N D w base h){id:Nat}{ro:Bool}{t:Ty}{xs:List t.den}(ho:h id=some (.row ro t xs)):
  ∃D':Nat->Prop,(∀b,D b->D' b)/\lq N D' [id]/\jU N D' w base (kf h id (.row true t xs))/\Ext N D w h N D' w (kf h id (.row true t xs)):=by
 have nf:=S.obj id _ ho;have key: ∀i oi b,kf h id (.row true t xs) i=some oi->iP N i oi b->i≠id/\h i=some oi:=by
  intro i oi b hi ri;by_cases e:i=id
  ·subst e;simp[kf] at hi;subst hi;exact ri.elim
  ·exact⟨e,by simpa only[kf,if_neg e] using hi⟩
 let D':Nat->Prop:=λb=>D b\/∃nm a,N id=some nm/\nm.base=some a/\a.block=b
 have kQ: ∀nm a,N id=some nm->nm.base=some a->a.block<w.heap.size:=by
  intro nm a hn hb;obtain⟨mM,h1,_,_,_,_,h6⟩:=nf;rw[hn] at h1;cases h1;rw[hb] at h6;obtain⟨_,⟨c,ty,fz,h8,_⟩,_⟩:=h6;exact(Array.getElem?_eq_some_iff.1 h8).1
 refine⟨D',λb h=> .inl h,?_,?_,?_⟩
 ·intro i hi nm a hn hb
  simp at hi;subst hi;exact .inr ⟨nm,a,hn,hb,rfl⟩
 ·refine⟨λi o hi=>?_,?_,?_,λi nm hn=>?_,S.size,λg hg=>?_⟩
  ·by_cases e:i=id
   ·subst e;simp[kf] at hi;subst hi
    obtain⟨nm,h1,h2,h3,h4,h5,h6⟩:=nf;refine⟨nm,h1,h2,h3,h4,h5,?_⟩;cases hb:nm.base with
    |none=>rw[hb] at h6;exact h6
    |some a=>
     rw[hb] at h6;obtain⟨h7,⟨c,ty,fz,h8,h9,_⟩,_,N5⟩:=h6;refine⟨h7,⟨c,ty,fz,h8,h9,by simp⟩,by simp only[if_true];exact .inr ⟨nm,a,h1,hb,rfl⟩,λi x hx=>kt (Names.le_refl _) (λb h=> .inl h) (λ_ _=>rfl) _ _ _ (N5 i x hx)⟩
   ·simp only[kf,if_neg e] at hi
    refine nQ (S.obj i o hi) (Names.le_refl N) (λb h=> .inl h) (λ_ _=>rfl) (λb hO=>⟨rfl,λhnd LL=>?_⟩) (λ_ _ _ _=>rfl);rcases LL with LL|⟨nm,a,hn,hb,LR⟩
    ·exact hnd LL
    ·cases ro with
     |true=>
      obtain⟨Xy,h1,_,_,_,_,h6⟩:=nf;rw[hn] at h1;cases h1;rw[hb] at h6;obtain⟨_,_,Gq,_⟩:=h6;simp only[if_true] at Gq;exact hnd (LR▸Gq)
     |false=>exact e (S.apart i id o _ b hi ho hO ⟨nm,a,hn,hb,LR⟩)
  ·intro i j oi oj b hi hj ri rj
   exact S.apart i j oi oj b (key i oi b hi ri).2 (key j oj b hj rj).2 ri rj
  ·rintro b (hb|⟨nm,a,hn,hb,rfl⟩)
   ·exact S.frozen b hb
   ·exact kQ nm a hn hb
  ·by_cases e:i=id
   ·simp[kf,e]
   ·simp only[kf,if_neg e];exact S.named i nm hn
  ·by_cases e:SB+g=id
   ·simp[kf,if_pos e,AM.iG] at hg
   ·simp only[kf,if_neg e] at hg;exact S.iG g hg
 ·refine⟨Names.le_refl N,λb h=> .inl h,rfl,rfl,rfl,zdV _,λ_ _ _=>rfl,λb _ hO=>?_,λb hb=>?_,λ_ _ h=> .inl h,λ_ h=>vu h,λg hg=>⟨?_,λ_=>rfl⟩⟩
  case refine_2=>
   rcases hb with hb|⟨nm,a,hn,hb,rfl⟩
   ·exact .inl hb
   ·cases ro with
    |true=>
     obtain⟨Xy,h1,_,_,_,_,h6⟩:=nf;rw[hn] at h1;cases h1;rw[hb] at h6;obtain⟨_,_,Gq,_⟩:=h6;exact .inl (by simpa using Gq)
    |false=>exact .inr (.inl ⟨id,_,ho,⟨nm,a,hn,hb,rfl⟩⟩)
  ·obtain⟨i,oi,hi,ri⟩:=hO
   exact⟨i,oi,(key i oi b hi ri).2,ri⟩
  ·by_cases e:SB+g=id
   ·subst e;rw[ho] at hg;cases hg
   ·simp only[kf,if_neg e];exact hg
theorem wA: ∀(ids:List Nat) (s s':St),s.freeze ids=some s'->s'.t=s.t/\s'.nt=s.nt/\s'.ep=s.ep/\∀N D w base,jU N D w base s.h->
  ∃D':Nat->Prop,(∀b,D b->D' b)/\lq N D' ids/\jU N D' w base s'.h/\Ext N D w s.h N D' w s'.h
 | [],s,s',h=>by
  simp only[St.freeze,zdF] at h;subst h;exact⟨rfl,rfl,rfl,λN D w base S=>⟨D,λ_ h=>h,by intro i hi;simp at hi,S,Ext.refl _ _ _ _⟩⟩
 |i::l,s,s',h=>by
  simp only[St.freeze] at h;split at h
  ·rename_i ro t xs ho
   obtain⟨h1,h2,h3,h4⟩:=wA l _ s' h;refine⟨h1,h2,h3,λN D w base S=>?_⟩;obtain⟨D1,e1,e2,e3,e4⟩:=S.Vh ho;obtain⟨D2,f1,f2,f3,f4⟩:=h4 N D1 w base (by rw[St.th];exact e3)
   refine⟨D2,λb hb=>f1 b (e1 b hb),λid pQ nm a hn hb=>?_,f3,e4.trans f4⟩;rcases List.mem_cons.1 pQ with rfl|pQ
   ·exact f1 _ (e2 id (by simp) nm a hn hb)
   ·exact f2 id pQ nm a hn hb
  ·cases h
theorem Names.BY {N:Names}{id:Nat}{nm:Nm}:(N.up λi=>if i=id then some nm else N i) id=some nm:=by show(if id=id then some nm else N id)=_;simp
theorem Names.RS {N:Names}{id:Nat}{nm:Nm}(Yx:N id=none):N.le (N.up λi=>if i=id then some nm else N i):=Names.RN λi mM h'=>by
 by_cases e:i=id
 ·subst e;rw[Yx] at h';cases h'
 ·rw[if_neg e];exact h'
theorem jU.make {N:Names}{D:Nat->Prop}{w w':World}{base:Nat}{h:Nat->Option fK}(S:jU N D w base h){id:Nat}{o:fK}{nm:Nm}(gX:h id=none)(RR:w'.os=w.os)(JD:w'.tape=w.tape)(jr:w'.output=w.output)
  (xK:w.heap.size<=w'.heap.size) (mP: ∀b,b<w.heap.size->w'.heap[b]?=w.heap[b]?) (rk: ∀a,nm.base=some a->w.heap.size<=a.block/\a.block<w'.heap.size)
  (nf:qF (N.up λi=>if i=id then some nm else N i) D w' base id o) (hr:o.rw=true:=by rfl):
  ∃N':Names,N' id=some nm/\jU N' D w' base (kf h id o)/\Ext N D w h N' D w' (kf h id o):=by
 have Yx:N id=none:=by
  cases e:N id with
  |none=>rfl
  |some mM=>exact absurd gX (S.named id mM e)
 have hN:N.le (N.up λi=>if i=id then some nm else N i):=Names.RN λi mM h'=>by
  by_cases e:i=id
  ·subst e;rw[Yx] at h';cases h'
  ·rw[if_neg e];exact h'
 have Yy:(N.up λi=>if i=id then some nm else N i) id=some nm:=by show(if id=id then some nm else N id)=_;simp
 have LS: ∀i,i≠id->(N.up λi=>if i=id then some nm else N i) i=N i:=λi e=>if_neg e
 have hold: ∀i oi b,i≠id->iP (N.up λi=>if i=id then some nm else N i) i oi b->iP N i oi b:=λi oi b e=>(iP.names (LS i e) (λ_=>rfl)).1
 have DM: ∀b,iP (N.up λi=>if i=id then some nm else N i) id o b->w.heap.size<=b:=by
  intro b hO;cases hb:nm.base with
  |some a=>rw[iP.at_ hr Yy hb hO];exact(rk a hb).1
  |none=>
   have key:oh (N.up λi=>if i=id then some nm else N i) id b->False:=by
    rintro⟨mM,a',h1,h2,_⟩
    rw[Yy] at h1;cases h1;rw[hb] at h2;cases h2
   cases o with
   |dead=>exact hO.elim
   |void=>exact hO.elim
   |var v=>exact(key hO).elim
   |row ro t xs=>cases ro<;>first|exact(key hO).elim|exact hO.elim
   |store ep xs=>cases hr
 refine⟨N.up λi=>if i=id then some nm else N i,Yy,⟨λi oi hi=>?_,?_,λb hb=>zdX (S.frozen b hb) xK,λi mM hn=>?_,zdW S.size xK,λg hg=>?_⟩,⟨hN,λ_ h=>h,RR,JD,jr,xK,λb hb _=>mP b hb,λb hb hO=>?_,λ_ h=> .inl h,λi mM hn=>?_,λ_ h=>vu h,λg hg=>⟨?_,λ_=>rfl⟩⟩⟩
 ·by_cases e:i=id
  ·subst e;simp[kf] at hi;subst hi;exact nf
  ·simp only[kf,if_neg e] at hi
   exact nQ (S.obj i oi hi) hN (λ_ h=>h) (λb hb=>mP b (S.frozen b hb)) (λb hO=>⟨mP _ (S.pb hi hO).2.2,λh=>h⟩) (λ_ _ _ _=>rfl)
 ·intro i j oi oj b hi hj ri rj
  by_cases ei:i=id<;>by_cases ej:j=id
  ·rw[ei,ej]
  ·exfalso
   subst ei;simp[kf] at hi;subst hi;simp only[kf,if_neg ej] at hj;have:=(S.pb hj (hold j oj b ej rj)).2.2;have:=DM b ri;omega
  ·exfalso
   subst ej;simp[kf] at hj;subst hj;simp only[kf,if_neg ei] at hi;have:=(S.pb hi (hold i oi b ei ri)).2.2;have:=DM b rj;omega
  ·simp only[kf,if_neg ei] at hi
   simp only[kf,if_neg ej] at hj;exact S.apart i j oi oj b hi hj (hold i oi b ei ri) (hold j oj b ej rj)
 ·by_cases e:i=id
  ·simp[kf,e]
  ·simp only[kf,if_neg e]
   rw[LS i e] at hn;exact S.named i mM hn
 ·by_cases e:SB+g=id
  ·simp only[kf,if_pos e] at hg
   cases o<;>simp[AM.iG] at hg
   cases hr
  ·simp only[kf,if_neg e] at hg;exact S.iG g hg
 ·obtain⟨i,oi,hi,ri⟩:=hO
  by_cases e:i=id
  ·subst e
   simp[kf] at hi;subst hi;have:=DM b ri;omega
  ·simp only[kf,if_neg e] at hi
   exact⟨i,oi,hi,hold i oi b e ri⟩
 ·by_cases e:i=id
  ·subst e;exact .inr gX
  ·rw[LS i e] at hn;exact .inl hn
 ·by_cases e:SB+g=id
  ·subst e;rw[gX] at hg;cases hg
  ·simp only[kf,if_neg e];exact hg
end AM
namespace AM
open Go
variable {α:Type}{P:Program}{base:Nat}
def zV (op:BinOp)(b:Bool):Bool:=match op with| .eql=>b|_=>!b
theorem kp.sV {N:Names}{D:Nat->Prop}{w:World}{st:St}{a:Act}(s:kp N D w base st a){x:Operand}{v:Value}(h:st.ev x= .val v):a.eval x=v:=by
 have:=s.FJ x;rw[h] at this;exact dY.1 this
theorem kp.uB {N:Names}{D:Nat->Prop}{w:World}{st:St}{a:Act}(s:kp N D w base st a){x:Operand}{v:AV}(h:st.ev x=v):ck N D w v (a.eval x):=h▸s.FJ x
theorem oE {t:TypeId}{x y:Value}{b:Bool}{w:World}(h:(Op.equalIn (9999+1) t x y).run P w= .ok b w):(Op.equal t x y).run P w= .ok b w:=h
section
variable {t:TypeId}{w:World}(d:Nat)
theorem HJ (hu:P.underlying t=some .bool)(a b:Bool):(Op.equalIn (d+1) t (.bool a) (.bool b)).run P w= .ok (a==b) w:=by simp[Op.equalIn,run_underlying hu]
theorem rl {e:TypeId}(hu:P.underlying t=some (.pointer e))(b:Option Addr):(Op.equalIn (d+1) t (.pointer none) (.pointer b)).run P w= .ok b.isNone w:=by simp[Op.equalIn,run_underlying hu]
theorem zW {e:TypeId}(hu:P.underlying t=some (.pointer e))(b:Addr):(Op.equalIn (d+1) t (.pointer (some b)) (.pointer none)).run P w= .ok false w:=by simp[Op.equalIn,run_underlying hu]
theorem HK {e:TypeId}(hu:P.underlying t=some (.slice e))(a:Option Addr)(n m n' m':Nat):(Op.equalIn (d+1) t (.slice a n m) (.slice none n' m')).run P w= .ok a.isNone w:=by cases a<;>simp[Op.equalIn,run_underlying hu]
theorem HL {e:TypeId}(hu:P.underlying t=some (.slice e))(n m n' m':Nat):(Op.equalIn (d+1) t (.slice none n m) (.slice none n' m')).run P w= .ok true w:=by simp[Op.equalIn,run_underlying hu]
end
theorem sg {op:BinOp}{t:TypeId}{x y:Value}{b:Bool}{w:World}(uN:op= .eql\/op= .neq)(hx: ∀k n,x≠ .int k n)(hf: ∀k n,x≠ .float k n)(hcx: ∀k n m,x≠ .complex k n m)(hs: ∀s,x≠ .string s)
  (h:(Op.equal t x y).run P w= .ok b w):(Go.binOp op t x y).run P w= .ok (.bool (zV op b)) w:=by
 rcases uN with rfl|rfl<;>cases x<;>first
  |(exfalso;first|exact hx _ _ rfl|exact hf _ _ rfl|exact hcx _ _ _ rfl|exact hs _ rfl)
  |(cases y<;>simp[Go.binOp,h,zV])
theorem pX {dst ty pos after guard}{op:BinOp}{t yT:TypeId}{x y:Operand}{st:St}{b:Bool}{k:AV->St->Option α}{r:α}(h:Rl st op b k=some r)
  (he: ∀N D w a,kp N D w base st a->(op= .eql\/op= .neq)->(do eqGuard op t x y (a.eval x) (a.eval y);Go.binOp op t (a.eval x) (a.eval y):Sem Value).run P w= .ok (.bool (zV op b)) w):
  nW P base ⟨dst, .binOp op t x y yT,ty,pos,after,guard⟩ st k r:=by
 unfold Rl at h;split at h
 ·refine⟨_,_,h,ll.pure λN D w a s=>⟨_,?_,dY.2 rfl⟩⟩
  have:=he N D w a s (.inl rfl);simp only[execOp];rw[zd0,this];rfl
 ·refine⟨_,_,h,ll.pure λN D w a s=>⟨_,?_,dY.2 rfl⟩⟩
  have:=he N D w a s (.inr rfl);simp only[execOp];rw[zd0,this];rfl
 ·cases h
theorem sC {t:TypeId}(h:zf P t=true): ∃e,P.underlying t=some (.pointer e):=by
 unfold zf at h;split at h
 ·exact⟨_,‹_›⟩
 ·cases h
theorem sj {t:TypeId}(h:na P t=true): ∃e,P.underlying t=some (.slice e):=by
 unfold na at h;split at h
 ·exact⟨_,‹_›⟩
 ·cases h
theorem LU {s:St}{t:TypeId}{x:AV}{k:Int->Option α}{r:α}(h:Jw P s t x k=some r)(hx:(∃te xs,x= .dp te xs)\/(∃i off,x= .tail i off)\/∃i p off len,x= .slice i p off len):
  ∃n:Int,k n=some r/\∀N D w,jU N D w base s.h->∀c,ck N D w x c->∃a m cap,c= .slice a m cap/\(n≠0->a≠none):=by
 rcases hx with⟨te,xs,rfl⟩|⟨i,off,rfl⟩|⟨i,p,off,len,rfl⟩
 ·simp only[Jw] at h
  split at h
  ·refine⟨_,h,λN D w S c hc=>?_⟩
   obtain⟨a,cap,h1,h2,h3,_⟩:=uL.1 hc;simp only[zdF] at h1;refine⟨a,_,cap,h1,λhn ha=>hn ?_⟩;have:=h3 ha;simp only[aQ] at h2;omega
  ·cases h
 ·simp only[Jw] at h
  split at h
  ·rename_i ro t' xs ho
   split at h
   ·refine⟨_,h,λN D w S c hc=>?_⟩
    simp only[ck,AV.isAgg,jv,ar] at hc;obtain⟨nm,h1,h2,h3,h4,h5⟩:=hc;obtain⟨mM,e1,e2,e3,e4,e5,e6⟩:=S.obj i _ ho;rw[h1] at e1;cases e1;cases hb:nm.base with
    |none=>
     rw[hb] at h5;obtain⟨h6,h7⟩:=h5;simp only[zdF] at h7;refine⟨none,0,0,h7,λhn=>absurd ?_ hn⟩;simp only[aQ] at e4;omega
    |some a=>
     rw[hb] at h5;obtain⟨u,room,h6,h7,a',cap,h8,_⟩:=h5;simp only[zdF] at h6;exact⟨_,_,_,h6.trans h8,λ_=>by simp⟩
   ·cases h
  ·cases h
 ·simp only[Jw] at h
  split at h
  ·refine⟨_,h,λN D w S c hc=>?_⟩
   simp only[ck,AV.isAgg,jv,ar] at hc;obtain⟨nm,h1,hc⟩:=hc;cases hb:nm.base with
   |none=>
    rw[hb] at hc;obtain⟨_,_,h6,_,h7⟩:=hc;simp only[zdF] at h7;exact⟨none,0,0,h7,λhn=>absurd (by omega) hn⟩
   |some a=>
    rw[hb] at hc;simp only at hc;split at hc
    ·obtain⟨_,_,u,room,h6,_,_,a',cap,h8,_⟩:=hc
     simp only[zdF] at h6;exact⟨_,_,_,h6.trans h8,λ_=>by simp⟩
    ·obtain⟨_,_,_,u,room,_,_,_,h6,_,a',cap,h8,_⟩:=hc
     simp only[zdF] at h6;exact⟨_,_,_,h6.trans h8,λ_=>by simp⟩
  ·cases h
theorem PD {op:BinOp}{t:TypeId}{e:TypeId}(hu:P.underlying t=some (.slice e))(uN:op= .eql\/op= .neq)(a:Option Addr)(n c n' c':Nat)(w:World):(Go.binOp op t (.slice a n c) (.slice none n' c')).run P w= .ok (.bool (zV op a.isNone)) w:=by
 exact sg uN (by simp) (by simp) (by simp) (by simp) (oE (HK 9999 hu a n c n' c'))
theorem zk {dst ty pos after guard}{op:BinOp}{t yT:TypeId}{x y:Operand}{st:St}{k:AV->St->Option α}{r:α}{u:AV}{c d:Nat}(h:Jx P st op t u k=some r)(e1:st.ev x=u)(e2:st.ev y= .val (.slice none c d))
  (hu:(∃te xs,u= .dp te xs)\/(∃i off,u= .tail i off)\/∃i p off len,u= .slice i p off len):
  nW P base ⟨dst, .binOp op t x y yT,ty,pos,after,guard⟩ st k r:=by
 unfold Jx at h;split at h
 ·cases h
 rename_i hs;obtain⟨e,hue⟩:=sj hs;obtain⟨n,h,hlen⟩:=LU (base:=base) h hu;have run: ∀N D w act,kp N D w base st act->(op= .eql\/op= .neq)->∃a m cap,act.eval x= .slice a m cap/\(n≠0->a≠none)/\(do eqGuard op t x y (act.eval x) (act.eval y);Go.binOp op t (act.eval x) (act.eval y):Sem Value).run P w= .ok (.bool (zV op a.isNone)) w:=by
  intro N D w act s uN;obtain⟨a,m,cap,h1,h2⟩:=hlen N D w s.ny _ (s.uB e1);refine⟨a,m,cap,h1,h2,?_⟩;rw[h1,s.sV e2];simp only[eqGuard_at_slice,zd0,zd2,zd1];exact PD hue uN a m cap c d w
 split at h
 ·have key: ∀uN:(op= .eql\/op= .neq),k .xy st=some r->nW P base ⟨dst, .binOp op t x y yT,ty,pos,after,guard⟩ st k r:=by
   intro uN h;refine⟨_,_,h,ll.pure λN D w act s=>?_⟩;obtain⟨a,m,cap,_,_,h3⟩:=run N D w act s uN;refine⟨.bool (zV op a.isNone),?_,by unfold ck;simp only[AV.isAgg,jv,ar];exact⟨_,rfl⟩⟩
   simp only[execOp];rw[zd0,h3];rfl
  split at h
  ·exact key (.inl rfl) h
  ·exact key (.inr rfl) h
  ·cases h
 ·rename_i hn
  refine pX h λN D w act s uN=>?_;obtain⟨a,m,cap,_,h2,h3⟩:=run N D w act s uN;have ha:a≠none:=h2 λe=>by rw[kL.2 e] at hn;cases hn
  cases a with
  |none=>exact absurd rfl ha
  |some a=>exact h3
theorem HM {N:Names}{D:Nat->Prop}{w:World}{g n c:Nat}{v:Value}(h:ck N D w (.rf g n c) v):(n=0/\v= .pointer none)\/(n≠0/\∃a,v= .pointer (some a)):=by
 unfold ck at h;simp only[AV.isAgg,jv,ar,xF] at h;cases n with
 |zero=>simp only[zdF] at h;exact .inl ⟨rfl,h⟩
 |succ k=>
  obtain⟨_,_,_,_,_,h⟩:=h;simp only[zdF] at h;exact .inr ⟨by simp,_,h⟩
theorem N7 {p:Prop}(h: ¬p):af p=false:=by
 cases e:af p with
 |false=>rfl
 |true=>exact absurd (kL.1 e) h
theorem RT {dst ty pos after guard}{op:BinOp}{t yT:TypeId}{x y:Operand}{st:St}{k:AV->St->Option α}{r:α}(h:RC P st op t (st.ev x) (st.ev y) k=some r)
  (zct: ∀b,Ve P t (st.ev x) (st.ev y)=some b->∀N D w a,kp N D w base st a->(op= .eql\/op= .neq)->(do eqGuard op t x y (a.eval x) (a.eval y);Go.binOp op t (a.eval x) (a.eval y):Sem Value).run P w= .ok (.bool (zV op b)) w):
  nW P base ⟨dst, .binOp op t x y yT,ty,pos,after,guard⟩ st k r:=by
 unfold RC at h;split at h
 ·rename_i ka a kb b e1 e2
  exact RP e1 e2 h
 ·rename_i a b e1 e2
  split at h
  ·rename_i hu
   refine pX h λN D w act s uN=>?_;rw[s.sV e1,s.sV e2];simp only[eqGuard_at_bool,zd0,zd2,zd1];exact sg uN (by simp) (by simp) (by simp) (by simp) (oE (HJ 9999 hu a b))
  ·cases h
 ·rename_i a b e1 e2
  refine pX h λN D w act s uN=>?_;rw[s.sV e1,s.sV e2];simp only[eqGuard_at_string,zd0,zd2,zd1];rcases uN with rfl|rfl<;>simp[Go.binOp,Op.stringOp,Jv,zV]
 ·rename_i e1 e2
  split at h
  ·rename_i hp
   obtain⟨e,hu⟩:=sC hp;refine pX h λN D w act s uN=>?_;rw[s.sV e1,s.sV e2];simp only[eqGuard_at_pointer,zd0,zd2,zd1];exact sg uN (by simp) (by simp) (by simp) (by simp) (oE (rl 9999 hu none))
  ·cases h
 ·rename_i e1 e2
  split at h
  ·rename_i hp
   obtain⟨e,hu⟩:=sj hp;refine pX h λN D w act s uN=>?_;rw[s.sV e1,s.sV e2];simp only[eqGuard_at_slice,zd0,zd2,zd1];exact sg uN (by simp) (by simp) (by simp) (by simp) (oE (HL 9999 hu _ _ _ _))
  ·cases h
 ·rename_i id p e1 e2
  split at h
  ·rename_i hp
   obtain⟨e,hu⟩:=sC hp;refine pX h λN D w act s uN=>?_;obtain⟨nm,a,o,_,_,_,e3⟩:=jq.1 (s.uB e1);rw[e3,s.sV e2];simp only[eqGuard_at_pointer,zd0,zd2,zd1];exact sg uN (by simp) (by simp) (by simp) (by simp) (oE (zW 9999 hu _))
  ·cases h
 ·rename_i id p e1 e2
  split at h
  ·rename_i hp
   obtain⟨e,hu⟩:=sC hp;refine pX h λN D w act s uN=>?_;obtain⟨nm,a,o,_,_,_,e3⟩:=jq.1 (s.uB e2);rw[e3,s.sV e1];simp only[eqGuard_at_pointer,zd0,zd2,zd1];exact sg uN (by simp) (by simp) (by simp) (by simp) (oE (rl 9999 hu (some _)))
  ·cases h
 ·rename_i g n c e1 e2
  split at h
  ·rename_i hp
   obtain⟨e,hu⟩:=sC hp;refine pX h λN D w act s uN=>?_;rcases HM (s.uB e1) with⟨hn,e3⟩|⟨hn,ad,e3⟩
   ·rw[e3,s.sV e2,kL.2 hn]
    simp only[eqGuard_at_pointer,zd0,zd2,zd1];exact sg uN (by simp) (by simp) (by simp) (by simp) (oE (rl 9999 hu none))
   ·rw[e3,s.sV e2,N7 hn]
    simp only[eqGuard_at_pointer,zd0,zd2,zd1];exact sg uN (by simp) (by simp) (by simp) (by simp) (oE (zW 9999 hu _))
  ·cases h
 ·rename_i g n c e1 e2
  split at h
  ·rename_i hp
   obtain⟨e,hu⟩:=sC hp;refine pX h λN D w act s uN=>?_;rcases HM (s.uB e2) with⟨hn,e3⟩|⟨hn,ad,e3⟩
   ·rw[e3,s.sV e1,kL.2 hn]
    simp only[eqGuard_at_pointer,zd0,zd2,zd1];exact sg uN (by simp) (by simp) (by simp) (by simp) (oE (rl 9999 hu none))
   ·rw[e3,s.sV e1,N7 hn]
    simp only[eqGuard_at_pointer,zd0,zd2,zd1];exact sg uN (by simp) (by simp) (by simp) (by simp) (oE (rl 9999 hu (some _)))
  ·cases h
 ·rename_i te xs c d e1 e2
  exact zk h e1 e2 (.inl ⟨_,_,rfl⟩)
 ·rename_i i off c d e1 e2
  exact zk h e1 e2 (.inr (.inl ⟨_,_,rfl⟩))
 ·rename_i i p off len c d e1 e2
  exact zk h e1 e2 (.inr (.inr ⟨_,_,_,_,rfl⟩))
 ·split at h
  ·rename_i b hb
   exact pX h λN D w act s uN=>zct b hb N D w act s uN
  ·cases h
theorem yW {t:TypeId}{f off:Nat}(h:xz P t f=some off): ∃fs fd,P.underlying t=some (.struct fs)/\fs[f]?=some fd/\P.cellsOf fd.type≠0/\fd.offset=off:=by
 unfold xz at h;split at h
 ·rename_i fs hu
  split at h
  ·rename_i fd hf
   split at h
   ·cases h
   ·exact⟨fs,fd,hu,hf,‹_›,Option.some.inj h⟩
  ·cases h
 ·cases h
theorem FM {t:TypeId}(h:P.cellsOf t≠0): ∃i,P.info? t=some i:=by
 unfold Program.cellsOf at h;cases e:P.info? t with
 |none=>simp[e] at h
 |some i=>exact⟨i,rfl⟩
theorem xL {t:TypeId}{f off:Nat}(h:xz P t f=some off){a:Addr}(ha:a.spot=none)(w:World):(Instr.fieldAt t (.pointer (some a)) f).run P w= .ok (.pointer (some (Addr.at_ a off))) w:=by
 obtain⟨fs,fd,hu,hf,hc,ho⟩:=yW h;obtain⟨i,hi⟩:=FM hc;obtain⟨b,o,sp⟩:=a;simp only at ha;subst ha;simp only[Instr.fieldAt,zd0,run_underlying hu,zd1,hf,Instr.sureAddr,zd2,fieldPlace,run_sizeOf w hi,hc,if_false,ow,ho,Addr.at_]
theorem nR {s:St}{id:Nat}{p:List Step}{sh:Sh}(h:s.shape id p=some sh){N:Names}{D:Nat->Prop}{w:World}{base:Nat}(S:jU N D w base s.h){nm:Nm}(hn:N id=some nm):nm.Lj p=some sh:=by
 unfold St.shape at h;split at h
 ·rename_i v ho
  obtain⟨mM,a,h1,h2,h3,h4,_⟩:=S.obj id _ ho;rw[hn] at h1;cases h1;unfold Nm.Lj;rw[h3,h4];exact h
 ·rename_i ro t xs ho
  obtain⟨mM,h1,h2,h3,_⟩:=S.obj id _ ho;rw[hn] at h1;cases h1;unfold Nm.Lj;rw[h2,h3];simp only[if_true];split at h
  ·exact h
  ·cases h
 ·cases h
theorem rn: ∀(p:List Step) (s:Sh) (o:Nat) (l:List Sh) (n:Nat),fE p s=some o->zJ p s=some (.agg l)->n<l.length->fE (p++ [.im n]) s=some (o+Sh.dR (l.take n))
 | [],s,o,l,n,h1,h2,h3=>by
  simp only[fE,zJ,zdF] at h1 h2;subst h1;subst h2;simp[fE,zdE h3]
 | .im m::p,s,o,l,n,h1,h2,h3=>by
  cases s<;>simp only[fE,zJ] at h1 h2<;>try (cases h1;done)
  rename_i l';cases hl:l'[m]? with
  |none=>simp[hl] at h1
  |some y=>
   simp only[hl] at h1 h2;cases h5:fE p y with
   |none=>simp[h5] at h1
   |some o2=>
    simp only[h5,zdO,zdF] at h1;have:=rn p y o2 l n h5 h2 h3;simp only[zef,fE,hl,this,zdO];congr 1;omega
 | .idx i::p,s,o,l,n,h1,h2,h3=>by
  cases s<;>simp only[fE,zJ] at h1 h2<;>try (cases h1;done)
  rename_i m e;by_cases hi:i<m
  ·simp only[hi,if_true] at h1
   cases h5:fE p e with
   |none=>simp[h5] at h1
   |some o2=>
    simp only[h5,zdO,zdF] at h1;have:=rn p e o2 l n h5 h2 h3;simp only[zef,fE,hi,if_true,this,zdO];congr 1;omega
  ·simp only[hi,if_false] at h1;cases h1
theorem rp: ∀(p:List Step) (s:Sh) (o:Nat) (m i:Nat) (e:Sh),fE p s=some o->zJ p s=some (.arr m e)->i<m->fE (p++ [.idx i]) s=some (o+i*e.size)
 | [],s,o,m,i,e,h1,h2,h3=>by
  simp only[fE,zJ,zdF] at h1 h2;subst h1;subst h2;simp[fE,h3]
 | .im k::p,s,o,m,i,e,h1,h2,h3=>by
  cases s<;>simp only[fE,zJ] at h1 h2<;>try (cases h1;done)
  rename_i l';cases hl:l'[k]? with
  |none=>simp[hl] at h1
  |some y=>
   simp only[hl] at h1 h2;cases h5:fE p y with
   |none=>simp[h5] at h1
   |some o2=>
    simp only[h5,zdO,zdF] at h1;have:=rp p y o2 m i e h5 h2 h3;simp only[zef,fE,hl,this,zdO];congr 1;omega
 | .idx j::p,s,o,m,i,e,h1,h2,h3=>by
  cases s<;>simp only[fE,zJ] at h1 h2<;>try (cases h1;done)
  rename_i m' e';by_cases hi:j<m'
  ·simp only[hi,if_true] at h1
   cases h5:fE p e' with
   |none=>simp[h5] at h1
   |some o2=>
    simp only[h5,zdO,zdF] at h1;have:=rp p e' o2 m i e h5 h2 h3;simp only[zef,fE,hi,if_true,this,zdO];congr 1;omega
  ·simp only[hi,if_false] at h1;cases h1
theorem tu {nm:Nm}{p:List Step}{o:Nat}{l:List Sh}{n:Nat}(h1:nm.off p=some o)(h2:nm.Lj p=some (.agg l))(h3:n<l.length):
  nm.off (p++ [.im n])=some (o+Sh.dR (l.take n)):=by
 cases hr:nm.row with
 |false=>
  simp only[Nm.Lj,hr] at h2;have e: ∀p,nm.off p=fE p nm.sh:=by intro p;unfold Nm.off;split<;>simp[hr]
  rw[e] at h1⊢;exact rn p _ o l n h1 h2 h3
 |true=>
  simp only[Nm.Lj,hr,if_true] at h2;split at h2
  ·rename_i i p'
   simp only[Nm.off,hr,if_true,zef] at h1⊢;by_cases hi:i<nm.len
   ·simp only[hi,if_true] at h1⊢
    cases h5:fE p' nm.sh with
    |none=>simp[h5] at h1
    |some o2=>
     simp only[h5,zdO,zdF] at h1;rw[rn p' _ o2 l n h5 h2 h3];simp only[zdO];congr 1;omega
   ·simp only[hi,if_false] at h1;cases h1
  ·cases h2
theorem DN {dst ty pos after guard}{t:TypeId}{x:Operand}{f:Nat}{st:St}{k:AV->St->Option α}{r:α}(h:xA P st t (st.ev x) f k=some r):nW P base ⟨dst, .fieldAddr t x f,ty,pos,after,guard⟩ st k r:=by
 unfold xA at h;split at h
 ·rename_i i p off e1 e2
  split at h
  ·refine⟨_,_,h,ll.pure λN D w a s=>?_⟩
   obtain⟨nm,ad,o,h1,h2,h3,h4⟩:=jq.1 (s.uB e1);refine⟨.pointer (some (Addr.at_ (Addr.at_ ad o) off)),by simp only[execOp,h4,zd0,xL (a:=Addr.at_ ad o) e2 rfl,zd1,zd2],?_⟩
   unfold ck;simp only[AV.isAgg,jv,ar];exact⟨nm,ad,o,h1,h2,h3,by simp only[Addr.at_,zdU]⟩
  ·split at h
   ·rename_i fs hs
    split at h
    ·rename_i hd
     simp only[zdN] at hd;refine⟨_,_,h,ll.pure λN D w a s=>?_⟩;obtain⟨nm,ad,o,h1,h2,h3,h4⟩:=jq.1 (s.uB e1);have yI:=nR hs s.ny h1;refine⟨.pointer (some (Addr.at_ (Addr.at_ ad o) off)),by simp only[execOp,h4,zd0,xL (a:=Addr.at_ ad o) e2 rfl,zd1,zd2],jq.2 ⟨nm,ad,_,h1,h2,tu h3 yI hd.2,?_⟩⟩
     simp only[Addr.at_,hd.1,zdU]
    ·cases h
   ·cases h
 ·rename_i fs off e1 e2
  split at h
  ·rename_i hd
   simp only[zdN] at hd;split at h
   ·rename_i v hv
    refine⟨_,_,h,ll.pure λN D w a s=>?_⟩;obtain⟨ad,h1,h2,h3,h4⟩:=qG.1 (s.uB e1);refine⟨.pointer (some (Addr.at_ ad off)),by simp only[execOp,h1,zd0,xL e2 h2,zd1,zd2],qG.2 ⟨_,rfl,rfl,h3,?_⟩⟩
    simp only[ar] at h4;refine mF (qE fs f v _ hv h4) (λj=>?_);simp only[aX,Addr.at_,hd,zdU]
   ·cases h
  ·cases h
 ·cases h
theorem PE {dst ty pos after guard}{t:TypeId}{x:Operand}{st:St}{k:AV->St->Option α}{r:α}(h:LB P st t (st.ev x) k=some r):nW P base ⟨dst, .load t x,ty,pos,after,guard⟩ st k r:=by
 unfold LB at h;split at h
 ·rename_i i p e1
  obtain⟨v,h1,_,h3⟩:=pF h;split at h1
  ·rename_i hf
   refine⟨_,_,h1,ll.pure λN D w a s=>?_⟩;obtain⟨nm,ad,o,g1,g2,g3,g4⟩:=jq.1 (s.uB e1);obtain⟨g5,g6,_⟩:=h3 N D w base s.ny nm ad o g1 g2 g3;obtain⟨c,g7,g8⟩:=DK (P:=P) (ad:=Addr.at_ ad o) rfl hf (mF g6 (λj=>by simp only[aX,Addr.at_,zdU]))
   exact⟨c,by simp only[execOp,g4,zd0,g7,zd1,zd2],g8⟩
  ·cases h1
 ·rename_i v e1
  split at h
  ·rename_i hf
   refine⟨_,_,h,ll.pure λN D w a s=>?_⟩;obtain⟨ad,h1,h2,h3,h4⟩:=qG.1 (s.uB e1);obtain⟨c,g7,g8⟩:=DK (P:=P) h2 hf h4;exact⟨c,by simp only[execOp,h1,zd0,g7,zd1,zd2],g8⟩
  ·cases h
 ·cases h
end AM
namespace AM
open Go
variable {α:Type}{P:Program}{base:Nat}
theorem jz (b:Nat): ∀(vs:List Value) (o:Nat) (w:World),(w.setCells b o vs).heap.size=w.heap.size
 | [],_,_=>rfl
 |v::r,o,w=>by rw[World.setCells,jz b r];simp[World.setCell]
theorem ku (b:Nat): ∀(vs:List Value) (o:Nat) (w:World) (b':Nat),b'≠b->(w.setCells b o vs).heap[b']?=w.heap[b']?
 | [],_,_,_,_=>rfl
 |v::r,o,w,b',h=>by
  rw[World.setCells,ku b r _ _ b' h];simp only[World.setCell,zeg];rw[if_neg (by simpa using Ne.symm h)]
theorem kR (b:Nat): ∀(vs:List Value) (o:Nat) (w:World),(w.setCells b o vs).os=w.os/\(w.setCells b o vs).tape=w.tape/\(w.setCells b o vs).output=w.output
 | [],_,_=>⟨rfl,rfl,rfl⟩
 |v::r,o,w=>by
  obtain⟨h1,h2,h3⟩:=kR b r (o+1) (w.setCell ⟨b,o,none⟩ v);exact⟨by rw[World.setCells,h1];rfl,by rw[World.setCells,h2];rfl,by rw[World.setCells,h3];rfl⟩
theorem jd (b:Nat): ∀(vs:List Value) (o:Nat) (w:World) (c:Array Value) (ty:TypeId) (fz:Nat×Nat),w.heap[b]?=some (.cells c ty fz)->∃c',(w.setCells b o vs).heap[b]?=some (.cells c' ty fz)/\c'.size=c.size
 | [],_,_,c,ty,fz,h=>⟨c,h,rfl⟩
 |v::r,o,w,c,ty,fz,h=>by
  have h1:(w.setCell ⟨b,o,none⟩ v).heap[b]?=some (.cells (c.setIfInBounds o v) ty fz):=by
   simp[World.setCell,zeg,h]
  obtain⟨c',h2,h3⟩:=jd b r (o+1) _ _ ty fz h1;exact⟨c',h2,by rw[h3];simp⟩
theorem iW {w:World}{b o:Nat}{c:Array Value}{ty:TypeId}{fz:Nat×Nat}(h:w.heap[b]?=some (.cells c ty fz))(ho:o<c.size):(w.cell? ⟨b,o,none⟩).isSome=true:=by
 simp[World.cell?,h,ho]
theorem wB {w:World}{b o:Nat}{c:Array Value}{ty:TypeId}{fz:Nat×Nat}(h:w.heap[b]?=some (.cells c ty fz))(hz:fz=(0,0)\/c.size<=fz.1)(ho:o<c.size):w.frozen? ⟨b,o,none⟩=false:=by
 obtain⟨lo,hi⟩:=fz;simp only[World.frozen?,h];rcases hz with hz|hz
 ·cases hz;simp
 ·simp only at hz
  have: ¬lo<=o:=by omega
  simp[this]
theorem tX {N:Names}{D:Nat->Prop}{w:World}{u:AV}{c:Value}(hs:u.nw=true)(h:ck N D w u c):c.cells.size=u.size/\ar N D w u (c.cells[·]?)/\∀x∈c.cells.toList,x.oneCell'=true:=by
 unfold ck at h;cases Fz:u.isAgg with
 |true=>
  rw[Fz] at h;obtain⟨cs,rfl,h2,h3⟩:=h;refine⟨h2,h3,λx hx=>?_⟩;change x∈cs.toList at hx;obtain⟨j,hj,rfl⟩:=zeh hx;have BZ:j<cs.size:=by simpa using hj
  obtain⟨y,h4,h5⟩:=sB u _ hs h3 j (by omega)
  simp only[zei BZ,zdF] at h4;subst h4;simpa using h5
 |false=>
  rw[Fz] at h;have hsz:=rh hs Fz;obtain⟨y,h4,h5⟩:=sB u _ hs h 0 (by omega)
  simp only[zdF] at h4;subst h4;have hc:c.cells= #[c]:=by cases c<;>first|rfl|(simp[Value.oneCell'] at h5;done)
  rw[hc];refine⟨by simp[hsz],jN u _ _ (λj hj=>?_) h,λx hx=>by simp at hx;subst hx;exact h5⟩
  obtain rfl:j=0:=by omega
  simp
theorem JE {t:TypeId}{u:AV}{ad:Addr}{c:Value}{w:World}{N:Names}{D:Nat->Prop}(ha:ad.spot=none)(hf:sx P t u=true)(hv:ck N D w u c){cs:Array Value}{ty:TypeId}{fz:Nat×Nat}(hb:w.heap[ad.block]?=some (.cells cs ty fz))(hz:fz=(0,0)\/cs.size<=fz.1)(hsz:ad.off+u.size<=cs.size):
  (Instr.storeAt t (.pointer (some ad)) c).run P w= .ok () (w.setCells ad.block ad.off c.cells.toList):=by
 obtain⟨hs,_,h2,d,hd⟩:=rR hf;obtain⟨i,hi⟩:=info_of_underlying hd;obtain⟨h3,_,h5⟩:=tX hs hv;obtain⟨b,o,sp⟩:=ad;simp only at ha;subst ha;simp only[Instr.storeAt,Instr.sureAddr,zd0,zd2,zd1,storeVar,run_sizeOf w hi];rw[if_neg (by rw[h3,h2];simp)]
 have:=run_storeCells_cells (P:=P) b o c.cells.toList 0 w (λj hj=>by
   refine iW hb ?_;simp at hj;simp only at hsz;omega) (λj hj=>wB hb hz (by simp at hj;simp only at hsz;omega)) h5
 simpa using this
theorem xM {s:St}{id:Nat}{p:List Step}{u:AV}{k:St->Option α}{r:α}(h:s.store id p u k=some r)(zaH:u.nw=true):
  ∃s',k s'=some r/\s'.t=s.t/\s'.nt=s.nt/\s'.ep=s.ep/\(∀j,j≠id->j∉u.ids->s'.h j=s.h j)/\∀N D w base,jU N D w base s.h->∀nm a o c,N id=some nm->nm.base=some a->nm.off p=some o->ck N D w u c->
   a.spot=none/\(∃cs ty fz,w.heap[a.block]?=some (.cells cs ty fz)/\(fz=(0,0)\/cs.size<=fz.1)/\a.off+o+u.size<=cs.size)/\
   ∃D',jU N D' (w.setCells a.block (a.off+o) c.cells.toList) base s'.h/\Ext N D w s.h N D' (w.setCells a.block (a.off+o) c.cells.toList) s'.h:=by
 unfold St.store at h;split at h
 ·rename_i v ho
  obtain⟨v',h1,h2,h3,h4⟩:=wx p u v _ r h;refine⟨_,h1,rfl,rfl,rfl,λj hj _=>by simp[St.set,hj],λN D w base S nm a o c hn hb nX hc=>?_⟩
  obtain⟨mM,a',e1,e2,e3,e4,e5,e6,e7,e8,⟨cs,ty,e9,yr⟩,N8⟩:=S.obj id _ ho;rw[hn] at e1;cases e1;rw[hb] at e2;cases e2;have hof:fE p v.sh=some o:=by
   have:nm.off p=fE p nm.sh:=by unfold Nm.off;split<;>simp[e3]
   rw[this,e4] at nX;exact nX
  have xk:=zU p v.sh o u.sh hof h3;rw[kN,kN] at xk;obtain⟨g1,g2,g3⟩:=tX zaH hc;have hlen:c.cells.toList.length=u.size:=by simpa using g1
  refine⟨e5,⟨cs,ty,_,e9, .inl rfl,by omega⟩,D,?_⟩
  obtain⟨tK,f1,f2⟩:=jd a.block c.cells.toList (a.off+o) w cs ty _ e9;obtain⟨o1,o2,o3⟩:=kR a.block c.cells.toList (a.off+o) w;have hD: ∀b,D b->(w.setCells a.block (a.off+o) c.cells.toList).heap[b]?=w.heap[b]?:=λb vl=>ku _ _ _ _ _ (λe=>e8 (e▸vl));rw[St.th];refine S.write ho rfl hn hb o1 o2 o3 (jz _ _ _ _) (λb lF=>ku _ _ _ _ _ lF) ?_;refine⟨nm,a,hn,hb,e3,by rw[e4,h2],e5,e6,e7,e8,⟨tK,ty,f1,by rw[f2,yr,<-kN,<-kN,h2]⟩,?_⟩
  refine qv (Names.le_refl _) (λ_ h=>h) hD v' _ ?_;refine h4 N D w base S (aX w a) _ o N8 hof (λj hj=>?_) ?_
  ·simp only[aX]
   exact World.cell?_setCells_out _ _ _ _ _ (λ_ _=>by simp only;rw[hlen];omega)
  ·refine jN u _ _ (λj hj=>?_) g2
   have BZ:j<c.cells.toList.length:=by omega
   have:=World.cell?_setCells_in a.block c.cells.toList (a.off+o) w (λj hj=>iW e9 (by rw[hlen] at hj;omega)) j BZ
   simp only[aX];rw[show a.off+(o+j)=a.off+o+j by omega,this]
   simp at BZ⊢
 ·rename_i t xs ho
  split at h
  ·rename_i i p'
   split at h
   ·rename_i x hx
    obtain⟨v',h1,h2,h3,h4⟩:=wx p' u (enc t x) _ r h;obtain⟨_,x',ids,h5,h6⟩:=mO t v' _ r h1;split at h5
    ·cases h5
    rename_i Xz;split at h5
    ·rename_i s1 hfz
     obtain⟨z1,z2,z3,z4⟩:=wA ids s s1 hfz;simp only[Bool.or_eq_false_iff,Bool.not_eq_eq_eq_not,zdD,zej,List.contains_iff_mem] at Xz;obtain⟨Xz,zX⟩:=Xz;have yJ: ∀(ids:List Nat) (s s1:St),s.freeze ids=some s1->∀j,j∉ids->s1.h j=s.h j:=by
      intro ids;induction ids with
      |nil=>intro s s1 hz j _;simp only[St.freeze,zdF] at hz;subst hz;rfl
      |cons q l ih=>
       intro s s1 hz j hj;simp only[zek,not_or] at hj;simp only[St.freeze] at hz;split at hz
       ·rw[ih _ s1 hz j hj.2];simp[St.set,hj.1]
       ·cases hz
     refine⟨_,h5,z1,z2,z3,λj hj Yz=>by
      have:=yJ ids s s1 hfz j (λhm=>Yz (zX j hm));simp[St.set,hj,this],λN D w base S nm a o c hn hb nX hc=>?_⟩
     obtain⟨mM,e1,e2,e3,e4,e5,e6⟩:=S.obj id _ ho;rw[hn] at e1;cases e1;rw[hb] at e6;obtain⟨e7,⟨cs,ty,fz,e8,e9,yr⟩,N8,N9⟩:=e6;replace yr:=yr rfl
     simp only[zdG,if_false] at N8;simp only[Nm.off,e2,if_true] at nX;by_cases hi:i<nm.len
     ·simp only[hi,if_true] at nX
      cases mX:fE p' nm.sh with
      |none=>simp[mX] at nX
      |some o'=>
       simp only[mX,zdO,zdF] at nX;rw[e3,iH] at nX;subst nX;have zcu:fE p' (enc t x).sh=some o':=by rw[rP,<-e3];exact mX
       have xk:=zU p' (sw t) o' u.sh (by rw[<-e3];exact mX) (by rw[<-rP t x];exact h3)
       rw[kN,iH] at xk;have FN:(i+1)*t.size<=nm.cap*t.size:=zdS _ (by omega)
       rw[zdT] at FN;obtain⟨g1,g2,g3⟩:=tX zaH hc;have hlen:c.cells.toList.length=u.size:=by simpa using g1
       refine⟨e7,⟨cs,ty,fz,e8,yr.imp_right And.left,by omega⟩,?_⟩
       generalize Vi:w.setCells a.block (a.off+(i*t.size+o')) c.cells.toList=w';obtain⟨tK,f1,f2⟩:=jd a.block c.cells.toList (a.off+(i*t.size+o')) w cs ty _ e8;obtain⟨o1,o2,o3⟩:=kR a.block c.cells.toList (a.off+(i*t.size+o')) w;have UR:=jz a.block c.cells.toList (a.off+(i*t.size+o')) w;have one:=ku a.block c.cells.toList (a.off+(i*t.size+o')) w;have jr: ∀j,(j<i*t.size+o'\/i*t.size+o'+u.size<=j)->aX w' a j=aX w a j:=by
        intro j hj;simp only[aX,<-Vi];exact World.cell?_setCells_out _ _ _ _ _ (λ_ _=>by simp only;rw[hlen];omega)
       have Ba:ar N D w u (λj=>aX w' a (i*t.size+o'+j)):=by
        refine jN u _ _ (λj hj=>?_) g2;have BZ:j<c.cells.toList.length:=by omega
        have:=World.cell?_setCells_in a.block c.cells.toList (a.off+(i*t.size+o')) w (λj hj=>iW e8 (by rw[hlen] at hj;omega)) j BZ
        simp only[aX,<-Vi];rw[show a.off+(i*t.size+o'+j)=a.off+(i*t.size+o')+j by omega,this]
        simp at BZ⊢
       rw[Vi] at f1 o1 o2 o3 UR one;obtain⟨D',d1,d2,d3,d4⟩:=z4 N D w base S;have YA:=h4 N D w base S (λj=>aX w a (i*t.size+j)) (λj=>aX w' a (i*t.size+j)) o' ((kH t x _).2 (N9 i x hx)) zcu (λj hj=>jr _ (by omega)) (mF Ba (λj=>by rw[zdU]))
       have BX:=h6 N D w base S _ YA D' d1 d2;have ho1:s1.h id=some (.row false t xs):=by
        rw[yJ ids s s1 hfz id (by simpa using Xz)];exact ho
       have XA:True:=trivial;refine⟨D',?_⟩;have hnd: ¬D' a.block:=(d3.tW ⟨id,_,ho1,iP.of rfl hn hb⟩).1;have hDw: ∀b,D' b->w'.heap[b]?=w.heap[b]?:=λb vl=>one b (λe=>hnd (e▸vl));rw[St.th];have:=d3.write (o':= .row false t (xs.set i x')) ho1 rfl hn hb o1 o2 o3 UR (λb lF=>one b lF) ?_
       ·exact⟨this.1,d4.trans this.2⟩
       ·refine⟨nm,hn,e2,e3,by rw[e4];simp[aQ],e5,?_⟩
        rw[hb];refine⟨e7,⟨tK,ty,_,f1,by rw[f2];exact e9,λ_=>by rw[f2];exact yr⟩,by simp;exact⟨N8.1,hnd⟩,λi' y hy=>?_⟩
        by_cases UP:i=i'
        ·subst UP
         have kQ:i<(show List t.den from xs).length:=(List.getElem?_eq_some_iff.1 hx).1
         simp only[jT,zed kQ,zdF] at hy;subst hy;exact kt (Names.le_refl _) (λ_ h=>h) hDw _ _ _ BX
        ·simp only[jT,zee UP] at hy
         refine kt (Names.le_refl _) (λ_ h=>h) hDw _ _ _ (jh t y _ _ (λj hj=>(jr _ ?_).symm) (kt (Names.le_refl _) d1 (λ_ _=>rfl) _ _ _ (N9 i' y hy)));rcases Nat.lt_or_gt_of_ne UP with kQ|kQ
         ·right
          have:(i+1)*t.size<=i'*t.size:=zdS _ kQ;rw[zdT] at this;omega
         ·left
          have:(i'+1)*t.size<=i*t.size:=zdS _ kQ;rw[zdT] at this;omega
     ·simp only[hi,if_false] at nX;cases nX
    ·cases h5
   ·cases h
  ·cases h
 ·cases h
end AM
namespace AM
open Go
variable {α:Type}{P:Program}{base:Nat}
theorem LV {dst ty pos after guard}{t:TypeId}{x y:Operand}{st:St}{k:AV->St->Option α}{r:α}(h:Ht P st t (st.ev x) (st.ev y) k=some r):nW P base ⟨dst, .store t x y,ty,pos,after,guard⟩ st k r:=by
 unfold Ht at h;split at h
 ·rename_i i p e1
  split at h
  ·rename_i hf
   obtain⟨s',h1,h2,h3,h4,Ji,h5⟩:=xM h (rR hf).1;refine⟨_,_,h1,h2,h3,h4,λj hj _=>Ji j (λe=>hj (by simp[NX,e1,vp,e])) (λe=>hj (by simp[NX,e])),λN D w a s=>?_⟩
   obtain⟨nm,ad,o,g1,g2,g3,g4⟩:=jq.1 (s.uB e1);have hv:=s.FJ y;obtain⟨g5,⟨cs,LW,fz,g6,g6z,g7⟩,D',g8,g9⟩:=h5 N D w base s.ny nm ad o _ g1 g2 g3 hv;have e5:=JE (P:=P) (ad:=Addr.at_ ad o) rfl hf hv g6 g6z (by simpa [Addr.at_] using g7)
   refine⟨N,D',_,Go.undef, .inr ⟨?_,rfl⟩,g9,g8,dY.2 rfl⟩;simp only[execOp,g4];rw[zd0,e5];rfl
  ·cases h
 ·cases h
theorem HN {s:St}{id:Nat}{v:AV}{k:St->Option α}{r:α}(h:s.new id (.var v) k=some r):
  ∃s',k s'=some r/\s'.t=s.t/\s'.nt=s.nt/\s'.ep=s.ep/\(∀j,j≠id->s'.h j=s.h j)/\∀N D w base,jU N D w base s.h->∀(cells:Array Value) (ty:TypeId),cells.size=v.size->ar N D w v (cells[·]?)->
   ∃N',jU N' D (w.alloc (.cells cells ty)) base s'.h/\Ext N D w s.h N' D (w.alloc (.cells cells ty)) s'.h/\ck N' D (w.alloc (.cells cells ty)) (.ptr id []) (.pointer (some ⟨w.heap.size,0,none⟩)):=by
 unfold St.new at h;split at h
 ·rename_i gX
  refine⟨_,h,rfl,rfl,rfl,λj hj=>by simp[St.set,hj],λN D w base S cells ty hsz hr=>?_⟩
  have vw:(w.alloc (.cells cells ty)).heap=w.heap.push (.cells cells ty):=rfl;have rk:(w.alloc (.cells cells ty)).heap[w.heap.size]?=some (.cells cells ty (0,0)):=by rw[vw];simp
  have mP: ∀b,b<w.heap.size->(w.alloc (.cells cells ty)).heap[b]?=w.heap[b]?:=λb hb=>by rw[vw,zel,if_neg (by omega)]
  let nm:Nm:=⟨some ⟨w.heap.size,0,none⟩,v.sh,false,0,0⟩
  have Yx:N id=none:=by
   cases e:N id with
   |none=>rfl
   |some mM=>exact absurd gX (S.named id mM e)
  obtain⟨N',n1,n2,n3⟩:=S.make (w':=w.alloc (.cells cells ty)) (o:= .var v) (nm:=nm) gX rfl rfl rfl (by rw[vw];simp) mP (λa ha=>by cases ha;rw[vw];simp) (by
   refine⟨nm,⟨w.heap.size,0,none⟩,Names.BY,rfl,rfl,rfl,rfl,rfl,S.size,λhd=>Nat.lt_irrefl _ (S.frozen _ hd),⟨cells,ty,rk,hsz⟩,?_⟩;refine qv (Names.RS Yx) (λ_ h=>h) (λb hb=>mP b (S.frozen b hb)) v _ (jN v _ _ (λj hj=>?_) hr)
   ·unfold aX World.cell?
    rw[rk];simp)
  refine⟨N',by rw[St.th];exact n2,by rw[St.th];exact n3,jq.2 ⟨nm,_,0,n1,rfl,by simp[Nm.off,nm,fE],rfl⟩⟩
 ·cases h
theorem rq (ep slot:Nat):name ep slot 0/100=ep*1000+slot:=by
 unfold name;omega
theorem RU {dst ty pos after guard}{t:TypeId}{x:Operand}{st:St}{id:Nat}(pQ:id=name st.ep (dst.getD 999) 0){k:AV->St->Option α}{r:α}(h:RD st id (st.ev x) k=some r):nW P base ⟨dst, .box t x,ty,pos,after,guard⟩ st k r:=by
 unfold RD at h;split at h
 ·rename_i hs
  obtain⟨s',h1,h2,h3,h4,Ji,h5⟩:=HN h;refine⟨_,_,h1,h2,h3,h4,λj _ hj=>Ji j (λe=>by subst e;subst pQ;simp[qD,makes,rq] at hj),λN D w a s=>?_⟩
  obtain⟨g1,g2,_⟩:=tX hs (s.FJ x);obtain⟨N',n1,n2,n3⟩:=h5 N D w base s.ny _ t g1 g2;exact⟨N',D,_,_, .inl (by simp only[execOp,Instr.box,newVar,newRow,zd0,run_newObj,zd1,zd2];rfl),n2,n1,n3⟩
 ·cases h
theorem RV: ∀{x y:Value},veq x y=true->x=y:=by
 intro x y h;unfold veq at h;split at h<;>first
  |(simp only[zdH,zdN] at h;rw[h.1,h.2])
  |(simp at h;rw[h])
  |rfl
  |(rename_i a b;have:a.data.toList=b.data.toList:=(by simpa using h);congr 1;cases a;cases b;congr 1;exact Array.toList_inj.1 this)
  |(cases h;done)
theorem Oa: ∀{l m:List Value},Px l m=true->l=m
 | [],[],_=>rfl
 | [],_::_,h=>by simp[Px] at h
 |_::_,[],h=>by simp[Px] at h
 |x::xs,y::ys,h=>by
  simp only[Px,zdH] at h;rw[RV h.1,Oa h.2]
end AM
namespace AM
open Go
variable {α:Type}{P:Program}{base:Nat}
theorem flatMap_replicate {β γ:Type}(f:β->List γ)(x:β)(s:Nat)(hs:(f x).length=s): ∀n i j,i<n->j<s->((List.replicate n x).flatMap f)[i*s+j]?=(f x)[j]?
 |0,i,j,h,_=>by omega
 |n+1,0,j,_,hj=>by
  simp only[zem,zen,zeo,zep];rw[zeq (by omega)]
 |n+1,i+1,j,hi,hj=>by
  simp only[zem,zen];rw[zer (by rw[hs,zdT];omega)]
  rw[show(i+1)*s+j-(f x).length=i*s+j by rw[hs,zdT];omega]
  exact flatMap_replicate f x s hs n i j (by omega) hj
theorem rI {β γ:Type}(f:β->List γ)(x:β): ∀n,((List.replicate n x).flatMap f).length=n*(f x).length
 |0=>by simp
 |n+1=>by simp[zem,zen,rI f x n,zdT,zes]
theorem mZ: ∀t:Ty,(mW t (iz t)).length=t.size
 | .int _=>rfl| .bool=>rfl| .str=>rfl| .nil=>rfl| .deep _=>rfl| .ref _=>rfl
 | .cons a b=>by simp only[mW,iz,zdI,Ty.size,mZ a,mZ b]
 | .arr n t=>by
  have:=rI (mW t) (iz t) n;rw[mZ t] at this;exact this
theorem rS {N:Names}{D:Nat->Prop}{w:World}: ∀(t:Ty) (g:Nat->Option Value),(∀j,j<t.size->g j=(mW t (iz t))[j]?)->iw N D w t (iz t) g
 | .int k,g,h=>h 0 (by simp[Ty.size])
 | .bool,g,h=>h 0 (by simp[Ty.size])
 | .str,g,h=>h 0 (by simp[Ty.size])
 | .nil,g,h=>trivial
 | .deep t,g,h=>⟨none,0,h 0 (by simp[Ty.size]),zdV _,λ_=>rfl,λad ha=>by cases ha⟩
 | .ref _,g,h=>h 0 (by simp[Ty.size])
 | .cons a b,g,h=>by
  refine⟨rS a g λj hj=>?_,rS b _ λj hj=>?_⟩
  ·rw[h j (by simp only[Ty.size];omega)]
   have e:=zeq (l₁:=mW a (iz a)) (l₂:=mW b (iz b)) (i:=j) (by rw[mZ];exact hj)
   exact e
  ·rw[h _ (by simp only[Ty.size];omega)]
   have:=zer (l₁:=mW a (iz a)) (l₂:=mW b (iz b)) (i:=a.size+j) (by rw[mZ];omega)
   rw[mZ,Nat.add_sub_cancel_left] at this;exact this
 | .arr n t,g,h=>by
  refine⟨zet,λi x hx=>?_⟩;have hi:i<n:=by
   have:=(List.getElem?_eq_some_iff.1 hx).1;simpa [iz] using this
  have BX:x=iz t:=by
   have h2:(List.replicate n (iz t))[i]?=some x:=hx;rw[zeu,if_pos hi] at h2;exact(Option.some.inj h2).symm
  subst BX;refine rS t _ λj hj=>?_;have hb:(i+1)*t.size<=n*t.size:=zdS _ hi;rw[zdT] at hb;rw[h _ (by simp only[Ty.size];omega)]
  exact flatMap_replicate (mW t) (iz t) t.size (mZ t) n i j hi hj
theorem yt (fs:List AV):qX (.agg fs)=rN fs:=by simp[qX]
def vz (v:AV):Prop:=(qX v).length=v.size/\∀(N:Names) (D:Nat->Prop) (w:World) (g:Nat->Option Value),(∀j,j<v.size->g j=(qX v)[j]?)->ar N D w v g
theorem vz.val (x:Value):vz (.val x):=⟨rfl,λN D w g h=>by simp only[ar];exact h 0 (by simp[AV.size])⟩
def rT (l:List AV):Prop:=(rN l).length=AV.dR l/\∀(N:Names) (D:Nat->Prop) (w:World) (g:Nat->Option Value),(∀j,j<AV.dR l->g j=(rN l)[j]?)->fg N D w l g
theorem rT.cons {v:AV}{l:List AV}(h1:vz v)(h2:rT l):rT (v::l):=by
 refine⟨by simp only[rN,zdI,AV.dR,h1.1,h2.1],λN D w g h=>?_⟩
 simp only[fg];refine⟨h1.2 N D w g λj hj=>?_,h2.2 N D w _ λj hj=>?_⟩
 ·rw[h j (by simp only[AV.dR];omega)]
  simp only[rN];exact zeq (by rw[h1.1];exact hj)
 ·rw[h _ (by simp only[AV.dR];omega)]
  have:=zer (l₁:=qX v) (l₂:=rN l) (i:=v.size+j) (by rw[h1.1];omega)
  rw[h1.1,Nat.add_sub_cancel_left] at this;simpa only[rN] using this
theorem B0: ∀(n:Nat) (t:TypeId) (v:AV),zeroOf P n t=some v->vz v
 |0,_,_,h=>by simp[zeroOf] at h
 |n+1,t,v,h=>by
  unfold zeroOf at h;split at h<;>first
   |(simp only[zdF] at h;subst h;exact vz.val _)
   |skip
  ·rename_i fs _
   have key: ∀(l:List Field) (vs:List AV),l.foldr (λf acc=>match zeroOf P n f.type,acc with|some a,some b=>some (a::b)|_,_=>none) (some [])=some vs->rT vs:=by
    intro l;induction l with
    |nil=>intro vs h;simp only[List.foldr_nil,zdF] at h;subst h;exact⟨rfl,λ_ _ _ _ _=>by simp only[fg]⟩
    |cons f l ih=>
     intro vs h;simp only[zev] at h;split at h
     ·rename_i a b h1 h2
      simp only[zdF] at h;subst h;exact rT.cons (B0 n _ _ h1) (ih _ h2)
     ·cases h
   simp only[zew] at h;obtain⟨vs,h1,rfl⟩:=h;obtain⟨h2,h3⟩:=key _ _ h1;exact⟨by simpa [qX,AV.size] using h2,λN D w g hg=>by simp only[ar];exact h3 N D w g (λj hj=>by rw[hg j (by simpa [AV.size] using hj),yt])⟩
  ·rename_i m e _
   split at h
   ·simp only[zdF] at h
    subst h;have key: ∀m,rT (List.replicate m (.val (.slice none 0 0))):=by
     intro m;induction m with
     |zero=>exact⟨rfl,λ_ _ _ _ _=>by simp only[List.replicate,fg]⟩
     |succ m ih=>exact rT.cons (vz.val _) ih
    obtain⟨h2,h3⟩:=key m;exact⟨by simpa [qX,AV.size] using h2,λN D w g hg=>by simp only[ar];exact h3 N D w g (λj hj=>by rw[hg j (by simpa [AV.size] using hj),yt])⟩
   simp only[zew] at h;obtain⟨te,_,rfl⟩:=h;refine⟨?_,λN D w g hg=>?_⟩
   ·have:=mZ (.arr m te)
    simpa only[qX,AV.size,Ty.size,mW,iz] using this
   ·simp only[ar]
    refine rS (.arr m te) g λj hj=>?_;rw[hg j (by simpa only[AV.size,Ty.size] using hj)]
    simp only[qX,mW,iz]
  ·cases h
theorem rU {t:TypeId}{k:AV->Option α}{r:α}(h:zeroV P t k=some r): ∃v i z,k v=some r/\P.info? t=some i/\i.zero=some z/\zeroOf P 12 t=some v/\z.cells.toList=qX v/\z.cells.size=v.size/\∀N D w,ar N D w v (z.cells[·]?):=by
 unfold zeroV at h;split at h
 ·rename_i z v hz hv
  split at h
  ·rename_i hq
   obtain⟨i,hi,US⟩:=Option.bind_eq_some_iff.1 hz;have e:=Oa hq;obtain⟨l1,l2⟩:=B0 12 t v hv;refine⟨v,i,z,h,hi,US,hv,e,by rw[<-l1,<-e];simp,λN D w=>l2 N D w _ λj hj=>?_⟩
   rw[<-e];simp
  ·cases h
 ·cases h
theorem LX {dst ty pos after guard}{t:TypeId}{st:St}{id:Nat}(pQ:id=name st.ep (dst.getD 999) 0){k:AV->St->Option α}{r:α}(h:Hu P st id t k=some r):nW P base ⟨dst, .alloc t,ty,pos,after,guard⟩ st k r:=by
 unfold Hu at h;obtain⟨v,i,z,h,hi,hz,_,_,g1,g2⟩:=rU h;obtain⟨s',h1,h2,h3,h4,Ji,h5⟩:=HN h;refine⟨_,_,h1,h2,h3,h4,λj _ hj=>Ji j (λe=>by subst e;subst pQ;simp[qD,makes,rq] at hj),λN D w a s=>?_⟩
 obtain⟨N',n1,n2,n3⟩:=h5 N D w base s.ny _ t g1 (g2 N D w);exact⟨N',D,_,_, .inl (by simp only[execOp,Instr.alloc,newVar,newRow,zeroValue,typeInfo,zd0,run_newObj,zd1,zd2];simp[hi,hz]),n2,n1,n3⟩
theorem PF {dst ty pos after guard}{x:Operand}{st:St}{k:AV->St->Option α}{r:α}(h:k (st.ev x) st=some r):nW P base ⟨dst, .move x,ty,pos,after,guard⟩ st k r:=
 ⟨_,_,h,ll.pure λN D w a s=>⟨a.eval x,by simp only[execOp,zd2],s.FJ x⟩⟩
theorem JF {dst ty pos after guard}{x:Operand}{st:St}{k:AV->St->Option α}{r:α}(h:k (st.ev x) st=some r):nW P base ⟨dst, .assign x,ty,pos,after,guard⟩ st k r:=
 ⟨_,_,h,ll.pure λN D w a s=>⟨a.eval x,by simp only[execOp,zd2],s.FJ x⟩⟩
theorem FP {dst ty pos after guard}{x:Operand}{st:St}{k:AV->St->Option α}{r:α}(h:(match st.ev x with| .ptr i p=>k (.ptr i p) st| .tS v=>k (.tS v) st| .rf g n c=>(match af (n=0) with|true=>none|false=>k (.rf g n c) st)|_=>none)=some r):nW P base ⟨dst, .nilCheck x,ty,pos,after,guard⟩ st k r:=by
 split at h
 ·rename_i i p e1
  refine⟨_,_,h,ll.pure λN D w a s=>?_⟩;have hv:=s.uB e1;obtain⟨nm,ad,o,h1,h2,h3,h4⟩:=jq.1 hv;exact⟨a.eval x,by simp only[execOp,h4,zd2],hv⟩
 ·rename_i v e1
  refine⟨_,_,h,ll.pure λN D w a s=>?_⟩;have hv:=s.uB e1;obtain⟨ad,h1,_⟩:=qG.1 hv;exact⟨a.eval x,by simp only[execOp,h1,zd2],hv⟩
 ·rename_i g n c e1
  split at h
  ·cases h
  ·rename_i hn
   refine⟨_,_,h,ll.pure λN D w a s=>?_⟩;have hv:=s.uB e1;rcases HM hv with⟨h1,_⟩|⟨_,ad,h1⟩
   ·rw[kL.2 h1] at hn;cases hn
   ·exact⟨a.eval x,by simp only[execOp,h1,zd2],hv⟩
 ·cases h
theorem PG {dst ty pos after guard}{c x y:Operand}{st:St}{k:AV->St->Option α}{r:α}(h:(match st.ev c with| .val (.bool t)=>(match t with|true=>k (st.ev x) st|false=>k (st.ev y) st)|_=>none)=some r):nW P base ⟨dst, .pick c x y,ty,pos,after,guard⟩ st k r:=by
 split at h
 ·rename_i t e1
  cases t with
  |true=>exact⟨_,_,h,ll.pure λN D w a s=>⟨a.eval x,by simp[execOp,s.sV e1,asBool],s.FJ x⟩⟩
  |false=>exact⟨_,_,h,ll.pure λN D w a s=>⟨a.eval y,by simp[execOp,s.sV e1,asBool],s.FJ y⟩⟩
 ·cases h
theorem PH {dst ty pos after guard}{op:UnOp}{t:TypeId}{x:Operand}{st:St}{k:AV->St->Option α}{r:α}(h:(match op,st.ev x with
  | .not, .val (.bool b)=>k (.val (.bool (!b))) st
  | .neg, .val (.int ki n)=>k (.val (.int ki (wr ki (0-n)))) st
  | .xor, .val (.int ki n)=>k (.val (.int ki (pC ki (Ry ki) n))) st
  |_,_=>none)=some r):nW P base ⟨dst, .unOp op t x,ty,pos,after,guard⟩ st k r:=by
 split at h
 ·rename_i b e1
  exact⟨_,_,h,ll.pure λN D w a s=>⟨_,by simp[execOp,s.sV e1,Op.unary];first|rfl|done,dY.2 rfl⟩⟩
 ·rename_i ki n e1
  exact⟨_,_,h,ll.pure λN D w a s=>⟨_,by simp[execOp,s.sV e1,Op.unary,Op.intArith];first|rfl|done,dY.2 (by simp[pP])⟩⟩
 ·rename_i ki n e1
  exact⟨_,_,h,ll.pure λN D w a s=>⟨_,by simp[execOp,s.sV e1,Op.unary,Op.intBits];first|rfl|done,dY.2 (by simp[pC,Ry,pP])⟩⟩
 ·cases h
theorem HO {dst ty pos after guard}{x:Operand}{i:Nat}{st:St}{k:AV->St->Option α}{r:α}(h:(match st.ev x with| .AY vs=>(match vs[i]? with|some v=>k v st|none=>none)|_=>none)=some r):nW P base ⟨dst, .extract x i,ty,pos,after,guard⟩ st k r:=by
 split at h
 ·rename_i vs e1
  split at h
  ·rename_i v hv
   refine⟨_,_,h,ll.pure λN D w a s=>?_⟩;obtain⟨cs,h1,h2⟩:=lJ.1 (s.uB e1);obtain⟨c,h3,h4⟩:=sA vs _ i v h2 hv;refine⟨c,?_,h4⟩;have h5:cs[i]?=some c:=by simpa using h3
   simp[execOp,h1,Instr.extract,h5]
  ·cases h
 ·cases h
theorem uO {N:Names}{D:Nat->Prop}{w:World}{st:St}{a:Act}(s:kp N D w base st a): ∀l:List Operand,bA N D w (l.map st.ev) (l.map a.eval)
 | []=>by simp[bA]
 |x::xs=>by
  simp only[zex,bA];exact⟨_,_,rfl,s.FJ x,uO s xs⟩
theorem FQ {dst ty pos after guard}{fn:Fn}{first captured:Array Operand}{st:St}{k:AV->St->Option α}{r:α}(h:(match first.size,captured.size with|0,_=>k (.xh fn (captured.toList.map st.ev)) st|_,0=>k (.AW fn (first.toList.map st.ev)) st|_,_=>none)=some r):nW P base ⟨dst, .makeFunc fn first captured,ty,pos,after,guard⟩ st k r:=by
 split at h
 ·rename_i h0
  refine⟨_,_,h,ll.pure λN D w a s=>⟨.func fn #[] (captured.map a.eval),?_,?_⟩⟩
  ·have:first= #[]:=zey h0
   subst this;simp[execOp,Instr.makeFunc]
  ·unfold ck
   simp only[AV.isAgg,jv,ar];refine⟨_,rfl,?_⟩;have:=uO s captured.toList;simpa using this
 ·rename_i h0 _
  refine⟨_,_,h,ll.pure λN D w a s=>⟨.func fn (first.map a.eval) #[],?_,?_⟩⟩
  ·have:captured= #[]:=zey h0
   subst this;simp[execOp,Instr.makeFunc]
  ·unfold ck
   simp only[AV.isAgg,jv,ar];refine⟨_,rfl,?_⟩;have:=uO s first.toList;simpa using this
 ·cases h
end AM
namespace AM
open Go
variable {α:Type}{P:Program}{base:Nat}
theorem tY {N:Names}{D:Nat->Prop}{w:World}{t:TypeId}{v:AV}{cs:Array Value}{off:Nat}(hf:sx P t v=true)(hr:ar N D w v (λj=>cs[off+j]?)): ∃c,(part t cs off).run P w= .ok c w/\ck N D w v c:=by
 obtain⟨hs,h1,h2,d,hd⟩:=rR hf;obtain⟨i,hi⟩:=info_of_underlying hd;have HH:(isAgg t).run P w= .ok (qY P t) w:=by
  simp only[isAgg,zd0,run_underlying hd,zd1,qY,hd];cases d<;>rfl
 have hc:=sB v _ hs hr;cases Fz:v.isAgg with
 |true=>
  refine⟨.agg (cs.extract off (off+v.size)),?_,?_⟩
  ·simp only[part,zd0,HH,zd1,<-h1,Fz,if_true,run_sizeOf w hi,zd2,h2]
  ·unfold ck;rw[Fz]
   have hle:v.size=0\/off+v.size<=cs.size:=by
    by_cases e:v.size=0
    ·exact .inl e
    ·obtain⟨c,h3,_⟩:=hc (v.size-1) (by omega)
     have:=(Array.getElem?_eq_some_iff.1 h3).1;right;omega
   refine⟨_,rfl,by simp;omega,jN v _ _ (λj hj=>?_) hr⟩
   simp[Array.getElem?_extract];intro hh;omega
 |false=>
  obtain⟨c,h3,_⟩:=hc 0 (by rw[rh hs Fz];omega)
  simp only[zez] at h3;refine⟨c,by simp[part,HH,<-h1,Fz,h3],?_⟩
  unfold ck;rw[Fz];refine jN v _ _ (λj hj=>?_) hr;rw[rh hs Fz] at hj;obtain rfl:j=0:=by omega
  exact h3
theorem LY {t:TypeId}{f:Nat}{v:AV}(h:RA P t f v=true): ∃fs fd,P.underlying t=some (.struct fs)/\fs[f]?=some fd/\sx P fd.type v=true:=by
 unfold RA at h;split at h
 ·rename_i fs hu
  split at h
  ·rename_i fd hf
   exact⟨fs,fd,hu,hf,h⟩
  ·cases h
 ·cases h
theorem LZ {dst ty pos after guard}{t:TypeId}{x:Operand}{f:Nat}{st:St}{k:AV->St->Option α}{r:α}(h:Hs P st t (st.ev x) f k=some r):nW P base ⟨dst, .field t x f,ty,pos,after,guard⟩ st k r:=by
 unfold Hs at h;split at h
 ·rename_i fs off e1 e2
  split at h
  ·rename_i hd
   simp only[zdN] at hd;split at h
   ·rename_i v hv
    split at h
    ·rename_i la
     refine⟨_,_,h,ll.pure λN D w a s=>?_⟩;obtain⟨cells,h1,h2,h3⟩:=xH.1 (s.uB e1);obtain⟨fs',fd,hu,hf,hft⟩:=LY la;obtain⟨fs2,fd2,hu2,xN,_,ho⟩:=yW e2;rw[hu] at hu2;cases hu2;rw[hf] at xN;cases xN;have:=qE fs f v _ hv h3;rw[hd] at this;subst ho;obtain⟨c,h4,h5⟩:=tY (P:=P) hft this;refine⟨c,?_,h5⟩;simp only[execOp,h1,Instr.field,zd0,run_underlying hu,zd1,hf,asAgg,zd2,h4]
    ·cases h
   ·cases h
  ·cases h
 ·cases h
theorem qH {x:AV}{k:Int->Option α}{r:α}(h:nat? x k=some r): ∃ki n,x= .val (.int ki n)/\k n=some r:=by
 unfold nat? at h;split at h
 ·exact⟨_,_,rfl,h⟩
 ·cases h
theorem nS {t:TypeId}{n:Nat}(h:uX P t n=true): ∃e i,P.underlying t=some (.slice e)/\P.info? e=some i/\P.cellsOf e=n:=by
 unfold uX at h;split at h
 ·rename_i e hu
  simp only[zdH,zdN] at h;obtain⟨i,hi⟩:=Option.isSome_iff_exists.1 h.1;exact⟨e,i,hu,hi,h.2⟩
 ·cases h
theorem sD {t:TypeId}{m n:Nat}(h:ze P t m n=true): ∃e i,P.underlying t=some (.array m e)/\P.info? e=some i/\P.cellsOf e=n:=by
 unfold ze at h;split at h
 ·rename_i m' e hu
  simp only[zdH,zdN] at h;obtain⟨i,hi⟩:=Option.isSome_iff_exists.1 h.1.1;exact⟨e,i,by rw[hu,h.1.2],hi,h.2⟩
 ·cases h
theorem tZ {t e:TypeId}{i:TypeInfo}(hu:P.underlying t=some (.slice e))(hi:P.info? e=some i){k:IntKind}{n:Int}{a:Addr}{len cap:Nat}(h0:0<=n)(h1:n<len)(w:World):
  (Instr.indexAt t (.slice (some a) len cap) (.int k n)).run P w= .ok (.pointer (some (a.add (n.toNat*P.cellsOf e)))) w:=by
 simp[Instr.indexAt,asIntOf,run_underlying hu,h0,h1,run_sizeOf w hi]
theorem zl {t e:TypeId}{m:Nat}{i:TypeInfo}(hu:P.underlying t=some (.array m e))(hi:P.info? e=some i){k:IntKind}{n:Int}{a:Addr}(h0:0<=n)(h1:n<m)(w:World):
  (Instr.indexAt t (.pointer (some a)) (.int k n)).run P w= .ok (.pointer (some (a.add (n.toNat*P.cellsOf e)))) w:=by
 simp[Instr.indexAt,asIntOf,run_underlying hu,h0,h1,run_sizeOf w hi,Instr.sureAddr]
theorem zY {nm:Nm}{p:List Step}{o m i:Nat}{e:Sh}(h1:nm.off p=some o)(h2:nm.Lj p=some (.arr m e))(h3:i<m):
  nm.off (p++ [.idx i])=some (o+i*e.size):=by
 cases hr:nm.row with
 |false=>
  simp only[Nm.Lj,hr] at h2;have e': ∀p,nm.off p=fE p nm.sh:=by intro p;unfold Nm.off;split<;>simp[hr]
  rw[e'] at h1⊢;exact rp p _ o m i e h1 h2 h3
 |true=>
  simp only[Nm.Lj,hr,if_true] at h2;split at h2
  ·rename_i j p'
   simp only[Nm.off,hr,if_true,zef] at h1⊢;by_cases hi:j<nm.len
   ·simp only[hi,if_true] at h1⊢
    cases h5:fE p' nm.sh with
    |none=>simp[h5] at h1
    |some o2=>
     simp only[h5,zdO,zdF] at h1;rw[rp p' _ o2 m i e h5 h2 h3];simp only[zdO];congr 1;omega
   ·simp only[hi,if_false] at h1;cases h1
  ·cases h2
theorem xO (b:Addr)(n m:Nat):(Addr.at_ b n).add m=Addr.at_ b (n+m):=by
 simp only[Addr.at_,ow,zdU]
theorem DO {ad:Addr}{len room:Nat}{v:Value}(h:LJ ad len room v)(hl:0<len):v= .slice (some ad) len room:=by
 obtain⟨a,cap,rfl,h2,h3,h4⟩:=h;rcases h4 with h4|h4
 ·rw[h4,h3]
 ·omega
end AM
namespace AM
open Go
variable {α:Type}{P:Program}{base:Nat}
theorem ji {p:Prop}{z:Option α}{r:α}(h:(match af p with|true=>z|false=>none)=some r):p/\z=some r:=by
 split at h
 ·exact⟨kL.1 ‹_›,h⟩
 ·cases h
theorem jk {b:Bool}{z:Option α}{r:α}(h:(match b with|false=>none|true=>z)=some r):b=true/\z=some r:=by
 cases b with
 |true=>exact⟨rfl,h⟩
 |false=>cases h
theorem wC {i:Int}{k:Nat->Option α}{r:α}: ∀{f j:Nat},Dz i k f j=some r->∃m,j<=m/\m<j+f/\i=m/\k m=some r
 |0,j,h=>by simp[Dz] at h
 |f+1,j,h=>by
  unfold Dz at h;split at h
  ·exact⟨j,zdV _,by omega,kL.1 ‹_›,h⟩
  ·obtain⟨m,h1,h2,h3⟩:=wC h
   exact⟨m,by omega,by omega,h3⟩
theorem Bb {n:Nat}: ∀{l:List Sh},DA l n=true->∀{j:Nat},j<=l.length->Sh.dR (l.take j)=j*n
 | [],_,j,hj=>by simp at hj;subst hj;simp[Sh.dR]
 |e::l,h,0,_=>by simp[Sh.dR]
 |e::l,h,j+1,hj=>by
  have h':e.size=n/\DA l n=true:=by simpa [DA] using h
  have ih:=Bb h'.2 (j:=j) (by simpa using hj)
  simp only[List.take_succ_cons,Sh.dR,ih,h'.1,zdT];omega
theorem B1 {s:St}{id:Nat}{p:List Step}{n:Nat}(h:Hq s id p=some n){N:Names}{D:Nat->Prop}{w:World}{base:Nat}(S:jU N D w base s.h){nm:Nm}(hn:N id=some nm):
  ((nm.row&&p.isEmpty)=true/\nm.sh.size=n)\/(¬(nm.row&&p.isEmpty)=true/\∃m e,nm.Lj p=some (.arr m e)/\e.size=n):=by
 unfold Hq at h;split at h
 ·rename_i ro te xs ho
  obtain⟨mM,h1,h2,h3,_⟩:=S.obj id _ ho;rw[hn] at h1;cases h1;left
  refine⟨by simp[h2],?_⟩
  rw[h3,iH];exact Option.some.inj h
 ·rename_i hp
  split at h
  ·rename_i m e hs
   right
   refine⟨?_,m,e,nR hs S hn,Option.some.inj h⟩;cases mN:nm.row with
   |false=>simp
   |true=>
    have yI:=nR hs S hn;intro hp2;simp only[Bool.true_and,zea] at hp2;rw[hp2] at yI;simp[Nm.Lj,mN] at yI
  ·cases h
theorem DP {dst ty pos after guard}{t:TypeId}{x ix:Operand}{st:St}{k:AV->St->Option α}{r:α}(h:xC P st t (st.ev x) (st.ev ix) k=some r):nW P base ⟨dst, .indexAddr t x ix,ty,pos,after,guard⟩ st k r:=by
 unfold xC at h;obtain⟨ki,n,ei,h⟩:=qH h;split at h
 ·rename_i te xs e1
  replace h:=jk h;obtain⟨wu,h⟩:=h
  replace h:=ji h;obtain⟨h0,h⟩:=h
  split at h
  ·rename_i y hy
   obtain⟨e,i,hu,hi,hsz⟩:=nS wu;refine⟨_,_,h,ll.pure λN D w a s=>?_⟩;obtain⟨ba,cap,g1,g2,g3,g4⟩:=uL.1 (s.uB e1);simp only[zdF] at g1;have kQ:n.toNat<aQ (β:=te.den) xs:=(List.getElem?_eq_some_iff.1 hy).1;cases ba with
   |none=>have:=g3 rfl;omega
   |some ba=>
    obtain⟨f1,f2,f3⟩:=g4 ba rfl (by omega)
    obtain⟨b,o,sp⟩:=ba;simp only at f1;subst f1;refine⟨.pointer (some ⟨b,o+n.toNat*te.size,none⟩),?_,qG.2 ⟨_,rfl,rfl,f2,?_⟩⟩
    ·simp only[execOp,s.sV ei,g1,zd0,tZ hu hi h0 (show n<(aQ (β:=te.den) xs:Int) by omega),zd1,zd2,ow,hsz]
    ·rw[kH]
     have e2:(λj=>aX w ⟨b,o,none⟩ (n.toNat*te.size+j))=aX w ⟨b,o+n.toNat*te.size,none⟩:=by
      funext j;simp only[aX,zdU]
     rw[<-e2];exact f3 n.toNat y hy
  ·cases h
 ·rename_i id off e1
  split at h
  ·rename_i ro te xs ho
   replace h:=jk h;obtain⟨wu,h⟩:=h
   replace h:=ji h;obtain⟨h0,h⟩:=h
   obtain⟨e,i,hu,hi,hsz⟩:=nS wu;refine⟨_,_,h,ll.pure λN D w a s=>?_⟩;have hv:=s.uB e1;unfold ck at hv;simp only[AV.isAgg,jv,ar] at hv;obtain⟨nm,g1,g2,g3,g4,g5⟩:=hv;obtain⟨mM,h1,h2,h3,h4,_⟩:=s.ny.obj id _ ho;rw[g1] at h1;cases h1;cases hb:nm.base with
   |none=>rw[hb] at g5;obtain⟨g5,_⟩:=g5;exfalso;have:=h0.2;simp only[aQ] at h4;omega
   |some ba=>
    rw[hb] at g5;obtain⟨v,room,g6,g7,g8⟩:=g5;simp only[zdF] at g6;have kQ:n<((nm.len-off:Nat):Int):=by rw[h4];exact h0.2
    have e3:=DO g8 (by omega)
    rw[e3] at g6;refine⟨.pointer (some (Addr.at_ ba (off*nm.sh.size+n.toNat*te.size))),?_,jq.2 ⟨nm,ba,_,g1,hb,?_,rfl⟩⟩
    ·simp only[execOp,s.sV ei,g6,zd0,tZ hu hi h0.1 kQ,zd1,zd2,xO,hsz]
    ·simp only[Nm.off,g2,if_true]
     rw[if_pos (by omega),h3,iH]
     simp only[fE,zdO,zdF,zez];rw[<-zdT,zes]
  ·cases h
 ·rename_i id p off len e1
  split at h
  ·rename_i m YB
   replace h:=jk h;obtain⟨wu,h⟩:=h
   replace h:=ji h;obtain⟨h0,h⟩:=h
   obtain⟨e,i,hu,hi,hsz⟩:=nS wu;refine⟨_,_,h,ll.pure λN D w a s=>?_⟩;have hv:=s.uB e1;unfold ck at hv;simp only[AV.isAgg,jv,ar] at hv;obtain⟨nm,g1,g3⟩:=hv;cases g2:nm.base with
   |none=>rw[g2] at g3;obtain⟨_,_,rfl,_⟩:=g3;omega
   |some ba=>
   rw[g2] at g3;simp only at g3;rcases B1 YB s.ny g1 with⟨hp,HP⟩|⟨hp,m',e',HP,YC⟩
   ·rw[if_pos hp] at g3
    simp only[zdH,zea] at hp;obtain⟨mN,rfl⟩:=hp;obtain⟨g4,g5,v,room,g6,g7,g8,g9⟩:=g3;simp only[zdF] at g6;have e3:=DO g9 (by omega)
    rw[e3] at g6;refine⟨.pointer (some (Addr.at_ ba (off*nm.sh.size+n.toNat*nm.sh.size))),?_,jq.2 ⟨nm,ba,_,g1,g2,?_,rfl⟩⟩
    ·simp only[execOp,s.sV ei,g6,zd0,tZ hu hi h0.1 h0.2,zd1,zd2,xO,hsz,HP]
    ·simp only[Nm.off,mN,if_true,zeA]
     rw[if_pos (by omega)]
     simp only[fE,zdO,zdF,zez];rw[<-zdT,zes]
   ·rw[if_neg hp] at g3
    obtain⟨o,m2,e2,v,room,g4,JG,g7,g8,g9,YD⟩:=g3;simp only[zdF] at g8;have e3:=DO YD (by omega)
    rw[e3] at g8;rw[JG] at HP;cases HP;refine⟨.pointer (some (Addr.at_ ba (o+off*e'.size+n.toNat*e'.size))),?_,jq.2 ⟨nm,ba,_,g1,g2,zY g4 JG (show n.toNat+off<m' by omega),?_⟩⟩
    ·simp only[execOp,s.sV ei,g8,zd0,tZ hu hi h0.1 h0.2,zd1,zd2,xO,hsz,YC]
    ·rw[zdT,zdU,zes (n.toNat*e'.size)]
  ·cases h
 ·rename_i id p e1
  split at h
  ·rename_i m e' hs
   replace h:=jk h;obtain⟨wu,h⟩:=h
   replace h:=ji h;obtain⟨h0,h⟩:=h
   obtain⟨e,i,hu,hi,hsz⟩:=sD wu;refine⟨_,_,h,ll.pure λN D w a s=>?_⟩;obtain⟨nm,ad,o,h1,h2,h3,h4⟩:=jq.1 (s.uB e1);refine⟨.pointer (some (Addr.at_ ad (o+n.toNat*e'.size))),?_,jq.2 ⟨nm,ad,_,h1,h2,zY h3 (nR hs s.ny h1) (show n.toNat<m by omega),rfl⟩⟩
   simp only[execOp,s.sV ei,h4,zd0,zl hu hi h0.1 h0.2,zd1,zd2,xO,hsz]
  ·rename_i l hs
   replace h:=jk h;obtain⟨wu,h⟩:=h
   rw[zdH] at wu;obtain⟨m,_,kQ,hm,h⟩:=wC h;rw[zep] at kQ;obtain⟨e,i,hu,hi,hsz⟩:=sD wu.1;refine⟨_,_,h,ll.pure λN D w a s=>?_⟩;obtain⟨nm,ad,o,h1,h2,h3,h4⟩:=jq.1 (s.uB e1);refine⟨.pointer (some (Addr.at_ ad (o+n.toNat*A0 l))),?_,jq.2 ⟨nm,ad,_,h1,h2,tu h3 (nR hs s.ny h1) kQ,?_⟩⟩
   ·simp only[execOp,s.sV ei,h4,zd0,zl hu hi (show 0<=n by omega) (show n<l.length by omega),zd1,zd2,xO,hsz]
   ·rw[Bb wu.2 (Nat.le_of_lt kQ),hm];rfl
  ·cases h
 ·rename_i id m0 e1
  split at h
  ·rename_i l hs
   replace h:=jk h;obtain⟨wu,h⟩:=h
   simp only[zdH,zdN] at wu;obtain⟨m,_,kQ,hm,h⟩:=wC h;rw[zep] at kQ;obtain⟨e,i,hu,hi,hsz⟩:=nS wu.1.1;refine⟨_,_,h,ll.pure λN D w a s=>?_⟩;have hv:=s.uB e1;unfold ck at hv;simp only[AV.isAgg,jv,ar] at hv;obtain⟨nm,ad,h1,h2,h3,h4⟩:=hv;simp only[zdF] at h4;have nX:nm.off []=some 0:=by simp[Nm.off,h3,fE]
   have yI:=nR hs s.ny h1;have Ob:ad.spot=none:=by
    have: ∃v,st.h id=some (.var v):=by
     unfold St.shape at hs;split at hs
     ·exact⟨_,‹_›⟩
     ·cases hs
     ·cases hs
    obtain⟨v,hv⟩:=this;obtain⟨mM,a',q1,q2,_,_,q5,_⟩:=s.ny.obj id _ hv;rw[h1] at q1;cases q1;rw[h2] at q2;cases q2;exact q5
   obtain⟨bb,oo,sp⟩:=ad;simp only at Ob;subst Ob;refine⟨.pointer (some ⟨bb,oo+n.toNat*A0 l,none⟩),?_,jq.2 ⟨nm,_,_,h1,h2,tu (p:=[]) nX yI kQ,?_⟩⟩
   ·simp only[execOp,s.sV ei,h4,zd0,tZ hu hi (show 0<=n by omega) (show n<m0 by omega),zd1,zd2,ow,hsz]
   ·rw[Bb wu.1.2 (Nat.le_of_lt kQ),hm];simp[Addr.at_]
  ·cases h
 ·rename_i m te xs e1
  replace h:=jk h;obtain⟨wu,h⟩:=h
  replace h:=ji h;obtain⟨h0,h⟩:=h
  split at h
  ·rename_i y hy
   obtain⟨e,i,hu,hi,hsz⟩:=sD wu;refine⟨_,_,h,ll.pure λN D w a s=>?_⟩;obtain⟨ad,h1,h2,h3,h4⟩:=qG.1 (s.uB e1);obtain⟨b,o,sp⟩:=ad;simp only at h2;subst h2;simp only[ar] at h4;refine⟨.pointer (some ⟨b,o+n.toNat*te.size,none⟩),?_,qG.2 ⟨_,rfl,rfl,h3,?_⟩⟩
   ·simp only[execOp,s.sV ei,h1,zd0,zl hu hi h0.1 h0.2,zd1,zd2,ow,hsz]
   ·rw[kH]
    have e2:(λj=>aX w ⟨b,o,none⟩ (n.toNat*te.size+j))=aX w ⟨b,o+n.toNat*te.size,none⟩:=by
     funext j;simp only[aX,zdU]
    rw[<-e2];exact h4.2 n.toNat y hy
  ·cases h
 ·cases h
theorem RW {dst ty pos after guard}{x:Operand}{args:Array Operand}{tys:Array TypeId}{t:TypeId}{Bc:List TypeId}{st:St}{k:AV->St->Option α}{r:α}(ha:args.toList=[x])(ht:tys.toList=t::Bc)
  (h:Jw P st t (st.ev x) (λn=>k (.val (.int .i64 n)) st)=some r):nW P base ⟨dst, .call ⟨.builtin .len,args,tys⟩,ty,pos,after,guard⟩ st k r:=by
 have nz:args= #[x]:=by cases args;simp at ha;subst ha;rfl
 have zZ:tys[0]?=some t:=by cases tys;simp at ht;subst ht;simp
 subst nz;have slk: ∀(n:Nat),na P t=true->k (.val (.int .i64 n)) st=some r->(∀N D w a,kp N D w base st a->∃b c,a.eval x= .slice b n c)->nW P base ⟨dst, .call ⟨.builtin .len,#[x],tys⟩,ty,pos,after,guard⟩ st k r:=by
  intro n hs hk YA;obtain⟨e,hu⟩:=sj hs;refine⟨_,_,hk,ll.pure λN D w a s=>⟨.int .i64 n,?_,dY.2 rfl⟩⟩;obtain⟨b,c,e2⟩:=YA N D w a s;simp[execOp,resolve,invoke,builtin,Builtin.len_,zZ,e2,run_underlying hu,goInt]
 unfold Jw at h;split at h
 ·rename_i te xs e1
  split at h
  ·rename_i hs
   refine slk _ hs h λN D w a s=>?_;obtain⟨ba,cap,g1,_⟩:=uL.1 (s.uB e1);simp only[zdF] at g1;exact⟨_,_,g1⟩
  ·cases h
 ·rename_i e1
  split at h
  ·rename_i hs
   exact slk 0 hs h λN D w a s=>⟨_,_,s.sV e1⟩
  ·cases h
 ·rename_i b e1
  split at h
  ·rename_i hu
   refine⟨_,_,h,ll.pure λN D w a s=>⟨_,?_,dY.2 rfl⟩⟩;simp[execOp,resolve,invoke,builtin,Builtin.len_,zZ,s.sV e1,run_underlying hu,goInt]
  ·cases h
 ·rename_i id off e1
  split at h
  ·rename_i ro te xs ho
   split at h
   ·rename_i hs
    refine slk _ hs h λN D w a s=>?_;have hv:=s.uB e1;unfold ck at hv;simp only[AV.isAgg,jv,ar] at hv;obtain⟨nm,g1,g2,g3,g4,g5⟩:=hv;obtain⟨mM,h1,h2,h3,h4,_⟩:=s.ny.obj id _ ho;rw[g1] at h1;cases h1;cases hb:nm.base with
    |none=>
     rw[hb] at g5;obtain⟨g5,g6⟩:=g5;simp only[zdF] at g6;have e0:aQ (β:=te.den) xs-off=0:=by rw[<-h4];omega
     have e2:a.eval x= .slice none (aQ (β:=te.den) xs-off) 0:=by rw[e0];exact g6
     exact⟨_,_,e2⟩
    |some ba=>
     rw[hb] at g5;obtain⟨v,room,g6,g7,a',cap,rfl,_⟩:=g5;simp only[zdF] at g6;rw[h4] at g6;exact⟨_,_,g6⟩
   ·cases h
  ·cases h
 ·rename_i id p off len e1
  split at h
  ·rename_i hs
   refine slk _ hs h λN D w a s=>?_;have hv:=s.uB e1;unfold ck at hv;simp only[AV.isAgg,jv,ar] at hv;obtain⟨nm,g1,g3⟩:=hv;cases g2:nm.base with
   |none=>rw[g2] at g3;obtain⟨_,_,rfl,_,g3⟩:=g3;simp only[zdF] at g3;exact⟨_,_,g3⟩
   |some ba=>
   rw[g2] at g3;simp only at g3;split at g3
   ·obtain⟨_,_,v,room,g6,_,_,a',cap,rfl,_⟩:=g3
    simp only[zdF] at g6;exact⟨_,_,g6⟩
   ·obtain⟨_,_,_,v,room,_,_,_,g6,_,a',cap,rfl,_⟩:=g3
    simp only[zdF] at g6;exact⟨_,_,g6⟩
  ·cases h
 ·rename_i id n e1
  split at h
  ·rename_i hs
   refine slk _ hs h λN D w a s=>?_;have hv:=s.uB e1;unfold ck at hv;simp only[AV.isAgg,jv,ar] at hv;obtain⟨nm,ad,_,_,_,h4⟩:=hv;simp only[zdF] at h4;exact⟨_,_,h4⟩
  ·cases h
 ·rename_i n te xs e1
  split at h
  ·rename_i m e hu
   split at h
   ·rename_i hmn
    subst hmn;refine⟨_,_,h,ll.pure λN D w a s=>⟨.int .i64 m,?_,dY.2 rfl⟩⟩;obtain⟨cells,h1,_⟩:=vr.1 (s.uB e1);simp[execOp,resolve,invoke,builtin,Builtin.len_,zZ,h1,run_underlying hu,goInt]
   ·cases h
  ·cases h
 ·cases h
end AM
namespace AM
open Go
variable {α:Type}{P:Program}{base:Nat}
theorem Bd: ∀(t:Ty) (x:t.den),(enc t x).nw=true
 | .int _,_=>by simp[enc,AV.nw,Value.oneCell']
 | .bool,_=>by simp[enc,AV.nw,Value.oneCell']
 | .str,_=>by simp[enc,AV.nw,Value.oneCell']
 | .nil,_=>by simp[enc,AV.nw,AV.AZ]
 | .deep _,_=>by simp[enc,AV.nw]
 | .ref _,_=>by simp[enc,AV.nw]
 | .arr n t,_=>by simp[enc,AV.nw]
 | .cons a b,p=>by
  have ha:=Bd a p.1;have hb:=Bd b p.2;unfold enc;cases h:enc b p.2<;>simp[h,AV.nw,AV.AZ] at* <;>simp[*]
theorem DQ: ∀(n:Nat) (t:TypeId) (te:Ty),vo P n t=some te->(∃d,P.underlying t=some d)/\∀x:te.den,(enc te x).isAgg=qY P t
 |0,_,_,h=>by simp[vo] at h
 |n+1,t,te,h=>by
  unfold vo at h;split at h
  ·rename_i k hu;simp only[zdF] at h;subst h;exact⟨⟨_,hu⟩,λx=>by simp[enc,AV.isAgg,qY,hu]⟩
  ·rename_i hu;simp only[zdF] at h;subst h;exact⟨⟨_,hu⟩,λx=>by simp[enc,AV.isAgg,qY,hu]⟩
  ·rename_i hu;simp only[zdF] at h;subst h;exact⟨⟨_,hu⟩,λx=>by simp[enc,AV.isAgg,qY,hu]⟩
  ·rename_i fs hu
   refine⟨⟨_,hu⟩,?_⟩;have key: ∀(l:List Field) (te:Ty),l.foldr (λf acc=>match vo P n f.type,acc with|some a,some b=>some (Ty.cons a b)|_,_=>none) (some .nil)=some te->∀x:te.den,∃l,enc te x= .agg l:=by
    intro l;induction l with
    |nil=>intro te h;simp only[List.foldr_nil,zdF] at h;subst h;intro x;exact⟨[],rfl⟩
    |cons f l ih=>
     intro te h;simp only[zev] at h;split at h
     ·rename_i a b h1 h2
      simp only[zdF] at h;subst h;intro x;obtain⟨l',hl⟩:=ih b h2 x.2;exact⟨enc a x.1::l',by have e:enc (.cons a b) x=(match enc b x.2 with| .agg l=> .agg (enc a x.1::l)|v=> .agg [enc a x.1,v]):=rfl;rw[e,hl]⟩
     ·cases h
   intro x;obtain⟨l,hl⟩:=key _ _ h x;simp[hl,AV.isAgg,qY,hu]
  ·rename_i m e hu
   simp only[zew] at h;obtain⟨Yo,_,rfl⟩:=h;exact⟨⟨_,hu⟩,λx=>by simp[enc,AV.isAgg,qY,hu]⟩
  ·rename_i e hu
   simp only[zew] at h;obtain⟨Yo,_,rfl⟩:=h;exact⟨⟨_,hu⟩,λx=>by simp[enc,AV.isAgg,qY,hu]⟩
  ·rename_i hu;simp only[zdF] at h;subst h;exact⟨⟨_,hu⟩,λx=>by simp[enc,AV.isAgg,qY,hu]⟩
  ·cases h
theorem DR {t:TypeId}{te:Ty}(h:vo P 12 t=some te)(hs:te.size=P.cellsOf t)(x:te.den):sx P t (enc te x)=true:=by
 obtain⟨⟨d,hd⟩,h2⟩:=DQ 12 t te h;simp only[sx,zdH,beq_iff_eq,zdN];exact⟨⟨⟨Bd _ _,h2 x⟩,by rw[nF,hs]⟩,by rw[hd];rfl⟩
theorem z5 {sz:Nat}: ∀(l:List AV),(∀v∈l,v.size=sz)->AV.dR l=l.length*sz
 | [],_=>by simp[AV.dR]
 |x::xs,h=>by
  have ih:=z5 xs λv hv=>h v (zdL _ hv);simp only[AV.dR,zdJ,ih,h x (zdM ..),zdT];omega
theorem L0 {dst ty pos after guard}{t:TypeId}{x ix:Operand}{st:St}{k:AV->St->Option α}{r:α}(h:Hy P st t (st.ev x) (st.ev ix) k=some r):nW P base ⟨dst, .index t x ix,ty,pos,after,guard⟩ st k r:=by
 unfold Hy at h;obtain⟨ki,n,ei,h⟩:=qH h;split at h
 ·rename_i m te xs e1
  replace h:=jk h;obtain⟨z6,h⟩:=h
  replace h:=ji h;obtain⟨h0,h⟩:=h
  split at h
  ·rename_i y hy
   unfold Rz at z6;split at z6
   ·rename_i m' e hu
    simp only[zdH,zdN] at z6;obtain⟨rfl,z6⟩:=z6;split at z6
    ·rename_i Yo Oc
     simp only[zdH,zdN] at z6;obtain⟨rfl,hsz⟩:=z6;refine⟨_,_,h,ll.pure λN D w a s=>?_⟩;obtain⟨cells,h1,h2,h3⟩:=vr.1 (s.uB e1);have la:=DR Oc hsz.symm y;obtain⟨⟨d,hd⟩,_⟩:=DQ 12 e _ Oc;obtain⟨i,hi⟩:=info_of_underlying hd;obtain⟨c,h4,h5⟩:=tY (P:=P) (N:=N) (off:=n.toNat*Yo.size) la ((kH Yo y _).2 (h3.2 n.toNat y hy));refine⟨c,?_,h5⟩;simp only[execOp,s.sV ei,h1,Instr.index,asIntOf,zd0,zd2,zd1,run_underlying hu,h0,and_self,if_true,run_sizeOf w hi,hsz,h4]
    ·cases z6
   ·cases z6
  ·cases h
 ·rename_i fs e1
  replace h:=jk h;obtain⟨z6,h⟩:=h
  obtain⟨m,_,kQ,hm,h⟩:=wC h;rw[zep] at kQ;split at h
  ·rename_i v hv
   unfold RE at z6;split at z6
   ·rename_i m' e hu
    simp only[zdH,zdN,zej] at z6;obtain⟨rfl,z6⟩:=z6;refine⟨_,_,h,ll.pure λN D w a s=>?_⟩;obtain⟨cells,h1,h2,h3⟩:=xH.1 (s.uB e1);have la:=z6 v (zeB hv);obtain⟨_,_,hsz,d,hd⟩:=rR la;obtain⟨i,hi⟩:=info_of_underlying hd;have YE:AV.dR (fs.take m)=m*P.cellsOf e:=by
     have:=z5 (sz:=P.cellsOf e) (fs.take m) λu hu'=>(rR (z6 u (zeC hu'))).2.2.1;rw[this,zd3,zeD (Nat.le_of_lt kQ)]
    have hr:=qE fs m v _ hv h3;rw[YE] at hr;obtain⟨c,h4,h5⟩:=tY (P:=P) (N:=N) (off:=m*P.cellsOf e) la hr;refine⟨c,?_,h5⟩;have hn:n.toNat=m:=by omega
    simp only[execOp,s.sV ei,h1,Instr.index,asIntOf,zd0,zd2,zd1,run_underlying hu,show(0<=n/\n<fs.length) from⟨by omega,by omega⟩,and_self,if_true,run_sizeOf w hi,hn,h4]
   ·cases z6
  ·cases h
 ·cases h
theorem rV {s:St}{x:Option Operand}{d:Int}{k:Int->Option α}{r:α}(h:Hr s x d k=some r): ∃n,k n=some r/\((x=none/\n=d)\/∃o ki,x=some o/\s.ev o= .val (.int ki n)):=by
 unfold Hr at h;split at h
 ·exact⟨d,h, .inl ⟨rfl,rfl⟩⟩
 ·obtain⟨ki,n,e,h⟩:=qH h
  exact⟨n,h, .inr ⟨_,ki,rfl,e⟩⟩
def mQ (v:Option Value)(d n:Int):Prop:=(v=none/\n=d)\/∃ki,v=some (.int ki n)
theorem mQ.of {N:Names}{D:Nat->Prop}{w:World}{st:St}{a:Act}(s:kp N D w base st a){x:Option Operand}{d n:Int}(h:(x=none/\n=d)\/∃o ki,x=some o/\st.ev o= .val (.int ki n)):mQ (x.map a.eval) d n:=by
 rcases h with⟨rfl,rfl⟩|⟨o,ki,rfl,e⟩
 ·exact .inl ⟨rfl,rfl⟩
 ·exact .inr ⟨ki,by simp[s.sV e]⟩
theorem zm {lo hi:Option Value}{l h:Int}{sl:Bool}{len cap:Nat}(hl:mQ lo 0 l)(hh:mQ hi len h)(h0:0<=l)(h1:l<=h)(h2:h<=cap)(w:World):
  (Instr.sliceBounds sl len cap lo hi none).run P w= .ok (l.toNat,h.toNat,cap) w:=by
 have hbh: ∀(y:Nat) ki code,(h<=y)->(Instr.sliceBound (.int ki h) y code).run P w= .ok h.toNat w:=λy ki code hy=>run_sliceBound w ki h y code (by omega) hy
 have hbl: ∀ki code,(Instr.sliceBound (.int ki l) h.toNat code).run P w= .ok l.toNat w:=λki code=>run_sliceBound w ki l h.toNat code h0 (by omega)
 rcases hl with⟨rfl,rfl⟩|⟨kl,rfl⟩<;>rcases hh with⟨rfl,rfl⟩|⟨kh,rfl⟩
 ·simp[Instr.sliceBounds]
 ·simp[Instr.sliceBounds,hbh cap kh _ h2]
 ·have:=run_sliceBound (P:=P) w kl l len .sliceB h0 h1
  simp[Instr.sliceBounds,this]
 ·simp[Instr.sliceBounds,hbh cap kh _ h2,hbl]
theorem nY {t e:TypeId}{i:TypeInfo}(hu:P.underlying t=some (.slice e))(hi:P.info? e=some i){lo nb:Option Value}{l h:Int}{a:Option Addr}{len cap:Nat}(hl:mQ lo 0 l)(hh:mQ nb len h)(h0:0<=l)(h1:l<=h)(h2:h<=cap)(w:World):
  (Instr.sliceAt t (.slice a len cap) lo nb none).run P w= .ok (.slice (if cap=l.toNat then a else a.map (·.add (l.toNat*P.cellsOf e))) (h.toNat-l.toNat) (cap-l.toNat)) w:=by
 simp only[Instr.sliceAt,zd0,run_underlying hu,zd1,Instr.slice,zm hl hh h0 h1 h2,run_sizeOf w hi,zd2]
theorem L1 {t e:TypeId}{i:TypeInfo}{m:Nat}(hu:P.underlying t=some (.array m e))(hi:P.info? e=some i){lo nb:Option Value}{l h:Int}{a:Addr}(hl:mQ lo 0 l)(hh:mQ nb m h)(h0:0<=l)(h1:l<=h)(h2:h<=m)(w:World):
  (Instr.sliceAt t (.pointer (some a)) lo nb none).run P w= .ok (.slice (some (if m=l.toNat then a else a.add (l.toNat*P.cellsOf e))) (h.toNat-l.toNat) (m-l.toNat)) w:=by
 simp only[Instr.sliceAt,zd0,run_underlying hu,zd1,Instr.sureAddr,zm hl hh h0 h1 h2,run_sizeOf w hi,zd2]
theorem JH {t t' e:TypeId}{i:TypeInfo}{m:Nat}(ht:P.underlying t=some (.pointer t'))(hu:P.underlying t'=some (.array m e))(hi:P.info? e=some i){lo nb:Option Value}{l h:Int}{a:Addr}(hl:mQ lo 0 l)(hh:mQ nb m h)(h0:0<=l)(h1:l<=h)(h2:h<=m)(w:World):
  (Instr.sliceAt t (.pointer (some a)) lo nb none).run P w= .ok (.slice (some (if m=l.toNat then a else a.add (l.toNat*P.cellsOf e))) (h.toNat-l.toNat) (m-l.toNat)) w:=by
 simp only[Instr.sliceAt,zd0,run_underlying ht,run_underlying hu,zd1,Instr.slice,asAddr,zm hl hh h0 h1 h2,run_sizeOf w hi,zd2]
theorem B2 {t:TypeId}{m n:Nat}(ht:C3 P t m n=true){lo nb:Option Value}{l h:Int}{a:Addr}(hl:mQ lo 0 l)(hh:mQ nb m h)(h0:0<=l)(h1:l<=h)(h2:h<=m)(w:World):
  (Instr.sliceAt t (.pointer (some a)) lo nb none).run P w= .ok (.slice (some (if m=l.toNat then a else a.add (l.toNat*n))) (h.toNat-l.toNat) (m-l.toNat)) w:=by
 unfold C3 at ht;split at ht
 ·rename_i t' hp
  obtain⟨e,i,hu,hi,rfl⟩:=sD ht;exact JH hp hu hi hl hh h0 h1 h2 w
 ·obtain⟨e,i,hu,hi,rfl⟩:=sD ht
  exact L1 hu hi hl hh h0 h1 h2 w
theorem vA {b:Addr}{o n len room:Nat}{a:Addr}{l h:Nat}(h1:l<=h)(h2:h<=len)(h3:len<=room)(ha:a=Addr.at_ b o\/room=0):
  LJ (Addr.at_ b (o+l*n)) (h-l) (room-l) (.slice (if room=l then some a else(some a).map (·.add (l*n))) (h-l) (room-l)):=by
 by_cases e:room=l
 ·rw[if_pos e]
  exact⟨a,room-l,rfl,by omega,rfl, .inr (by omega)⟩
 ·rw[if_neg e]
  rcases ha with rfl|ha
  ·exact⟨_,room-l,rfl,by omega,rfl, .inl (xO _ _ _)⟩
  ·omega
end AM
namespace AM
open Go
variable {α:Type}{P:Program}{base:Nat}
theorem Gr {s:St}{id:Nat}{p:List Step}{off len:Nat}{N:Names}{D:Nat->Prop}{w:World}(S:jU N D w base s.h){nm:Nm}(hn:N id=some nm)(hp:(nm.row&&p.isEmpty)=true):Gl s id p off len=nm.len-off\/Gl s id p off len=len:=by
 unfold Gl;split
 ·rename_i xs ho
  obtain⟨mM,h1,_,_,h4,_⟩:=S.obj id _ ho;rw[hn] at h1;cases h1;exact .inl (by rw[h4])
 ·exact .inr rfl
theorem PI {s:St}{id:Nat}{p:List Step}{off len:Nat}{N:Names}{D:Nat->Prop}{w:World}(S:jU N D w base s.h){nm:Nm}(hn:N id=some nm)(hp: ¬(nm.row&&p.isEmpty)=true):Gl s id p off len=len:=by
 unfold Gl;split
 ·rename_i xs ho
  obtain⟨mM,h1,h2,_⟩:=S.obj id _ ho;rw[hn] at h1;cases h1;simp[h2] at hp
 ·rfl
theorem L2 {dst ty pos after guard}{t:TypeId}{x:Operand}{lo hj:Option Operand}{st:St}{k:AV->St->Option α}{r:α}(h:Hz P st t (st.ev x) lo hj k=some r):nW P base ⟨dst, .slice t x lo hj none,ty,pos,after,guard⟩ st k r:=by
 unfold Hz at h;obtain⟨l,h,hl⟩:=rV h;split at h
 ·rename_i te xs e1
  replace h:=jk h;obtain⟨wu,h⟩:=h
  obtain⟨hh,h,Lo⟩:=rV h;replace h:=ji h;obtain⟨⟨h0,h1,h2⟩,h⟩:=h
  obtain⟨e,i,hu,hi,hsz⟩:=nS wu;have L3:Yq (β:=te.den) lo hj l hh xs=(xs.take hh.toNat).drop l.toNat:=by
   rcases hl with⟨rfl,rfl⟩|⟨o,ki,rfl,_⟩<;>rcases Lo with⟨rfl,rfl⟩|⟨o',ki',rfl,_⟩<;>simp[Yq]
  rw[L3] at h;refine⟨_,_,h,ll.pure λN D w a s=>?_⟩;obtain⟨ba,cap,g1,g2,g3,g4⟩:=uL.1 (s.uB e1);simp only[zdF] at g1;have jG:=nY (P:=P) (a:=ba) (len:=aQ (β:=te.den) xs) (cap:=cap) hu hi (mQ.of s hl) (mQ.of s Lo) h0 h1 (by simp only[aQ] at g2⊢;omega) w
  refine⟨_,by simp only[execOp,g1,zd0,zeE,jG,zd1,zd2];rfl,uL.2 ?_⟩
  have hlen:aQ (β:=te.den) ((xs.take hh.toNat).drop l.toNat)=hh.toNat-l.toNat:=by
   simp only[aQ,zd4,zd3];simp only[aQ] at g2;omega
  refine⟨_,_,by rw[hlen],by rw[hlen];simp only[aQ] at g2;omega,?_,?_⟩
  ·intro hn
   split at hn
   ·rw[g3 hn];omega
   ·cases hb:ba with
    |none=>rw[g3 hb];omega
    |some b=>rw[hb] at hn;cases hn
  ·intro ad FK lF
   rw[hlen] at lF;split at FK
   ·exfalso;simp only[aQ] at g2;omega
   ·cases hb:ba with
    |none=>rw[hb] at FK;cases FK
    |some b=>
     rw[hb] at FK;simp only[zdO,zdF] at FK;obtain⟨f1,f2,f3⟩:=g4 b hb (by simp only[aQ];omega)
     obtain⟨bb,oo,sp⟩:=b;simp only at f1;subst f1;rw[ow] at FK;subst FK;refine⟨rfl,f2,λj y hy=>?_⟩;have hy':jT (β:=te.den) xs (l.toNat+j)=some y:=by
      simp only[jT] at hy⊢;rw[zd6,zd5] at hy;split at hy
      ·exact hy
      ·cases hy
     have:=f3 _ y hy';rw[hsz];have e2:(λq=>aX w ⟨bb,oo,none⟩ ((l.toNat+j)*te.size+q))=λq=>aX w ⟨bb,oo+l.toNat*te.size,none⟩ (j*te.size+q):=by
      funext q;simp only[aX,zdT,zdU]
     rw[<-e2];exact this
 ·rename_i e1
  replace h:=jk h;obtain⟨wu,h⟩:=h
  obtain⟨hh,h,Lo⟩:=rV h;obtain⟨⟨CF,hh0⟩,hk⟩:=ji h;subst CF;subst hh0;unfold Xp at wu;split at wu
  ·rename_i e hu
   obtain⟨i,hi⟩:=Option.isSome_iff_exists.1 wu;refine⟨_,_,hk,ll.pure λN D w a s=>?_⟩;have jG:=nY (P:=P) (a:=none) (len:=0) (cap:=0) hu hi (mQ.of s hl) (mQ.of s Lo) (zeF _) (zeF _) (zeF _) w;exact⟨_,by simp only[execOp,s.sV e1,zd0,zeE,jG,zd1,zd2];rfl,dY.2 (by simp)⟩
  ·cases wu
 ·rename_i id off e1
  split at h
  ·rename_i ro te xs ho
   replace h:=jk h;obtain⟨wu,h⟩:=h
   obtain⟨e,i,hu,hi,hsz⟩:=nS wu;split at h
   ·replace h:=ji h;obtain⟨⟨h0,h1⟩,h⟩:=h
    refine⟨_,_,h,ll.pure λN D w a s=>?_⟩;have hv:=s.uB e1;unfold ck at hv;simp only[AV.isAgg,jv,ar] at hv;obtain⟨nm,g1,g2,g3,g4,g5⟩:=hv;obtain⟨mM,i1,i2,i3,i4,_⟩:=s.ny.obj id _ ho;rw[g1] at i1;cases i1;cases hb:nm.base with
    |none=>
     rw[hb] at g5;obtain⟨g5,g6⟩:=g5;simp only[zdF] at g6;have CF:l=0:=by simp only[aQ] at i4;omega
     subst CF;have jG:=nY (P:=P) (a:=none) (len:=0) (cap:=0) hu hi (mQ.of s hl) (nb:=none) (.inl ⟨rfl,rfl⟩) (zeF _) (zeF _) (zeF _) w;refine⟨_,by simp only[execOp,g6,zd0,zeE,jG,zd1,zd2];rfl,?_⟩
     unfold ck;simp only[AV.isAgg,jv,ar];refine⟨nm,g1,g2,by simpa using g3,g4,?_⟩
     rw[hb];exact⟨g5,by simp⟩
    |some ba=>
     rw[hb] at g5;obtain⟨v,room,g6,g7,a',cap,rfl,g8,rfl,g9⟩:=g5;simp only[zdF] at g6;have hlen:(l:Int)<=((nm.len-off:Nat):Int):=by rw[i4];exact h1
     have jG:=nY (P:=P) (a:=some a') (len:=nm.len-off) (cap:=cap) hu hi (mQ.of s hl) (nb:=none) (h:=((nm.len-off:Nat):Int)) (.inl ⟨rfl,rfl⟩) h0 hlen (by omega) w
     refine⟨_,by simp only[execOp,g6,zd0,zeE,jG,zd1,zd2];rfl,?_⟩
     unfold ck;simp only[AV.isAgg,jv,ar];refine⟨nm,g1,g2,by omega,g4,?_⟩
     rw[hb];have:=vA (b:=ba) (n:=nm.sh.size) (l:=l.toNat) (h:=nm.len-off) (by omega) (zdV _) g8 g9
     refine⟨_,cap-l.toNat,rfl,by omega,?_⟩
     rw[zdB,hsz,show nm.len-(l.toNat+off)=nm.len-off-l.toNat by omega,show(l.toNat+off)*nm.sh.size=off*nm.sh.size+l.toNat*nm.sh.size by rw[zdT,zes]]
     rw[i3,iH] at this⊢;exact this
   ·rename_i nb
    obtain⟨kh,hh,eh,h⟩:=qH h;replace h:=ji h;obtain⟨⟨h0,h1,h2⟩,h⟩:=h
    refine⟨_,_,h,ll.pure λN D w a s=>?_⟩;have hv:=s.uB e1;unfold ck at hv;simp only[AV.isAgg,jv,ar] at hv;obtain⟨nm,g1,g2,g3,g4,g5⟩:=hv;obtain⟨mM,i1,i2,i3,i4,_⟩:=s.ny.obj id _ ho;rw[g1] at i1;cases i1;cases hb:nm.base with
    |none=>
     rw[hb] at g5;obtain⟨g5,g6⟩:=g5;simp only[zdF] at g6;have CF:l=0/\hh=0:=by simp only[aQ] at i4;omega
     obtain⟨rfl,rfl⟩:=CF;have jG:=nY (P:=P) (a:=none) (len:=0) (cap:=0) hu hi (mQ.of s hl) (nb:=some (.int kh 0)) (.inr ⟨kh,rfl⟩) (zeF _) (zeF _) (zeF _) w;refine⟨_,by simp only[execOp,g6,zd0,zeE,zdO,s.sV eh,jG,zd1,zd2];rfl,?_⟩
     unfold ck;simp only[AV.isAgg,jv,ar];refine⟨nm,g1,?_⟩;rw[hb];exact⟨by simp[g2],by simp;omega,by simp,g5,by simp⟩
    |some ba=>
     rw[hb] at g5;obtain⟨v,room,g6,g7,a',cap,rfl,g8,rfl,g9⟩:=g5;simp only[zdF] at g6;have hlen:(hh:Int)<=((nm.len-off:Nat):Int):=by rw[i4];exact h2
     have jG:=nY (P:=P) (a:=some a') (len:=nm.len-off) (cap:=cap) hu hi (mQ.of s hl) (nb:=some (.int kh hh)) (.inr ⟨kh,rfl⟩) h0 h1 (by omega) w
     refine⟨_,by simp only[execOp,g6,zd0,zeE,zdO,s.sV eh,jG,zd1,zd2];rfl,?_⟩
     unfold ck;simp only[AV.isAgg,jv,ar];refine⟨nm,g1,?_⟩;rw[hb];simp only;rw[if_pos (by simp[g2])]
     have:=vA (b:=ba) (n:=nm.sh.size) (l:=l.toNat) (h:=hh.toNat) (by omega) (by omega) g8 g9
     refine⟨by omega,g4,_,cap-l.toNat,rfl,by omega,by omega,?_⟩
     rw[hsz,show(l.toNat+off)*nm.sh.size=off*nm.sh.size+l.toNat*nm.sh.size by rw[zdT,zes],show(hh-l).toNat=hh.toNat-l.toNat by omega]
     rw[i3,iH] at this⊢;exact this
  ·cases h
 ·rename_i id p off len e1
  split at h
  ·rename_i m YB
   replace h:=jk h;obtain⟨wu,h⟩:=h
   obtain⟨hh,h,Lo⟩:=rV h;replace h:=ji h;obtain⟨⟨h0,h1,h2⟩,h⟩:=h
   obtain⟨e,i,hu,hi,hsz⟩:=nS wu;refine⟨_,_,h,ll.pure λN D w a s=>?_⟩;have hv:=s.uB e1;unfold ck at hv;simp only[AV.isAgg,jv,ar] at hv;obtain⟨nm,g1,g3⟩:=hv;cases g2:nm.base with
   |none=>
    rw[g2] at g3;obtain⟨g3,rfl,rfl,g4,g6⟩:=g3;simp only[zdF] at g6;have hrm:=Gr (p:=p) (off:=0) (len:=0) s.ny g1 g3;have CF:l=0/\hh=0:=by omega
    obtain⟨rfl,rfl⟩:=CF;have jG:=nY (P:=P) (a:=none) (len:=0) (cap:=0) hu hi (mQ.of s hl) (mQ.of s Lo) (zeF _) (zeF _) (zeF _) w;refine⟨_,by simp only[execOp,g6,zd0,zeE,jG,zd1,zd2];rfl,?_⟩
    unfold ck;simp only[AV.isAgg,jv,ar];refine⟨nm,g1,?_⟩;rw[g2];exact⟨g3,by simp,by simp,g4,by simp⟩
   |some ba=>
   rw[g2] at g3;simp only at g3;rcases B1 YB s.ny g1 with⟨hp,HP⟩|⟨hp,m',e',HP,YC⟩
   ·rw[if_pos hp] at g3
    obtain⟨g4,g5,v,room,g6,g7,g8,a',cap,rfl,g9,rfl,YD⟩:=g3;simp only[zdF] at g6;have hrm:=Gr (off:=off) (len:=len) s.ny g1 hp;have jG:=nY (P:=P) (a:=some a') (len:=len) (cap:=cap) hu hi (mQ.of s hl) (mQ.of s Lo) h0 h1 (by omega) w
    refine⟨_,by simp only[execOp,g6,zd0,zeE,jG,zd1,zd2];rfl,?_⟩
    unfold ck;simp only[AV.isAgg,jv,ar];refine⟨nm,g1,?_⟩;rw[g2];simp only;rw[if_pos hp];have:=vA (b:=ba) (n:=nm.sh.size) (l:=l.toNat) (h:=hh.toNat) (len:=cap) (by omega) (by omega) (zdV _) YD
    refine⟨by omega,g5,_,cap-l.toNat,rfl,by omega,by omega,?_⟩
    rw[hsz,show(l.toNat+off)*nm.sh.size=off*nm.sh.size+l.toNat*nm.sh.size by rw[zdT,zes],show(hh-l).toNat=hh.toNat-l.toNat by omega]
    rw[HP] at this⊢;exact this
   ·rw[if_neg hp] at g3
    obtain⟨o,m2,e2,v,room,g4,JG,g7,g8,g9,a',cap,rfl,YD,rfl,g11⟩:=g3;simp only[zdF] at g8;rw[JG] at HP;cases HP;rw[PI s.ny g1 hp] at h2;have jG:=nY (P:=P) (a:=some a') (len:=len) (cap:=cap) hu hi (mQ.of s hl) (mQ.of s Lo) h0 h1 (by omega) w
    refine⟨_,by simp only[execOp,g8,zd0,zeE,jG,zd1,zd2];rfl,?_⟩
    unfold ck;simp only[AV.isAgg,jv,ar];refine⟨nm,g1,?_⟩;rw[g2];simp only;rw[if_neg hp];have:=vA (b:=ba) (n:=e'.size) (l:=l.toNat) (h:=hh.toNat) (by omega) (by omega) YD g11
    refine⟨o,m',e',_,cap-l.toNat,g4,JG,by omega,rfl,by omega,?_⟩
    rw[hsz,show o+(l.toNat+off)*e'.size=o+off*e'.size+l.toNat*e'.size by rw[zdT,zdU,zes (l.toNat*e'.size)],show(hh-l).toNat=hh.toNat-l.toNat by omega]
    rw[YC] at this⊢;exact this
  ·cases h
 ·rename_i id p e1
  split at h
  ·rename_i m e' hs
   replace h:=jk h;obtain⟨wu,h⟩:=h
   obtain⟨hh,h,Lo⟩:=rV h;replace h:=ji h;obtain⟨⟨h0,h1,h2⟩,h⟩:=h
   refine⟨_,_,h,ll.pure λN D w a s=>?_⟩;obtain⟨nm,ad,o,g1,g2,g3,g4⟩:=jq.1 (s.uB e1);have JG:=nR hs s.ny g1;have jG:=B2 (P:=P) (a:=Addr.at_ ad o) wu (mQ.of s hl) (mQ.of s Lo) h0 h1 h2 w;refine⟨_,by simp only[execOp,g4,zd0,zeE,jG,zd1,zd2];rfl,?_⟩
   unfold ck;simp only[AV.isAgg,jv,ar];refine⟨nm,g1,?_⟩;rw[g2];simp only;have hp: ¬(nm.row&&p.isEmpty)=true:=by
    intro hp;simp only[zdH,zea] at hp;simp[Nm.Lj,hp.1,hp.2] at JG
   rw[if_neg hp];have:=vA (b:=ad) (o:=o) (n:=e'.size) (l:=l.toNat) (h:=hh.toNat) (len:=m) (room:=m) (a:=Addr.at_ ad o) (by omega) (by omega) (zdV _) (.inl rfl)
   refine⟨o,m,e',_,m-l.toNat,g3,JG,by omega,rfl,by omega,?_⟩
   rw[show(hh-l).toNat=hh.toNat-l.toNat by omega]
   by_cases hm:m=l.toNat
   ·rw[if_pos hm] at this⊢;exact this
   ·rw[if_neg hm] at this⊢;exact this
  ·cases h
 ·rename_i m te xs e1
  replace h:=jk h;obtain⟨wu,h⟩:=h
  obtain⟨hh,h,Lo⟩:=rV h;replace h:=ji h;obtain⟨⟨h0,h1,h2⟩,h⟩:=h
  refine⟨_,_,h,ll.pure λN D w a s=>?_⟩;obtain⟨ad,g1,g2,g3,g4⟩:=qG.1 (s.uB e1);have jG:=B2 (P:=P) (a:=ad) wu (mQ.of s hl) (mQ.of s Lo) h0 h1 h2 w;refine⟨_,by simp only[execOp,g1,zd0,zeE,jG,zd1,zd2];rfl,uL.2 ?_⟩
  simp only[ar] at g4;obtain⟨g5,g6⟩:=g4;have hlen:aQ (β:=te.den) ((xs.take hh.toNat).drop l.toNat)=hh.toNat-l.toNat:=by
   simp only[aQ,zd4,zd3];simp only[aQ] at g5;omega
  refine⟨_,_,by rw[hlen],by rw[hlen];omega,λh=>(by cases h),?_⟩
  intro ad' FK lF;rw[hlen] at lF;rw[if_neg (by omega)] at FK
  simp only[zdF] at FK;obtain⟨bb,oo,sp⟩:=ad;simp only at g2;subst g2;rw[ow] at FK;subst FK;refine⟨rfl,g3,λj y hy=>?_⟩;have hy':jT (β:=te.den) xs (l.toNat+j)=some y:=by
   simp only[jT] at hy⊢;rw[zd6,zd5] at hy;split at hy
   ·exact hy
   ·cases hy
  have:=g6 _ y hy';have e2:(λq=>aX w ⟨bb,oo,none⟩ ((l.toNat+j)*te.size+q))=λq=>aX w ⟨bb,oo+l.toNat*te.size,none⟩ (j*te.size+q):=by
   funext q;simp only[aX,zdT,zdU]
  rw[<-e2];exact this
 ·cases h
theorem JI {dst ty pos after guard}{t:TypeId}{x mx:Operand}{lo hj:Option Operand}{st:St}{k:AV->St->Option α}{r:α}(h:DB P st t (st.ev x) lo hj mx k=some r):nW P base ⟨dst, .slice t x lo hj (some mx),ty,pos,after,guard⟩ st k r:=by
 unfold DB at h;obtain⟨l,h,hl⟩:=rV h;split at h
 ·cases h
 obtain⟨kh,hh,eh,h⟩:=qH h;obtain⟨km,m,em,h⟩:=qH h;split at h
 ·rename_i id off e1
  split at h
  ·rename_i ro te xs ho
   replace h:=jk h;obtain⟨wu,h⟩:=h
   obtain⟨e,i,hu,hi,hsz⟩:=nS wu;replace h:=ji h;obtain⟨⟨h0,h1,h2,h3⟩,h⟩:=h
   refine⟨_,_,h,ll.pure λN D w a s=>?_⟩;have hv:=s.uB e1;unfold ck at hv;simp only[AV.isAgg,jv,ar] at hv;obtain⟨nm,g1,g2,g3,g4,g5⟩:=hv;obtain⟨mM,i1,i2,i3,i4,_⟩:=s.ny.obj id _ ho;rw[g1] at i1;cases i1;have hx: ∃b n c,a.eval x= .slice b n c/\m<=c:=by
    cases hb:nm.base with
    |none=>
     rw[hb] at g5;obtain⟨g5,g6⟩:=g5;simp only[zdF] at g6;exact⟨_,_,_,g6,by simp only[aQ] at i4;omega⟩
    |some ba=>
     rw[hb] at g5;obtain⟨v,room,g6,g7,a',cap,rfl,g8,rfl,g9⟩:=g5;simp only[zdF] at g6;exact⟨_,_,_,g6,by simp only[aQ] at i4;omega⟩
   obtain⟨b,n,c,hx,hmc⟩:=hx;have r1:(Instr.sliceBound (.int km m) c .slice3Acap).run P w= .ok m.toNat w:=run_sliceBound w km m c .slice3Acap (by omega) hmc
   have r2:(Instr.sliceBound (.int kh hh) m.toNat .slice3B).run P w= .ok hh.toNat w:=run_sliceBound w kh hh m.toNat .slice3B (by omega) (by omega)
   have hb:(Instr.sliceBounds true n c (lo.map a.eval) (some (.int kh hh)) (some (.int km m))).run P w= .ok (l.toNat,hh.toNat,m.toNat) w:=by
    rcases mQ.of s hl with⟨q1,rfl⟩|⟨kl,q1⟩
    ·rw[q1];simp[Instr.sliceBounds,r1,r2]
    ·have r3:(Instr.sliceBound (.int kl l) hh.toNat .slice3C).run P w= .ok l.toNat w:=run_sliceBound w kl l hh.toNat .slice3C h0 (by omega)
     rw[q1];simp[Instr.sliceBounds,r1,r2,r3]
   refine⟨_,by simp only[execOp,hx,zd0,zdO,s.sV eh,s.sV em,Instr.sliceAt,run_underlying hu,zd1,Instr.slice,hb,run_sizeOf w hi,zd2];rfl,pc⟩
  ·cases h
 ·cases h
end AM
namespace AM
open Go
variable {α:Type}{P:Program}{base:Nat}
def dX (N:Names)(D:Nat->Prop)(w:World)(t:Ty)(xs:List t.den)(g:Nat->Option Value):Prop:= ∀i (x:t.den),jT (β:=t.den) xs i=some x->iw N D w t x (λj=>g (i*t.size+j))
theorem RX {i n s j:Nat}(hi:i<n)(hj:j<s):i*s+j<n*s:=by
 have:(i+1)*s<=n*s:=zdS _ hi;rw[zdT] at this;omega
theorem iw.func {N:Names}{D:Nat->Prop}{w:World}{t:Ty}{x:t.den}{g g':Nat->Option Value}(h:iw N D w t x g)(e: ∀j,g j=g' j):iw N D w t x g':=by
 rw[<-funext e];exact h
section
variable {N:Names}{D:Nat->Prop}{w:World}{t:Ty}
theorem yu {xs:List t.den}{i:Nat}{x:t.den}(h:jT (β:=t.den) xs i=some x):i<aQ (β:=t.den) xs:=(List.getElem?_eq_some_iff.1 h).1
theorem dX.congr {xs:List t.den}{g g':Nat->Option Value}(h:dX N D w t xs g)(e: ∀j,j<aQ (β:=t.den) xs*t.size->g j=g' j):dX N D w t xs g':=
 λi x hx=>jh t x _ _ (λj hj=>e _ (RX (yu hx) hj)) (h i x hx)
theorem dX.mono {D':Nat->Prop}{w':World}{xs:List t.den}{g:Nat->Option Value}(h:dX N D w t xs g)(hD: ∀b,D b->D' b)(hw: ∀b,D b->w'.heap[b]?=w.heap[b]?):dX N D' w' t xs g:=
 λi x hx=>kt (Names.le_refl _) hD hw _ _ _ (h i x hx)
theorem dX.Od {N':Names}{D':Nat->Prop}{w':World}{xs:List t.den}{g:Nat->Option Value}(h:dX N D w t xs g)(hN:N.le N')(hD: ∀b,D b->D' b)(hw: ∀b,D b->w'.heap[b]?=w.heap[b]?):dX N' D' w' t xs g:=
 λi x hx=>kt hN hD hw _ _ _ (h i x hx)
theorem dX.cell {xs:List t.den}{g:Nat->Option Value}(h:dX N D w t xs g){j:Nat}(hj:j<aQ (β:=t.den) xs*t.size): ∃c,g j=some c/\c.oneCell'=true:=
 rQ (.arr (aQ (β:=t.den) xs) t) xs g ⟨rfl,h⟩ j hj
theorem dX.cells {xs:List t.den}{g:Nat->Option Value}(h:dX N D w t xs g): ∃cs:List Value,cs.length=aQ (β:=t.den) xs*t.size/\(∀j v,cs[j]?=some v->g j=some v)/\dX N D w t xs (cs[·]?)/\∀v∈cs,v.oneCell'=true:=by
 refine⟨(List.range (aQ (β:=t.den) xs*t.size)).map λj=>(g j).getD Go.undef,by simp,λj v hv=>?_,h.congr λj hj=>?_,λv hv=>?_⟩
 ·simp only[zeG,zew] at hv
  obtain⟨i,hi,rfl⟩:=hv;obtain⟨hi1,hi2⟩:=List.getElem?_eq_some_iff.1 hi;simp at hi1 hi2;subst hi2;obtain⟨c,h1,_⟩:=h.cell hi1;rw[h1];rfl
 ·obtain⟨c,h1,_⟩:=h.cell hj
  simp[hj,h1]
 ·simp only[List.mem_map,List.mem_range] at hv
  obtain⟨j,hj,rfl⟩:=hv;obtain⟨c,h1,h2⟩:=h.cell hj;rw[h1];exact h2
theorem dX.nil {g:Nat->Option Value}:dX N D w t [] g:=λi x hx=>by simp[jT] at hx
theorem dX.append {xs ys:List t.den}{g:Nat->Option Value}(h1:dX N D w t xs g)(h2:dX N D w t ys (λj=>g (aQ (β:=t.den) xs*t.size+j))):dX N D w t (xs++ys:List t.den) g:=by
 intro i x hx;by_cases hi:i<aQ (β:=t.den) xs
 ·exact h1 i x (by simp only[jT] at hx⊢;rwa [zeq hi] at hx)
 ·have BX:jT (β:=t.den) ys (i-aQ (β:=t.den) xs)=some x:=by
   simp only[jT] at hx⊢;rwa [zer (Nat.le_of_not_lt hi)] at hx
  have:=h2 _ x BX;refine this.func λj=>?_;simp only;rw[<-zdU,<-zdT,Nat.add_sub_cancel' (Nat.le_of_not_lt hi)]
theorem dX.rr {xs ys:List t.den}{cs ds:List Value}(h1:dX N D w t xs (cs[·]?))(hl:cs.length=aQ (β:=t.den) xs*t.size)(h2:dX N D w t ys (ds[·]?)):dX N D w t (xs++ys:List t.den) ((cs++ds)[·]?):=by
 refine dX.append (h1.congr λj hj=>?_) ?_
 ·rw[zeq (by omega)]
 ·have e:(λj=>(cs++ds)[aQ (β:=t.den) xs*t.size+j]?)=(ds[·]?):=by
   funext j
   rw[<-hl,zer (by omega),Nat.add_sub_cancel_left]
  rw[e];exact h2
theorem dX.more {xs:List t.den}{cs ds:List Value}(h1:dX N D w t xs (cs[·]?))(hl:cs.length=aQ (β:=t.den) xs*t.size):dX N D w t xs ((cs++ds)[·]?):=
 h1.congr λj hj=>by rw[zeq (by omega)]
theorem dX.take {xs:List t.den}{g:Nat->Option Value}(n:Nat)(h:dX N D w t xs g):dX N D w t (xs.take n:List t.den) g:=λi x hx=>h i x (by
 simp only[jT] at hx⊢;rw[zd5] at hx;split at hx
 ·exact hx
 ·cases hx)
theorem dX.drop {xs:List t.den}{g:Nat->Option Value}(n:Nat)(h:dX N D w t xs g):dX N D w t (xs.drop n:List t.den) (λj=>g (n*t.size+j)):=λi x hx=>by
 have:=h (n+i) x (by simp only[jT] at hx⊢;rwa [zd6] at hx)
 rw[show(λj=>g (n*t.size+(i*t.size+j)))=λj=>g ((n+i)*t.size+j) by funext j;rw[zdT,zdU]]
 exact this
theorem dX.JJ (n:Nat){z:Array Value}(hz:z.toList=mW t (iz t)){g:Nat->Option Value}(hg: ∀j,j<n*t.size->g j=z[j%t.size]?):dX N D w t (List.replicate n (iz t)) g:=by
 intro i x hx;have hi:i<n:=by have:=yu hx;simpa [aQ] using this
 simp only[jT,zeu,hi,if_true,zdF] at hx;subst hx;refine rS t _ λj hj=>?_;rw[hg _ (RX hi hj),Nat.mul_comm,Nat.mul_add_mod,Nat.mod_eq_of_lt hj,<-hz];simp
end
def RY (N:Names)(D:Nat->Prop)(w:World)(t:Ty)(xs:List t.den)(c:Value):Prop:= ∃a cap,c= .slice a (aQ (β:=t.den) xs) cap/\aQ (β:=t.den) xs<=cap/\(a=none->cap=0)/\∀ad,a=some ad->aQ (β:=t.den) xs≠0->ad.spot=none/\dX N D w t xs (aX w ad)
theorem wD {N:Names}{D:Nat->Prop}{w:World}{t:Ty}{xs:List t.den}{a:Addr}{off len room:Nat}{v:Value}(hx:dX N D w t xs (aX w a))
  (hv:LJ (Addr.at_ a (off*t.size)) len room v) (hl:off+len<=aQ (β:=t.den) xs):RY N D w t ((xs.drop off).take len:List t.den) v:=by
 obtain⟨a',cap,rfl,h1,rfl,h2⟩:=hv;have e:aQ (β:=t.den) ((xs.drop off).take len)=len:=by simp only[aQ,zd3,zd4];simp only[aQ] at hl;omega
 refine⟨some a',cap,by rw[e],by rw[e];exact h1,(by intro h;cases h),λad FK lF=>?_⟩
 cases FK;rw[e] at lF;rcases h2 with rfl|h2
 ·refine⟨rfl,?_⟩
  have:=(hx.drop off).take len;have e2:(λj=>aX w a (off*t.size+j))=aX w (Addr.at_ a (off*t.size)):=by
   funext j;simp only[aX,Addr.at_,zdU]
  rw[<-e2];exact this
 ·omega
theorem uP {s:St}{t:Ty}{v:AV}{k:List t.den->List Nat->Option α}{r:α}(h:qm s t v k=some r):
  ∃xs ids,k xs ids=some r/\∀N D w base,jU N D w base s.h->∀c,ck N D w v c->RY N D w t xs c:=by
 unfold qm at h;split at h
 ·rename_i t' zs
  split at h
  ·rename_i ys hc
   obtain⟨rfl,rfl⟩:=iV hc;refine⟨_,_,h,λN D w base S c hv=>?_⟩;obtain⟨a,cap,h1,h2,h3,h4⟩:=uL.1 hv;simp only[zdF] at h1;exact⟨a,cap,h1,h2,h3,λad ha lF=>⟨(h4 ad ha lF).1,(h4 ad ha lF).2.2⟩⟩
  ·cases h
 ·refine⟨_,_,h,λN D w base S c hv=>?_⟩
  rw[dY.1 hv];exact⟨none,0,rfl,by simp[aQ],λ_=>rfl,(by intro ad ha;cases ha)⟩
 ·rename_i id off
  split at h
  ·rename_i ro t' xs ho
   split at h
   ·rename_i ys hc
    obtain⟨rfl,rfl⟩:=iV hc;refine⟨_,_,h,λN D w base S c hv=>?_⟩;simp only[ck,AV.isAgg,jv,ar] at hv;obtain⟨nm,h1,h2,h3,h4,h5⟩:=hv;obtain⟨mM,e1,e2,e3,e4,e5,e6⟩:=S.obj id _ ho;rw[h1] at e1;cases e1;cases hb:nm.base with
    |none=>
     rw[hb] at h5;obtain⟨h6,h7⟩:=h5;have HI:aQ (β:=t'.den) ys=0:=by omega
     have hxe:ys=[]:=zd8 HI;subst hxe;simp only[zdF] at h7;subst h7;exact⟨none,0,by simp[aQ],by simp[aQ],λ_=>rfl,(by intro ad ha;cases ha)⟩
    |some a=>
     rw[hb] at h5 e6;obtain⟨u,room,h6,h7,h8⟩:=h5;simp only[zdF] at h6;subst h6;obtain⟨_,_,_,yr⟩:=e6;rw[e3,iH] at h8;have:=wD (off:=off) (len:=nm.len-off) yr h8 (by omega)
     rwa [zd9 (by simp only[aQ] at e4;simp;omega)] at this
   ·cases h
  ·cases h
 ·rename_i id p off len
  split at h
  ·rename_i mN
   simp only[zdH,zea] at mN;obtain⟨rfl,mN⟩:=mN;split at h;rotate_left
   ·cases h
   rename_i ro t' xs ho;split at h
   ·rename_i ys hc
    obtain⟨rfl,rfl⟩:=iV hc;refine⟨_,_,h,λN D w base S c hv=>?_⟩;simp only[ck,AV.isAgg,jv,ar] at hv;obtain⟨nm,h1,hv⟩:=hv;obtain⟨mM,e1,e2,e3,e4,e5,e6⟩:=S.obj id _ ho;rw[h1] at e1;cases e1;cases h2:nm.base with
    |none=>
     rw[h2] at hv;obtain⟨_,rfl,rfl,_,h7⟩:=hv;simp only[zdF] at h7;subst h7;exact⟨none,0,by simp[aQ],by simp[aQ],λ_=>rfl,(by intro ad ha;cases ha)⟩
    |some a=>
    rw[h2] at hv;simp only at hv;rw[if_pos (by simp[e2])] at hv
    obtain⟨h4,h5,u,room,h6,h7,h8,h9⟩:=hv;rw[h2] at e6;simp only[zdF] at h6;subst h6;obtain⟨_,_,_,yr⟩:=e6;rw[e3,iH] at h9;exact wD (off:=off) (len:=len) yr h9 (by omega)
   ·cases h
  ·rename_i mN
   obtain⟨u,h,yI,qQ⟩:=pF h;split at h;rotate_left
   ·cases h
   rename_i n t' xs;split at h;rotate_left
   ·cases h
   rename_i ys hc;obtain⟨rfl,rfl⟩:=iV hc;refine⟨_,_,h,λN D w base S c hv=>?_⟩;simp only[ck,AV.isAgg,jv,ar] at hv;obtain⟨nm,h1,hv⟩:=hv;have Ll:=xJ (by simpa using mN) yI S h1
   cases h2:nm.base with
   |none=>
    rw[h2] at hv;obtain⟨h3,_⟩:=hv;rw[Ll] at h3;cases h3
   |some a=>
    rw[h2] at hv;simp only at hv;rw[if_neg (by rw[Ll];simp)] at hv
    obtain⟨o,n',e,u,room,h3,h4,h5,h6,h7,h8⟩:=hv;simp only[zdF] at h6;subst h6;obtain⟨g1,g2,_⟩:=qQ N D w base S nm a o h1 h2 h3;simp only[ar,iw] at g2;have Ln:=A9 yI S h1;rw[h4] at Ln;simp only[AV.sh,zdF,Sh.arr.injEq] at Ln;obtain⟨rfl,rfl⟩:=Ln;have hlen:aQ (β:=t'.den) ys=n':=g2.1;refine wD (a:=Addr.at_ a o) (off:=off) (len:=len) (room:=room) (λi x hi=>?_) (by rw[iH] at h8;simpa [Addr.at_,zdU] using h8) (by omega)
    refine jh _ _ _ _ (λj _=>?_) (g2.2 i x hi);simp only[aX,Addr.at_,zdU]
 ·cases h
theorem jU.RZ {N:Names}{D:Nat->Prop}{w:World}{base:Nat}{h:Nat->Option fK}(S:jU N D w base h){id:Nat}(gX:h id=none)(nm:Nm):N.le (N.up λi=>if i=id then some nm else N i):=
 Names.RN λi mM h'=>by
 by_cases e:i=id
 ·subst e;exact absurd gX (S.named _ _ h')
 ·rw[if_neg e];exact h'
theorem jU.HQ {N:Names}{D:Nat->Prop}{w:World}{base:Nat}{h:Nat->Option fK}(S:jU N D w base h){id:Nat}{t:Ty}{xs:List t.den}(gX:h id=none)(w1:World)(cells:Array Value)(ty:TypeId)(fz:Nat×Nat)(cap:Nat)
  (hw1:w1.heap=w.heap) (RR:w1.os=w.os) (htp:w1.tape=w.tape) (jr:w1.output=w.output) (hle:aQ (β:=t.den) xs<=cap) (hsz:cap*t.size<=cells.size) (hfz:fz=(0,0)\/cells.size<=fz.1/\t= .int .u8) (hr:dX N D w t xs (cells[·]?)):
   ∃N',jU N' D (w1.alloc (.cells cells ty fz)) base (kf h id (.row false t xs))/\Ext N D w h N' D (w1.alloc (.cells cells ty fz)) (kf h id (.row false t xs))/\ck N' D (w1.alloc (.cells cells ty fz)) (.tail id 0) (.slice (some ⟨w.heap.size,0,none⟩) (aQ (β:=t.den) xs) cap):=by
 have vw:(w1.alloc (.cells cells ty fz)).heap=w.heap.push (.cells cells ty fz):=by rw[<-hw1];rfl
 have rk:(w1.alloc (.cells cells ty fz)).heap[w.heap.size]?=some (.cells cells ty fz):=by rw[vw];simp
 have mP: ∀b,b<w.heap.size->(w1.alloc (.cells cells ty fz)).heap[b]?=w.heap[b]?:=λb hb=>by rw[vw,zel,if_neg (by omega)]
 let nm:Nm:=⟨some ⟨w.heap.size,0,none⟩,sw t,true,aQ (β:=t.den) xs,cap⟩
 obtain⟨N',n1,n2,n3⟩:=S.make (w':=w1.alloc (.cells cells ty fz)) (o:= .row false t xs) (nm:=nm) gX RR htp jr (by rw[vw];simp) mP (λa ha=>by cases ha;rw[vw];simp) (by
  refine⟨nm,Names.BY,rfl,rfl,rfl,hle,?_⟩;show _/\_/\_/\_
  refine⟨rfl,⟨cells,ty,fz,rk,by simpa [nm] using hsz,λ_=>hfz⟩,?_,λi x hx=>?_⟩
  ·simp only[zdG,if_false]
   exact⟨S.size,λhd=>Nat.lt_irrefl _ (S.frozen _ hd)⟩
  ·have e:(λj=>aX (w1.alloc (.cells cells ty fz)) ⟨w.heap.size,0,none⟩ (i*t.size+j))=λj=>cells[i*t.size+j]?:=by
    funext j
    unfold aX World.cell?;rw[rk];simp
   rw[e];exact kt (S.RZ gX nm) (λ_ h=>h) (λb hb=>mP b (S.frozen b hb)) _ _ _ (hr i x hx))
 refine⟨N',n2,n3,?_⟩;unfold ck;simp only[AV.isAgg,jv,ar];refine⟨nm,n1,rfl,zeH _,hle,?_⟩;show∃v room,_
 exact⟨_,cap,rfl,by simp[nm],_,_,rfl,hle,rfl, .inl (by simp[Addr.at_])⟩
theorem z7 {s:St}{id:Nat}{o:fK}{k:St->Option α}{r:α}(h:s.new id o k=some r):s.h id=none/\k (s.set id o)=some r:=by
 unfold St.new at h;split at h
 ·exact⟨‹_›,h⟩
 ·cases h
theorem Oe {s:St}{id:Nat}{t:Ty}{xs:List t.den}{k:St->Option α}{r:α}(h:s.new id (.row false t xs) k=some r):
  ∃s',k s'=some r/\s'.t=s.t/\s'.nt=s.nt/\s'.ep=s.ep/\(∀j,j≠id->s'.h j=s.h j)/\∀N D w base,jU N D w base s.h->∀(w1:World) (cells:Array Value) (ty:TypeId) (fz:Nat×Nat) (cap:Nat),
   w1.heap=w.heap->w1.os=w.os->w1.tape=w.tape->w1.output=w.output->aQ (β:=t.den) xs<=cap->cap*t.size<=cells.size->(fz=(0,0)\/cells.size<=fz.1/\t= .int .u8)->dX N D w t xs (cells[·]?)->
   ∃N',jU N' D (w1.alloc (.cells cells ty fz)) base s'.h/\Ext N D w s.h N' D (w1.alloc (.cells cells ty fz)) s'.h/\ck N' D (w1.alloc (.cells cells ty fz)) (.tail id 0) (.slice (some ⟨w.heap.size,0,none⟩) (aQ (β:=t.den) xs) cap):=by
 obtain⟨gX,hk⟩:=z7 h;exact⟨_,hk,rfl,rfl,rfl,λj hj=>by simp[St.set,hj],λN D w base S w1 cells ty fz cap h1 h2 h3 h4 h5 h6 h7 h8=>S.HQ gX w1 cells ty fz cap h1 h2 h3 h4 h5 h6 h7 h8⟩
theorem tL: ∀(n:Nat) (t:TypeId) (te:Ty) (v:AV),vo P n t=some te->zeroOf P n t=some v->qX v=mW te (iz te)
 |0,_,_,_,h,_=>by simp[vo] at h
 |n+1,t,te,v,h1,h2=>by
  unfold vo at h1;unfold zeroOf at h2;split at h1
  ·rename_i k hu;rw[hu] at h2;simp only[zdF] at h1 h2;subst h1;subst h2;simp[qX,mW,iz]
  ·rename_i hu;rw[hu] at h2;simp only[zdF] at h1 h2;subst h1;subst h2;simp[qX,mW,iz]
  ·rename_i hu;rw[hu] at h2;simp only[zdF] at h1 h2;subst h1;subst h2;simp[qX,mW,iz]
  ·rename_i fs hu
   rw[hu] at h2;simp only[zew] at h2;obtain⟨vs,h2,rfl⟩:=h2;have key: ∀(l:List Field) (te:Ty) (vs:List AV),l.foldr (λf acc=>match vo P n f.type,acc with|some a,some b=>some (Ty.cons a b)|_,_=>none) (some .nil)=some te->
     l.foldr (λf acc=>match zeroOf P n f.type,acc with|some a,some b=>some (a::b)|_,_=>none) (some [])=some vs->rN vs=mW te (iz te):=by
    intro l;induction l with
    |nil=>intro te vs h1 h2;simp only[List.foldr_nil,zdF] at h1 h2;subst h1;subst h2;rfl
    |cons f l ih=>
     intro te vs h1 h2;simp only[zev] at h1 h2;split at h1
     ·rename_i a b g1 g2
      simp only[zdF] at h1;subst h1;split at h2
      ·rename_i a' b' g3 g4
       simp only[zdF] at h2;subst h2;simp only[rN,tL n _ _ _ g1 g3,ih _ _ g2 g4,mW,iz]
      ·cases h2
     ·cases h1
   rw[yt];exact key _ _ _ h1 h2
  ·rename_i m e hu
   rw[hu] at h2;simp only[zew] at h1;obtain⟨te1,g1,rfl⟩:=h1;simp only at h2;split at h2
   ·rename_i hs
    simp only[zdF] at h2;subst h2;have hz:zeroOf P n e=some (.val (.slice none 0 0)):=by
     unfold na at hs;split at hs
     ·rename_i e' hu'
      cases n with
      |zero=>simp[vo] at g1
      |succ n=>unfold zeroOf;rw[hu']
     ·cases hs
    have ih:=tL n e te1 _ g1 hz;have key: ∀m,rN (List.replicate m (.val (.slice none 0 0)))=(List.replicate m (iz te1)).flatMap (mW te1):=by
     intro m;induction m with
     |zero=>rfl
     |succ m ihm=>simp only[zem,rN,zen,ihm,ih]
    rw[yt,key];simp only[mW,iz]
   ·simp only[zew] at h2
    obtain⟨te2,g2,rfl⟩:=h2;rw[g1] at g2;cases g2;simp only[qX,mW,iz]
  ·rename_i e hu
   rw[hu] at h2;simp only[zew] at h1;obtain⟨te1,g1,rfl⟩:=h1;simp only[zdF] at h2;subst h2;simp[qX,mW,iz]
  ·rename_i hu;rw[hu] at h2;simp only[zdF] at h1 h2;subst h1;subst h2;simp[qX,mW,iz]
  ·cases h1
end AM
namespace AM
open Go
variable {α:Type}{P:Program}{base:Nat}
theorem qw {t e:TypeId}{te:Ty}(h:zK P t=some (e,te)):P.underlying t=some (.slice e)/\vo P 12 e=some te/\te.size=P.cellsOf e/\1<=P.bytesOf e/\∃i,P.info? e=some i/\i.size=te.size/\i.bytes=P.bytesOf e/\∃z,i.zero=some z/\z.cells.size=te.size:=by
 unfold zK at h;split at h
 ·rename_i e' hu
  split at h
  ·rename_i Yo ht
   split at h
   ·rename_i hs
    simp only[zdF,Prod.mk.injEq] at h;obtain⟨rfl,rfl⟩:=h;obtain⟨⟨d,hd⟩,_⟩:=DQ 12 _ _ ht;obtain⟨i,hi⟩:=info_of_underlying hd;refine⟨hu,ht,hs.1,hs.2.1,i,hi,?_,?_,?_⟩
    ·rw[hs.1];simp[Program.cellsOf,hi]
    ·simp[Program.bytesOf,hi]
    ·have hz:=hs.2.2
     unfold NV at hz;split at hz
     ·rename_i z hz2
      rw[hi] at hz2;exact⟨z,hz2,by simpa using hz⟩
     ·cases hz
   ·cases h
  ·cases h
 ·cases h
theorem HR:room=70368744177664:=by decide
theorem DS {dst ty pos after guard}{t:TypeId}{x y:Operand}{st:St}{id:Nat}(pQ:id=name st.ep (dst.getD 999) 0){k:AV->St->Option α}{r:α}(h:xB P st id t (st.ev x) (st.ev y) k=some r):nW P base ⟨dst, .makeSlice t x y,ty,pos,after,guard⟩ st k r:=by
 unfold xB at h;split at h
 ·rename_i e te he
  obtain⟨hu,Oc,hsz,hb,i,hi,vB,R0,_⟩:=qw he;obtain⟨ka,n,ea,h⟩:=qH h;obtain⟨kb,m,eb,h⟩:=qH h;obtain⟨⟨h1,h2,h3⟩,hk⟩:=ji h;subst h1;obtain⟨v,i',z,PJ,nb,hz,YF,zn,_,_⟩:=rU hk;rw[hi] at nb;cases nb;obtain⟨s',g1,g2,g3,g4,Ji,g5⟩:=Oe PJ;refine⟨_,_,g1,g2,g3,g4,λj _ hj=>Ji j (λe=>by subst e;subst pQ;simp[qD,makes,rq] at hj),λN D w a s=>?_⟩
  have vC:=tL 12 e te v Oc YF;rw[<-zn] at vC;have uC:z.cells.size=te.size:=by rw[<-mZ te,<-vC];simp
  rw[HR] at h3;have hn:n<=70368744177664:=by
   have:n*1<=n*(P.bytesOf e:Int):=Int.mul_le_mul_of_nonneg_left (by omega) h2
   omega
  have jG:=run_make (P:=P) w t e i z hu hi hz ka kb n n h2 (zeF _) (by rw[R0,Int.mul_comm];omega) (by omega)
  obtain⟨N',n1,n2,n3⟩:=g5 N D w base s.ny w (madeCells z.cells (n.toNat*i.size)) e (0,0) n.toNat rfl rfl rfl rfl (by simp[aQ]) (by rw[size_madeCells,vB];exact zdV _) (.inl rfl) (by
   refine dX.JJ n.toNat vC λj hj=>?_;have hp:0<te.size:=by
    rcases zdZ te.size with q|q
    ·rw[q] at hj;omega
    ·exact q
   have hm:j%te.size<z.cells.size:=by rw[uC];exact Nat.mod_lt _ hp
   simp only[madeCells,vB];rw[Array.getElem?_map,Array.getElem?_range,if_pos hj];rw[uC,zdO,getElem!_pos z.cells _ hm,zei hm])
  rw[show aQ (β:=te.den) (List.replicate n.toNat (iz te))=n.toNat by simp[aQ]] at n3
  refine⟨N',D,_,_, .inl ?_,n2,n1,n3⟩;simp only[execOp,s.sV ea,s.sV eb,zd0,jG,zd1,zd2,vB]
 ·cases h
end AM
namespace AM
open Go
variable {α:Type}{P:Program}{base:Nat}
structure xP (P:Program)(tys:Array TypeId)(rt e:TypeId)(i:TypeInfo)(z:Value)(w:World)(x:Value)(n:Nat)(cs:List Value):Prop where
 fits: ∀b pf vD,pf+n<=vD->(Builtin.append_ tys rt #[.slice b pf vD,x]).run P w=(match b with|none=> .ok (.slice b (pf+n) vD) w|some a=>((storeCells (a.add (pf*i.size)) cs).run P w).andThen λ_ w'=> .ok (.slice b (pf+n) vD) w')
 zaI: ∀b pf vD,vD<pf+n->(pf+n)*i.bytes<=70368744177664->∀olds:List Value,(Builtin.firstCells i.size pf (.slice b pf vD)).run P w.drew= .ok olds.toArray w.drew->
  (Builtin.append_ tys rt #[.slice b pf vD,x]).run P w= .ok (.slice (some ⟨w.heap.size,0,none⟩) (pf+n) (grownCap w (pf+n) vD e)) (w.drew.alloc (.cells (olds++cs++(Builtin.zeroCells z.cells (grownCap w (pf+n) vD e-(pf+n))).toList).toArray e))
theorem xP.of {tys:Array TypeId}{t u rt e:TypeId}{i:TypeInfo}{z:Value}{w:World}{x:Value}{n:Nat}{cs:List Value}(h0:tys[0]?=some t)(h1:tys[1]?=some u)(ht:P.underlying t=some (.slice e))(hi:P.info? e=some i)(hz:i.zero=some z)(hb:1<=i.bytes)
  {d:TypeDesc} (hu:P.underlying u=some d) (hd: ∀k,d≠ .int k) (hl: ∀w',(Builtin.lenOf x).run P w'= .ok n w') (hf:(Builtin.firstCells i.size n x).run P w= .ok cs.toArray w) (xN:(Builtin.firstCells i.size n x).run P w.drew= .ok cs.toArray w.drew):xP P tys rt e i z w x n cs:=by
 constructor
 ·intro b pf vD la
  simp only[Builtin.append_,h0,h1];cases b<;>simp[run_underlying ht,run_underlying hu,Go.sizeOf,typeInfo,hi,hl,la,hf]
 ·intro b pf vD hg Rn olds ho
  have JK:pf+n<=70368744177664:=by
   have:(pf+n)*1<=(pf+n)*i.bytes:=Nat.mul_le_mul_left _ hb;omega
  have h48: ¬(281474976710656<Builtin.nextslicecap (pf+n) vD*i.bytes):=by
   have:=growslice_fits (old:=vD) (need:=pf+n) (bytes:=i.bytes) hg (by omega)
   omega
  have hn: ¬(pf+n<=vD):=by omega
  have h63: ¬(9223372036854775807<((pf:Int)+(n:Int))):=by omega
  simp only[Builtin.append_,h0,h1];simp[run_underlying ht,run_underlying hu,Go.sizeOf,typeInfo,zeroValue,hi,hz,hl,hn,h63,h48,Question.forced,xN,ho,newRow,grownCap];congr 2
  apply Array.ext';simp
theorem wrap_small {n:Int}(h0:0<=n)(h1:n<=70368744177664):IntKind.i64.wrap n=n:=by rw[IntKind.wrap_i64];omega
theorem xP.JJ {tys:Array TypeId}{t u rt e:TypeId}{i:TypeInfo}{z:Value}{w:World}{n:Int}(h0:tys[0]?=some t)(h1:tys[1]?=some u)(ht:P.underlying t=some (.slice e))(hi:P.info? e=some i)(hz:i.zero=some z)(hb:1<=i.bytes)
  {k k':IntKind} (hu:P.underlying u=some (.int k)) (XB:0<=n) (L4:n*(i.bytes:Int)<=70368744177664) (hs:z.cells.size=i.size):xP P tys rt e i z w (.int k' n) n.toNat (Builtin.zeroCells z.cells n.toNat).toList:=by
 have hnn:n<=70368744177664:=by
  have:n*1<=n*(i.bytes:Int):=Int.mul_le_mul_of_nonneg_left (by omega) XB
  omega
 have hw:=wrap_small XB hnn;have Vj: ¬n<0:=by omega
 have FR: ¬(281474976710656<n*(i.bytes:Int)):=by omega
 have hzero:n.toNat*i.size=0->(Builtin.zeroCells z.cells n.toNat)= #[]:=by
  intro h;apply zey;rw[size_zeroCells,hs];exact h
 constructor
 ·intro b pf vD la
  simp only[Builtin.append_,h0,h1];by_cases hq:n.toNat*i.size=0
  ·cases b<;>simp[run_underlying ht,run_underlying hu,Go.sizeOf,typeInfo,hi,asInt,asIntOf,hw,Vj,FR,la,hq,hzero hq]
  ·cases b<;>simp[run_underlying ht,run_underlying hu,Go.sizeOf,typeInfo,zeroValue,hz,hi,asInt,asIntOf,hw,Vj,FR,la,hq]
 ·intro b pf vD hg Rn olds ho
  have JK:pf+n.toNat<=70368744177664:=by
   have:(pf+n.toNat)*1<=(pf+n.toNat)*i.bytes:=Nat.mul_le_mul_left _ hb;omega
  have h48: ¬(281474976710656<Builtin.nextslicecap (pf+n.toNat) vD*i.bytes):=by
   have:=growslice_fits (old:=vD) (need:=pf+n.toNat) (bytes:=i.bytes) hg (by omega)
   omega
  have hn: ¬(pf+n.toNat<=vD):=by omega
  have h63: ¬(9223372036854775807<((pf:Int)+(n.toNat:Int))):=by omega
  have zaJ: ¬(9223372036854775807<((pf:Int)+n)):=by omega
  have XC: ¬(9223372036854775807<((pf:Int)+max n 0)):=by omega
  simp only[Builtin.append_,h0,h1];by_cases hq:n.toNat*i.size=0
  ·simp[run_underlying ht,run_underlying hu,Go.sizeOf,typeInfo,zeroValue,hi,hz,asInt,asIntOf,hw,Vj,FR,hn,h63,zaJ,XC,h48,Question.forced,hq,hzero hq,ho,newRow,grownCap]
   congr 2
   apply Array.ext';simp
  ·simp[run_underlying ht,run_underlying hu,Go.sizeOf,typeInfo,zeroValue,hi,hz,asInt,asIntOf,hw,Vj,FR,hn,h63,zaJ,XC,h48,Question.forced,hq,ho,newRow,grownCap]
   congr 2
   apply Array.ext';simp
end AM
namespace AM
open Go
variable {α:Type}{P:Program}{base:Nat}
theorem jU.move {N:Names}{D:Nat->Prop}{w w':World}{base:Nat}{h:Nat->Option fK}(S:jU N D w base h){i id:Nat}{o o':fK}{nm mM:Nm}{a a':Addr}(ho:h i=some o)(FA:o.rw=true)(hn:N i=some nm)(hb:nm.base=some a)(gX:kf h i .dead id=none)
  (vl:mM.base=some a') (LR:a'.block=a.block)
  (RR:w'.os=w.os) (JD:w'.tape=w.tape) (jr:w'.output=w.output) (xK:w'.heap.size=w.heap.size) (mP: ∀b,b≠a.block->w'.heap[b]?=w.heap[b]?) (nf:qF (N.up λj=>if j=id then some mM else N j) D w' base id o') (UQ:o'.rw=true:=by rfl):
  ∃N':Names,N' id=some mM/\jU N' D w' base (kf (kf h i .dead) id o')/\Ext N D w h N' D w' (kf (kf h i .dead) id o'):=by
 have Of:iP N i o a.block:=iP.of FA hn hb;have tq:zi N h a.block:=⟨i,o,ho,Of⟩;have hnd:=(S.tW tq).1;have hD: ∀b,D b->w'.heap[b]?=w.heap[b]?:=λb vl=>mP b (λe=>hnd (e▸vl));have lF:id≠i:=by intro e;subst e;simp[kf] at gX
 have L5:h id=none:=by simpa only[kf,if_neg lF] using gX
 have Yx:N id=none:=by
  cases e:N id with
  |none=>rfl
  |some mM=>exact absurd L5 (S.named id mM e)
 have hN:N.le (N.up λj=>if j=id then some mM else N j):=Names.RS Yx
 have LS: ∀j,j≠id->(N.up λj=>if j=id then some mM else N j) j=N j:=λj e=>if_neg e
 have hold: ∀j oj b,j≠id->iP (N.up λj=>if j=id then some mM else N j) j oj b->iP N j oj b:=λj oj b e=>(iP.names (LS j e) (λ_=>rfl)).1
 have DM: ∀b,iP (N.up λj=>if j=id then some mM else N j) id o' b->b=a.block:=λb hO=>by rw[iP.at_ UQ Names.BY vl hO,LR]
 have key: ∀j oj b,kf (kf h i .dead) id o' j=some oj->iP N j oj b->j≠id->j≠i/\h j=some oj:=by
  intro j oj b hj rj e;simp only[kf,if_neg e] at hj;by_cases e2:j=i
  ·subst e2;simp at hj;subst hj;exact rj.elim
  ·exact⟨e2,by simpa only[if_neg e2] using hj⟩
 refine⟨N.up λj=>if j=id then some mM else N j,Names.BY,⟨λj oj hj=>?_,?_,λb hb=>by rw[xK];exact S.frozen b hb,λj Xy Jj=>?_,by rw[xK];exact S.size,λg hg=>?_⟩,⟨hN,λ_ h=>h,RR,JD,jr,by rw[xK];exact zdV _,λb _ wy=>mP b (λe=>wy (e▸tq)),λb _ hO=>?_,λ_ h=> .inl h,λj Xy Jj=>?_,λ_ h=>vu (vu h),λg hg=>⟨?_,λ_=>rfl⟩⟩⟩
 ·by_cases e:j=id
  ·subst e;simp[kf] at hj;subst hj;exact nf
  ·simp only[kf,if_neg e] at hj
   by_cases e2:j=i
   ·subst e2;simp at hj;subst hj;trivial
   ·simp only[if_neg e2] at hj
    refine nQ (S.obj j oj hj) hN (λ_ h=>h) hD (λb hO=>⟨mP _ (λeb=>e2 ?_),λh=>h⟩) (λ_ _ _ _=>rfl);exact S.apart j i oj o b hj ho hO (eb▸Of)
 ·intro j1 j2 o1 o2 b h1 h2 r1 r2
  by_cases e1:j1=id<;>by_cases e2:j2=id
  ·rw[e1,e2]
  ·exfalso
   subst e1;simp[kf] at h1;subst h1;have e4:=DM b r1;have r2:=hold j2 o2 b e2 r2;obtain⟨e3,h3⟩:=key j2 o2 b h2 r2 e2;exact e3 (S.apart j2 i o2 o b h3 ho r2 (e4▸Of))
  ·exfalso
   subst e2;simp[kf] at h2;subst h2;have e4:=DM b r2;have r1:=hold j1 o1 b e1 r1;obtain⟨e3,h3⟩:=key j1 o1 b h1 r1 e1;exact e3 (S.apart j1 i o1 o b h3 ho r1 (e4▸Of))
  ·have r1:=hold j1 o1 b e1 r1
   have r2:=hold j2 o2 b e2 r2;exact S.apart j1 j2 o1 o2 b (key j1 o1 b h1 r1 e1).2 (key j2 o2 b h2 r2 e2).2 r1 r2
 ·by_cases e:j=id
  ·simp[kf,e]
  ·simp only[kf,if_neg e]
   rw[LS j e] at Jj;by_cases e2:j=i
   ·simp[e2]
   ·simp only[if_neg e2];exact S.named j Xy Jj
 ·by_cases e:SB+g=id
  ·simp only[kf,if_pos e] at hg
   cases o'<;>simp[AM.iG] at hg
   cases UQ
  ·simp only[kf,if_neg e] at hg
   by_cases e2:SB+g=i
   ·simp[if_pos e2,AM.iG] at hg
   ·simp only[if_neg e2] at hg;exact S.iG g hg
 ·obtain⟨j,oj,hj,rj⟩:=hO
  by_cases e:j=id
  ·subst e
   simp[kf] at hj;subst hj;rw[DM b rj];exact tq
  ·have rj:=hold j oj b e rj
   exact⟨j,oj,(key j oj b hj rj e).2,rj⟩
 ·by_cases e:j=id
  ·subst e;exact .inr L5
  ·rw[LS j e] at Jj;exact .inl Jj
 ·by_cases e:SB+g=id
  ·subst e;rw[L5] at hg;cases hg
  ·by_cases e2:SB+g=i
   ·subst e2;rw[ho] at hg;cases hg;cases FA
   ·simp only[kf,if_neg e,if_neg e2];exact hg
theorem jU.Vk {N:Names}{D:Nat->Prop}{w:World}{base:Nat}{h:Nat->Option fK}(S:jU N D w base h){id:Nat}{t:Ty}{xs:List t.den}(L3:aQ (β:=t.den) xs=0)(gX:h id=none):
  ∃N':Names,jU N' D w base (kf h id (.row false t xs))/\Ext N D w h N' D w (kf h id (.row false t xs))/\ck N' D w (.tail id 0) (.slice none 0 0):=by
 obtain⟨N',n1,n2,n3⟩:=S.make (w':=w) (o:= .row false t xs) (nm:=⟨none,sw t,true,0,0⟩) gX rfl rfl rfl (zdV _) (λ_ _=>rfl) (λa ha=>by cases ha) ⟨_,Names.BY,rfl,rfl,L3.symm,zdV _,rfl⟩
 refine⟨N',n2,n3,?_⟩;unfold ck;simp only[AV.isAgg,jv,ar];exact⟨_,n1,rfl,zdV _,zdV _,by simp⟩
theorem yX {N:Names}{w:World}{t:Ty}{xs:List t.den}{D:Nat->Prop}{c:Value}{cs:List Value}{size:Nat}(hs:size=t.size)(h:RY N D w t xs c){w':World}(hw:w'.heap=w.heap)(hl:cs.length=aQ (β:=t.den) xs*t.size)(hc: ∀a n cap,c= .slice (some a) n cap->aQ (β:=t.den) xs≠0->∀j v,cs[j]?=some v->w.cell? (a.add j)=some v):
  (Builtin.firstCells size (aQ (β:=t.den) xs) c).run P w'= .ok cs.toArray w':=by
 obtain⟨a,cap,rfl,h1,h2,h3⟩:=h;subst hs;by_cases h0:aQ (β:=t.den) xs=0
 ·have yK:cs=[]:=zd8 (by rw[hl,h0];simp)
  subst yK;rw[h0];cases a with
  |none=>exact run_firstCells_none (P:=P) w' _ _ _ _
  |some a=>exact run_firstCells_some (P:=P) w' t.size 0 a _ cap [] (by simp) (by simp)
 ·cases a with
  |none=>have:=h2 rfl;omega
  |some a=>
   refine run_firstCells_some (P:=P) w' t.size _ a _ cap cs hl λj v hv=>?_;have:=hc a _ _ rfl h0 j v hv;rw[<-this];simp only[World.cell?,hw]
theorem RY.cells {N:Names}{w:World}{t:Ty}{xs:List t.den}{D:Nat->Prop}{c:Value}(h:RY N D w t xs c): ∃cs:List Value,cs.length=aQ (β:=t.den) xs*t.size/\dX N D w t xs (cs[·]?)/\(∀v∈cs,v.oneCell'=true)/\
  ∀w':World,w'.heap=w.heap->(Builtin.firstCells t.size (aQ (β:=t.den) xs) c).run P w'= .ok cs.toArray w':=by
 have h':=h;obtain⟨a,cap,rfl,h1,h2,h3⟩:=h;by_cases h0:aQ (β:=t.den) xs=0
 ·have L3:xs=[]:=zd8 h0
  refine⟨[],by rw[h0];simp,?_,by simp,λw' hw=>yX rfl h' hw (by rw[h0];simp) (by simp)⟩
  subst L3;exact dX.nil
 ·cases a with
  |none=>have:=h2 rfl;omega
  |some a=>
   obtain⟨f1,f2⟩:=h3 a rfl h0;obtain⟨cs,g1,g2,g3,g4⟩:=f2.cells;refine⟨cs,g1,g3,g4,λw' hw=>yX rfl h' hw g1 λa' n sF e _ j v hv=>?_⟩;cases e;obtain⟨b,o,sp⟩:=a;simp only at f1;subst f1;rw[ow];exact g2 j v hv
end AM
namespace AM
open Go
variable {α:Type}{P:Program}{base:Nat}
structure Src (P:Program)(tys:Array TypeId)(rt e:TypeId)(i:TypeInfo)(z:Value)(N:Names)(D:Nat->Prop)(w:World)(te:Ty)(ys:List te.den)(x:Value)(cs:List Value):Prop where
 app:xP P tys rt e i z w x (aQ (β:=te.den) ys) cs
 len:cs.length=aQ (β:=te.den) ys*te.size
 row:dX N D w te ys (cs[·]?)
 one: ∀v∈cs,v.oneCell'=true
def xQ (P:Program)(tys:Array TypeId)(rt:TypeId)(base:Nat)(N:Names)(D:Nat->Prop)(w:World)(h:Nat->Option fK)(v x:Value)(h':Nat->Option fK)(u:AV):Prop:=
 ∃N' D' w' v',(Builtin.append_ tys rt #[v,x]).run P w= .ok v' w'/\Ext N D w h N' D' w' h'/\jU N' D' w' base h'/\ck N' D' w' u v'
section
variable {tys:Array TypeId}{rt e:TypeId}{i:TypeInfo}{z:Value}{N:Names}{D:Nat->Prop}{w:World}{te:Ty}{h:Nat->Option fK}
theorem Gs (S:jU N D w base h){id:Nat}(gX:h id=none)(vB:i.size=te.size)(uC:z.cells.size=te.size){bs ys:List te.den}{olds cs:List Value}{x:Value}{b:Option Addr}{cap:Nat}(src:Src P tys rt e i z N D w te ys x cs)
  (hg:cap<aQ (β:=te.den) bs+aQ (β:=te.den) ys) (Rn:(aQ (β:=te.den) bs+aQ (β:=te.den) ys)*i.bytes<=70368744177664) (ho:(Builtin.firstCells i.size (aQ (β:=te.den) bs) (.slice b (aQ (β:=te.den) bs) cap)).run P w.drew= .ok olds.toArray w.drew)
  (YG:olds.length=aQ (β:=te.den) bs*te.size) (hor:dX N D w te bs (olds[·]?)):xQ P tys rt base N D w h (.slice b (aQ (β:=te.den) bs) cap) x (kf h id (.row false te (bs++ys:List te.den))) (.tail id 0):=by
 have jG:=src.app.zaI b _ cap hg Rn olds ho;have sG:=grownCap_ge w (aQ (β:=te.den) bs+aQ (β:=te.den) ys) cap e;have PM:aQ (β:=te.den) (bs++ys)=aQ (β:=te.den) bs+aQ (β:=te.den) ys:=by simp[aQ]
 obtain⟨N',n1,n2,n3⟩:=S.HQ (t:=te) (xs:=(bs++ys:List te.den)) gX w.drew e (0,0) (grownCap w (aQ (β:=te.den) bs+aQ (β:=te.den) ys) cap e) rfl rfl rfl rfl (by rw[PM];exact sG)
  (cells:=(olds++cs++(Builtin.zeroCells z.cells (grownCap w (aQ (β:=te.den) bs+aQ (β:=te.den) ys) cap e-(aQ (β:=te.den) bs+aQ (β:=te.den) ys))).toList).toArray)
  (by
   simp only[List.size_toArray,zdI,YG,src.len,Array.length_toList,size_zeroCells,uC,<-zdT];exact zdS _ (by omega)) (.inl rfl) (by
   have h1:=(hor.rr YG src.row).more (ds:=(Builtin.zeroCells z.cells (grownCap w (aQ (β:=te.den) bs+aQ (β:=te.den) ys) cap e-(aQ (β:=te.den) bs+aQ (β:=te.den) ys))).toList) (by rw[zdI,YG,src.len,PM,zdT])
   refine h1.congr λj _=>?_;simp)
 rw[PM] at n3;exact⟨N',D,_,_,jG,n2,n1,n3⟩
theorem Og (S:jU N D w base h){id:Nat}(gX:h id=none)(vB:i.size=te.size)(uC:z.cells.size=te.size){ys:List te.den}{cs:List Value}{x:Value}(src:Src P tys rt e i z N D w te ys x cs)
  (Rn:(aQ (β:=te.den) ys)*i.bytes<=70368744177664):xQ P tys rt base N D w h (.slice none 0 0) x (kf h id (.row false te ys)) (.tail id 0):=by
 by_cases hn:aQ (β:=te.den) ys=0
 ·obtain⟨N',n1,n2,n3⟩:=S.Vk hn gX
  have:=src.app.fits none 0 0 (by omega)
  refine⟨N',D,w,_,this,n2,n1,by rw[hn];exact n3⟩
 ·have:=Gs (bs:=[]) (olds:=[]) (b:=none) (cap:=0) S gX vB uC src (by simp only[aQ,zdK];simp only[aQ] at hn;omega) (by simpa [aQ] using Rn) (run_firstCells_none (P:=P) w.drew _ _ _ _) (by simp[aQ]) dX.nil
  simpa [aQ] using this
theorem xQ.after {N':Names}{D':Nat->Prop}{w':World}{h' Xx:Nat->Option fK}{v x:Value}{u:AV}(hw:w'=w)(a:xQ P tys rt base N' D' w' h' v x Xx u)(y:Ext N D w h N' D' w' h'):xQ P tys rt base N D w h v x Xx u:=by
 subst hw;obtain⟨N2,D2,w2,v2,h1,h2,h3,h4⟩:=a;exact⟨N2,D2,w2,v2,h1,y.trans h2,h3,h4⟩
theorem pg {b o:Nat}{cs:List Value}{C:Array Value}{ty:TypeId}{fz:Nat×Nat}(hb:w.heap[b]?=some (.cells C ty fz))(hz:fz=(0,0)\/C.size<=fz.1)(hl:o+cs.length<=C.size)(h1: ∀v∈cs,v.oneCell'=true):
  (storeCells ⟨b,o,none⟩ cs).run P w= .ok () (w.setCells b o cs):=by
 have:=run_storeCells_cells (P:=P) b o cs 0 w (λj hj=>iW hb (by omega)) (λj hj=>wB hb hz (by omega)) h1
 simpa using this
theorem R1 (S:jU N D w base h){id q off:Nat}{xs:List te.den}(ho:h q=some (.row false te xs))(gX:kf h q .dead id=none)(vB:i.size=te.size)(uC:z.cells.size=te.size){ys:List te.den}{cs:List Value}{x v:Value}(src:Src P tys rt e i z N D w te ys x cs)
  (hv:ck N D w (.tail q off) v) (Rn:(aQ (β:=te.den) (xs.drop off)+aQ (β:=te.den) ys)*i.bytes<=70368744177664):xQ P tys rt base N D w h v x (kf (kf h q .dead) id (.row false te (xs.drop off++ys:List te.den))) (.tail id 0):=by
 unfold ck at hv;simp only[AV.isAgg,jv,ar] at hv;obtain⟨nm,g1,g2,g3,g4,g5⟩:=hv;obtain⟨mM,i1,i2,i3,i4,i5,i6⟩:=S.obj q _ ho;rw[g1] at i1;cases i1;obtain⟨kS,kE⟩:=S.kill q;have hlen:aQ (β:=te.den) (xs.drop off)=nm.len-off:=by simp only[aQ,zd4];simp only[aQ] at i4;omega
 cases hb:nm.base with
 |none=>
  rw[hb] at g5;obtain⟨g5,g6⟩:=g5;simp only[zdF] at g6;subst g6;have ox:(xs.drop off:List te.den)=[]:=zd8 (by have:=hlen;simp only[aQ] at this;omega)
  rw[ox,zeA];rw[ox] at Rn;exact(Og kS gX vB uC src (by simpa [aQ] using Rn)).after rfl kE
 |some a=>
  rw[hb] at g5 i6;obtain⟨v',cap,g6,g7,a',sF,rfl,g8,rfl,g9⟩:=g5;simp only[zdF] at g6;subst g6;obtain⟨j1,⟨C,LW,fz,j2,j3,j4⟩,j5,j6⟩:=i6;replace j4:=j4 rfl
  simp only[zdG,if_false] at j5;have mN:dX N D w te xs (aX w a):=j6;have FT:=wD (len:=nm.len-off) mN (by rw[<-iH te,<-i3];exact⟨a',sF,rfl,g8,rfl,g9⟩) (by rw[<-i4];omega)
  have htk:((xs.drop off).take (nm.len-off):List te.den)=xs.drop off:=zd9 (by have:=hlen;simp only[aQ] at this;omega)
  rw[htk] at FT;by_cases la:nm.len-off+aQ (β:=te.den) ys<=sF
  ·have jG:=src.app.fits (some a') _ sF la
   simp only at jG;have FN:off*te.size+sF*te.size<=nm.cap*te.size:=by rw[<-zdT];exact zdS _ g7
   have xk:(nm.len-off)*te.size+cs.length<=sF*te.size:=by rw[src.len,<-zdT];exact zdS _ la
   have kg:(storeCells (a'.add ((nm.len-off)*i.size)) cs).run P w= .ok () (w.setCells a.block (a.off+off*te.size+(nm.len-off)*te.size) cs):=by
    by_cases hc:cs=[]
    ·subst hc;rfl
    ·have lF:sF≠0:=by
      intro e0;have:aQ (β:=te.den) ys=0:=by omega
      have:=src.len;rw[‹aQ (β:=te.den) ys=0›,zeo] at this;exact hc (zd8 this)
     rcases g9 with rfl|g9
     ·rw[i3,iH,xO,vB]
      simp only[Addr.at_];rw[pg j2 (j4.imp_right And.left) (by omega) src.one,zdU]
     ·exact absurd g9 lF
   rw[kg] at jG;simp only[zd1] at jG;obtain⟨o1,o2,o3⟩:=kR a.block cs (a.off+off*te.size+(nm.len-off)*te.size) w;obtain⟨C',f1,f2⟩:=jd a.block cs (a.off+off*te.size+(nm.len-off)*te.size) w C LW fz j2;have UR:=jz a.block cs (a.off+off*te.size+(nm.len-off)*te.size) w;have one:=ku a.block cs (a.off+off*te.size+(nm.len-off)*te.size) w;have hD: ∀b,D b->(w.setCells a.block (a.off+off*te.size+(nm.len-off)*te.size) cs).heap[b]?=w.heap[b]?:=λb vl=>one b (λe=>j5.2 (e▸vl));have PM:aQ (β:=te.den) (xs.drop off++ys)=nm.len-off+aQ (β:=te.den) ys:=by rw[<-hlen];simp[aQ]
   obtain⟨N',n1,n2,n3⟩:=S.move (id:=id) (mM:=⟨some (Addr.at_ a (off*te.size)),sw te,true,nm.len-off+aQ (β:=te.den) ys,sF⟩) (a':=Addr.at_ a (off*te.size)) (o':= .row false te (xs.drop off++ys:List te.den)) ho rfl g1 hb gX rfl rfl o1 o2 o3 UR one (by
    refine⟨_,Names.BY,rfl,rfl,PM.symm,la,?_⟩;show _/\_/\_/\_
    refine⟨rfl,⟨C',LW,fz,f1,by simp only[Addr.at_];rw[f2];omega,λ_=>by rw[f2];exact j4⟩,by simp only[zdG,if_false];exact j5,?_⟩
    have hA:dX N D w te (xs.drop off:List te.den) (aX w (Addr.at_ a (off*te.size))):=by
     have:=mN.drop off;have e2:(λj=>aX w a (off*te.size+j))=aX w (Addr.at_ a (off*te.size)):=by
      funext j;simp only[aX,Addr.at_,zdU]
     rw[<-e2];exact this
    refine dX.append ((hA.Od ((S.kill q).1.RZ gX _) (λ_ h=>h) hD).congr λj hj=>?_) ((src.row.Od ((S.kill q).1.RZ gX _) (λ_ h=>h) hD).congr λj hj=>?_)
    ·rw[hlen] at hj
     simp only[aX,Addr.at_];exact(World.cell?_setCells_out _ _ _ _ _ (λ_ _=>by simp only;omega)).symm
    ·rw[<-src.len] at hj
     have:=World.cell?_setCells_in a.block cs (a.off+off*te.size+(nm.len-off)*te.size) w (λj hj=>iW j2 (by omega)) j hj
     simp only[aX,Addr.at_];rw[hlen,<-zdU,this];simp)
   refine⟨N',D,_,_,jG,n3,n2,?_⟩;unfold ck;simp only[AV.isAgg,jv,ar];refine⟨_,n1,rfl,zeH _,la,?_⟩;show∃v room,_
   refine⟨_,sF,rfl,by simp,a',sF,by simp,by simpa using la,rfl,?_⟩
   rcases g9 with rfl|g9
   ·left;rw[i3,iH];simp[Addr.at_]
   ·exact .inr g9
  ·obtain⟨olds,k1,k2,_,k4⟩:=RY.cells (P:=P) FT
   have zcv:(aQ (β:=te.den) (xs.drop off)+aQ (β:=te.den) ys)*i.bytes<=70368744177664:=Rn;have:=Gs (P:=P) (tys:=tys) (rt:=rt) (e:=e) (z:=z) kS gX vB uC (bs:=(xs.drop off:List te.den)) (olds:=olds) (b:=some a') (cap:=sF) (x:=x) src (by rw[hlen];omega) zcv (by
    have:=k4 w.drew rfl;rw[vB];rw[hlen] at this⊢;exact this) k1 k2
   rw[hlen] at this;exact this.after rfl kE
end
end AM
namespace AM
open Go
variable {α:Type}{P:Program}{base:Nat}
section
variable {tys:Array TypeId}{rt e:TypeId}{i:TypeInfo}{z:Value}{N:Names}{D:Nat->Prop}{w:World}{te:Ty}{h:Nat->Option fK}
theorem xR {h:Nat->Option fK}{q:Nat}{o:fK}(ho:h q=some o):kf h q o=h:=by
 funext j
 by_cases e:j=q
 ·subst e;simp[kf,ho]
 ·simp[kf,e]
theorem PN (S:jU N D w base h){q off len:Nat}{xs:List te.den}(ho:h q=some (.row false te xs))(vB:i.size=te.size){ys:List te.den}{cs:List Value}{x v:Value}(src:Src P tys rt e i z N D w te ys x cs)
  (hv:ck N D w (.slice q [] off len) v) (la:off+len+aQ (β:=te.den) ys<=aQ (β:=te.den) xs):xQ P tys rt base N D w h v x (kf h q (.row false te (xs.take (off+len)++ys++xs.drop (off+len+aQ (β:=te.den) ys):List te.den))) (.slice q [] off (len+aQ (β:=te.den) ys)):=by
 unfold ck at hv;simp only[AV.isAgg,jv,ar] at hv;obtain⟨nm,g1,hv⟩:=hv;obtain⟨mM,i1,i2,i3,i4,i5,i6⟩:=S.obj q _ ho;rw[g1] at i1;cases i1;have PM:aQ (β:=te.den) (xs.take (off+len)++ys++xs.drop (off+len+aQ (β:=te.den) ys))=nm.len:=by
  rw[i4];simp only[aQ,zdI,zd3,zd4];simp only[aQ] at la;omega
 cases hb:nm.base with
 |none=>
  rw[hb] at hv;obtain⟨_,rfl,rfl,g4,g5⟩:=hv;simp only[zdF] at g5;subst g5;have hy0:aQ (β:=te.den) ys=0:=by omega
  have hys:ys=[]:=zd8 hy0;have L3:(xs.take (0+0)++ys++xs.drop (0+0+aQ (β:=te.den) ys):List te.den)=xs:=by subst hys;simp[aQ]
  rw[L3,xR ho];have jG:=src.app.fits none 0 0 (by omega)
  refine⟨N,D,w,_,jG,Ext.refl _ _ _ _,S,?_⟩;unfold ck;simp only[AV.isAgg,jv,ar];refine⟨nm,g1,?_⟩;rw[hb];exact⟨by simp[i2],by simp,by omega,g4,by simp[hy0]⟩
 |some a=>
  rw[hb] at hv i6;simp only at hv;rw[if_pos (by simp[i2])] at hv
  obtain⟨g3,g4,v',room,g5,g6,g7,a',sF,rfl,g8,rfl,g9⟩:=hv;simp only[zdF] at g5;subst g5;obtain⟨j1,⟨C,LW,fz,j2,j3,j4⟩,j5,j6⟩:=i6;replace j4:=j4 rfl
  simp only[zdG,if_false] at j5;have mN:dX N D w te xs (aX w a):=j6;have jG:=src.app.fits (some a') len sF (by omega)
  simp only at jG;have FN:(off+len)*te.size+cs.length<=nm.cap*te.size:=by rw[src.len,<-zdT];exact zdS _ (by omega)
  have kg:(storeCells (a'.add (len*i.size)) cs).run P w= .ok () (w.setCells a.block (a.off+(off+len)*te.size) cs):=by
   by_cases hc:cs=[]
   ·subst hc;rfl
   ·have lF:sF≠0:=by
     intro e0;have h0:aQ (β:=te.den) ys=0:=by omega
     have:=src.len;rw[h0,zeo] at this;exact hc (zd8 this)
    rcases g9 with rfl|g9
    ·rw[i3,iH,xO,vB]
     simp only[Addr.at_];rw[pg j2 (j4.imp_right And.left) (by rw[<-zdT];omega) src.one,<-zdT]
    ·exact absurd g9 lF
  rw[kg] at jG;simp only[zd1] at jG;obtain⟨o1,o2,o3⟩:=kR a.block cs (a.off+(off+len)*te.size) w;obtain⟨C',f1,f2⟩:=jd a.block cs (a.off+(off+len)*te.size) w C LW fz j2;have UR:=jz a.block cs (a.off+(off+len)*te.size) w;have one:=ku a.block cs (a.off+(off+len)*te.size) w;have hD: ∀b,D b->(w.setCells a.block (a.off+(off+len)*te.size) cs).heap[b]?=w.heap[b]?:=λb vl=>one b (λe=>j5.2 (e▸vl));have Lp:=mN.mono (λ_ h=>h) hD;have key:=S.write (o':= .row false te (xs.take (off+len)++ys++xs.drop (off+len+aQ (β:=te.den) ys):List te.den)) ho rfl g1 hb o1 o2 o3 UR one (by
   refine⟨nm,g1,i2,i3,PM.symm,i5,?_⟩;rw[hb];show _/\_/\_/\_
   refine⟨j1,⟨C',LW,fz,f1,by rw[f2];exact j3,λ_=>by rw[f2];exact j4⟩,by simp only[zdG,if_false];exact j5,?_⟩
   have Jk:aQ (β:=te.den) (xs.take (off+len))=off+len:=by simp only[aQ,zd3];simp only[aQ] at la;omega
   have YH:aQ (β:=te.den) (xs.take (off+len)++ys)=off+len+aQ (β:=te.den) ys:=by rw[<-Jk];simp[aQ]
   have hA:dX N D (w.setCells a.block (a.off+(off+len)*te.size) cs) te (xs.take (off+len):List te.den) (aX (w.setCells a.block (a.off+(off+len)*te.size) cs) a):=by
    refine(Lp.take (off+len)).congr λj hj=>?_;rw[Jk] at hj;simp only[aX];exact(World.cell?_setCells_out _ _ _ _ _ (λ_ _=>by simp only;omega)).symm
   have hB:dX N D (w.setCells a.block (a.off+(off+len)*te.size) cs) te ys (λj=>aX (w.setCells a.block (a.off+(off+len)*te.size) cs) a ((off+len)*te.size+j)):=by
    refine(src.row.mono (λ_ h=>h) hD).congr λj hj=>?_;rw[<-src.len] at hj;have:=World.cell?_setCells_in a.block cs (a.off+(off+len)*te.size) w (λj hj=>iW j2 (by omega)) j hj
    simp only[aX];rw[<-zdU,this];simp
   have hC:dX N D (w.setCells a.block (a.off+(off+len)*te.size) cs) te (xs.drop (off+len+aQ (β:=te.den) ys):List te.den) (λj=>aX (w.setCells a.block (a.off+(off+len)*te.size) cs) a ((off+len+aQ (β:=te.den) ys)*te.size+j)):=by
    refine(Lp.drop _).congr λj hj=>?_;simp only[aX];refine(World.cell?_setCells_out _ _ _ _ _ (λ_ _=>?_)).symm;right
    simp only;rw[src.len,zdT (off+len)];omega
   exact dX.append (dX.append hA (by rw[Jk];exact hB)) (by rw[YH];exact hC))
  refine⟨N,D,_,_,jG,key.2,key.1,?_⟩;unfold ck;simp only[AV.isAgg,jv,ar];refine⟨nm,g1,?_⟩;rw[hb];simp only;rw[if_pos (by simp[i2])]
  exact⟨by omega,i5,_,sF,rfl,g6,g7,a',sF,rfl,by omega,rfl,g9⟩
end
theorem DT {dst rt pos after guard}{x y:Operand}{args:Array Operand}{tys:Array TypeId}{st eZ:St}{u:AV}(ha:args.toList=[x,y])(h:eZ.t=st.t/\eZ.nt=st.nt/\eZ.ep=st.ep)(Ji: ∀j,j∉vp (st.ev x)->j/100≠st.ep*1000+dst.getD 999->eZ.h j=st.h j)
  (FU: ∀N D w a,kp N D w base st a->xQ P tys rt base N D w st.h (a.eval x) (a.eval y) eZ.h u):ll P base ⟨dst, .call ⟨.builtin .append,args,tys⟩,rt,pos,after,guard⟩ st u eZ:=by
 refine⟨h.1,h.2.1,h.2.2,λj hj hn=>Ji j (λe=>hj (by simp[NX,ha,e])) (λe=>by simp[qD,makes,e] at hn),λN D w a s=>?_⟩
 obtain⟨N',D',w',v',h1,h2,h3,h4⟩:=FU N D w a s;have nz:args= #[x,y]:=by cases args;simp at ha;subst ha;rfl
 subst nz;refine⟨N',D',w',v', .inl ?_,h2,h3,h4⟩;simp[execOp,resolve,invoke,builtin,h1]
theorem B3 {t:TypeId}(h:zg P t=true): ∃d,P.underlying t=some d/\∀k,d≠ .int k:=by
 unfold zg at h;split at h
 ·cases h
 ·rename_i hk hd
  exact⟨_,hd,λk e=>hk k e⟩
 ·cases h
theorem xS (a:Option Addr)(n c:Nat)(w:World):(Builtin.lenOf (.slice a n c)).run P w= .ok n w:=by simp[Builtin.lenOf]
theorem Gt {tys:Array TypeId}{t u rt e:TypeId}{i:TypeInfo}{z:Value}{N:Names}{D:Nat->Prop}{w:World}{te:Ty}{ys:List te.den}{c:Value}(h0:tys[0]?=some t)(h1:tys[1]?=some u)(ht:P.underlying t=some (.slice e))(hi:P.info? e=some i)(hz:i.zero=some z)(hb:1<=i.bytes)(vB:i.size=te.size)
  (hu:zg P u=true) (hn:RY N D w te ys c): ∃cs,Src P tys rt e i z N D w te ys c cs:=by
 obtain⟨d,hd,hk⟩:=B3 hu;obtain⟨cs,k1,k2,k3,k4⟩:=RY.cells (P:=P) hn;obtain⟨a,cap,rfl,_⟩:=hn;refine⟨cs,xP.of h0 h1 ht hi hz hb hd hk (λw'=>xS _ _ _ w') ?_ ?_,k1,k2,k3⟩
 ·rw[vB];exact k4 w rfl
 ·rw[vB];exact k4 w.drew rfl
theorem Gu {N:Names}{D:Nat->Prop}{w:World}(b:ByteArray):dX N D w (.int .u8) (b.data.toList.map λc=>((c.toNat:Nat):Int)) ((b.data.toList.map λc=>Value.int .u8 c.toNat)[·]?):=by
 intro i x hx;show _=_
 have key: ∀y:Int,(b.data.toList.map λc=>((c.toNat:Nat):Int))[i]?=some y->∃c,b.data.toList[i]?=some c/\y=((c.toNat:Nat):Int):=by
  intro y hy;rw[zeG,zew] at hy;obtain⟨c,hc,rfl⟩:=hy;exact⟨c,hc,rfl⟩
 obtain⟨c,hc,rfl⟩:=key x hx;simp only[Ty.size,zeI,zez,zeG,hc,zdO]
theorem L7 {N:Names}{tys:Array TypeId}{t u rt e:TypeId}{i:TypeInfo}{z:Value}{D:Nat->Prop}{w:World}{b:ByteArray}(h0:tys[0]?=some t)(h1:tys[1]?=some u)(ht:P.underlying t=some (.slice e))(hi:P.info? e=some i)(hz:i.zero=some z)(hb:1<=i.bytes)
  (hu:zg P u=true):Src P tys rt e i z N D w (.int .u8) (b.data.toList.map λc=>((c.toNat:Nat):Int)) (.string b) (b.data.toList.map λc=>Value.int .u8 c.toNat):=by
 obtain⟨d,hd,hk⟩:=B3 hu;have hl:aQ (β:=Int) (b.data.toList.map λc=>((c.toNat:Nat):Int))=b.size:=by simp[aQ]
 have hf: ∀w':World,(Builtin.firstCells i.size b.size (.string b)).run P w'= .ok (b.data.toList.map λc=>Value.int .u8 c.toNat).toArray w':=by
  intro w';have:b.extract 0 b.size=b:=by simp
  simp only[Builtin.firstCells,this,zd2];congr 1
  apply Array.ext';simp
 refine⟨xP.of h0 h1 ht hi hz hb hd hk (λw'=>?_) ?_ ?_,?_,Gu b,?_⟩
 ·rw[show aQ (β:=(Ty.int .u8).den) (b.data.toList.map λc=>((c.toNat:Nat):Int))=b.size from hl]
  simp[Builtin.lenOf]
 ·rw[show aQ (β:=(Ty.int .u8).den) (b.data.toList.map λc=>((c.toNat:Nat):Int))=b.size from hl]
  exact hf w
 ·rw[show aQ (β:=(Ty.int .u8).den) (b.data.toList.map λc=>((c.toNat:Nat):Int))=b.size from hl]
  exact hf w.drew
 ·rw[show aQ (β:=(Ty.int .u8).den) (b.data.toList.map λc=>((c.toNat:Nat):Int))=b.size from hl]
  simp[Ty.size]
 ·intro v hv
  simp only[List.mem_map] at hv;obtain⟨c,_,rfl⟩:=hv;rfl
end AM
namespace AM
open Go
variable {α:Type}{P:Program}{base:Nat}
theorem PO {N:Names}{tys:Array TypeId}{t u rt e:TypeId}{i:TypeInfo}{z:Value}{D:Nat->Prop}{w:World}{te:Ty}{n:Int}(h0:tys[0]?=some t)(h1:tys[1]?=some u)(ht:P.underlying t=some (.slice e))(hi:P.info? e=some i)(hz:i.zero=some z)(hb:1<=i.bytes)(vB:i.size=te.size)
  {k k':IntKind} (hu:P.underlying u=some (.int k)) (XB:0<=n) (L4:n*(i.bytes:Int)<=70368744177664) (zn:z.cells.toList=mW te (iz te)):Src P tys rt e i z N D w te (List.replicate n.toNat (iz te)) (.int k' n) (Builtin.zeroCells z.cells n.toNat).toList:=by
 have uC:z.cells.size=te.size:=by rw[<-mZ te,<-zn];simp
 have hl:aQ (β:=te.den) (List.replicate n.toNat (iz te))=n.toNat:=by simp[aQ]
 refine⟨by rw[hl];exact xP.JJ h0 h1 ht hi hz hb hu XB L4 (by rw[uC,vB]),by rw[hl];simp[size_zeroCells,uC],dX.JJ n.toNat zn λj hj=>?_,λv hv=>?_⟩
 ·have hp:0<te.size:=by
   rcases zdZ te.size with q|q
   ·rw[q] at hj;omega
   ·exact q
  have hm:j%te.size<z.cells.size:=by rw[uC];exact Nat.mod_lt _ hp
  simp only[Builtin.zeroCells,Array.getElem?_toList];rw[Array.getElem?_map,Array.getElem?_range,if_pos (by rw[uC];exact hj),zdO]
  rw[uC] at hm⊢;rw[getElem!_pos z.cells _ (by rw[uC];exact hm),zei (by rw[uC];exact hm)]
 ·simp only[Builtin.zeroCells,Array.mem_toList_iff,Array.mem_map,Array.mem_range] at hv
  obtain⟨j,hj,rfl⟩:=hv;have hp:0<z.cells.size:=by
   rcases zdZ z.cells.size with q|q
   ·rw[q] at hj;omega
   ·exact q
  have hm:j%z.cells.size<z.cells.size:=Nat.mod_lt _ hp;rw[getElem!_pos z.cells _ hm];have h2:dX N D w te [iz te] (z.cells[·]?):=by
   intro i x hx;have Ro:i=0:=by have:=yu hx;simp only[aQ,zdJ,zdK] at this;omega
   subst Ro;simp only[jT,zeb,zdF] at hx;subst hx;refine rS te _ λj hj=>?_;rw[<-zn];simp
  obtain⟨c,h3,h4⟩:=h2.cell (j:=j%z.cells.size) (by simp only[aQ,zdJ,zdK];omega)
  rw[zei hm] at h3;cases h3;exact h4
theorem Gv {st:St}{id:Nat}{e:TypeId}{te:Ty}{bs ys:List te.den}{k:AV->St->Option α}{r:α}(h:grow P st id e te bs ys k=some r):
  st.h id=none/\k (.tail id 0) (st.set id (.row false te (bs++ys:List te.den)))=some r/\(aQ (β:=te.den) bs+aQ (β:=te.den) ys)*P.bytesOf e<=70368744177664:=by
 unfold grow at h;obtain⟨h1,h2⟩:=ji h;obtain⟨h3,h4⟩:=z7 h2;refine⟨h3,h4,?_⟩;rw[HR] at h1;have:(((aQ (β:=te.den) bs+aQ (β:=te.den) ys)*P.bytesOf e:Nat):Int)<=(70368744177664:Nat):=by
  rw[Int.natCast_mul];exact h1
 omega
theorem DU {st:St}{id:Nat}{ty e tx:TypeId}{tys:Array TypeId}{rt:TypeId}{te:Ty}{bs:List te.den}{y:AV}{k:AV->St->Option α}{r:α}(z6:zK P tx=some (e,te))(h0:tys[0]?=some tx)(h1:tys[1]?=some ty)(h:grown P st id ty e te bs y k=some r):
  ∃(ys:List te.den) (i:TypeInfo) (z:Value),P.info? e=some i/\i.zero=some z/\i.size=te.size/\z.cells.size=te.size/\st.h id=none/\k (.tail id 0) (st.set id (.row false te (bs++ys:List te.den)))=some r/\(aQ (β:=te.den) bs+aQ (β:=te.den) ys)*i.bytes<=70368744177664/\
   ∀N D w base,jU N D w base st.h->∀c,ck N D w y c->∃cs,Src P tys rt e i z N D w te ys c cs:=by
 obtain⟨hu,Oc,hsz,hb,i,hi,vB,R0,z,hz,uC⟩:=qw z6;rw[<-R0] at hb;unfold grown at h;split at h
 ·rename_i n
  split at h
  ·rename_i ki hty
   obtain⟨⟨h2,h3⟩,h4⟩:=ji h;obtain⟨v,i',z',h5,nb,US,YF,zn,_,_⟩:=rU h4;rw[hi] at nb;cases nb;rw[hz] at US;cases US;obtain⟨h6,h7⟩:=z7 h5;have vC:=tL 12 e te v Oc YF;rw[<-zn] at vC;rw[HR,<-R0] at h3;have hl:aQ (β:=te.den) (List.replicate n.toNat (iz te))=n.toNat:=by simp[aQ]
   refine⟨_,i,z,hi,hz,vB,uC,h6,h7,?_,λN D w base S c hc=>?_⟩
   ·rw[hl]
    have:(((aQ (β:=te.den) bs+n.toNat)*i.bytes:Nat):Int)<=(70368744177664:Nat):=by
     rw[Int.natCast_mul,Int.natCast_add,Int.toNat_of_nonneg h2];exact h3
    omega
   ·rw[dY.1 hc]
    refine⟨_,PO h0 h1 hu hi hz hb vB hty h2 ?_ vC⟩;have:n*(i.bytes:Int)<=((bs.length:Int)+n)*(i.bytes:Int):=Int.mul_le_mul_of_nonneg_right (by omega) (by omega)
    omega
  ·cases h
 ·rename_i b
  split at h
  ·rename_i ys hni hc
   obtain⟨rfl,rfl⟩:=iV hc;obtain⟨h2,h3,h4⟩:=Gv h;refine⟨_,i,z,hi,hz,vB,uC,h2,h3,by rw[R0];exact h4,λN D w base S c hc=>?_⟩
   rw[dY.1 hc];exact⟨_,L7 h0 h1 hu hi hz hb hni⟩
  ·cases h
 ·replace h:=jk h;obtain⟨hni,h⟩:=h
  obtain⟨ys,ids,h2,h3⟩:=uP h;obtain⟨h4,h5,h6⟩:=Gv h2;exact⟨ys,i,z,hi,hz,vB,uC,h4,h5,by rw[R0];exact h6,λN D w base S c hc=>Gt (N:=N) h0 h1 hu hi hz hb vB hni (h3 N D w base S c hc)⟩
theorem JL {dst rt pos after guard}{x y:Operand}{args:Array Operand}{tys:Array TypeId}{tx ty:TypeId}{Bc:List TypeId}{st:St}{id:Nat}(pQ:id=name st.ep (dst.getD 999) 0){k:AV->St->Option α}{r:α}(ha:args.toList=[x,y])(ht:tys.toList=tx::ty::Bc)
  (h:DC P st id tx ty (st.ev x) (st.ev y) k=some r):nW P base ⟨dst, .call ⟨.builtin .append,args,tys⟩,rt,pos,after,guard⟩ st k r:=by
 have h0:tys[0]?=some tx:=by cases tys;simp at ht;subst ht;simp
 have h1:tys[1]?=some ty:=by cases tys;simp at ht;subst ht;simp
 unfold DC at h;split at h
 ·rename_i e te z6
  split at h
  ·rename_i e1
   obtain⟨ys,i,z,hi,hz,vB,uC,h2,h3,h4,h5⟩:=DU (rt:=rt) z6 h0 h1 h;refine⟨_,_,h3,DT ha ⟨rfl,rfl,rfl⟩ (λj _ hn=>by
    have hj:j≠id:=λe=>hn (by rw[e,pQ,rq])
    simp[St.set,hj]) λN D w a s=>?_⟩
   obtain⟨cs,src⟩:=h5 N D w base s.ny _ (s.FJ y);rw[s.sV e1,St.th];exact Og s.ny h2 vB uC src (by simpa [aQ] using h4)
  ·rename_i q off e1
   split at h
   ·rename_i t' xs ho
    split at h
    ·rename_i B4 hc
     obtain⟨rfl,rfl⟩:=iV hc;obtain⟨ys,i,z,hi,hz,vB,uC,h2,h3,h4,h5⟩:=DU (rt:=rt) z6 h0 h1 h;refine⟨_,_,h3,DT ha ⟨rfl,rfl,rfl⟩ (λj hj0 hn=>by
      have hj:j≠id:=λe=>hn (by rw[e,pQ,rq])
      have hq:j≠q:=λe=>hj0 (by rw[e1];simp[vp,e])
      simp[St.set,hj,hq]) λN D w a s=>?_⟩
     obtain⟨cs,src⟩:=h5 N D w base (by rw[St.th];exact(s.ny.kill q).1) _ (s.FJ y)
     rw[St.th,St.th];exact R1 s.ny ho h2 vB uC src (s.uB e1) h4
    ·cases h
   ·cases h
  ·rename_i q off len e1
   split at h
   ·rename_i t' xs ho
    split at h
    ·rename_i B4 hc
     obtain⟨rfl,rfl⟩:=iV hc;replace h:=jk h;obtain⟨hni,h⟩:=h
     obtain⟨ys,ids,h2,h3⟩:=uP h;unfold inPlace at h2;obtain⟨h4,h5⟩:=ji h2;obtain⟨hu,Oc,hsz,hb,i,hi,vB,R0,z,hz,uC⟩:=qw z6;rw[<-R0] at hb;refine⟨_,_,h5,DT ha ⟨rfl,rfl,rfl⟩ (λj hj0 _=>by
      have hq:j≠q:=λe=>hj0 (by rw[e1];simp[vp,e])
      simp[St.set,hq]) λN D w a s=>?_⟩
     obtain⟨cs,src⟩:=Gt (rt:=rt) (N:=N) h0 h1 hu hi hz hb vB hni (h3 N D w base s.ny _ (s.FJ y));rw[St.th];exact PN s.ny ho vB src (s.uB e1) h4
    ·cases h
   ·cases h
  ·cases h
 ·cases h
end AM
namespace AM
open Go
variable {α:Type}{P:Program}{base:Nat}
theorem Vl {N:Names}{D:Nat->Prop}{w:World}{te:Ty}{h:Nat->Option fK}(S:jU N D w base h){q p:Nat}{xs ys:List te.den}(ho:h q=some (.row false te xs)){cs:List Value}(hl:cs.length=aQ (β:=te.den) ys*te.size)(hr:dX N D w te ys (cs[·]?))(h1: ∀v∈cs,v.oneCell'=true)
  {nm:Nm} {a:Addr} (g1:N q=some nm) (hb:nm.base=some a) (la:p+aQ (β:=te.den) ys<=aQ (β:=te.den) xs):
  (storeCells (Addr.at_ a (p*te.size)) cs).run P w= .ok () (w.setCells a.block (a.off+p*te.size) cs)/\
  jU N D (w.setCells a.block (a.off+p*te.size) cs) base (kf h q (.row false te (xs.take p++ys++xs.drop (p+aQ (β:=te.den) ys):List te.den)))/\Ext N D w h N D (w.setCells a.block (a.off+p*te.size) cs) (kf h q (.row false te (xs.take p++ys++xs.drop (p+aQ (β:=te.den) ys):List te.den))):=by
 obtain⟨mM,i1,i2,i3,i4,i5,i6⟩:=S.obj q _ ho;rw[g1] at i1;cases i1;have PM:aQ (β:=te.den) (xs.take p++ys++xs.drop (p+aQ (β:=te.den) ys))=nm.len:=by
  rw[i4];simp only[aQ,zdI,zd3,zd4];simp only[aQ] at la;omega
 rw[hb] at i6;obtain⟨j1,⟨C,LW,fz,j2,j3,j4⟩,j5,j6⟩:=i6;replace j4:=j4 rfl
 simp only[zdG,if_false] at j5;have mN:dX N D w te xs (aX w a):=j6;have FN:p*te.size+cs.length<=nm.cap*te.size:=by rw[hl,<-zdT];exact zdS _ (by omega)
 have jG:(storeCells (Addr.at_ a (p*te.size)) cs).run P w= .ok () (w.setCells a.block (a.off+p*te.size) cs):=by
  simp only[Addr.at_];exact pg j2 (j4.imp_right And.left) (by omega) h1
 obtain⟨o1,o2,o3⟩:=kR a.block cs (a.off+p*te.size) w;obtain⟨C',f1,f2⟩:=jd a.block cs (a.off+p*te.size) w C LW fz j2;have UR:=jz a.block cs (a.off+p*te.size) w;have one:=ku a.block cs (a.off+p*te.size) w;have hD: ∀b,D b->(w.setCells a.block (a.off+p*te.size) cs).heap[b]?=w.heap[b]?:=λb vl=>one b (λe=>j5.2 (e▸vl));have Lp:=mN.mono (λ_ h=>h) hD;refine⟨jG,S.write (o':= .row false te (xs.take p++ys++xs.drop (p+aQ (β:=te.den) ys):List te.den)) ho rfl g1 hb o1 o2 o3 UR one ?_⟩;refine⟨nm,g1,i2,i3,PM.symm,i5,?_⟩;rw[hb];show _/\_/\_/\_
 refine⟨j1,⟨C',LW,fz,f1,by rw[f2];exact j3,λ_=>by rw[f2];exact j4⟩,by simp only[zdG,if_false];exact j5,?_⟩
 have Jk:aQ (β:=te.den) (xs.take p)=p:=by simp only[aQ,zd3];simp only[aQ] at la;omega
 have YH:aQ (β:=te.den) (xs.take p++ys)=p+aQ (β:=te.den) ys:=by
  have:aQ (β:=te.den) (xs.take p++ys)=aQ (β:=te.den) (xs.take p)+aQ (β:=te.den) ys:=by simp[aQ]
  rw[this,Jk]
 have hA:dX N D (w.setCells a.block (a.off+p*te.size) cs) te (xs.take p:List te.den) (aX (w.setCells a.block (a.off+p*te.size) cs) a):=by
  refine(Lp.take p).congr λj hj=>?_;rw[Jk] at hj;simp only[aX];exact(World.cell?_setCells_out _ _ _ _ _ (λ_ _=>by simp only;omega)).symm
 have hB:dX N D (w.setCells a.block (a.off+p*te.size) cs) te ys (λj=>aX (w.setCells a.block (a.off+p*te.size) cs) a (p*te.size+j)):=by
  refine(hr.mono (λ_ h=>h) hD).congr λj hj=>?_;rw[<-hl] at hj;have:=World.cell?_setCells_in a.block cs (a.off+p*te.size) w (λj hj=>iW j2 (by omega)) j hj
  simp only[aX];rw[<-zdU,this];simp
 have hC:dX N D (w.setCells a.block (a.off+p*te.size) cs) te (xs.drop (p+aQ (β:=te.den) ys):List te.den) (λj=>aX (w.setCells a.block (a.off+p*te.size) cs) a ((p+aQ (β:=te.den) ys)*te.size+j)):=by
  refine(Lp.drop _).congr λj hj=>?_;simp only[aX];refine(World.cell?_setCells_out _ _ _ _ _ (λ_ _=>?_)).symm;right
  simp only;rw[hl,zdT p];omega
 exact dX.append (dX.append hA (by rw[Jk];exact hB)) (by rw[YH];exact hC)
theorem L8 {N:Names}{D:Nat->Prop}{w:World}{te:Ty}{z:Value}{n:Nat}(zn:z.cells.toList=mW te (iz te)):(Builtin.zeroCells z.cells n).toList.length=aQ (β:=te.den) (List.replicate n (iz te))*te.size/\dX N D w te (List.replicate n (iz te)) ((Builtin.zeroCells z.cells n).toList[·]?)/\∀v∈(Builtin.zeroCells z.cells n).toList,v.oneCell'=true:=by
 have uC:z.cells.size=te.size:=by rw[<-mZ te,<-zn];simp
 refine⟨by simp[size_zeroCells,uC,aQ],dX.JJ n zn λj hj=>?_,λv hv=>?_⟩
 ·have hp:0<te.size:=by
   rcases zdZ te.size with q|q
   ·rw[q] at hj;omega
   ·exact q
  have hm:j%te.size<z.cells.size:=by rw[uC];exact Nat.mod_lt _ hp
  simp only[Builtin.zeroCells,Array.getElem?_toList];rw[Array.getElem?_map,Array.getElem?_range,if_pos (by rw[uC];exact hj),zdO]
  rw[uC] at hm⊢;rw[getElem!_pos z.cells _ (by rw[uC];exact hm),zei (by rw[uC];exact hm)]
 ·simp only[Builtin.zeroCells,Array.mem_toList_iff,Array.mem_map,Array.mem_range] at hv
  obtain⟨j,hj,rfl⟩:=hv;have hp:0<z.cells.size:=by
   rcases zdZ z.cells.size with q|q
   ·rw[q] at hj;omega
   ·exact q
  have hm:j%z.cells.size<z.cells.size:=Nat.mod_lt _ hp;rw[getElem!_pos z.cells _ hm];have h2:dX N D w te [iz te] (z.cells[·]?):=by
   intro i x hx;have Ro:i=0:=by have:=yu hx;simp only[aQ,zdJ,zdK] at this;omega
   subst Ro;simp only[jT,zeb,zdF] at hx;subst hx;refine rS te _ λj hj=>?_;rw[<-zn];simp
  obtain⟨c,h3,h4⟩:=h2.cell (j:=j%z.cells.size) (by simp only[aQ,zdJ,zdK];omega)
  rw[zei hm] at h3;cases h3;exact h4
theorem L9 {dst rt pos after guard}{x:Operand}{args:Array Operand}{tys:Array TypeId}{tx:TypeId}{Bc:List TypeId}{st:St}{k:AV->St->Option α}{r:α}(ha:args.toList=[x])(ht:tys.toList=tx::Bc)
  (h:HA P st tx (st.ev x) k=some r):nW P base ⟨dst, .call ⟨.builtin .clear,args,tys⟩,rt,pos,after,guard⟩ st k r:=by
 have nz:args= #[x]:=by cases args;simp at ha;subst ha;rfl
 have zZ:tys[0]?=some tx:=by cases tys;simp at ht;subst ht;simp
 subst nz;unfold HA at h;split at h
 ·rename_i e te z6
  obtain⟨hu,zcw,hsz,_⟩:=qw z6;obtain⟨zv,i,z,h,hi,hz,YF,zn,uC,_⟩:=rU h;have hzf:z.cells.toList=mW te (iz te):=by rw[zn];exact tL 12 e te zv zcw YF
  split at h
  ·rename_i q off len e1
   split at h
   ·rename_i t' xs ho
    split at h
    ·rename_i ys hc
     obtain⟨rfl,rfl⟩:=iV hc;refine⟨_,_,h,rfl,rfl,rfl,λj hj _=>?_,λN D w a s=>?_⟩
     ·have lF:j≠q:=by
       rintro rfl
       exact hj (by simp[NX,e1,vp])
      simp[St.set,lF]
     ·have hv:=s.uB e1
      unfold ck at hv;simp only[AV.isAgg,jv,ar] at hv;obtain⟨nm,g1,hv⟩:=hv;obtain⟨mM,i1,i2,i3,i4,i5,i6⟩:=s.ny.obj q _ ho;rw[g1] at i1;cases i1;cases hb:nm.base with
      |none=>
       rw[hb] at hv;obtain⟨_,rfl,rfl,g4,g5⟩:=hv;simp only[zdF] at g5;have HI:ys=[]:=zd8 (by simp only[aQ] at i4;omega)
       subst HI;have vE:kf st.h q (.row false t' (([]:List t'.den).take 0++List.replicate 0 (iz t')++([]:List t'.den).drop (0+0):List t'.den))=st.h:=by simpa using xR ho
       refine⟨N,D,w, .tuple #[], .inl ?_,?_,?_,lJ.2 ⟨#[],rfl,by simp only[bA]⟩⟩
       ·simp[execOp,resolve,invoke,builtin,Builtin.clear_,zZ,g5,run_underlying hu]
       ·show Ext N D w st.h N D w (kf st.h q _)
        rw[vE];exact Ext.refl _ _ _ _
       ·show jU N D w base (kf st.h q _)
        rw[vE];exact s.ny
      |some ad=>
       rw[hb] at hv;simp only at hv;rw[if_pos (by simp[i2])] at hv
       obtain⟨g3,g4,v',room,g5,g6,g7,a',sF,rfl,g8,rfl,g9⟩:=hv;simp only[zdF] at g5;obtain⟨z1,z2,z3⟩:=L8 (N:=N) (D:=D) (w:=w) (n:=len) hzf;have hrl:aQ (β:=t'.den) (List.replicate len (iz t'))=len:=by simp[aQ]
       obtain⟨p1,p2,p3⟩:=Vl (P:=P) (p:=off) (ys:=(List.replicate len (iz t'):List t'.den)) s.ny ho z1 z2 z3 g1 hb (by rw[hrl,<-i4];exact g3)
       rw[hrl] at p2 p3;have zdm: ∀l,List.replicate l (iz t')=(List.replicate l (iz t'):List t'.den):=λ_=>rfl;have FK:ad.spot=none:=by rw[hb] at i6;exact i6.1
       cases len with
       |zero=>
        have hxx:(ys.take off++List.replicate 0 (iz t')++ys.drop (off+0):List t'.den)=ys:=by simp
        refine⟨N,D,w, .tuple #[], .inl ?_,?_,?_,lJ.2 ⟨#[],rfl,by simp only[bA]⟩⟩
        ·simp[execOp,resolve,invoke,builtin,Builtin.clear_,zZ,g5,run_underlying hu]
        ·show Ext N D w st.h N D w (kf st.h q (.row false t' (ys.take off++List.replicate 0 (iz t')++ys.drop (off+0):List t'.den)))
         rw[hxx,xR ho];exact Ext.refl _ _ _ _
        ·show jU N D w base (kf st.h q (.row false t' (ys.take off++List.replicate 0 (iz t')++ys.drop (off+0):List t'.den)))
         rw[hxx,xR ho];exact s.ny
       |succ n=>
        have ha':a'=Addr.at_ ad (off*t'.size):=by
         rcases g9 with h9|h9
         ·rw[h9,i3,iH]
         ·omega
        subst ha';refine⟨N,D,_, .tuple #[], .inl ?_,p3,p2,lJ.2 ⟨#[],rfl,by simp only[bA]⟩⟩
        have hzv:(zeroValue e).run P w= .ok z w:=by simp[zeroValue,typeInfo,hi,hz]
        simp[execOp,resolve,invoke,builtin,Builtin.clear_,zZ,g5,run_underlying hu,hzv,p1]
    ·cases h
   ·cases h
  ·cases h
 ·cases h
end AM
