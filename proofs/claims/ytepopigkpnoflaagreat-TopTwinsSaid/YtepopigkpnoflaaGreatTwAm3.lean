/- An abstract machine over programs of the model, and its soundness: what it tells of a function, the model's machine does, continued. Conditions: none. -/
import Derived.WalkKit
import Derived.ProofKit
import Derived.OpenShut
import Derived.ShutString
import Derived.ChangeOld
import Derived.Below
import Derived.SizedLaws
import Derived.Carry
import Derived.Tactics
import Derived.Tactics2
import Derived.Defers
import Derived.Laws.Pointers
import Derived.Laws.LoneSync
import Derived.RegionTactic
import Derived.RegionCalls
import Derived.ChangeAlike
import Derived.Test.YtepopigkpnoflaaGreatProg
import Derived.Shelf.Spec.SlicesInsertGrow
import Derived.Test.YtepopigkpnoflaaGreatTwAm2
set_option linter.unusedVariables false
set_option linter.unusedSimpArgs false
namespace AM
open Go Go.RowKit Go.ChangeShapes Go.WideShapes
def Ty.bytes:Ty->Nat
 | .int k=>k.bits/8| .bool=>1| .str=>16| .nil=>0| .cons a b=>a.bytes+b.bytes| .arr n t=>n*t.bytes| .deep _=>24| .ref _=>8
mutual
def rk (P:Program):Nat->TypeId->Ty->Bool
 |0,_,_=>false
 |n+1,t,te=>decide (P.cellsOf t=te.size)&& (match P.underlying t,te with
  |some (.int k), .int k'=>decide (k=k')
  |some .bool, .bool=>true
  |some .string, .str=>true
  |some (.slice e), .deep te=>rk P n e te&&decide (1<=te.size)&&decide (te.bytes<=P.bytesOf e)
  |some (.array m e), .arr m' te=>decide (m=m')&&rk P n e te
  |some (.struct fs),te=>Ca P n fs.toList 0 te
  |_,_=>false)
def Ca (P:Program):Nat->List Field->Nat->Ty->Bool
 |0,_,_,_=>false
 |_+1,[],_, .nil=>true
 |n+1,f::fs,off, .cons a b=>decide (f.offset=off)&&rk P n f.type a&&Ca P n fs (off+a.size) b
 |_+1,_,_,_=>false
end
def InR (k:IntKind)(n:Int):Prop:=k.min<=n/\n<=k.max
def UU {β:Type}(x:β)(xs:List β):Prop:=x∈xs
def LX:(t:Ty)->t.den->Prop
 | .int k,n=>InR k n
 | .str,s=>ByteArray.size s<=140737488351232
 | .cons a b,p=>LX a p.1/\LX b p.2
 | .arr n t,xs=>aO (β:=t.den) xs=n/\∀x:t.den,UU (β:=t.den) x xs->LX t x
 | .deep t,xs=>aO (β:=t.den) xs*t.bytes<=140737488351232/\∀x:t.den,UU (β:=t.den) x xs->LX t x
 |_,_=>True
theorem Cb {β:Type}{Q:Nat->β->Prop}: ∀(n:Nat),(∀i,i<n->∃x,Q i x)->∃xs:List β,xs.length=n/\∀i x,xs[i]?=some x->Q i x
 |0,_=>⟨[],rfl,λi x h=>by simp at h⟩
 |n+1,h=>by
  obtain⟨xs,h1,h2⟩:=Cb n λi hi=>h i (by omega)
  obtain⟨x,hx⟩:=h n (by omega)
  refine⟨xs++ [x],by simp[h1],λi y hy=>?_⟩
  rw[List.getElem?_append] at hy;split at hy
  ·exact h2 i y hy
  ·rename_i hi
   have:i=n:=by
    have:=(List.getElem?_eq_some_iff.1 hy).1;simp at this;omega
   subst this;simp[h1] at hy;subst hy;exact hx
theorem Eh {β:Type}{Q:β->Prop}{xs:List β}(h: ∀(i:Nat) (x:β),xs[i]?=some x->Q x): ∀x,UU x xs->Q x:=by
 intro x hx;obtain⟨i,hi⟩:=List.getElem?_of_mem hx;exact h i x hi
section
variable {H:Type}{enc:TypeId×Value->H}{P:Program}{w:World}{N:Names}{D:Nat->Prop}
def Small (l:List Nat):Prop:= ∀n∈l,n<=reachBytes
theorem Small.left {a b:List Nat}(h:Small (a++b)):Small a:=λn hn=>h n (zdu _ hn)
theorem Small.right {a b:List Nat}(h:Small (a++b)):Small b:=λn hn=>h n (zdv _ hn)
theorem GC {e:TypeId}: ∀{l:List (DataW H)} {i:Nat} {d:DataW H},Small (DataW.weightsAll P e l)->l[i]?=some d->Small (d.weights P e)
 | [],_,_,_,h=>by simp at h
 |x::xs,0,d,h,hd=>by
  simp at hd;subst hd;simp only[DataW.weightsAll] at h;exact h.left
 |x::xs,i+1,d,h,hd=>by
  simp only[DataW.weightsAll] at h;exact GC h.right (by simpa using hd)
theorem GD {m fuel:Nat}{e:TypeId}{te:Ty}(ih: ∀(cs:List Value) (x:DataW H×List MemPlace),DataW.trod enc P w 0 (λ_=>true) true fuel e cs=some x->Small (x.1.weights P e)->∃y:te.den,iq N D w te y (cs[·]?)/\LX te y/\cs.length=te.size)
  {xs:List (DataW H×List MemPlace)} (hl:xs.length=m) (hs:Small (DataW.weightsAll P e (xs.map (·.1)))) {f:Nat->Option (List Value)} (hf: ∀i,i<m->(f i).bind (DataW.trod enc P w 0 (λ_=>true) true fuel e)=xs[i]?):
  ∃ys:List te.den,ys.length=m/\∀i y,ys[i]?=some y->∃cs,f i=some cs/\iq N D w te y (cs[·]?)/\LX te y/\cs.length=te.size:=by
 refine Cb m λi hi=>?_;have h1:=hf i hi;rw[zdi (by omega)] at h1
 obtain⟨cs,h2,h3⟩:=Option.bind_eq_some_iff.1 h1;obtain⟨y,g⟩:=ih cs _ h3 (GC hs (i:=i) (by simp[hl,hi]))
 exact⟨y,cs,h2,g⟩
theorem GF (hD: ∀b,b<w.heap.size->D b): ∀(m:Nat),
  (∀(t:TypeId) (te:Ty) (fuel:Nat) (cs:List Value) (x:DataW H×List MemPlace),rk P m t te=true->DataW.trod enc P w 0 (λ_=>true) true fuel t cs=some x->Small (x.1.weights P t)->∃y:te.den,iq N D w te y (cs[·]?)/\LX te y/\cs.length=te.size)/\
  (∀(fs:List Field) (off:Nat) (te:Ty) (fuel:Nat) (cs:List Value) (xs:List (DataW H×List MemPlace)),Ca P m fs off te=true->(∀(i:Nat) (f:Field),fs[i]?=some f->DataW.trod enc P w 0 (λ_=>true) true fuel f.type ((cs.drop f.offset).take (P.cellsOf f.type))=xs[i]?)->xs.length=fs.length->Small (DataW.weightsEach P (fs.map (·.type)) (xs.map (·.1)))->∃y:te.den,iq N D w te y (λj=>cs[off+j]?)/\LX te y)
 |0=>⟨λt te fuel cs x h=>by simp[rk] at h,λfs off te fuel cs xs h=>by simp[Ca] at h⟩
 |m+1=>by
  obtain⟨qI,Ud⟩:=GF hD m;refine⟨λt te fuel cs x lf h hs=>?_,λfs off te fuel cs xs lf h hl hs=>?_⟩
  ·unfold rk at lf
   simp only[zdl,zdr] at lf;obtain⟨tN,lf⟩:=lf;split at lf
   ·rename_i k k' hu
    simp only[zdr] at lf;subst lf;obtain⟨n,rfl,rfl,hw⟩:=DataW.trod_int hu h;simp only[Lit.wf,zdl,zdr] at hw;exact⟨n,rfl,hw,rfl⟩
   ·rename_i hu
    obtain⟨b,rfl,rfl⟩:=DataW.trod_bool hu h;exact⟨b,rfl,trivial,rfl⟩
   ·rename_i hu
    obtain⟨s,rfl,rfl,_⟩:=DataW.trod_string hu h;refine⟨s,rfl,?_,rfl⟩;have:=hs s.data.toList.length (by simp[DataW.weights])
    show s.size<=140737488351232
    have e:s.data.toList.length=s.size:=by simp
    rw[e] at this;exact this
   ·rename_i e te hu
    simp only[zdl,zdr] at lf;obtain⟨⟨Pv,h1⟩,QL⟩:=lf;rcases DataW.trod_slice hu h with⟨rfl,rfl⟩|⟨a,len,cap,elems,rest,n,rfl,rfl,rfl,_,hlc,_,zQ,qH,_⟩
    ·refine⟨([]:List te.den),⟨none,0,rfl,zdz _,λ_=>rfl,by intro ad ha;cases ha⟩,⟨by simp[aO],λx hx=>by simp[UU] at hx⟩,rfl⟩
    ·simp only[DataW.weights,hu] at hs
     have O3:P.cellsOf e=te.size:=by
      cases m with
      |zero=>simp[rk] at Pv
      |succ m=>unfold rk at Pv;simp only[zdl,zdr] at Pv;exact Pv.1
     obtain⟨ys,g1,g2⟩:=GD (λcs x hx UW=>qI e te n cs x Pv hx UW) zQ (λq hq=>hs q (zdp _ (zdu _ hq))) qH;have hlen:aO (β:=te.den) ys=len:=g1;have R4:=hs _ (zdq ..);have Nq:len≠0->a.spot=none:=by
      intro lR;have h0:ys[0]?=some (ys[0]'(by omega)):=zdi (by omega)
      obtain⟨cs,c1,_,_,c4⟩:=g2 0 _ h0;obtain⟨_,c5,c6⟩:=World.cells?_some c1;have c7:=c6 0 (by omega)
      rw[zdi (by omega)] at c7
      simp only[zd1,Addr.add,if_true] at c7;unfold World.cell? at c7;split at c7
      ·split at c7
       ·cases c7
       ·rename_i Fo
        simpa using Fo
      ·cases c7
     refine⟨(ys:List te.den),⟨some a,cap,by rw[hlen];rfl,by rw[hlen];exact hlc,(by intro e';cases e'),λad Fz lR=>?_⟩,⟨?_,?_⟩,rfl⟩
     ·cases Fz
      rw[hlen] at lR;have Fo:=Nq lR;refine⟨Fo,?_,λi y hy=>?_⟩
      ·have h0:ys[0]?=some (ys[0]'(by omega)):=zdi (by omega)
       obtain⟨cs,c1,_,_,c4⟩:=g2 0 _ h0;simp only[zd1,Addr.add,if_true] at c1;exact hD _ (World.cells?_block c1 (by omega))
      ·obtain⟨cs,c1,c2,_,c4⟩:=g2 i y hy
       obtain⟨_,c5,c6⟩:=World.cells?_some c1;refine ji te y _ _ (λj hj=>?_) c2;rw[<-c6 j (by omega)]
       obtain⟨b,o,sp⟩:=a;simp only at Fo;subst Fo;simp only[aV,oy,O3,zdy]
     ·show aO (β:=te.den) ys*te.bytes<=140737488351232
      rw[hlen];have h2:len*te.bytes<=(elems.length+rest.length)*P.bytesOf e:=Nat.mul_le_mul (by omega) QL
      simp only[zen] at R4;exact zdA h2 R4
     ·exact Eh λi y hy=>(g2 i y hy).elim λcs yy=>yy.2.2.1
   ·rename_i n e n' te hu
    simp only[zdl,zdr] at lf;obtain⟨rfl,Pv⟩:=lf;obtain⟨xs,k,rfl,rfl,hlen,WV,qH⟩:=DataW.trod_array hu h;simp only[DataW.weights,hu] at hs;have O3:P.cellsOf e=te.size:=by
     cases m with
     |zero=>simp[rk] at Pv
     |succ m=>unfold rk at Pv;simp only[zdl,zdr] at Pv;exact Pv.1
    obtain⟨ys,g1,g2⟩:=GD (f:=λi=>some ((cs.drop (i*P.cellsOf e)).take (P.cellsOf e))) (λcs x hx UW=>qI e te k cs x Pv hx UW) WV hs (λi hi=>by simpa using qH i hi)
    refine⟨(ys:List te.den),⟨g1,λi y hy=>?_⟩,⟨g1,?_⟩,by rw[hlen,tN]⟩
    ·obtain⟨tq,c1,c2,_,c4⟩:=g2 i y hy
     cases c1;refine ji te y _ _ (λj hj=>?_) c2;simp only;rw[zdJ,if_pos (by omega),zdK,O3]
    ·exact Eh λi y hy=>(g2 i y hy).elim λcs yy=>yy.2.2.1
   ·rename_i fs hu
    obtain⟨xs,k,rfl,rfl,hlen,WV,qH⟩:=DataW.trod_struct hu h;simp only[DataW.weights,hu] at hs;obtain⟨y,g1,g2⟩:=Ud fs.toList 0 _ k cs xs lf (λi f hf=>qH i f (by simpa using hf)) (by simpa using WV) (by simpa using hs)
    exact⟨y,by simpa using g1,g2,by rw[hlen,tN]⟩
   ·cases lf
  ·unfold Ca at lf
   split at lf
   ·cases lf
   ·exact⟨(),trivial,trivial⟩
   ·rename_i off _ n f fs a b he
    obtain rfl:m=n:=Nat.succ.inj he;cases xs with
    |nil=>simp at hl
    |cons x xs=>
     simp only[zdl,zdr] at lf;obtain⟨⟨rfl,Yr⟩,hfb⟩:=lf;simp only[zea,DataW.weightsEach] at hs;have h0:=h 0 f rfl;simp only[zdP] at h0;have hca:P.cellsOf f.type=a.size:=by
      cases m with
      |zero=>simp[rk] at Yr
      |succ m=>unfold rk at Yr;simp only[zdl,zdr] at Yr;exact Yr.1
     obtain⟨y,y1,y2,y3⟩:=qI f.type a fuel _ x Yr h0 hs.left;obtain⟨z,z1,z2⟩:=Ud fs (f.offset+a.size) b fuel cs xs hfb (λi g hg=>by simpa using h (i+1) g (by simpa using hg)) (by simpa using hl) hs.right
     refine⟨(y,z),⟨ji a y _ _ (λj hj=>?_) y1,iq.func z1 λj=>by rw[zdy]⟩,y2,z2⟩
     rw[zdJ,if_pos (by omega),zdK]
   ·cases lf
end
end AM
namespace AM
open Go Go.RowKit Go.ChangeShapes Go.WideShapes
def wI:Nat->List Ty->List (Nat×cj)
 |_,[]=> []
 |i,t::ts=>(i, .hole t)::wI (i+1) ts
def Ys:(i:Nat)->(ts:List Ty)->wD (wI i ts)->Prop
 |_,[],_=>True
 |i,t::ts,d=>LX t d.1/\Ys (i+1) ts d.2
def fits (P:Program):List TypeId->List Ty->Bool
 | [],[]=>true
 |p::ps,t::ts=>rk P 40 p t&&fits P ps ts
 |_,_=>false
section
variable {H:Type}{enc:TypeId×Value->H}{P:Program}{w:World}{N:Names}{D:Nat->Prop}{base:Nat}
theorem LY {m:Nat}{t:TypeId}{te:Ty}(h:rk P m t te=true):P.cellsOf t=te.size:=by
 cases m with
 |zero=>simp[rk] at h
 |succ m=>unfold rk at h;simp only[zdl,zdr] at h;exact h.1
theorem Am {te:Ty}{x:te.den}{v:Value}(ha:(AM.enc te x).isAgg=false)(hs:te.size=1)(h:iq N D w te x ([v][·]?)):cq N D w (AM.enc te x) v:=by
 unfold cq;rw[ha];refine(kK te x _).2 (ji te x _ _ (λj hj=>?_) h);obtain rfl:j=0:=by omega
 rfl
theorem Ei {te:Ty}{x:te.den}{cs:Array Value}(ha:(AM.enc te x).isAgg=true)(hs:cs.size=te.size)(h:iq N D w te x (cs.toList[·]?)):cq N D w (AM.enc te x) (.agg cs):=by
 unfold cq;rw[ha];exact⟨cs,rfl,by rw[hs,nD],(kK te x _).2 (iq.func h λj=>by simp)⟩
theorem tz (te:Ty)(x:te.den):(AM.enc te x).isAgg=(rX te).isAgg:=by rw[zZ,rE]
theorem R5 (a b:Ty):(rX (.cons a b)).isAgg=true:=by
 simp only[rX];cases rX b<;>rfl
theorem Pw {m:Nat}{fs:List Field}{off:Nat}{te:Ty}(hf:Ca P m fs off te=true):(rX te).isAgg=true:=by
 cases m with
 |zero=>simp[Ca] at hf
 |succ m=>
  unfold Ca at hf;split at hf
  ·cases hf
  ·rfl
  ·exact R5 _ _
  ·cases hf
theorem R6 {m:Nat}{t:TypeId}{te:Ty}{x:te.den}{v:Value}(hf:rk P m t te=true)(hv:Value.okWide P w .any base t v)(h:iq N D w te x (v.cells.toList[·]?)):cq N D w (AM.enc te x) v:=by
 have hsz:=LY hf;cases m with
 |zero=>simp[rk] at hf
 |succ m=>
  unfold rk at hf;simp only[zdl,zdr] at hf;replace hf:=hf.2
  split at hf
  ·rename_i k k' hu
   obtain⟨n,rfl⟩:=okWide_int hu hv;exact Am (by rw[tz];rfl) rfl (by simpa [Value.cells] using h)
  ·rename_i hu
   obtain⟨n,rfl⟩:=okWide_bool hu hv;exact Am (by rw[tz];rfl) rfl (by simpa [Value.cells] using h)
  ·rename_i hu
   obtain⟨n,rfl⟩:=okWide_string hu hv;exact Am (by rw[tz];rfl) rfl (by simpa [Value.cells] using h)
  ·rename_i e te hu
   obtain⟨a,l,c,rfl⟩:=okWide_slice hu hv;exact Am (by rw[tz];rfl) rfl (by simpa [Value.cells] using h)
  ·rename_i n e n' te hu
   simp only[Value.okWide,hu] at hv;obtain⟨cs,rfl,yy,_⟩:=hv;exact Ei (by rw[tz];rfl) (by rw[yy,hsz]) (by simpa [Value.cells] using h)
  ·rename_i fs hu
   simp only[Value.okWide,hu] at hv;obtain⟨cs,rfl,yy,_⟩:=hv;exact Ei (by rw[tz];exact Pw hf) (by rw[yy,hsz]) (by simpa [Value.cells] using h)
  ·cases hf
theorem GG (hD: ∀b,b<w.heap.size->D b): ∀(pts:List TypeId) (ts:List Ty) (i:Nat) (vs:List Value) (ds:List (DataW H)) (ps:List MemPlace),fits P pts ts=true->DataW.TrodAll enc P w 0 (λ_=>true) true pts vs ds ps->
  (∀(j:Nat) t v,pts[j]?=some t->vs[j]?=some v->Value.okWide P w .any base t v)->Small (DataW.weightsEach P pts ds)->
  ∃d:wD (wI i ts),Ys i ts d/\vs.length=ts.length/\∀y,cq N D w (yX (λc=>c) (wI i ts) d (i+y)) (vs.getD y Go.undef)
 | [],[],i,vs,ds,ps,_,h,_,_=>by
  obtain⟨rfl,rfl,rfl⟩:=trodAll_nil h;exact⟨(),trivial,rfl,λy=>by simp only[wI,yX];exact oY⟩
 |p::pts,t::ts,i,vs,ds,ps,hf,h,hv,hs=>by
  obtain⟨v,vs,d,ds,p1,q1,rfl,rfl,rfl,⟨fuel,h1⟩,h2⟩:=trodAll_cons h;simp only[fits,zdl] at hf;simp only[DataW.weightsEach] at hs;obtain⟨x,x1,x2,_⟩:=(GF hD 40).1 p t fuel _ _ hf.1 h1 hs.left;obtain⟨d2,e1,e2,e3⟩:=GG hD pts ts (i+1) vs ds q1 hf.2 h2 (λj t v g1 g2=>hv (j+1) t v (by simpa using g1) (by simpa using g2)) hs.right
  refine⟨(x,d2),⟨x2,e1⟩,by simp[e2],λy=>?_⟩
  cases y with
  |zero=>
   simp only[wI,yX,zec,if_true,cj.mk];exact R6 hf.1 (hv 0 p v rfl rfl) x1
  |succ y=>
   simp only[wI,yX];rw[if_neg (by omega)]
   have:=e3 y;rw[show i+1+y=i+(y+1) by omega] at this
   simpa using this
 | [],_::_,_,_,_,_,h,_,_,_=>by simp[fits] at h
 |_::_,[],_,_,_,_,h,_,_,_=>by simp[fits] at h
theorem Ia (hl:laidOutB P=true): ∀{pts:List TypeId} {vs:List Value} {ds:List (DataW H)} {ps:List MemPlace} {w':World},(pts.all λt=>P.readableRec t&&decide (t<P.types.size))=true->DataW.TrodAll enc P w 0 (λ_=>true) true pts vs ds ps->Below w.heap.size w w'->
  DataW.TrodAll enc P w' 0 (λb=>decide (b<w.heap.size)) true pts vs ds ps
 | [],vs,ds,ps,w',_,h,_=>by
  obtain⟨rfl,rfl,rfl⟩:=trodAll_nil h;exact trodAll_mk0
 |p::pts,vs,ds,ps,w',hr,h,hb=>by
  obtain⟨v,vs,d,ds,p1,q1,rfl,rfl,rfl,h1,h2⟩:=trodAll_cons h;simp only[List.all_cons,zdl,zdr] at hr;obtain⟨fuel,H5⟩:=id h1;refine⟨p1,q1,Below.trod hl hr.1.1 hr.1.2 h1 hb (λx hx=>DataW.trod_lt fuel _ _ _ H5 x hx),Ia hl hr.2 h2 hb,rfl⟩
theorem zaJ {f:FuncId}{ts:List Ty}{lt:Bool}{F:jt.den ⟨wI 0 ts,[]⟩->Option (gK [⟨[(0, .hole .bool)],[]⟩])}(hF: ∀base,re P base f ⟨⟨wI 0 ts,[]⟩,[⟨[(0, .hole .bool)],[]⟩],lt⟩ F)(hp: ∀d:wD (wI 0 ts),Ys 0 ts d->F (d,())=some (((true,()),()):(Bool×Unit)×Unit))
  {pts:List TypeId} (lf:fits P pts ts=true) {args:Array Value} {ds:List (DataW H)} {ps:List MemPlace} (hA:DataW.TrodAll enc P w 0 (λ_=>true) true pts args.toList ds ps)
  (hval: ∀(j:Nat) t v,pts[j]?=some t->args[j]?=some v->Value.okWide P w .any base t v) (hs:Small (DataW.weightsEach P pts ds)):
  Calls P f args w λe w'=>e= .returned (.bool true)/\Below w.heap.size w w':=by
 obtain⟨d,h1,h2,h3⟩:=GG (N:=Names.nil) (D:=λb=>b<w.heap.size) (base:=base) (λ_ h=>h) pts ts 0 _ _ _ lf hA (λj t v g1 g2=>hval j t v g1 (by simpa using g2)) hs
 have hlen: ∀(i:Nat) (ts:List Ty),(wI i ts).length=ts.length:=by
  intro i ts;induction ts generalizing i with
  |nil=>rfl
  |cons t ts ih=>simp[wI,ih]
 have S:jV Names.nil (λb=>b<w.heap.size) w w.heap.size (mN (λc=>c) ([]:List (Nat×aH)) () (λ_=>none)):=
  ⟨λi o h=>by simp[mN] at h,λi j oi oj b h=>by simp[mN] at h,λb h=>h,(λi nm h=>by cases h),zdz _,λ_ _ _=>rfl⟩
 have hc:=(hF w.heap.size).2 (d,()) _ (hp d h1) Names.nil (λb=>b<w.heap.size) w args.toList S (by rw[h2,hlen]) (λy=>by have:=h3 y;rwa [zd2] at this)
 refine hc.mono λe w' he=>?_;cases e with
 |panicked c=>exact he.elim
 |outgrown=>exact he.elim
 |returned v=>
  obtain⟨Ne,De,post,hv⟩:=he;have hv:cq Ne De w' (AM.enc .bool true) v:=hv;refine⟨by rw[ee.1 hv],⟨post.ext.os,post.ext.tape,post.ext.output,post.ext.size,λb hb=>post.ext.sI b hb λho=>?_⟩⟩
  obtain⟨i,o,g1,_⟩:=ho;simp[mN] at g1
end
end AM
namespace AM
open Go
theorem ot {p:Prop}(h:p):af p=true:=kN.2 h
theorem bc {p:Prop}(h: ¬p):af p=false:=by
 cases e:af p with
 |false=>rfl
 |true=>exact absurd (kN.1 e) h
theorem iD:af True=true:=ot trivial
theorem nh:af False=false:=bc id
theorem LZ {n:Int}(h0: -9223372036854775808<=n)(h1:n<=9223372036854775807):wr .i64 n=n:=by rw[pE,IntKind.wrap_i64];omega
theorem tS {n:Int}(h:LX (.int .i64) n): -9223372036854775808<=n/\n<=9223372036854775807:=h
theorem zaK {L R:Type}{b:L->Option (L⊕R)}(I:L->Prop)(Q:R->Prop)(μ:L->Nat)(h: ∀l,I l->(∃r,b l=some (.inr r)/\Q r)\/(∃l',b l=some (.inl l')/\I l'/\μ l'<μ l)): ∀l,I l->∃r,ag b l=some r/\Q r:=by
 have key: ∀n l,μ l<=n->I l->∃r,ag b l=some r/\Q r:=by
  intro n;induction n with
  |zero=>
   intro l hn hl;rcases h l hl with⟨r,h1,h2⟩|⟨l',h1,h2,h3⟩
   ·exact⟨r,by rw[aq,h1],h2⟩
   ·omega
  |succ n ih=>
   intro l hn hl;rcases h l hl with⟨r,h1,h2⟩|⟨l',h1,h2,h3⟩
   ·exact⟨r,by rw[aq,h1],h2⟩
   ·obtain⟨r,h4,h5⟩:=ih l' (by omega) h2
    exact⟨r,by rw[aq,h1];exact h4,h5⟩
 exact λl hl=>key (μ l) l (zdz _) hl
theorem zad (a b:Bool):xd a b=(a==b):=rfl
theorem zb3 {β:Type}{xs:List β}{i:Int}(h0:0<=i)(h1:i<(xs.length:Int)): ∃x,xs[i.toNat]?=some x/\x∈xs:=by
 have h:i.toNat<xs.length:=by omega
 exact⟨xs[i.toNat],zdi h,zeq h⟩
theorem Px {v lo hi:Int}(hv: -9223372036854775808<=v/\v<=9223372036854775807)(h0: -4611686018427387904<=lo)(h1:lo<=hi)(h2:hi<=4611686018427387902)(h3:hi-lo<4611686018427387904):
  ∃r,lo<=r/\r<=hi/\(bif af ((wr .i64 ((wr .i64 (hi-lo))+1))=0) then none else(bif (af ((Int.tmod v (wr .i64 ((wr .i64 (hi-lo))+1)))<0)) then some ((((wr .i64 (lo+(wr .i64 ((wr .i64 ((wr .i64 ((Int.tmod v (wr .i64 ((wr .i64 (hi-lo))+1)))+hi))-lo))+1)))),()),()))
   else some ((((wr .i64 (lo+(Int.tmod v (wr .i64 ((wr .i64 (hi-lo))+1))))),()),()))):Option ((Int×Unit)×Unit))=some ((r,()),()):=by
 have e1:wr .i64 (hi-lo)=hi-lo:=LZ (by omega) (by omega)
 have e2:wr .i64 (hi-lo+1)=hi-lo+1:=LZ (by omega) (by omega)
 rw[e1,e2];have hm0:Int.tmod v (hi-lo+1)<hi-lo+1:=by
  have:=Int.tmod_lt_of_pos v (show 0<hi-lo+1 by omega)
  exact this
 have hm1: -(hi-lo+1)<Int.tmod v (hi-lo+1):=by
  have:=Int.lt_tmod_of_pos v (show 0<hi-lo+1 by omega)
  exact this
 generalize Int.tmod v (hi-lo+1)=m at hm0 hm1;simp only[kJ,Bool.cond_decide];rw[if_neg (by omega)]
 by_cases hm:m<0
 ·rw[if_pos hm]
  refine⟨lo+(m+hi-lo+1),by omega,by omega,?_⟩
  rw[LZ (n:=m+hi) (by omega) (by omega),LZ (n:=m+hi-lo) (by omega) (by omega),LZ (n:=m+hi-lo+1) (by omega) (by omega),LZ (by omega) (by omega)]
 ·rw[if_neg hm]
  refine⟨lo+m,by omega,by omega,?_⟩
  rw[LZ (by omega) (by omega)]
end AM
namespace AM
open Go
structure W where
 af:(p:Prop)-> [Decidable p]->Bool
 wr:IntKind->Int->Int
 shr:IntKind->Int->Int->Int
 shl:IntKind->Int->Int->Int
 sH:IntKind->Int->Int->Int
 AL:IntKind->Int->Int->Int
 pt:IntKind->Int->Int->Int
 Dj:IntKind->Int->Int->Int
 qF:Int->Int->Int
 imax:Int->Int->Int
 aj:Int->Int->Bool
 yS:(t:Ty)->t.den->t.den->Bool
 ag:{L R:Type}->(L->Option (L⊕R))->L->Option R
noncomputable def W0:W:=⟨λp _=>af p,wr,shr,shl,sH,AL,pt,Dj,qF,imax,aj,yS,ag⟩
noncomputable def NP {L R:Type}:Nat->(L->Option (L⊕R))->L->Option R
 |0,b,l=>ag b l
 |n+1,b,l=>match b l with|none=>none|some (.inr r)=>some r|some (.inl l')=>NP n b l'
theorem Ej {L R:Type}: ∀(n:Nat) (b:L->Option (L⊕R)) (l:L),NP n b l=ag b l
 |0,_,_=>rfl
 |n+1,b,l=>by
  rw[aq];simp only[NP];cases b l with
  |none=>rfl
  |some x=>cases x with
   |inl l'=>exact Ej n b l'
   |inr r=>rfl
def zco (k:IntKind)(a b:Int):Int:=a.fdiv (2^(min b.toNat k.bits))
def zaL (k:IntKind)(a b:Int):Int:=k.wrap ((BitVec.ofInt k.bits a&&&BitVec.ofInt k.bits b).toNat)
def zcp (k:IntKind)(a b:Int):Int:=k.wrap ((BitVec.ofInt k.bits a|||BitVec.ofInt k.bits b).toNat)
def zaM (k:IntKind)(a b:Int):Int:=k.wrap ((BitVec.ofInt k.bits a^^^BitVec.ofInt k.bits b).toNat)
def Yt (k:IntKind)(a b:Int):Int:=k.wrap ((BitVec.ofInt k.bits a&&& ~~~BitVec.ofInt k.bits b).toNat)
def zaN (a b:Int):Bool:=decide (a=b)
def JP:(t:Ty)->t.den->t.den->Bool
 | .int _,a,b=>zaN a b
 | .bool,a,b=>xd a b
 | .str,a,b=>Jb a b
 | .nil,_,_=>true
 | .cons a b,x,y=>JP a x.1 y.1&&JP b x.2 y.2
 | .arr _ t,xs,ys=>(List.zip (α:=t.den) (β:=t.den) xs ys).all λp=>JP t p.1 p.2
 | .deep _,_,_=>false
 | .ref _,_,_=>false
theorem Yu (a b:Int):aj a b=zaN a b:=kJ (a=b)
theorem C8: ∀(t:Ty) (x y:t.den),yS t x y=JP t x y
 | .int _,a,b=>Yu a b
 | .bool,a,b=>rfl
 | .str,a,b=>rfl
 | .nil,_,_=>rfl
 | .cons a b,x,y=>by
  show(yS a x.1 y.1&&yS b x.2 y.2)=(JP a x.1 y.1&&JP b x.2 y.2)
  rw[C8 a,C8 b]
 | .arr _ t,xs,ys=>by
  show((List.zip (α:=t.den) (β:=t.den) xs ys).all λp=>yS t p.1 p.2)=((List.zip (α:=t.den) (β:=t.den) xs ys).all λp=>JP t p.1 p.2)
  congr 1
  funext p
  exact C8 t p.1 p.2
 | .deep _,_,_=>rfl
 | .ref _,_,_=>rfl
noncomputable def WX:W:=⟨λp _=>decide p,λk n=>k.wrap n,zco,λk a b=>k.wrap (a*2^(min b.toNat k.bits)),zaL,zcp,zaM,Yt,λa b=>bif decide (b<a) then b else a,λa b=>bif decide (b>a) then b else a,λa b=>decide (a=b),JP,NP 1000000⟩
theorem Xj:W0=WX:=by
 unfold W0 WX;congr 1
 ·funext p i;exact kJ p
 ·funext k n;exact pE k n
 ·funext k a b;exact QV k a b
 ·funext k a b;exact pE k _
 ·funext k a b;exact pE k _
 ·funext k a b;exact pE k _
 ·funext k a b;exact pE k _
 ·funext k a b;exact pE k _
 ·funext a b;unfold qF;rw[kJ]
 ·funext a b;unfold imax;rw[kJ]
 ·funext a b;exact kJ _
 ·funext t x y;exact C8 t x y
 ·funext L R b l;exact(Ej _ b l).symm
end AM
namespace AM
open Go Go.Proofs
set_option maxRecDepth 100000
set_option linter.unusedVariables false
theorem mixed:Tryz.prog.follows .mixedOrders=true:=by kernel_rfl
theorem disable (w:World):(callFunc 196 #[]).run Tryz.prog w= .ok (.value (.tuple #[])) w:=run_call_mark0 Tryz.func196 (by kernel_rfl) (by kernel_rfl) (by kernel_rfl) .disable (by kernel_rfl) w
theorem enable (w:World):(callFunc 198 #[]).run Tryz.prog w= .ok (.value (.tuple #[])) w:=run_call_mark0 Tryz.func198 (by kernel_rfl) (by kernel_rfl) (by kernel_rfl) .enable (by kernel_rfl) w
theorem acquire (a:Addr)(w:World):(callFunc 199 #[.pointer (some a)]).run Tryz.prog w= .ok (.value (.tuple #[])) w:=run_call_marked Tryz.func199 (by kernel_rfl) (by kernel_rfl) (by kernel_rfl) .acquire (by kernel_rfl) a w
theorem releaseMerge (a:Addr)(w:World):(callFunc 201 #[.pointer (some a)]).run Tryz.prog w= .ok (.value (.tuple #[])) w:=run_call_marked Tryz.func201 (by kernel_rfl) (by kernel_rfl) (by kernel_rfl) .releaseMerge (by kernel_rfl) a w
theorem Ek (a:Addr)(x:Value)(u:FrameMode)(w:World)(hc:w.cell? a=some x)(hz:w.frozen? a=false):
  CallsD Tryz.prog 138 #[.pointer (some a), .bool true] u w λe u' w'=>u'=u/\(e= .returned (.tuple #[])/\w'=w.drew.setCell a (.int .u32 1)):=by
 have La:w.drew.cell? a=some x:=by go_simp
 have Ub:w.drew.frozen? a=false:=by go_simp
 have jZ:=run_call_store (P:=Tryz.prog) Tryz.func172 (by kernel_rfl) (by kernel_rfl) (by kernel_rfl) (by kernel_rfl) (k:= .u32) (y:=1) La Ub
 go_enter_d Tryz.func138,Tryz.ntmps138
 go_wp2
 go_region_calls
 all_goals (go_end0;exact⟨rfl,rfl⟩)
theorem CE (a:Addr)(u:FrameMode)(w:World)(hc:w.cell? a=some (.int .i32 1))(hz:w.frozen? a=false):
  CallsD Tryz.prog 137 #[.pointer (some a)] u w λe u' w'=>u'=u/\(e= .returned (.tuple #[])/\w'=w.setCell a (.int .i32 0)):=by
 have hd:=disable;have he:=enable;have hr:=releaseMerge;have Py:=run_call_add (P:=Tryz.prog) Tryz.func202 (by kernel_rfl) (by kernel_rfl) (by kernel_rfl) .i32 (by kernel_rfl) (y:= -1) (s:=0) hc hz (by simp[go_sem];rfl)
 have hcv:=run_convert_to_unsafe (P:=Tryz.prog) (src:=305) (dst:=309) Tryz.underlying305 Tryz.underlying309 (by kernel_rfl) hc
 go_enter_d Tryz.func137,Tryz.ntmps137
 go_wp2
 go_end0
 go_wp2
 go_end0
 exact⟨rfl,rfl⟩
theorem Pz (a:Addr)(w:World)(hc:w.cell? a=some (.int .i32 0))(hz:w.frozen? a=false):
  Calls Tryz.prog 136 #[.pointer (some a)] w λe w'=>e= .returned (.tuple #[])/\w'=w.setCell a (.int .i32 1):=by
 have hd:=disable;have he:=enable;have ha:=acquire;have zc6:=run_call_cas_hit (P:=Tryz.prog) Tryz.func197 (by kernel_rfl) (by kernel_rfl) (by kernel_rfl) .i32 (by kernel_rfl) (y:=1) hc hz
 have La:(w.setCell a (.int .i32 1)).cell? a=some (.int .i32 1):=World.cell?_setCell_same w a _ hc;have hcv:=run_convert_to_unsafe (P:=Tryz.prog) (src:=305) (dst:=309) Tryz.underlying305 Tryz.underlying309 (by kernel_rfl) La
 go_enter Tryz.func136,Tryz.ntmps136
 go_wp2
 first|go_end0|(simp only[Exit.inBlock,Exit.then];refine bodyPost_ret (results_none rfl _ _ _) rfl ?_)|refine bodyPost_ret (results_none rfl _ _ _) rfl ?_
 go_wp2
 go_end0
 exact⟨rfl,rfl⟩
set_option maxRecDepth 100000 in
set_option maxHeartbeats 1600000 in
theorem R7 (b off:Nat)(g:FuncId)(first sx:Array Value)(Ec:World->Prop)(w:World)(hg: ∀w:World,(callFunc g (first++sx)).run Tryz.prog w= .ok (.enter g (first++sx)) w)
  (h0:w.cell? ⟨b,off,none⟩=some (.int .u32 0)) (h1:w.cell? ⟨b,off+1,none⟩=some (.int .i32 0))
  (f1:w.frozen? ⟨b,off+1,none⟩=false)
  (JK:Calls Tryz.prog g (first++sx) (w.setCell ⟨b,off+1,none⟩ (.int .i32 1)) λe w'=>e= .returned (.tuple #[])/\Ec w'/\(∃x,w'.cell? ⟨b,off,none⟩=some x)/\w'.frozen? ⟨b,off,none⟩=false/\w'.cell? ⟨b,off+1,none⟩=some (.int .i32 1)/\w'.frozen? ⟨b,off+1,none⟩=false):
  Calls Tryz.prog 109 #[.pointer (some ⟨b,off,none⟩), .func (.func g) first sx] w λe w'=>e= .returned (.tuple #[])/\
   ∃w1,Ec w1/\(∃x,w1.cell? ⟨b,off,none⟩=some x)/\w1.frozen? ⟨b,off,none⟩=false/\w1.cell? ⟨b,off+1,none⟩=some (.int .i32 1)/\w1.frozen? ⟨b,off+1,none⟩=false/\w'=(w1.drew.setCell ⟨b,off,none⟩ (.int .u32 1)).setCell ⟨b,off+1,none⟩ (.int .i32 0):=by
 have hl:=run_call_load (P:=Tryz.prog) Tryz.func135 (by kernel_rfl) (by kernel_rfl) (by kernel_rfl) .u32 (by kernel_rfl) (w:=w.setCell ⟨b,off+1,none⟩ (.int .i32 1)) (a:=⟨b,off,none⟩) (x:=0) ((World.cell?_setCell_other _ ⟨b,off+1,none⟩ ⟨b,off,none⟩ _ (by simp)).trans h0)
 have zaO: ∀(x:Bool) (w:World),(Op.unary .not (.bool x)).run Tryz.prog w= .ok (.bool (!x)) w:=λ_ _=>rfl;have Yv:first++(#[]:Array Value)=first:=by simp
 go_enter_defers Tryz.func109,Tryz.ntmps109
 go_wp2_with (first|(go_at_call 136;refine(Pz ⟨b,off+1,none⟩ _ (by go_simp) (by go_simp)).mono ?_;rintro e w' ⟨rfl,rfl⟩)|(go_at_call 108;go_in)|(refine JK.mono ?_;rintro e w1 ⟨rfl,R8,⟨xx,Hw⟩,Rv,hx1,Yw⟩))
 go_wp2
 refine leaves_cons (f:=138) (args:= #[.pointer (some ⟨b,off,none⟩), .bool true]) (by simp) (by simp[go_sem]) ?_
 refine(Ek ⟨b,off,none⟩ xx .returning _ Hw Rv).mono ?_;rintro e u' ON ⟨rfl,rfl,rfl⟩
 refine leaves_cons (f:=137) (args:= #[.pointer (some ⟨b,off+1,none⟩)]) (by simp[settle]) (by simp[go_sem]) ?_
 refine(CE ⟨b,off+1,none⟩ _ _ ?_ (by simp[Yw])).mono ?_
 ·refine(World.cell?_setCell_other _ ⟨b,off,none⟩ ⟨b,off+1,none⟩ _ (by simp)).trans ?_
  rw[World.cell?_drew];exact hx1
 rintro e u' ON ⟨rfl,rfl,rfl⟩
 simp only[Leaves,settle,results,Tryz.results109];simp;exact⟨w1,R8,⟨xx,Hw⟩,Rv,hx1,Yw,rfl⟩
set_option maxRecDepth 100000 in
set_option maxHeartbeats 1600000 in
theorem L0 (b off:Nat)(g:FuncId)(first sx:Array Value)(Ec:World->Prop)(w:World)(hg: ∀w:World,(callFunc g (first++sx)).run Tryz.prog w= .ok (.enter g (first++sx)) w)
  (h0:w.cell? ⟨b,off,none⟩=some (.int .u32 0)) (h1:w.cell? ⟨b,off+1,none⟩=some (.int .i32 0))
  (f1:w.frozen? ⟨b,off+1,none⟩=false)
  (JK:Calls Tryz.prog g (first++sx) (w.setCell ⟨b,off+1,none⟩ (.int .i32 1)) λe w'=>e= .returned (.tuple #[])/\Ec w'/\(∃x,w'.cell? ⟨b,off,none⟩=some x)/\w'.frozen? ⟨b,off,none⟩=false/\w'.cell? ⟨b,off+1,none⟩=some (.int .i32 1)/\w'.frozen? ⟨b,off+1,none⟩=false):
  Calls Tryz.prog 78 #[.pointer (some ⟨b,off,none⟩), .func (.func g) first sx] w λe w'=>e= .returned (.tuple #[])/\
   ∃w1,Ec w1/\w'=(w1.drew.setCell ⟨b,off,none⟩ (.int .u32 1)).setCell ⟨b,off+1,none⟩ (.int .i32 0):=by
 have hl:=run_call_load (P:=Tryz.prog) Tryz.func135 (by kernel_rfl) (by kernel_rfl) (by kernel_rfl) .u32 (by kernel_rfl) h0
 have zaO: ∀(x:Bool) (w:World),(Op.unary .not (.bool x)).run Tryz.prog w= .ok (.bool (!x)) w:=λ_ _=>rfl;go_enter Tryz.func78,Tryz.ntmps78
 go_wp2_with (first|(go_at_call 109;refine(R7 b off g first sx Ec _ hg h0 h1 f1 JK).mono ?_;rintro e w' ⟨rfl,w1,R8,Hw,Rv,hx1,Yw,rfl⟩)|(go_at_call 108;go_in))
 go_end0
 exact⟨rfl,w1,R8,rfl⟩
theorem PA (a:Addr)(d:Int)(hd: ¬d=0)(fv:Value)(w:World)(h0:w.cell? a=some (.int .u32 d)):
  Calls Tryz.prog 78 #[.pointer (some a),fv] w λe w'=>e= .returned (.tuple #[])/\w'=w:=by
 have hl:=run_call_load (P:=Tryz.prog) Tryz.func135 (by kernel_rfl) (by kernel_rfl) (by kernel_rfl) .u32 (by kernel_rfl) h0
 have zaO: ∀(x:Bool) (w:World),(Op.unary .not (.bool x)).run Tryz.prog w= .ok (.bool (!x)) w:=λ_ _=>rfl;have K8:(d !=0)=true:=by simp[hd]
 go_enter Tryz.func78,Tryz.ntmps78
 go_wp2
 go_end0
 exact⟨rfl,rfl⟩
theorem w78:Xi Tryz.prog 78:=⟨⟨Tryz.f78,rfl,rfl,by decide⟩,λa d hd fv w h0=>PA a d hd fv w h0,λb off g first sx Ec w hg h0 h1 f1 JK=>L0 b off g first sx Ec w hg h0 h1 f1 JK⟩
theorem Ug {P:Program}{f:FuncId}{fn:Func}(hf:P.funcs[f]?=some fn)(zaP:(fn.name== "runtime.NumGoroutine")=false)(hb:fn.body.isNone=true)(hn:Extern.findNext fn=none)(k:IntKind)
  (he:Extern.find fn=some (Extern.Atomic.swapT (.int k))) {a:Addr} {x y:Int} {w:World} (hc:w.cell? a=some (.int k x)) (hz:w.frozen? a=false):
  (callFunc f #[.pointer (some a), .int k y]).run P w= .ok (.value (.int k x)) (w.setCell a (.int k y)):=by
 rw[run_callFunc_extern hf zaP hb hn he];change (Sem.run P (do
  let a'<-asAddr (.pointer (some a))
  let old<-Extern.Atomic.read (.int k) a'
  store a' (.int k y) .atomic
  pure old) w).andThen _=_
 simp[Extern.Atomic.read,asAddr,hc,hz,run_store P w a (.int k y) .atomic rfl,Result.andThen]
theorem zcq:Xh Tryz.prog 100 .i64:=⟨⟨Tryz.f100,rfl,rfl,by decide⟩,λb o x w h0=>by
 have hl:=run_call_load (P:=Tryz.prog) Tryz.func131 (by kernel_rfl) (by kernel_rfl) (by kernel_rfl) .i64 (by kernel_rfl) h0
 go_enter Tryz.func100,Tryz.ntmps100
 go_wp2
 go_ret
 exact⟨rfl,rfl⟩⟩
theorem zcr:zaD Tryz.prog 122 .i64:=⟨⟨Tryz.f122,rfl,rfl,by decide⟩,λb o x y w h0 hz=>by
 obtain⟨s,hs⟩: ∃s,s=IntKind.i64.wrap (x+y):=⟨_,rfl⟩;have hl:=run_call_add (P:=Tryz.prog) Tryz.func156 (by kernel_rfl) (by kernel_rfl) (by kernel_rfl) .i64 (by kernel_rfl) (y:=y) (s:=s) h0 hz (by rw[hs];rfl)
 rw[<-hs];clear hs;go_enter Tryz.func122,Tryz.ntmps122
 go_wp2
 go_ret
 exact⟨rfl,rfl⟩⟩
abbrev FO (b i:Nat)(S:ak)(F:W->S.pre.den->Option (gK S.iS)):Prop:=S.ok=true/\re Tryz.prog b i S (F W0)
abbrev LO (b:Nat)(fn:Func)(i:Nat)(S:bD)(F:W->S.pre.den->Option (S.pre.den⊕gK S.iS)):Prop:=S.ok=true/\mO Tryz.prog b fn i S (F W0)
section
variable {b:Nat}
theorem KP {i:Nat}{S:ak}{F:W->S.pre.den->Option (gK S.iS)}{cs:List ow}(h:FO b i S F)(h2: ∀y∈cs,Ad Tryz.prog b i y): ∀y∈(⟨S,F W0,none⟩:ow)::cs,Ad Tryz.prog b i y:=lD h.1 h.2 h2
theorem bO {i:Nat}{S:ak}{F:W->S.pre.den->Option (gK S.iS)}{l:List (Nat×List ow)}(h:FO b i S F)(h2:oP Tryz.prog b l):oP Tryz.prog b ((i,[⟨S,F W0,none⟩])::l):=cZ (KP h nV) h2
theorem wJ {fn:Func}{i:Nat}{S:bD}{F:W->S.pre.den->Option (S.pre.den⊕gK S.iS)}{ls:List ui}(h:LO b fn i S F)(h2: ∀y∈ls,y.sp.ok=true/\mO Tryz.prog b fn i y.sp y.f): ∀y∈(⟨S,F W0⟩:ui)::ls,y.sp.ok=true/\mO Tryz.prog b fn i y.sp y.f:=zaC h.1 h.2 h2
theorem pH {fn:Func}{i:Nat}{S:bD}{F:W->S.pre.den->Option (S.pre.den⊕gK S.iS)}{l:List (Nat×List ui)}(h:LO b fn i S F)(h2:nF Tryz.prog b fn l):nF Tryz.prog b fn ((i,[⟨S,F W0⟩])::l):=lW (wJ h CD) h2
theorem fJ {i:Nat}(fn:Func){S:ak}{F:W->S.pre.den->Option (gK S.iS)}{cl:List (Nat×List ow)}{lp:List (Nat×List ui)}(hc:oP Tryz.prog b cl)(hl:nF Tryz.prog b fn lp)(h1:Tryz.prog.funcs[i]?=some fn:=by rfl)(h2:(!(fn.name== "runtime.NumGoroutine")&&R1 fn S&&S.ok)=true:=by kernel_rfl)(hF: ∀d,pY Tryz.prog S (ru cl lp) fn d=F W0 d:=by intro _;kernel_rfl):FO b i S F:=by
 simp only[zdl,zeC] at h2;exact⟨h2.2,Af h1 h2.1.1 h2.1.2 mixed hc hl hF⟩
theorem l9 {fn:Func}{i:Nat}{S:bD}{F:W->S.pre.den->Option (S.pre.den⊕gK S.iS)}{cl:List (Nat×List ow)}{lp:List (Nat×List ui)}(hc:oP Tryz.prog b cl)(hl:nF Tryz.prog b fn lp)(h2:(xR fn&&S.ok)=true:=by kernel_rfl)(hF: ∀d,rZ Tryz.prog S (ru cl lp) fn i d=F W0 d:=by intro _;kernel_rfl):LO b fn i S F:=by
 simp only[zdl] at h2;exact⟨h2.2,Ag h2.2 h2.1 mixed hc hl hF⟩
end
end AM
set_option linter.unusedVariables false
set_option linter.unusedSimpArgs false
namespace AM
open Go Go.Proofs Go.Shelf Go.RowKit Go.Lib
theorem Lz.t0:Tryz.prog.underlying 0=some (.tuple #[]):=by kernel_rfl
theorem Lz.a0: ∀w,(isAgg 0).run Tryz.prog w= .ok false w:=λw=>by kernel_rfl
theorem Lz.z0: ∀w,(Go.sizeOf 0).run Tryz.prog w= .ok 1 w:=λw=>by kernel_rfl
theorem Lz.v0: ∀w,(zeroValue 0).run Tryz.prog w= .ok (.tuple #[]) w:=λw=>by kernel_rfl
theorem Lz.t3:Tryz.prog.underlying 3=some (.int .i64):=by kernel_rfl
theorem Lz.a3: ∀w,(isAgg 3).run Tryz.prog w= .ok false w:=λw=>by kernel_rfl
theorem Lz.z3: ∀w,(Go.sizeOf 3).run Tryz.prog w= .ok 1 w:=λw=>by kernel_rfl
theorem Lz.v3: ∀w,(zeroValue 3).run Tryz.prog w= .ok (.int .i64 0) w:=λw=>by kernel_rfl
theorem Lz.t4:Tryz.prog.underlying 4=some (.bool):=by kernel_rfl
theorem Lz.a4: ∀w,(isAgg 4).run Tryz.prog w= .ok false w:=λw=>by kernel_rfl
theorem Lz.z4: ∀w,(Go.sizeOf 4).run Tryz.prog w= .ok 1 w:=λw=>by kernel_rfl
theorem Lz.v4: ∀w,(zeroValue 4).run Tryz.prog w= .ok (.bool false) w:=λw=>by kernel_rfl
theorem Lz.t143:Tryz.prog.underlying 143=some (.pointer 197):=by kernel_rfl
theorem Lz.JQ: ∀w,(isAgg 143).run Tryz.prog w= .ok false w:=λw=>by kernel_rfl
theorem Lz.Ib: ∀w,(Go.sizeOf 143).run Tryz.prog w= .ok 1 w:=λw=>by kernel_rfl
theorem Lz.JR: ∀w,(zeroValue 143).run Tryz.prog w= .ok (.pointer none) w:=λw=>by kernel_rfl
theorem Lz.t137:Tryz.prog.underlying 137=some (.slice 143):=by kernel_rfl
theorem Lz.JS: ∀w,(isAgg 137).run Tryz.prog w= .ok false w:=λw=>by kernel_rfl
theorem Lz.JT: ∀w,(Go.sizeOf 137).run Tryz.prog w= .ok 1 w:=λw=>by kernel_rfl
theorem Lz.JU: ∀w,(zeroValue 137).run Tryz.prog w= .ok (.slice none 0 0) w:=λw=>by kernel_rfl
theorem Lz.i143:(Tryz.prog.info? 143).map (λi=>(i.zero,i.size,i.bytes))=some (some (Value.pointer none),1,8):=by kernel_rfl
set_option maxHeartbeats 4000000 in
set_option maxRecDepth 100000 in
theorem PB (b off n c i vb pA m vc:Nat)(cs vs:List Value)(w:World)(hi:i<n)(hm:0<m)(pP:n+m<=c)(UX:n+m<=9223372036854775807)(hvb:vb≠b)
  (JK:cs.length=n) (UY:vs.length=m)
  (yy: ∀j v,cs[j]?=some v->w.cell? ⟨b,off+j,none⟩=some v) (Fo: ∀j,j<n+m->(w.cell? ⟨b,off+j,none⟩).isSome=true) (hfz: ∀j,j<n+m->w.frozen? ⟨b,off+j,none⟩=false)
  (hvs: ∀j v,vs[j]?=some v->w.cell? ⟨vb,pA+j,none⟩=some v) (h1c: ∀v∈cs,v.oneCell'=true) (UZ: ∀v∈vs,v.oneCell'=true)
  (tA tB:TypeId) (kA kB:Nat) (hsa:w.shape? vb=some (tA,kA)) (hsb:w.shape? b=some (tB,kB)) (hkB:kB≠0) (Yr:w.frozen? ⟨vb,pA,none⟩=false) (Pv:w.frozen? ⟨vb,kA,none⟩=false):
  Calls Tryz.prog 266 #[.slice (some ⟨b,off,none⟩) n c, .int .i64 i, .slice (some ⟨vb,pA,none⟩) m vc] w λe w'=>
   e= .returned (.slice (some ⟨b,off,none⟩) (n+m) c)/\w'=(w.drew.setCells b (off+(i+m)) (cs.drop i)).setCells b (off+i) vs:=by
 have t0:=Lz.t0;have a0:=Lz.a0;have z0:=Lz.z0;have v0:=Lz.v0;have t3:=Lz.t3;have a3:=Lz.a3;have z3:=Lz.z3;have v3:=Lz.v3;have t4:=Lz.t4;have a4:=Lz.a4;have z4:=Lz.z4;have v4:=Lz.v4;have t143:=Lz.t143;have JQ:=Lz.JQ;have Ib:=Lz.Ib;have JR:=Lz.JR;have t137:=Lz.t137;have JS:=Lz.JS;have JT:=Lz.JT;have JU:=Lz.JU;have u0:=run_underlying Lz.t0;have u3:=run_underlying Lz.t3;have u4:=run_underlying Lz.t4;have Yx:=run_underlying Lz.t143;have Yy:=run_underlying Lz.t137;have Yw: ¬((m:Int)=0):=by omega
 have hz2: ¬((i:Int)=(n:Int)):=by omega
 have hsz:(Tryz.prog.info? 143).map (·.size)=some 1:=by
  obtain⟨i0,QM,h0,h1,h2⟩:=info_parts Lz.i143;rw[QM];simp[h1]
 have hov: ∀lb cb,(callFunc 271 #[.slice (some ⟨vb,pA,none⟩) m vc, .slice (some ⟨b,off+(i+m),none⟩) lb cb]).run Tryz.prog w= .ok (.value (.bool false)) w:=λlb cb=>by
  rw[run_callFunc_extern Tryz.func271 (by kernel_rfl) (by kernel_rfl) (by kernel_rfl) (e:=Extern.SlicesOverlaps.overlaps #[137,137] #[4]) (by kernel_rfl),
   Lib.run_overlaps_apart w 137 4 143 Lz.t137 1 Lz.Ib ⟨vb,pA,none⟩ ⟨b,off+(i+m),none⟩ m vc lb cb hvb tA tB kA kB hsa hsb hkB Yr Pv]
  rfl
 have hdl:(cs.drop i).length=n-i:=by rw[zdI,JK]
 have mixed:=mixed;have hw1:IntKind.i64.wrap ((i:Int)+(m:Int))=(i:Int)+(m:Int):=by rw[IntKind.wrap_i64];omega
 have hb1:(0:Int)<=(i:Int)+(m:Int):=by omega
 have yf:i<=n:=by omega
 have htn:((i:Int)+(m:Int)).toNat=i+m:=by omega
 have hb2: ¬(c=i+m):=by omega
 have hb3:(i:Int)<=(n:Int)+(m:Int):=by omega
 have hb4: ¬(c=i):=by omega
 have zaQ: ∀ty dc sc,(Builtin.copy_ #[137,137] ty #[.slice (some ⟨b,off+(i+m),none⟩) (n+m-(i+m)) dc, .slice (some ⟨b,off+i,none⟩) (n+m-i) sc]).run Tryz.prog w.drew= .ok (goInt (cs.drop i).length) (w.drew.setCells b (off+(i+m)) (cs.drop i)):=λty dc sc=>
  run_copy_cells w.drew _ _ ty 143 b (off+(i+m)) (n+m-(i+m)) dc ⟨b,off+i,none⟩ (n+m-i) sc (cs.drop i) Lz.t137 hsz (by rw[hdl];simp only[Nat.min_def];split<;>omega)
   (λj v hj=>by rw[Addr.add_lit,zdy];exact yy (i+j) v (by rwa [zdK] at hj))
   (λj hj=>by rw[zdy];exact Fo _ (by omega)) (λj hj=>by rw[zdy];exact hfz _ (by omega)) (λv hv=>h1c v (zeH hv))
 obtain⟨W1,QN⟩: ∃W1,W1=w.drew.setCells b (off+(i+m)) (cs.drop i):=⟨_,rfl⟩;have zcs: ∀k,k<n+m->(W1.cell? ⟨b,off+k,none⟩).isSome=true:=λk hk=>by
  rw[QN];exact isSome_setCells b _ _ _ (λj hj=>by rw[zdy];exact Fo _ (by omega)) _ (Fo k hk)
 have zct: ∀(W:World),(∀x,W.cell? x=W1.cell? x)->(∀x,W.frozen? x=W1.frozen? x)->∀ty dc,(Builtin.copy_ #[137,137] ty #[.slice (some ⟨b,off+i,none⟩) (n+m-i) dc, .slice (some ⟨vb,pA,none⟩) m vc]).run Tryz.prog W= .ok (goInt vs.length) (W.setCells b (off+i) vs):=λW Xk hWf ty dc=>
  run_copy_cells W _ _ ty 143 b (off+i) (n+m-i) dc ⟨vb,pA,none⟩ m vc vs Lz.t137 hsz (by rw[UY];simp only[Nat.min_def];split<;>omega)
   (λj v hj=>by
    rw[Addr.add_lit,Xk,QN,World.cell?_setCells_out b _ _ _ _ (λh _=>absurd h hvb)];exact hvs j v hj)
   (λj hj=>by rw[Xk,zdy];exact zcs _ (by omega)) (λj hj=>by rw[hWf,QN,World.frozen?_setCells,zdy];exact hfz _ (by omega)) UZ
 rw[<-QN] at zaQ;go_enter Tryz.func266,Tryz.ntmps266
 go_wp2_with (simp only[hov])
 go_region_law_o (refine step_copy_runI rfl _ _ 137 137 rfl _ _ (by simp[Act.eval,Act.put]) (by simp[Act.eval,Act.put]) (zaQ _ _ _) ?_)
 go_wp2_with (at_builtin;refine wpList_copy_runI _ rfl _ _ 137 137 rfl _ _ rfl rfl (zct _ (λ_=>rfl) (λ_=>rfl) _ _) ?_)
 go_ret
 first|exact⟨rfl,rfl⟩|exact⟨rfl,by rw[QN]⟩
set_option maxHeartbeats 4000000 in
set_option maxRecDepth 100000 in
theorem Ic (b off n c vb pA m vc:Nat)(vs:List Value)(w:World)(hm:0<m)(pP:n+m<=c)(UX:n+m<=9223372036854775807)
  (UY:vs.length=m) (Fo: ∀j,j<m->(w.cell? ⟨b,off+n+j,none⟩).isSome=true) (hfz: ∀j,j<m->w.frozen? ⟨b,off+n+j,none⟩=false)
  (hvs: ∀j v,vs[j]?=some v->w.cell? ⟨vb,pA+j,none⟩=some v) (UZ: ∀v∈vs,v.oneCell'=true):
  Calls Tryz.prog 266 #[.slice (some ⟨b,off,none⟩) n c, .int .i64 n, .slice (some ⟨vb,pA,none⟩) m vc] w λe w'=>
   e= .returned (.slice (some ⟨b,off,none⟩) (n+m) c)/\w'=w.setCells b (off+n) vs:=by
 have t0:=Lz.t0;have a0:=Lz.a0;have z0:=Lz.z0;have v0:=Lz.v0;have t3:=Lz.t3;have a3:=Lz.a3;have z3:=Lz.z3;have v3:=Lz.v3;have t4:=Lz.t4;have a4:=Lz.a4;have z4:=Lz.z4;have v4:=Lz.v4;have t143:=Lz.t143;have JQ:=Lz.JQ;have Ib:=Lz.Ib;have JR:=Lz.JR;have t137:=Lz.t137;have JS:=Lz.JS;have JT:=Lz.JT;have JU:=Lz.JU;have u0:=run_underlying Lz.t0;have u3:=run_underlying Lz.t3;have u4:=run_underlying Lz.t4;have Yx:=run_underlying Lz.t143;have Yy:=run_underlying Lz.t137;have mixed:=mixed;have Yw: ¬((m:Int)=0):=by omega
 have Yz:Go.Src Tryz.prog 1 137 (.slice (some ⟨vb,pA,none⟩) m vc) m vs w:=Go.Src.ofSlice w Lz.t137 ⟨vb,pA,none⟩ m vc vs (by omega) (λj u hj=>by rw[Addr.add_lit];exact hvs j u hj) UZ
 go_enter Tryz.func266,Tryz.ntmps266
 go_wp2_with (at_builtin;refine wpList_append_room1 _ rfl _ _ 137 137 rfl 143 _ _ Lz.t137 Lz.i143 b off n c rfl _ rfl m vs Yz pP (by rw[UY];exact Fo) (by rw[UY];exact hfz) ?_)
 go_ret
 exact⟨rfl,rfl⟩
set_option maxHeartbeats 4000000 in
set_option maxRecDepth 100000 in
theorem Ie (base:Option Addr)(n c vb pA m vc:Nat)(cs vs:List Value)(w:World)(hm:0<m)(WR:n<=c)(pP:c<n+m)(FG:(n+m)*8<=140737488355328)
  (JK:cs.length=n) (UY:vs.length=m) (oA:base=none->n=0)
  (yy: ∀a,base=some a->∀j v,cs[j]?=some v->w.cell? (a.add j)=some v)
  (hvs: ∀j v,vs[j]?=some v->w.cell? ⟨vb,pA+j,none⟩=some v) (UZ: ∀v∈vs,v.oneCell'=true):
  Calls Tryz.prog 266 #[.slice base n c, .int .i64 n, .slice (some ⟨vb,pA,none⟩) m vc] w λe w'=>
   e= .returned (.slice (some ⟨w.heap.size,0,none⟩) (n+m) (grownCap w (n+m) c 143))/\
   w'=w.drew.alloc (.cells ((cs++vs).toArray++Builtin.zeroCells (Value.pointer none).cells (grownCap w (n+m) c 143-(n+m))) 143):=by
 have t0:=Lz.t0;have a0:=Lz.a0;have z0:=Lz.z0;have v0:=Lz.v0;have t3:=Lz.t3;have a3:=Lz.a3;have z3:=Lz.z3;have v3:=Lz.v3;have t4:=Lz.t4;have a4:=Lz.a4;have z4:=Lz.z4;have v4:=Lz.v4;have t143:=Lz.t143;have JQ:=Lz.JQ;have Ib:=Lz.Ib;have JR:=Lz.JR;have t137:=Lz.t137;have JS:=Lz.JS;have JT:=Lz.JT;have JU:=Lz.JU;have u0:=run_underlying Lz.t0;have u3:=run_underlying Lz.t3;have u4:=run_underlying Lz.t4;have Yx:=run_underlying Lz.t143;have Yy:=run_underlying Lz.t137;have mixed:=mixed;obtain⟨i0,QM,Rv,uk,hzb⟩:=info_parts Lz.i143;have Yw: ¬((m:Int)=0):=by omega
 have Yz:Go.Src Tryz.prog i0.size 137 (.slice (some ⟨vb,pA,none⟩) m vc) m vs w:=by
  rw[uk];exact Go.Src.ofSlice w Lz.t137 ⟨vb,pA,none⟩ m vc vs (by omega) (λj u hj=>by rw[Addr.add_lit];exact hvs j u hj) UZ
 have hold:(Builtin.firstCells i0.size n (.slice base n c)).run Tryz.prog w.drew= .ok cs.toArray w.drew:=by
  rw[uk];cases base with
  |none=>
   have h0:=oA rfl;subst h0;rw[List.length_eq_zero_iff.1 JK];exact run_firstCells_none w.drew 1 0 0 c
  |some a=>exact run_firstCells_some w.drew 1 n a n c cs (by omega) (λj v hj=>yy a rfl j v hj)
 have jI: ∀ty,(Builtin.append_ #[137,137] ty #[.slice base n c, .slice (some ⟨vb,pA,none⟩) m vc]).run Tryz.prog w=_:=λty=>
  run_append_grow_src w 137 137 ty 143 i0 _ Lz.t137 QM Rv base n c cs hold _ m vs Yz pP (by omega) (by rw[hzb];exact growslice_fits pP FG)
 go_enter Tryz.func266,Tryz.ntmps266
 cases base with
 |none=>
  have h0:=oA rfl;subst h0;go_wp2_with (at_builtin;refine Lib.wpList_append_run _ rfl _ _ _ _ rfl _ _ rfl rfl _ _ (jI _) ?_)
  go_ret
  exact⟨rfl,rfl⟩
 |some a=>
  obtain⟨ab,ao,asp⟩:=a;go_wp2_with (at_builtin;refine Lib.wpList_append_run _ rfl _ _ _ _ rfl _ _ rfl rfl _ _ (jI _) ?_)
  all_goals (go_ret;exact⟨rfl,rfl⟩)
set_option maxHeartbeats 4000000 in
set_option maxRecDepth 100000 in
theorem R9 (b off n c i vb pA m vc:Nat)(cs vs:List Value)(w:World)(hi:i<n)(hm:0<m)(WR:n<=c)(pP:c<n+m)(FG:(n+m)*8<=140737488355328)
  (JK:cs.length=n) (UY:vs.length=m)
  (yy: ∀j v,cs[j]?=some v->w.cell? ⟨b,off+j,none⟩=some v)
  (hvs: ∀j v,vs[j]?=some v->w.cell? ⟨vb,pA+j,none⟩=some v) (h1c: ∀v∈cs,v.oneCell'=true) (UZ: ∀v∈vs,v.oneCell'=true):
  Calls Tryz.prog 266 #[.slice (some ⟨b,off,none⟩) n c, .int .i64 i, .slice (some ⟨vb,pA,none⟩) m vc] w λe w'=>
   e= .returned (.slice (some ⟨w.heap.size,0,none⟩) (n+m) (grownCap w (n+m) c 143))/\
   w'=(((w.alloc (.cells ((cs.take i).toArray++Builtin.zeroCells (Value.pointer none).cells (n+m-i)++Builtin.zeroCells (Value.pointer none).cells (grownCap w (n+m) c 143-(n+m))) 143)).drew.setCells w.heap.size i vs).drew).setCells w.heap.size (i+m) (cs.drop i):=by
 have t0:=Lz.t0;have a0:=Lz.a0;have z0:=Lz.z0;have v0:=Lz.v0;have t3:=Lz.t3;have a3:=Lz.a3;have z3:=Lz.z3;have v3:=Lz.v3;have t4:=Lz.t4;have a4:=Lz.a4;have z4:=Lz.z4;have v4:=Lz.v4;have t143:=Lz.t143;have JQ:=Lz.JQ;have Ib:=Lz.Ib;have JR:=Lz.JR;have t137:=Lz.t137;have JS:=Lz.JS;have JT:=Lz.JT;have JU:=Lz.JU;have u0:=run_underlying Lz.t0;have u3:=run_underlying Lz.t3;have u4:=run_underlying Lz.t4;have Yx:=run_underlying Lz.t143;have Yy:=run_underlying Lz.t137;have mixed:=mixed;obtain⟨i0,QM,Rv,uk,hzb⟩:=info_parts Lz.i143;have Yw: ¬((m:Int)=0):=by omega
 have hz2: ¬((i:Int)=(n:Int)):=by omega
 have hz3:(c:Int)<(n:Int)+(m:Int):=by omega
 have hsz:(Tryz.prog.info? 143).map (·.size)=some 1:=by rw[QM];simp[uk]
 have hbw:b<w.heap.size:=block_lt_of_cell (yy 0 _ (zdi (by omega)))
 have hvw:vb<w.heap.size:=block_lt_of_cell (hvs 0 _ (zdi (by omega)))
 have YA:(n:Int)+(m:Int)-(i:Int)=((n+m-i:Nat):Int):=by omega
 have hik:i+(n+m-i)=n+m:=by omega
 have hold:(Builtin.firstCells i0.size i (.slice (some ⟨b,off,none⟩) i c)).run Tryz.prog w.drew= .ok (cs.take i).toArray w.drew:=by
  rw[uk];exact run_firstCells_some w.drew 1 i ⟨b,off,none⟩ i c (cs.take i) (by rw[zdH];omega) (λj v hj=>by
   rw[Addr.add_lit];rw[zdJ] at hj;split at hj
   ·exact yy j v hj
   ·cases hj)
 have hrz: ∀ty,(Builtin.append_ #[137,3] ty #[.slice (some ⟨b,off,none⟩) i c, .int .i64 ((n:Int)+(m:Int)-(i:Int))]).run Tryz.prog w=
   .ok (.slice (some ⟨w.heap.size,0,none⟩) (n+m) (grownCap w (n+m) c 143)) (w.drew.alloc (.cells ((cs.take i).toArray++Builtin.zeroCells (Value.pointer none).cells (n+m-i)++Builtin.zeroCells (Value.pointer none).cells (grownCap w (n+m) c 143-(n+m))) 143)):=λty=>by
  have h:=Lib.run_append_grow_zeros w 137 3 ty 143 i0 _ .i64 .i64 Lz.t137 Lz.t3 QM Rv (some ⟨b,off,none⟩) i c (cs.take i) hold (n+m-i) (by omega) (by omega) (by omega) (by omega) (by rw[hzb];omega) (by rw[hzb,hik];exact growslice_fits pP FG)
  rw[hik] at h;rw[YA];exact h
 obtain⟨G,hG⟩: ∃G,G=grownCap w (n+m) c 143:=⟨_,rfl⟩;obtain⟨NQ,YB⟩: ∃NQ:Array Value,NQ=(cs.take i).toArray++Builtin.zeroCells (Value.pointer none).cells (n+m-i)++Builtin.zeroCells (Value.pointer none).cells (G-(n+m)):=⟨_,rfl⟩;rw[<-hG] at hrz⊢;rw[<-YB] at hrz⊢;have hRl:n+m<=NQ.size:=by
  rw[YB];simp[Builtin.zeroCells,Value.cells];omega
 obtain⟨W1,QN⟩: ∃W1,W1=w.drew.alloc (.cells NQ 143):=⟨_,rfl⟩;rw[<-QN] at hrz;have hN: ∀j,j<n+m->(W1.cell? ⟨w.heap.size,j,none⟩).isSome=true:=λj hj=>by
  rw[QN,World.cell?_alloc_at (w:=w.drew) NQ _ w.heap.size j rfl,zdV (by omega)];rfl
 have hNf: ∀j,W1.frozen? ⟨w.heap.size,j,none⟩=false:=λj=>by rw[QN];exact World.frozen?_alloc_at (w:=w.drew) NQ _ w.heap.size j rfl
 have hOb: ∀j v,w.cell? ⟨b,j,none⟩=some v->W1.cell? ⟨b,j,none⟩=some v:=λj v h=>by rw[QN,World.cell?_alloc_past (w:=w.drew) _ b j hbw];exact h
 have hOv: ∀j v,w.cell? ⟨vb,j,none⟩=some v->W1.cell? ⟨vb,j,none⟩=some v:=λj v h=>by rw[QN,World.cell?_alloc_past (w:=w.drew) _ vb j hvw];exact h
 have zcu: ∀(W:World),(∀x,W.cell? x=W1.cell? x)->(∀x,W.frozen? x=W1.frozen? x)->∀ty dc,(Builtin.copy_ #[137,137] ty #[.slice (some ⟨w.heap.size,i,none⟩) (n+m-i) dc, .slice (some ⟨vb,pA,none⟩) m vc]).run Tryz.prog W= .ok (goInt vs.length) (W.setCells w.heap.size i vs):=λW Xk hWf ty dc=>
  run_copy_cells W _ _ ty 143 w.heap.size i (n+m-i) dc ⟨vb,pA,none⟩ m vc vs Lz.t137 hsz (by rw[UY];simp only[Nat.min_def];split<;>omega)
   (λj v hj=>by rw[Addr.add_lit,Xk];exact hOv _ v (hvs j v hj))
   (λj hj=>by rw[Xk];exact hN _ (by omega)) (λj hj=>by rw[hWf];exact hNf _) UZ
 have hGn:n+m<=G:=by rw[hG];exact grownCap_ge w _ _ _
 have zc7:G<=9223372036854775807:=by
  have:=grownCap_le_maxLen w (n+m) c 143 (by unfold maxLen;omega)
  rw[<-hG] at this;unfold maxLen at this;omega
 have hGi: ¬(G=i):=by omega
 have zc8: ¬(G=i+m):=by omega
 have hci: ¬(c=i):=by omega
 have hbN:b≠w.heap.size:=by omega
 have hdl:(cs.drop i).length=n-i:=by rw[zdI,JK]
 have zaR: ∀(W:World),(∀x,W.cell? x=(W1.setCells w.heap.size i vs).cell? x)->(∀x,W.frozen? x=(W1.setCells w.heap.size i vs).frozen? x)->∀ty dc sc,(Builtin.copy_ #[137,137] ty #[.slice (some ⟨w.heap.size,i+m,none⟩) (n+m-(i+m)) dc, .slice (some ⟨b,off+i,none⟩) (n-i) sc]).run Tryz.prog W= .ok (goInt (cs.drop i).length) (W.setCells w.heap.size (i+m) (cs.drop i)):=λW Xk hWf ty dc sc=>
  run_copy_cells W _ _ ty 143 w.heap.size (i+m) (n+m-(i+m)) dc ⟨b,off+i,none⟩ (n-i) sc (cs.drop i) Lz.t137 hsz (by rw[hdl];simp only[Nat.min_def];split<;>omega)
   (λj v hj=>by
    rw[Addr.add_lit,Xk,World.cell?_setCells_out _ _ _ _ _ (λh _=>absurd h hbN),zdy];exact hOb _ v (yy (i+j) v (by rwa [zdK] at hj)))
   (λj hj=>by rw[Xk];exact isSome_setCells _ _ _ _ (λt ht=>hN _ (by omega)) _ (hN _ (by omega)))
   (λj hj=>by rw[hWf,World.frozen?_setCells];exact hNf _) (λv hv=>h1c v (zeH hv))
 subst QN;have hE1: ∀x,((w.alloc (.cells NQ 143)).drew).cell? x=(w.drew.alloc (.cells NQ 143)).cell? x:=λx=>rfl;have hE2: ∀x,((w.alloc (.cells NQ 143)).drew).frozen? x=(w.drew.alloc (.cells NQ 143)).frozen? x:=λx=>rfl;have hF1: ∀x,(((w.alloc (.cells NQ 143)).drew.setCells w.heap.size i vs).drew).cell? x=((w.drew.alloc (.cells NQ 143)).setCells w.heap.size i vs).cell? x:=λx=>rfl;have hF2: ∀x,(((w.alloc (.cells NQ 143)).drew.setCells w.heap.size i vs).drew).frozen? x=((w.drew.alloc (.cells NQ 143)).setCells w.heap.size i vs).frozen? x:=λx=>rfl;have hw1:IntKind.i64.wrap ((i:Int)+(m:Int))=(i:Int)+(m:Int):=by rw[IntKind.wrap_i64];omega
 have hb1:(0:Int)<=(i:Int)+(m:Int):=by omega
 have yf:i<=n:=by omega
 have htn:((i:Int)+(m:Int)).toNat=i+m:=by omega
 have hb3:(i:Int)<=(n:Int):=by omega
 clear YA hik hold YB hG hRl;go_enter Tryz.func266,Tryz.ntmps266
 go_wp2_with (first
  |(at_builtin;refine Lib.wpList_append_run _ rfl _ _ _ _ rfl _ _ rfl rfl _ _ (hrz _) ?_)
  |(at_builtin;refine wpList_copy_runI _ rfl _ _ 137 137 rfl _ _ rfl rfl (zcu _ hE1 hE2 _ _) ?_)
  |(at_builtin;refine wpList_copy_runI _ rfl _ _ 137 137 rfl _ _ rfl rfl (zaR _ (λ_=>rfl) (λ_=>rfl) _ _ _) ?_))
 go_region_law_o (refine step_copy_runI rfl _ _ 137 137 rfl (.slice (some ⟨w.heap.size,i+m,none⟩) (n+m-(i+m)) (G-(i+m))) (.slice (some ⟨b,off+i,none⟩) (n-i) (c-i)) (by simp[Act.eval,Act.put]) (by simp[Act.eval,Act.put]) (zaR _ hF1 hF2 3 (G-(i+m)) (c-i)) ?_)
 go_wp2
 go_ret
 exact⟨rfl,rfl⟩
end AM
namespace AM
open Go Go.Proofs
variable {base:Nat}{N:Names}{D:Nat->Prop}{w:World}{h:Nat->Option fP}
theorem El {g:Nat}(S:jV N D w base h){q:Nat}{xs:List Nat}(ho:h q=some (.row false (.ref g) xs)){v:Value}(hv:cq N D w (.tail q 0) v):
  (xs=[]/\∃b,v= .slice b 0 0)\/∃nm a cap C ty fz,N q=some nm/\nm.base=some a/\a.spot=none/\v= .slice (some a) xs.length cap/\xs.length<=cap/\0<cap/\cap<=nm.cap/\nm.len=xs.length/\w.heap[a.block]?=some (.cells C ty fz)/\a.off+nm.cap<=C.size/\(fz=(0,0)\/C.size<=fz.1/\Ty.ref g= .int .u8)/\base<=a.block/\¬D a.block/\ed N D w (.ref g) xs (aV w a):=by
 unfold cq at hv;simp only[AV.isAgg,jw,an] at hv;obtain⟨nm,g1,g2,g3,g4,g5⟩:=hv;obtain⟨mD,i1,i2,i3,i4,i5,i6⟩:=S.obj q _ ho;rw[g1] at i1;cases i1;have hl:nm.len=xs.length:=i4;cases hb:nm.base with
 |none=>
  rw[hb] at g5;obtain⟨g5,g6⟩:=g5;simp only[zdj] at g6;exact .inl ⟨zdM (by omega),none,g6⟩
 |some a=>
  rw[hb] at g5 i6;obtain⟨v',cap,g6,g7,a',sk,rfl,g8,rfl,g9⟩:=g5;simp only[zdj] at g6;subst g6;obtain⟨j1,⟨C,Lh,fz,j2,j3,j4⟩,j5,j6⟩:=i6;replace j4:=j4 rfl
  simp only[zdk,if_false] at j5;simp only[Nat.sub_zero] at*;by_cases h0:sk=0
  ·subst h0
   have:xs.length=0:=by omega
   exact .inl ⟨zdM this,some a',by rw[hl,this]⟩
  ·rcases g9 with rfl|g9
   ·refine .inr ⟨nm,a,sk,C,Lh,fz,g1,hb,j1,?_,by omega,by omega,by omega,hl,j2,by simpa [Ty.size] using j3,j4,j5.1,j5.2,j6⟩
    rw[hl];obtain⟨ab,ao,asp⟩:=a;simp only at j1;subst j1;simp[Addr.at_]
   ·exact absurd g9 h0
end AM
namespace AM
open Go Go.Proofs
variable {base:Nat}
def uO (base:Nat)(N:Names)(D:Nat->Prop)(w:World)(h:Nat->Option fP)(v:Value)(i:Nat)(x:Value)(h':Nat->Option fP)(u:AV):Prop:=
 ∃N' D' w' v',Calls Tryz.prog 266 #[v, .int .i64 i,x] w (λe ON=>e= .returned v'/\ON=w')/\Ext N D w h N' D' w' h'/\jV N' D' w' base h'/\cq N' D' w' u v'
section
variable {N:Names}{D:Nat->Prop}{w:World}{h:Nat->Option fP}{te:Ty}
theorem uO.after {N':Names}{D':Nat->Prop}{h' Rc:Nat->Option fP}{v x:Value}{u:AV}{i:Nat}(a:uO base N' D' w h' v i x Rc u)(y:Ext N D w h N' D' w h'):uO base N D w h v i x Rc u:=by
 obtain⟨N2,D2,w2,v2,h1,h2,h3,h4⟩:=a;exact⟨N2,D2,w2,v2,h1,y.trans h2,h3,h4⟩
theorem GH (S:jV N D w base h){id q:Nat}{xs zs:List te.den}(ho:h q=some (.row false te xs))(gV:kn h q .dead id=none){nm:Nm}{a:Addr}{C:Array Value}{ty:TypeId}{fz:Nat×Nat}{cap:Nat}(g1:N q=some nm)(hb:nm.base=some a)
  (Fo:a.spot=none) (hc:cap<=nm.cap) (hh:w.heap[a.block]?=some (.cells C ty fz)) (hs:a.off+nm.cap*te.size<=C.size) (hz:fz=(0,0)\/C.size<=fz.1/\te= .int .u8) (hba:base<=a.block) (hD: ¬D a.block) {w':World} (Rg:w'.os=w.os) (htp:w'.tape=w.tape) (js:w'.output=w.output) (hsz:w'.heap.size=w.heap.size)
  (mG: ∀b,b≠a.block->w'.heap[b]?=w.heap[b]?) {C':Array Value} (KN:w'.heap[a.block]?=some (.cells C' ty fz)) (hC:C'.size=C.size) (hl:aO (β:=te.den) zs<=cap) {g:Nat->Option Value} (hr:ed N D w te zs g) (hg: ∀j,j<aO (β:=te.den) zs*te.size->g j=aV w' a j):
  ∃N',Ext N D w h N' D w' (kn (kn h q .dead) id (.row false te zs))/\jV N' D w' base (kn (kn h q .dead) id (.row false te zs))/\cq N' D w' (.tail id 0) (.slice (some a) (aO (β:=te.den) zs) cap):=by
 have hDw: ∀b,D b->w'.heap[b]?=w.heap[b]?:=λb uX=>mG b (λe=>hD (e▸uX));obtain⟨N',n1,n2,n3⟩:=S.move (id:=id) (mD:=⟨some a,rX te,true,aO (β:=te.den) zs,cap⟩) (a':=a) (o':= .row false te zs) ho rfl g1 hb gV rfl rfl Rg htp js hsz mG (by
  refine⟨_,Names.BQ,rfl,rfl,rfl,hl,?_⟩;show _/\_/\_/\_
  refine⟨Fo,⟨C',ty,fz,KN,?_,λ_=>by rw[hC];exact hz⟩,by simp only[zdk,if_false];exact⟨hba,hD⟩,?_⟩
  ·rw[hC]
   have:=zdw te.size hc;show a.off+cap*te.size<=C.size
   omega
  ·exact(hr.Ns ((S.kill q).1.Ro gV _) (λ_ h=>h) hDw).congr hg)
 refine⟨N',n3,n2,?_⟩;unfold cq;simp only[AV.isAgg,jw,an];refine⟨_,n1,rfl,zek _,hl,?_⟩;show∃v room,_
 refine⟨_,cap,rfl,by simp,a,cap,by simp,by simpa using hl,rfl,?_⟩
 left
 obtain⟨ab,ao,asp⟩:=a;simp only at Fo;subst Fo;simp[Addr.at_]
theorem NR (S:jV N D w base h){id:Nat}{zs:List te.den}(gV:h id=none){w':World}(Rg:w'.os=w.os)(htp:w'.tape=w.tape)(js:w'.output=w.output)(hsz:w.heap.size<w'.heap.size)(mG: ∀b,b<w.heap.size->w'.heap[b]?=w.heap[b]?){C':Array Value}{ty:TypeId}{cap:Nat}
  (KN:w'.heap[w.heap.size]?=some (.cells C' ty (0,0))) (hC:cap*te.size<=C'.size) (hl:aO (β:=te.den) zs<=cap) {g:Nat->Option Value} (hr:ed N D w te zs g) (hg: ∀j,j<aO (β:=te.den) zs*te.size->g j=aV w' ⟨w.heap.size,0,none⟩ j):
  ∃N',Ext N D w h N' D w' (kn h id (.row false te zs))/\jV N' D w' base (kn h id (.row false te zs))/\cq N' D w' (.tail id 0) (.slice (some ⟨w.heap.size,0,none⟩) (aO (β:=te.den) zs) cap):=by
 let nm:Nm:=⟨some ⟨w.heap.size,0,none⟩,rX te,true,aO (β:=te.den) zs,cap⟩
 obtain⟨N',n1,n2,n3⟩:=S.make (w':=w') (o:= .row false te zs) (nm:=nm) gV Rg htp js (by omega) mG (λa ha=>by cases ha;exact⟨zdz _,hsz⟩) (by
  refine⟨nm,Names.BQ,rfl,rfl,rfl,hl,?_⟩;show _/\_/\_/\_
  refine⟨rfl,⟨C',ty,(0,0),KN,by simpa [nm] using hC,λ_=> .inl rfl⟩,?_,?_⟩
  ·simp only[zdk,if_false]
   exact⟨S.size,λhd=>Nat.lt_irrefl _ (S.frozen _ hd)⟩
  ·exact(hr.Ns (S.Ro gV nm) (λ_ h=>h) (λb hb=>mG b (S.frozen b hb))).congr hg)
 refine⟨N',n3,n2,?_⟩;unfold cq;simp only[AV.isAgg,jw,an];refine⟨_,n1,rfl,zek _,hl,?_⟩;show∃v room,_
 refine⟨_,cap,rfl,by simp[nm],⟨w.heap.size,0,none⟩,cap,by simp[nm],by simpa using hl,rfl,?_⟩
 left
 simp[Addr.at_]
end
section
variable {N:Names}{D:Nat->Prop}{w:World}{h:Nat->Option fP}{g:Nat}
theorem Ig {α:Type}{cs vs:List α}{i:Nat}(hi:i<=cs.length)(j:Nat):(cs.take i++(vs++cs.drop i))[j]?=if j<i then cs[j]? else if j<i+vs.length then vs[j-i]? else cs[j-vs.length]?:=by
 have hl:(cs.take i).length=i:=by rw[zdH];omega
 by_cases h1:j<i
 ·rw[if_pos h1,zd3 (by omega),zdJ,if_pos h1]
 ·rw[if_neg h1,zd4 (by omega),hl]
  by_cases h2:j<i+vs.length
  ·rw[if_pos h2,zd3 (by omega)]
  ·rw[if_neg h2,zd4 (by omega),zdK]
   congr 1;omega
theorem NT {xs ys:List (Ty.ref g).den}{cs vs:List Value}{i:Nat}(hi:i<=cs.length)(hc:cs.length=aO (β:=(Ty.ref g).den) xs)(hr:ed N D w (.ref g) xs (cs[·]?))(hv:vs.length=aO (β:=(Ty.ref g).den) ys)(hs:ed N D w (.ref g) ys (vs[·]?)):
  ed N D w (.ref g) (xs.take i++(ys++xs.drop i):List (Ty.ref g).den) ((cs.take i++(vs++cs.drop i))[·]?):=by
 have h1:(Ty.ref g).size=1:=rfl;have hl:aO (β:=(Ty.ref g).den) (xs.take i)=i:=by simp only[aO,zdH];simp only[aO] at hc;omega
 refine ed.qX ((hr.take i).congr λj hj=>?_) (by rw[hl,h1,zdH];omega) (ed.qX hs (by rw[hv,h1];omega) ?_)
 ·rw[hl,h1,zel] at hj
  rw[zdJ,if_pos hj]
 ·refine(hr.drop i).congr λj hj=>?_
  rw[h1,zel,zdK]
theorem Cc (S:jV N D w base h){id:Nat}(gV:h id=none){b:Option Addr}{n m cap vb pA vc:Nat}{cs vs:List Value}{zs:List (Ty.ref g).den}(hm:0<m)(WR:n<=cap)(pP:cap<n+m)(FG:(n+m)*8<=140737488355328)(JK:cs.length=n)(UY:vs.length=m)(oA:b=none->n=0)
  (yy: ∀a,b=some a->∀j v,cs[j]?=some v->w.cell? (a.add j)=some v) (hvs: ∀j v,vs[j]?=some v->w.cell? ⟨vb,pA+j,none⟩=some v) (UZ: ∀v∈vs,v.oneCell'=true) (zc:aO (β:=(Ty.ref g).den) zs=n+m) (mE:ed N D w (.ref g) zs ((cs++vs)[·]?)):
  uO base N D w h (.slice b n cap) n (.slice (some ⟨vb,pA,none⟩) m vc) (kn h id (.row false (.ref g) zs)) (.tail id 0):=by
 have h1:(Ty.ref g).size=1:=rfl;have jI:=Ie b n cap vb pA m vc cs vs w hm WR pP FG JK UY oA yy hvs UZ;have so:=grownCap_ge w (n+m) cap 143;generalize hG:grownCap w (n+m) cap 143=G at*;generalize hR:((cs++vs).toArray++Builtin.zeroCells (Value.pointer none).cells (G-(n+m)))=R at*;have hRs:R.size=G:=by
  rw[<-hR];simp[size_zeroCells,Value.cells];omega
 have hR1: ∀j,j<n+m->R[j]?=(cs++vs)[j]?:=λj hj=>by
  rw[<-hR,Array.getElem?_append_left (by simp;omega)]
  simp
 have hW0:(w.drew.alloc (.cells R 143)).heap[w.heap.size]?=some (.cells R 143 (0,0)):=by show(w.heap.push _)[_]?=_;simp
 obtain⟨N',n1,n2,n3⟩:=NR (id:=id) (te:= .ref g) (zs:=zs) S gV (w':=w.drew.alloc (.cells R 143)) rfl rfl rfl
  (by show w.heap.size<(w.heap.push _).size;simp) (λc hc=>by show(w.heap.push _)[c]?=_;rw[zdY,if_neg (by omega)]) hW0 (cap:=G) (by rw[h1,hRs];omega) (by rw[zc];exact so) mE (λj hj=>by
  rw[zc,h1,zel] at hj;rw[<-hR1 j hj];unfold aV World.cell?;simp only;rw[hW0];simp)
 rw[zc] at n3;exact⟨N',D,_,_,jI,n1,n2,n3⟩
set_option maxHeartbeats 4000000 in
theorem U0 (S:jV N D w base h){id q q2 i:Nat}{xs ys:List (Ty.ref g).den}(ho:h q=some (.row false (.ref g) xs))(ho2:h q2=some (.row false (.ref g) ys))(lR:q≠q2)(gV:kn h q .dead id=none)(hi:i<=aO (β:=(Ty.ref g).den) xs)(hy:0<aO (β:=(Ty.ref g).den) ys)
  (QL:(aO (β:=(Ty.ref g).den) xs+aO (β:=(Ty.ref g).den) ys)*8<=70368744177664) {v x:Value} (hv:cq N D w (.tail q 0) v) (hx:cq N D w (.tail q2 0) x):
  uO base N D w h v i x (kn (kn h q .dead) id (.row false (.ref g) (xs.take i++(ys++xs.drop i):List (Ty.ref g).den))) (.tail id 0):=by
 have h1:(Ty.ref g).size=1:=rfl;obtain⟨kS,kE⟩:=S.kill q;have zc:aO (β:=(Ty.ref g).den) (xs.take i++(ys++xs.drop i))=aO (β:=(Ty.ref g).den) xs+aO (β:=(Ty.ref g).den) ys:=by simp only[aO,zdm,zdH,zdI];simp only[aO] at hi;omega
 rcases El S ho2 hx with⟨e,_⟩|⟨WQ,⟨vb,pA,vsp⟩,vc,C2,QO,fz2,a1,a2,a3,a4,a5,a6,a7,a8,a9,qz,sF,tT,xS,xa⟩
 ·exact absurd (show aO (β:=(Ty.ref g).den) ys=0 by rw[e];rfl) (by omega)
 simp only at a3;subst a3;obtain⟨vs,v1,v2,v3,v4⟩:=xa.cells;rw[h1,zel] at v1;have hvs: ∀j u,vs[j]?=some u->w.cell? ⟨vb,pA+j,none⟩=some u:=v2;subst a4;change uO base N D w h v i (.slice (some ⟨vb,pA,none⟩) (aO (β:=(Ty.ref g).den) ys) vc) _ _;rcases El S ho hv with⟨e,b,rfl⟩|⟨nm,⟨b,off,sp⟩,cap,C,ty,fz,b1,b2,b3,b4,b5,b6,b7,b8,b9,b10,b11,b12,b13,b14⟩
 ·have Hw:aO (β:=(Ty.ref g).den) xs=0:=by rw[e];rfl
  have QM:i=0:=by omega
  subst QM;refine uO.after (Cc (cs:=[]) (vs:=vs) kS gV hy (zdz _) (by omega) (by omega) rfl v1 (λ_=>rfl) (λa ha j v hj=>by simp at hj) hvs v4 (by rw[zc,Hw]) ?_) kE
  have e0:([]:List Value)++vs=([]:List Value).take 0++(vs++([]:List Value).drop 0):=by simp
  rw[e0];exact NT (cs:=[]) (i:=0) (zek _) Hw.symm (by rw[e];exact ed.nil) v1 v3
 simp only at b3;subst b3;subst b4;obtain⟨cs,c1,c2,c3,c4⟩:=b14.cells;rw[h1,zel] at c1;have yy: ∀j u,cs[j]?=some u->w.cell? ⟨b,off+j,none⟩=some u:=c2;have hic:i<=cs.length:=by rw[c1];exact hi
 have mE:=NT (i:=i) hic c1 c3 v1 v3;change aO (β:=(Ty.ref g).den) xs<=cap at b5;change uO base N D w h (.slice (some ⟨b,off,none⟩) (aO (β:=(Ty.ref g).den) xs) cap) i (.slice (some ⟨vb,pA,none⟩) (aO (β:=(Ty.ref g).den) ys) vc) _ _;have zaS:off+nm.cap<=C.size:=b10;generalize hn:aO (β:=(Ty.ref g).den) xs=n at*;generalize hm:aO (β:=(Ty.ref g).den) ys=m at*;simp only at b7 b9 b10 b11 b12 b13;have hdl:(cs.take i++(vs++cs.drop i)).length=n+m:=by simp only[zdm,zdH,zdI];omega
 have hold: ∀j,j<n->w.cell? ⟨b,off+j,none⟩=cs[j]?:=λj hj=>by rw[zdi (by omega)];exact yy j _ (zdi (by omega))
 by_cases pP:n+m<=cap
 ·have UX:n+m<=9223372036854775807:=by omega
  have hvb:vb≠b:=λe=>by
   subst e;exact lR (S.apart q q2 _ _ vb ho ho2 ⟨nm,_,b1,b2,rfl⟩ ⟨WQ,_,a1,a2,rfl⟩)
  have hfz:fz=(0,0):=by
   rcases b11 with e|⟨_,e⟩
   ·exact e
   ·cases e
  have zaT:fz2=(0,0):=by
   rcases sF with e|⟨_,e⟩
   ·exact e
   ·cases e
  have Xl: ∀j,j<n+m->(w.cell? ⟨b,off+j,none⟩).isSome=true:=λj hj=>iX b9 (by omega)
  have zaU: ∀j,j<n+m->w.frozen? ⟨b,off+j,none⟩=false:=λj hj=>vU b9 (.inl hfz) (by omega)
  by_cases yf:i<n
  ·have jI:=PB b off n cap i vb pA m vc cs vs w yf hy pP UX hvb c1 v1 yy Xl zaU hvs c4 v4 QO ty C2.size C.size (by unfold World.shape?;rw[a9]) (by unfold World.shape?;rw[b9]) (by omega) (by unfold World.frozen?;rw[a9,zaT];simp) (by unfold World.frozen?;rw[a9,zaT];simp)
   obtain⟨C',f1,f2⟩:=je b (cs.drop i) (off+(i+m)) w.drew C ty fz b9;obtain⟨C'',f3,f4⟩:=je b vs (off+i) (w.drew.setCells b (off+(i+m)) (cs.drop i)) C' ty fz f1;obtain⟨o1,o2,o3⟩:=kT b (cs.drop i) (off+(i+m)) w.drew;obtain⟨o4,o5,o6⟩:=kT b vs (off+i) (w.drew.setCells b (off+(i+m)) (cs.drop i));obtain⟨N',n1,n2,n3⟩:=GH (id:=id) S ho gV b1 b2 rfl b7 b9 (by rw[h1,zel];exact zaS) b11 b12 b13 (o4.trans o1) (o5.trans o2) (o6.trans o3) ((jA ..).trans (jA ..)) (λc hc=>(kx _ _ _ _ c hc).trans (kx _ _ _ _ c hc)) f3 (f4.trans f2) (zs:=(xs.take i++(ys++xs.drop i):List (Ty.ref g).den)) (by rw[zc];exact pP) mE (λj hj=>by
    rw[zc,h1,zel] at hj;rw[Ig hic,v1];unfold aV;simp only;by_cases j1:j<i
    ·rw[if_pos j1,World.cell?_setCells_out _ _ _ _ _ (λ_ _=>by simp only;omega),World.cell?_setCells_out _ _ _ _ _ (λ_ _=>by simp only;omega)]
     exact(hold j (by omega)).symm
    ·rw[if_neg j1]
     by_cases j2:j<i+m
     ·rw[if_pos j2]
      have:=World.cell?_setCells_in b vs (off+i) (w.drew.setCells b (off+(i+m)) (cs.drop i)) (λk hk=>iX f1 (by omega)) (j-i) (by omega)
      rw[show off+i+(j-i)=off+j by omega] at this
      rw[this,zdi (by omega)]
     ·rw[if_neg j2,World.cell?_setCells_out _ _ _ _ _ (λ_ _=>by simp only;omega)]
      have zcv:(cs.drop i).length=n-i:=by rw[zdI,c1]
      have:=World.cell?_setCells_in b (cs.drop i) (off+(i+m)) w.drew (λk hk=>iX b9 (by omega)) (j-(i+m)) (by omega)
      rw[show off+(i+m)+(j-(i+m))=off+j by omega] at this
      rw[this,List.getElem_drop,zdi (by omega)]
      congr 2;omega)
   rw[zc] at n3;exact⟨N',D,_,_,jI,n1,n2,n3⟩
  ·have YC:i=n:=by omega
   subst YC;have jI:=Ic b off i cap vb pA m vc vs w hy pP UX v1 (λj hj=>by rw[zdy];exact Xl _ (by omega)) (λj hj=>by rw[zdy];exact zaU _ (by omega)) hvs v4
   obtain⟨C',f1,f2⟩:=je b vs (off+i) w C ty fz b9;obtain⟨o1,o2,o3⟩:=kT b vs (off+i) w;obtain⟨N',n1,n2,n3⟩:=GH (id:=id) S ho gV b1 b2 rfl b7 b9 (by rw[h1,zel];exact zaS) b11 b12 b13 o1 o2 o3 (jA ..) (λc hc=>kx _ _ _ _ c hc) f1 f2 (zs:=(xs.take i++(ys++xs.drop i):List (Ty.ref g).den)) (by rw[zc];exact pP) mE (λj hj=>by
    rw[zc,h1,zel] at hj;rw[Ig hic,v1];unfold aV;simp only;by_cases j1:j<i
    ·rw[if_pos j1,World.cell?_setCells_out _ _ _ _ _ (λ_ _=>by simp only;omega)]
     exact(hold j (by omega)).symm
    ·rw[if_neg j1,if_pos (by omega)]
     have:=World.cell?_setCells_in b vs (off+i) w (λk hk=>iX b9 (by omega)) (j-i) (by omega)
     rw[show off+i+(j-i)=off+j by omega] at this
     rw[this,zdi (by omega)])
   rw[zc] at n3;exact⟨N',D,_,_,jI,n1,n2,n3⟩
 ·by_cases yf:i<n
  ·have jI:=R9 b off n cap i vb pA m vc cs vs w yf hy b5 (by omega) (by omega) c1 v1 yy hvs c4 v4
   have so:=grownCap_ge w (n+m) cap 143;generalize hG:grownCap w (n+m) cap 143=G at*;generalize hR:((cs.take i).toArray++Builtin.zeroCells (Value.pointer none).cells (n+m-i)++Builtin.zeroCells (Value.pointer none).cells (G-(n+m)))=R at*;have hRs:R.size=G:=by
    rw[<-hR];simp[size_zeroCells,Value.cells];omega
   have hR1: ∀j,j<i->R[j]?=cs[j]?:=λj hj=>by
    rw[<-hR,Array.append_assoc,Array.getElem?_append_left (by simp;omega)]
    simp[zdJ,hj]
   have hW0:(w.alloc (.cells R 143)).drew.heap[w.heap.size]?=some (.cells R 143 (0,0)):=by show(w.heap.push _)[_]?=_;simp
   obtain⟨C',f1,f2⟩:=je w.heap.size vs i (w.alloc (.cells R 143)).drew R 143 (0,0) hW0;have f1':((w.alloc (.cells R 143)).drew.setCells w.heap.size i vs).drew.heap[w.heap.size]?=some (.cells C' 143 (0,0)):=f1;obtain⟨C'',f3,f4⟩:=je w.heap.size (cs.drop i) (i+m) ((w.alloc (.cells R 143)).drew.setCells w.heap.size i vs).drew C' 143 (0,0) f1';obtain⟨o1,o2,o3⟩:=kT w.heap.size vs i (w.alloc (.cells R 143)).drew;obtain⟨o4,o5,o6⟩:=kT w.heap.size (cs.drop i) (i+m) ((w.alloc (.cells R 143)).drew.setCells w.heap.size i vs).drew;have s1:=jA w.heap.size vs i (w.alloc (.cells R 143)).drew;have s2:=jA w.heap.size (cs.drop i) (i+m) ((w.alloc (.cells R 143)).drew.setCells w.heap.size i vs).drew;have s0:(w.alloc (.cells R 143)).drew.heap.size=w.heap.size+1:=by show(w.heap.push _).size=_;simp
   obtain⟨N',n1,n2,n3⟩:=NR (id:=id) (te:= .ref g) (zs:=(xs.take i++(ys++xs.drop i):List (Ty.ref g).den)) kS gV (w':=((w.alloc (.cells R 143)).drew.setCells w.heap.size i vs).drew.setCells w.heap.size (i+m) (cs.drop i)) (o4.trans o1) (o5.trans o2) (o6.trans o3)
    (by rw[s2];show _<((w.alloc (.cells R 143)).drew.setCells w.heap.size i vs).heap.size;rw[s1,s0];omega)
    (λc hc=>(kx _ _ _ _ c (by omega)).trans ((kx w.heap.size vs i (w.alloc (.cells R 143)).drew c (by omega)).trans (by show(w.heap.push _)[c]?=_;rw[zdY,if_neg (by omega)]))) f3 (cap:=G) (by rw[h1,f4,f2,hRs];omega) (by rw[zc];exact so) mE (λj hj=>by
    rw[zc,h1,zel] at hj;rw[Ig hic,v1];unfold aV;simp only[zd2];by_cases j1:j<i
    ·rw[if_pos j1,World.cell?_setCells_out _ _ _ _ _ (λ_ _=>by simp only;omega)]
     show _=((w.alloc (.cells R 143)).drew.setCells w.heap.size i vs).cell? _
     rw[World.cell?_setCells_out _ _ _ _ _ (λ_ _=>by simp only;omega)]
     rw[<-hR1 j j1];unfold World.cell?;simp only;rw[hW0];simp
    ·rw[if_neg j1]
     by_cases j2:j<i+m
     ·rw[if_pos j2,World.cell?_setCells_out _ _ _ _ _ (λ_ _=>by simp only;omega)]
      show _=((w.alloc (.cells R 143)).drew.setCells w.heap.size i vs).cell? _
      have:=World.cell?_setCells_in w.heap.size vs i (w.alloc (.cells R 143)).drew (λk hk=>iX hW0 (by omega)) (j-i) (by omega)
      rw[show i+(j-i)=j by omega] at this
      rw[this,zdi (by omega)]
     ·rw[if_neg j2]
      have zcv:(cs.drop i).length=n-i:=by rw[zdI,c1]
      have:=World.cell?_setCells_in w.heap.size (cs.drop i) (i+m) ((w.alloc (.cells R 143)).drew.setCells w.heap.size i vs).drew (λk hk=>iX f1' (by omega)) (j-(i+m)) (by omega)
      rw[show(i+m)+(j-(i+m))=j by omega] at this
      rw[this,List.getElem_drop,zdi (by omega)]
      congr 2;omega)
   rw[zc] at n3;exact uO.after ⟨N',D,_,_,jI,n1,n2,n3⟩ kE
  ·have YC:i=n:=by omega
   subst YC;refine uO.after (Cc (cs:=cs) (vs:=vs) kS gV hy b5 (by omega) (by omega) c1 v1 (λe=>by cases e) (λa ha j u hj=>by cases ha;rw[Addr.add_lit];exact yy j u hj) hvs v4 zc ?_) kE
   have e1:cs.take i++(vs++cs.drop i)=cs++vs:=by rw[zdN (by omega),zeI (by omega),zeE]
   rw[<-e1];exact mE
end
end AM
namespace AM
open Go Go.Proofs
def zi (g:Nat)(ep:List (Nat×aH)):jt:=⟨[(0, .own 0),(1, .hole (.int .i64)),(2, .own 1)],[(0, .row (.ref g)),(1, .row (.ref g)),(SB+g, .store ep)]⟩
def NU (g:Nat)(ep:List (Nat×aH)):jt:=⟨[(0, .own 50)],[(50, .row (.ref g)),(SB+g, .store ep)]⟩
def Xm (g:Nat)(ep:List (Nat×aH))(d:cP (zi g ep).heap)(zs:List (Ty.ref g).den):St:=
 {t:=λy=>if y=0 then .tail 50 0 else .undef,h:=kn (kn (mN (λc=>c) (zi g ep).heap d (λ_=>none)) 0 .dead) 50 (.row false (.ref g) zs),ep:=0,nt:=0}
noncomputable def zaV {β:Type}(d:(Unit×Int×Unit×Unit)×(List Nat×List Nat×β×Unit)):Option ((Unit×Unit)×(List Nat×β×Unit)):=bif af (0<=d.1.2.1/\d.1.2.1<=(d.2.1.length:Int)/\0<d.2.2.1.length/\(((d.2.1.length+d.2.2.1.length:Nat):Int)*8<=room)) then some (((),()),((d.2.1.take d.1.2.1.toNat++(d.2.2.1++d.2.1.drop d.1.2.1.toNat)),d.2.2.2.1,())) else none
theorem U1 (base:Nat)(g:Nat)(ep:List (Nat×aH))(mc:ak.ok ⟨zi g ep,[NU g ep],true⟩=true)
  (hm: ∀(d:cP (zi g ep).heap) (zs:List (Ty.ref g).den),Ds (Xm g ep d zs) (BL (zi g ep)) [NU g ep] some=some (((),()),(zs,d.2.2.1,()))):
  re Tryz.prog base 266 ⟨zi g ep,[NU g ep],true⟩ (zaV (β:=List (cP ep))):=by
 refine⟨⟨_,Tryz.func266,by kernel_rfl,by kernel_rfl⟩,fun(d:(Unit×Int×Unit×Unit)×(List Nat×List Nat×List (cP ep)×Unit)) r hF N D w lu S hl ha=>?_⟩
 obtain⟨⟨u0,i',u2,u3⟩,xs,ys,st,u4⟩:=d;unfold zaV at hF;simp only at hF;cases hc:af (0<=i'/\i'<=(xs.length:Int)/\0<ys.length/\(((xs.length+ys.length:Nat):Int)*8<=room)) with
 |false=>rw[hc] at hF;cases hF
 |true=>
 rw[hc] at hF;simp only[zde] at hF;cases hF;obtain⟨h1,h2,h3,h4⟩:=kN.1 hc;have hlen:lu.length=3:=hl;obtain⟨v,iv,x,rfl⟩: ∃v iv x,lu=[v,iv,x]:=by
  match lu,hlen with
  | [v,iv,x],_=>exact⟨v,iv,x,rfl⟩
 have a0:cq N D w (.tail 0 0) v:=ha 0;have a1:cq N D w (.val (.int .i64 i')) iv:=ha 1;have a2:cq N D w (.tail 1 0) x:=ha 2;rw[ee] at a1;subst a1;obtain⟨i,hi⟩: ∃i:Nat,i'=(i:Int):=⟨i'.toNat,by omega⟩
 have XZ:i'.toNat=i:=by omega
 obtain⟨N',D',w',v',q1,q2,q3,q4⟩:=U0 (g:=g) S (id:=50) (q:=0) (q2:=1) (i:=i) (xs:=xs) (ys:=ys) rfl rfl (by decide) (by simp[kn,mN,zi,SB];omega) (by show i<=xs.length;omega) h3 (by show(xs.length+ys.length)*8<=_;unfold room at h4;omega) a0 a2
 have WY:=hm (xs,ys,st,u4) (xs.take i++(ys++xs.drop i):List (Ty.ref g).den);obtain⟨y,hy,JJ⟩:=zg _ _ _ WY λe he=>(ak.Gx mc he).1.closed;cases hy;rw[hi];refine Calls.mono q1 ?_;rintro e ON ⟨rfl,rfl⟩
 show wH _ _ _
 rw[show((i:Nat):Int).toNat=i by omega]
 refine tR _ _ (λe n d' tf ht=>?_) JJ;obtain⟨Ne,De,post,D7⟩:=yl (ak.xP mc).st (d:=(xs,ys,st,u4)) (s:=Xm g ep (xs,ys,st,u4) (xs.take i++(ys++xs.drop i):List (Ty.ref g).den)) S q3 q2 rfl ht;refine⟨Ne,De,post,?_⟩;have he:e=NU g ep:=by simpa using tf
 subst he;have:=D7 0 v' q4;exact this
end AM
