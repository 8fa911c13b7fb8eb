/- An abstract machine over programs of the model, and its soundness: what it tells of a function, the model's machine does, continued. Conditions: none. -/
import Derived.WalkKit
import Derived.ProofKit
import Derived.OpenShut
import Derived.ShutString
import Derived.ChangeOld
import Derived.Below
import Derived.SizedLaws
import Derived.Carry
import Derived.Tactics
import Derived.Tactics2
import Derived.Defers
import Derived.Laws.Pointers
import Derived.Laws.LoneSync
import Derived.RegionTactic
import Derived.RegionCalls
import Derived.ChangeAlike
import Derived.Test.YtepopigkpnoflaaGreatProg
import Derived.Shelf.Spec.SlicesInsertGrow
import Derived.Test.YtepopigkpnoflaaGreatDrAm2
set_option linter.unusedVariables false
set_option linter.unusedSimpArgs false
namespace AM
open Go Go.RowKit Go.ChangeShapes Go.WideShapes
def Ty.bytes:Ty->Nat
 | .int k=>k.bits/8| .bool=>1| .str=>16| .nil=>0| .cons a b=>a.bytes+b.bytes| .arr n t=>n*t.bytes| .deep _=>24| .ref _=>8
mutual
def ry (P:Program):Nat->TypeId->Ty->Bool
 |0,_,_=>false
 |n+1,t,te=>decide (P.cellsOf t=te.size)&& (match P.underlying t,te with
  |some (.int k), .int k'=>decide (k=k')
  |some .bool, .bool=>true
  |some .string, .str=>true
  |some (.slice e), .deep te=>ry P n e te&&decide (1<=te.size)&&decide (te.bytes<=P.bytesOf e)
  |some (.array m e), .arr m' te=>decide (m=m')&&ry P n e te
  |some (.struct fs),te=>Cd P n fs.toList 0 te
  |_,_=>false)
def Cd (P:Program):Nat->List Field->Nat->Ty->Bool
 |0,_,_,_=>false
 |_+1,[],_, .nil=>true
 |n+1,f::fs,off, .cons a b=>decide (f.offset=off)&&ry P n f.type a&&Cd P n fs (off+a.size) b
 |_+1,_,_,_=>false
end
def InR (k:IntKind)(n:Int):Prop:=k.min<=n/\n<=k.max
def U4 {β:Type}(x:β)(xs:List β):Prop:=x∈xs
def LV:(t:Ty)->t.den->Prop
 | .int k,n=>InR k n
 | .str,s=>ByteArray.size s<=140737488351232
 | .cons a b,p=>LV a p.1/\LV b p.2
 | .arr n t,xs=>aQ (β:=t.den) xs=n/\∀x:t.den,U4 (β:=t.den) x xs->LV t x
 | .deep t,xs=>aQ (β:=t.den) xs*t.bytes<=140737488351232/\∀x:t.den,U4 (β:=t.den) x xs->LV t x
 |_,_=>True
theorem Ce {β:Type}{Q:Nat->β->Prop}: ∀(n:Nat),(∀i,i<n->∃x,Q i x)->∃xs:List β,xs.length=n/\∀i x,xs[i]?=some x->Q i x
 |0,_=>⟨[],rfl,λi x h=>by simp at h⟩
 |n+1,h=>by
  obtain⟨xs,h1,h2⟩:=Ce n λi hi=>h i (by omega)
  obtain⟨x,hx⟩:=h n (by omega)
  refine⟨xs++ [x],by simp[h1],λi y hy=>?_⟩
  rw[List.getElem?_append] at hy;split at hy
  ·exact h2 i y hy
  ·rename_i hi
   have:i=n:=by
    have:=(List.getElem?_eq_some_iff.1 hy).1;simp at this;omega
   subst this;simp[h1] at hy;subst hy;exact hx
theorem Ee {β:Type}{Q:β->Prop}{xs:List β}(h: ∀(i:Nat) (x:β),xs[i]?=some x->Q x): ∀x,U4 x xs->Q x:=by
 intro x hx;obtain⟨i,hi⟩:=List.getElem?_of_mem hx;exact h i x hi
section
variable {H:Type}{enc:TypeId×Value->H}{P:Program}{w:World}{N:Names}{D:Nat->Prop}
def Small (l:List Nat):Prop:= ∀n∈l,n<=reachBytes
theorem Small.left {a b:List Nat}(h:Small (a++b)):Small a:=λn hn=>h n (zd4 _ hn)
theorem Small.right {a b:List Nat}(h:Small (a++b)):Small b:=λn hn=>h n (zd5 _ hn)
theorem Gw {e:TypeId}: ∀{l:List (DataW H)} {i:Nat} {d:DataW H},Small (DataW.weightsAll P e l)->l[i]?=some d->Small (d.weights P e)
 | [],_,_,_,h=>by simp at h
 |x::xs,0,d,h,hd=>by
  simp at hd;subst hd;simp only[DataW.weightsAll] at h;exact h.left
 |x::xs,i+1,d,h,hd=>by
  simp only[DataW.weightsAll] at h;exact Gw h.right (by simpa using hd)
theorem Gx {m fuel:Nat}{e:TypeId}{te:Ty}(ih: ∀(cs:List Value) (x:DataW H×List MemPlace),DataW.trod enc P w 0 (λ_=>true) true fuel e cs=some x->Small (x.1.weights P e)->∃y:te.den,iy N D w te y (cs[·]?)/\LV te y/\cs.length=te.size)
  {xs:List (DataW H×List MemPlace)} (hl:xs.length=m) (hs:Small (DataW.weightsAll P e (xs.map (·.1)))) {f:Nat->Option (List Value)} (hf: ∀i,i<m->(f i).bind (DataW.trod enc P w 0 (λ_=>true) true fuel e)=xs[i]?):
  ∃ys:List te.den,ys.length=m/\∀i y,ys[i]?=some y->∃cs,f i=some cs/\iy N D w te y (cs[·]?)/\LV te y/\cs.length=te.size:=by
 refine Ce m λi hi=>?_;have h1:=hf i hi;rw[zdS (by omega)] at h1
 obtain⟨cs,h2,h3⟩:=Option.bind_eq_some_iff.1 h1;obtain⟨y,g⟩:=ih cs _ h3 (Gw hs (i:=i) (by simp[hl,hi]))
 exact⟨y,cs,h2,g⟩
theorem Gy (hD: ∀b,b<w.heap.size->D b): ∀(m:Nat),
  (∀(t:TypeId) (te:Ty) (fuel:Nat) (cs:List Value) (x:DataW H×List MemPlace),ry P m t te=true->DataW.trod enc P w 0 (λ_=>true) true fuel t cs=some x->Small (x.1.weights P t)->∃y:te.den,iy N D w te y (cs[·]?)/\LV te y/\cs.length=te.size)/\
  (∀(fs:List Field) (off:Nat) (te:Ty) (fuel:Nat) (cs:List Value) (xs:List (DataW H×List MemPlace)),Cd P m fs off te=true->(∀(i:Nat) (f:Field),fs[i]?=some f->DataW.trod enc P w 0 (λ_=>true) true fuel f.type ((cs.drop f.offset).take (P.cellsOf f.type))=xs[i]?)->xs.length=fs.length->Small (DataW.weightsEach P (fs.map (·.type)) (xs.map (·.1)))->∃y:te.den,iy N D w te y (λj=>cs[off+j]?)/\LV te y)
 |0=>⟨λt te fuel cs x h=>by simp[ry] at h,λfs off te fuel cs xs h=>by simp[Cd] at h⟩
 |m+1=>by
  obtain⟨qP,Uh⟩:=Gy hD m;refine⟨λt te fuel cs x lq h hs=>?_,λfs off te fuel cs xs lq h hl hs=>?_⟩
  ·unfold ry at lq
   simp only[zdV,zd1] at lq;obtain⟨tX,lq⟩:=lq;split at lq
   ·rename_i k k' hu
    simp only[zd1] at lq;subst lq;obtain⟨n,rfl,rfl,hw⟩:=DataW.trod_int hu h;simp only[Lit.wf,zdV,zd1] at hw;exact⟨n,rfl,hw,rfl⟩
   ·rename_i hu
    obtain⟨b,rfl,rfl⟩:=DataW.trod_bool hu h;exact⟨b,rfl,trivial,rfl⟩
   ·rename_i hu
    obtain⟨s,rfl,rfl,_⟩:=DataW.trod_string hu h;refine⟨s,rfl,?_,rfl⟩;have:=hs s.data.toList.length (by simp[DataW.weights])
    show s.size<=140737488351232
    have e:s.data.toList.length=s.size:=by simp
    rw[e] at this;exact this
   ·rename_i e te hu
    simp only[zdV,zd1] at lq;obtain⟨⟨Pw,h1⟩,QM⟩:=lq;rcases DataW.trod_slice hu h with⟨rfl,rfl⟩|⟨a,len,cap,elems,rest,n,rfl,rfl,rfl,_,hlc,_,zU,qO,_⟩
    ·refine⟨([]:List te.den),⟨none,0,rfl,zd9 _,λ_=>rfl,by intro ad ha;cases ha⟩,⟨by simp[aQ],λx hx=>by simp[U4] at hx⟩,rfl⟩
    ·simp only[DataW.weights,hu] at hs
     have O6:P.cellsOf e=te.size:=by
      cases m with
      |zero=>simp[ry] at Pw
      |succ m=>unfold ry at Pw;simp only[zdV,zd1] at Pw;exact Pw.1
     obtain⟨ys,g1,g2⟩:=Gx (λcs x hx U5=>qP e te n cs x Pw hx U5) zU (λq hq=>hs q (zdZ _ (zd4 _ hq))) qO;have hlen:aQ (β:=te.den) ys=len:=g1;have R4:=hs _ (zd0 ..);have Ns:len≠0->a.spot=none:=by
      intro lV;have h0:ys[0]?=some (ys[0]'(by omega)):=zdS (by omega)
      obtain⟨cs,c1,_,_,c4⟩:=g2 0 _ h0;obtain⟨_,c5,c6⟩:=World.cells?_some c1;have c7:=c6 0 (by omega)
      rw[zdS (by omega)] at c7
      simp only[zeB,Addr.add,if_true] at c7;unfold World.cell? at c7;split at c7
      ·split at c7
       ·cases c7
       ·rename_i Fe
        simpa using Fe
      ·cases c7
     refine⟨(ys:List te.den),⟨some a,cap,by rw[hlen];rfl,by rw[hlen];exact hlc,(by intro e';cases e'),λad Fo lV=>?_⟩,⟨?_,?_⟩,rfl⟩
     ·cases Fo
      rw[hlen] at lV;have Fe:=Ns lV;refine⟨Fe,?_,λi y hy=>?_⟩
      ·have h0:ys[0]?=some (ys[0]'(by omega)):=zdS (by omega)
       obtain⟨cs,c1,_,_,c4⟩:=g2 0 _ h0;simp only[zeB,Addr.add,if_true] at c1;exact hD _ (World.cells?_block c1 (by omega))
      ·obtain⟨cs,c1,c2,_,c4⟩:=g2 i y hy
       obtain⟨_,c5,c6⟩:=World.cells?_some c1;refine jm te y _ _ (λj hj=>?_) c2;rw[<-c6 j (by omega)]
       obtain⟨b,o,sp⟩:=a;simp only at Fe;subst Fe;simp only[aZ,ow,O6,zd8]
     ·show aQ (β:=te.den) ys*te.bytes<=140737488351232
      rw[hlen];have h2:len*te.bytes<=(elems.length+rest.length)*P.bytesOf e:=Nat.mul_le_mul (by omega) QM
      simp only[zeX] at R4;exact zea h2 R4
     ·exact Ee λi y hy=>(g2 i y hy).elim λcs yB=>yB.2.2.1
   ·rename_i n e n' te hu
    simp only[zdV,zd1] at lq;obtain⟨rfl,Pw⟩:=lq;obtain⟨xs,k,rfl,rfl,hlen,W3,qO⟩:=DataW.trod_array hu h;simp only[DataW.weights,hu] at hs;have O6:P.cellsOf e=te.size:=by
     cases m with
     |zero=>simp[ry] at Pw
     |succ m=>unfold ry at Pw;simp only[zdV,zd1] at Pw;exact Pw.1
    obtain⟨ys,g1,g2⟩:=Gx (f:=λi=>some ((cs.drop (i*P.cellsOf e)).take (P.cellsOf e))) (λcs x hx U5=>qP e te k cs x Pw hx U5) W3 hs (λi hi=>by simpa using qO i hi)
    refine⟨(ys:List te.den),⟨g1,λi y hy=>?_⟩,⟨g1,?_⟩,by rw[hlen,tX]⟩
    ·obtain⟨tG,c1,c2,_,c4⟩:=g2 i y hy
     cases c1;refine jm te y _ _ (λj hj=>?_) c2;simp only;rw[zej,if_pos (by omega),zek,O6]
    ·exact Ee λi y hy=>(g2 i y hy).elim λcs yB=>yB.2.2.1
   ·rename_i fs hu
    obtain⟨xs,k,rfl,rfl,hlen,W3,qO⟩:=DataW.trod_struct hu h;simp only[DataW.weights,hu] at hs;obtain⟨y,g1,g2⟩:=Uh fs.toList 0 _ k cs xs lq (λi f hf=>qO i f (by simpa using hf)) (by simpa using W3) (by simpa using hs)
    exact⟨y,by simpa using g1,g2,by rw[hlen,tX]⟩
   ·cases lq
  ·unfold Cd at lq
   split at lq
   ·cases lq
   ·exact⟨(),trivial,trivial⟩
   ·rename_i off _ n f fs a b he
    obtain rfl:m=n:=Nat.succ.inj he;cases xs with
    |nil=>simp at hl
    |cons x xs=>
     simp only[zdV,zd1] at lq;obtain⟨⟨rfl,Yq⟩,hfb⟩:=lq;simp only[zeK,DataW.weightsEach] at hs;have h0:=h 0 f rfl;simp only[zep] at h0;have hca:P.cellsOf f.type=a.size:=by
      cases m with
      |zero=>simp[ry] at Yq
      |succ m=>unfold ry at Yq;simp only[zdV,zd1] at Yq;exact Yq.1
     obtain⟨y,y1,y2,y3⟩:=qP f.type a fuel _ x Yq h0 hs.left;obtain⟨z,z1,z2⟩:=Uh fs (f.offset+a.size) b fuel cs xs hfb (λi g hg=>by simpa using h (i+1) g (by simpa using hg)) (by simpa using hl) hs.right
     refine⟨(y,z),⟨jm a y _ _ (λj hj=>?_) y1,iy.func z1 λj=>by rw[zd8]⟩,y2,z2⟩
     rw[zej,if_pos (by omega),zek]
   ·cases lq
end
end AM
namespace AM
open Go Go.RowKit Go.ChangeShapes Go.WideShapes
def wS:Nat->List Ty->List (Nat×cp)
 |_,[]=> []
 |i,t::ts=>(i, .hole t)::wS (i+1) ts
def Yr:(i:Nat)->(ts:List Ty)->wN (wS i ts)->Prop
 |_,[],_=>True
 |i,t::ts,d=>LV t d.1/\Yr (i+1) ts d.2
def fits (P:Program):List TypeId->List Ty->Bool
 | [],[]=>true
 |p::ps,t::ts=>ry P 40 p t&&fits P ps ts
 |_,_=>false
section
variable {H:Type}{enc:TypeId×Value->H}{P:Program}{w:World}{N:Names}{D:Nat->Prop}{base:Nat}
theorem LW {m:Nat}{t:TypeId}{te:Ty}(h:ry P m t te=true):P.cellsOf t=te.size:=by
 cases m with
 |zero=>simp[ry] at h
 |succ m=>unfold ry at h;simp only[zdV,zd1] at h;exact h.1
theorem Aq {te:Ty}{x:te.den}{v:Value}(ha:(AM.enc te x).isAgg=false)(hs:te.size=1)(h:iy N D w te x ([v][·]?)):cw N D w (AM.enc te x) v:=by
 unfold cw;rw[ha];refine(kO te x _).2 (jm te x _ _ (λj hj=>?_) h);obtain rfl:j=0:=by omega
 rfl
theorem Ef {te:Ty}{x:te.den}{cs:Array Value}(ha:(AM.enc te x).isAgg=true)(hs:cs.size=te.size)(h:iy N D w te x (cs.toList[·]?)):cw N D w (AM.enc te x) (.agg cs):=by
 unfold cw;rw[ha];exact⟨cs,rfl,by rw[hs,nE],(kO te x _).2 (iy.func h λj=>by simp)⟩
theorem tK (te:Ty)(x:te.den):(AM.enc te x).isAgg=(sr te).isAgg:=by rw[z8,rO]
theorem R5 (a b:Ty):(sr (.cons a b)).isAgg=true:=by
 simp only[sr];cases sr b<;>rfl
theorem Px {m:Nat}{fs:List Field}{off:Nat}{te:Ty}(hf:Cd P m fs off te=true):(sr te).isAgg=true:=by
 cases m with
 |zero=>simp[Cd] at hf
 |succ m=>
  unfold Cd at hf;split at hf
  ·cases hf
  ·rfl
  ·exact R5 _ _
  ·cases hf
theorem R6 {m:Nat}{t:TypeId}{te:Ty}{x:te.den}{v:Value}(hf:ry P m t te=true)(hv:Value.okWide P w .any base t v)(h:iy N D w te x (v.cells.toList[·]?)):cw N D w (AM.enc te x) v:=by
 have hsz:=LW hf;cases m with
 |zero=>simp[ry] at hf
 |succ m=>
  unfold ry at hf;simp only[zdV,zd1] at hf;replace hf:=hf.2
  split at hf
  ·rename_i k k' hu
   obtain⟨n,rfl⟩:=okWide_int hu hv;exact Aq (by rw[tK];rfl) rfl (by simpa [Value.cells] using h)
  ·rename_i hu
   obtain⟨n,rfl⟩:=okWide_bool hu hv;exact Aq (by rw[tK];rfl) rfl (by simpa [Value.cells] using h)
  ·rename_i hu
   obtain⟨n,rfl⟩:=okWide_string hu hv;exact Aq (by rw[tK];rfl) rfl (by simpa [Value.cells] using h)
  ·rename_i e te hu
   obtain⟨a,l,c,rfl⟩:=okWide_slice hu hv;exact Aq (by rw[tK];rfl) rfl (by simpa [Value.cells] using h)
  ·rename_i n e n' te hu
   simp only[Value.okWide,hu] at hv;obtain⟨cs,rfl,yB,_⟩:=hv;exact Ef (by rw[tK];rfl) (by rw[yB,hsz]) (by simpa [Value.cells] using h)
  ·rename_i fs hu
   simp only[Value.okWide,hu] at hv;obtain⟨cs,rfl,yB,_⟩:=hv;exact Ef (by rw[tK];exact Px hf) (by rw[yB,hsz]) (by simpa [Value.cells] using h)
  ·cases hf
theorem Gz (hD: ∀b,b<w.heap.size->D b): ∀(pts:List TypeId) (ts:List Ty) (i:Nat) (vs:List Value) (ds:List (DataW H)) (ps:List MemPlace),fits P pts ts=true->DataW.TrodAll enc P w 0 (λ_=>true) true pts vs ds ps->
  (∀(j:Nat) t v,pts[j]?=some t->vs[j]?=some v->Value.okWide P w .any base t v)->Small (DataW.weightsEach P pts ds)->
  ∃d:wN (wS i ts),Yr i ts d/\vs.length=ts.length/\∀y,cw N D w (yW (λc=>c) (wS i ts) d (i+y)) (vs.getD y Go.undef)
 | [],[],i,vs,ds,ps,_,h,_,_=>by
  obtain⟨rfl,rfl,rfl⟩:=trodAll_nil h;exact⟨(),trivial,rfl,λy=>by simp only[wS,yW];exact pb⟩
 |p::pts,t::ts,i,vs,ds,ps,hf,h,hv,hs=>by
  obtain⟨v,vs,d,ds,p1,q1,rfl,rfl,rfl,⟨fuel,h1⟩,h2⟩:=trodAll_cons h;simp only[fits,zdV] at hf;simp only[DataW.weightsEach] at hs;obtain⟨x,x1,x2,_⟩:=(Gy hD 40).1 p t fuel _ _ hf.1 h1 hs.left;obtain⟨d2,e1,e2,e3⟩:=Gz hD pts ts (i+1) vs ds q1 hf.2 h2 (λj t v g1 g2=>hv (j+1) t v (by simpa using g1) (by simpa using g2)) hs.right
  refine⟨(x,d2),⟨x2,e1⟩,by simp[e2],λy=>?_⟩
  cases y with
  |zero=>
   simp only[wS,yW,zeM,if_true,cp.mk];exact R6 hf.1 (hv 0 p v rfl rfl) x1
  |succ y=>
   simp only[wS,yW];rw[if_neg (by omega)]
   have:=e3 y;rw[show i+1+y=i+(y+1) by omega] at this
   simpa using this
 | [],_::_,_,_,_,_,h,_,_,_=>by simp[fits] at h
 |_::_,[],_,_,_,_,h,_,_,_=>by simp[fits] at h
theorem H4 (hl:laidOutB P=true): ∀{pts:List TypeId} {vs:List Value} {ds:List (DataW H)} {ps:List MemPlace} {w':World},(pts.all λt=>P.readableRec t&&decide (t<P.types.size))=true->DataW.TrodAll enc P w 0 (λ_=>true) true pts vs ds ps->Below w.heap.size w w'->
  DataW.TrodAll enc P w' 0 (λb=>decide (b<w.heap.size)) true pts vs ds ps
 | [],vs,ds,ps,w',_,h,_=>by
  obtain⟨rfl,rfl,rfl⟩:=trodAll_nil h;exact trodAll_mk0
 |p::pts,vs,ds,ps,w',hr,h,hb=>by
  obtain⟨v,vs,d,ds,p1,q1,rfl,rfl,rfl,h1,h2⟩:=trodAll_cons h;simp only[List.all_cons,zdV,zd1] at hr;obtain⟨fuel,HU⟩:=id h1;refine⟨p1,q1,Below.trod hl hr.1.1 hr.1.2 h1 hb (λx hx=>DataW.trod_lt fuel _ _ _ HU x hx),H4 hl hr.2 h2 hb,rfl⟩
theorem zaE {f:FuncId}{ts:List Ty}{lt:Bool}{F:jw.den ⟨wS 0 ts,[]⟩->Option (gT [⟨[(0, .hole .bool)],[]⟩])}(hF: ∀base,ru P base f ⟨⟨wS 0 ts,[]⟩,[⟨[(0, .hole .bool)],[]⟩],lt⟩ F)(hp: ∀d:wN (wS 0 ts),Yr 0 ts d->F (d,())=some (((true,()),()):(Bool×Unit)×Unit))
  {pts:List TypeId} (lq:fits P pts ts=true) {args:Array Value} {ds:List (DataW H)} {ps:List MemPlace} (hA:DataW.TrodAll enc P w 0 (λ_=>true) true pts args.toList ds ps)
  (hval: ∀(j:Nat) t v,pts[j]?=some t->args[j]?=some v->Value.okWide P w .any base t v) (hs:Small (DataW.weightsEach P pts ds)):
  Calls P f args w λe w'=>e= .returned (.bool true)/\Below w.heap.size w w':=by
 obtain⟨d,h1,h2,h3⟩:=Gz (N:=Names.nil) (D:=λb=>b<w.heap.size) (base:=base) (λ_ h=>h) pts ts 0 _ _ _ lq hA (λj t v g1 g2=>hval j t v g1 (by simpa using g2)) hs
 have hlen: ∀(i:Nat) (ts:List Ty),(wS i ts).length=ts.length:=by
  intro i ts;induction ts generalizing i with
  |nil=>rfl
  |cons t ts ih=>simp[wS,ih]
 have S:jX Names.nil (λb=>b<w.heap.size) w w.heap.size (mR (λc=>c) ([]:List (Nat×aK)) () (λ_=>none)):=
  ⟨λi o h=>by simp[mR] at h,λi j oi oj b h=>by simp[mR] at h,λb h=>h,(λi nm h=>by cases h),zd9 _,λ_ _ _=>rfl⟩
 have hc:=(hF w.heap.size).2 (d,()) _ (hp d h1) Names.nil (λb=>b<w.heap.size) w args.toList S (by rw[h2,hlen]) (λy=>by have:=h3 y;rwa [zeC] at this)
 refine hc.mono λe w' he=>?_;cases e with
 |panicked c=>exact he.elim
 |outgrown=>exact he.elim
 |returned v=>
  obtain⟨Ne,De,post,hv⟩:=he;have hv:cw Ne De w' (AM.enc .bool true) v:=hv;refine⟨by rw[ek.1 hv],⟨post.ext.os,post.ext.tape,post.ext.output,post.ext.size,λb hb=>post.ext.sQ b hb λho=>?_⟩⟩
  obtain⟨i,o,g1,_⟩:=ho;simp[mR] at g1
end
end AM
namespace AM
open Go
theorem ot {p:Prop}(h:p):aa p=true:=kR.2 h
theorem bg {p:Prop}(h: ¬p):aa p=false:=by
 cases e:aa p with
 |false=>rfl
 |true=>exact absurd (kR.1 e) h
theorem iF:aa True=true:=ot trivial
theorem nk:aa False=false:=bg id
theorem LX {n:Int}(h0: -9223372036854775808<=n)(h1:n<=9223372036854775807):wr .i64 n=n:=by rw[pI,IntKind.wrap_i64];omega
theorem ud {n:Int}(h:LV (.int .i64) n): -9223372036854775808<=n/\n<=9223372036854775807:=h
theorem Py {v lo hi:Int}(hv: -9223372036854775808<=v/\v<=9223372036854775807)(h0: -4611686018427387904<=lo)(h1:lo<=hi)(h2:hi<=4611686018427387902)(h3:hi-lo<4611686018427387904):
  ∃r,lo<=r/\r<=hi/\(bif aa ((wr .i64 ((wr .i64 (hi-lo))+1))=0) then none else(bif (aa ((Int.tmod v (wr .i64 ((wr .i64 (hi-lo))+1)))<0)) then some ((((wr .i64 (lo+(wr .i64 ((wr .i64 ((wr .i64 ((Int.tmod v (wr .i64 ((wr .i64 (hi-lo))+1)))+hi))-lo))+1)))),()),()))
   else some ((((wr .i64 (lo+(Int.tmod v (wr .i64 ((wr .i64 (hi-lo))+1))))),()),()))):Option ((Int×Unit)×Unit))=some ((r,()),()):=by
 have e1:wr .i64 (hi-lo)=hi-lo:=LX (by omega) (by omega)
 have e2:wr .i64 (hi-lo+1)=hi-lo+1:=LX (by omega) (by omega)
 rw[e1,e2];have hm0:Int.tmod v (hi-lo+1)<hi-lo+1:=by
  have:=Int.tmod_lt_of_pos v (show 0<hi-lo+1 by omega)
  exact this
 have hm1: -(hi-lo+1)<Int.tmod v (hi-lo+1):=by
  have:=Int.lt_tmod_of_pos v (show 0<hi-lo+1 by omega)
  exact this
 generalize Int.tmod v (hi-lo+1)=m at hm0 hm1;simp only[ke,Bool.cond_decide];rw[if_neg (by omega)]
 by_cases hm:m<0
 ·rw[if_pos hm]
  refine⟨lo+(m+hi-lo+1),by omega,by omega,?_⟩
  rw[LX (n:=m+hi) (by omega) (by omega),LX (n:=m+hi-lo) (by omega) (by omega),LX (n:=m+hi-lo+1) (by omega) (by omega),LX (by omega) (by omega)]
 ·rw[if_neg hm]
  refine⟨lo+m,by omega,by omega,?_⟩
  rw[LX (by omega) (by omega)]
end AM
namespace AM
open Go
structure W where
 aa:(p:Prop)-> [Decidable p]->Bool
 wr:IntKind->Int->Int
 shr:IntKind->Int->Int->Int
 shl:IntKind->Int->Int->Int
 sP:IntKind->Int->Int->Int
 AO:IntKind->Int->Int->Int
 py:IntKind->Int->Int->Int
 Di:IntKind->Int->Int->Int
 qM:Int->Int->Int
 imax:Int->Int->Int
 ak:Int->Int->Bool
 yR:(t:Ty)->t.den->t.den->Bool
 ag:{L R:Type}->(L->Option (L⊕R))->L->Option R
noncomputable def W0:W:=⟨λp _=>aa p,wr,shr,shl,sP,AO,py,Di,qM,imax,ak,yR,ag⟩
noncomputable def NP {L R:Type}:Nat->(L->Option (L⊕R))->L->Option R
 |0,b,l=>ag b l
 |n+1,b,l=>match b l with|none=>none|some (.inr r)=>some r|some (.inl l')=>NP n b l'
theorem Eg {L R:Type}: ∀(n:Nat) (b:L->Option (L⊕R)) (l:L),NP n b l=ag b l
 |0,_,_=>rfl
 |n+1,b,l=>by
  rw[ar];simp only[NP];cases b l with
  |none=>rfl
  |some x=>cases x with
   |inl l'=>exact Eg n b l'
   |inr r=>rfl
def zci (k:IntKind)(a b:Int):Int:=a.fdiv (2^(min b.toNat k.bits))
def zaF (k:IntKind)(a b:Int):Int:=k.wrap ((BitVec.ofInt k.bits a&&&BitVec.ofInt k.bits b).toNat)
def zcj (k:IntKind)(a b:Int):Int:=k.wrap ((BitVec.ofInt k.bits a|||BitVec.ofInt k.bits b).toNat)
def zaG (k:IntKind)(a b:Int):Int:=k.wrap ((BitVec.ofInt k.bits a^^^BitVec.ofInt k.bits b).toNat)
def Ys (k:IntKind)(a b:Int):Int:=k.wrap ((BitVec.ofInt k.bits a&&& ~~~BitVec.ofInt k.bits b).toNat)
def zaH (a b:Int):Bool:=decide (a=b)
def JH:(t:Ty)->t.den->t.den->Bool
 | .int _,a,b=>zaH a b
 | .bool,a,b=>Dj a b
 | .str,a,b=>I4 a b
 | .nil,_,_=>true
 | .cons a b,x,y=>JH a x.1 y.1&&JH b x.2 y.2
 | .arr _ t,xs,ys=>(List.zip (α:=t.den) (β:=t.den) xs ys).all λp=>JH t p.1 p.2
 | .deep _,_,_=>false
 | .ref _,_,_=>false
theorem Yt (a b:Int):ak a b=zaH a b:=ke (a=b)
theorem C7: ∀(t:Ty) (x y:t.den),yR t x y=JH t x y
 | .int _,a,b=>Yt a b
 | .bool,a,b=>rfl
 | .str,a,b=>rfl
 | .nil,_,_=>rfl
 | .cons a b,x,y=>by
  show(yR a x.1 y.1&&yR b x.2 y.2)=(JH a x.1 y.1&&JH b x.2 y.2)
  rw[C7 a,C7 b]
 | .arr _ t,xs,ys=>by
  show((List.zip (α:=t.den) (β:=t.den) xs ys).all λp=>yR t p.1 p.2)=((List.zip (α:=t.den) (β:=t.den) xs ys).all λp=>JH t p.1 p.2)
  congr 1
  funext p
  exact C7 t p.1 p.2
 | .deep _,_,_=>rfl
 | .ref _,_,_=>rfl
noncomputable def WX:W:=⟨λp _=>decide p,λk n=>k.wrap n,zci,λk a b=>k.wrap (a*2^(min b.toNat k.bits)),zaF,zcj,zaG,Ys,λa b=>bif decide (b<a) then b else a,λa b=>bif decide (b>a) then b else a,λa b=>decide (a=b),JH,NP 1000000⟩
theorem Xl:W0=WX:=by
 unfold W0 WX;congr 1
 ·funext p i;exact ke p
 ·funext k n;exact pI k n
 ·funext k a b;exact QT k a b
 ·funext k a b;exact pI k _
 ·funext k a b;exact pI k _
 ·funext k a b;exact pI k _
 ·funext k a b;exact pI k _
 ·funext k a b;exact pI k _
 ·funext a b;unfold qM;rw[ke]
 ·funext a b;unfold imax;rw[ke]
 ·funext a b;exact ke _
 ·funext t x y;exact C7 t x y
 ·funext L R b l;exact(Eg _ b l).symm
end AM
namespace AM
open Go Go.Proofs
set_option maxRecDepth 100000
set_option linter.unusedVariables false
theorem mixed:Tryz.prog.follows .mixedOrders=true:=by kernel_rfl
theorem disable (w:World):(callFunc 196 #[]).run Tryz.prog w= .ok (.value (.tuple #[])) w:=run_call_mark0 Tryz.func196 (by kernel_rfl) (by kernel_rfl) (by kernel_rfl) .disable (by kernel_rfl) w
theorem enable (w:World):(callFunc 198 #[]).run Tryz.prog w= .ok (.value (.tuple #[])) w:=run_call_mark0 Tryz.func198 (by kernel_rfl) (by kernel_rfl) (by kernel_rfl) .enable (by kernel_rfl) w
theorem acquire (a:Addr)(w:World):(callFunc 199 #[.pointer (some a)]).run Tryz.prog w= .ok (.value (.tuple #[])) w:=run_call_marked Tryz.func199 (by kernel_rfl) (by kernel_rfl) (by kernel_rfl) .acquire (by kernel_rfl) a w
theorem releaseMerge (a:Addr)(w:World):(callFunc 201 #[.pointer (some a)]).run Tryz.prog w= .ok (.value (.tuple #[])) w:=run_call_marked Tryz.func201 (by kernel_rfl) (by kernel_rfl) (by kernel_rfl) .releaseMerge (by kernel_rfl) a w
theorem Eh (a:Addr)(x:Value)(u:FrameMode)(w:World)(hc:w.cell? a=some x)(hz:w.frozen? a=false):
  CallsD Tryz.prog 138 #[.pointer (some a), .bool true] u w λe u' w'=>u'=u/\(e= .returned (.tuple #[])/\w'=w.drew.setCell a (.int .u32 1)):=by
 have K6:w.drew.cell? a=some x:=by go_simp
 have Uf:w.drew.frozen? a=false:=by go_simp
 have kr:=run_call_store (P:=Tryz.prog) Tryz.func172 (by kernel_rfl) (by kernel_rfl) (by kernel_rfl) (by kernel_rfl) (k:= .u32) (y:=1) K6 Uf
 go_enter_d Tryz.func138,Tryz.ntmps138
 go_wp2
 go_region_calls
 all_goals (go_end0;exact⟨rfl,rfl⟩)
theorem CE (a:Addr)(u:FrameMode)(w:World)(hc:w.cell? a=some (.int .i32 1))(hz:w.frozen? a=false):
  CallsD Tryz.prog 137 #[.pointer (some a)] u w λe u' w'=>u'=u/\(e= .returned (.tuple #[])/\w'=w.setCell a (.int .i32 0)):=by
 have hd:=disable;have he:=enable;have hr:=releaseMerge;have Pz:=run_call_add (P:=Tryz.prog) Tryz.func202 (by kernel_rfl) (by kernel_rfl) (by kernel_rfl) .i32 (by kernel_rfl) (y:= -1) (s:=0) hc hz (by simp[go_sem];rfl)
 have hcv:=run_convert_to_unsafe (P:=Tryz.prog) (src:=305) (dst:=309) Tryz.underlying305 Tryz.underlying309 (by kernel_rfl) hc
 go_enter_d Tryz.func137,Tryz.ntmps137
 go_wp2
 go_end0
 go_wp2
 go_end0
 exact⟨rfl,rfl⟩
theorem PA (a:Addr)(w:World)(hc:w.cell? a=some (.int .i32 0))(hz:w.frozen? a=false):
  Calls Tryz.prog 136 #[.pointer (some a)] w λe w'=>e= .returned (.tuple #[])/\w'=w.setCell a (.int .i32 1):=by
 have hd:=disable;have he:=enable;have ha:=acquire;have zdF:=run_call_cas_hit (P:=Tryz.prog) Tryz.func197 (by kernel_rfl) (by kernel_rfl) (by kernel_rfl) .i32 (by kernel_rfl) (y:=1) hc hz
 have K6:(w.setCell a (.int .i32 1)).cell? a=some (.int .i32 1):=World.cell?_setCell_same w a _ hc;have hcv:=run_convert_to_unsafe (P:=Tryz.prog) (src:=305) (dst:=309) Tryz.underlying305 Tryz.underlying309 (by kernel_rfl) K6
 go_enter Tryz.func136,Tryz.ntmps136
 go_wp2
 first|go_end0|(simp only[Exit.inBlock,Exit.then];refine bodyPost_ret (results_none rfl _ _ _) rfl ?_)|refine bodyPost_ret (results_none rfl _ _ _) rfl ?_
 go_wp2
 go_end0
 exact⟨rfl,rfl⟩
set_option maxRecDepth 100000 in
set_option maxHeartbeats 1600000 in
theorem R7 (b off:Nat)(g:FuncId)(first sH:Array Value)(Eb:World->Prop)(w:World)(hg: ∀w:World,(callFunc g (first++sH)).run Tryz.prog w= .ok (.enter g (first++sH)) w)
  (h0:w.cell? ⟨b,off,none⟩=some (.int .u32 0)) (h1:w.cell? ⟨b,off+1,none⟩=some (.int .i32 0))
  (f1:w.frozen? ⟨b,off+1,none⟩=false)
  (IV:Calls Tryz.prog g (first++sH) (w.setCell ⟨b,off+1,none⟩ (.int .i32 1)) λe w'=>e= .returned (.tuple #[])/\Eb w'/\(∃x,w'.cell? ⟨b,off,none⟩=some x)/\w'.frozen? ⟨b,off,none⟩=false/\w'.cell? ⟨b,off+1,none⟩=some (.int .i32 1)/\w'.frozen? ⟨b,off+1,none⟩=false):
  Calls Tryz.prog 109 #[.pointer (some ⟨b,off,none⟩), .func (.func g) first sH] w λe w'=>e= .returned (.tuple #[])/\
   ∃w1,Eb w1/\(∃x,w1.cell? ⟨b,off,none⟩=some x)/\w1.frozen? ⟨b,off,none⟩=false/\w1.cell? ⟨b,off+1,none⟩=some (.int .i32 1)/\w1.frozen? ⟨b,off+1,none⟩=false/\w'=(w1.drew.setCell ⟨b,off,none⟩ (.int .u32 1)).setCell ⟨b,off+1,none⟩ (.int .i32 0):=by
 have hl:=run_call_load (P:=Tryz.prog) Tryz.func135 (by kernel_rfl) (by kernel_rfl) (by kernel_rfl) .u32 (by kernel_rfl) (w:=w.setCell ⟨b,off+1,none⟩ (.int .i32 1)) (a:=⟨b,off,none⟩) (x:=0) ((World.cell?_setCell_other _ ⟨b,off+1,none⟩ ⟨b,off,none⟩ _ (by simp)).trans h0)
 have zaI: ∀(x:Bool) (w:World),(Op.unary .not (.bool x)).run Tryz.prog w= .ok (.bool (!x)) w:=λ_ _=>rfl;have Yu:first++(#[]:Array Value)=first:=by simp
 go_enter_defers Tryz.func109,Tryz.ntmps109
 go_wp2_with (first|(go_at_call 136;refine(PA ⟨b,off+1,none⟩ _ (by go_simp) (by go_simp)).mono ?_;rintro e w' ⟨rfl,rfl⟩)|(go_at_call 108;go_in)|(refine IV.mono ?_;rintro e w1 ⟨rfl,R8,⟨xx,Hn⟩,Rt,hx1,Yv⟩))
 go_wp2
 refine leaves_cons (f:=138) (args:= #[.pointer (some ⟨b,off,none⟩), .bool true]) (by simp) (by simp[go_sem]) ?_
 refine(Eh ⟨b,off,none⟩ xx .returning _ Hn Rt).mono ?_;rintro e u' Ub ⟨rfl,rfl,rfl⟩
 refine leaves_cons (f:=137) (args:= #[.pointer (some ⟨b,off+1,none⟩)]) (by simp[settle]) (by simp[go_sem]) ?_
 refine(CE ⟨b,off+1,none⟩ _ _ ?_ (by simp[Yv])).mono ?_
 ·refine(World.cell?_setCell_other _ ⟨b,off,none⟩ ⟨b,off+1,none⟩ _ (by simp)).trans ?_
  rw[World.cell?_drew];exact hx1
 rintro e u' Ub ⟨rfl,rfl,rfl⟩
 simp only[Leaves,settle,results,Tryz.results109];simp;exact⟨w1,R8,⟨xx,Hn⟩,Rt,hx1,Yv,rfl⟩
set_option maxRecDepth 100000 in
set_option maxHeartbeats 1600000 in
theorem LY (b off:Nat)(g:FuncId)(first sH:Array Value)(Eb:World->Prop)(w:World)(hg: ∀w:World,(callFunc g (first++sH)).run Tryz.prog w= .ok (.enter g (first++sH)) w)
  (h0:w.cell? ⟨b,off,none⟩=some (.int .u32 0)) (h1:w.cell? ⟨b,off+1,none⟩=some (.int .i32 0))
  (f1:w.frozen? ⟨b,off+1,none⟩=false)
  (IV:Calls Tryz.prog g (first++sH) (w.setCell ⟨b,off+1,none⟩ (.int .i32 1)) λe w'=>e= .returned (.tuple #[])/\Eb w'/\(∃x,w'.cell? ⟨b,off,none⟩=some x)/\w'.frozen? ⟨b,off,none⟩=false/\w'.cell? ⟨b,off+1,none⟩=some (.int .i32 1)/\w'.frozen? ⟨b,off+1,none⟩=false):
  Calls Tryz.prog 78 #[.pointer (some ⟨b,off,none⟩), .func (.func g) first sH] w λe w'=>e= .returned (.tuple #[])/\
   ∃w1,Eb w1/\w'=(w1.drew.setCell ⟨b,off,none⟩ (.int .u32 1)).setCell ⟨b,off+1,none⟩ (.int .i32 0):=by
 have hl:=run_call_load (P:=Tryz.prog) Tryz.func135 (by kernel_rfl) (by kernel_rfl) (by kernel_rfl) .u32 (by kernel_rfl) h0
 have zaI: ∀(x:Bool) (w:World),(Op.unary .not (.bool x)).run Tryz.prog w= .ok (.bool (!x)) w:=λ_ _=>rfl;go_enter Tryz.func78,Tryz.ntmps78
 go_wp2_with (first|(go_at_call 109;refine(R7 b off g first sH Eb _ hg h0 h1 f1 IV).mono ?_;rintro e w' ⟨rfl,w1,R8,Hn,Rt,hx1,Yv,rfl⟩)|(go_at_call 108;go_in))
 go_end0
 exact⟨rfl,w1,R8,rfl⟩
theorem PB (a:Addr)(d:Int)(hd: ¬d=0)(fv:Value)(w:World)(h0:w.cell? a=some (.int .u32 d)):
  Calls Tryz.prog 78 #[.pointer (some a),fv] w λe w'=>e= .returned (.tuple #[])/\w'=w:=by
 have hl:=run_call_load (P:=Tryz.prog) Tryz.func135 (by kernel_rfl) (by kernel_rfl) (by kernel_rfl) .u32 (by kernel_rfl) h0
 have zaI: ∀(x:Bool) (w:World),(Op.unary .not (.bool x)).run Tryz.prog w= .ok (.bool (!x)) w:=λ_ _=>rfl;have K4:(d !=0)=true:=by simp[hd]
 go_enter Tryz.func78,Tryz.ntmps78
 go_wp2
 go_end0
 exact⟨rfl,rfl⟩
theorem w78:Xk Tryz.prog 78:=⟨⟨Tryz.f78,rfl,rfl,by decide⟩,λa d hd fv w h0=>PB a d hd fv w h0,λb off g first sH Eb w hg h0 h1 f1 IV=>LY b off g first sH Eb w hg h0 h1 f1 IV⟩
theorem Uk {P:Program}{f:FuncId}{fn:Func}(hf:P.funcs[f]?=some fn)(zaJ:(fn.name== "runtime.NumGoroutine")=false)(hb:fn.body.isNone=true)(hn:Extern.findNext fn=none)(k:IntKind)
  (he:Extern.find fn=some (Extern.Atomic.swapT (.int k))) {a:Addr} {x y:Int} {w:World} (hc:w.cell? a=some (.int k x)) (hz:w.frozen? a=false):
  (callFunc f #[.pointer (some a), .int k y]).run P w= .ok (.value (.int k x)) (w.setCell a (.int k y)):=by
 rw[run_callFunc_extern hf zaJ hb hn he];change (Sem.run P (do
  let a'<-asAddr (.pointer (some a))
  let old<-Extern.Atomic.read (.int k) a'
  store a' (.int k y) .atomic
  pure old) w).andThen _=_
 simp[Extern.Atomic.read,asAddr,hc,hz,run_store P w a (.int k y) .atomic rfl,Result.andThen]
theorem zdG:zay Tryz.prog 100 .i64:=⟨⟨Tryz.f100,rfl,rfl,by decide⟩,λb o x w h0=>by
 have hl:=run_call_load (P:=Tryz.prog) Tryz.func131 (by kernel_rfl) (by kernel_rfl) (by kernel_rfl) .i64 (by kernel_rfl) h0
 go_enter Tryz.func100,Tryz.ntmps100
 go_wp2
 go_ret
 exact⟨rfl,rfl⟩⟩
theorem zck:zaz Tryz.prog 122 .i64:=⟨⟨Tryz.f122,rfl,rfl,by decide⟩,λb o x y w h0 hz=>by
 obtain⟨s,hs⟩: ∃s,s=IntKind.i64.wrap (x+y):=⟨_,rfl⟩;have hl:=run_call_add (P:=Tryz.prog) Tryz.func156 (by kernel_rfl) (by kernel_rfl) (by kernel_rfl) .i64 (by kernel_rfl) (y:=y) (s:=s) h0 hz (by rw[hs];rfl)
 rw[<-hs];clear hs;go_enter Tryz.func122,Tryz.ntmps122
 go_wp2
 go_ret
 exact⟨rfl,rfl⟩⟩
abbrev FO (b i:Nat)(S:al)(F:W->S.pre.den->Option (gT S.je)):Prop:=S.ok=true/\ru Tryz.prog b i S (F W0)
abbrev LO (b:Nat)(fn:Func)(i:Nat)(S:bO)(F:W->S.pre.den->Option (S.pre.den⊕gT S.je)):Prop:=S.ok=true/\nC Tryz.prog b fn i S (F W0)
section
variable {b:Nat}
theorem KK {i:Nat}{S:al}{F:W->S.pre.den->Option (gT S.je)}{cs:List oZ}(h:FO b i S F)(h2: ∀y∈cs,Ah Tryz.prog b i y): ∀y∈(⟨S,F W0,none⟩:oZ)::cs,Ah Tryz.prog b i y:=lF h.1 h.2 h2
theorem bT {i:Nat}{S:al}{F:W->S.pre.den->Option (gT S.je)}{l:List (Nat×List oZ)}(h:FO b i S F)(h2:pE Tryz.prog b l):pE Tryz.prog b ((i,[⟨S,F W0,none⟩])::l):=db (KK h nX) h2
theorem wT {fn:Func}{i:Nat}{S:bO}{F:W->S.pre.den->Option (S.pre.den⊕gT S.je)}{ls:List uU}(h:LO b fn i S F)(h2: ∀y∈ls,y.sp.ok=true/\nC Tryz.prog b fn i y.sp y.f): ∀y∈(⟨S,F W0⟩:uU)::ls,y.sp.ok=true/\nC Tryz.prog b fn i y.sp y.f:=zax h.1 h.2 h2
theorem pM {fn:Func}{i:Nat}{S:bO}{F:W->S.pre.den->Option (S.pre.den⊕gT S.je)}{l:List (Nat×List uU)}(h:LO b fn i S F)(h2:oy Tryz.prog b fn l):oy Tryz.prog b fn ((i,[⟨S,F W0⟩])::l):=l7 (wT h CD) h2
theorem fM {i:Nat}(fn:Func){S:al}{F:W->S.pre.den->Option (gT S.je)}{cl:List (Nat×List oZ)}{lp:List (Nat×List uU)}(hc:pE Tryz.prog b cl)(hl:oy Tryz.prog b fn lp)(h1:Tryz.prog.funcs[i]?=some fn:=by rfl)(h2:(!(fn.name== "runtime.NumGoroutine")&&R0 fn S&&S.ok)=true:=by kernel_rfl)(hF: ∀d,qh Tryz.prog S (rH cl lp) fn d=F W0 d:=by intro _;kernel_rfl):FO b i S F:=by
 simp only[zdV,zfc] at h2;exact⟨h2.2,Ak h1 h2.1.1 h2.1.2 mixed hc hl hF⟩
theorem me {fn:Func}{i:Nat}{S:bO}{F:W->S.pre.den->Option (S.pre.den⊕gT S.je)}{cl:List (Nat×List oZ)}{lp:List (Nat×List uU)}(hc:pE Tryz.prog b cl)(hl:oy Tryz.prog b fn lp)(h2:(Aj fn&&S.ok)=true:=by kernel_rfl)(hF: ∀d,vq Tryz.prog S (rH cl lp) fn i d=F W0 d:=by intro _;kernel_rfl):LO b fn i S F:=by
 simp only[zdV] at h2;exact⟨h2.2,Am h2.2 h2.1 mixed hc hl hF⟩
end
end AM
set_option linter.unusedVariables false
set_option linter.unusedSimpArgs false
namespace AM
open Go Go.Proofs Go.Shelf Go.RowKit Go.Lib
theorem Lz.t0:Tryz.prog.underlying 0=some (.tuple #[]):=by kernel_rfl
theorem Lz.a0: ∀w,(isAgg 0).run Tryz.prog w= .ok false w:=λw=>by kernel_rfl
theorem Lz.z0: ∀w,(Go.sizeOf 0).run Tryz.prog w= .ok 1 w:=λw=>by kernel_rfl
theorem Lz.v0: ∀w,(zeroValue 0).run Tryz.prog w= .ok (.tuple #[]) w:=λw=>by kernel_rfl
theorem Lz.t3:Tryz.prog.underlying 3=some (.int .i64):=by kernel_rfl
theorem Lz.a3: ∀w,(isAgg 3).run Tryz.prog w= .ok false w:=λw=>by kernel_rfl
theorem Lz.z3: ∀w,(Go.sizeOf 3).run Tryz.prog w= .ok 1 w:=λw=>by kernel_rfl
theorem Lz.v3: ∀w,(zeroValue 3).run Tryz.prog w= .ok (.int .i64 0) w:=λw=>by kernel_rfl
theorem Lz.t4:Tryz.prog.underlying 4=some (.bool):=by kernel_rfl
theorem Lz.a4: ∀w,(isAgg 4).run Tryz.prog w= .ok false w:=λw=>by kernel_rfl
theorem Lz.z4: ∀w,(Go.sizeOf 4).run Tryz.prog w= .ok 1 w:=λw=>by kernel_rfl
theorem Lz.v4: ∀w,(zeroValue 4).run Tryz.prog w= .ok (.bool false) w:=λw=>by kernel_rfl
theorem Lz.t143:Tryz.prog.underlying 143=some (.pointer 197):=by kernel_rfl
theorem Lz.JI: ∀w,(isAgg 143).run Tryz.prog w= .ok false w:=λw=>by kernel_rfl
theorem Lz.H5: ∀w,(Go.sizeOf 143).run Tryz.prog w= .ok 1 w:=λw=>by kernel_rfl
theorem Lz.JJ: ∀w,(zeroValue 143).run Tryz.prog w= .ok (.pointer none) w:=λw=>by kernel_rfl
theorem Lz.t137:Tryz.prog.underlying 137=some (.slice 143):=by kernel_rfl
theorem Lz.JK: ∀w,(isAgg 137).run Tryz.prog w= .ok false w:=λw=>by kernel_rfl
theorem Lz.JL: ∀w,(Go.sizeOf 137).run Tryz.prog w= .ok 1 w:=λw=>by kernel_rfl
theorem Lz.JM: ∀w,(zeroValue 137).run Tryz.prog w= .ok (.slice none 0 0) w:=λw=>by kernel_rfl
theorem Lz.i143:(Tryz.prog.info? 143).map (λi=>(i.zero,i.size,i.bytes))=some (some (Value.pointer none),1,8):=by kernel_rfl
set_option maxHeartbeats 4000000 in
set_option maxRecDepth 100000 in
theorem PC (b off n c i vb pF m vc:Nat)(cs vs:List Value)(w:World)(hi:i<n)(hm:0<m)(pT:n+m<=c)(U6:n+m<=9223372036854775807)(hvb:vb≠b)
  (IV:cs.length=n) (U8:vs.length=m)
  (yB: ∀j v,cs[j]?=some v->w.cell? ⟨b,off+j,none⟩=some v) (Fe: ∀j,j<n+m->(w.cell? ⟨b,off+j,none⟩).isSome=true) (hfz: ∀j,j<n+m->w.frozen? ⟨b,off+j,none⟩=false)
  (hvs: ∀j v,vs[j]?=some v->w.cell? ⟨vb,pF+j,none⟩=some v) (h1c: ∀v∈cs,v.oneCell'=true) (U9: ∀v∈vs,v.oneCell'=true)
  (tA tB:TypeId) (kA kB:Nat) (hsa:w.shape? vb=some (tA,kA)) (hsb:w.shape? b=some (tB,kB)) (hkB:kB≠0) (Yq:w.frozen? ⟨vb,pF,none⟩=false) (Pw:w.frozen? ⟨vb,kA,none⟩=false):
  Calls Tryz.prog 266 #[.slice (some ⟨b,off,none⟩) n c, .int .i64 i, .slice (some ⟨vb,pF,none⟩) m vc] w λe w'=>
   e= .returned (.slice (some ⟨b,off,none⟩) (n+m) c)/\w'=(w.drew.setCells b (off+(i+m)) (cs.drop i)).setCells b (off+i) vs:=by
 have t0:=Lz.t0;have a0:=Lz.a0;have z0:=Lz.z0;have v0:=Lz.v0;have t3:=Lz.t3;have a3:=Lz.a3;have z3:=Lz.z3;have v3:=Lz.v3;have t4:=Lz.t4;have a4:=Lz.a4;have z4:=Lz.z4;have v4:=Lz.v4;have t143:=Lz.t143;have JI:=Lz.JI;have H5:=Lz.H5;have JJ:=Lz.JJ;have t137:=Lz.t137;have JK:=Lz.JK;have JL:=Lz.JL;have JM:=Lz.JM;have u0:=run_underlying Lz.t0;have u3:=run_underlying Lz.t3;have u4:=run_underlying Lz.t4;have Yw:=run_underlying Lz.t143;have Yx:=run_underlying Lz.t137;have Yv: ¬((m:Int)=0):=by omega
 have hz2: ¬((i:Int)=(n:Int)):=by omega
 have hsz:(Tryz.prog.info? 143).map (·.size)=some 1:=by
  obtain⟨i0,QN,h0,h1,h2⟩:=info_parts Lz.i143;rw[QN];simp[h1]
 have hov: ∀lb cb,(callFunc 271 #[.slice (some ⟨vb,pF,none⟩) m vc, .slice (some ⟨b,off+(i+m),none⟩) lb cb]).run Tryz.prog w= .ok (.value (.bool false)) w:=λlb cb=>by
  rw[run_callFunc_extern Tryz.func271 (by kernel_rfl) (by kernel_rfl) (by kernel_rfl) (e:=Extern.SlicesOverlaps.overlaps #[137,137] #[4]) (by kernel_rfl),
   Lib.run_overlaps_apart w 137 4 143 Lz.t137 1 Lz.H5 ⟨vb,pF,none⟩ ⟨b,off+(i+m),none⟩ m vc lb cb hvb tA tB kA kB hsa hsb hkB Yq Pw]
  rfl
 have hdl:(cs.drop i).length=n-i:=by rw[zei,IV]
 have mixed:=mixed;have hw1:IntKind.i64.wrap ((i:Int)+(m:Int))=(i:Int)+(m:Int):=by rw[IntKind.wrap_i64];omega
 have hb1:(0:Int)<=(i:Int)+(m:Int):=by omega
 have yk:i<=n:=by omega
 have htn:((i:Int)+(m:Int)).toNat=i+m:=by omega
 have hb2: ¬(c=i+m):=by omega
 have hb3:(i:Int)<=(n:Int)+(m:Int):=by omega
 have hb4: ¬(c=i):=by omega
 have zaK: ∀ty dc sc,(Builtin.copy_ #[137,137] ty #[.slice (some ⟨b,off+(i+m),none⟩) (n+m-(i+m)) dc, .slice (some ⟨b,off+i,none⟩) (n+m-i) sc]).run Tryz.prog w.drew= .ok (goInt (cs.drop i).length) (w.drew.setCells b (off+(i+m)) (cs.drop i)):=λty dc sc=>
  run_copy_cells w.drew _ _ ty 143 b (off+(i+m)) (n+m-(i+m)) dc ⟨b,off+i,none⟩ (n+m-i) sc (cs.drop i) Lz.t137 hsz (by rw[hdl];simp only[Nat.min_def];split<;>omega)
   (λj v hj=>by rw[Addr.add_lit,zd8];exact yB (i+j) v (by rwa [zek] at hj))
   (λj hj=>by rw[zd8];exact Fe _ (by omega)) (λj hj=>by rw[zd8];exact hfz _ (by omega)) (λv hv=>h1c v (zfh hv))
 obtain⟨W1,QO⟩: ∃W1,W1=w.drew.setCells b (off+(i+m)) (cs.drop i):=⟨_,rfl⟩;have zcl: ∀k,k<n+m->(W1.cell? ⟨b,off+k,none⟩).isSome=true:=λk hk=>by
  rw[QO];exact isSome_setCells b _ _ _ (λj hj=>by rw[zd8];exact Fe _ (by omega)) _ (Fe k hk)
 have zcm: ∀(W:World),(∀x,W.cell? x=W1.cell? x)->(∀x,W.frozen? x=W1.frozen? x)->∀ty dc,(Builtin.copy_ #[137,137] ty #[.slice (some ⟨b,off+i,none⟩) (n+m-i) dc, .slice (some ⟨vb,pF,none⟩) m vc]).run Tryz.prog W= .ok (goInt vs.length) (W.setCells b (off+i) vs):=λW Xm hWf ty dc=>
  run_copy_cells W _ _ ty 143 b (off+i) (n+m-i) dc ⟨vb,pF,none⟩ m vc vs Lz.t137 hsz (by rw[U8];simp only[Nat.min_def];split<;>omega)
   (λj v hj=>by
    rw[Addr.add_lit,Xm,QO,World.cell?_setCells_out b _ _ _ _ (λh _=>absurd h hvb)];exact hvs j v hj)
   (λj hj=>by rw[Xm,zd8];exact zcl _ (by omega)) (λj hj=>by rw[hWf,QO,World.frozen?_setCells,zd8];exact hfz _ (by omega)) U9
 rw[<-QO] at zaK;go_enter Tryz.func266,Tryz.ntmps266
 go_wp2_with (simp only[hov])
 go_region_law_o (refine step_copy_runI rfl _ _ 137 137 rfl _ _ (by simp[Act.eval,Act.put]) (by simp[Act.eval,Act.put]) (zaK _ _ _) ?_)
 go_wp2_with (at_builtin;refine wpList_copy_runI _ rfl _ _ 137 137 rfl _ _ rfl rfl (zcm _ (λ_=>rfl) (λ_=>rfl) _ _) ?_)
 go_ret
 first|exact⟨rfl,rfl⟩|exact⟨rfl,by rw[QO]⟩
set_option maxHeartbeats 4000000 in
set_option maxRecDepth 100000 in
theorem H6 (b off n c vb pF m vc:Nat)(vs:List Value)(w:World)(hm:0<m)(pT:n+m<=c)(U6:n+m<=9223372036854775807)
  (U8:vs.length=m) (Fe: ∀j,j<m->(w.cell? ⟨b,off+n+j,none⟩).isSome=true) (hfz: ∀j,j<m->w.frozen? ⟨b,off+n+j,none⟩=false)
  (hvs: ∀j v,vs[j]?=some v->w.cell? ⟨vb,pF+j,none⟩=some v) (U9: ∀v∈vs,v.oneCell'=true):
  Calls Tryz.prog 266 #[.slice (some ⟨b,off,none⟩) n c, .int .i64 n, .slice (some ⟨vb,pF,none⟩) m vc] w λe w'=>
   e= .returned (.slice (some ⟨b,off,none⟩) (n+m) c)/\w'=w.setCells b (off+n) vs:=by
 have t0:=Lz.t0;have a0:=Lz.a0;have z0:=Lz.z0;have v0:=Lz.v0;have t3:=Lz.t3;have a3:=Lz.a3;have z3:=Lz.z3;have v3:=Lz.v3;have t4:=Lz.t4;have a4:=Lz.a4;have z4:=Lz.z4;have v4:=Lz.v4;have t143:=Lz.t143;have JI:=Lz.JI;have H5:=Lz.H5;have JJ:=Lz.JJ;have t137:=Lz.t137;have JK:=Lz.JK;have JL:=Lz.JL;have JM:=Lz.JM;have u0:=run_underlying Lz.t0;have u3:=run_underlying Lz.t3;have u4:=run_underlying Lz.t4;have Yw:=run_underlying Lz.t143;have Yx:=run_underlying Lz.t137;have mixed:=mixed;have Yv: ¬((m:Int)=0):=by omega
 have Yy:Go.Src Tryz.prog 1 137 (.slice (some ⟨vb,pF,none⟩) m vc) m vs w:=Go.Src.ofSlice w Lz.t137 ⟨vb,pF,none⟩ m vc vs (by omega) (λj u hj=>by rw[Addr.add_lit];exact hvs j u hj) U9
 go_enter Tryz.func266,Tryz.ntmps266
 go_wp2_with (at_builtin;refine wpList_append_room1 _ rfl _ _ 137 137 rfl 143 _ _ Lz.t137 Lz.i143 b off n c rfl _ rfl m vs Yy pT (by rw[U8];exact Fe) (by rw[U8];exact hfz) ?_)
 go_ret
 exact⟨rfl,rfl⟩
set_option maxHeartbeats 4000000 in
set_option maxRecDepth 100000 in
theorem H7 (base:Option Addr)(n c vb pF m vc:Nat)(cs vs:List Value)(w:World)(hm:0<m)(WV:n<=c)(pT:c<n+m)(Fx:(n+m)*8<=140737488355328)
  (IV:cs.length=n) (U8:vs.length=m) (ox:base=none->n=0)
  (yB: ∀a,base=some a->∀j v,cs[j]?=some v->w.cell? (a.add j)=some v)
  (hvs: ∀j v,vs[j]?=some v->w.cell? ⟨vb,pF+j,none⟩=some v) (U9: ∀v∈vs,v.oneCell'=true):
  Calls Tryz.prog 266 #[.slice base n c, .int .i64 n, .slice (some ⟨vb,pF,none⟩) m vc] w λe w'=>
   e= .returned (.slice (some ⟨w.heap.size,0,none⟩) (n+m) (grownCap w (n+m) c 143))/\
   w'=w.drew.alloc (.cells ((cs++vs).toArray++Builtin.zeroCells (Value.pointer none).cells (grownCap w (n+m) c 143-(n+m))) 143):=by
 have t0:=Lz.t0;have a0:=Lz.a0;have z0:=Lz.z0;have v0:=Lz.v0;have t3:=Lz.t3;have a3:=Lz.a3;have z3:=Lz.z3;have v3:=Lz.v3;have t4:=Lz.t4;have a4:=Lz.a4;have z4:=Lz.z4;have v4:=Lz.v4;have t143:=Lz.t143;have JI:=Lz.JI;have H5:=Lz.H5;have JJ:=Lz.JJ;have t137:=Lz.t137;have JK:=Lz.JK;have JL:=Lz.JL;have JM:=Lz.JM;have u0:=run_underlying Lz.t0;have u3:=run_underlying Lz.t3;have u4:=run_underlying Lz.t4;have Yw:=run_underlying Lz.t143;have Yx:=run_underlying Lz.t137;have mixed:=mixed;obtain⟨i0,QN,Rt,uA,hzb⟩:=info_parts Lz.i143;have Yv: ¬((m:Int)=0):=by omega
 have Yy:Go.Src Tryz.prog i0.size 137 (.slice (some ⟨vb,pF,none⟩) m vc) m vs w:=by
  rw[uA];exact Go.Src.ofSlice w Lz.t137 ⟨vb,pF,none⟩ m vc vs (by omega) (λj u hj=>by rw[Addr.add_lit];exact hvs j u hj) U9
 have hold:(Builtin.firstCells i0.size n (.slice base n c)).run Tryz.prog w.drew= .ok cs.toArray w.drew:=by
  rw[uA];cases base with
  |none=>
   have h0:=ox rfl;subst h0;rw[List.length_eq_zero_iff.1 IV];exact run_firstCells_none w.drew 1 0 0 c
  |some a=>exact run_firstCells_some w.drew 1 n a n c cs (by omega) (λj v hj=>yB a rfl j v hj)
 have jL: ∀ty,(Builtin.append_ #[137,137] ty #[.slice base n c, .slice (some ⟨vb,pF,none⟩) m vc]).run Tryz.prog w=_:=λty=>
  run_append_grow_src w 137 137 ty 143 i0 _ Lz.t137 QN Rt base n c cs hold _ m vs Yy pT (by omega) (by rw[hzb];exact growslice_fits pT Fx)
 go_enter Tryz.func266,Tryz.ntmps266
 cases base with
 |none=>
  have h0:=ox rfl;subst h0;go_wp2_with (at_builtin;refine Lib.wpList_append_run _ rfl _ _ _ _ rfl _ _ rfl rfl _ _ (jL _) ?_)
  go_ret
  exact⟨rfl,rfl⟩
 |some a=>
  obtain⟨ab,ao,asp⟩:=a;go_wp2_with (at_builtin;refine Lib.wpList_append_run _ rfl _ _ _ _ rfl _ _ rfl rfl _ _ (jL _) ?_)
  all_goals (go_ret;exact⟨rfl,rfl⟩)
set_option maxHeartbeats 4000000 in
set_option maxRecDepth 100000 in
theorem R9 (b off n c i vb pF m vc:Nat)(cs vs:List Value)(w:World)(hi:i<n)(hm:0<m)(WV:n<=c)(pT:c<n+m)(Fx:(n+m)*8<=140737488355328)
  (IV:cs.length=n) (U8:vs.length=m)
  (yB: ∀j v,cs[j]?=some v->w.cell? ⟨b,off+j,none⟩=some v)
  (hvs: ∀j v,vs[j]?=some v->w.cell? ⟨vb,pF+j,none⟩=some v) (h1c: ∀v∈cs,v.oneCell'=true) (U9: ∀v∈vs,v.oneCell'=true):
  Calls Tryz.prog 266 #[.slice (some ⟨b,off,none⟩) n c, .int .i64 i, .slice (some ⟨vb,pF,none⟩) m vc] w λe w'=>
   e= .returned (.slice (some ⟨w.heap.size,0,none⟩) (n+m) (grownCap w (n+m) c 143))/\
   w'=(((w.alloc (.cells ((cs.take i).toArray++Builtin.zeroCells (Value.pointer none).cells (n+m-i)++Builtin.zeroCells (Value.pointer none).cells (grownCap w (n+m) c 143-(n+m))) 143)).drew.setCells w.heap.size i vs).drew).setCells w.heap.size (i+m) (cs.drop i):=by
 have t0:=Lz.t0;have a0:=Lz.a0;have z0:=Lz.z0;have v0:=Lz.v0;have t3:=Lz.t3;have a3:=Lz.a3;have z3:=Lz.z3;have v3:=Lz.v3;have t4:=Lz.t4;have a4:=Lz.a4;have z4:=Lz.z4;have v4:=Lz.v4;have t143:=Lz.t143;have JI:=Lz.JI;have H5:=Lz.H5;have JJ:=Lz.JJ;have t137:=Lz.t137;have JK:=Lz.JK;have JL:=Lz.JL;have JM:=Lz.JM;have u0:=run_underlying Lz.t0;have u3:=run_underlying Lz.t3;have u4:=run_underlying Lz.t4;have Yw:=run_underlying Lz.t143;have Yx:=run_underlying Lz.t137;have mixed:=mixed;obtain⟨i0,QN,Rt,uA,hzb⟩:=info_parts Lz.i143;have Yv: ¬((m:Int)=0):=by omega
 have hz2: ¬((i:Int)=(n:Int)):=by omega
 have hz3:(c:Int)<(n:Int)+(m:Int):=by omega
 have hsz:(Tryz.prog.info? 143).map (·.size)=some 1:=by rw[QN];simp[uA]
 have hbw:b<w.heap.size:=block_lt_of_cell (yB 0 _ (zdS (by omega)))
 have hvw:vb<w.heap.size:=block_lt_of_cell (hvs 0 _ (zdS (by omega)))
 have Yz:(n:Int)+(m:Int)-(i:Int)=((n+m-i:Nat):Int):=by omega
 have hik:i+(n+m-i)=n+m:=by omega
 have hold:(Builtin.firstCells i0.size i (.slice (some ⟨b,off,none⟩) i c)).run Tryz.prog w.drew= .ok (cs.take i).toArray w.drew:=by
  rw[uA];exact run_firstCells_some w.drew 1 i ⟨b,off,none⟩ i c (cs.take i) (by rw[zeh];omega) (λj v hj=>by
   rw[Addr.add_lit];rw[zej] at hj;split at hj
   ·exact yB j v hj
   ·cases hj)
 have hrz: ∀ty,(Builtin.append_ #[137,3] ty #[.slice (some ⟨b,off,none⟩) i c, .int .i64 ((n:Int)+(m:Int)-(i:Int))]).run Tryz.prog w=
   .ok (.slice (some ⟨w.heap.size,0,none⟩) (n+m) (grownCap w (n+m) c 143)) (w.drew.alloc (.cells ((cs.take i).toArray++Builtin.zeroCells (Value.pointer none).cells (n+m-i)++Builtin.zeroCells (Value.pointer none).cells (grownCap w (n+m) c 143-(n+m))) 143)):=λty=>by
  have h:=Lib.run_append_grow_zeros w 137 3 ty 143 i0 _ .i64 .i64 Lz.t137 Lz.t3 QN Rt (some ⟨b,off,none⟩) i c (cs.take i) hold (n+m-i) (by omega) (by omega) (by omega) (by omega) (by rw[hzb];omega) (by rw[hzb,hik];exact growslice_fits pT Fx)
  rw[hik] at h;rw[Yz];exact h
 obtain⟨G,hG⟩: ∃G,G=grownCap w (n+m) c 143:=⟨_,rfl⟩;obtain⟨NQ,YA⟩: ∃NQ:Array Value,NQ=(cs.take i).toArray++Builtin.zeroCells (Value.pointer none).cells (n+m-i)++Builtin.zeroCells (Value.pointer none).cells (G-(n+m)):=⟨_,rfl⟩;rw[<-hG] at hrz⊢;rw[<-YA] at hrz⊢;have hRl:n+m<=NQ.size:=by
  rw[YA];simp[Builtin.zeroCells,Value.cells];omega
 obtain⟨W1,QO⟩: ∃W1,W1=w.drew.alloc (.cells NQ 143):=⟨_,rfl⟩;rw[<-QO] at hrz;have hN: ∀j,j<n+m->(W1.cell? ⟨w.heap.size,j,none⟩).isSome=true:=λj hj=>by
  rw[QO,World.cell?_alloc_at (w:=w.drew) NQ _ w.heap.size j rfl,zev (by omega)];rfl
 have hNf: ∀j,W1.frozen? ⟨w.heap.size,j,none⟩=false:=λj=>by rw[QO];exact World.frozen?_alloc_at (w:=w.drew) NQ _ w.heap.size j rfl
 have hOb: ∀j v,w.cell? ⟨b,j,none⟩=some v->W1.cell? ⟨b,j,none⟩=some v:=λj v h=>by rw[QO,World.cell?_alloc_past (w:=w.drew) _ b j hbw];exact h
 have hOv: ∀j v,w.cell? ⟨vb,j,none⟩=some v->W1.cell? ⟨vb,j,none⟩=some v:=λj v h=>by rw[QO,World.cell?_alloc_past (w:=w.drew) _ vb j hvw];exact h
 have zcn: ∀(W:World),(∀x,W.cell? x=W1.cell? x)->(∀x,W.frozen? x=W1.frozen? x)->∀ty dc,(Builtin.copy_ #[137,137] ty #[.slice (some ⟨w.heap.size,i,none⟩) (n+m-i) dc, .slice (some ⟨vb,pF,none⟩) m vc]).run Tryz.prog W= .ok (goInt vs.length) (W.setCells w.heap.size i vs):=λW Xm hWf ty dc=>
  run_copy_cells W _ _ ty 143 w.heap.size i (n+m-i) dc ⟨vb,pF,none⟩ m vc vs Lz.t137 hsz (by rw[U8];simp only[Nat.min_def];split<;>omega)
   (λj v hj=>by rw[Addr.add_lit,Xm];exact hOv _ v (hvs j v hj))
   (λj hj=>by rw[Xm];exact hN _ (by omega)) (λj hj=>by rw[hWf];exact hNf _) U9
 have hGn:n+m<=G:=by rw[hG];exact grownCap_ge w _ _ _
 have zdH:G<=9223372036854775807:=by
  have:=grownCap_le_maxLen w (n+m) c 143 (by unfold maxLen;omega)
  rw[<-hG] at this;unfold maxLen at this;omega
 have hGi: ¬(G=i):=by omega
 have zdI: ¬(G=i+m):=by omega
 have hci: ¬(c=i):=by omega
 have hbN:b≠w.heap.size:=by omega
 have hdl:(cs.drop i).length=n-i:=by rw[zei,IV]
 have zaL: ∀(W:World),(∀x,W.cell? x=(W1.setCells w.heap.size i vs).cell? x)->(∀x,W.frozen? x=(W1.setCells w.heap.size i vs).frozen? x)->∀ty dc sc,(Builtin.copy_ #[137,137] ty #[.slice (some ⟨w.heap.size,i+m,none⟩) (n+m-(i+m)) dc, .slice (some ⟨b,off+i,none⟩) (n-i) sc]).run Tryz.prog W= .ok (goInt (cs.drop i).length) (W.setCells w.heap.size (i+m) (cs.drop i)):=λW Xm hWf ty dc sc=>
  run_copy_cells W _ _ ty 143 w.heap.size (i+m) (n+m-(i+m)) dc ⟨b,off+i,none⟩ (n-i) sc (cs.drop i) Lz.t137 hsz (by rw[hdl];simp only[Nat.min_def];split<;>omega)
   (λj v hj=>by
    rw[Addr.add_lit,Xm,World.cell?_setCells_out _ _ _ _ _ (λh _=>absurd h hbN),zd8];exact hOb _ v (yB (i+j) v (by rwa [zek] at hj)))
   (λj hj=>by rw[Xm];exact isSome_setCells _ _ _ _ (λt ht=>hN _ (by omega)) _ (hN _ (by omega)))
   (λj hj=>by rw[hWf,World.frozen?_setCells];exact hNf _) (λv hv=>h1c v (zfh hv))
 subst QO;have hE1: ∀x,((w.alloc (.cells NQ 143)).drew).cell? x=(w.drew.alloc (.cells NQ 143)).cell? x:=λx=>rfl;have hE2: ∀x,((w.alloc (.cells NQ 143)).drew).frozen? x=(w.drew.alloc (.cells NQ 143)).frozen? x:=λx=>rfl;have hF1: ∀x,(((w.alloc (.cells NQ 143)).drew.setCells w.heap.size i vs).drew).cell? x=((w.drew.alloc (.cells NQ 143)).setCells w.heap.size i vs).cell? x:=λx=>rfl;have hF2: ∀x,(((w.alloc (.cells NQ 143)).drew.setCells w.heap.size i vs).drew).frozen? x=((w.drew.alloc (.cells NQ 143)).setCells w.heap.size i vs).frozen? x:=λx=>rfl;have hw1:IntKind.i64.wrap ((i:Int)+(m:Int))=(i:Int)+(m:Int):=by rw[IntKind.wrap_i64];omega
 have hb1:(0:Int)<=(i:Int)+(m:Int):=by omega
 have yk:i<=n:=by omega
 have htn:((i:Int)+(m:Int)).toNat=i+m:=by omega
 have hb3:(i:Int)<=(n:Int):=by omega
 clear Yz hik hold YA hG hRl;go_enter Tryz.func266,Tryz.ntmps266
 go_wp2_with (first
  |(at_builtin;refine Lib.wpList_append_run _ rfl _ _ _ _ rfl _ _ rfl rfl _ _ (hrz _) ?_)
  |(at_builtin;refine wpList_copy_runI _ rfl _ _ 137 137 rfl _ _ rfl rfl (zcn _ hE1 hE2 _ _) ?_)
  |(at_builtin;refine wpList_copy_runI _ rfl _ _ 137 137 rfl _ _ rfl rfl (zaL _ (λ_=>rfl) (λ_=>rfl) _ _ _) ?_))
 go_region_law_o (refine step_copy_runI rfl _ _ 137 137 rfl (.slice (some ⟨w.heap.size,i+m,none⟩) (n+m-(i+m)) (G-(i+m))) (.slice (some ⟨b,off+i,none⟩) (n-i) (c-i)) (by simp[Act.eval,Act.put]) (by simp[Act.eval,Act.put]) (zaL _ hF1 hF2 3 (G-(i+m)) (c-i)) ?_)
 go_wp2
 go_ret
 exact⟨rfl,rfl⟩
end AM
namespace AM
open Go Go.Proofs
variable {base:Nat}{N:Names}{D:Nat->Prop}{w:World}{h:Nat->Option fO}
theorem Ei {g:Nat}(S:jX N D w base h){q:Nat}{xs:List Nat}(ho:h q=some (.row false (.ref g) xs)){v:Value}(hv:cw N D w (.tail q 0) v):
  (xs=[]/\∃b,v= .slice b 0 0)\/∃nm a cap C ty fz,N q=some nm/\nm.base=some a/\a.spot=none/\v= .slice (some a) xs.length cap/\xs.length<=cap/\0<cap/\cap<=nm.cap/\nm.len=xs.length/\w.heap[a.block]?=some (.cells C ty fz)/\a.off+nm.cap<=C.size/\(fz=(0,0)\/C.size<=fz.1/\Ty.ref g= .int .u8)/\base<=a.block/\¬D a.block/\eg N D w (.ref g) xs (aZ w a):=by
 unfold cw at hv;simp only[AV.isAgg,jz,aq] at hv;obtain⟨nm,g1,g2,g3,g4,g5⟩:=hv;obtain⟨mG,i1,i2,i3,i4,i5,i6⟩:=S.obj q _ ho;rw[g1] at i1;cases i1;have hl:nm.len=xs.length:=i4;cases hb:nm.base with
 |none=>
  rw[hb] at g5;obtain⟨g5,g6⟩:=g5;simp only[zdT] at g6;exact .inl ⟨zem (by omega),none,g6⟩
 |some a=>
  rw[hb] at g5 i6;obtain⟨v',cap,g6,g7,a',sA,rfl,g8,rfl,g9⟩:=g5;simp only[zdT] at g6;subst g6;obtain⟨j1,⟨C,Ld,fz,j2,j3,j4⟩,j5,j6⟩:=i6;replace j4:=j4 rfl
  simp only[zdU,if_false] at j5;simp only[Nat.sub_zero] at*;by_cases h0:sA=0
  ·subst h0
   have:xs.length=0:=by omega
   exact .inl ⟨zem this,some a',by rw[hl,this]⟩
  ·rcases g9 with rfl|g9
   ·refine .inr ⟨nm,a,sA,C,Ld,fz,g1,hb,j1,?_,by omega,by omega,by omega,hl,j2,by simpa [Ty.size] using j3,j4,j5.1,j5.2,j6⟩
    rw[hl];obtain⟨ab,ao,asp⟩:=a;simp only at j1;subst j1;simp[Addr.at_]
   ·exact absurd g9 h0
end AM
namespace AM
open Go Go.Proofs
variable {base:Nat}
def u9 (base:Nat)(N:Names)(D:Nat->Prop)(w:World)(h:Nat->Option fO)(v:Value)(i:Nat)(x:Value)(h':Nat->Option fO)(u:AV):Prop:=
 ∃N' D' w' v',Calls Tryz.prog 266 #[v, .int .i64 i,x] w (λe Ub=>e= .returned v'/\Ub=w')/\Ext N D w h N' D' w' h'/\jX N' D' w' base h'/\cw N' D' w' u v'
section
variable {N:Names}{D:Nat->Prop}{w:World}{h:Nat->Option fO}{te:Ty}
theorem u9.after {N':Names}{D':Nat->Prop}{h' WT:Nat->Option fO}{v x:Value}{u:AV}{i:Nat}(a:u9 base N' D' w h' v i x WT u)(y:Ext N D w h N' D' w h'):u9 base N D w h v i x WT u:=by
 obtain⟨N2,D2,w2,v2,h1,h2,h3,h4⟩:=a;exact⟨N2,D2,w2,v2,h1,y.trans h2,h3,h4⟩
theorem GA (S:jX N D w base h){id q:Nat}{xs zs:List te.den}(ho:h q=some (.row false te xs))(gX:kq h q .dead id=none){nm:Nm}{a:Addr}{C:Array Value}{ty:TypeId}{fz:Nat×Nat}{cap:Nat}(g1:N q=some nm)(hb:nm.base=some a)
  (Fe:a.spot=none) (hc:cap<=nm.cap) (hh:w.heap[a.block]?=some (.cells C ty fz)) (hs:a.off+nm.cap*te.size<=C.size) (hz:fz=(0,0)\/C.size<=fz.1/\te= .int .u8) (hba:base<=a.block) (hD: ¬D a.block) {w':World} (Re:w'.os=w.os) (htp:w'.tape=w.tape) (jv:w'.output=w.output) (hsz:w'.heap.size=w.heap.size)
  (mK: ∀b,b≠a.block->w'.heap[b]?=w.heap[b]?) {C':Array Value} (KI:w'.heap[a.block]?=some (.cells C' ty fz)) (hC:C'.size=C.size) (hl:aQ (β:=te.den) zs<=cap) {g:Nat->Option Value} (hr:eg N D w te zs g) (hg: ∀j,j<aQ (β:=te.den) zs*te.size->g j=aZ w' a j):
  ∃N',Ext N D w h N' D w' (kq (kq h q .dead) id (.row false te zs))/\jX N' D w' base (kq (kq h q .dead) id (.row false te zs))/\cw N' D w' (.tail id 0) (.slice (some a) (aQ (β:=te.den) zs) cap):=by
 have hDw: ∀b,D b->w'.heap[b]?=w.heap[b]?:=λb vl=>mK b (λe=>hD (e▸vl));obtain⟨N',n1,n2,n3⟩:=S.move (id:=id) (mG:=⟨some a,sr te,true,aQ (β:=te.den) zs,cap⟩) (a':=a) (o':= .row false te zs) ho rfl g1 hb gX rfl rfl Re htp jv hsz mK (by
  refine⟨_,Names.BT,rfl,rfl,rfl,hl,?_⟩;show _/\_/\_/\_
  refine⟨Fe,⟨C',ty,fz,KI,?_,λ_=>by rw[hC];exact hz⟩,by simp only[zdU,if_false];exact⟨hba,hD⟩,?_⟩
  ·rw[hC]
   have:=zd6 te.size hc;show a.off+cap*te.size<=C.size
   omega
  ·exact(hr.Nu ((S.kill q).1.Rm gX _) (λ_ h=>h) hDw).congr hg)
 refine⟨N',n3,n2,?_⟩;unfold cw;simp only[AV.isAgg,jz,aq];refine⟨_,n1,rfl,zeU _,hl,?_⟩;show∃v room,_
 refine⟨_,cap,rfl,by simp,a,cap,by simp,by simpa using hl,rfl,?_⟩
 left
 obtain⟨ab,ao,asp⟩:=a;simp only at Fe;subst Fe;simp[Addr.at_]
theorem NR (S:jX N D w base h){id:Nat}{zs:List te.den}(gX:h id=none){w':World}(Re:w'.os=w.os)(htp:w'.tape=w.tape)(jv:w'.output=w.output)(hsz:w.heap.size<w'.heap.size)(mK: ∀b,b<w.heap.size->w'.heap[b]?=w.heap[b]?){C':Array Value}{ty:TypeId}{cap:Nat}
  (KI:w'.heap[w.heap.size]?=some (.cells C' ty (0,0))) (hC:cap*te.size<=C'.size) (hl:aQ (β:=te.den) zs<=cap) {g:Nat->Option Value} (hr:eg N D w te zs g) (hg: ∀j,j<aQ (β:=te.den) zs*te.size->g j=aZ w' ⟨w.heap.size,0,none⟩ j):
  ∃N',Ext N D w h N' D w' (kq h id (.row false te zs))/\jX N' D w' base (kq h id (.row false te zs))/\cw N' D w' (.tail id 0) (.slice (some ⟨w.heap.size,0,none⟩) (aQ (β:=te.den) zs) cap):=by
 let nm:Nm:=⟨some ⟨w.heap.size,0,none⟩,sr te,true,aQ (β:=te.den) zs,cap⟩
 obtain⟨N',n1,n2,n3⟩:=S.make (w':=w') (o:= .row false te zs) (nm:=nm) gX Re htp jv (by omega) mK (λa ha=>by cases ha;exact⟨zd9 _,hsz⟩) (by
  refine⟨nm,Names.BT,rfl,rfl,rfl,hl,?_⟩;show _/\_/\_/\_
  refine⟨rfl,⟨C',ty,(0,0),KI,by simpa [nm] using hC,λ_=> .inl rfl⟩,?_,?_⟩
  ·simp only[zdU,if_false]
   exact⟨S.size,λhd=>Nat.lt_irrefl _ (S.frozen _ hd)⟩
  ·exact(hr.Nu (S.Rm gX nm) (λ_ h=>h) (λb hb=>mK b (S.frozen b hb))).congr hg)
 refine⟨N',n3,n2,?_⟩;unfold cw;simp only[AV.isAgg,jz,aq];refine⟨_,n1,rfl,zeU _,hl,?_⟩;show∃v room,_
 refine⟨_,cap,rfl,by simp[nm],⟨w.heap.size,0,none⟩,cap,by simp[nm],by simpa using hl,rfl,?_⟩
 left
 simp[Addr.at_]
end
section
variable {N:Names}{D:Nat->Prop}{w:World}{h:Nat->Option fO}{g:Nat}
theorem H8 {α:Type}{cs vs:List α}{i:Nat}(hi:i<=cs.length)(j:Nat):(cs.take i++(vs++cs.drop i))[j]?=if j<i then cs[j]? else if j<i+vs.length then vs[j-i]? else cs[j-vs.length]?:=by
 have hl:(cs.take i).length=i:=by rw[zeh];omega
 by_cases h1:j<i
 ·rw[if_pos h1,zeD (by omega),zej,if_pos h1]
 ·rw[if_neg h1,zeE (by omega),hl]
  by_cases h2:j<i+vs.length
  ·rw[if_pos h2,zeD (by omega)]
  ·rw[if_neg h2,zeE (by omega),zek]
   congr 1;omega
theorem NT {xs ys:List (Ty.ref g).den}{cs vs:List Value}{i:Nat}(hi:i<=cs.length)(hc:cs.length=aQ (β:=(Ty.ref g).den) xs)(hr:eg N D w (.ref g) xs (cs[·]?))(hv:vs.length=aQ (β:=(Ty.ref g).den) ys)(hs:eg N D w (.ref g) ys (vs[·]?)):
  eg N D w (.ref g) (xs.take i++(ys++xs.drop i):List (Ty.ref g).den) ((cs.take i++(vs++cs.drop i))[·]?):=by
 have h1:(Ty.ref g).size=1:=rfl;have hl:aQ (β:=(Ty.ref g).den) (xs.take i)=i:=by simp only[aQ,zeh];simp only[aQ] at hc;omega
 refine eg.rk ((hr.take i).congr λj hj=>?_) (by rw[hl,h1,zeh];omega) (eg.rk hs (by rw[hv,h1];omega) ?_)
 ·rw[hl,h1,zeV] at hj
  rw[zej,if_pos hj]
 ·refine(hr.drop i).congr λj hj=>?_
  rw[h1,zeV,zek]
theorem Cf (S:jX N D w base h){id:Nat}(gX:h id=none){b:Option Addr}{n m cap vb pF vc:Nat}{cs vs:List Value}{zs:List (Ty.ref g).den}(hm:0<m)(WV:n<=cap)(pT:cap<n+m)(Fx:(n+m)*8<=140737488355328)(IV:cs.length=n)(U8:vs.length=m)(ox:b=none->n=0)
  (yB: ∀a,b=some a->∀j v,cs[j]?=some v->w.cell? (a.add j)=some v) (hvs: ∀j v,vs[j]?=some v->w.cell? ⟨vb,pF+j,none⟩=some v) (U9: ∀v∈vs,v.oneCell'=true) (zb:aQ (β:=(Ty.ref g).den) zs=n+m) (mI:eg N D w (.ref g) zs ((cs++vs)[·]?)):
  u9 base N D w h (.slice b n cap) n (.slice (some ⟨vb,pF,none⟩) m vc) (kq h id (.row false (.ref g) zs)) (.tail id 0):=by
 have h1:(Ty.ref g).size=1:=rfl;have jL:=H7 b n cap vb pF m vc cs vs w hm WV pT Fx IV U8 ox yB hvs U9;have sB:=grownCap_ge w (n+m) cap 143;generalize hG:grownCap w (n+m) cap 143=G at*;generalize hR:((cs++vs).toArray++Builtin.zeroCells (Value.pointer none).cells (G-(n+m)))=R at*;have hRs:R.size=G:=by
  rw[<-hR];simp[size_zeroCells,Value.cells];omega
 have hR1: ∀j,j<n+m->R[j]?=(cs++vs)[j]?:=λj hj=>by
  rw[<-hR,Array.getElem?_append_left (by simp;omega)]
  simp
 have hW0:(w.drew.alloc (.cells R 143)).heap[w.heap.size]?=some (.cells R 143 (0,0)):=by show(w.heap.push _)[_]?=_;simp
 obtain⟨N',n1,n2,n3⟩:=NR (id:=id) (te:= .ref g) (zs:=zs) S gX (w':=w.drew.alloc (.cells R 143)) rfl rfl rfl
  (by show w.heap.size<(w.heap.push _).size;simp) (λc hc=>by show(w.heap.push _)[c]?=_;rw[zey,if_neg (by omega)]) hW0 (cap:=G) (by rw[h1,hRs];omega) (by rw[zb];exact sB) mI (λj hj=>by
  rw[zb,h1,zeV] at hj;rw[<-hR1 j hj];unfold aZ World.cell?;simp only;rw[hW0];simp)
 rw[zb] at n3;exact⟨N',D,_,_,jL,n1,n2,n3⟩
set_option maxHeartbeats 4000000 in
theorem Va (S:jX N D w base h){id q q2 i:Nat}{xs ys:List (Ty.ref g).den}(ho:h q=some (.row false (.ref g) xs))(ho2:h q2=some (.row false (.ref g) ys))(lV:q≠q2)(gX:kq h q .dead id=none)(hi:i<=aQ (β:=(Ty.ref g).den) xs)(hy:0<aQ (β:=(Ty.ref g).den) ys)
  (QM:(aQ (β:=(Ty.ref g).den) xs+aQ (β:=(Ty.ref g).den) ys)*8<=70368744177664) {v x:Value} (hv:cw N D w (.tail q 0) v) (hx:cw N D w (.tail q2 0) x):
  u9 base N D w h v i x (kq (kq h q .dead) id (.row false (.ref g) (xs.take i++(ys++xs.drop i):List (Ty.ref g).den))) (.tail id 0):=by
 have h1:(Ty.ref g).size=1:=rfl;obtain⟨kS,kE⟩:=S.kill q;have zb:aQ (β:=(Ty.ref g).den) (xs.take i++(ys++xs.drop i))=aQ (β:=(Ty.ref g).den) xs+aQ (β:=(Ty.ref g).den) ys:=by simp only[aQ,zdW,zeh,zei];simp only[aQ] at hi;omega
 rcases Ei S ho2 hx with⟨e,_⟩|⟨WU,⟨vb,pF,vsp⟩,vc,C2,QP,fz2,a1,a2,a3,a4,a5,a6,a7,a8,a9,qG,sO,ue,xZ,xj⟩
 ·exact absurd (show aQ (β:=(Ty.ref g).den) ys=0 by rw[e];rfl) (by omega)
 simp only at a3;subst a3;obtain⟨vs,v1,v2,v3,v4⟩:=xj.cells;rw[h1,zeV] at v1;have hvs: ∀j u,vs[j]?=some u->w.cell? ⟨vb,pF+j,none⟩=some u:=v2;subst a4;change u9 base N D w h v i (.slice (some ⟨vb,pF,none⟩) (aQ (β:=(Ty.ref g).den) ys) vc) _ _;rcases Ei S ho hv with⟨e,b,rfl⟩|⟨nm,⟨b,off,sp⟩,cap,C,ty,fz,b1,b2,b3,b4,b5,b6,b7,b8,b9,b10,b11,b12,b13,b14⟩
 ·have Hn:aQ (β:=(Ty.ref g).den) xs=0:=by rw[e];rfl
  have QN:i=0:=by omega
  subst QN;refine u9.after (Cf (cs:=[]) (vs:=vs) kS gX hy (zd9 _) (by omega) (by omega) rfl v1 (λ_=>rfl) (λa ha j v hj=>by simp at hj) hvs v4 (by rw[zb,Hn]) ?_) kE
  have e0:([]:List Value)++vs=([]:List Value).take 0++(vs++([]:List Value).drop 0):=by simp
  rw[e0];exact NT (cs:=[]) (i:=0) (zeU _) Hn.symm (by rw[e];exact eg.nil) v1 v3
 simp only at b3;subst b3;subst b4;obtain⟨cs,c1,c2,c3,c4⟩:=b14.cells;rw[h1,zeV] at c1;have yB: ∀j u,cs[j]?=some u->w.cell? ⟨b,off+j,none⟩=some u:=c2;have hic:i<=cs.length:=by rw[c1];exact hi
 have mI:=NT (i:=i) hic c1 c3 v1 v3;change aQ (β:=(Ty.ref g).den) xs<=cap at b5;change u9 base N D w h (.slice (some ⟨b,off,none⟩) (aQ (β:=(Ty.ref g).den) xs) cap) i (.slice (some ⟨vb,pF,none⟩) (aQ (β:=(Ty.ref g).den) ys) vc) _ _;have zaM:off+nm.cap<=C.size:=b10;generalize hn:aQ (β:=(Ty.ref g).den) xs=n at*;generalize hm:aQ (β:=(Ty.ref g).den) ys=m at*;simp only at b7 b9 b10 b11 b12 b13;have hdl:(cs.take i++(vs++cs.drop i)).length=n+m:=by simp only[zdW,zeh,zei];omega
 have hold: ∀j,j<n->w.cell? ⟨b,off+j,none⟩=cs[j]?:=λj hj=>by rw[zdS (by omega)];exact yB j _ (zdS (by omega))
 by_cases pT:n+m<=cap
 ·have U6:n+m<=9223372036854775807:=by omega
  have hvb:vb≠b:=λe=>by
   subst e;exact lV (S.apart q q2 _ _ vb ho ho2 ⟨nm,_,b1,b2,rfl⟩ ⟨WU,_,a1,a2,rfl⟩)
  have hfz:fz=(0,0):=by
   rcases b11 with e|⟨_,e⟩
   ·exact e
   ·cases e
  have zaN:fz2=(0,0):=by
   rcases sO with e|⟨_,e⟩
   ·exact e
   ·cases e
  have Xn: ∀j,j<n+m->(w.cell? ⟨b,off+j,none⟩).isSome=true:=λj hj=>iZ b9 (by omega)
  have zaO: ∀j,j<n+m->w.frozen? ⟨b,off+j,none⟩=false:=λj hj=>wb b9 (.inl hfz) (by omega)
  by_cases yk:i<n
  ·have jL:=PC b off n cap i vb pF m vc cs vs w yk hy pT U6 hvb c1 v1 yB Xn zaO hvs c4 v4 QP ty C2.size C.size (by unfold World.shape?;rw[a9]) (by unfold World.shape?;rw[b9]) (by omega) (by unfold World.frozen?;rw[a9,zaN];simp) (by unfold World.frozen?;rw[a9,zaN];simp)
   obtain⟨C',f1,f2⟩:=jg b (cs.drop i) (off+(i+m)) w.drew C ty fz b9;obtain⟨C'',f3,f4⟩:=jg b vs (off+i) (w.drew.setCells b (off+(i+m)) (cs.drop i)) C' ty fz f1;obtain⟨o1,o2,o3⟩:=kX b (cs.drop i) (off+(i+m)) w.drew;obtain⟨o4,o5,o6⟩:=kX b vs (off+i) (w.drew.setCells b (off+(i+m)) (cs.drop i));obtain⟨N',n1,n2,n3⟩:=GA (id:=id) S ho gX b1 b2 rfl b7 b9 (by rw[h1,zeV];exact zaM) b11 b12 b13 (o4.trans o1) (o5.trans o2) (o6.trans o3) ((jF ..).trans (jF ..)) (λc hc=>(kD _ _ _ _ c hc).trans (kD _ _ _ _ c hc)) f3 (f4.trans f2) (zs:=(xs.take i++(ys++xs.drop i):List (Ty.ref g).den)) (by rw[zb];exact pT) mI (λj hj=>by
    rw[zb,h1,zeV] at hj;rw[H8 hic,v1];unfold aZ;simp only;by_cases j1:j<i
    ·rw[if_pos j1,World.cell?_setCells_out _ _ _ _ _ (λ_ _=>by simp only;omega),World.cell?_setCells_out _ _ _ _ _ (λ_ _=>by simp only;omega)]
     exact(hold j (by omega)).symm
    ·rw[if_neg j1]
     by_cases j2:j<i+m
     ·rw[if_pos j2]
      have:=World.cell?_setCells_in b vs (off+i) (w.drew.setCells b (off+(i+m)) (cs.drop i)) (λk hk=>iZ f1 (by omega)) (j-i) (by omega)
      rw[show off+i+(j-i)=off+j by omega] at this
      rw[this,zdS (by omega)]
     ·rw[if_neg j2,World.cell?_setCells_out _ _ _ _ _ (λ_ _=>by simp only;omega)]
      have zco:(cs.drop i).length=n-i:=by rw[zei,c1]
      have:=World.cell?_setCells_in b (cs.drop i) (off+(i+m)) w.drew (λk hk=>iZ b9 (by omega)) (j-(i+m)) (by omega)
      rw[show off+(i+m)+(j-(i+m))=off+j by omega] at this
      rw[this,List.getElem_drop,zdS (by omega)]
      congr 2;omega)
   rw[zb] at n3;exact⟨N',D,_,_,jL,n1,n2,n3⟩
  ·have YB:i=n:=by omega
   subst YB;have jL:=H6 b off i cap vb pF m vc vs w hy pT U6 v1 (λj hj=>by rw[zd8];exact Xn _ (by omega)) (λj hj=>by rw[zd8];exact zaO _ (by omega)) hvs v4
   obtain⟨C',f1,f2⟩:=jg b vs (off+i) w C ty fz b9;obtain⟨o1,o2,o3⟩:=kX b vs (off+i) w;obtain⟨N',n1,n2,n3⟩:=GA (id:=id) S ho gX b1 b2 rfl b7 b9 (by rw[h1,zeV];exact zaM) b11 b12 b13 o1 o2 o3 (jF ..) (λc hc=>kD _ _ _ _ c hc) f1 f2 (zs:=(xs.take i++(ys++xs.drop i):List (Ty.ref g).den)) (by rw[zb];exact pT) mI (λj hj=>by
    rw[zb,h1,zeV] at hj;rw[H8 hic,v1];unfold aZ;simp only;by_cases j1:j<i
    ·rw[if_pos j1,World.cell?_setCells_out _ _ _ _ _ (λ_ _=>by simp only;omega)]
     exact(hold j (by omega)).symm
    ·rw[if_neg j1,if_pos (by omega)]
     have:=World.cell?_setCells_in b vs (off+i) w (λk hk=>iZ b9 (by omega)) (j-i) (by omega)
     rw[show off+i+(j-i)=off+j by omega] at this
     rw[this,zdS (by omega)])
   rw[zb] at n3;exact⟨N',D,_,_,jL,n1,n2,n3⟩
 ·by_cases yk:i<n
  ·have jL:=R9 b off n cap i vb pF m vc cs vs w yk hy b5 (by omega) (by omega) c1 v1 yB hvs c4 v4
   have sB:=grownCap_ge w (n+m) cap 143;generalize hG:grownCap w (n+m) cap 143=G at*;generalize hR:((cs.take i).toArray++Builtin.zeroCells (Value.pointer none).cells (n+m-i)++Builtin.zeroCells (Value.pointer none).cells (G-(n+m)))=R at*;have hRs:R.size=G:=by
    rw[<-hR];simp[size_zeroCells,Value.cells];omega
   have hR1: ∀j,j<i->R[j]?=cs[j]?:=λj hj=>by
    rw[<-hR,Array.append_assoc,Array.getElem?_append_left (by simp;omega)]
    simp[zej,hj]
   have hW0:(w.alloc (.cells R 143)).drew.heap[w.heap.size]?=some (.cells R 143 (0,0)):=by show(w.heap.push _)[_]?=_;simp
   obtain⟨C',f1,f2⟩:=jg w.heap.size vs i (w.alloc (.cells R 143)).drew R 143 (0,0) hW0;have f1':((w.alloc (.cells R 143)).drew.setCells w.heap.size i vs).drew.heap[w.heap.size]?=some (.cells C' 143 (0,0)):=f1;obtain⟨C'',f3,f4⟩:=jg w.heap.size (cs.drop i) (i+m) ((w.alloc (.cells R 143)).drew.setCells w.heap.size i vs).drew C' 143 (0,0) f1';obtain⟨o1,o2,o3⟩:=kX w.heap.size vs i (w.alloc (.cells R 143)).drew;obtain⟨o4,o5,o6⟩:=kX w.heap.size (cs.drop i) (i+m) ((w.alloc (.cells R 143)).drew.setCells w.heap.size i vs).drew;have s1:=jF w.heap.size vs i (w.alloc (.cells R 143)).drew;have s2:=jF w.heap.size (cs.drop i) (i+m) ((w.alloc (.cells R 143)).drew.setCells w.heap.size i vs).drew;have s0:(w.alloc (.cells R 143)).drew.heap.size=w.heap.size+1:=by show(w.heap.push _).size=_;simp
   obtain⟨N',n1,n2,n3⟩:=NR (id:=id) (te:= .ref g) (zs:=(xs.take i++(ys++xs.drop i):List (Ty.ref g).den)) kS gX (w':=((w.alloc (.cells R 143)).drew.setCells w.heap.size i vs).drew.setCells w.heap.size (i+m) (cs.drop i)) (o4.trans o1) (o5.trans o2) (o6.trans o3)
    (by rw[s2];show _<((w.alloc (.cells R 143)).drew.setCells w.heap.size i vs).heap.size;rw[s1,s0];omega)
    (λc hc=>(kD _ _ _ _ c (by omega)).trans ((kD w.heap.size vs i (w.alloc (.cells R 143)).drew c (by omega)).trans (by show(w.heap.push _)[c]?=_;rw[zey,if_neg (by omega)]))) f3 (cap:=G) (by rw[h1,f4,f2,hRs];omega) (by rw[zb];exact sB) mI (λj hj=>by
    rw[zb,h1,zeV] at hj;rw[H8 hic,v1];unfold aZ;simp only[zeC];by_cases j1:j<i
    ·rw[if_pos j1,World.cell?_setCells_out _ _ _ _ _ (λ_ _=>by simp only;omega)]
     show _=((w.alloc (.cells R 143)).drew.setCells w.heap.size i vs).cell? _
     rw[World.cell?_setCells_out _ _ _ _ _ (λ_ _=>by simp only;omega)]
     rw[<-hR1 j j1];unfold World.cell?;simp only;rw[hW0];simp
    ·rw[if_neg j1]
     by_cases j2:j<i+m
     ·rw[if_pos j2,World.cell?_setCells_out _ _ _ _ _ (λ_ _=>by simp only;omega)]
      show _=((w.alloc (.cells R 143)).drew.setCells w.heap.size i vs).cell? _
      have:=World.cell?_setCells_in w.heap.size vs i (w.alloc (.cells R 143)).drew (λk hk=>iZ hW0 (by omega)) (j-i) (by omega)
      rw[show i+(j-i)=j by omega] at this
      rw[this,zdS (by omega)]
     ·rw[if_neg j2]
      have zco:(cs.drop i).length=n-i:=by rw[zei,c1]
      have:=World.cell?_setCells_in w.heap.size (cs.drop i) (i+m) ((w.alloc (.cells R 143)).drew.setCells w.heap.size i vs).drew (λk hk=>iZ f1' (by omega)) (j-(i+m)) (by omega)
      rw[show(i+m)+(j-(i+m))=j by omega] at this
      rw[this,List.getElem_drop,zdS (by omega)]
      congr 2;omega)
   rw[zb] at n3;exact u9.after ⟨N',D,_,_,jL,n1,n2,n3⟩ kE
  ·have YB:i=n:=by omega
   subst YB;refine u9.after (Cf (cs:=cs) (vs:=vs) kS gX hy b5 (by omega) (by omega) c1 v1 (λe=>by cases e) (λa ha j u hj=>by cases ha;rw[Addr.add_lit];exact yB j u hj) hvs v4 zb ?_) kE
   have e1:cs.take i++(vs++cs.drop i)=cs++vs:=by rw[zen (by omega),zfi (by omega),zfe]
   rw[<-e1];exact mI
end
end AM
namespace AM
open Go Go.Proofs
def zj (g:Nat)(ep:List (Nat×aK)):jw:=⟨[(0, .own 0),(1, .hole (.int .i64)),(2, .own 1)],[(0, .row (.ref g)),(1, .row (.ref g)),(SB+g, .store ep)]⟩
def NU (g:Nat)(ep:List (Nat×aK)):jw:=⟨[(0, .own 50)],[(50, .row (.ref g)),(SB+g, .store ep)]⟩
def Xo (g:Nat)(ep:List (Nat×aK))(d:cT (zj g ep).heap)(zs:List (Ty.ref g).den):St:=
 {t:=λy=>if y=0 then .tail 50 0 else .undef,h:=kq (kq (mR (λc=>c) (zj g ep).heap d (λ_=>none)) 0 .dead) 50 (.row false (.ref g) zs),ep:=0,nt:=0}
noncomputable def zaP {β:Type}(d:(Unit×Int×Unit×Unit)×(List Nat×List Nat×β×Unit)):Option ((Unit×Unit)×(List Nat×β×Unit)):=bif aa (0<=d.1.2.1/\d.1.2.1<=(d.2.1.length:Int)/\0<d.2.2.1.length/\(((d.2.1.length+d.2.2.1.length:Nat):Int)*8<=room)) then some (((),()),((d.2.1.take d.1.2.1.toNat++(d.2.2.1++d.2.1.drop d.1.2.1.toNat)),d.2.2.2.1,())) else none
theorem Vb (base:Nat)(g:Nat)(ep:List (Nat×aK))(mh:al.ok ⟨zj g ep,[NU g ep],true⟩=true)
  (hm: ∀(d:cT (zj g ep).heap) (zs:List (Ty.ref g).den),Ds (Xo g ep d zs) (BO (zj g ep)) [NU g ep] some=some (((),()),(zs,d.2.2.1,()))):
  ru Tryz.prog base 266 ⟨zj g ep,[NU g ep],true⟩ (zaP (β:=List (cT ep))):=by
 refine⟨⟨_,Tryz.func266,by kernel_rfl,by kernel_rfl⟩,fun(d:(Unit×Int×Unit×Unit)×(List Nat×List Nat×List (cT ep)×Unit)) r hF N D w lN S hl ha=>?_⟩
 obtain⟨⟨u0,i',u2,u3⟩,xs,ys,st,u4⟩:=d;unfold zaP at hF;simp only at hF;cases hc:aa (0<=i'/\i'<=(xs.length:Int)/\0<ys.length/\(((xs.length+ys.length:Nat):Int)*8<=room)) with
 |false=>rw[hc] at hF;cases hF
 |true=>
 rw[hc] at hF;simp only[zdO] at hF;cases hF;obtain⟨h1,h2,h3,h4⟩:=kR.1 hc;have hlen:lN.length=3:=hl;obtain⟨v,iv,x,rfl⟩: ∃v iv x,lN=[v,iv,x]:=by
  match lN,hlen with
  | [v,iv,x],_=>exact⟨v,iv,x,rfl⟩
 have a0:cw N D w (.tail 0 0) v:=ha 0;have a1:cw N D w (.val (.int .i64 i')) iv:=ha 1;have a2:cw N D w (.tail 1 0) x:=ha 2;rw[ek] at a1;subst a1;obtain⟨i,hi⟩: ∃i:Nat,i'=(i:Int):=⟨i'.toNat,by omega⟩
 have hi2:i'.toNat=i:=by omega
 obtain⟨N',D',w',v',q1,q2,q3,q4⟩:=Va (g:=g) S (id:=50) (q:=0) (q2:=1) (i:=i) (xs:=xs) (ys:=ys) rfl rfl (by decide) (by simp[kq,mR,zj,SB];omega) (by show i<=xs.length;omega) h3 (by show(xs.length+ys.length)*8<=_;unfold room at h4;omega) a0 a2
 have hm2:=hm (xs,ys,st,u4) (xs.take i++(ys++xs.drop i):List (Ty.ref g).den);obtain⟨y,hy,JB⟩:=zf _ _ _ hm2 λe he=>(al.Gq mh he).1.closed;cases hy;rw[hi];refine Calls.mono q1 ?_;rintro e Ub ⟨rfl,rfl⟩
 show wR _ _ _
 rw[show((i:Nat):Int).toNat=i by omega]
 refine uc _ _ (λe n d' tq ht=>?_) JB;obtain⟨Ne,De,post,D7⟩:=yq (al.xX mh).st (d:=(xs,ys,st,u4)) (s:=Xo g ep (xs,ys,st,u4) (xs.take i++(ys++xs.drop i):List (Ty.ref g).den)) S q3 q2 rfl ht;refine⟨Ne,De,post,?_⟩;have he:e=NU g ep:=by simpa using tq
 subst he;have:=D7 0 v' q4;exact this
end AM
