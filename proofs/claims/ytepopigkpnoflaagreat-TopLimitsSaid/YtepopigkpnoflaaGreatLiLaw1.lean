/- The engine and the venue, in plain Lean: what the printed functions keep. Conditions: none. -/
import Derived.Test.YtepopigkpnoflaaGreatLiPrn2
set_option linter.unusedVariables false
set_option linter.unusedSimpArgs false
set_option maxRecDepth 100000
namespace AM
open Go Go.Proofs IntKind
theorem oT (p:Prop)(h:p:=by omega):af p=true:=ot h
theorem oF (p:Prop)(h: ¬p:=by omega):af p=false:=bc h
theorem xo (p:Prop){i:Decidable p}: @W.af WX p i=af p:=(@kM p i).symm
theorem xw (k:IntKind)(n:Int):WX.wr k n=k.wrap n:=by
 have h:WX.wr k n=wr k n:=(pP k n).symm;rw[h,pP]
theorem xl {L R:Type}(b:L->Option (L⊕R))(l:L):WX.ag b l=ag b l:=Et _ b l
theorem vP (a b:Int):WX.tp a b=min a b:=by
 show(bif decide (b<a) then b else a)=_
 by_cases h:b<a
 ·rw[decide_eq_true h,zdA];omega
 ·rw[decide_eq_false h,zdz];omega
theorem QD (a b:Int):WX.imax a b=max a b:=by
 show(bif decide (b>a) then b else a)=_
 by_cases h:b>a
 ·rw[decide_eq_true h,zdA];omega
 ·rw[decide_eq_false h,zdz];omega
theorem nO {n:Int}(h0: -9223372036854775808<=n)(h1:n<=9223372036854775807):IntKind.wrap .i64 n=n:=by rw[IntKind.wrap_i64];omega
theorem au {α:Type}(k:Nat)(f:Nat->Option α):nC (k+1) f=f k:=rfl
structure V where
 c:List OG
 cfg:xe
 now:Int
 ph:Jl
 mp:List Nat
 bp:List Nat
 lp:List Nat
 tr:List oX
 op:List (List Int)
 ps:List (List Int)
 lg:Jm
 mt:List MD
 M:List uF
 L:List tz
 S:List Aw
 F:List xn
 O:List Bt
 B:List vM
abbrev VT:=((Unit×(List OG)×Unit×Unit×Unit)×(xe×Int×Unit×Jl×(List Nat)×Unit×(List Nat)×(List Nat)×Unit)×((List oX)×Unit)×((List (List Int))×(List (List Int))×Unit)×Jm×((List MD)×Unit)×(List uF)×(List tz)×(List Aw)×(List xn)×(List Bt)×(List vM)×Unit)
abbrev ST:=((xe×Int×Unit×Jl×(List Nat)×Unit×(List Nat)×(List Nat)×Unit)×((List oX)×Unit)×((List (List Int))×(List (List Int))×Unit)×(List uF)×(List tz)×(List vM)×Unit)
def V.e (v:V):VT:=(((),v.c,(),(),()),(v.cfg,v.now,(),v.ph,v.mp,(),v.bp,v.lp,()),(v.tr,()),(v.op,v.ps,()),v.lg,(v.mt,()),v.M,v.L,v.S,v.F,v.O,v.B,())
def V.s (v:V):ST:=((v.cfg,v.now,(),v.ph,v.mp,(),v.bp,v.lp,()),(v.tr,()),(v.op,v.ps,()),v.M,v.L,v.B,())
abbrev gL:List Int:=List.replicate 32 (0:Int)
abbrev C0:mU:=(0,0,0,0,0,0,0,0,0,0,0,0,0,0,gL,())
theorem aJ {β:Type}{l:List β}{n:Nat}{x:β}(h:l[n]?=some x):l.set n x=l:=by
 apply List.ext_getElem?;intro j;rw[ze8];split
 ·rename_i e;subst e
  have:=(List.getElem?_eq_some_iff.1 h).1;rw[if_pos this,h]
 ·rfl
structure nv (v:V)(i f o:Nat)(s:xv)(fr ou:(List Int)×Bool×Unit):Prop where
 lt:i<16
 c:v.c[i]?=some (i+1,f+1,o+1,())
 S:v.S[i]?=some (s,())
 F:v.F[f]?=some (fr,())
 O:v.O[o]?=some (ou,())
section
variable {v:V}{i f o:Nat}{s:xv}{fr ou:(List Int)×Bool×Unit}
theorem lu (h:i<16):0<=(i:Int)/\(i:Int)<(16:Nat):=by omega
theorem Tf (h:nv v i f o s fr ou):gd WX (((),(i:Int),()),v.e)=some ((s.1,()),v.e):=by
 have hl:=h.lt;simp only[gd,gb,V.e,↓xo,oT ((i:Int)>=0),oT ((i:Int)<16),ot (lu hl),zdA,zdy,zdC,zdz,zdB,h.c,au,h.S,ai,aJ h.S]
def Fit (v:V):Prop:= ∀i,i<16->∃f o s fr ou,nv v i f o s fr ou/\(s.1≠0->ou.2.1=false)
theorem Tg (h:Fit v):eX WX (((),()),v.e)=some (((-1),()),v.e):=by
 have key: ∀n i:Nat,i+n=16->ag (bU WX) ((v.c,(i:Int),()),v.S,v.F,v.O,())=some (.inr ((),v.S,v.F,v.O,())):=by
  intro n;induction n with
  |zero=>
   intro i hi;rw[aw];simp only[bU,↓xo,oF ((i:Int)<16),zdz]
  |succ n ih=>
   intro i hi;obtain⟨f,o,s,fr,ou,hc,hf⟩:=h i (by omega)
   rw[aw];have e1:i64.wrap ((i:Int)+1)=((i+1:Nat):Int):=by rw[nO (by omega) (by omega)];omega
   by_cases h0:s.1=0
   ·simp only[bU,↓xo,xw,oT ((i:Int)<16),ot (lu hc.lt),zdA,zdy,zdB,hc.c,au,hc.S,ai,ot h0,zdC,zdz,aJ hc.S,e1]
    exact ih (i+1) (by omega)
   ·simp only[bU,↓xo,xw,oT ((i:Int)<16),ot (lu hc.lt),zdA,zdy,zdB,hc.c,au,hc.S,ai,bc h0,zdD,aJ hc.S,e1,hc.O,jI,hf h0,zdz,aJ hc.O]
    exact ih (i+1) (by omega)
 have:=key 16 0 (by omega)
 simp only[eX,V.e,xl];change ag (bU WX) ((v.c,0,()),v.S,v.F,v.O,())=_ at this;simp only[this,zdy]
theorem QE (h:Fit v):bZ WX (((),()),v.e)=some ((),v.e):=by
 have h1:=Tg h;have h2:ag (cQ WX) (((),(-1),()),v.e)=some ((),v.e):=by
  rw[aw];simp only[cQ,↓xo,oF ((-1:Int)>=0),zdz]
 simp only[bZ,h1,zdy,xl,h2]
end
theorem lD {i n:Nat}(h:i<n)(hn:n<=1000000):IntKind.wrap .i64 ((i:Int)+1)=((i+1:Nat):Int):=by rw[nO (by omega) (by omega)];omega
theorem GX {L:List (List Int)}{i:Nat}{x:List Int}(h:L[i]?=some x):(L.take (i+1)).flatten=(L.take i).flatten++x:=by
 have hi:i<L.length:=(List.getElem?_eq_some_iff.1 h).1;rw[ze9,h];simp
theorem OM {L:List (List Int)}(i:Nat):(L.take i).flatten.length<=L.flatten.length:=by
 conv=>rhs;rw[<-zeT i L,List.flatten_append,zdI]
 omega
theorem GY (L:List (List Int))(h:L.flatten.length<=1000000000000)(hn:L.length<=1000000):ag (bN WX) ((L,0,L,(L.length:Int),0,()),())=some ((L,(L.flatten.length:Int),()),()):=by
 have key: ∀m i:Nat,i+m=L.length->ag (bN WX) ((L,((L.take i).flatten.length:Int),L,(L.length:Int),(i:Int),()),())=some ((L,(L.flatten.length:Int),()),()):=by
  intro m;induction m with
  |zero=>
   intro i hi;rw[aw];have:i=L.length:=by omega
   subst this;simp only[bN,↓xo,oF ((L.length:Int)<(L.length:Int)),zdz,zeS]
  |succ m ih=>
   intro i hi;have nb:i<L.length:=by omega
   have hx:=zdE nb;generalize L[i]=x at hx;have hf:=GX hx;have hle:=OM (L:=L) (i+1);rw[hf,zdI] at hle;rw[aw];have e1:IntKind.wrap .i64 (((L.take i).flatten.length:Int)+(x.length:Int))=((L.take (i+1)).flatten.length:Int):=by
    rw[nO (by omega) (by omega),hf,zdI];omega
   simp only[bN,↓xo,xw,oT ((i:Int)<(L.length:Int)),oT ((0:Int)<=(i:Int)),zdA,zdB,hx,zdy,e1,oF (((L.take (i+1)).flatten.length:Int)<0),zdz,lD nb hn];exact ih (i+1) (by omega)
 exact key L.length 0 (by omega)
theorem M5 (L:List (List Int))(hn:L.length<=1000000):ag (bB WX) ((0,L,(L.length:Int),0,()),(List.replicate L.flatten.length (0:Int),()))=some ((L.flatten.length,()),(L.flatten,())):=by
 have key: ∀m i:Nat,i+m=L.length->ag (bB WX) (((L.take i).flatten.length,L,(L.length:Int),(i:Int),()),((L.take i).flatten++List.replicate (L.flatten.length-(L.take i).flatten.length) (0:Int),()))=some ((L.flatten.length,()),(L.flatten,())):=by
  intro m;induction m with
  |zero=>
   intro i hi;rw[aw];have:i=L.length:=by omega
   subst this;simp only[bB,↓xo,oF ((L.length:Int)<(L.length:Int)),zdz,zeS,Nat.sub_self,zeP,ze2]
  |succ m ih=>
   intro i hi;have nb:i<L.length:=by omega
   have hx:=zdE nb;generalize L[i]=x at hx;have hf:=GX hx;have hle:=OM (L:=L) (i+1);rw[hf,zdI] at hle;rw[aw];have e2:((L.take i).flatten++List.replicate (L.flatten.length-(L.take i).flatten.length) (0:Int)).take (0+(L.take i).flatten.length)++x++((L.take i).flatten++List.replicate (L.flatten.length-(L.take i).flatten.length) (0:Int)).drop (0+(L.take i).flatten.length+x.length)=(L.take (i+1)).flatten++List.replicate (L.flatten.length-(L.take (i+1)).flatten.length) (0:Int):=by
    rw[zep,List.take_left,List.drop_append,ze7 (by omega),zeA,List.drop_replicate,hf,zdI]
    congr 2
    omega
   simp only[bB,↓xo,xw,oT ((i:Int)<(L.length:Int)),oT ((0:Int)<=(i:Int)),zdA,zdB,hx,zdy,
    ot (show 0+(L.take i).flatten.length+x.length<=((L.take i).flatten++List.replicate (L.flatten.length-(L.take i).flatten.length) (0:Int)).length by rw[zdI,zet];omega),e2,lD nb hn]
   have:=ih (i+1) (by omega)
   rw[hf,zdI] at this⊢;exact this
 have:=key L.length 0 (by omega)
 simpa using this
theorem Kq (L:List (List Int))(hf:L.flatten=[])(hn:L.length<=1000000):ag (bw WX) (((),L,(L.length:Int),0,()),(([]:List Int),()))=some (((),()),([],())):=by
 have key: ∀m i:Nat,i+m=L.length->ag (bw WX) (((),L,(L.length:Int),(i:Int),()),(([]:List Int),()))=some (((),()),([],())):=by
  intro m;induction m with
  |zero=>
   intro i hi;rw[aw];have:i=L.length:=by omega
   subst this;simp only[bw,↓xo,oF ((L.length:Int)<(L.length:Int)),zdz]
  |succ m ih=>
   intro i hi;have nb:i<L.length:=by omega
   have hx:=zdE nb;have hm:=zeO nb;have h0:L[i]=[]:=List.flatten_eq_nil_iff.1 hf _ hm;rw[h0] at hx;rw[aw];simp only[bw,↓xo,xw,oT ((i:Int)<(L.length:Int)),oT ((0:Int)<=(i:Int)),zdA,zdB,hx,zdy,ze2,zdK,lD nb hn,
    ot (show(((0+0:Nat):Int))*((1:Nat):Int)<=((room:Nat):Int) by unfold room;omega)]
   exact ih (i+1) (by omega)
 exact key L.length 0 (by omega)
theorem concat_nil (L:List (List Int))(hf:L.flatten=[])(hn:L.length<=1000000):az WX ((L,()),())=some (.inr (((),()),([],()))):=by
 have h3:=GY L (by rw[hf];simp) hn
 have hb:=Kq L hf hn;rw[hf] at h3;change _=some ((L,0,()),()) at h3;have hg:fa WX (((),0,()),())=some (.inr (((),()),[],())):=by kernel_rfl
 simp only[az,xl,h3,zdy,hg,hb]
theorem vQ (L:List (List Int))(hf:L.flatten≠ [])(h:L.flatten.length<=1000000000000)(hn:L.length<=1000000):az WX ((L,()),())=some (.inl ((L.flatten.length,()),(L.flatten,()))):=by
 have h3:=GY L h hn;have hb:=M5 L hn;have hp:0<L.flatten.length:=List.length_pos_iff.2 hf;generalize hN:L.flatten.length=n at*;have e0:IntKind.wrap .i64 ((n:Int)-IntKind.wrap .i64 (0-0))=(n:Int):=by
  rw[nO (n:=0-0) (by omega) (by omega),nO (by omega) (by omega)];omega
 simp only[az,xl,h3,zdy,fa,↓xo,xw,e0,oF ((n:Int)<0),zdz,oT ((n:Int)>0),zdA,zdK,zfa,zeA,zet,zdB,and_self,iL];have e1:af ((0:Int)=0/\(0:Int)=0)=true:=ot (by decide)
 have e2:af ((0:Int)<=(n:Int)/\(0+(n:Int))*((1:Nat):Int)<=((room:Nat):Int))=true:=ot (by unfold room;omega)
 have e3:af ((0:Int)<=0/\(0:Int)<=0/\(0:Int)<=(n:Int))=true:=ot (by omega)
 have e4:((0:Int)-(0:Int)).toNat=0:=rfl;simp only[e1,e2,e3,zdA,zdy,e4,hb]
theorem F8 (L:List (List Int))(h:L.flatten.length<=1000000000000)(hn:L.length<=1000000):az WX ((L,()),())=some (.inr (((),()),([],())))/\L.flatten=[]\/az WX ((L,()),())=some (.inl ((L.flatten.length,()),(L.flatten,()))):=by
 by_cases hf:L.flatten=[]
 ·exact .inl ⟨concat_nil L hf hn,hf⟩
 ·exact .inr (vQ L hf h hn)
theorem ED (b:List Int)(h:b.length<=1000000000000):bD WX ((b,()),())=some (((),()),(b,())):=by
 have hr:af ((((([]:List Int).length+b.length:Nat):Int))*((1:Nat):Int)<=((room:Nat):Int))=true:=ot (by unfold room;simp only[zdK];omega)
 by_cases h0:b=[]
 ·subst h0
  show some (((),()),([],()))=_
  rfl
 ·have: ¬(b.length:Int)=0:=λe=>h0 (zd8 (by omega))
  simp only[bD,↓xo,bc this,zdz,hr,zdA,zeA]
def Cl:Option (((List Int)×Unit)×Unit)->Bool|some ((l,_),_)=>Nat.beq l.length 32|none=>false
theorem mK (xs:List Int){n:Nat}(h:xs.length=n): ∃f:Nat->Int,xs=(List.range n).map f:=by
 refine⟨λi=>xs.getD i 0,?_⟩;apply List.ext_getElem?;intro i;by_cases hi:i<n
 ·have hx:i<xs.length:=by omega
  simp[hi,zdE hx]
 ·rw[List.getElem?_eq_none (by omega),List.getElem?_eq_none (by simp;omega)]
theorem EE {r:Option (((List Int)×Unit)×Unit)}(h:Cl r=true): ∃ys:List Int,r=some ((ys,()),())/\ys.length=32:=by
 match r with
 |none=>cases h
 |some ((l,()),())=>exact⟨l,rfl,zfb h⟩
def vj (t:Int):mU:=(1,0,t,0,0,0,0,0,0,0,0,0,0,0,gL,())
def su (tag:List Int):mU:=(2,0,0,0,0,0,0,0,0,0,0,0,0,0,tag,())
theorem IL:((gO WX ((vj 2,()),())).bind λr1=>fY WX (r1.2,()))=some (((),()),([0,2,1,2],())):=by kernel_rfl
theorem IM:((gO WX ((vj 4,()),())).bind λr1=>fY WX (r1.2,()))=some (((),()),([0,2,1,4],())):=by kernel_rfl
theorem Kr:ca WX (((),[0,2,1,2],()),(([],false,()),()))=some (.inr (([[1,2]],()),(([],false,()),()))):=by kernel_rfl
theorem Ks:ca WX (((),[0,2,1,4],()),(([],false,()),()))=some (.inr (([[1,4]],()),(([],false,()),()))):=by kernel_rfl
theorem M6:ff WX (([1,2],()),())=some ((vj 2,true,()),()):=by kernel_rfl
theorem M7:ff WX (([1,4],()),())=some ((vj 4,true,()),()):=by kernel_rfl
theorem M8: ∀f:Nat->Int,((gO WX ((su ((List.range 32).map f),()),())).bind λr1=>fY WX (r1.2,()))=some (((),()),([0,33,2]++(List.range 32).map f,())):=λf=>by kernel_rfl
theorem QF: ∀f:Nat->Int,ca WX (((),[0,33,2]++(List.range 32).map f,()),(([],false,()),()))=some (.inr (([[2]++(List.range 32).map f],()),(([],false,()),()))):=λf=>by kernel_rfl
theorem Th: ∀f:Nat->Int,ff WX (([2]++(List.range 32).map f,()),())=some ((su ((List.range 32).map f),true,()),()):=λf=>by kernel_rfl
theorem M9:(((List.replicate 32 (0:Int)).zip (List.replicate 32 (0:Int))).all λp=>WX.zd (.int .u8) p.1 p.2)=true:=by kernel_rfl
theorem qz (a:Int):WX.ak a a=true:=decide_eq_true rfl
section
variable {v:V}
structure Tr (v:V)(n:Nat)(x:oX):Prop where
 lt:n<32
 tr:v.tr[n]?=some x
 Yb:x.2.2.1≠0
theorem qU {n:Nat}(h:n<32):0<=(n:Int)/\(n:Int)<(32:Nat):=by omega
theorem EF {n:Nat}{x:oX}(h:Tr v n x):bI WX (((),(n:Int),()),((v.tr,()),()))=some ((true,()),((v.tr,()),())):=by
 have hl:=h.lt;simp only[bI,ig,↓xo,oT ((n:Int)>=0),oT ((n:Int)<=31),ot (qU hl),zdA,zdy,zdB,h.tr,bc h.Yb,zdD]
theorem BC {n:Nat}{x:oX}(h:Tr v n x):bC WX (((),(n:Int),()),((v.tr,()),()))=some ((x,()),((v.tr,()),())):=by
 simp only[bC,EF h,zdy,zdC,zdz,↓xo,ot (qU h.lt),zdA,zdB,h.tr]
structure Lk (v:V)(n p:Nat)(k:uA):Prop where
 lt:n<32
 lp:v.lp[n]?=some (p+1)
 L:v.L[p]?=some (k,())
def oD (k:uA)(now:Int):Bool:=decide (k.2.2.1>=k.1/\now<k.2.2.2.1)
theorem qK (k:uA)(now:Int):fw WX (((),now,()),(k,()))=some ((oD k now,()),(k,())):=by
 unfold oD;by_cases h:k.2.2.1>=k.1
 ·by_cases h2:now<k.2.2.2.1
  ·simp only[fw,↓xo,ot h,zdA,ot h2]
   rw[decide_eq_true ⟨h,h2⟩]
  ·simp only[fw,↓xo,ot h,zdA,bc h2]
   rw[decide_eq_false (λq=>h2 q.2)]
 ·simp only[fw,↓xo,bc h,zdz]
  rw[decide_eq_false (λq=>h q.1)]
theorem GZ {n p:Nat}{k:uA}(h:Lk v n p k):dq WX (((),(n:Int),()),v.s)=some ((oD k v.now,()),v.s):=by
 have hl:=h.lt;simp only[dq,ky,V.s,↓xo,oT ((n:Int)>=0),oT ((n:Int)<32),ot (qU hl),zdA,zdy,zdB,h.lp,au,h.L,qK,aJ h.L]
def failed (k:uA)(now:Int):uA:=if oD k now then k else
 let w:=if k.2.2.1>=k.1 then 1 else i64.wrap (k.2.2.1+1)
 (k.1,k.2.1,w,(if w=k.1 then i64.wrap (now+k.2.1) else k.2.2.2.1),())
theorem QG (k:uA)(now:Int):fx WX (((),now,()),(k,()))=some ((),(failed k now,())):=by
 obtain⟨t,l,w,u,_⟩:=k;have e1:i64.wrap (0+1)=1:=by rw[nO (by omega) (by omega)];rfl
 unfold failed;cases hk:oD (t,l,w,u,()) now with
 |true=>simp only[fx,qK,hk,zdy,zdA,if_true]
 |false=>
  by_cases h:w>=t
  ·by_cases h2:(1:Int)=t
   ·simp only[fx,qK,hk,zdy,zdz,↓xo,xw,ot h,zdA,e1,ot h2,zdG,if_false,if_pos h,if_pos h2]
   ·simp only[fx,qK,hk,zdy,zdz,↓xo,xw,ot h,zdA,e1,bc h2,zdG,if_false,if_pos h,if_neg h2]
  ·by_cases h2:i64.wrap (w+1)=t
   ·simp only[fx,qK,hk,zdy,zdz,↓xo,xw,bc h,zdA,ot h2,zdG,if_false,if_neg h,if_pos h2]
   ·simp only[fx,qK,hk,zdy,zdz,↓xo,xw,bc h,bc h2,zdG,if_false,if_neg h,if_neg h2]
theorem Wj {n:Nat}{x:oX}(h:Tr v n x)(k:Int)(hk:k=3\/k=4\/k=5):dA WX (((),(k,0,(n:Int),C0,()),()),v.s)=some ((true,()),v.s):=by
 have e1: ¬k=1:=by omega
 have e2: ¬k=2:=by omega
 simp only[dA,V.s,↓xo,bc e1,zdz,eq_self,iL,zdC,EF h,zdy,bc e2,oT (k>=1),oT (k<=5),zdA,qz,M9,zeX]
theorem QH (n:Int)(h1:1<=n)(h2:n<=1099511627776-v.now)(h3:0<=v.now)(h4:v.now<=1099511627776):dA WX (((),(1,n,0,C0,()),()),v.s)=some ((true,()),v.s):=by
 have e:i64.wrap (1099511627776-v.now)=1099511627776-v.now:=nO (by omega) (by omega)
 simp only[dA,V.s,↓xo,xw,eq_self,iL,zdA,oT (n>=1),e,ot h2,qz,M9,zeX]
theorem Ti {n p:Nat}{x:oX}{k:uA}(h:Tr v n x)(hk:Lk v n p k)(hn:oD k v.now=false):cd WX (((),(4,0,(n:Int),C0,()),()),v.s)=some (.inl (((),0,()),(v.cfg,v.now,(),v.ph,v.mp,(),v.bp,v.lp,()),(v.tr,()),(v.op,v.ps,()),[],v.M,v.L.set p ((k.1,k.2.1,0,0,()),()),v.B,())):=by
 have hf:=Wj h 4 (.inr (.inl rfl));have hl:=GZ hk;have e1: ¬(4:Int)=1:=by omega
 have e2: ¬(4:Int)=3:=by omega
 simp only[cd,hf,zdy,zdC,zdz,↓xo,bc e1,bc e2,eq_self,iL,zdA,hl,hn,ot (qU h.lt)];simp only[V.s,zdB,hk.lp,zdy,au,hk.L,gr]
theorem Wk (n:Int)(h1:1<=n)(h2:n<=1099511627776-v.now)(h3:0<=v.now)(h4:v.now<=1099511627776):cd WX (((),(1,n,0,C0,()),()),v.s)=some (.inl (((),0,()),(v.cfg,v.now+n,(),v.ph,v.mp,(),v.bp,v.lp,()),(v.tr,()),(v.op,v.ps,()),[],v.M,v.L,v.B,())):=by
 have hf:=QH n h1 h2 h3 h4;have e:i64.wrap (v.now+n)=v.now+n:=nO (by omega) (by omega)
 simp only[cd,hf,zdy,zdC,zdz,↓xo,xw,eq_self,iL,zdA];simp only[V.s,e]
end
theorem ON {k n:Int}(hk:k=3\/k=4\/k=5)(h0:0<=n)(h1:n<32):gv WX (((k,0,n,C0,()),()),())=some ((true,()),()):=by
 have e1: ¬k=1:=by omega
 have e2: ¬k=2:=by omega
 rcases hk with rfl|rfl|rfl
 ·simp only[gv,↓xo,oT (n>=0),bc e1,bc e2,eq_self,iL,ot h1,zdA,zdz,qz,M9,zeX]
 ·have e3: ¬(4:Int)=3:=by omega
  simp only[gv,↓xo,oT (n>=0),bc e1,bc e2,bc e3,eq_self,iL,ot h1,zdA,zdz,qz,M9,zeX]
 ·have e3: ¬(5:Int)=3:=by omega
  have e4: ¬(5:Int)=4:=by omega
  simp only[gv,↓xo,oT (n>=0),bc e1,bc e2,bc e3,bc e4,eq_self,iL,ot h1,zdA,zdz,qz,M9,zeX]
theorem Wl {n:Int}(h0:1<=n)(h1:n<=1099511627776):gv WX (((1,n,0,C0,()),()),())=some ((true,()),()):=by
 have e0:((0:Int)>=0):=by omega
 simp only[gv,↓xo,ot e0,oT (n>0),ot h1,eq_self,iL,zdA,qz,M9,zeX]
theorem Wm (k N n:Int): ∃bs:List Int,hZ WX (((k,N,n,C0,()),()),())=some (((),()),(bs,()))/\bs.length=10:=by
 have h:(match hZ WX (((k,N,n,C0,()),()),()) with|some (_,(bs,_))=>Nat.beq bs.length 10|none=>false)=true:=by kernel_rfl
 revert h;match hZ WX (((k,N,n,C0,()),()),()) with
 |none=>intro h;cases h
 |some (((),()),(bs,()))=>intro h;exact⟨bs,rfl,zfb h⟩
theorem zbU: ∀f g:Nat->Int,Cl (jo WX (((List.range 32).map f,(List.range 10).map g,()),()))=true:=λf g=>by kernel_rfl
theorem Wn {a b:List Int}(ha:a.length=32)(hb:b.length=10): ∃c:List Int,jo WX ((a,b,()),())=some ((c,()),())/\c.length=32:=by
 obtain⟨f,rfl⟩:=mK a ha;obtain⟨g,rfl⟩:=mK b hb;exact EE (zbU f g)
theorem Z0: ∃u:List Int,lr WX (([],WX.wr .u32 10,()),())=some (((),()),(u,()))/\u.length=4:=by
 have h:(match lr WX (([],WX.wr .u32 10,()),()) with|some (_,(bs,_))=>Nat.beq bs.length 4|none=>false)=true:=by kernel_rfl
 revert h;match lr WX (([],WX.wr .u32 10,()),()) with
 |none=>intro h;cases h
 |some (((),()),(bs,()))=>intro h;exact⟨bs,rfl,zfb h⟩
def zb (lg:Jm)(n:Nat):Prop:=lg.1.length=n/\lg.2.1.length=32
theorem IN {lg:Jm}{m:Nat}{k N n:Int}(h:zb lg m)(hm:m<=100000000000)(hr:gv WX (((k,N,n,C0,()),()),())=some ((true,()),())):
  ∃xf,fX WX (((),(k,N,n,C0,()),()),(lg,()))=some ((true,()),(xf,()))/\zb xf (m+46):=by
 obtain⟨b,c,ct,u⟩:=lg;obtain⟨hb,hc⟩:=h;simp only at hb hc;obtain⟨bs,h1,h2⟩:=Wm k N n;obtain⟨c',h3,h4⟩:=Wn hc h2;obtain⟨w,h5,h6⟩:=Z0;have e0:(0:Int)<=0/\(0:Int)<=((32:Nat):Int)/\((32:Nat):Int)<=(32:Nat):=by omega
 have e1:((bs.length:Nat):Int)=10:=by omega
 have e2:(c'.drop 0).take ((((32:Nat):Int)-(0:Int)).toNat)=c':=by
  rw[zfc,zd9];rw[h4];decide
 have hf: [b,w,bs,c'].flatten.length=b.length+46:=by simp;omega
 have hc:=vQ [b,w,bs,c'] (λe=>by rw[e] at hf;simp at hf) (by omega) (by simp)
 simp only[fX,hr,zdy,zdC,zdz,h1,h3,e1,h5,↓xo,ot e0,zdA,e2,hc,zeS];exact⟨_,rfl,by rw[hf];omega,h4⟩
theorem tP {mt:List MD}(h:mt.length=4){i:Nat}(hi:i<4): ∃rC r,aT WX (((),(i:Int),1,()),((mt,()),()))=some ((r,()),((rC,()),()))/\rC.length=4:=by
 have hx:=zdE (l:=mt) (i:=i) (by omega)
 have e1: ¬(1:Int)<0:=by omega
 have e2: ¬(1:Int)>4294967296:=by omega
 simp only[aT,↓xo,oF ((i:Int)<0),oF ((i:Int)>=4),bc e1,bc e2,zdz,oT (0<=(i:Int)/\(i:Int)<(4:Nat)),zdA,zdB,hx,zdy];exact⟨_,_,rfl,by rw[zec];exact h⟩
def NB (n:mi)(bs:List Int):Prop:=(∃x,mR WX ((n,()),())=some (.inl x)/\fY WX (x.2,())=some (((),()),(bs,())))\/(∃x,mR WX ((n,()),())=some (.inr x)/\fY WX x=some (((),()),(bs,())))
noncomputable def nbF (n:mi):Option (List Int):=(mR WX ((n,()),())).bind λr=>match r with| .inl x=>(fY WX (x.2,())).map (·.2.1)| .inr x=>(fY WX x).map (·.2.1)
theorem Cm {n:mi}{k:Nat}(h:((nbF n).map λl=>Nat.beq l.length k)=some true): ∃bs,NB n bs/\bs.length=k:=by
 unfold nbF at h;cases e:mR WX ((n,()),()) with
 |none=>rw[e] at h;cases h
 |some r=>
  rw[e] at h;cases r with
  |inl x=>
   simp only[zdy] at h;cases e2:fY WX (x.2,()) with
   |none=>rw[e2] at h;cases h
   |some y=>
    rw[e2] at h;obtain⟨⟨⟨⟩,⟨⟩⟩,bs,⟨⟩⟩:=y;simp only[zdO,zdF] at h;exact⟨bs, .inl ⟨x,e,e2⟩,zfb h⟩
  |inr x=>
   simp only[zdy] at h;cases e2:fY WX x with
   |none=>rw[e2] at h;cases h
   |some y=>
    rw[e2] at h;obtain⟨⟨⟨⟩,⟨⟩⟩,bs,⟨⟩⟩:=y;simp only[zdO,zdF] at h;exact⟨bs, .inr ⟨x,e,e2⟩,zfb h⟩
theorem AF {nc:List Int}(h:nc.length=32): ∃bs,NB (1,0,0,0,0,0,0,0,0,0,nc,()) bs/\bs.length=35:=by
 obtain⟨f,rfl⟩:=mK nc h;have: ∀f:Nat->Int,((nbF (1,0,0,0,0,0,0,0,0,0,(List.range 32).map f,())).map λl=>Nat.beq l.length 35)=some true:=λf=>by kernel_rfl
 exact Cm (this f)
theorem QJ (er sq:Int): ∃bs,NB (4,er,sq,0,0,0,0,0,0,0,gL,()) bs/\bs.length=8:=Cm (by kernel_rfl)
theorem EG: ∃bs,NB (2,0,0,0,0,0,0,0,0,0,gL,()) bs/\bs.length=3:=Cm (by kernel_rfl)
theorem Z1 (sq:Int): ∃bs,NB (3,0,sq,0,0,0,0,0,0,0,gL,()) bs/\bs.length=7:=Cm (by kernel_rfl)
section
variable {v:V}{i f o:Nat}{s:xv}{fr:(List Int)×Bool×Unit}{ob:List Int}
theorem Wo {bs:List Int}(hp:bs≠ [])(h:ob.length+bs.length<=4096):gy WX (((),bs,()),((ob,false,()),()))=some ((true,()),((ob++bs,false,()),())):=by
 have e:i64.wrap (4096-(ob.length:Int))=4096-(ob.length:Int):=nO (by omega) (by omega)
 have vC: [ob,bs].flatten=ob++bs:=by simp
 have hc:=vQ [ob,bs] (by rw[vC];simp[hp]) (by rw[vC,zdI];omega) (by simp)
 simp only[gy,zdz,↓xo,xw,e,oF ((bs.length:Int)>4096-(ob.length:Int)),hc,zdy,vC,zeS]
theorem Tj (h:nv v i f o s fr (ob,false,())){n:mi}{bs:List Int}(hb:NB n bs)(hp:bs≠ [])(hl:ob.length+bs.length<=4096):
  bX WX (((),(i:Int),n,()),v.e)=some ((),{v with O:=v.O.set o ((ob++bs,false,()),())}.e):=by
 have hpu:=Wo hp hl;rcases hb with⟨x,h1,h2⟩|⟨x,h1,h2⟩
 ·simp only[bX,V.e,↓xo,ot (lu h.lt),zdA,zdB,h.c,zdy,h1,h2,au,h.O,hpu]
 ·simp only[bX,V.e,↓xo,ot (lu h.lt),zdA,zdB,h.c,zdy,h1,h2,au,h.O,hpu]
end
section
variable {v:V}
theorem Tk {r:Iw}{er Z2:Int}{L':List tz}{xf:Jm}{rC:List MD}{b c}
  (h1:cd WX (((),r,()),v.s)=some (.inl (((),er,()),(v.cfg,Z2,(),v.ph,v.mp,(),v.bp,v.lp,()),(v.tr,()),(v.op,v.ps,()),[],v.M,L',v.B,())))
  (h2:fX WX (((),r,()),(v.lg,()))=some (b,(xf,()))) (h3:aT WX (((),1,1,()),((v.mt,()),()))=some (c,((rC,()),()))):
  bQ WX (((),r,()),v.e)=some ((er,()),{v with now:=Z2,L:=L',lg:=xf,mt:=rC}.e):=by
 have hl: ∀X,ag (bR WX) (((),er,[],0,0,()),X)=some ((er,()),X):=λX=>by
  have e0: ¬(0:Int)<0:=by omega
  rw[aw];simp only[bR,↓xo,bc e0,zdz]
 simp only[V.s] at h1;simp only[bQ,V.e,h1,h2,h3,zdy,↓xl,zdK,zfa,hl]
def Tl (v:V)(n:Nat)(x:oX):Prop:= ∀i,i<16->∃f o s fr ou,nv v i f o s fr ou/\(s.1=3->∃(m:Nat) (y:oX),s.2.1=(m:Int)/\m≠n/\Tr v m y/\y.1≠x.1)
theorem Z3 {n p:Nat}{x:oX}{k:uA}(h:Tr v n x)(hk:Lk v n p k)(hl:oD k v.now=false)(nX:x.2.2.2.2.1=false)(ha:Tl v n x)(hq:1<=v.cfg.2.2.2.2.2.2.2.1):eI WX (((),(n:Int),()),v.e)=some ((0,()),v.e):=by
 have h1:=EF h;have h2:=GZ hk;have h3:=BC h;simp only[V.s] at h2;have key: ∀m i:Nat,i+m=16->ag (bx WX) (((),(n:Int),(),0,v.c,(i:Int),()),v.e)=some (.inr (((),0,()),v.e)):=by
  intro m;induction m with
  |zero=>
   intro i hi;rw[aw];simp only[bx,↓xo,oF ((i:Int)<16),zdz]
  |succ m ih=>
   intro i hi;obtain⟨f,o,s,fr,ou,hc,hf⟩:=ha i (by omega)
   rw[aw];have e1:i64.wrap ((i:Int)+1)=((i+1:Nat):Int):=by rw[nO (by omega) (by omega)];omega
   have qR:=ih (i+1) (by omega)
   simp only[V.e] at qR;by_cases h0:s.1=3
   ·obtain⟨m',y,g1,g2,g3,g4⟩:=hf h0
    have e2: ¬s.1=2:=by omega
    have e3: ¬(m':Int)=(n:Int):=by omega
    have h4:=BC g3;simp only[bx,V.e,↓xo,xw,oT ((i:Int)<16),ot (lu hc.lt),zdA,zdy,zdB,hc.c,au,hc.S,ai,ot h0,zdC,zdz,aJ hc.S,e1,aB,bc e2,g1,bc e3,h3,h4,bc g4,qR]
   ·simp only[bx,V.e,↓xo,xw,oT ((i:Int)<16),ot (lu hc.lt),zdA,zdy,zdB,hc.c,au,hc.S,ai,bc h0,zdD,aJ hc.S,e1,qR]
 have Kt:=key 16 0 (by omega)
 simp only[V.e] at Kt;change ag (bx WX) (((),(n:Int),(),0,v.c,0,()),_)=_ at Kt;simp only[eI,V.e,cT,zdy,h1,zdC,zdz,h2,hl,h3,nX,↓xl,Kt,dM,↓xo,oF ((0:Int)>=v.cfg.2.2.2.2.2.2.2.1)]
variable {i f o:Nat}{s:xv}{fr:(List Int)×Bool×Unit}{ou:(List Int)×Bool×Unit}{ob:List Int}
def s0:xv:=(0,0,gL,0,0,())
theorem Z4 (h:nv v i f o s fr ou)(hm:v.mt.length=4):
  ∃rC,bE WX (((),(i:Int),()),v.e)=some ((),{v with c:=v.c.set i (i+1,v.F.length+1,o+1,()),mt:=rC,S:=v.S.set i (s0,()),F:=v.F++ [(([],false,()),())]}.e)/\rC.length=4:=by
 obtain⟨rC,r,h3,h4⟩:=tP hm (i:=3) (by omega)
 change aT WX (((),3,1,()),_)=_ at h3;refine⟨rC,?_,h4⟩;simp only[bE,V.e,↓xo,ot (lu h.lt),zdA,zdB,h.c,zdy,au,h.S,cA,gY,h3,s0]
end
def Tm (key rD tag:List Int):Prop:= ∃r1 r2,nj WX ((key,()),())=some r1/\dO WX (((),rD,()),r1.2)=some r2/\r2.1=(tag,())
noncomputable def zbV (key rD:List Int):Option Bool:=(nj WX ((key,()),())).bind λr1=>(dO WX (((),rD,()),r1.2)).map λr2=>Nat.beq r2.1.1.length 32
theorem zc1: ∀f g:Nat->Int,zbV ((List.range 32).map f) ((List.range 32).map g)=some true:=λf g=>by kernel_rfl
theorem Na {key rD:List Int}(hk:key.length=32)(hn:rD.length=32): ∃tag,Tm key rD tag/\tag.length=32:=by
 obtain⟨f,rfl⟩:=mK key hk;obtain⟨g,rfl⟩:=mK rD hn;have h:=zc1 f g;unfold zbV at h;cases e1:nj WX (((List.range 32).map f,()),()) with
 |none=>rw[e1] at h;cases h
 |some r1=>
  rw[e1,zdy] at h;cases e2:dO WX (((),(List.range 32).map g,()),r1.2) with
  |none=>rw[e2] at h;cases h
  |some r2=>
   rw[e2,zdO,zdF] at h;exact⟨r2.1.1,⟨r1,r2,e1,e2,rfl⟩,zfb h⟩
def bv (x:Int):BitVec 8:=BitVec.ofInt 8 x
theorem wu8 (p:BitVec 8):IntKind.wrap .u8 (p.toNat:Int)=(p.toNat:Int):=by
 have:=p.isLt;rw[IntKind.wrap_u8];omega
theorem Nb (p:BitVec 8):bv (p.toNat:Int)=p:=by
 unfold bv;apply BitVec.eq_of_toNat_eq;have:=p.isLt;rw[BitVec.toNat_ofInt];omega
theorem Tn (x y:Int):WX.pC .u8 x y=(((bv x^^^bv y).toNat:Nat):Int):=wu8 _
theorem zbW (p q:BitVec 8):WX.AU .u8 (p.toNat:Int) (q.toNat:Int)=(((p|||q).toNat:Nat):Int):=by
 show IntKind.wrap .u8 ((((bv (p.toNat:Int))|||(bv (q.toNat:Int))).toNat:Nat):Int)=_
 rw[Nb,Nb,wu8]
theorem zD (a b:List Int)(ha:a.length=32)(hb:b.length=32): ∀n i:Nat,i+n=32->∀acc:BitVec 8,∃CV:BitVec 8,ag (gP WX) (((),(),(acc.toNat:Int),(i:Int),()),a,b,())=some ((((CV.toNat:Nat):Int),()),a,b,())/\(acc≠0#8->CV≠0#8)/\
  (acc=0#8->(∀j,i<=j->a[j]?=b[j]?)->CV=0#8)/\(∀x y,i<32->a[i]?=some x->b[i]?=some y->bv x^^^bv y≠0#8->CV≠0#8):=by
 intro n;induction n with
 |zero=>
  intro i hi acc;refine⟨acc,?_,λh=>h,λh _=>h,λx y h=>by omega⟩
  rw[aw];simp only[gP,↓xo,oF ((i:Int)<32),zdz]
 |succ n ih=>
  intro i hi acc;have hx:=zdE (l:=a) (i:=i) (by omega)
  have hy:=zdE (l:=b) (i:=i) (by omega)
  generalize a[i]=x at hx;generalize b[i]=y at hy;obtain⟨CV,h1,h2,h3,h4⟩:=ih (i+1) (by omega) (acc|||(bv x^^^bv y))
  have e1:i64.wrap ((i:Int)+1)=((i+1:Nat):Int):=by rw[nO (by omega) (by omega)];omega
  refine⟨CV,?_,λh=>h2 λe=>h (BitVec.or_eq_zero_iff.1 e).1,λh hj=>?_,λx' y' _ BX hy' lF=>?_⟩
  ·rw[aw]
   simp only[gP,↓xo,xw,oT ((i:Int)<32),ot (qU (show i<32 by omega)),zdA,zdB,hx,hy,zdy,Tn,zbW,e1]
   exact h1
  ·have:x=y:=by have:=hj i (zdV _);rw[hx,hy] at this;simpa using this
   subst this;rw[h,BitVec.xor_self] at h3;exact h3 (by rfl) λj BZ=>hj j (by omega)
  ·rw[hx] at BX;rw[hy] at hy'
   cases BX;cases hy';exact h2 λe=>lF (BitVec.or_eq_zero_iff.1 e).2
theorem Nd {t:List Int}(h:t.length=32):jR WX ((t,t,()),())=some ((true,()),()):=by
 obtain⟨CV,h1,_,h3,_⟩:=zD t t h h 32 0 (by omega) 0#8
 have:=h3 rfl λ_ _=>rfl;subst this;change ag (gP WX) (((),(),0,0,()),t,t,())=some ((0,()),t,t,()) at h1;simp only[jR,↓xl,h1,zdy,↓xo,eq_self,iL]
theorem Nf {t:List Int}{x:Int}(h:t.length=32)(hx:t[0]?=some x):jR WX ((t.set 0 (WX.pC .u8 x 1),t,()),())=some ((false,()),()):=by
 obtain⟨CV,h1,_,_,h4⟩:=zD (t.set 0 (WX.pC .u8 x 1)) t (by rw[zec];exact h) h 32 0 (by omega) 0#8
 have:=h4 (WX.pC .u8 x 1) x (by omega) (by rw[ze8];simp[h]) hx (by
  rw[Tn,Nb];have:bv 1=1#8:=by decide
  rw[this,BitVec.xor_comm (bv x) 1#8,BitVec.xor_assoc,BitVec.xor_self,BitVec.xor_zero];decide)
 change ag (gP WX) (((),(),0,0,()),_,_,())=_ at h1;have lF: ¬(((CV.toNat:Nat):Int))=0:=λe=>this (BitVec.eq_of_toNat_eq (by
  have:CV.toNat=0:=by omega
  rw[this];rfl))
 simp only[jR,↓xl,h1,zdy,↓xo,bc lF]
theorem pw {l:List Int}(h:l.length=32):(l.drop 0).take ((((32:Nat):Int)-(0:Int)).toNat)=l:=by
 rw[zfc,zd9];rw[h];decide
theorem To {key rD tag F9:List Int}{b:Bool}(hk:key.length=32)(hn:rD.length=32)(hm:Tm key rD tag)(he:jR WX ((F9,tag,()),())=some ((b,()),()))(tr nx sn now:Int):
  dW WX (((),key,F9,now,()),((2,tr,rD,nx,sn,()),()))=some ((b,()),((if b then(3,tr,gL,1,now,()) else s0),())):=by
 obtain⟨r1,r2,h1,h2,h3⟩:=hm;have e0:(0:Int)<=0/\(0:Int)<=((32:Nat):Int)/\((32:Nat):Int)<=(32:Nat):=by omega
 cases b with
 |true=>simp only[dW,↓xo,eq_self,iL,zdC,zdz,ot e0,zdA,pw hk,pw hn,h1,h2,h3,he,zdy,if_true]
 |false=>simp only[dW,↓xo,eq_self,iL,zdC,zdD,zdz,ot e0,zdA,pw hk,pw hn,h1,h2,h3,he,zdy,cA,zdG,if_false,s0]
section
variable {v:V}{i f o:Nat}{s:xv}{fr ou:(List Int)×Bool×Unit}
theorem G0 (h:nv v i f o s fr ou)(hs:s.1≠0){bs x:List Int}{wQ:(List Int)×Bool×Unit}(hf:ca WX (((),bs,()),(fr,()))=some (.inr (([x],()),(wQ,()))))(hm:v.mt.length=4)
  {Q:V->Prop} (hb: ∀rC,rC.length=4->∃v2,cU WX (((),(i:Int),x,()),{v with F:=v.F.set f (wQ,()),mt:=rC}.e)=some ((),v2.e)/\Fit v2/\(∃f2 o2 s2 U7 Wp,nv v2 i f2 o2 s2 U7 Wp/\U7.2.1=false)/\Q v2):
  ∃v2,cK WX (((),(i:Int),bs,()),v.e)=some ((),v2.e)/\Q v2:=by
 obtain⟨rC,r,h3,h4⟩:=tP hm (i:=0) (by omega)
 change aT WX (((),0,1,()),_)=_ at h3;obtain⟨v2,b1,b2,⟨f2,o2,s2,U7,Wp,b3,b4⟩,b5⟩:=hb rC h4;refine⟨v2,?_,b5⟩;have IP:nv {v with F:=v.F.set f (wQ,())} i f o s wQ ou:=⟨h.lt,h.c,h.S,by
  have:=(List.getElem?_eq_some_iff.1 h.F).1;show(v.F.set f (wQ,()))[f]?=_
  rw[ze8];simp[this],h.O⟩
 have hA:=Tf IP;have hS:=QE b2;have e0:(0:Int)<1:=by omega
 have e1:(0:Int)<=0:=by omega
 have e2:i64.wrap (0+1)=1:=by rw[nO (by omega) (by omega)];rfl
 have e3: ¬(1:Int)<1:=by omega
 have e4:([x]:List (List Int))[(0:Int).toNat]?=some x:=rfl;simp only[V.e] at hA b1 hS h3;have hl:ag (bL WX) (((),(i:Int),[x],1,0,()),{v with F:=v.F.set f (wQ,())}.e)=some (((),(i:Int),()),v2.e):=by
  rw[aw];simp only[bL,V.e,↓xo,xw,ot e0,ot e1,zdA,e4,zdy,hA,bc hs,zdz,h3,b1,hS,e2];rw[aw];simp only[bL,↓xo,bc e3,zdz]
 simp only[V.e] at hl;simp only[cK,V.e,↓xo,ot (lu h.lt),zdA,zdB,h.c,zdy,au,h.F,hf,zdJ,zdK,zep,Int.natCast_one,↓xl,hl,b3.c,b3.F,et,b4,zdz,aJ b3.F]
theorem Ku (h:nv v i f o s fr ou)(hs:s.1≠0){bs:List Int}{Q:V->Prop}(hb: ∃v2,cK WX (((),(i:Int),bs,()),v.e)=some ((),v2.e)/\Q v2):
  ∃v2,aI WX (((),(2,(i:Int),0,gL,bs,()),()),v.e)=some ((true,()),v2.e)/\Q v2:=by
 obtain⟨v2,b1,b2⟩:=hb;refine⟨v2,?_,b2⟩;have hl:=h.lt;have e1: ¬(2:Int)=4:=by omega
 have e2: ¬(2:Int)=1:=by omega
 simp only[V.e] at b1;simp only[aI,gb,V.e,↓xo,bc e1,bc e2,zdz,oT ((i:Int)>=0),oT ((i:Int)<16),ot (lu hl),zdA,zdy,zdC,eq_self,iL,zdB,h.c,au,h.S,ai,bc hs,aJ h.S,b1]
theorem EH (h:nv v i f o s fr ou)(hs:s.1=0)(nc:List Int):
  aI WX (((),(1,(i:Int),0,nc,[],()),()),v.e)=some ((true,()),{v with c:=v.c.set i (i+1,v.F.length+1,v.O.length+1,()),S:=v.S.set i ((1,0,nc,0,v.now,()),()),F:=v.F++ [(([],false,()),())],O:=v.O++ [(([],false,()),())]}.e):=by
 have hl:=h.lt;have e1: ¬(1:Int)=4:=by omega
 have hc:i<v.c.length:=(List.getElem?_eq_some_iff.1 h.c).1;have e3:(v.c.set i (i+1,v.F.length+1,o+1,()))[i]?=some (i+1,v.F.length+1,o+1,()):=by rw[ze8];simp[hc]
 simp only[aI,gb,V.e,↓xo,bc e1,zdz,oT ((i:Int)>=0),oT ((i:Int)<16),ot (lu hl),zdA,zdy,zdC,eq_self,iL,zdB,h.c,au,h.S,aZ,dN,ot hs,gY,mq,e3,zfd]
theorem nv.other {j f' o':Nat}{s':xv}{wQ IQ:(List Int)×Bool×Unit}(h:nv v j f' o' s' wQ IQ)(hij:j≠i)(c':Nat×Nat×Nat×Unit)(s2:Aw)(F':List xn):nv {v with c:=v.c.set i c',S:=v.S.set i s2,F:=v.F++F'} j f' o' s' wQ IQ:=by
 refine⟨h.lt,?_,?_,?_,h.O⟩
 ·show(v.c.set i c')[j]?=_
  rw[zee (Ne.symm hij)];exact h.c
 ·show(v.S.set i s2)[j]?=_
  rw[zee (Ne.symm hij)];exact h.S
 ·show(v.F++F')[f']?=_
  rw[zeq (List.getElem?_eq_some_iff.1 h.F).1];exact h.F
end
section
variable {v:V}{i f o:Nat}{s:xv}{fr ou:(List Int)×Bool×Unit}
theorem AG {v':V}(hc:v'.c=v.c)(hS:v'.S=v.S)(hF:v'.F=v.F)(hO:v'.O=v.O)(h:Fit v):Fit v':=λi hi=>by
 obtain⟨f,o,s,fr,ou,h1,h2⟩:=h i hi;exact⟨f,o,s,fr,ou,⟨h1.lt,by rw[hc];exact h1.c,by rw[hS];exact h1.S,by rw[hF];exact h1.F,by rw[hO];exact h1.O⟩,h2⟩
theorem kI {β:Type}{l:List β}{n:Nat}{x y:β}(h:l[n]?=some x):(l.set n y)[n]?=some y:=by
 have:=(List.getElem?_eq_some_iff.1 h).1;rw[ze8];simp[this]
theorem kF {β:Type}{l:List β}{n m:Nat}{y:β}(h:m≠n):(l.set n y)[m]?=l[m]?:=zee (Ne.symm h)
theorem nv.out (h:nv v i f o s fr ou)(IQ:(List Int)×Bool×Unit):nv {v with O:=v.O.set o (IQ,())} i f o s fr IQ:=⟨h.lt,h.c,h.S,h.F,kI h.O⟩
theorem nv.jg (h:nv v i f o s fr ou)(s':xv):nv {v with S:=v.S.set i (s',())} i f o s' fr ou:=⟨h.lt,h.c,kI h.S,h.F,h.O⟩
theorem OO (h:Fit v)(x:List Int)(o:Nat):Fit {v with O:=v.O.set o ((x,false,()),())}:=λj hj=>by
 obtain⟨f,o',s,fr,ou,h1,h2⟩:=h j hj;by_cases e:o'=o
 ·subst e
  exact⟨f,o',s,fr,_,⟨h1.lt,h1.c,h1.S,h1.F,kI h1.O⟩,λ_=>rfl⟩
 ·exact⟨f,o',s,fr,ou,⟨h1.lt,h1.c,h1.S,h1.F,by show(v.O.set o _)[o']?=_;rw[kF e];exact h1.O⟩,h2⟩
theorem G1 (h:Fit v)(x:xn)(f:Nat):Fit {v with F:=v.F.set f x}:=λj hj=>by
 obtain⟨f',o,s,fr,ou,h1,h2⟩:=h j hj;by_cases e:f'=f
 ·subst e
  exact⟨f',o,s,x.1,ou,⟨h1.lt,h1.c,h1.S,kI h1.F,h1.O⟩,h2⟩
 ·exact⟨f',o,s,fr,ou,⟨h1.lt,h1.c,h1.S,by show(v.F.set f _)[f']?=_;rw[kF e];exact h1.F,h1.O⟩,h2⟩
theorem OP (h:Fit v)(hc:nv v i f o s fr ou)(s':xv)(hs:s'.1≠0->ou.2.1=false):Fit {v with S:=v.S.set i (s',())}:=λj hj=>by
 by_cases e:j=i
 ·subst e
  exact⟨f,o,s',fr,ou,hc.jg s',hs⟩
 ·obtain⟨f',o',s2,wQ,IQ,h1,h2⟩:=h j hj
  exact⟨f',o',s2,wQ,IQ,⟨h1.lt,h1.c,by show(v.S.set i _)[j]?=_;rw[kF e];exact h1.S,h1.F,h1.O⟩,h2⟩
theorem Tp (h:Fit v)(hc:nv v i f o s fr ou){F':List xn}{O':List Bt}{f' o':Nat}{wQ IQ:(List Int)×Bool×Unit}{s':xv}(hF:(v.F++F')[f']?=some (wQ,()))(hO:(v.O++O')[o']?=some (IQ,()))(hs:s'.1≠0->IQ.2.1=false):
  Fit {v with c:=v.c.set i (i+1,f'+1,o'+1,()),S:=v.S.set i (s',()),F:=v.F++F',O:=v.O++O'}:=λj hj=>by
 by_cases e:j=i
 ·subst e
  exact⟨f',o',s',wQ,IQ,⟨hc.lt,kI hc.c,kI hc.S,hF,hO⟩,hs⟩
 ·obtain⟨f2,o2,s2,U7,Wp,h1,h2⟩:=h j hj
  refine⟨f2,o2,s2,U7,Wp,⟨h1.lt,?_,?_,?_,?_⟩,h2⟩
  ·show(v.c.set i _)[j]?=_;rw[kF e];exact h1.c
  ·show(v.S.set i _)[j]?=_;rw[kF e];exact h1.S
  ·show(v.F++F')[f2]?=_;rw[zeq (List.getElem?_eq_some_iff.1 h1.F).1];exact h1.F
  ·show(v.O++O')[o2]?=_;rw[zeq (List.getElem?_eq_some_iff.1 h1.O).1];exact h1.O
theorem Wq {ob:List Int}{tr nx sn n:Int}{nc x:List Int}(h:nv v i f o (1,tr,nc,nx,sn,()) fr (ob,false,()))(hn:nc.length=32)(hl:ob.length+35<=4096)(hg:ff WX ((x,()),())=some ((vj n,true,()),())):
  ∃bs,cU WX (((),(i:Int),x,()),v.e)=some ((),{v with S:=v.S.set i ((2,n,nc,nx,v.now,()),()),O:=v.O.set o ((ob++bs,false,()),())}.e)/\bs.length=35:=by
 obtain⟨bs,h1,h2⟩:=AF hn;refine⟨bs,?_,h2⟩;have h3:=Tj (h.jg (2,n,nc,nx,v.now,())) h1 (by intro e;rw[e] at h2;cases h2) (by omega)
 simp only[V.e] at h3;have e1: ¬(2:Int)=1:=by omega
 have hs:=kI (y:=((2,n,nc,nx,v.now,()),())) h.S;have hk:vj n=(1,0,n,0,0,0,0,0,0,0,0,0,0,0,gL,()):=rfl;rw[hk] at hg;simp only[cU,V.e,↓xo,ot (lu h.lt),zdA,zdB,h.c,zdy,hg,zdC,zdz,eq_self,iL,aZ,au,h.S,eD,hs,fc,bc e1,zfd,h3]
theorem Kv {ob:List Int}{nx sn:Int}{n p m:Nat}{nc tag:List Int}{x:oX}{k:uA}(h:nv v i f o (2,(n:Int),nc,nx,sn,()) fr (ob,false,()))(ht:Tr v n x)(hk:Lk v n p k)(hlk:oD k v.now=false)(nX:x.2.2.2.2.1=false)(yJ:x.2.2.2.2.2.1.length=32)(hn:nc.length=32)(ha:Tl v n x)(hq:1<=v.cfg.2.2.2.2.2.2.2.1)
  (Z5:Tm x.2.2.2.2.2.1 nc tag) (Jk:tag.length=32) (hm:v.mt.length=4) (hl:ob.length+8<=4096) (hlg:zb v.lg m) (hmm:m<=100000000000):
  ∃bs rC xf,cH WX (((),(i:Int),tag,()),v.e)=some ((),{v with mt:=rC,S:=v.S.set i ((3,(n:Int),gL,1,v.now,()),()),O:=v.O.set o ((ob++bs,false,()),()),L:=v.L.set p ((k.1,k.2.1,0,0,()),()),lg:=xf}.e)/\rC.length=4/\bs.length=3/\zb xf (m+46):=by
 have lQ:=Z3 ht hk hlk nX ha hq;have U8:=BC ht;have Kw:=To yJ hn Z5 (Nd Jk) (n:Int) nx sn v.now;have hdo:=Ti ht hk hlk;obtain⟨xf,g1,g2⟩:=IN hlg hmm (ON (k:=4) (n:=(n:Int)) (.inr (.inl rfl)) (by omega) (by have:=ht.lt;omega))
 obtain⟨mt1,r1,g3,g4⟩:=tP hm (i:=1) (by omega)
 change aT WX (((),1,1,()),_)=_ at g3;have zbX:=Tk (v:={v with S:=v.S.set i ((3,(n:Int),gL,1,v.now,()),())}) (r:=(4,0,(n:Int),C0,())) hdo g1 g3;obtain⟨bs,h1,h2⟩:=EG;have h3:=Tj (v:={v with S:=v.S.set i ((3,(n:Int),gL,1,v.now,()),()),L:=v.L.set p ((k.1,k.2.1,0,0,()),()),lg:=xf,mt:=mt1}) (i:=i) (f:=f) (o:=o) (s:=(3,(n:Int),gL,1,v.now,())) (fr:=fr) (ob:=ob) ⟨h.lt,h.c,kI h.S,h.F,h.O⟩ h1 (by intro e;rw[e] at h2;cases h2) (by omega)
 refine⟨bs,mt1,xf,?_,g4,h2,g2⟩;simp only[V.e] at lQ h3 zbX;simp only[if_true] at Kw;simp only[cH,V.e,↓xo,ot (lu h.lt),zdA,zdB,h.c,zdy,au,h.S,aB,ai,eq_self,iL,aJ h.S,zdC,zdz,lQ,cT,U8,aZ,Kw,zbX,h3]
end
theorem Kx (j:Int): ∃nc:List Int,gZ WX ((j,()),())=some ((nc,()),())/\nc.length=32:=EE (by kernel_rfl)
structure Q (v:V)(m:Nat):Prop where
 fit:Fit v
 mt:v.mt.length=4
 lg:zb v.lg m
 le:m<=10000000000
 lp: ∀n,n<32->v.lp[n]?=some (n+1)
 Ky:1<=v.cfg.2.2.2.2.2.2.2.1
def OQ (n:Int):Prop:= ∃fb x r,gO WX ((vj n,()),())=some r/\fY WX (r.2,())=some (((),()),(fb,()))/\ca WX (((),fb,()),(([],false,()),()))=some (.inr (([x],()),(([],false,()),())))/\ff WX ((x,()),())=some ((vj n,true,()),())
theorem Z6:OQ 2:=by
 obtain⟨r,h1,h2⟩:=Option.bind_eq_some_iff.1 IL;exact⟨_,_,r,h1,h2,Kr,M6⟩
theorem Z7:OQ 4:=by
 obtain⟨r,h1,h2⟩:=Option.bind_eq_some_iff.1 IM;exact⟨_,_,r,h1,h2,Ks,M7⟩
theorem QK {tag:List Int}(h:tag.length=32): ∃fb x r,gO WX ((su tag,()),())=some r/\fY WX (r.2,())=some (((),()),(fb,()))/\ca WX (((),fb,()),(([],false,()),()))=some (.inr (([x],()),(([],false,()),())))/\ff WX ((x,()),())=some ((su tag,true,()),()):=by
 obtain⟨f,rfl⟩:=mK tag h;obtain⟨r,h1,h2⟩:=Option.bind_eq_some_iff.1 (M8 f);exact⟨_,_,r,h1,h2,QF f,Th f⟩
section
variable {v:V}{i f o:Nat}{s:xv}{fr ou:(List Int)×Bool×Unit}
theorem OR {c:mU}{r:_}{fb:List Int}(h1:gO WX ((c,()),())=some r)(h2:fY WX (r.2,())=some (((),()),(fb,()))){P:V->Prop}(h3: ∃v2,aI WX (((),(2,(i:Int),0,gL,fb,()),()),v.e)=some ((true,()),v2.e)/\P v2):
  ∃v2,dP WX (((),(i:Int),c,()),v.e)=some ((true,()),v2.e)/\P v2:=by
 obtain⟨v2,h4,h5⟩:=h3;exact⟨v2,by simp only[dP,h1,zdy,h2,h4],h5⟩
structure OS (v v2:V)(i:Nat)(n:Int)(nc:List Int):Prop where
 eq: ∃rC ob,v2={v with c:=v.c.set i (i+1,v.F.length+1,v.O.length+1,()),S:=v.S.set i ((2,n,nc,0,v.now,()),()),mt:=rC,F:=v.F++ [(([],false,()),())],O:=v.O++ [((ob,false,()),())]}/\ob.length=35/\nv v2 i v.F.length v.O.length (2,n,nc,0,v.now,()) ([],false,()) (ob,false,())
 fit:Fit v2
 mt:v2.mt.length=4
theorem Dj {β:Type}(l:List β)(a b:β):(l++ [a]).set l.length b=l++ [b]:=by simp
theorem Tq (h:nv v i f o s fr ou)(hs:s.1=0)(hf:Fit v)(hm:v.mt.length=4){n:Int}(hh:OQ n){nc:List Int}(hn:nc.length=32):
  ∃v1 v2:V,aI WX (((),(1,(i:Int),0,nc,[],()),()),v.e)=some ((true,()),v1.e)/\dP WX (((),(i:Int),vj n,()),v1.e)=some ((true,()),v2.e)/\OS v v2 i n nc:=by
 obtain⟨fb,x,r,g1,g2,g3,g4⟩:=hh;have h1:=EH h hs nc;have hF:(v.F++ [((([]:List Int),false,()),())])[v.F.length]?=some (([],false,()),()):=by simp
 have hO:(v.O++ [((([]:List Int),false,()),())])[v.O.length]?=some (([],false,()),()):=by simp
 generalize hv1:({v with c:=v.c.set i (i+1,v.F.length+1,v.O.length+1,()),S:=v.S.set i ((1,0,nc,0,v.now,()),()),F:=v.F++ [(([],false,()),())],O:=v.O++ [(([],false,()),())]}:V)=v1 at h1;have c1:nv v1 i v.F.length v.O.length (1,0,nc,0,v.now,()) ([],false,()) ([],false,()):=by
  subst hv1;exact⟨h.lt,kI h.c,kI h.S,hF,hO⟩
 have f1:Fit v1:=by subst hv1;exact Tp hf h hF hO λ_=>rfl
 have m1:v1.mt.length=4:=by subst hv1;exact hm
 obtain⟨v2,h2,h3⟩:=OR (v:=v1) (i:=i) (P:=λv2=>OS v v2 i n nc) g1 g2 (Ku c1 (show(1:Int)≠0 by omega) (G0 c1 (show(1:Int)≠0 by omega) g3 m1 λrC Ts=>by
  subst hv1;have cb:=(⟨c1.lt,c1.c,c1.S,kI c1.F,c1.O⟩:nv {c:=v.c.set i (i+1,v.F.length+1,v.O.length+1,()),cfg:=v.cfg,now:=v.now,ph:=v.ph,mp:=v.mp,bp:=v.bp,lp:=v.lp,tr:=v.tr,op:=v.op,ps:=v.ps,lg:=v.lg,mt:=rC,M:=v.M,L:=v.L,S:=v.S.set i ((1,0,nc,0,v.now,()),()),F:=(v.F++ [(([],false,()),())]).set v.F.length (([],false,()),()),O:=v.O++ [(([],false,()),())],B:=v.B} i v.F.length v.O.length (1,0,nc,0,v.now,()) ([],false,()) ([],false,()));obtain⟨bs,b1,b2⟩:=Wq cb hn (by simp) g4
  have cb2:=(cb.jg (2,n,nc,0,v.now,())).out ([]++bs,false,());have fb1:=AG (v':={c:=v.c.set i (i+1,v.F.length+1,v.O.length+1,()),cfg:=v.cfg,now:=v.now,ph:=v.ph,mp:=v.mp,bp:=v.bp,lp:=v.lp,tr:=v.tr,op:=v.op,ps:=v.ps,lg:=v.lg,mt:=rC,M:=v.M,L:=v.L,S:=v.S.set i ((1,0,nc,0,v.now,()),()),F:=(v.F++ [(([],false,()),())]).set v.F.length (([],false,()),()),O:=v.O++ [(([],false,()),())],B:=v.B}) (by rfl) (by rfl) (by rfl) (by rfl) (G1 f1 (([],false,()),()) v.F.length)
  have fb2:=OO (OP fb1 cb (2,n,nc,0,v.now,()) λ_=>rfl) ([]++bs) v.O.length;exact⟨_,b1,fb2,⟨v.F.length,v.O.length,_,_,_,cb2,rfl⟩,⟨⟨rC,[]++bs,by rw[zfd,Dj,Dj],by simpa using b2,cb2⟩,fb2,Ts⟩⟩))
 exact⟨v1,v2,h1,h2,h3⟩
end
section
variable {v:V}{i f o:Nat}{s:xv}{fr ou:(List Int)×Bool×Unit}
theorem Ng (h:nv v i f o s fr ou){x tag:List Int}(hg:ff WX ((x,()),())=some ((su tag,true,()),())){v2:V}(ha:cH WX (((),(i:Int),tag,()),v.e)=some ((),v2.e)):
  cU WX (((),(i:Int),x,()),v.e)=some ((),v2.e):=by
 have hk:su tag=(2,0,0,0,0,0,0,0,0,0,0,0,0,0,tag,()):=rfl;rw[hk] at hg;have e1: ¬(2:Int)=1:=by omega
 simp only[V.e] at ha;simp only[cU,V.e,↓xo,ot (lu h.lt),zdA,zdB,h.c,zdy,hg,zdC,zdz,bc e1,eq_self,iL,ha]
structure Z8 (v v3:V)(i:Nat)(sf:xv)(L':List tz)(m':Nat):Prop where
 eq: ∃c' rC F' O' xf,v3={v with c:=c',S:=v.S.set i (sf,()),mt:=rC,F:=F',O:=O',L:=L',lg:=xf}
 ex:sf.1=3->∃rC xf ob,v3={v with c:=v.c.set i (i+1,v.F.length+1,v.O.length+1,()),S:=v.S.set i (sf,()),mt:=rC,F:=v.F++ [(([],false,()),())],O:=v.O++ [((ob,false,()),())],L:=L',lg:=xf}/\ob.length=38
 conn: ∃f o ob,nv v3 i f o sf ([],false,()) (ob,false,())/\ob.length<=50
 q:Q v3 m'
theorem Tt {v2:V}{ob:List Int}{tag:List Int}(ht:tag.length=32)(hc:nv v2 i f o s ([],false,()) (ob,false,()))(hs:s.1≠0)(hm:v2.mt.length=4){P:V->Prop}
  (hb: ∀rC,rC.length=4->nv {v2 with F:=v2.F.set f (([],false,()),()),mt:=rC} i f o s ([],false,()) (ob,false,())->∃v3,cH WX (((),(i:Int),tag,()),{v2 with F:=v2.F.set f (([],false,()),()),mt:=rC}.e)=some ((),v3.e)/\Fit v3/\(∃f2 o2 s2 U7 Wp,nv v3 i f2 o2 s2 U7 Wp/\U7.2.1=false)/\P v3):
  ∃v3,dP WX (((),(i:Int),su tag,()),v2.e)=some ((true,()),v3.e)/\P v3:=by
 obtain⟨fb,x,r,g1,g2,g3,g4⟩:=QK ht;exact OR g1 g2 (Ku hc hs (G0 hc hs g3 hm λrC Ts=>by
  have c1:nv {v2 with F:=v2.F.set f (([],false,()),()),mt:=rC} i f o s ([],false,()) (ob,false,()):=⟨hc.lt,hc.c,hc.S,kI hc.F,hc.O⟩;obtain⟨v3,h1,h2,h3,h4⟩:=hb rC Ts c1;exact⟨v3,Ng c1 g4 h1,h2,h3,h4⟩))
end
def Al (S:List Aw)(tr:List oX)(n:Nat)(x:oX):Prop:= ∀(j:Nat) (s:xv),S[j]?=some (s,())->s.1=3->∃(m:Nat) (y:oX),s.2.1=(m:Int)/\m≠n/\m<32/\tr[m]?=some y/\y.2.2.1≠0/\y.1≠x.1
theorem Tu {v:V}{n:Nat}{x:oX}(hf:Fit v)(h:Al v.S v.tr n x):Tl v n x:=λi hi=>by
 obtain⟨f,o,s,fr,ou,h1,h2⟩:=hf i hi;refine⟨f,o,s,fr,ou,h1,λh3=>?_⟩;obtain⟨m,y,g1,g2,g3,g4,g5,g6⟩:=h i s h1.S h3;exact⟨m,y,g1,g2,⟨g3,g4,g5⟩,g6⟩
theorem Z9 {S:List Aw}{tr:List oX}{n i:Nat}{x:oX}(h:Al S tr n x)(s':xv)(hs:s'.1≠3):Al (S.set i (s',())) tr n x:=λj s h1 h3=>by
 by_cases e:j=i
 ·subst e
  rw[ze8] at h1;simp only[if_true] at h1;split at h1
  ·cases h1;exact absurd h3 hs
  ·cases h1
 ·rw[kF e] at h1;exact h j s h1 h3
section
variable {v:V}{i:Nat}
theorem EI {v2:V}{m n p:Nat}{nc tag:List Int}{x:oX}{k:uA}(hq:Q v m)(hm0:m+46<=10000000000)(ha:OS v v2 i (n:Int) nc)(ht:Tr v n x)(hk:Lk v n p k)(hl:oD k v.now=false)(nX:x.2.2.2.2.1=false)(yJ:x.2.2.2.2.2.1.length=32)(hn:nc.length=32)(hal:Al v.S v.tr n x)
  (Z5:Tm x.2.2.2.2.2.1 nc tag) (Jk:tag.length=32):
  ∃v3,dP WX (((),(i:Int),su tag,()),v2.e)=some ((true,()),v3.e)/\Z8 v v3 i (3,(n:Int),gL,1,v.now,()) (v.L.set p ((k.1,k.2.1,0,0,()),())) (m+46):=by
 obtain⟨⟨mt2,ob,rfl,hob,hc⟩,la,hmt⟩:=ha;have hFF: ∀bs:List Int,(v.F++ [((([]:List Int),false,()),())]).set v.F.length (([],false,()),())=v.F++ [(([],false,()),())]/\(v.O++ [((ob,false,()),())]).set v.O.length ((ob++bs,false,()),())=v.O++ [((ob++bs,false,()),())]:=λbs=>⟨Dj _ _ _,Dj _ _ _⟩;generalize LN:v.c.set i (i+1,v.F.length+1,v.O.length+1,())=c' at*;generalize hF':v.F++ [((([]:List Int),false,()),())]=F' at*;generalize hO':v.O++ [((ob,false,()),())]=O' at*;generalize vC:v.F.length=f at*;generalize YG:v.O.length=o at*;refine Tt Jk hc (show(2:Int)≠0 by omega) hmt λrC Ts c1=>?_
 have f1:=G1 la (([],false,()),()) f;have zc2:Al (v.S.set i ((2,(n:Int),nc,0,v.now,()),())) v.tr n x:=Z9 hal _ (show(2:Int)≠3 by omega)
 have f1':Fit {c:=c',cfg:=v.cfg,now:=v.now,ph:=v.ph,mp:=v.mp,bp:=v.bp,lp:=v.lp,tr:=v.tr,op:=v.op,ps:=v.ps,lg:=v.lg,mt:=rC,M:=v.M,L:=v.L,S:=v.S.set i ((2,(n:Int),nc,0,v.now,()),()),F:=F'.set f (([],false,()),()),O:=O',B:=v.B}:=AG (by rfl) (by rfl) (by rfl) (by rfl) f1
 obtain⟨bs,mt3,xf,h1,h2,h3,h4⟩:=Kv (tag:=tag) (p:=p) (x:=x) (k:=k) (m:=m) c1 ⟨ht.lt,ht.tr,ht.Yb⟩ ⟨hk.lt,hk.lp,hk.L⟩ hl nX yJ hn (Tu f1' zc2) hq.Ky Z5 Jk Ts (by omega) hq.lg (by have:=hq.le;omega)
 have f2:=OO f1' (ob++bs) o;have c2:=c1.out (ob++bs,false,());have f3:=OP f2 c2 (3,(n:Int),gL,1,v.now,()) λ_=>rfl;have c4:=c2.jg (3,(n:Int),gL,1,v.now,());refine⟨_,h1,AG (by rfl) (by rfl) (by rfl) (by rfl) f3,⟨_,_,_,_,_,⟨c4.lt,c4.c,c4.S,c4.F,c4.O⟩,rfl⟩,⟨⟨c',mt3,_,_,xf,by rw[zfd]⟩,λ_=>⟨mt3,xf,ob++bs,by rw[zfd,(hFF bs).1,(hFF bs).2];subst vC YG LN hF';rfl,by rw[zdI];omega⟩,⟨_,_,ob++bs,⟨c4.lt,c4.c,c4.S,c4.F,c4.O⟩,by rw[zdI];omega⟩,⟨AG (by rfl) (by rfl) (by rfl) (by rfl) f3,h2,h4,hm0,hq.lp,hq.Ky⟩⟩⟩
theorem Kz {f o:Nat}{s:xv}{fr ou:(List Int)×Bool×Unit}{m n:Nat}{j:Int}{x:oX}{sf:xv}{L':List tz}{m':Nat}(right:Bool)(h:nv v i f o s fr ou)(hs:s.1=0)(hq:Q v m)(hh:OQ (n:Int))(yJ:gw WX (((n:Int),()),())=some ((x.2.2.2.2.2.1,()),()))(Wr:x.2.2.2.2.2.1.length=32)
  (hw: ∀nc tag F9:List Int,nc.length=32->tag.length=32->F9.length=32->Tm x.2.2.2.2.2.1 nc tag->(right=true->F9=tag)->(right=false->jR WX ((F9,tag,()),())=some ((false,()),()))->∀v2,OS v v2 i (n:Int) nc->∃v3,dP WX (((),(i:Int),su F9,()),v2.e)=some ((true,()),v3.e)/\Z8 v v3 i sf L' m'):
  ∃v3,fe WX (((),(i:Int),(n:Int),j,right,()),v.e)=some ((decide (sf.1=3),()),v3.e)/\Z8 v v3 i sf L' m':=by
 obtain⟨nc,h1,h2⟩:=Kx j;obtain⟨v1,v2,h3,h4,h5⟩:=Tq h hs hq.fit hq.mt hh h2;obtain⟨tag,⟨r1,r2,g1,g2,g3⟩,g4⟩:=Na Wr h2;have e0:(0:Int)<=0/\(0:Int)<=((32:Nat):Int)/\((32:Nat):Int)<=(32:Nat):=by omega
 have e1:(0:Int)<=0/\(0:Int)<(32:Nat):=by omega
 have hk:vj (n:Int)=(1,0,(n:Int),0,0,0,0,0,0,0,0,0,0,0,gL,()):=rfl;rw[hk] at h4;have hx:=zdE (l:=tag) (i:=0) (by omega)
 generalize tag[0]=y at hx;have ha: ∀t,su t=(2,0,0,0,0,0,0,0,0,0,0,0,0,0,t,()):=λ_=>rfl;cases right with
 |true=>
  obtain⟨v3,h6,h7⟩:=hw nc tag tag h2 g4 g4 ⟨r1,r2,g1,g2,g3⟩ (λ_=>rfl) (λe=>by cases e) v2 h5
  obtain⟨f3,o3,ob3,hc3,_⟩:=h7.conn;have hA:=Tf hc3;rw[ha] at h6;refine⟨v3,?_,h7⟩;simp only[fe,h1,zdy,h3,zdC,zdz,h4,yJ,↓xo,ot e0,zdA,pw Wr,pw h2,g1,g2,g3,h6,hA];rw[kM]
 |false=>
  obtain⟨v3,h6,h7⟩:=hw nc tag (tag.set 0 (WX.pC .u8 y 1)) h2 g4 (by rw[zec];exact g4) ⟨r1,r2,g1,g2,g3⟩ (λe=>by cases e) (λ_=>Nf g4 hx) v2 h5
  obtain⟨f3,o3,ob3,hc3,_⟩:=h7.conn;have hA:=Tf hc3;rw[ha] at h6;refine⟨v3,?_,h7⟩;have hz:(0:Int).toNat=0:=rfl;simp only[fe,h1,zdy,h3,zdC,zdD,zdz,h4,yJ,↓xo,ot e0,ot e1,zdA,pw Wr,pw h2,g1,g2,g3,hz,hx,h6,hA];rw[kM]
end
section
variable {v:V}
theorem Ws: ∀f g:Nat->Int,Cl (jo WX (((List.range 32).map f,(List.range 18).map g,()),()))=true:=λf g=>by kernel_rfl
end
theorem jK {v lo hi:Int}(hv: -9223372036854775808<=v/\v<=9223372036854775807)(h0: -1000000<=lo)(h1:lo<=hi)(h2:hi<=1000000): ∃r:Int,lo<=r/\r<=hi/\aP WX ((v,lo,hi,()),())=some ((r,()),()):=by
 obtain⟨r,h3,h4,h5⟩:=Qi hv (lo:=lo) (hi:=hi) (by omega) h1 (by omega) (by omega)
 refine⟨r,h3,h4,?_⟩;rw[<-h5,<-XU];rfl
noncomputable abbrev kk (n:Int):List Int:=List.replicate 32 (WX.wr .u8 (WX.wr .i64 (n+1)))
theorem IS (n:Int):gw WX ((n,()),())=some ((kk n,()),()):=by kernel_rfl
abbrev Tv (c:List Int):Prop:= ∀x∈c,-9223372036854775808<=x/\x<=9223372036854775807
theorem xg {c:List Int}(hc:Tv c)(i:Nat){lo hi:Int}(h0: -1000000<=lo)(h1:lo<=hi)(h2:hi<=1000000): ∃r:Int,lo<=r/\r<=hi/\aF WX (((i:Int),lo,hi,(),()),c,())=some ((r,()),c,()):=by
 by_cases h:i<c.length
 ·have hx:=zdE h
  have hm:=hc _ (zeO h);obtain⟨r,h3,h4,h5⟩:=jK hm h0 h1 h2;refine⟨r,h3,h4,?_⟩;simp only[aF,↓xo,oT ((i:Int)<(c.length:Int)),oT ((0:Int)<=(i:Int)),zdA,zdB,hx,zdy,h5]
 ·refine⟨hi,h1,zeF _,?_⟩
  simp only[aF,↓xo,oF ((i:Int)<(c.length:Int)),zdz]
abbrev zT:oX:=(0,0,0,0,false,gL,())
abbrev lmt:uA:=(1048576,1099511627776,1099511627776,1099511627776,())
noncomputable def tt (a0:Int)(i:Nat):oX:=(WX.wr .i64 (Int.tdiv (i:Int) 2),WX.wr .i64 ((Int.tmod (i:Int) 2)*a0),1,7,false,kk (i:Int),())
noncomputable def fT (a0:Int):Nat->Nat->List oX->List oX
 |0,_,T=>T
 |n+1,i,T=>fT a0 n (i+1) (T.set i (tt a0 i))
def fL:Nat->Nat->List uA->List uA
 |0,_,T=>T
 |n+1,i,T=>fL n (i+1) (T.set i lmt)
theorem Tw (a0:Int): ∀(n i:Nat) (T:List oX),(fT a0 n i T).length=T.length
 |0,_,_=>rfl
 |n+1,i,T=>by simp only[fT];rw[Tw a0 n];simp
theorem Nh: ∀(n i:Nat) (T:List uA),(fL n i T).length=T.length
 |0,_,_=>rfl
 |n+1,i,T=>by simp only[fL];rw[Nh n];simp
theorem Tx {c:List Int}{a0:Int}(h:aF WX ((0,0,1,(),()),c,())=some ((a0,()),c,()))(g:xe)(rest:Int×Int×Int×Int×Int×Int×Unit):
  ∀(n i:Nat) (T:List oX) (Lm:List uA),i+n=6->T.length=32->Lm.length=32->ag (cN WX) (((),((),()),(),(i:Int),()),g,c,(T,Lm,rest),())=some (((),((),()),(),()),g,c,(fT a0 n i T,fL n i Lm,rest),()):=by
 intro n;have e2: ¬(2:Int)=0:=by omega
 induction n with
 |zero=>
  intro i T Lm hi hT hL;rw[aw];simp only[cN,↓xo,oF ((i:Int)<6),zdz,fT,fL]
 |succ n ih=>
  intro i T Lm hi hT hL;have hx:=zdE (l:=T) (i:=i) (by omega)
  have hy:=zdE (l:=Lm) (i:=i) (by omega)
  have e1:i64.wrap ((i:Int)+1)=((i+1:Nat):Int):=by rw[nO (by omega) (by omega)];omega
  have hk:=IS (i:Int);rw[aw];have qR:=ih (i+1) (T.set i (tt a0 i)) (Lm.set i lmt) (by omega) (by rw[zec];exact hT) (by rw[zec];exact hL)
  have hs:cN WX (((),((),()),(),(i:Int),()),g,c,(T,Lm,rest),())=some (.inl (((),((),()),(),((i+1:Nat):Int),()),g,c,(T.set i (tt a0 i),Lm.set i lmt,rest),())):=by
   simp only[cN,↓xo,oT ((i:Int)<6),bc e2,zdA,zdz,h,zdy,hk,ot (qU (show i<32 by omega)),zdB,hx,hy,tt]
   rw[xw,e1]
  rw[hs];simp only[fT,fL];exact qR
noncomputable def T6 (a0:Int):List oX:=fT a0 6 0 (List.replicate 32 zT)
def L6:List uA:=fL 6 0 (List.replicate 32 (0,0,0,0,()))
noncomputable def yR (a0 a1:Int):List oX:=
 let x7:=(T6 a0).getD 0 zT
 let T7:=(T6 a0).set 0 (x7.1,x7.2.1,WX.AU .i64 1 a1,x7.2.2.2)
 let x8:=T7.getD 2 zT
 let T8:=T7.set 2 (x8.1,x8.2.1,7,x8.2.2.2)
 let x9:=T8.getD 4 zT
 T8.set 4 (x9.1,x9.2.1,9,x9.2.2.2)
structure U9 (c:List Int)(g:xe):Prop where
 ex: ∃a0 a1 a2 a3 a4 a5 b r t l d q:Int,(a0=0\/a0=1)/\0<=a1/\a1<=7/\(0<=a2/\a2<=20)/\(0<=a3/\a3<=3000)/\(0<=a4/\a4<=40)/\(0<=a5/\a5<=40)/\(1<=b/\b<=60)/\(1<=r/\r<=20)/\(1<=t/\t<=3)/\(1<=l/\l<=50)/\(1<=d/\d<=200)/\(1<=q/\q<=4)/\g=(yR a0 a1,L6.set 1 (a2,a3,a4,a5,()),b,r,t,l,d,q,())
theorem Dk {β:Type}{l:List β}{n:Nat}(h:n<l.length)(z:β):l[n]?=some (l.getD n z):=by
 rw[zdE h,zdP,zdE h];rfl
theorem QL {c:List Int}(hc:Tv c): ∃g,eO WX ((c,()),())=some ((g,()),())/\U9 c g:=by
 obtain⟨a0,p0,q0,h0⟩:=xg hc 0 (lo:=0) (hi:=1) (by omega) (by omega) (by omega)
 obtain⟨a1,p1,q1,h1⟩:=xg hc 1 (lo:=0) (hi:=7) (by omega) (by omega) (by omega)
 obtain⟨a2,p2,q2,h2⟩:=xg hc 2 (lo:=0) (hi:=20) (by omega) (by omega) (by omega)
 obtain⟨a3,p3,q3,h3⟩:=xg hc 3 (lo:=0) (hi:=3000) (by omega) (by omega) (by omega)
 obtain⟨a4,p4,q4,h4⟩:=xg hc 4 (lo:=0) (hi:=40) (by omega) (by omega) (by omega)
 obtain⟨a5,p5,q5,h5⟩:=xg hc 5 (lo:=0) (hi:=40) (by omega) (by omega) (by omega)
 obtain⟨b,p6,q6,h6⟩:=xg hc 6 (lo:=1) (hi:=60) (by omega) (by omega) (by omega)
 obtain⟨r,p7,q7,h7⟩:=xg hc 7 (lo:=1) (hi:=20) (by omega) (by omega) (by omega)
 obtain⟨t,p8,q8,h8⟩:=xg hc 8 (lo:=1) (hi:=3) (by omega) (by omega) (by omega)
 obtain⟨l,p9,q9,h9⟩:=xg hc 9 (lo:=1) (hi:=50) (by omega) (by omega) (by omega)
 obtain⟨d,p10,q10,Gq⟩:=xg hc 10 (lo:=1) (hi:=200) (by omega) (by omega) (by omega)
 obtain⟨q,p11,q11,N5⟩:=xg hc 11 (lo:=1) (hi:=4) (by omega) (by omega) (by omega)
 change aF WX ((0,0,1,(),()),c,())=_ at h0;change aF WX ((1,0,7,(),()),c,())=_ at h1;change aF WX ((2,0,20,(),()),c,())=_ at h2;change aF WX ((3,0,3000,(),()),c,())=_ at h3;change aF WX ((4,0,40,(),()),c,())=_ at h4;change aF WX ((5,0,40,(),()),c,())=_ at h5;change aF WX ((6,1,60,(),()),c,())=_ at h6;change aF WX ((7,1,20,(),()),c,())=_ at h7;change aF WX ((8,1,3,(),()),c,())=_ at h8;change aF WX ((9,1,50,(),()),c,())=_ at h9;change aF WX ((10,1,200,(),()),c,())=_ at Gq;change aF WX ((11,1,4,(),()),c,())=_ at N5;refine⟨(yR a0 a1,L6.set 1 (a2,a3,a4,a5,()),b,r,t,l,d,q,()),?_,⟨a0,a1,a2,a3,a4,a5,b,r,t,l,d,q,by omega,p1,q1,⟨p2,q2⟩,⟨p3,q3⟩,⟨p4,q4⟩,⟨p5,q5⟩,⟨p6,q6⟩,⟨p7,q7⟩,⟨p8,q8⟩,⟨p9,q9⟩,⟨p10,q10⟩,⟨p11,q11⟩,rfl⟩⟩
 have hl:=Tx h0 (List.replicate 32 zT,List.replicate 32 (0,0,0,0,()),0,0,0,0,0,0,()) (0,0,0,0,0,0,()) 6 0 (List.replicate 32 zT) (List.replicate 32 (0,0,0,0,())) (by omega) (by simp) (by simp)
 change ag (cN WX) (((),((),()),(),0,()),_,c,_,())=some (((),((),()),(),()),_,c,(T6 a0,L6,_),()) at hl;have hT:(T6 a0).length=32:=by unfold T6;rw[Tw];simp
 have hL:L6.length=32:=by unfold L6;rw[Nh];simp
 have z0:(0:Int).toNat=0:=rfl;have z1:(1:Int).toNat=1:=rfl;have z2:(2:Int).toNat=2:=rfl;have z4:(4:Int).toNat=4:=rfl;have i0:(0:Int)<=0/\(0:Int)<(32:Nat):=by omega
 have i1:(0:Int)<=1/\(1:Int)<(32:Nat):=by omega
 have i2:(0:Int)<=2/\(2:Int)<(32:Nat):=by omega
 have i4:(0:Int)<=4/\(4:Int)<(32:Nat):=by omega
 have g0:=Dk (l:=T6 a0) (n:=0) (by omega) zT
 have g1:L6[1]?=some (L6.getD 1 (0,0,0,0,())):=Dk (by omega) _
 have g2: ∀y,((T6 a0).set 0 y)[2]?=some (((T6 a0).set 0 y).getD 2 zT):=λy=>Dk (by rw[zec];omega) zT
 have g4: ∀y z,(((T6 a0).set 0 y).set 2 z)[4]?=some ((((T6 a0).set 0 y).set 2 z).getD 4 zT):=λy z=>Dk (by rw[zec,zec];omega) zT
 simp only[eO,↓xl,hl,zdy,h1,↓xo,ot i0,ot i1,ot i2,ot i4,zdA,z0,z1,z2,z4,g0,g2,g4,h2,h3,h4,h5,h6,h7,h8,h9,Gq,N5,g1,yR]
theorem OT {a0 a1:Int}(h0:a0=0\/a0=1)(h1:0<=a1)(h2:a1<=7):nH WX ((yR a0 a1,()),())=some (.inr (((),(-1),()),((yR a0 a1,()),())))/\(yR a0 a1)[2]?=some (1,0,7,7,false,kk 2,())/\(yR a0 a1)[4]?=some (2,0,9,7,false,kk 4,()):=by
 have:a1=0\/a1=1\/a1=2\/a1=3\/a1=4\/a1=5\/a1=6\/a1=7:=by omega
 rcases h0 with rfl|rfl<;>rcases this with rfl|rfl|rfl|rfl|rfl|rfl|rfl|rfl<;>exact⟨by kernel_rfl,by kernel_rfl,by kernel_rfl⟩
def LmR (y:uA):Prop:=0<=y.1/\y.1<=1048576/\0<=y.2.1/\0<=y.2.2.1/\y.2.2.1<=1099511627776/\0<=y.2.2.2.1/\y.2.2.2.1<=1099511627776
instance (y:uA):Decidable (LmR y):=by unfold LmR;infer_instance
theorem Wu {y:uA}(h:LmR y):ma WX ((y,()),())=some ((true,()),()):=by
 obtain⟨h1,h2,h3,h4,h5,h6,h7⟩:=h;simp only[ma,↓xo,ot (show y.1>=0 from h1),ot h2,ot (show y.2.1>=0 from h3),ot (show y.2.2.1>=0 from h4),ot h5,ot (show y.2.2.2.1>=0 from h6),ot h7,zdA]
theorem Ni {l:List uA}(hl:l.length=32)(h: ∀y∈l,LmR y):ag (fM WX) ((true,l,0,()),())=some ((true,()),()):=by
 have key: ∀n i:Nat,i+n=32->ag (fM WX) ((true,l,(i:Int),()),())=some ((true,()),()):=by
  intro n;induction n with
  |zero=>
   intro i hi;rw[aw];simp only[fM,↓xo,oF ((i:Int)<32),zdz]
  |succ n ih=>
   intro i hi;have hx:=zdE (l:=l) (i:=i) (by omega)
   have hr:=Wu (h _ (zeO (l:=l) (n:=i) (by omega)))
   generalize l[i]=y at hx hr;have e1:i64.wrap ((i:Int)+1)=((i+1:Nat):Int):=by rw[nO (by omega) (by omega)];omega
   have qR:=ih (i+1) (by omega)
   rw[aw];simp only[fM,↓xo,xw,oT ((i:Int)<32),ot (qU (show i<32 by omega)),zdA,zdB,hx,zdy,hr,e1,qR]
 exact key 32 0 (by omega)
theorem G2 {b r:Int}(hb:1<=b/\b<=60)(hr:1<=r/\r<=20):jl WX ((b,r,()),())=some (.inr (((),0,()),((b,r,b,0,()),()))):=by
 simp only[jl,↓xo,oF (b<1),oF (b>1048576),oF (r<1),oF (r>1099511627776),zdz]
theorem OU {t l:Int}(ht:1<=t/\t<=3)(hl:1<=l/\l<=50):kv WX ((t,l,()),())=some (.inr (((),0,()),((t,l,0,0,()),()))):=by
 simp only[kv,↓xo,oF (t<1),oF (t>1048576),oF (l<1),oF (l>1099511627776),zdz]
theorem QM {a2 a3 a4 a5:Int}(h2:0<=a2/\a2<=20)(h3:0<=a3/\a3<=3000)(h4:0<=a4/\a4<=40)(h5:0<=a5/\a5<=40): ∀y∈L6.set 1 (a2,a3,a4,a5,()),LmR y:=by
 intro y hy;rcases zeN hy with h|h
 ·have: ∀y∈L6,LmR y:=by
   have h0:(L6.all λy=>decide (LmR y))=true:=by kernel_rfl
   intro y hy;exact of_decide_eq_true (List.all_eq_true.1 h0 y hy)
  exact this y h
 ·subst h
  refine⟨h2.1,?_,h3.1,h4.1,?_,h5.1,?_⟩
  ·show a2<=_;omega
  ·show a4<=_;omega
  ·show a5<=_;omega
theorem Nj {x:uA}:(L6.set 1 x).length=32:=by rw[zec];unfold L6;rw[Nh];simp
def Wv:Nat->Nat->List Nat->List Nat
 |0,_,l=>l
 |n+1,i,l=>Wv n (i+1) (l.set i (i+1))
theorem Ww {b r t lk:Int}(hb:1<=b/\b<=60)(hr:1<=r/\r<=20)(ht:1<=t/\t<=3)(hl:1<=lk/\lk<=50)(g:xe)(hg:g.2.2.1=b/\g.2.2.2.1=r/\g.2.2.2.2.1=t/\g.2.2.2.2.2.1=lk)(cfg:xe)(now:Int)(ph:Jl)(mp:List Nat)(tr:(List oX)×Unit)(ac:(List (List Int))×(List (List Int))×Unit)(M:List uF):
  ∀(n i:Nat) (bp lp:List Nat) (L:List tz) (B:List vM),i+n=32->bp.length=32->lp.length=32->L.length=i->B.length=i->ag (cm WX) (((),(),(i:Int),()),g,(cfg,now,(),ph,mp,(),bp,lp,()),tr,ac,M,L,B,())=
   some (((),()),g,(cfg,now,(),ph,mp,(),Wv n i bp,Wv n i lp,()),tr,ac,M,L++List.replicate n ((t,lk,0,0,()),()),B++List.replicate n ((b,r,b,0,()),()),()):=by
 have h1:=G2 hb hr;have h2:=OU ht hl;obtain⟨g1,g2,g3,g4⟩:=hg;intro n;induction n with
 |zero=>
  intro i bp lp L B hi h3 h4 h5 h6;rw[aw];simp only[cm,↓xo,oF ((i:Int)<32),zdz,Wv,zeP,ze2]
 |succ n ih=>
  intro i bp lp L B hi h3 h4 h5 h6;have hx:=zdE (l:=bp) (i:=i) (by omega)
  have hy:=zdE (l:=lp) (i:=i) (by omega)
  have e1:i64.wrap ((i:Int)+1)=((i+1:Nat):Int):=by rw[nO (by omega) (by omega)];omega
  have qR:=ih (i+1) (bp.set i (i+1)) (lp.set i (i+1)) (L++ [((t,lk,0,0,()),())]) (B++ [((b,r,b,0,()),())]) (by omega) (by rw[zec];exact h3) (by rw[zec];exact h4) (by rw[zdI,h5];rfl) (by rw[zdI,h6];rfl)
  rw[aw];simp only[cm,↓xo,xw,oT ((i:Int)<32),ot (qU (show i<32 by omega)),zdA,g1,g2,g3,g4,h1,h2,zdy,zdB,hx,hy,e1,h5,h6,qR,Wv,List.append_assoc,zfe,<-zem]
abbrev ph0:Jl:=(List.replicate 8 false,List.replicate 8 false,List.replicate 8 (0:Int),())
abbrev oo:List (List Int):=List.replicate 32 (List.replicate 8 (0:Int))
abbrev e0:uF:=(((),(),()),(((),(),()),0,0,()),[],[],[],[],())
abbrev p8:List Nat:=(List.range 8).map (·+1)
abbrev c16:List OG:=(List.range 16).map λi=>(i+1,i+1,i+1,())
theorem zaa (g:xe)(T:List oX):WX.ag (dD WX) (((),(),0,()),g,(g,0,(),ph0,List.replicate 8 0,(),List.replicate 32 0,List.replicate 32 0,()),(T,()),(oo,oo,()),[],[],[],())=
  some (((),(),()),g,(g,0,(),ph0,p8,(),List.replicate 32 0,List.replicate 32 0,()),(T,()),(oo,oo,()),List.replicate 8 e0,[],[],()):=by kernel_rfl
theorem zab (s:xe×Int×Unit×Jl×(List Nat)×Unit×(List Nat)×(List Nat)×Unit)(tr:(List oX)×Unit)(ac:(List (List Int))×(List (List Int))×Unit)(lg:Jm)(mt:(List MD)×Unit)(M:List uF)(L:List tz)(B:List vM):
  WX.ag (dE WX) (((),0,()),((),List.replicate 16 (0,0,0,()),(),(),()),s,tr,ac,lg,mt,M,L,[],[],[],B,())=some (((),()),((),c16,(),(),()),s,tr,ac,lg,mt,M,L,List.replicate 16 (s0,()),List.replicate 16 (([],false,()),()),List.replicate 16 (([],false,()),()),B,()):=by kernel_rfl
def v0 (g:xe):V:={c:=c16,cfg:=g,now:=0,ph:=ph0,mp:=p8,bp:=Wv 32 0 (List.replicate 32 0),lp:=Wv 32 0 (List.replicate 32 0),tr:=g.1,op:=oo,ps:=oo,lg:=([],gL,0,()),mt:=List.replicate 4 ((),(),0,()),M:=List.replicate 8 e0,L:=List.replicate 32 ((g.2.2.2.2.1,g.2.2.2.2.2.1,0,0,()),()),S:=List.replicate 16 (s0,()),F:=List.replicate 16 (([],false,()),()),O:=List.replicate 16 (([],false,()),()),B:=List.replicate 32 ((g.2.2.1,g.2.2.2.1,g.2.2.1,0,()),())}
theorem Tz {c:List Int}{g:xe}(h:U9 c g):lZ WX ((g,()),())=some (.inr (((),0,()),(v0 g).e)):=by
 obtain⟨a0,a1,a2,a3,a4,a5,b,r,t,l,d,q,h0,h1,Ih,h2,h3,h4,h5,hb,hr,ht,hl,hd,hq,rfl⟩:=h;have ht1:=(OT h0 h1 Ih).1;have hb1:=G2 hb hr;have Rv:=OU ht hl;have hrt:=Ni Nj (QM h2 h3 h4 h5);generalize yR a0 a1=T at ht1;generalize L6.set 1 (a2,a3,a4,a5,())=Lm at hrt;have hR:jw WX (((T,Lm,b,r,t,l,d,q,()),()),())=some ((true,()),()):=by
  simp only[jw,ht1,zdy,hb1,Rv,↓xo,eq_self,iL,zdA,oT (d>=1),oT (d<=1099511627776),oT (q>=1),oT (q<=16),↓xl,hrt]
 have N5:=Ww hb hr ht hl (T,Lm,b,r,t,l,d,q,()) ⟨rfl,rfl,rfl,rfl⟩ (T,Lm,b,r,t,l,d,q,()) 0 ph0 p8 (T,()) (oo,oo,()) (List.replicate 8 e0) 32 0 (List.replicate 32 0) (List.replicate 32 0) [] [] (by omega) (by simp) (by simp) rfl rfl
 change ag (cm WX) (((),(),0,()),_,_,_,_,_,_,_,())=_ at N5;simp only[zeA] at N5;have h6:=zaa (T,Lm,b,r,t,l,d,q,()) T;rw[xl] at h6;simp only[lZ,lY,hR,zdy,zdC,zdz,pq,ht1,h6,↓xl,N5,↓xo,eq_self,iL,nI,nJ];have hv:=zab;simp only[↓xl] at hv;simp only[hv,zdy];rfl
structure Sc (g:xe)(v:V)(k:uA)(m:Nat):Prop where
 cfg:v.cfg=g
 now:v.now=0
 tr:v.tr=g.1
 ph:v.ph=ph0
 bp:v.bp=(v0 g).bp
 B:v.B=(v0 g).B
 S:v.S=List.replicate 16 (s0,())
 L:v.L=(v0 g).L.set 2 (k,())
 q:Q v m
theorem Wx: ∀n,n<32->(Wv 32 0 (List.replicate 32 0))[n]?=some (n+1):=by decide
theorem qq {β:Type}{n i:Nat}(h:i<n)(a:β):(List.replicate n a)[i]?=some a:=by rw[zeu,if_pos h]
theorem Dl (g:xe): ∀i,i<16->nv (v0 g) i i i s0 ([],false,()) ([],false,()):=λi hi=>by
 refine⟨hi,?_,?_,?_,?_⟩
 ·show c16[i]?=_
  simp[hi]
 ·exact qq hi _
 ·exact qq hi _
 ·exact qq hi _
theorem zbY {c:List Int}{g:xe}(h:U9 c g):Sc g (v0 g) (g.2.2.2.2.1,g.2.2.2.2.2.1,0,0,()) 0:=by
 refine⟨rfl,rfl,rfl,rfl,rfl,rfl,rfl,?_,⟨λi hi=>⟨_,_,_,_,_,Dl g i hi,λ_=>rfl⟩,rfl,⟨rfl,by simp[v0]⟩,by omega,Wx,?_⟩⟩
 ·exact(aJ (by simp[v0])).symm
 ·obtain⟨a0,a1,a2,a3,a4,a5,b,r,t,l,d,q,_,_,_,_,_,_,_,_,_,_,_,_,hq,rfl⟩:=h
  exact hq.1
theorem zbZ {g:xe}{v:V}{k:uA}{m:Nat}(h:Sc g v k m)(n:Nat)(x:oX):Al v.S v.tr n x:=λj s h1 h3=>by
 rw[h.S,zeu] at h1;split at h1
 ·cases h1;exact absurd h3 (by show¬(0:Int)=3;omega)
 ·cases h1
noncomputable abbrev x2:oX:=(1,0,7,7,false,kk 2,())
noncomputable abbrev x4:oX:=(2,0,9,7,false,kk 4,())
theorem Nk {c:List Int}{g:xe}(h:U9 c g):g.1[2]?=some x2/\g.1[4]?=some x4:=by
 obtain⟨a0,a1,a2,a3,a4,a5,b,r,t,l,d,q,h0,h1,Ih,_,_,_,_,_,_,_,_,_,_,rfl⟩:=h;exact(OT h0 h1 Ih).2
theorem zac {c:List Int}{g:xe}(hc:U9 c g){v:V}{k:uA}{m:Nat}(h:Sc g v k m):Tr v 2 x2:=⟨by omega,by rw[h.tr];exact(Nk hc).1,by show¬(7:Int)=0;omega⟩
theorem IT (n:Int):(kk n).length=32:=by simp
noncomputable def g0:xe:=(yR 1 7,L6.set 1 (20,3000,40,40,()),60,20,3,50,200,4,())
theorem Nl:eO WX ((([]:List Int),()),())=some ((g0,()),()):=by kernel_rfl
theorem AH:U9 [] g0:=⟨⟨1,7,20,3000,40,40,60,20,3,50,200,4, .inr rfl,by omega,by omega,by omega,by omega,by omega,by omega,by omega,by omega,by omega,by omega,by omega,by omega,rfl⟩⟩
noncomputable def zad (vt:VT):Option fU.R:=(((dP WX) (((),0,(3,1,0,0,1,2,1,100,5,0,0,0,0,0,(List.replicate 32 (0:Int)),()),()),vt)).bind λr6=>(((dP WX) (((),1,(3,1,0,0,1,1,1,100,3,0,0,0,0,0,(List.replicate 32 (0:Int)),()),()),r6.2)).bind λr7=>(((c8 WX) (((),()),r7.2)).bind λr8=>(bif r6.1.1 then(bif r7.1.1 then(((cu WX) (((),()),r8.2.2.1,r8.2.2.2.1,r8.2.2.2.2.1,r8.2.2.2.2.2.2.2.1,r8.2.2.2.2.2.2.2.2.1,r8.2.2.2.2.2.2.2.2.2.2.2.2)).bind λr9=>(((cu WX) r9).bind λm7=>(((eV WX) (((),4,0,()),m7.2.2.2.1,())).bind λoA=>(bif (WX.af (oA.1.1=3)) then(((cu WX) (((),()),m7.2.1,m7.2.2.1,oA.2.1,m7.2.2.2.2)).bind λoc=>(((eV WX) (((),2,0,()),oc.2.2.2.1,())).bind λoe=>some ((((WX.af (oe.1.1=(-3))),()),())))) else some (((false,()),())))))) else some (((false,()),()))) else some (((false,()),()))))))
def okT:Option fU.R->Bool|some ((b,_),_)=>b|none=>false
theorem zae {r:Option fU.R}(h:okT r=true):r=some (((true,()),())):=by
 match r with
 |none=>cases h
 |some ((b,()),())=>cases b;cases h;rfl
noncomputable def lkd:tz:=((3,50,0,0,()),())
noncomputable def vv (mt:List MD)(lg:Jm)(o1 o2:List Int):V:={v0 g0 with c:=(c16.set 0 (1,17,17,())).set 1 (2,18,18,()),S:=((List.replicate 16 (s0,())).set 0 ((3,2,gL,1,0,()),())).set 1 ((3,4,gL,1,0,()),()),mt:=mt,F:=(List.replicate 16 (([],false,()),())++ [(([],false,()),())])++ [(([],false,()),())],O:=(List.replicate 16 (([],false,()),())++ [((o1,false,()),())])++ [((o2,false,()),())],L:=((v0 g0).L.set 2 lkd).set 4 lkd,lg:=lg}
theorem QN: ∀(f g h h':Nat->Int) (m0 m1 m2 m3 n:Int),okT (zad (vv [((),(),m0,()),((),(),m1,()),((),(),m2,()),((),(),m3,())] ((List.range 92).map f,(List.range 32).map g,n,()) ((List.range 38).map h) ((List.range 38).map h')).e)=true:=λf g h h' m0 m1 m2 m3 n=>by kernel_rfl
theorem mt4 {mt:List MD}(h:mt.length=4): ∃m0 m1 m2 m3,mt=[((),(),m0,()),((),(),m1,()),((),(),m2,()),((),(),m3,())]:=by
 match mt,h with
 | [((),(),a,()),((),(),b,()),((),(),c,()),((),(),d,())],_=>exact⟨a,b,c,d,rfl⟩
theorem TA {p:Unit×(List Int)×Unit}{y1 y2 y3:VT}{r:_}(hN:gn WX ((([]:List Int),()),())=some (.inr (((),()),p,y1)))(h1:fe WX (((),0,2,5,true,()),y1)=some ((true,()),y2))(h2:fe WX (((),1,4,6,true,()),y2)=some ((true,()),y3))(h3:zad y3=some r):fU WX ((),())=some r:=by
 rw[<-h3];simp only[fU,hN,zdy,h1,h2,zdC,zdz,zad]
theorem Nn:fU WX ((),())=some (((true,()),())):=by
 have rk:=Tz AH;have hN:gn WX ((([]:List Int),()),())=some (.inr (((),()),((),List.replicate 16 (0:Int),()),(v0 g0).e)):=by
  simp only[gn,Nl,zdy,rk,↓xo,eq_self,iL,zdC,zdz]
 have hs:=zbY AH;have l2:Lk (v0 g0) 2 2 (3,50,0,0,()):=⟨by omega,hs.q.lp 2 (by omega),qq (by omega) _⟩
 obtain⟨v1,h1,w1⟩:=Kz (x:=x2) (n:=2) (j:=5) (sf:=(3,2,gL,1,(v0 g0).now,())) (L':=(v0 g0).L.set 2 ((3,50,0,0,()),())) (m':=0+46) true (Dl g0 0 (by omega)) rfl hs.q Z6 (IS 2) (IT 2) (λnc tag F9 b1 b2 b3 b4 b5 _ w b7=>by
  rw[b5 rfl];exact EI (k:=(3,50,0,0,())) hs.q (by omega) b7 (zac AH hs) l2 (by decide) rfl (IT 2) b1 (zbZ hs 2 x2) b4 b2)
 obtain⟨mt1,lg1,ob1,e1,zc3⟩:=w1.ex rfl;have hq1:=w1.q;have hS1:v1.S=(List.replicate 16 ((s0,()):Aw)).set 0 ((3,2,gL,1,0,()),()):=by rw[e1];rfl
 have zb0:v1.tr=g0.1:=by rw[e1];rfl
 obtain⟨f,o,s,fr,ou,IP,_⟩:=hq1.fit 1 (by omega)
 have EJ:s=s0:=by
  have:=IP.S;rw[hS1,kF (by omega),qq (by omega)] at this
  cases this;rfl
 subst EJ;have l4:Lk v1 4 4 (3,50,0,0,()):=⟨by omega,hq1.lp 4 (by omega),by rw[e1];show((v0 g0).L.set 2 _)[4]?=_;rw[kF (by omega)];exact qq (by omega) _⟩
 have al4:Al v1.S v1.tr 4 x4:=λj s h1 h3=>by
  rw[hS1] at h1;by_cases e:j=0
  ·subst e
   rw[kI (qq (by omega) _)] at h1
   cases h1;exact⟨2,x2,rfl,by omega,by omega,by rw[zb0];exact(Nk AH).1,by show¬(7:Int)=0;omega,by show¬(1:Int)=2;omega⟩
  ·rw[kF e,zeu] at h1
   split at h1
   ·cases h1;exact absurd h3 (by show¬(0:Int)=3;omega)
   ·cases h1
 have L4:v1.now=0:=by rw[e1];rfl
 obtain⟨v2,h2,w2⟩:=Kz (x:=x4) (n:=4) (j:=6) (sf:=(3,4,gL,1,v1.now,())) (L':=v1.L.set 4 ((3,50,0,0,()),())) (m':=0+46+46) true IP rfl hq1 Z7 (IS 4) (IT 4) (λnc tag F9 b1 b2 b3 b4 b5 _ w b7=>by
  rw[b5 rfl];exact EI (k:=(3,50,0,0,())) hq1 (by omega) b7 ⟨by decide,by rw[zb0];exact(Nk AH).2,by show¬(9:Int)=0;omega⟩ l4 (decide_eq_false (λq=>by have:=q.1;change (0:Int)>=3 at this;omega)) rfl (IT 4) b1 al4 b4 b2)
 obtain⟨mt2,lg2,ob2,e2,zc4⟩:=w2.ex rfl;have hlg:=w2.q.lg;have hmt:=w2.q.mt;have zc5:v2.lg=lg2:=by rw[e2]
 have zc6:v2.mt=mt2:=by rw[e2]
 rw[zc5] at hlg;rw[zc6] at hmt;have ev:v2=vv mt2 lg2 ob1 ob2:=by
  rw[e2,L4,e1];rfl
 obtain⟨b,c,n,u⟩:=lg2;obtain⟨Rv,hl2⟩:=hlg;obtain⟨f',YQ⟩:=mK b (n:=92) Rv;obtain⟨g',CJ⟩:=mK c (n:=32) hl2;obtain⟨k1,hk1⟩:=mK ob1 (n:=38) zc3;obtain⟨k2,PJ⟩:=mK ob2 (n:=38) zc4;obtain⟨m0,m1,m2,m3,rfl⟩:=mt4 hmt;have key:=zae (QN f' g' k1 k2 m0 m1 m2 m3 n);rw[<-YQ,<-CJ,<-hk1,<-PJ] at key;rw[ev] at h2;change fe WX (((),0,2,5,true,()),_)=some ((true,()),_) at h1;change fe WX (((),1,4,6,true,()),_)=some ((true,()),_) at h2;exact TA hN h1 h2 key
abbrev nB:=cY×Int×Unit
abbrev aj (o:cY):Int:=o.2.2.2.2.2.2.1
abbrev qu (o:cY):Int:=o.2.2.2.2.2.2.2.1
def aq (o:cY)(q:Int):cY:=(o.1,o.2.1,o.2.2.1,o.2.2.2.1,o.2.2.2.2.1,o.2.2.2.2.2.1,q,o.2.2.2.2.2.2.2)
def jW (t i:Int)(o:cY):Bool:=decide (o.1=t/\o.2.1=i)
def lR (o:cY):Int:=if qu o>0 then min (qu o) (aj o) else aj o
theorem zaf (o:cY):mI WX ((o,()),())=some ((lR o,()),()):=by
 unfold lR;by_cases h:qu o>0
 ·simp only[mI,↓xo,ot h,zdA,vP,if_pos h]
 ·simp only[mI,↓xo,bc h,zdz,if_neg h]
section
variable {es:List nB}{hd:Int×Unit×Unit}
theorem EK (h:es.length<=1000000)(o:cY):bO WX (((),o,()),(hd,es,()))=some ((),(hd,es++ [(o,lR o,())],())):=by
 simp only[bO,zaf,zdy,↓xo,zdJ,zdK,ot (show(((es.length+(0+1):Nat):Int))*((80:Nat):Int)<=((room:Nat):Int) by unfold room;omega),zdA]
theorem G3 {i:Nat}(h:i<es.length)(hl:es.length<=1000000):aV WX (((),(i:Int),((i+1:Nat):Int),()),(es,()))=some (((),()),(es.eraseIdx i,())):=by
 have e0:((i:Int)-(0:Int)).toNat=i:=by omega
 have e1:(es.drop (i+1)).length=es.length-(i+1):=by rw[zd4]
 have e2:es.take (0+i)++es.drop (i+1)++es.drop (0+i+(es.length-(i+1)))=es.eraseIdx i++es.drop (es.length-1):=by
  rw[zep,zff,show i+(es.length-(i+1))=es.length-1 by omega]
 have e3:(es.eraseIdx i).length=es.length-1:=zfg h;have e4:i+(es.length-(i+1))=es.length-1:=by omega
 have e5:(es.drop (es.length-1)).length=1:=by rw[zd4];omega
 simp only[aV,↓xo,oT (0<=(i:Int)/\(i:Int)<=((i+1:Nat):Int)/\((i+1:Nat):Int)<=(es.length:Int)/\(es.length:Int)<=(es.length:Int)),zdA,oF ((i:Int)=((i+1:Nat):Int)),zdz,oT (0<=(0:Int)/\(0:Int)<=(i:Int)/\(i:Int)<=(es.length:Int)),
  oT (0<=((i+1:Nat):Int)/\((i+1:Nat):Int)<=(es.length:Int)),e0,zdB,e1,oT (0+i+(es.length-(i+1))<=es.length),e2,e4]
 have e6: ∀X:List nB,(es.eraseIdx i++X).take (es.length-1)=es.eraseIdx i:=λX=>by rw[List.take_append_of_le_length (by omega),zd9 (by omega)]
 simp only[e6,zfc,List.append_assoc,ot (show 0<=((es.length-1:Nat):Int)/\((es.length-1:Nat):Int)<=(es.length:Int)/\(es.length:Int)<=(((es.eraseIdx i++es.drop (es.length-1)).length-0:Nat):Int) by rw[zdI,e3,e5];omega),zdA]
def Wy (t i:Int)(es:List nB):Int:=match es.findIdx? (λe=>jW t i e.1) with|some n=>(n:Int)|none=> -1
theorem OV (hl:es.length<=1000000)(t i:Int):fQ WX (((),t,i,()),(hd,es,()))=some ((Wy t i es,()),(hd,es,())):=by
 have key: ∀n k:Nat,k+n=es.length->(∀j,j<k->∀e,es[j]?=some e->jW t i e.1=false)->ag (ax WX) ((es,((),(),()),(es.length:Int),(k:Int),()),(t,i,()))=some (match es.findIdx? (λe=>jW t i e.1) with|some n=> .inl (((n:Int),()),(t,i,()))|none=> .inr ((),(t,i,()))):=by
  intro n;induction n with
  |zero=>
   intro k hk wy;have:es.findIdx? (λe=>jW t i e.1)=none:=by
    rw[zfh];intro e he;obtain⟨j,hj,rfl⟩:=zeh he;exact wy j (by omega) _ (zdE hj)
   rw[aw,this];simp only[ax,↓xo,oF ((k:Int)<(es.length:Int)),zdz]
  |succ n ih=>
   intro k hk wy;have hx:=zdE (l:=es) (i:=k) (by omega)
   generalize hg:es[k]=x at hx;have e1:i64.wrap ((k:Int)+1)=((k+1:Nat):Int):=by rw[nO (by omega) (by omega)];omega
   have hp:fh WX ((x,(),(),()),(t,i,()))=some ((jW t i x.1,()),(t,i,())):=by
    unfold jW;by_cases h1:x.1.1=t
    ·by_cases h2:x.1.2.1=i
     ·simp only[fh,↓xo,ot h1,zdA,ot h2];rw[decide_eq_true ⟨h1,h2⟩]
     ·simp only[fh,↓xo,ot h1,zdA,bc h2];rw[decide_eq_false (λq=>h2 q.2)]
    ·simp only[fh,↓xo,bc h1,zdz];rw[decide_eq_false (λq=>h1 q.1)]
   rw[aw];cases hb:jW t i x.1 with
   |true=>
    have:es.findIdx? (λe=>jW t i e.1)=some k:=by
     rw[zfi];refine⟨by omega,by rw[hg];exact hb,λj hj=>?_⟩
     have:=wy j hj _ (zdE (by omega))
     simp[this]
    rw[this];simp only[ax,↓xo,oT ((k:Int)<(es.length:Int)),oT ((0:Int)<=(k:Int)),zdA,zdB,hx,zdy,hp,hb]
   |false=>
    have qR:=ih (k+1) (by omega) (λj hj e he=>by
     by_cases h:j=k
     ·subst h;rw[hx] at he;cases he;exact hb
     ·exact wy j (by omega) e he)
    simp only[ax,↓xo,xw,oT ((k:Int)<(es.length:Int)),oT ((0:Int)<=(k:Int)),zdA,zdB,hx,zdy,hp,hb,zdz,e1,qR]
 have CF:=key es.length 0 (by omega) (λj hj=>by omega)
 change ag (ax WX) ((es,((),(),()),(es.length:Int),0,()),(t,i,()))=_ at CF;unfold Wy;cases hf:es.findIdx? (λe=>jW t i e.1) with
 |none=>
  rw[hf] at CF;simp only[fQ,bh,↓xl,CF,zdy]
 |some n=>
  rw[hf] at CF;simp only[fQ,bh,↓xl,CF,zdy]
theorem QO (hl:es.length<=1000000)(t i:Int):eL WX (((),t,i,()),(hd,es,()))=some (match es.findIdx? (λe=>jW t i e.1) with
  |some n=>(((es.getD n ((0,0,0,0,0,0,0,0,0,()),0,())).1,true,()),(hd,es.eraseIdx n,()))|none=>(((0,0,0,0,0,0,0,0,0,()),false,()),(hd,es,()))):=by
 have hf:=OV (hd:=hd) hl t i;unfold Wy at hf;cases h:es.findIdx? (λe=>jW t i e.1) with
 |none=>
  rw[h] at hf;have e0:(-1:Int)<0:=by omega
  simp only[eL,hf,zdy,↓xo,ot e0,zdA]
 |some n=>
  rw[h] at hf;have hn:n<es.length:=(List.findIdx?_eq_some_iff_getElem.1 h).1;have hx:=zdE hn;have LL:=G3 hn hl;have e1:i64.wrap ((n:Int)+1)=((n+1:Nat):Int):=by rw[nO (by omega) (by omega)];omega
  simp only[eL,hf,zdy,↓xo,xw,oF ((n:Int)<0),zdz,oT (0<=(n:Int)/\(n:Int)<(es.length:Int)),zdA,zdB,hx,e1,LL,zdP,zeV]
end
section
variable {es:List nB}{hd:Int×Unit×Unit}
theorem yB (hl:es.length<=1000000):dr WX (((),()),(hd,es,()))=some ((es.map (·.1),()),(hd,es,())):=by
 have key: ∀n k:Nat,k+n=es.length->ag (cR WX) (((),(),(),(es.length:Int),(k:Int),()),hd,es,(es.map (·.1)).take k,())=some ((es.map (·.1),()),(hd,es,())):=by
  intro n;induction n with
  |zero=>
   intro k hk;have:k=es.length:=by omega
   subst this;rw[aw];simp only[cR,↓xo,oF ((es.length:Int)<(es.length:Int)),zdz];rw[zd9 (by simp)]
  |succ n ih=>
   intro k hk;have hx:=zdE (l:=es) (i:=k) (by omega)
   generalize es[k]=x at hx;have e1:i64.wrap ((k:Int)+1)=((k+1:Nat):Int):=by rw[nO (by omega) (by omega)];omega
   have hm:(es.map (·.1))[k]?=some x.1:=by rw[zeG,hx];rfl
   have ht:(es.map (·.1)).take (k+1)=(es.map (·.1)).take k++ [x.1]:=by rw[ze9,hm];rfl
   have hlen:((es.map (·.1)).take k).length=k:=by rw[zd3,zeK];omega
   have qR:=ih (k+1) (by omega)
   rw[ht] at qR;rw[aw];simp only[cR,↓xo,xw,oT ((k:Int)<(es.length:Int)),zdA,oT (0<=(k:Int)/\(k:Int)<(es.length:Int)),zdB,hx,zdy,hlen,zdJ,zdK,ot (show(((k+(0+1):Nat):Int))*((72:Nat):Int)<=((room:Nat):Int) by unfold room;omega),e1,qR]
 have:=key es.length 0 (by omega)
 change ag (cR WX) (((),(),(),(es.length:Int),0,()),hd,es,[],())=_ at this;simp only[dr,↓xl,this,zdy]
def nk (e:nB):Prop:=1<=e.2.1/\e.2.1<=aj e.1/\aj e.1<=1048576
def gU (l:List Int):Int:=l.foldr (·+·) 0
theorem jQ (a b:List Int):gU (a++b)=gU a+gU b:=by
 induction a with
 |nil=>simp[gU]
 |cons x a ih=>simp only[gU,zef,zev] at*;omega
theorem wR {l:List Int}{m:Int}(h: ∀x∈l,0<=x/\x<=m):0<=gU l/\gU l<=m*l.length:=by
 induction l with
 |nil=>simp[gU]
 |cons x l ih=>
  have h1:=h x (zdM ..);have h2:=ih λy hy=>h y (zdL _ hy);simp only[gU,zev,zdJ] at*;rw[Int.natCast_add,Int.mul_add];omega
theorem TB (hl:es.length<=1000000)(he: ∀e∈es,nk e):gE WX (((),()),(hd,es,()))=some ((gU (es.map λe=>aj e.1),()),(hd,es,())):=by
 have hb: ∀k,0<=gU ((es.map λe=>aj e.1).take k)/\gU ((es.map λe=>aj e.1).take k)<=1048576000000:=λk=>by
  have:=wR (l:=(es.map λe=>aj e.1).take k) (m:=1048576) (λx hx=>by
   have:=zeC hx;obtain⟨e,h1,rfl⟩:=List.mem_map.1 this;have:=he e h1;unfold nk at this;omega)
  have hlen:((es.map λe=>aj e.1).take k).length<=1000000:=by rw[zd3,zeK];omega
  refine⟨this.1,zfj this.2 ?_⟩;have:((((es.map λe=>aj e.1).take k).length:Nat):Int)<=1000000:=by omega
  omega
 have key: ∀n k:Nat,k+n=es.length->ag (dg WX) (((),gU ((es.map λe=>aj e.1).take k),(),(es.length:Int),(k:Int),()),hd,es,())=some ((gU (es.map λe=>aj e.1),()),(hd,es,())):=by
  intro n;induction n with
  |zero=>
   intro k hk;have:k=es.length:=by omega
   subst this;rw[aw];simp only[dg,↓xo,oF ((es.length:Int)<(es.length:Int)),zdz];rw[zd9 (by simp)]
  |succ n ih=>
   intro k hk;have hx:=zdE (l:=es) (i:=k) (by omega)
   generalize es[k]=x at hx;have e1:i64.wrap ((k:Int)+1)=((k+1:Nat):Int):=by rw[nO (by omega) (by omega)];omega
   have hm:(es.map λe=>aj e.1)[k]?=some (aj x.1):=by rw[zeG,hx];rfl
   have ht:(es.map λe=>aj e.1).take (k+1)=(es.map λe=>aj e.1).take k++ [aj x.1]:=by rw[ze9,hm];rfl
   have hs:gU ((es.map λe=>aj e.1).take (k+1))=gU ((es.map λe=>aj e.1).take k)+aj x.1:=by rw[ht,jQ];simp[gU]
   have b1:=hb k;have b2:=hb (k+1);have qR:=ih (k+1) (by omega)
   rw[hs] at qR b2;rw[aw];have e2:i64.wrap (gU ((es.map λe=>aj e.1).take k)+aj x.1)=gU ((es.map λe=>aj e.1).take k)+aj x.1:=nO (by omega) (by omega)
   simp only[dg,↓xo,xw,oT ((k:Int)<(es.length:Int)),zdA,oT (0<=(k:Int)/\(k:Int)<(es.length:Int)),zdB,hx,zdy,e1,e2,qR]
 have:=key es.length 0 (by omega)
 change ag (dg WX) (((),0,(),(es.length:Int),0,()),hd,es,())=_ at this;simp only[gE,↓xl,this,zdy]
def vR (e:nB)(r:List nB)(n:Int):List nB:=
 if e.2.1-n>0 then(aq e.1 (aj e.1-n),e.2.1-n,())::r
 else r++(if aj e.1-n>0 then [(aq e.1 (aj e.1-n),lR (aq e.1 (aj e.1-n)),())] else [])
theorem Wz {e:nB}{r:List nB}(hl:r.length<=100000)(he:nk e){n:Int}(h1:1<=n)(h2:n<=e.2.1):gi WX (((),n,()),(hd,e::r,()))=some ((),(hd,vR e r n,())):=by
 obtain⟨a1,a2,a3⟩:=he;have w1:i64.wrap (e.1.2.2.2.2.2.2.1-n)=aj e.1-n:=by
  show i64.wrap (aj e.1-n)=_
  exact nO (by omega) (by omega)
 have w2:i64.wrap (e.2.1-n)=e.2.1-n:=nO (by omega) (by omega)
 have z:(0:Int).toNat=0:=rfl;have i0:0<=(0:Int)/\(0:Int)<((e::r).length:Int):=by simp only[zdJ];omega
 unfold vR;by_cases h3:e.2.1-n>0
 ·simp only[gi,↓xo,xw,ot i0,zdA,z,zeb,zdy,ze5,w1,w2,ot h3,if_pos h3,aq]
 ·have LL:=G3 (es:=(aq e.1 (aj e.1-n),e.2.1-n,())::r) (i:=0) (by simp) (by simp only[zdJ];omega)
  change aV WX (((),0,1,()),_)=some (((),()),(r,())) at LL;simp only[aq] at LL;by_cases h4:aj e.1-n>0
  ·have ha:=EK (es:=r) (hd:=hd) (by omega) (aq e.1 (aj e.1-n))
   simp only[aq] at ha;simp only[gi,↓xo,xw,ot i0,zdA,z,zeb,zdy,ze5,w1,w2,bc h3,zdz,LL,ot h4,ha,if_neg h3,if_pos h4,aq]
  ·simp only[gi,↓xo,xw,ot i0,zdA,z,zeb,zdy,ze5,w1,w2,bc h3,zdz,LL,bc h4,if_neg h3,if_neg h4,ze2]
end
section
variable {es:List nB}{hd:Int×Unit×Unit}
theorem OW {o:cY}(h1:1<=aj o):1<=lR o/\lR o<=aj o:=by
 unfold lR;split<;>omega
theorem EL {e:nB}{r:List nB}{n:Int}(he:nk e)(hr: ∀x∈r,nk x)(h1:1<=n)(h2:n<=e.2.1):(∀x∈vR e r n,nk x)/\(vR e r n).length<=r.length+1:=by
 obtain⟨a1,a2,a3⟩:=he;unfold vR;have hq: ∀o q,aj (aq o q)=q:=λ_ _=>rfl;split
 ·rename_i h3
  refine⟨λx hx=>?_,zdV _⟩;rcases List.mem_cons.1 hx with rfl|hx
  ·exact⟨by show 1<=e.2.1-n;omega,by show e.2.1-n<=aj e.1-n;omega,by show aj e.1-n<=_;omega⟩
  ·exact hr x hx
 ·split
  ·rename_i h4
   refine⟨λx hx=>?_,by simp⟩
   rcases List.mem_append.1 hx with hx|hx
   ·exact hr x hx
   ·rw[zeZ] at hx
    subst hx;have:=OW (o:=aq e.1 (aj e.1-n)) (by rw[hq];omega)
    exact⟨this.1,this.2,by show aj e.1-n<=_;omega⟩
  ·refine⟨λx hx=>?_,by simp⟩
   rw[ze2] at hx;exact hr x hx
def eY (jL:Int):Nat->Int->List nB->List nB->Bool×List nB×List nB×Int
 |0,q,es,out=>(false,out,es,q)
 |k+1,q,es,out=>if q>0 then
   (match es with
    | []=>(false,out,[],q)
    |e::r=>if e.1.2.2.1=jL then(true,out,e::r,q) else eY jL k (q-min q e.2.1) (vR e r (min q e.2.1)) (out++ [(e.1,min q e.2.1,())]))
  else(false,out,es,q)
theorem QP (jL:Int): ∀(k:Nat) (q:Int) (es out:List nB),q<=k->q<=1048576->es.length<=100000->out.length+k<=1100000->(∀e∈es,nk e)->ag (cS WX) (((),jL,q,(),()),hd,es,out,())=
  some (if(eY jL k q es out).1 then .inl (((),true,()),hd,(eY jL k q es out).2.2.1,(eY jL k q es out).2.1,()) else .inr (((eY jL k q es out).2.1,()),hd,(eY jL k q es out).2.2.1,())):=by
 intro k;have z:(0:Int).toNat=0:=rfl;induction k with
 |zero=>
  intro q es out hq _ _ _ _;rw[aw];simp only[cS,↓xo,oF (q>0),zdz,eY,zdG,if_false]
 |succ k ih=>
  intro q es out hq hq2 hl ho he;rw[aw];unfold eY;by_cases h0:q>0
  ·rw[if_pos h0]
   cases es with
   |nil=>
    have e0: ¬((([]:List nB).length:Nat):Int)>0:=by simp
    simp only[cS,↓xo,ot h0,zdA,bc e0,zdz,zdG,if_false]
   |cons e r=>
    have i0:0<=(0:Int)/\(0:Int)<((e::r).length:Int):=by simp only[zdJ];omega
    have i1:((e::r).length:Int)>0:=i0.2;by_cases hf:e.1.2.2.1=jL
    ·simp only[cS,↓xo,ot h0,zdA,ot i1,ot i0,z,zeb,zdy,ot hf,if_pos hf,if_true]
    ·have hee:=he e (zdM ..)
     have L4:1<=min q e.2.1:=by have:=hee.1;omega
     have Jj:min q e.2.1<=e.2.1:=by omega
     have hg:=Wz (hd:=hd) (e:=e) (r:=r) (by simp only[zdJ] at hl;omega) hee L4 Jj
     have XA:=EL hee (λx hx=>he x (zdL _ hx)) L4 Jj;have w1:i64.wrap (q-min q e.2.1)=q-min q e.2.1:=nO (by omega) (by omega)
     have qR:=ih (q-min q e.2.1) (vR e r (min q e.2.1)) (out++ [(e.1,min q e.2.1,())]) (by omega) (by omega) (by simp only[zdJ] at hl;omega) (by rw[zdI];simp only[zdJ,zdK];omega) XA.1
     simp only[cS,↓xo,xw,vP,ot h0,zdA,ot i1,ot i0,z,zeb,zdy,bc hf,zdz,ot (show(((out.length+([(e.1,min q e.2.1,())]:List nB).length:Nat):Int))*((80:Nat):Int)<=((room:Nat):Int) by unfold room;simp only[zdJ,zdK];omega),hg,w1,qR,if_neg hf]
  ·rw[if_neg h0]
   simp only[cS,↓xo,bc h0,zdz,zdG,if_false]
theorem OX (jL:Int){q:Int}(h0:0<=q)(hq:q<=1048576)(hl:es.length<=100000)(he: ∀e∈es,nk e):gj WX (((),jL,q,()),(hd,es,()))=
  some (if(eY jL q.toNat q es []).1 then .inl (((),true,()),hd,(eY jL q.toNat q es []).2.2.1,(eY jL q.toNat q es []).2.1,()) else .inr (((eY jL q.toNat q es []).2.1,false,()),(hd,(eY jL q.toNat q es []).2.2.1,()))):=by
 have Kt:=QP (hd:=hd) jL q.toNat q es [] (by omega) hq hl (by simp only[zdK];omega) he
 simp only[gj,↓xl,Kt,zdy];cases (eY jL q.toNat q es []).1<;>rfl
end
section
variable {es:List nB}{hd:Int×Unit×Unit}
def mc (jL:Int)(es:List nB):Int×Bool:=match es.findIdx? (λe=>decide (e.1.2.2.1=jL)) with
 |some n=>(gU ((es.take n).map λe=>e.2.1),true)
 |none=>(gU (es.map λe=>aj e.1),false)
theorem EM (he: ∀e∈es,nk e)(hl:es.length<=1000000)(k:Nat):0<=gU ((es.take k).map λe=>e.2.1)/\gU ((es.take k).map λe=>e.2.1)<=1048576000000:=by
 have:=wR (l:=(es.take k).map λe=>e.2.1) (m:=1048576) (λx hx=>by
  obtain⟨e,h1,rfl⟩:=List.mem_map.1 hx;have:=he e (zeC h1);unfold nk at this;omega)
 have hlen:((es.take k).map λe=>e.2.1).length<=1000000:=by rw[zeK,zd3];omega
 refine⟨this.1,zfj this.2 ?_⟩;have:(((((es.take k).map λe=>e.2.1).length:Nat)):Int)<=1000000:=by omega
 omega
theorem KA (jL:Int)(hl:es.length<=1000000)(he: ∀e∈es,nk e):fq WX (((),jL,()),(hd,es,()))=some (((mc jL es).1,(mc jL es).2,()),(hd,es,())):=by
 have key: ∀n k:Nat,k+n=es.length->(∀j,j<k->∀e,es[j]?=some e->¬e.1.2.2.1=jL)->ag (cO WX) (((),jL,gU ((es.take k).map λe=>e.2.1),(),(es.length:Int),(k:Int),()),hd,es,())=
   some (match es.findIdx? (λe=>decide (e.1.2.2.1=jL)) with|some n=> .inl ((gU ((es.take n).map λe=>e.2.1),true,()),(hd,es,()))|none=> .inr (((),()),(hd,es,()))):=by
  intro n;induction n with
  |zero=>
   intro k hk wy;have:es.findIdx? (λe=>decide (e.1.2.2.1=jL))=none:=by
    rw[zfh];intro e he;obtain⟨j,hj,rfl⟩:=zeh he;exact decide_eq_false (wy j (by omega) _ (zdE hj))
   rw[aw,this];simp only[cO,↓xo,oF ((k:Int)<(es.length:Int)),zdz]
  |succ n ih=>
   intro k hk wy;have hx:=zdE (l:=es) (i:=k) (by omega)
   have hem:=zeO (l:=es) (n:=k) (by omega)
   generalize hg:es[k]=x at hx hem;have e1:i64.wrap ((k:Int)+1)=((k+1:Nat):Int):=by rw[nO (by omega) (by omega)];omega
   rw[aw];by_cases hb:x.1.2.2.1=jL
   ·have:es.findIdx? (λe=>decide (e.1.2.2.1=jL))=some k:=by
     rw[zfi];refine⟨by omega,by rw[hg];exact decide_eq_true hb,λj hj=>?_⟩
     have:=wy j hj _ (zdE (by omega))
     simp[this]
    rw[this];simp only[cO,↓xo,oT ((k:Int)<(es.length:Int)),oT (0<=(k:Int)/\(k:Int)<(es.length:Int)),zdA,zdB,hx,zdy,ot hb]
   ·have ht:(es.take (k+1)).map (λe=>e.2.1)=(es.take k).map (λe=>e.2.1)++ [x.2.1]:=by rw[ze9,hx,zfk];rfl
    have hs:gU ((es.take (k+1)).map λe=>e.2.1)=gU ((es.take k).map λe=>e.2.1)+x.2.1:=by rw[ht,jQ];simp[gU]
    have b1:=EM he hl k;have b2:=EM he hl (k+1);rw[hs] at b2;have w1:i64.wrap (gU ((es.take k).map λe=>e.2.1)+x.2.1)=gU ((es.take k).map λe=>e.2.1)+x.2.1:=nO (by omega) (by omega)
    have qR:=ih (k+1) (by omega) (λj hj e he=>by
     by_cases h:j=k
     ·subst h;rw[hx] at he;cases he;exact hb
     ·exact wy j (by omega) e he)
    rw[hs] at qR;simp only[cO,↓xo,xw,oT ((k:Int)<(es.length:Int)),oT (0<=(k:Int)/\(k:Int)<(es.length:Int)),zdA,zdB,hx,zdy,bc hb,zdz,e1,w1,qR]
 have h0:=key es.length 0 (by omega) (λj hj=>by omega)
 change ag (cO WX) (((),jL,0,(),(es.length:Int),0,()),hd,es,())=_ at h0;unfold mc;cases hf:es.findIdx? (λe=>decide (e.1.2.2.1=jL)) with
 |none=>
  rw[hf] at h0;simp only[fq,↓xl,h0,zdy,TB hl he]
 |some n=>
  rw[hf] at h0;simp only[fq,↓xl,h0,zdy]
def mE (t i q:Int)(es:List nB):Bool×List nB:=match es.findIdx? (λe=>jW t i e.1) with
 |none=>(false,es)
 |some n=>if q<1\/q>aj (es.getD n ((0,0,0,0,0,0,0,0,0,()),0,())).1 then(false,es) else
   (true,es.set n (aq (es.getD n ((0,0,0,0,0,0,0,0,0,()),0,())).1 q,min (es.getD n ((0,0,0,0,0,0,0,0,0,()),0,())).2.1 q,()))
theorem OY (hl:es.length<=1000000)(t i q:Int):fC WX (((),t,i,q,()),(hd,es,()))=some (((mE t i q es).1,()),(hd,(mE t i q es).2,())):=by
 have hf:=OV (hd:=hd) hl t i;unfold Wy at hf;unfold mE;cases h:es.findIdx? (λe=>jW t i e.1) with
 |none=>
  rw[h] at hf;have e0:(-1:Int)<0:=by omega
  simp only[fC,hf,zdy,↓xo,ot e0,zdA]
 |some n=>
  rw[h] at hf;have hn:n<es.length:=(List.findIdx?_eq_some_iff_getElem.1 h).1;have hx:=zdE hn;have hd:es.getD n ((0,0,0,0,0,0,0,0,0,()),0,())=es[n]:=by rw[zdP,hx];rfl
  simp only[hd];generalize es[n]=x at hx;have hs: ∀y,(es.set n y)[n]?=some y:=λy=>by rw[ze8];simp[hn]
  by_cases h1:q<1
  ·simp only[fC,hf,zdy,↓xo,oF ((n:Int)<0),zdz,ot h1,zdA,if_pos (Or.inl h1:q<1\/q>aj x.1)]
  ·by_cases h2:q>aj x.1
   ·simp only[fC,hf,zdy,↓xo,oF ((n:Int)<0),zdz,bc h1,oT (0<=(n:Int)/\(n:Int)<(es.length:Int)),zdA,zdB,hx,ot h2,if_pos (Or.inr h2:q<1\/q>aj x.1)]
   ·have h3: ¬(q<1\/q>aj x.1):=by omega
    simp only[fC,hf,zdy,↓xo,vP,oF ((n:Int)<0),zdz,bc h1,oT (0<=(n:Int)/\(n:Int)<(es.length:Int)),zdA,zdB,hx,bc h2,hs,zfd,if_neg h3,aq]
end
abbrev aG (o:cY):Int:=o.2.2.2.1
abbrev gV (o:cY):Int:=o.2.2.2.2.1
abbrev an (o:cY):Int:=o.2.2.2.2.2.1
abbrev mr (o:cY):Int:=o.2.2.2.2.2.2.2.2.1
def FE (n lo hi:Int):Bool:=decide (lo<=n)&&decide (n<=hi)
theorem TC (n lo hi:Int):aM WX ((n,lo,hi,()),())=some ((FE n lo hi,()),()):=by
 unfold FE;by_cases h:lo<=n
 ·simp only[aM,↓xo,ot (show n>=lo from h),zdA,decide_eq_true h,Bool.true_and,kM]
 ·simp only[aM,↓xo,bc (show¬n>=lo from h),zdz,decide_eq_false h,zfl]
def oL (o:cY):Bool:=
 (bif decide (gV o=2) then decide (an o=0) else FE (an o) 1 1048576)&& ((decide (qu o=0)||(decide (gV o=1)||decide (gV o=5)))&& ((FE o.1 0 31&& (FE o.2.2.1 0 7&&FE o.2.1 0 1073741824))&& ((FE (aG o) 1 2&& (FE (gV o) 1 5&&FE (aj o) 1 1048576))&& (FE (qu o) 0 (aj o)&&FE (mr o) 0 1048576))))
theorem AI (o:cY):eU WX ((o,()),())=some (((bif oL o then 0 else 1),()),()):=by
 unfold oL;simp only[eU,TC,zdy,↓xo,kM];generalize decide (gV o=2)=b1;generalize decide (an o=0)=b2;generalize FE (an o) 1 1048576=b3;generalize decide (qu o=0)=b4;generalize decide (gV o=1)=b5;generalize decide (gV o=5)=b6;generalize FE o.1 0 31=b7;generalize FE o.2.2.1 0 7=b8;generalize FE o.2.1 0 1073741824=b9;generalize FE (aG o) 1 2=b10;generalize FE (gV o) 1 5=b11;generalize FE (aj o) 1 1048576=b12;generalize FE (qu o) 0 (aj o)=b13;generalize FE (mr o) 0 1048576=b14;cases b1<;>cases b2<;>cases b3<;>cases b4<;>cases b5<;>cases b6<;>cases b7<;>first|rfl|(cases b8<;>cases b9<;>cases b10<;>cases b11<;>cases b12<;>first|rfl|(cases b13<;>cases b14<;>rfl))
def lB (o:cY)(p:Int):Bool:=if gV o=2 then true else if aG o=1 then decide (an o>=p) else decide (an o<=p)
theorem vT (o:cY)(p:Int):cJ WX ((o,p,()),())=some ((lB o p,()),()):=by
 unfold lB;by_cases h:gV o=2
 ·simp only[cJ,↓xo,ot h,zdA,if_pos h]
 ·by_cases h2:aG o=1
  ·simp only[cJ,↓xo,bc h,zdz,ot h2,zdA,if_neg h,if_pos h2,kM]
  ·simp only[cJ,↓xo,bc h,zdz,bc h2,if_neg h,if_neg h2,kM]
def iO (s a b:Int):Bool:=if s=1 then decide (a>b) else decide (a<b)
theorem QQ (s a b:Int):jH WX ((s,a,b,()),())=some ((iO s a b,()),()):=by
 unfold iO;by_cases h:s=1
 ·simp only[jH,↓xo,ot h,zdA,if_pos h,kM]
 ·simp only[jH,↓xo,bc h,zdz,if_neg h,kM]
def BD (o:cY)(l:Int):Bool:=if mr o<=0 then false else if l<=0 then false else if aG o=1 then decide (l>=mr o) else decide (l<=mr o)
theorem No (o:cY)(l:Int):kC WX ((o,l,()),())=some ((BD o l,()),()):=by
 unfold BD;by_cases h:mr o<=0
 ·simp only[kC,↓xo,ot h,zdA,if_pos h]
 ·by_cases h1:l<=0
  ·simp only[kC,↓xo,bc h,ot h1,zdA,zdz,if_neg h,if_pos h1]
  ·by_cases h2:aG o=1
   ·simp only[kC,↓xo,bc h,bc h1,zdz,ot h2,zdA,if_neg h,if_neg h1,if_pos h2,kM]
   ·simp only[kC,↓xo,bc h,bc h1,zdz,bc h2,if_neg h,if_neg h1,if_neg h2,kM]
abbrev Np:=(Unit×Unit×Unit)×Int×Int×Unit
abbrev o0:cY:=(0,0,0,0,0,0,0,0,0,())
def tE (st:List gz)(p:Nat)(pr:Int)(es:List nB):Prop:= ∃n,p=n+1/\st[n]?=some ((pr,(),()),es,())
def dC (st:List gz)(p:Nat):List nB:=match p with|0=> []|n+1=>(st.getD n ((0,(),()),[],())).2.1
def fF (st:List gz)(p:Nat):Int:=match p with|0=>0|n+1=>(st.getD n ((0,(),()),[],())).1.1
theorem tE.oM {st:List gz}{p:Nat}{pr:Int}{es:List nB}(h:tE st p pr es):dC st p=es/\fF st p=pr:=by
 obtain⟨n,rfl,h⟩:=h;simp only[dC,fF,zdP,h,zeV,and_self]
def Cn (t i:Int)(st:List gz)(p:Nat):Option cY:=((dC st p).map (·.1)).find? (jW t i)
def Co (st:List gz)(l:List Nat):Prop:=l.length<=1000/\∀p∈l,∃pr es,tE st p pr es/\es.length<=100000
section
variable {hdr:Np}{bs ss:List Nat}{st:List gz}{t i:Int}
theorem OZ (s idx a b c:Int)(os:List cY)(hl:os.length<=1000000)(hs:s=0\/s=1)(oz:cY):
  ag (cq WX) (((),t,i,(),s,idx,a,(),b,c,os,(os.length:Int),0,()),hdr,bs,ss,oz,st,())=
   some (match os.find? (jW t i) with|some o=>(if s=0 then .inl (((),idx,(),()),hdr,o,bs,ss,st,()) else .inr (.inl (((),idx,(),()),hdr,o,bs,ss,st,())))|none=> .inr (.inr (((),t,i,(),s,a,(),b,c,()),hdr,oz,bs,ss,st,()))):=by
 have key: ∀n k:Nat,k+n=os.length->(∀j,j<k->∀e,os[j]?=some e->jW t i e=false)->ag (cq WX) (((),t,i,(),s,idx,a,(),b,c,os,(os.length:Int),(k:Int),()),hdr,bs,ss,oz,st,())=
   some (match os.find? (jW t i) with|some o=>(if s=0 then .inl (((),idx,(),()),hdr,o,bs,ss,st,()) else .inr (.inl (((),idx,(),()),hdr,o,bs,ss,st,())))|none=> .inr (.inr (((),t,i,(),s,a,(),b,c,()),hdr,oz,bs,ss,st,()))):=by
  intro n;induction n with
  |zero=>
   intro k hk wy;have:os.find? (jW t i)=none:=by
    rw[List.find?_eq_none];intro e he;obtain⟨j,hj,rfl⟩:=zeh he;rw[wy j (by omega) _ (zdE hj)]
    simp
   rw[aw,this];simp only[cq,↓xo,oF ((k:Int)<(os.length:Int)),zdz]
  |succ n ih=>
   intro k hk wy;have hx:=zdE (l:=os) (i:=k) (by omega)
   generalize hg:os[k]=x at hx;have e1:i64.wrap ((k:Int)+1)=((k+1:Nat):Int):=by rw[nO (by omega) (by omega)];omega
   have qR:jW t i x=false->_:=λhb=>ih (k+1) (by omega) (λj hj e he=>by
    by_cases h:j=k
    ·subst h;rw[hx] at he;cases he;exact hb
    ·exact wy j (by omega) e he)
   rw[aw];by_cases h1:x.1=t
   ·by_cases h2:x.2.1=i
    ·have hb:jW t i x=true:=decide_eq_true ⟨h1,h2⟩
     have:os.find? (jW t i)=some x:=by
      rw[List.find?_eq_some_iff_getElem];refine⟨hb,k,by omega,hg,λj hj=>?_⟩
      have:=wy j hj _ (zdE (by omega))
      simp[this]
     rw[this];rcases hs with rfl|rfl
     ·have z0:(0:Int)=((0:Nat):Int):=rfl
      simp only[cq,↓xo,oT ((k:Int)<(os.length:Int)),oT ((0:Int)<=(k:Int)),zdA,zdB,hx,zdy,ot h1,ot h2,ot z0,if_true]
     ·have z0: ¬(1:Int)=((0:Nat):Int):=by omega
      have z1:(1:Int)=((1:Nat):Int):=rfl;have z2: ¬(1:Int)=0:=by omega
      simp only[cq,↓xo,oT ((k:Int)<(os.length:Int)),oT ((0:Int)<=(k:Int)),zdA,zdB,hx,zdy,ot h1,ot h2,bc z0,zdz,ot z1,if_neg z2]
    ·have UU:=qR (decide_eq_false (λq=>h2 q.2))
     simp only[cq,↓xo,xw,oT ((k:Int)<(os.length:Int)),oT ((0:Int)<=(k:Int)),zdA,zdB,hx,zdy,ot h1,bc h2,zdz,e1,UU]
   ·have UU:=qR (decide_eq_false (λq=>h1 q.1))
    simp only[cq,↓xo,xw,oT ((k:Int)<(os.length:Int)),oT ((0:Int)<=(k:Int)),zdA,zdB,hx,zdy,bc h1,zdz,e1,UU]
 exact key os.length 0 (by omega) (λj hj=>by omega)
theorem Cp:eK WX=cq WX:=rfl
def jX (t i:Int)(st:List gz):List Nat->Option (Nat×cY)
 | []=>none
 |p::ps=>match Cn t i st p with|some o=>some (0,o)|none=>(jX t i st ps).map λx=>(x.1+1,x.2)
theorem WA (h:Co st bs)(a:Int)(oz:cY):ag (ez WX) (((),t,i,(),0,a,(),(bs.length:Int),0,()),hdr,bs,ss,oz,st,())=
  some (match jX t i st bs with|some (m,o)=> .inl (((),(m:Int),(),()),hdr,o,bs,ss,st,())|none=> .inr (.inr (((),t,i,(),a,()),hdr,oz,bs,ss,st,()))):=by
 have key: ∀n k:Nat,k+n=bs.length->ag (ez WX) (((),t,i,(),0,a,(),(bs.length:Int),(k:Int),()),hdr,bs,ss,oz,st,())=
   some (match jX t i st (bs.drop k) with|some (m,o)=> .inl (((),((k+m:Nat):Int),(),()),hdr,o,bs,ss,st,())|none=> .inr (.inr (((),t,i,(),a,()),hdr,oz,bs,ss,st,()))):=by
  intro n;induction n with
  |zero=>
   intro k hk;have:bs.drop k=[]:=ze7 (by omega)
   rw[aw,this];simp only[ez,↓xo,oF ((k:Int)<(bs.length:Int)),zdz,jX]
  |succ n ih=>
   intro k hk;have ti:k<bs.length:=by omega
   have hx:=zdE ti;obtain⟨pr,es,hp,O0⟩:=h.2 _ (zeO ti);have hd:bs.drop k=bs[k]::bs.drop (k+1):=zfm ti;generalize bs[k]=p at hx hp hd;have kO:=hp.oM;obtain⟨m,rfl,hm⟩:=hp;have e1:i64.wrap ((k:Int)+1)=((k+1:Nat):Int):=by rw[nO (by omega) (by have:=h.1;omega)];omega
   have ho:=yB (es:=es) (hd:=(pr,(),())) (by omega)
   have h8:=OZ (hdr:=hdr) (bs:=bs) (ss:=ss) (st:=st) (t:=t) (i:=i) 0 (k:Int) a (bs.length:Int) (k:Int) (es.map (·.1)) (by rw[zeK];omega) (.inl rfl) oz
   have qR:=ih (k+1) (by omega)
   rw[aw,hd];simp only[jX,Cn,kO.1];cases hf:(es.map (·.1)).find? (jW t i) with
   |some o=>
    rw[hf] at h8;simp only[if_true] at h8;simp only[ez,↓xo,oT ((k:Int)<(bs.length:Int)),oT (0<=(k:Int)/\(k:Int)<(bs.length:Int)),zdA,zdB,hx,zdy,au,hm,ho,aJ hm,↓xl,h8,zez]
   |none=>
    rw[hf] at h8;simp only[ez,↓xo,xw,oT ((k:Int)<(bs.length:Int)),oT (0<=(k:Int)/\(k:Int)<(bs.length:Int)),zdA,zdB,hx,zdy,au,hm,ho,aJ hm,↓xl,h8,e1,qR];cases jX t i st (bs.drop (k+1)) with
    |none=>rfl
    |some x=>simp only[zdO];rw[show k+1+x.1=k+(x.1+1) by omega]
 have:=key bs.length 0 (by omega)
 simp only[zfc,zep] at this;exact this
theorem TD (h:Co st ss)(a:Int)(oz:cY):ag (dL WX) (((),t,i,(),1,a,(),(ss.length:Int),0,()),hdr,bs,ss,oz,st,())=
  some (match jX t i st ss with|some (m,o)=> .inr (.inl (((),(m:Int),(),()),hdr,o,bs,ss,st,()))|none=> .inr (.inr (((),t,i,(),a,()),hdr,oz,bs,ss,st,()))):=by
 have key: ∀n k:Nat,k+n=ss.length->ag (dL WX) (((),t,i,(),1,a,(),(ss.length:Int),(k:Int),()),hdr,bs,ss,oz,st,())=
   some (match jX t i st (ss.drop k) with|some (m,o)=> .inr (.inl (((),((k+m:Nat):Int),(),()),hdr,o,bs,ss,st,()))|none=> .inr (.inr (((),t,i,(),a,()),hdr,oz,bs,ss,st,()))):=by
  intro n;induction n with
  |zero=>
   intro k hk;have:ss.drop k=[]:=ze7 (by omega)
   rw[aw,this];simp only[dL,↓xo,oF ((k:Int)<(ss.length:Int)),zdz,jX]
  |succ n ih=>
   intro k hk;have ti:k<ss.length:=by omega
   have hx:=zdE ti;obtain⟨pr,es,hp,O0⟩:=h.2 _ (zeO ti);have hd:ss.drop k=ss[k]::ss.drop (k+1):=zfm ti;generalize ss[k]=p at hx hp hd;have kO:=hp.oM;obtain⟨m,rfl,hm⟩:=hp;have e1:i64.wrap ((k:Int)+1)=((k+1:Nat):Int):=by rw[nO (by omega) (by have:=h.1;omega)];omega
   have ho:=yB (es:=es) (hd:=(pr,(),())) (by omega)
   have h8:=OZ (hdr:=hdr) (bs:=bs) (ss:=ss) (st:=st) (t:=t) (i:=i) 1 (k:Int) a (ss.length:Int) (k:Int) (es.map (·.1)) (by rw[zeK];omega) (.inr rfl) oz
   have qR:=ih (k+1) (by omega)
   rw[aw,hd];simp only[jX,Cn,kO.1];cases hf:(es.map (·.1)).find? (jW t i) with
   |some o=>
    rw[hf] at h8;simp only[if_neg (show¬(1:Int)=0 by omega)] at h8
    simp only[dL,↓xo,oT ((k:Int)<(ss.length:Int)),oT (0<=(k:Int)/\(k:Int)<(ss.length:Int)),zdA,zdB,hx,zdy,au,hm,ho,aJ hm,↓xl,Cp,h8,zez]
   |none=>
    rw[hf] at h8;simp only[dL,↓xo,xw,oT ((k:Int)<(ss.length:Int)),oT (0<=(k:Int)/\(k:Int)<(ss.length:Int)),zdA,zdB,hx,zdy,au,hm,ho,aJ hm,↓xl,Cp,h8,e1,qR];cases jX t i st (ss.drop (k+1)) with
    |none=>rfl
    |some x=>simp only[zdO];rw[show k+1+x.1=k+(x.1+1) by omega]
 have:=key ss.length 0 (by omega)
 simp only[zfc,zep] at this;exact this
theorem EN (hb:Co st bs)(hs:Co st ss):fN WX (((),t,i,()),(hdr,bs,ss,st,()))=some (match jX t i st bs with
  |some (m,o)=> .inl (((),(m:Int),o,()),(hdr,bs,ss,st,()))
  |none=>match jX t i st ss with
   |some (m,o)=> .inr (.inl (((),(m:Int),o,()),(hdr,bs,ss,st,())))
   |none=> .inr (.inr (((),0,o0,()),(hdr,bs,ss,st,())))):=by
 have h5:=WA (hdr:=hdr) (ss:=ss) (t:=t) (i:=i) hb 0 o0;have h5b:=TD (hdr:=hdr) (bs:=bs) (t:=t) (i:=i) hs 1 o0;have e0:(0:Int)<2:=by omega
 have e1:(1:Int)<2:=by omega
 have z0:(0:Int)=((0:Nat):Int):=rfl;have z1: ¬(1:Int)=((0:Nat):Int):=by omega
 have z2:(1:Int)=((1:Nat):Int):=rfl;have w1:i64.wrap (0+1)=1:=by rw[nO (by omega) (by omega)];rfl
 have w2:i64.wrap (1+1)=2:=by rw[nO (by omega) (by omega)];rfl
 have e2: ¬(2:Int)<2:=by omega
 have hl:ag (dS WX) (((),t,i,(),0,()),hdr,bs,ss,o0,st,())=some (match jX t i st bs with
   |some (m,o)=> .inl (((),(m:Int),(),()),hdr,o,bs,ss,st,())
   |none=>match jX t i st ss with
    |some (m,o)=> .inr (.inl (((),(m:Int),(),()),hdr,o,bs,ss,st,()))
    |none=> .inr (.inr (((),()),hdr,o0,bs,ss,st,()))):=by
  rw[aw];cases hf:jX t i st bs with
  |some x=>
   rw[hf] at h5;simp only[dS,↓xo,ot e0,zdA,ot z0,↓xl,h5,zdy]
  |none=>
   rw[hf] at h5;simp only[dS,↓xo,xw,ot e0,zdA,ot z0,↓xl,h5,zdy,w1];rw[aw];cases xN:jX t i st ss with
   |some x=>
    rw[xN] at h5b;simp only[dS,↓xo,ot e1,zdA,bc z1,zdz,ot z2,↓xl,h5b,zdy]
   |none=>
    rw[xN] at h5b;simp only[dS,↓xo,xw,ot e1,zdA,bc z1,zdz,ot z2,↓xl,h5b,zdy,w2];rw[aw];simp only[dS,↓xo,bc e2,zdz]
 cases hf:jX t i st bs with
 |some x=>
  rw[hf] at hl;simp only[fN,↓xl,hl,zdy]
 |none=>
  rw[hf] at hl;cases xN:jX t i st ss with
  |some x=>
   rw[xN] at hl;simp only[fN,↓xl,hl,zdy]
  |none=>
   rw[xN] at hl;simp only[fN,↓xl,hl,zdy]
end
theorem TE {l:List Nat}{st:List gz}{i:Nat}(h:i<l.length)(hl:l.length<=1000000):bd WX (((),(i:Int),((i+1:Nat):Int),()),(l,st,()))=some (((),()),(l.eraseIdx i,st,())):=by
 have e0:((i:Int)-(0:Int)).toNat=i:=by omega
 have e1:(l.drop (i+1)).length=l.length-(i+1):=by rw[zd4]
 have e2:l.take (0+i)++l.drop (i+1)++l.drop (0+i+(l.length-(i+1)))=l.eraseIdx i++l.drop (l.length-1):=by
  rw[zep,zff,show i+(l.length-(i+1))=l.length-1 by omega]
 have e3:(l.eraseIdx i).length=l.length-1:=zfg h;have e4:i+(l.length-(i+1))=l.length-1:=by omega
 have e5:(l.drop (l.length-1)).length=1:=by rw[zd4];omega
 have e6: ∀X:List Nat,(l.eraseIdx i++X).take (l.length-1)=l.eraseIdx i:=λX=>by rw[List.take_append_of_le_length (by omega),zd9 (by omega)]
 simp only[bd,↓xo,oT (0<=(i:Int)/\(i:Int)<=((i+1:Nat):Int)/\((i+1:Nat):Int)<=(l.length:Int)/\(l.length:Int)<=(l.length:Int)),zdA,oF ((i:Int)=((i+1:Nat):Int)),zdz,oT (0<=(0:Int)/\(0:Int)<=(i:Int)/\(i:Int)<=(l.length:Int)),
  oT (0<=((i+1:Nat):Int)/\((i+1:Nat):Int)<=(l.length:Int)),e0,zdB,e1,oT (0+i+(l.length-(i+1))<=l.length),e2,e4]
 simp only[e6,zfc,List.append_assoc,ot (show 0<=((l.length-1:Nat):Int)/\((l.length-1:Nat):Int)<=(l.length:Int)/\(l.length:Int)<=(((l.eraseIdx i++l.drop (l.length-1)).length-0:Nat):Int) by rw[zdI,e3,e5];omega),zdA]
section
variable {hdr:Np}{bs ss:List Nat}{st:List gz}{t i:Int}
def mS (l:List Nat)(m:Nat)(es:List nB):List Nat:=if es=[] then l.eraseIdx m else l
theorem KB {m p:Nat}{pr:Int}{es:List nB}(h:bs[m]?=some p)(hp:tE st p pr es)(hl:bs.length<=1000):jm WX (((),(m:Int),()),(hdr,bs,ss,st,()))=some ((),(hdr,mS bs m es,ss,st,())):=by
 have hm:=(List.getElem?_eq_some_iff.1 h).1;obtain⟨n,rfl,hn⟩:=hp;have hd:=TE (st:=st) hm (by omega)
 have e1:i64.wrap ((m:Int)+1)=((m+1:Nat):Int):=by rw[nO (by omega) (by omega)];omega
 unfold mS;by_cases h0:es=[]
 ·subst h0
  have z:((([]:List nB).length:Nat):Int)=0:=rfl;simp only[jm,↓xo,xw,oT (0<=(m:Int)/\(m:Int)<(bs.length:Int)),zdA,zdB,h,zdy,au,hn,du,ot z,aJ hn,e1,hd,if_true]
 ·have z: ¬((es.length:Nat):Int)=0:=λe=>h0 (zd8 (by omega))
  simp only[jm,↓xo,oT (0<=(m:Int)/\(m:Int)<(bs.length:Int)),zdA,zdB,h,zdy,au,hn,du,bc z,zdz,aJ hn,if_neg h0]
theorem G4 {m p:Nat}{pr:Int}{es:List nB}(h:ss[m]?=some p)(hp:tE st p pr es)(hl:ss.length<=1000):gp WX (((),(m:Int),()),(hdr,bs,ss,st,()))=some ((),(hdr,bs,mS ss m es,st,())):=by
 have hm:=(List.getElem?_eq_some_iff.1 h).1;obtain⟨n,rfl,hn⟩:=hp;have hd:=TE (st:=st) hm (by omega)
 have e1:i64.wrap ((m:Int)+1)=((m+1:Nat):Int):=by rw[nO (by omega) (by omega)];omega
 unfold mS;by_cases h0:es=[]
 ·subst h0
  have z:((([]:List nB).length:Nat):Int)=0:=rfl;simp only[gp,↓xo,xw,oT (0<=(m:Int)/\(m:Int)<(ss.length:Int)),zdA,zdB,h,zdy,au,hn,du,ot z,aJ hn,e1,hd,if_true]
 ·have z: ¬((es.length:Nat):Int)=0:=λe=>h0 (zd8 (by omega))
  simp only[gp,↓xo,oT (0<=(m:Int)/\(m:Int)<(ss.length:Int)),zdA,zdB,h,zdy,au,hn,du,bc z,zdz,aJ hn,if_neg h0]
theorem ui: ∀{l:List Nat} {m:Nat} {o:cY},jX t i st l=some (m,o)->∃p,l[m]?=some p/\Cn t i st p=some o
 | [],_,_,h=>by cases h
 |p::ps,m,o,h=>by
  simp only[jX] at h;cases e:Cn t i st p with
  |some x=>rw[e] at h;cases h;exact⟨p,rfl,e⟩
  |none=>
   rw[e] at h;simp only at h;cases e2:jX t i st ps with
   |none=>rw[e2] at h;cases h
   |some y=>
    rw[e2] at h;obtain⟨m',o'⟩:=y;cases h;obtain⟨q,h1,h2⟩:=ui e2;exact⟨q,by simpa using h1,h2⟩
theorem KC (hb:Co st bs)(hs:Co st ss):fk WX (((),t,i,()),(hdr,bs,ss,st,()))=some ((match jX t i st bs with|some (_,o)=>(o,true,())|none=>match jX t i st ss with|some (_,o)=>(o,true,())|none=>(o0,false,())),(hdr,bs,ss,st,())):=by
 have h:=EN (hdr:=hdr) (t:=t) (i:=i) hb hs;cases hf:jX t i st bs with
 |some x=>rw[hf] at h;simp only[fk,h,zdy]
 |none=>
  rw[hf] at h;cases xN:jX t i st ss with
  |some x=>rw[xN] at h;simp only[fk,h,zdy]
  |none=>rw[xN] at h;simp only[fk,h,zdy]
def oN (t i:Int)(es:List nB):List nB:=match es.findIdx? (λe=>jW t i e.1) with|some n=>es.eraseIdx n|none=>es
theorem EO {es:List nB}{hd:Int×Unit×Unit}(hl:es.length<=1000000){o:cY}(h:(es.map (·.1)).find? (jW t i)=some o):eL WX (((),t,i,()),(hd,es,()))=some ((o,true,()),(hd,oN t i es,())):=by
 rw[QO hl];unfold oN;rw[List.find?_map] at h;simp only[zew] at h;obtain⟨e,h1,rfl⟩:=h;have h2:=h1;rw[List.find?_eq_some_iff_getElem] at h2;obtain⟨h3,n,hn,h4,h5⟩:=h2;have:es.findIdx? (λe=>jW t i e.1)=some n:=by
  rw[zfi];refine⟨hn,by rw[h4];exact h3,λj hj=>?_⟩
  have:=h5 j hj;simpa using this
 rw[this];simp only[zdP,zdE hn,zeV,h4]
end
def kj (st:List gz)(p:Nat)(es:List nB):List gz:=st.set (p-1) ((fF st p,(),()),es,())
section
variable {hdr:Np}{bs ss:List Nat}{st:List gz}{t i:Int}
theorem tE.put {p:Nat}{pr:Int}{es nT:List nB}(h:tE st p pr es):tE (kj st p nT) p pr nT:=by
 have he:=h.oM;obtain⟨n,rfl,hn⟩:=h;refine⟨n,rfl,?_⟩;unfold kj;rw[he.2];have:=(List.getElem?_eq_some_iff.1 hn).1;show(st.set n _)[n]?=_
 rw[ze8];simp[this]
theorem tE.tQ {p q:Nat}{pr:Int}{es nT:List nB}(h:tE st q pr es)(lF:q≠p)(hp:p≠0):tE (kj st p nT) q pr es:=by
 obtain⟨n,rfl,hn⟩:=h;refine⟨n,rfl,?_⟩;unfold kj;rw[zee (by omega)];exact hn
def EP (t i:Int)(bs ss:List Nat)(st:List gz):cY×Bool×List Nat×List Nat×List gz:=match jX t i st bs with
 |some (m,o)=>(o,true,mS bs m (oN t i (dC st (bs.getD m 0))),ss,kj st (bs.getD m 0) (oN t i (dC st (bs.getD m 0))))
 |none=>match jX t i st ss with
  |some (m,o)=>(o,true,bs,mS ss m (oN t i (dC st (ss.getD m 0))),kj st (ss.getD m 0) (oN t i (dC st (ss.getD m 0))))
  |none=>(o0,false,bs,ss,st)
theorem Nq (hb:Co st bs)(hs:Co st ss):fR WX (((),t,i,()),(hdr,bs,ss,st,()))=some (((EP t i bs ss st).1,(EP t i bs ss st).2.1,()),(hdr,(EP t i bs ss st).2.2.1,(EP t i bs ss st).2.2.2.1,(EP t i bs ss st).2.2.2.2,())):=by
 have h:=EN (hdr:=hdr) (t:=t) (i:=i) hb hs;unfold EP;cases hf:jX t i st bs with
 |some x=>
  rw[hf] at h;obtain⟨m,o⟩:=x;obtain⟨p,h1,h2⟩:=ui hf;have hm:=(List.getElem?_eq_some_iff.1 h1).1;obtain⟨pr,es,h3,h4⟩:=hb.2 p (zeB h1);have h5:=h3.oM;have h6:=h3;obtain⟨n,rfl,hn⟩:=h6;simp only[Cn,h5.1] at h2;have hr:=EO (hd:=(pr,(),())) (by omega) h2
  have ER:=KB (hdr:=hdr) (ss:=ss) (es:=oN t i es) h1 (h3.put (nT:=oN t i es)) hb.1;have hg:bs.getD m 0=n+1:=by rw[zdP,h1];rfl
  have CW:kj st (n+1) (oN t i es)=st.set n ((pr,(),()),oN t i es,()):=by unfold kj;rw[h5.2];rfl
  rw[CW] at ER;simp only[fR,h,zdy,↓xo,oT (0<=(m:Int)/\(m:Int)<(bs.length:Int)),zdA,zdB,h1,au,hn,hr,ER,hg,h5.1,CW]
 |none=>
  rw[hf] at h;cases xN:jX t i st ss with
  |some x=>
   rw[xN] at h;obtain⟨m,o⟩:=x;obtain⟨p,h1,h2⟩:=ui xN;have hm:=(List.getElem?_eq_some_iff.1 h1).1;obtain⟨pr,es,h3,h4⟩:=hs.2 p (zeB h1);have h5:=h3.oM;have h6:=h3;obtain⟨n,rfl,hn⟩:=h6;simp only[Cn,h5.1] at h2;have hr:=EO (hd:=(pr,(),())) (by omega) h2
   have ER:=G4 (hdr:=hdr) (bs:=bs) (es:=oN t i es) h1 (h3.put (nT:=oN t i es)) hs.1;have hg:ss.getD m 0=n+1:=by rw[zdP,h1];rfl
   have CW:kj st (n+1) (oN t i es)=st.set n ((pr,(),()),oN t i es,()):=by unfold kj;rw[h5.2];rfl
   rw[CW] at ER;simp only[fR,h,zdy,↓xo,oT (0<=(m:Int)/\(m:Int)<(ss.length:Int)),zdA,zdB,h1,au,hn,hr,ER,hg,h5.1,CW]
  |none=>
   rw[xN] at h;simp only[fR,h,zdy]
def IU (t i q:Int)(bs ss:List Nat)(st:List gz):Bool×List gz:=match jX t i st bs with
 |some (m,_)=>((mE t i q (dC st (bs.getD m 0))).1,kj st (bs.getD m 0) (mE t i q (dC st (bs.getD m 0))).2)
 |none=>match jX t i st ss with
  |some (m,_)=>((mE t i q (dC st (ss.getD m 0))).1,kj st (ss.getD m 0) (mE t i q (dC st (ss.getD m 0))).2)
  |none=>(false,st)
theorem TF (hb:Co st bs)(hs:Co st ss)(q:Int):gJ WX (((),t,i,q,()),(hdr,bs,ss,st,()))=some (((IU t i q bs ss st).1,()),(hdr,bs,ss,(IU t i q bs ss st).2,())):=by
 have h:=EN (hdr:=hdr) (t:=t) (i:=i) hb hs;unfold IU;cases hf:jX t i st bs with
 |some x=>
  rw[hf] at h;obtain⟨m,o⟩:=x;obtain⟨p,h1,h2⟩:=ui hf;have hm:=(List.getElem?_eq_some_iff.1 h1).1;obtain⟨pr,es,h3,h4⟩:=hb.2 p (zeB h1);have h5:=h3.oM;obtain⟨n,rfl,hn⟩:=h3;have hr:=OY (hd:=(pr,(),())) (es:=es) (by omega) t i q
  have hg:bs.getD m 0=n+1:=by rw[zdP,h1];rfl
  have CW:kj st (n+1) (mE t i q es).2=st.set n ((pr,(),()),(mE t i q es).2,()):=by unfold kj;rw[h5.2];rfl
  simp only[gJ,h,zdy,↓xo,oT (0<=(m:Int)/\(m:Int)<(bs.length:Int)),zdA,zdB,h1,au,hn,hr,hg,h5.1,CW]
 |none=>
  rw[hf] at h;cases xN:jX t i st ss with
  |some x=>
   rw[xN] at h;obtain⟨m,o⟩:=x;obtain⟨p,h1,h2⟩:=ui xN;have hm:=(List.getElem?_eq_some_iff.1 h1).1;obtain⟨pr,es,h3,h4⟩:=hs.2 p (zeB h1);have h5:=h3.oM;obtain⟨n,rfl,hn⟩:=h3;have hr:=OY (hd:=(pr,(),())) (es:=es) (by omega) t i q
   have hg:ss.getD m 0=n+1:=by rw[zdP,h1];rfl
   have CW:kj st (n+1) (mE t i q es).2=st.set n ((pr,(),()),(mE t i q es).2,()):=by unfold kj;rw[h5.2];rfl
   simp only[gJ,h,zdy,↓xo,oT (0<=(m:Int)/\(m:Int)<(ss.length:Int)),zdA,zdB,h1,au,hn,hr,hg,h5.1,CW]
  |none=>
   rw[xN] at h;simp only[gJ,h,zdy]
def px (st:List gz)(l:List Nat):Int:=gU (l.map λp=>((dC st p).length:Int))
theorem IV (h:Co st bs)(k:Nat):0<=px st (bs.take k)/\px st (bs.take k)<=100000000:=by
 have:=wR (l:=(bs.take k).map λp=>((dC st p).length:Int)) (m:=100000) (λx hx=>by
  obtain⟨p,h1,rfl⟩:=List.mem_map.1 hx;obtain⟨pr,es,h2,h3⟩:=h.2 p (zeC h1);rw[h2.oM.1];omega)
 have hlen:((bs.take k).map λp=>((dC st p).length:Int)).length<=1000:=by rw[zeK,zd3];have:=h.1;omega
 refine⟨this.1,zfj this.2 ?_⟩;have:(((((bs.take k).map λp=>((dC st p).length:Int)).length:Nat)):Int)<=1000:=by omega
 omega
theorem zag (h:Co st bs)(c:Int)(hc:0<=c/\c<=1000000000)(z:Int):ag (fA WX) (((),c,((),(),()),z,(),(bs.length:Int),0,()),hdr,bs,ss,st,())=some (((),c+px st bs,((),(),()),z,()),hdr,bs,ss,st,()):=by
 have key: ∀n k:Nat,k+n=bs.length->ag (fA WX) (((),c+px st (bs.take k),((),(),()),z,(),(bs.length:Int),(k:Int),()),hdr,bs,ss,st,())=some (((),c+px st bs,((),(),()),z,()),hdr,bs,ss,st,()):=by
  intro n;induction n with
  |zero=>
   intro k hk;have:bs.take k=bs:=zd9 (by omega)
   rw[aw,this];simp only[fA,↓xo,oF ((k:Int)<(bs.length:Int)),zdz]
  |succ n ih=>
   intro k hk;have ti:k<bs.length:=by omega
   have hx:=zdE ti;obtain⟨pr,es,hp,O0⟩:=h.2 _ (zeO ti);generalize bs[k]=p at hx hp;have kO:=hp.oM;have ht:px st (bs.take (k+1))=px st (bs.take k)+(es.length:Int):=by
    unfold px;rw[ze9,hx,zfk,jQ];simp[gU,kO.1]
   obtain⟨m,rfl,hm⟩:=hp;have b1:=IV h k;have e1:i64.wrap ((k:Int)+1)=((k+1:Nat):Int):=by rw[nO (by omega) (by have:=h.1;omega)];omega
   have e2:i64.wrap (c+px st (bs.take k)+(es.length:Int))=c+px st (bs.take (k+1)):=by rw[nO (by omega) (by omega),ht];omega
   have qR:=ih (k+1) (by omega)
   rw[aw];simp only[fA,↓xo,xw,oT ((k:Int)<(bs.length:Int)),oT (0<=(k:Int)/\(k:Int)<(bs.length:Int)),zdA,zdB,hx,zdy,au,hm,du,aJ hm,e1,e2,qR]
 have:=key bs.length 0 (by omega)
 have e:c+px st (bs.take 0)=c:=by simp[px,gU]
 rw[e] at this;exact this
end
section
variable {hdr:Np}{bs ss:List Nat}{st:List gz}{t i:Int}
theorem WB (h:Co st ss)(c:Int)(hc:0<=c/\c<=1000000000)(z:Int):ag (eQ WX) (((),c,((),(),()),z,(),(ss.length:Int),0,()),hdr,bs,ss,st,())=some (((),c+px st ss,((),(),()),z,()),hdr,bs,ss,st,()):=by
 have key: ∀n k:Nat,k+n=ss.length->ag (eQ WX) (((),c+px st (ss.take k),((),(),()),z,(),(ss.length:Int),(k:Int),()),hdr,bs,ss,st,())=some (((),c+px st ss,((),(),()),z,()),hdr,bs,ss,st,()):=by
  intro n;induction n with
  |zero=>
   intro k hk;have:ss.take k=ss:=zd9 (by omega)
   rw[aw,this];simp only[eQ,↓xo,oF ((k:Int)<(ss.length:Int)),zdz]
  |succ n ih=>
   intro k hk;have ti:k<ss.length:=by omega
   have hx:=zdE ti;obtain⟨pr,es,hp,O0⟩:=h.2 _ (zeO ti);generalize ss[k]=p at hx hp;have kO:=hp.oM;have ht:px st (ss.take (k+1))=px st (ss.take k)+(es.length:Int):=by
    unfold px;rw[ze9,hx,zfk,jQ];simp[gU,kO.1]
   obtain⟨m,rfl,hm⟩:=hp;have b1:=IV h k;have e1:i64.wrap ((k:Int)+1)=((k+1:Nat):Int):=by rw[nO (by omega) (by have:=h.1;omega)];omega
   have e2:i64.wrap (c+px st (ss.take k)+(es.length:Int))=c+px st (ss.take (k+1)):=by rw[nO (by omega) (by omega),ht];omega
   have qR:=ih (k+1) (by omega)
   rw[aw];simp only[eQ,↓xo,xw,oT ((k:Int)<(ss.length:Int)),oT (0<=(k:Int)/\(k:Int)<(ss.length:Int)),zdA,zdB,hx,zdy,au,hm,du,aJ hm,e1,e2,qR]
 have:=key ss.length 0 (by omega)
 have e:c+px st (ss.take 0)=c:=by simp[px,gU]
 rw[e] at this;exact this
theorem O3 (hb:Co st bs)(hs:Co st ss):iq WX (((),()),(hdr,bs,ss,st,()))=some ((px st bs+px st ss,()),(hdr,bs,ss,st,())):=by
 have c1:=IV hb bs.length;rw[zeS] at c1;have h1:=zag (hdr:=hdr) (ss:=ss) hb 0 (by omega) 0
 have h2:=WB (hdr:=hdr) (bs:=bs) hs (px st bs) (by omega) 1
 have e0:(0:Int)<2:=by omega
 have e1:(1:Int)<2:=by omega
 have e2: ¬(2:Int)<2:=by omega
 have z0:(0:Int)=((0:Nat):Int):=rfl;have z1: ¬(1:Int)=((0:Nat):Int):=by omega
 have z2:(1:Int)=((1:Nat):Int):=rfl;have w1:i64.wrap (0+1)=1:=by rw[nO (by omega) (by omega)];rfl
 have w2:i64.wrap (1+1)=2:=by rw[nO (by omega) (by omega)];rfl
 rw[Int.zero_add] at h1;have hl:ag (fB WX) (((),0,((),(),()),0,()),hdr,bs,ss,st,())=some ((px st bs+px st ss,()),(hdr,bs,ss,st,())):=by
  rw[aw];simp only[fB,↓xo,xw,ot e0,zdA,ot z0,↓xl,h1,zdy,w1];rw[aw];simp only[fB,↓xo,xw,ot e1,zdA,bc z1,zdz,ot z2,↓xl,h2,zdy,w2];rw[aw];simp only[fB,↓xo,bc e2,zdz]
 simp only[iq,↓xl,hl,zdy]
def qL (st:List gz)(l:List Nat):List cY:=l.flatMap λp=>(dC st p).map (·.1)
theorem TG (l:List Nat):((qL st l).length:Int)=px st l:=by
 unfold qL px;induction l with
 |nil=>rfl
 |cons p l ih=>simp only[zen,zdI,zeK,zex,gU,zev] at*;omega
theorem KD {l:List Nat}(h:Co st l)(k:Nat):(qL st (l.take k)).length<=100000000:=by
 have h1:=TG (st:=st) (l.take k);have h2:=IV h k;omega
theorem QR (h:Co st bs):ag (dF WX) (((),(),(),(bs.length:Int),0,()),hdr,bs,ss,[],st,())=some ((qL st bs,()),hdr,bs,ss,st,()):=by
 have key: ∀n k:Nat,k+n=bs.length->ag (dF WX) (((),(),(),(bs.length:Int),(k:Int),()),hdr,bs,ss,qL st (bs.take k),st,())=some ((qL st bs,()),hdr,bs,ss,st,()):=by
  intro n;induction n with
  |zero=>
   intro k hk;have:bs.take k=bs:=zd9 (by omega)
   rw[aw,this];simp only[dF,↓xo,oF ((k:Int)<(bs.length:Int)),zdz]
  |succ n ih=>
   intro k hk;have ti:k<bs.length:=by omega
   have hx:=zdE ti;obtain⟨pr,es,hp,O0⟩:=h.2 _ (zeO ti);generalize bs[k]=p at hx hp;have kO:=hp.oM;have ht:qL st (bs.take (k+1))=qL st (bs.take k)++es.map (·.1):=by
    unfold qL;rw[ze9,hx,List.flatMap_append];simp[kO.1]
   have b1:=KD h k;obtain⟨m,rfl,hm⟩:=hp;have e1:i64.wrap ((k:Int)+1)=((k+1:Nat):Int):=by rw[nO (by omega) (by have:=h.1;omega)];omega
   have ho:=yB (es:=es) (hd:=(pr,(),())) (by omega)
   have qR:=ih (k+1) (by omega)
   rw[ht] at qR;rw[aw];simp only[dF,↓xo,xw,oT ((k:Int)<(bs.length:Int)),oT (0<=(k:Int)/\(k:Int)<(bs.length:Int)),zdA,zdB,hx,zdy,au,hm,ho,aJ hm,ot (show(((qL st (bs.take k)).length+(es.map (·.1)).length:Nat):Int)*((72:Nat):Int)<=((room:Nat):Int) by rw[zeK];unfold room;omega),e1,qR]
 have:=key bs.length 0 (by omega)
 exact this
theorem Nr (h:Co st ss):ag (db WX) (((),(),(),(ss.length:Int),0,()),hdr,bs,ss,[],st,())=some ((qL st ss,()),hdr,bs,ss,st,()):=by
 have key: ∀n k:Nat,k+n=ss.length->ag (db WX) (((),(),(),(ss.length:Int),(k:Int),()),hdr,bs,ss,qL st (ss.take k),st,())=some ((qL st ss,()),hdr,bs,ss,st,()):=by
  intro n;induction n with
  |zero=>
   intro k hk;have:ss.take k=ss:=zd9 (by omega)
   rw[aw,this];simp only[db,↓xo,oF ((k:Int)<(ss.length:Int)),zdz]
  |succ n ih=>
   intro k hk;have ti:k<ss.length:=by omega
   have hx:=zdE ti;obtain⟨pr,es,hp,O0⟩:=h.2 _ (zeO ti);generalize ss[k]=p at hx hp;have kO:=hp.oM;have ht:qL st (ss.take (k+1))=qL st (ss.take k)++es.map (·.1):=by
    unfold qL;rw[ze9,hx,List.flatMap_append];simp[kO.1]
   have b1:=KD h k;obtain⟨m,rfl,hm⟩:=hp;have e1:i64.wrap ((k:Int)+1)=((k+1:Nat):Int):=by rw[nO (by omega) (by have:=h.1;omega)];omega
   have ho:=yB (es:=es) (hd:=(pr,(),())) (by omega)
   have qR:=ih (k+1) (by omega)
   rw[ht] at qR;rw[aw];simp only[db,↓xo,xw,oT ((k:Int)<(ss.length:Int)),oT (0<=(k:Int)/\(k:Int)<(ss.length:Int)),zdA,zdB,hx,zdy,au,hm,ho,aJ hm,ot (show(((qL st (ss.take k)).length+(es.map (·.1)).length:Nat):Int)*((72:Nat):Int)<=((room:Nat):Int) by rw[zeK];unfold room;omega),e1,qR]
 have:=key ss.length 0 (by omega)
 exact this
theorem Dm (s:Int)(hs:s=1\/s=2)(x:Np×List Nat×List Nat×List gz×Unit):eF WX (((),s,()),x)=some (if s=1 then .inr (.inl (((),()),x)) else .inr (.inr (((),()),x))):=by
 rcases hs with rfl|rfl
 ·have w:i64.wrap (1-1)=((0:Nat):Int):=by rw[nO (by omega) (by omega)];rfl
  simp only[eF,↓xo,xw,eq_self,iL,zdC,zdz,w,zdA,if_true]
 ·have w:i64.wrap (2-1)=1:=by rw[nO (by omega) (by omega)];rfl
  have e1: ¬(2:Int)=1:=by omega
  have z1: ¬(1:Int)=((0:Nat):Int):=by omega
  have z2:(1:Int)=((1:Nat):Int):=rfl;simp only[eF,↓xo,xw,bc e1,zdD,zdA,eq_self,iL,zdC,zdz,w,bc z1,ot z2,if_neg e1]
theorem zE (o:cY)(hs:aG o=1\/aG o=2)(x:Np×List Nat×List Nat×List gz×Unit):dU WX (((),o,()),x)=some (if aG o=1 then .inr (.inr (((),()),x)) else .inr (.inl (((),()),x))):=by
 have w:i64.wrap (3-aG o)=3-aG o:=nO (by omega) (by omega)
 have h:=Dm (3-aG o) (by omega) x
 rcases hs with h1|h1
 ·rw[if_neg (by omega)] at h
  simp only[dU,xw,w,h,zdy,if_pos h1]
 ·rw[if_pos (by omega)] at h
  have h2: ¬aG o=1:=by omega
  simp only[dU,xw,w,h,zdy,if_neg h2]
theorem Ns (hb:Co st bs)(hs:Co st ss)(s:Int)(h:s=1\/s=2):fy WX (((),s,()),(hdr,bs,ss,st,()))=some (.inr ((qL st (if s=1 then bs else ss),()),(hdr,bs,ss,st,()))):=by
 have h0:=Dm s h (hdr,bs,ss,st,());have h1:=QR (hdr:=hdr) (ss:=ss) hb;have h2:=Nr (hdr:=hdr) (bs:=bs) hs;by_cases e:s=1
 ·rw[if_pos e] at h0
  simp only[fy,h0,zdy,↓xl,h1,if_pos e]
 ·rw[if_neg e] at h0
  simp only[fy,h0,zdy,↓xl,h2,if_neg e]
end
def yS (st:List gz)(l:List Nat):Prop:=Co st l/\∀p∈l,∀e∈dC st p,nk e
def qA (o:cY)(st:List gz):List Nat->Int->Bool
 | [],_=>false
 |p::ps,q=>if(!lB o (fF st p))=true then false else if(mc o.2.2.1 (dC st p)).1>=q then true else if(mc o.2.2.1 (dC st p)).2=true then false else qA o st ps (q-(mc o.2.2.1 (dC st p)).1)
theorem Cq (jL:Int){es:List nB}(hl:es.length<=1000000)(he: ∀e∈es,nk e):0<=(mc jL es).1/\(mc jL es).1<=1048576000000:=by
 unfold mc;split
 ·exact EM he hl _
 ·have:=wR (l:=es.map λe=>aj e.1) (m:=1048576) (λx hx=>by
   obtain⟨e,h1,rfl⟩:=List.mem_map.1 hx;have:=he e h1;unfold nk at this;omega)
  rw[zeK] at this;refine⟨this.1,zfj this.2 ?_⟩;have:((es.length:Nat):Int)<=1000000:=by omega
  omega
def iQ (o:cY):Bool:=decide (gV o=1)||decide (gV o=5)
theorem iS (o:cY):jM WX ((o,()),())=some ((iQ o,()),()):=by
 unfold iQ;by_cases h:gV o=1
 ·simp only[jM,↓xo,ot h,zdA,decide_eq_true h,Bool.true_or]
 ·simp only[jM,↓xo,bc h,zdz,decide_eq_false h,ze1,kM]
section
variable {hdr:Np}{bs ss:List Nat}{st:List gz}{t i:Int}
theorem TH (h:yS st bs)(o:cY): ∀(n k:Nat) (q:Int),k+n=bs.length->1<=q->q<=1048576->∃o',ag (cW WX) (((),(),(),(bs.length:Int),(k:Int),()),hdr,bs,ss,aq o q,st,())=some (if qA o st (bs.drop k) q then .inr ((true,()),hdr,o',bs,ss,st,()) else .inl ((),hdr,o',bs,ss,st,())):=by
 intro n;induction n with
 |zero=>
  intro k q hk h1 h2;have:bs.drop k=[]:=ze7 (by omega)
  refine⟨aq o q,?_⟩;rw[aw,this];simp only[cW,↓xo,oF ((k:Int)<(bs.length:Int)),zdz,qA,zdG,if_false]
 |succ n ih=>
  intro k q hk h1 h2;have ti:k<bs.length:=by omega
  have hx:=zdE ti;have tv:=zeO ti;obtain⟨pr,es,hp,O0⟩:=h.1.2 _ tv;have l8:=h.2 _ tv;have hd:bs.drop k=bs[k]::bs.drop (k+1):=zfm ti;generalize bs[k]=p at hx hp hd l8;have kO:=hp.oM;rw[kO.1] at l8;obtain⟨m,rfl,hm⟩:=hp;have e1:i64.wrap ((k:Int)+1)=((k+1:Nat):Int):=by rw[nO (by omega) (by have:=h.1.1;omega)];omega
  have hc:cJ WX ((aq o q,pr,()),())=some ((lB o pr,()),()):=vT (aq o q) pr;have hr:=KA (hd:=(pr,(),())) (es:=es) o.2.2.1 (by omega) l8
  rw[aw,hd];simp only[qA,kO.1,kO.2];cases CX:lB o pr with
  |false=>
   refine⟨aq o q,?_⟩;rw[CX] at hc;simp only[cW,↓xo,oT ((k:Int)<(bs.length:Int)),oT (0<=(k:Int)/\(k:Int)<(bs.length:Int)),zdA,zdB,hx,zdy,au,hm,ah,hc,zdD,zdG,if_false,if_true,aJ hm,zdC]
  |true=>
   rw[CX] at hc;simp only[zdC,zdG,if_false];have hq:(aq o q).2.2.2.2.2.2.1=q:=rfl;have hf:(aq o q).2.2.1=o.2.2.1:=rfl;have b0:=Cq o.2.2.1 (es:=es) (by omega) l8
   by_cases sG:(mc o.2.2.1 es).1>=q
   ·refine⟨aq o q,?_⟩
    rw[if_pos sG];simp only[cW,↓xo,oT ((k:Int)<(bs.length:Int)),oT (0<=(k:Int)/\(k:Int)<(bs.length:Int)),zdA,zdB,hx,zdy,au,hm,ah,hc,zdC,zdz,aJ hm,hf,hr,hq,ot sG,if_true]
   ·rw[if_neg sG]
    have w1:i64.wrap (q-(mc o.2.2.1 es).1)=q-(mc o.2.2.1 es).1:=nO (by omega) (by omega)
    cases tq:(mc o.2.2.1 es).2 with
    |true=>
     refine⟨aq o (q-(mc o.2.2.1 es).1),?_⟩;simp only[cW,↓xo,xw,oT ((k:Int)<(bs.length:Int)),oT (0<=(k:Int)/\(k:Int)<(bs.length:Int)),zdA,zdB,hx,zdy,au,hm,ah,hc,zdC,zdz,aJ hm,hf,hr,hq,bc sG,tq,w1,if_true,zdG,if_false];rfl
    |false=>
     obtain⟨o',qR⟩:=ih (k+1) (q-(mc o.2.2.1 es).1) (by omega) (by omega) (by omega)
     refine⟨o',?_⟩;simp only[aq] at qR;simp only[cW,↓xo,xw,oT ((k:Int)<(bs.length:Int)),oT (0<=(k:Int)/\(k:Int)<(bs.length:Int)),zdA,zdB,hx,zdy,au,hm,ah,hc,zdC,zdz,aJ hm,hf,hr,hq,bc sG,tq,w1,e1,zdG,if_false];simp only[aq,qR]
theorem QS (h:yS st ss)(o:cY): ∀(n k:Nat) (q:Int),k+n=ss.length->1<=q->q<=1048576->∃o',ag (cC WX) (((),(),(),(ss.length:Int),(k:Int),()),hdr,bs,ss,aq o q,st,())=some (if qA o st (ss.drop k) q then .inr ((true,()),hdr,o',bs,ss,st,()) else .inl ((),hdr,o',bs,ss,st,())):=by
 intro n;induction n with
 |zero=>
  intro k q hk h1 h2;have:ss.drop k=[]:=ze7 (by omega)
  refine⟨aq o q,?_⟩;rw[aw,this];simp only[cC,↓xo,oF ((k:Int)<(ss.length:Int)),zdz,qA,zdG,if_false]
 |succ n ih=>
  intro k q hk h1 h2;have ti:k<ss.length:=by omega
  have hx:=zdE ti;have tv:=zeO ti;obtain⟨pr,es,hp,O0⟩:=h.1.2 _ tv;have l8:=h.2 _ tv;have hd:ss.drop k=ss[k]::ss.drop (k+1):=zfm ti;generalize ss[k]=p at hx hp hd l8;have kO:=hp.oM;rw[kO.1] at l8;obtain⟨m,rfl,hm⟩:=hp;have e1:i64.wrap ((k:Int)+1)=((k+1:Nat):Int):=by rw[nO (by omega) (by have:=h.1.1;omega)];omega
  have hc:cJ WX ((aq o q,pr,()),())=some ((lB o pr,()),()):=vT (aq o q) pr;have hr:=KA (hd:=(pr,(),())) (es:=es) o.2.2.1 (by omega) l8
  rw[aw,hd];simp only[qA,kO.1,kO.2];cases CX:lB o pr with
  |false=>
   refine⟨aq o q,?_⟩;rw[CX] at hc;simp only[cC,↓xo,oT ((k:Int)<(ss.length:Int)),oT (0<=(k:Int)/\(k:Int)<(ss.length:Int)),zdA,zdB,hx,zdy,au,hm,ah,hc,zdD,zdG,if_false,if_true,aJ hm,zdC]
  |true=>
   rw[CX] at hc;simp only[zdC,zdG,if_false];have hq:(aq o q).2.2.2.2.2.2.1=q:=rfl;have hf:(aq o q).2.2.1=o.2.2.1:=rfl;have b0:=Cq o.2.2.1 (es:=es) (by omega) l8
   by_cases sG:(mc o.2.2.1 es).1>=q
   ·refine⟨aq o q,?_⟩
    rw[if_pos sG];simp only[cC,↓xo,oT ((k:Int)<(ss.length:Int)),oT (0<=(k:Int)/\(k:Int)<(ss.length:Int)),zdA,zdB,hx,zdy,au,hm,ah,hc,zdC,zdz,aJ hm,hf,hr,hq,ot sG,if_true]
   ·rw[if_neg sG]
    have w1:i64.wrap (q-(mc o.2.2.1 es).1)=q-(mc o.2.2.1 es).1:=nO (by omega) (by omega)
    cases tq:(mc o.2.2.1 es).2 with
    |true=>
     refine⟨aq o (q-(mc o.2.2.1 es).1),?_⟩;simp only[cC,↓xo,xw,oT ((k:Int)<(ss.length:Int)),oT (0<=(k:Int)/\(k:Int)<(ss.length:Int)),zdA,zdB,hx,zdy,au,hm,ah,hc,zdC,zdz,aJ hm,hf,hr,hq,bc sG,tq,w1,if_true,zdG,if_false];rfl
    |false=>
     obtain⟨o',qR⟩:=ih (k+1) (q-(mc o.2.2.1 es).1) (by omega) (by omega) (by omega)
     refine⟨o',?_⟩;simp only[aq] at qR;simp only[cC,↓xo,xw,oT ((k:Int)<(ss.length:Int)),oT (0<=(k:Int)/\(k:Int)<(ss.length:Int)),zdA,zdB,hx,zdy,au,hm,ah,hc,zdC,zdz,aJ hm,hf,hr,hq,bc sG,tq,w1,e1,zdG,if_false];simp only[aq,qR]
theorem Cr (o:cY):aq o (aj o)=o:=rfl
theorem QT (hb:yS st bs)(hs:yS st ss)(o:cY)(JM:aG o=1\/aG o=2)(hq:1<=aj o/\aj o<=1048576):ed WX (((),o,()),(hdr,bs,ss,st,()))=some ((qA o st (if aG o=1 then ss else bs) (aj o),()),(hdr,bs,ss,st,())):=by
 have ha:=zE o JM (hdr,bs,ss,st,());by_cases h1:aG o=1
 ·obtain⟨o',h⟩:=QS (hdr:=hdr) (bs:=bs) hs o ss.length 0 (aj o) (by omega) hq.1 hq.2
  change ag (cC WX) (((),(),(),(ss.length:Int),0,()),hdr,bs,ss,o,st,())=_ at h;rw[zfc] at h;rw[if_pos h1] at ha;rw[if_pos h1];simp only[ed,ha,zdy,↓xl,h];cases qA o st ss (aj o)<;>rfl
 ·obtain⟨o',h⟩:=TH (hdr:=hdr) (ss:=ss) hb o bs.length 0 (aj o) (by omega) hq.1 hq.2
  change ag (cW WX) (((),(),(),(bs.length:Int),0,()),hdr,bs,ss,o,st,())=_ at h;rw[zfc] at h;rw[if_neg h1] at ha;rw[if_neg h1];simp only[ed,ha,zdy,↓xl,h];cases qA o st bs (aj o)<;>rfl
end
def zF (hs:List nB):Prop:= ∀h∈hs,1<=h.2.1
def ir (hs:List nB):Int:=gU (hs.map λh=>h.2.1)
theorem Ga (a b:List nB):ir (a++b)=ir a+ir b:=by unfold ir;rw[zfk,jQ]
theorem AJ (jL:Int): ∀(k:Nat) (q:Int) (es out:List nB),0<=q->q<=k->(∀e∈es,nk e)->zF out->
  zF (eY jL k q es out).2.1/\ir (eY jL k q es out).2.1+(eY jL k q es out).2.2.2=ir out+q/\0<=(eY jL k q es out).2.2.2/\(eY jL k q es out).2.2.2<=q/\(∀e∈(eY jL k q es out).2.2.1,nk e)/\(eY jL k q es out).2.2.1.length<=es.length/\
   ((eY jL k q es out).1=true->(eY jL k q es out).2.2.1≠ [])/\((eY jL k q es out).1=false->(eY jL k q es out).2.2.2=0\/(eY jL k q es out).2.2.1=[])/\(eY jL k q es out).2.1.length<=out.length+k:=by
 intro k;induction k with
 |zero=>
  intro q es out h0 hq he ho;unfold eY;exact⟨ho,rfl,h0,zeF _,he,zdV _,λh=>(by cases h),λ_=> .inl (by show q=0;omega),zdV _⟩
 |succ k ih=>
  intro q es out h0 hq he ho;unfold eY;by_cases hq0:q>0
  ·rw[if_pos hq0]
   cases es with
   |nil=>exact⟨ho,rfl,h0,zeF _,he,zdV _,λh=>(by cases h),λ_=> .inr rfl,by show out.length<=_;omega⟩
   |cons e r=>
    simp only;by_cases hf:e.1.2.2.1=jL
    ·rw[if_pos hf]
     exact⟨ho,rfl,h0,zeF _,he,zdV _,λ_=>(λh=>by cases h),λh=>(by cases h),by show out.length<=_;omega⟩
    ·rw[if_neg hf]
     have hee:=he e (zdM ..);have L4:1<=min q e.2.1:=by have:=hee.1;omega
     have Jj:min q e.2.1<=e.2.1:=by omega
     have hg:=EL hee (λx hx=>he x (zdL _ hx)) L4 Jj;have mX:zF (out++ [(e.1,min q e.2.1,())]):=λh hh=>by
      rcases List.mem_append.1 hh with hh|hh
      ·exact ho h hh
      ·rw[zeZ] at hh;subst hh;exact L4
     obtain⟨i1,i2,i3,i4,i5,i6,i7,i8,i9⟩:=ih (q-min q e.2.1) (vR e r (min q e.2.1)) (out++ [(e.1,min q e.2.1,())]) (by omega) (by omega) hg.1 mX
     have hs:ir (out++ [(e.1,min q e.2.1,())])=ir out+min q e.2.1:=by rw[Ga];simp[ir,gU]
     rw[hs] at i2;refine⟨i1,by omega,i3,by omega,i5,?_,i7,i8,?_⟩
     ·have:=hg.2;simp only[zdJ];omega
     ·rw[zdI] at i9;simp only[zdJ,zdK] at i9;omega
  ·rw[if_neg hq0]
   exact⟨ho,rfl,h0,zeF _,he,zdV _,λh=>(by cases h),λ_=> .inl (by show q=0;omega),by show out.length<=_;omega⟩
def lS (gM:Int):List nB->Int×cY×List mm->Int×cY×List mm
 | [],s=>s
 |h::r,(no,o,out)=>lS gM r (i64.wrap (no+1),aq o (aj o-h.2.1),out++ [(h.1,o,gM,h.2.1,i64.wrap (no+1),())])
def rE (gM last:Int)(hs:List nB):Int:=if hs=[] then last else gM
section
variable {bs ss:List Nat}{st:List gz}
theorem Yc (gM:Int)(own:Bool): ∀(hs:List nB) (pre:List nB) (last no:Int) (o:cY) (out:List mm),zF hs->ir hs<=aj o->aj o<=1048576->(pre++hs).length<=2000000->out.length+hs.length<=100000000->
  ag (cF WX) (((),(),(),(),gM,own,pre++hs,((pre++hs).length:Int),(pre.length:Int),()),(((),(),()),last,no,()),bs,ss,o,out,st,())=
   some (((),(),(),(),own,()),(((),(),()),rE gM last hs,(lS gM hs (no,o,out)).1,()),(lS gM hs (no,o,out)).2.1,bs,ss,(lS gM hs (no,o,out)).2.2,st,()):=by
 intro hs;induction hs with
 |nil=>
  intro pre last no o out _ _ _ _ _;rw[aw];simp only[cF,↓xo,ze2,oF ((pre.length:Int)<(pre.length:Int)),zdz,lS,rE,if_true]
 |cons h r ih=>
  intro pre last no o out hh hs hq hl ho;have h1:=hh h (zdM ..);have XM:ir (h::r)=h.2.1+ir r:=by simp[ir,gU]
  have hr0:0<=ir r:=by
   unfold ir;have: ∀l:List nB,zF l->0<=gU (l.map λh=>h.2.1):=by
    intro l;induction l with
    |nil=>intro _;simp[gU]
    |cons x l ihl=>
     intro hx;have a:=hx x (zdM ..);have b:=ihl λy hy=>hx y (zdL _ hy);simp only[zex,gU,zev] at*;omega
   exact this r λx hx=>hh x (zdL _ hx)
  rw[XM] at hs;have hx:(pre++h::r)[pre.length]?=some h:=by simp
  have hlen:(pre++h::r).length=pre.length+(r.length+1):=by simp
  have e1:i64.wrap ((pre.length:Int)+1)=(((pre++ [h]).length:Nat):Int):=by rw[nO (by omega) (by omega),zdI];simp
  have w1:i64.wrap (o.2.2.2.2.2.2.1-h.2.1)=aj o-h.2.1:=by
   show i64.wrap (aj o-h.2.1)=_
   exact nO (by omega) (by omega)
  have hpp:pre++h::r=(pre++ [h])++r:=by simp
  have Rv:rE gM gM r=gM:=by unfold rE;split<;>rfl
  have hl2:rE gM last (h::r)=gM:=by unfold rE;rw[if_neg (by intro e;cases e)]
  have uE:aj (aq o (aj o-h.2.1))=aj o-h.2.1:=rfl;have qR:=ih (pre++ [h]) gM (i64.wrap (no+1)) (aq o (aj o-h.2.1)) (out++ [(h.1,o,gM,h.2.1,i64.wrap (no+1),())]) (λx hx=>hh x (zdL _ hx)) (by rw[uE];omega) (by rw[uE];omega) (by rw[<-hpp];exact hl) (by rw[zdI];simp only[zdJ,zdK] at*;omega)
  rw[<-hpp,Rv] at qR;simp only[aq] at qR;have qf:(((out.length+([(h.1,o,gM,h.2.1,i64.wrap (no+1),())]:List mm).length:Nat):Int))*((168:Nat):Int)<=((room:Nat):Int):=by
   unfold room;simp only[zdJ,zdK] at*;omega
  rw[aw];simp only[cF,↓xo,xw,oT ((pre.length:Int)<((pre++h::r).length:Int)),oT ((0:Int)<=(pre.length:Int)),zdA,zdB,hx,zdy,ot qf,e1,w1,qR,lS,hl2,aq]
theorem Nt:eg WX=cF WX:=rfl
theorem BE (gM:Int): ∀(hs:List nB) (no:Int) (o:cY) (out:List mm),∃q,(lS gM hs (no,o,out)).2.1=aq o q/\q=aj o-ir hs
 | [],no,o,out=>⟨aj o,rfl,by simp[ir,gU]⟩
 |h::r,no,o,out=>by
  obtain⟨q,h1,h2⟩:=BE gM r (i64.wrap (no+1)) (aq o (aj o-h.2.1)) (out++ [(h.1,o,gM,h.2.1,i64.wrap (no+1),())]);refine⟨q,h1,?_⟩;have:ir (h::r)=h.2.1+ir r:=by simp[ir,gU]
  rw[this,h2];show aj o-h.2.1-ir r=_
  omega
end
def gW (o:cY):List Nat->List gz->Int->Int->Int->List mm->Bool×Int×List Nat×List gz×Int×Int×List mm
 | [],st,q,last,no,out=>(false,q,[],st,last,no,out)
 |p::ps,st,q,last,no,out=>
  if q>0/\lB o (fF st p)=true then
   (if(eY o.2.2.1 q.toNat q (dC st p) []).1=true then(true,(eY o.2.2.1 q.toNat q (dC st p) []).2.2.2,p::ps,kj st p (eY o.2.2.1 q.toNat q (dC st p) []).2.2.1,rE (fF st p) last (eY o.2.2.1 q.toNat q (dC st p) []).2.1,(lS (fF st p) (eY o.2.2.1 q.toNat q (dC st p) []).2.1 (no,aq o q,out)).1,(lS (fF st p) (eY o.2.2.1 q.toNat q (dC st p) []).2.1 (no,aq o q,out)).2.2)
   else if(eY o.2.2.1 q.toNat q (dC st p) []).2.2.1=[] then gW o ps (kj st p (eY o.2.2.1 q.toNat q (dC st p) []).2.2.1) (eY o.2.2.1 q.toNat q (dC st p) []).2.2.2 (rE (fF st p) last (eY o.2.2.1 q.toNat q (dC st p) []).2.1) (lS (fF st p) (eY o.2.2.1 q.toNat q (dC st p) []).2.1 (no,aq o q,out)).1 (lS (fF st p) (eY o.2.2.1 q.toNat q (dC st p) []).2.1 (no,aq o q,out)).2.2
   else(false,(eY o.2.2.1 q.toNat q (dC st p) []).2.2.2,p::ps,kj st p (eY o.2.2.1 q.toNat q (dC st p) []).2.2.1,rE (fF st p) last (eY o.2.2.1 q.toNat q (dC st p) []).2.1,(lS (fF st p) (eY o.2.2.1 q.toNat q (dC st p) []).2.1 (no,aq o q,out)).1,(lS (fF st p) (eY o.2.2.1 q.toNat q (dC st p) []).2.1 (no,aq o q,out)).2.2))
  else(false,q,p::ps,st,last,no,out)
theorem KE {hs:List nB}(h:zF hs):(hs.length:Int)<=ir hs:=by
 unfold ir;induction hs with
 |nil=>simp[gU]
 |cons x l ih=>
  have a:=h x (zdM ..);have b:=ih λy hy=>h y (zdL _ hy);simp only[zex,gU,zev,zdJ] at*;omega
theorem BF (gM:Int): ∀(hs:List nB) (no:Int) (o:cY) (out:List mm),(lS gM hs (no,o,out)).2.2.length=out.length+hs.length
 | [],_,_,_=>rfl
 |h::r,no,o,out=>by
  simp only[lS];rw[BF gM r];simp only[zdI,zdJ,zdK];omega
theorem ES {st:List gz}{p q:Nat}{nT:List nB}(lF:q≠p)(hp:p≠0):dC (kj st p nT) q=dC st q:=by
 cases q with
 |zero=>rfl
 |succ n=>
  unfold kj dC;simp only[zdP];rw[zee (by omega)]
theorem G5 {st:List gz}{p:Nat}{ps:List Nat}{nT:List nB}(hk:yS st (p::ps))(hn:(p::ps).Nodup):yS (kj st p nT) ps:=by
 have hnp:=(List.nodup_cons.1 hn).1;obtain⟨pr,es,hp,_⟩:=hk.1.2 p (zdM ..);have hp0:p≠0:=by obtain⟨n,rfl,_⟩:=hp;omega
 refine⟨⟨by have:=hk.1.1;simp only[zdJ] at this;omega,λq hq=>?_⟩,λq hq e he=>?_⟩
 ·obtain⟨WC,TI,h1,h2⟩:=hk.1.2 q (zdL _ hq)
  exact⟨WC,TI,h1.tQ (by rintro rfl;exact hnp hq) hp0,h2⟩
 ·rw[ES (by rintro rfl;exact hnp hq) hp0] at he
  exact hk.2 q (zdL _ hq) e he
section
variable {bs ss:List Nat}
theorem zah {hdr:Np}{bs ss:List Nat}{st:List gz}{m p:Nat}{pr:Int}{es:List nB}(l0:bs[m]?=some p)(hp:tE st p pr es)(hl:bs.length<=1000):jm WX (((),(m:Int),()),(hdr,bs,ss,st,()))=some ((),(hdr,mS bs m es,ss,st,())):=KB l0 hp hl
theorem zai {hdr:Np}{bs ss:List Nat}{st:List gz}{m p:Nat}{pr:Int}{es:List nB}(l0:ss[m]?=some p)(hp:tE st p pr es)(hl:ss.length<=1000):gp WX (((),(m:Int),()),(hdr,bs,ss,st,()))=some ((),(hdr,bs,mS ss m es,st,())):=G4 l0 hp hl
theorem TJ (o:cY): ∀(l:List Nat) (st:List gz) (q last no:Int) (out:List mm),0<=q->q<=1048576->(out.length:Int)+q<=50000000->yS st l->l.Nodup->
  ag (bV WX) (((),(),(),(),()),(((),(),()),last,no,()),l,ss,aq o q,out,st,())=
   some (if(gW o l st q last no out).1=true then .inl (((),(gW o l st q last no out).2.1,true,()),(((),(),()),(gW o l st q last no out).2.2.2.2.1,(gW o l st q last no out).2.2.2.2.2.1,()),aq o (gW o l st q last no out).2.1,(gW o l st q last no out).2.2.1,ss,(gW o l st q last no out).2.2.2.2.2.2,(gW o l st q last no out).2.2.2.1,())
    else .inr (((),(gW o l st q last no out).2.2.2.2.2.2,()),(((),(),()),(gW o l st q last no out).2.2.2.2.1,(gW o l st q last no out).2.2.2.2.2.1,()),aq o (gW o l st q last no out).2.1,(gW o l st q last no out).2.2.1,ss,(gW o l st q last no out).2.2.2.1,())):=by
 intro l;have z:(0:Int).toNat=0:=rfl;induction l with
 |nil=>
  intro st q last no out h0 h1 ho hk hn;rw[aw];have hz: ¬((([]:List Nat).length:Nat):Int)>0:=by simp
  by_cases hq:q>0
  ·have uE:(aq o q).2.2.2.2.2.2.1>0:=hq
   simp only[bV,↓xo,ot uE,zdA,bc hz,zdz,gW,zdG,if_false]
  ·have uE: ¬(aq o q).2.2.2.2.2.2.1>0:=hq
   simp only[bV,↓xo,bc uE,zdz,gW,zdG,if_false]
 |cons p ps ih=>
  intro st q last no out h0 h1 ho hk hn;have i0:0<=(0:Int)/\(0:Int)<(((p::ps).length:Nat):Int):=by simp only[zdJ];omega
  have i1:(((p::ps).length:Nat):Int)>0:=i0.2;rw[aw];by_cases hq:q>0
  ·have uE:(aq o q).2.2.2.2.2.2.1>0:=hq
   obtain⟨pr,es,hp,O0⟩:=hk.1.2 p (zdM ..);have l8:=hk.2 p (zdM ..);have kO:=hp.oM;rw[kO.1] at l8;have hc:cJ WX ((aq o q,pr,()),())=some ((lB o pr,()),()):=vT (aq o q) pr;have zaj: ∀nT,tE (kj st p nT) p pr nT:=λnT=>hp.put;have TK:=hp;obtain⟨m,rfl,hm⟩:=TK;have CW: ∀nT,kj st (m+1) nT=st.set m ((pr,(),()),nT,()):=λnT=>by unfold kj;rw[kO.2];rfl
   cases CX:lB o pr with
   |false=>
    rw[CX] at hc;simp only[bV,↓xo,ot uE,ot i1,ot i0,z,zeb,zdA,zdy,au,hm,ah,hc,zdz,aJ hm,gW,kO.2,CX,zdG,and_false,if_false]
   |true=>
    rw[CX] at hc;have ht:=OX (hd:=(pr,(),())) (es:=es) o.2.2.1 h0 h1 (by have:=hk.1.1;have:=O0;omega) l8
    obtain⟨t1,t2,t3,t4,t5,t6,t7,t8,t9⟩:=AJ o.2.2.1 q.toNat q es [] h0 (by omega) l8 (λh hh=>by cases hh)
    have hf:(aq o q).2.2.1=o.2.2.1:=rfl;have hqq:(aq o q).2.2.2.2.2.2.1=q:=rfl;simp only[gW,kO.1,kO.2,CX,and_true,if_pos hq];generalize eY o.2.2.1 q.toNat q es []=T at*;obtain⟨own,py,nT,q'⟩:=T;simp only at*;have JK:ir py=q-q':=by have:ir ([]:List nB)=0:=rfl;omega
    have hlen:=KE t1;have h7:=Yc (bs:=(m+1)::ps) (ss:=ss) (st:=st.set m ((pr,(),()),nT,())) pr own py [] last no (aq o q) out t1 (by show ir py<=q;omega) (by show q<=1048576;omega) (by simp only[zeA];omega) (by omega)
    obtain⟨q2,e1,e2⟩:=BE pr py no (aq o q) out;have e3:q2=q':=by rw[e2];show q-ir py=q';omega
    rw[e3] at e1;have YG:=BF pr py no (aq o q) out;generalize lS pr py (no,aq o q,out)=H at*;obtain⟨Va,oo,xt⟩:=H;simp only at*;subst e1;rw[zeA] at h7;change ag (cF WX) (((),(),(),(),pr,own,py,(py.length:Int),0,()),_,_,_,_,_,_,())=_ at h7;have ER:=zah (hdr:=(((),(),()),rE pr last py,Va,())) (ss:=ss) (bs:=(m+1)::ps) (m:=0) (p:=m+1) (es:=nT) (l0:=rfl) (zaj nT) hk.1.1;rw[CW] at ER;change jm WX (((),0,()),_)=_ at ER;cases own with
    |true=>
     have lF:=t7 rfl;have TL:mS ((m+1)::ps) 0 nT=(m+1)::ps:=by unfold mS;rw[if_neg lF]
     rw[TL] at ER;simp only[if_true] at ht;simp only[bV,↓xo,ot uE,ot i1,ot i0,z,zeb,zdA,zdy,au,hm,ah,hc,aJ hm,hf,hqq,ot hq,ht,↓xl,h7,ER,if_true,CW];rfl
    |false=>
     simp only[zdG,if_false] at ht⊢;by_cases lF:nT=[]
     ·subst lF
      have TL:mS ((m+1)::ps) 0 []=ps:=by unfold mS;rw[if_pos rfl];rfl
      rw[TL] at ER;have PJ:=G5 (nT:=[]) hk hn;rw[CW] at PJ;have qR:=ih (st.set m ((pr,(),()),[],())) q' (rE pr last py) Va xt t3 (by omega) (by omega) PJ (List.nodup_cons.1 hn).2
      simp only[bV,↓xo,ot uE,ot i1,ot i0,z,zeb,zdA,zdy,au,hm,ah,hc,aJ hm,hf,hqq,ot hq,ht,↓xl,h7,ER,zdz,CW,if_true];exact qR
     ·have TL:mS ((m+1)::ps) 0 nT=(m+1)::ps:=by unfold mS;rw[if_neg lF]
      rw[TL] at ER;have hq0:q'=0:=(t8 rfl).resolve_right lF;subst hq0;simp only[bV,↓xo,ot uE,ot i1,ot i0,z,zeb,zdA,zdy,au,hm,ah,hc,aJ hm,hf,hqq,ot hq,ht,↓xl,h7,ER,zdz,CW,if_neg lF];rw[aw];have hz: ¬(aq o 0).2.2.2.2.2.2.1>0:=by show¬(0:Int)>0;omega
      simp only[bV,↓xo,aq] at hz⊢;simp only[bc hz,zdz,zdG,if_false]
  ·have uE: ¬(aq o q).2.2.2.2.2.2.1>0:=hq
   have: ¬(q>0/\lB o (fF st p)=true):=λh=>hq h.1;simp only[bV,↓xo,bc uE,zdz,gW,if_neg this,zdG,if_false]
end
section
variable {bs ss:List Nat}
theorem QU (o:cY): ∀(l:List Nat) (st:List gz) (q last no:Int) (out:List mm),0<=q->q<=1048576->(out.length:Int)+q<=50000000->yS st l->l.Nodup->
  ag (bM WX) (((),(),(),(),()),(((),(),()),last,no,()),bs,l,aq o q,out,st,())=
   some (if(gW o l st q last no out).1=true then .inl (((),(gW o l st q last no out).2.1,true,()),(((),(),()),(gW o l st q last no out).2.2.2.2.1,(gW o l st q last no out).2.2.2.2.2.1,()),aq o (gW o l st q last no out).2.1,bs,(gW o l st q last no out).2.2.1,(gW o l st q last no out).2.2.2.2.2.2,(gW o l st q last no out).2.2.2.1,())
    else .inr (((),(gW o l st q last no out).2.2.2.2.2.2,()),(((),(),()),(gW o l st q last no out).2.2.2.2.1,(gW o l st q last no out).2.2.2.2.2.1,()),aq o (gW o l st q last no out).2.1,bs,(gW o l st q last no out).2.2.1,(gW o l st q last no out).2.2.2.1,())):=by
 intro l;have z:(0:Int).toNat=0:=rfl;induction l with
 |nil=>
  intro st q last no out h0 h1 ho hk hn;rw[aw];have hz: ¬((([]:List Nat).length:Nat):Int)>0:=by simp
  by_cases hq:q>0
  ·have uE:(aq o q).2.2.2.2.2.2.1>0:=hq
   simp only[bM,↓xo,ot uE,zdA,bc hz,zdz,gW,zdG,if_false]
  ·have uE: ¬(aq o q).2.2.2.2.2.2.1>0:=hq
   simp only[bM,↓xo,bc uE,zdz,gW,zdG,if_false]
 |cons p ps ih=>
  intro st q last no out h0 h1 ho hk hn;have i0:0<=(0:Int)/\(0:Int)<(((p::ps).length:Nat):Int):=by simp only[zdJ];omega
  have i1:(((p::ps).length:Nat):Int)>0:=i0.2;rw[aw];by_cases hq:q>0
  ·have uE:(aq o q).2.2.2.2.2.2.1>0:=hq
   obtain⟨pr,es,hp,O0⟩:=hk.1.2 p (zdM ..);have l8:=hk.2 p (zdM ..);have kO:=hp.oM;rw[kO.1] at l8;have hc:cJ WX ((aq o q,pr,()),())=some ((lB o pr,()),()):=vT (aq o q) pr;have zaj: ∀nT,tE (kj st p nT) p pr nT:=λnT=>hp.put;have TK:=hp;obtain⟨m,rfl,hm⟩:=TK;have CW: ∀nT,kj st (m+1) nT=st.set m ((pr,(),()),nT,()):=λnT=>by unfold kj;rw[kO.2];rfl
   cases CX:lB o pr with
   |false=>
    rw[CX] at hc;simp only[bM,↓xo,ot uE,ot i1,ot i0,z,zeb,zdA,zdy,au,hm,ah,hc,zdz,aJ hm,gW,kO.2,CX,zdG,and_false,if_false]
   |true=>
    rw[CX] at hc;have ht:=OX (hd:=(pr,(),())) (es:=es) o.2.2.1 h0 h1 (by have:=hk.1.1;have:=O0;omega) l8
    obtain⟨t1,t2,t3,t4,t5,t6,t7,t8,t9⟩:=AJ o.2.2.1 q.toNat q es [] h0 (by omega) l8 (λh hh=>by cases hh)
    have hf:(aq o q).2.2.1=o.2.2.1:=rfl;have hqq:(aq o q).2.2.2.2.2.2.1=q:=rfl;simp only[gW,kO.1,kO.2,CX,and_true,if_pos hq];generalize eY o.2.2.1 q.toNat q es []=T at*;obtain⟨own,py,nT,q'⟩:=T;simp only at*;have JK:ir py=q-q':=by have:ir ([]:List nB)=0:=rfl;omega
    have hlen:=KE t1;have h7:=Yc (bs:=bs) (ss:=(m+1)::ps) (st:=st.set m ((pr,(),()),nT,())) pr own py [] last no (aq o q) out t1 (by show ir py<=q;omega) (by show q<=1048576;omega) (by simp only[zeA];omega) (by omega)
    obtain⟨q2,e1,e2⟩:=BE pr py no (aq o q) out;have e3:q2=q':=by rw[e2];show q-ir py=q';omega
    rw[e3] at e1;have YG:=BF pr py no (aq o q) out;generalize lS pr py (no,aq o q,out)=H at*;obtain⟨Va,oo,xt⟩:=H;simp only at*;subst e1;rw[zeA] at h7;change ag (cF WX) (((),(),(),(),pr,own,py,(py.length:Int),0,()),_,_,_,_,_,_,())=_ at h7;have ER:=zai (hdr:=(((),(),()),rE pr last py,Va,())) (bs:=bs) (ss:=(m+1)::ps) (m:=0) (p:=m+1) (es:=nT) (l0:=rfl) (zaj nT) hk.1.1;rw[CW] at ER;change gp WX (((),0,()),_)=_ at ER;cases own with
    |true=>
     have lF:=t7 rfl;have TL:mS ((m+1)::ps) 0 nT=(m+1)::ps:=by unfold mS;rw[if_neg lF]
     rw[TL] at ER;simp only[if_true] at ht;simp only[bM,↓xo,ot uE,ot i1,ot i0,z,zeb,zdA,zdy,au,hm,ah,hc,aJ hm,hf,hqq,ot hq,ht,↓xl,Nt,h7,ER,if_true,CW];rfl
    |false=>
     simp only[zdG,if_false] at ht⊢;by_cases lF:nT=[]
     ·subst lF
      have TL:mS ((m+1)::ps) 0 []=ps:=by unfold mS;rw[if_pos rfl];rfl
      rw[TL] at ER;have PJ:=G5 (nT:=[]) hk hn;rw[CW] at PJ;have qR:=ih (st.set m ((pr,(),()),[],())) q' (rE pr last py) Va xt t3 (by omega) (by omega) PJ (List.nodup_cons.1 hn).2
      simp only[bM,↓xo,ot uE,ot i1,ot i0,z,zeb,zdA,zdy,au,hm,ah,hc,aJ hm,hf,hqq,ot hq,ht,↓xl,Nt,h7,ER,zdz,CW,if_true];exact qR
     ·have TL:mS ((m+1)::ps) 0 nT=(m+1)::ps:=by unfold mS;rw[if_neg lF]
      rw[TL] at ER;have hq0:q'=0:=(t8 rfl).resolve_right lF;subst hq0;simp only[bM,↓xo,ot uE,ot i1,ot i0,z,zeb,zdA,zdy,au,hm,ah,hc,aJ hm,hf,hqq,ot hq,ht,↓xl,Nt,h7,ER,zdz,CW,if_neg lF];rw[aw];have hz: ¬(aq o 0).2.2.2.2.2.2.1>0:=by show¬(0:Int)>0;omega
      simp only[bM,↓xo,aq] at hz⊢;simp only[bc hz,zdz,zdG,if_false]
  ·have uE: ¬(aq o q).2.2.2.2.2.2.1>0:=hq
   have: ¬(q>0/\lB o (fF st p)=true):=λh=>hq h.1;simp only[bM,↓xo,bc uE,zdz,gW,if_neg this,zdG,if_false]
theorem QV {st:List gz}(hb:yS st bs)(hs:yS st ss)(hnb:bs.Nodup)(vd:ss.Nodup)(o:cY)(last no:Int)(JM:aG o=1\/aG o=2)(hq:0<=aj o/\aj o<=1048576):
  ∃M,M=gW o (if aG o=1 then ss else bs) st (aj o) last no []/\hU WX (((),o,()),((((),(),()),last,no,()),bs,ss,st,()))=
   some (if M.1=true then .inl (((),M.2.1,true,()),(((),(),()),M.2.2.2.2.1,M.2.2.2.2.2.1,()),(if aG o=1 then bs else M.2.2.1),(if aG o=1 then M.2.2.1 else ss),M.2.2.2.2.2.2,M.2.2.2.1,())
    else .inr ((M.2.2.2.2.2.2,M.2.1,false,()),((((),(),()),M.2.2.2.2.1,M.2.2.2.2.2.1,()),(if aG o=1 then bs else M.2.2.1),(if aG o=1 then M.2.2.1 else ss),M.2.2.2.1,()))):=by
 refine⟨_,rfl,?_⟩;have ha:=zE o JM ((((),(),()),last,no,()),bs,ss,st,());by_cases h1:aG o=1
 ·have h:=QU (bs:=bs) o ss st (aj o) last no [] hq.1 hq.2 (by simp only[zdK];omega) hs vd
  rw[Cr] at h;simp only[if_pos h1] at ha⊢;simp only[hU,ha,zdy,↓xl,h];cases (gW o ss st (aj o) last no []).1<;>rfl
 ·have h:=TJ (ss:=ss) o bs st (aj o) last no [] hq.1 hq.2 (by simp only[zdK];omega) hb hnb
  rw[Cr] at h;simp only[if_neg h1] at ha⊢;simp only[hU,ha,zdy,↓xl,h];cases (gW o bs st (aj o) last no []).1<;>rfl
end
theorem uj {n lo hi:Int}(h:FE n lo hi=true):lo<=n/\n<=hi:=by
 unfold FE at h;simp only[zdH,zdN] at h;exact h
structure yh (o:cY):Prop where
 side:aG o=1\/aG o=2
 kind:1<=gV o/\gV o<=5
 nP:1<=aj o/\aj o<=1048576
 zdo:0<=qu o/\qu o<=aj o
 qB:0<=o.1/\o.1<=31
 jL:0<=o.2.2.1/\o.2.2.1<=7
 gM:(gV o=2/\an o=0)\/(¬gV o=2/\1<=an o/\an o<=1048576)
theorem nU {o:cY}(h:oL o=true):yh o:=by
 unfold oL at h;simp only[zdH] at h;obtain⟨h1,h2,⟨h3,h4,h5⟩,⟨h6,h7,h8⟩,h9,Gq⟩:=h;have a:=uj h6;refine⟨by omega,uj h7,uj h8,uj h9,uj h3,uj h4,?_⟩
 by_cases hk:gV o=2
 ·rw[decide_eq_true hk,zdA] at h1
  exact .inl ⟨hk,of_decide_eq_true h1⟩
 ·rw[decide_eq_false hk,zdz] at h1
  exact .inr ⟨hk,uj h1⟩
section
variable {hdr:Np}{bs ss:List Nat}{st:List gz}
def tm (o:cY)(st:List gz)(l:List Nat):Int:=
 if(decide (gV o=5)&&match l with| []=>false|p::_=>lB o (fF st p))=true then 11
 else if(decide (gV o=4)&&!qA o st l (aj o))=true then 12 else 0
def WD (o:cY)(bs ss:List Nat)(st:List gz):Int:=
 if(!oL o)=true then 1 else if¬mr o=0 then 1 else if(jX o.1 o.2.1 st bs).isSome=true\/(jX o.1 o.2.1 st ss).isSome=true then 5
 else if iQ o=true/\px st bs+px st ss>=64 then 4 else tm o st (if aG o=1 then ss else bs)
theorem KF (hb:yS st bs)(hs:yS st ss)(o:cY):aC WX (((),o,()),(hdr,bs,ss,st,()))=some ((WD o bs ss st,()),(hdr,bs,ss,st,())):=by
 unfold WD;have WE: ¬(1:Int)=0:=by omega
 have hR:=AI o;cases hr:oL o with
 |false=>
  rw[hr] at hR;simp only[aC,hR,zdy,zdz,↓xo,bc WE,zdD,zdA,if_true]
 |true=>
  rw[hr] at hR;have l8:=nU hr;have e0:(0:Int)=0:=rfl;by_cases kg:mr o=0
  ·have hF:=KC (hdr:=hdr) (t:=o.1) (i:=o.2.1) hb.1 hs.1
   have hlen:=O3 (hdr:=hdr) hb.1 hs.1;have ha:=zE o l8.side (hdr,bs,ss,st,());have vC:=QT (hdr:=hdr) hb hs o l8.side l8.nP;have TM: ∀x:Nat×cY,(jX o.1 o.2.1 st bs=some x\/(jX o.1 o.2.1 st bs=none/\jX o.1 o.2.1 st ss=some x))->aC WX (((),o,()),(hdr,bs,ss,st,()))=some ((5,()),(hdr,bs,ss,st,())):=by
    intro x hx;rcases hx with hx|⟨HI,hx⟩
    ·rw[hx] at hF
     simp only[aC,hR,zdy,zdA,↓xo,iL,zdC,zdz,ot kg,hF]
    ·rw[HI,hx] at hF
     simp only[aC,hR,zdy,zdA,↓xo,iL,zdC,zdz,ot kg,hF]
   cases hsb:jX o.1 o.2.1 st bs with
   |some x=>
    rw[TM x (.inl hsb)];simp only[zdC,zdG,if_false,kg,not_true_eq_false,zfn,true_or,if_true]
   |none=>
    cases O4:jX o.1 o.2.1 st ss with
    |some x=>
     rw[TM x (.inr ⟨hsb,O4⟩)];simp only[zdC,zdG,if_false,kg,not_true_eq_false,zfn,or_true,if_true]
    |none=>
     rw[hsb,O4] at hF;have wy: ¬((none:Option (Nat×cY)).isSome=true\/(none:Option (Nat×cY)).isSome=true):=by simp
     simp only[zdC,zdG,if_false,kg,not_true_eq_false,if_neg wy];by_cases h4:iQ o=true/\px st bs+px st ss>=64
     ·rw[if_pos h4]
      simp only[aC,hR,zdy,zdA,↓xo,iL,zdC,zdz,ot kg,hF,iS,h4.1,hlen,ot h4.2]
     ·rw[if_neg h4]
      have key: ∀(g:Int),g=tm o st (if aG o=1 then ss else bs)->aC WX (((),o,()),(hdr,bs,ss,st,()))=some ((g,()),(hdr,bs,ss,st,())):=by
       intro g hg;have hcr: ∀(p:Nat) (ps l:List Nat),yS st l->l=p::ps->∃n pr es,p=n+1/\st[n]?=some ((pr,(),()),es,())/\fF st p=pr:=by
        intro p ps l hl he;subst he;obtain⟨pr,es,h1,_⟩:=hl.1.2 p (zdM ..);have:=h1.oM.2;obtain⟨n,rfl,h2⟩:=h1;exact⟨n,pr,es,rfl,h2,this⟩
       have z:(0:Int).toNat=0:=rfl;by_cases h1:aG o=1
       ·rw[if_pos h1] at hg ha vC
        by_cases k5:gV o=5
        ·have k4: ¬gV o=4:=by omega
         cases CF:ss with
         |nil=>
          subst CF;have hz: ¬((([]:List Nat).length:Nat):Int)>0:=by simp
          have AK:g=0:=by rw[hg];unfold tm;simp only[zd7,zdG,if_false,decide_eq_false k4,zfl]
          subst AK;cases uk:iQ o with
          |true=>
           have ET:=λq=>h4 ⟨uk,q⟩;simp only[aC,hR,zdy,zdA,↓xo,iL,zdC,zdz,ot kg,hF,iS,uk,hlen,bc ET,ha,ot k5,bc hz,bc k4]
          |false=>simp only[aC,hR,zdy,zdA,↓xo,iL,zdC,zdz,ot kg,hF,iS,uk,ha,ot k5,bc hz,bc k4]
         |cons p ps=>
          obtain⟨n,pr,es,rfl,hn,BG⟩:=hcr p ps ss hs CF;subst CF;have hz:((((n+1)::ps).length:Nat):Int)>0:=by simp only[zdJ];omega
          have i0:0<=(0:Int)/\(0:Int)<((((n+1)::ps).length:Nat):Int):=⟨by omega,hz⟩
          have hc:=vT o pr;cases CX:lB o pr with
          |true=>
           rw[CX] at hc;have AK:g=11:=by rw[hg];unfold tm;simp only[BG,CX,decide_eq_true k5,decide_eq_false k4,zeX,zd7,zfl,zdG,if_true,if_false]
           subst AK;cases uk:iQ o with
           |true=>
            have ET:=λq=>h4 ⟨uk,q⟩;simp only[aC,hR,zdy,zdA,↓xo,iL,zdC,zdz,ot kg,hF,iS,uk,hlen,bc ET,ha,ot k5,ot hz,ot i0,z,zeb,au,hn,ah,hc,aJ hn]
           |false=>simp only[aC,hR,zdy,zdA,↓xo,iL,zdC,zdz,ot kg,hF,iS,uk,ha,ot k5,ot hz,ot i0,z,zeb,au,hn,ah,hc,aJ hn]
          |false=>
           rw[CX] at hc;have AK:g=0:=by rw[hg];unfold tm;simp only[BG,CX,decide_eq_true k5,decide_eq_false k4,zeX,zd7,zfl,zdG,if_true,if_false]
           subst AK;cases uk:iQ o with
           |true=>
            have ET:=λq=>h4 ⟨uk,q⟩;simp only[aC,hR,zdy,zdA,↓xo,iL,zdC,zdz,ot kg,hF,iS,uk,hlen,bc ET,ha,ot k5,ot hz,ot i0,z,zeb,au,hn,ah,hc,aJ hn,bc k4]
           |false=>simp only[aC,hR,zdy,zdA,↓xo,iL,zdC,zdz,ot kg,hF,iS,uk,ha,ot k5,ot hz,ot i0,z,zeb,au,hn,ah,hc,aJ hn,bc k4]
        ·by_cases k4:gV o=4
         ·cases WG:qA o st ss (aj o) with
          |true=>
           rw[WG] at vC;have AK:g=0:=by rw[hg];unfold tm;simp only[WG,decide_eq_false k5,decide_eq_true k4,zfl,Bool.true_and,zdC,zdD,zdG,if_true,if_false]
           subst AK;cases uk:iQ o with
           |true=>
            have ET:=λq=>h4 ⟨uk,q⟩;simp only[aC,hR,zdy,zdA,↓xo,iL,zdC,zdz,ot kg,hF,iS,uk,hlen,bc ET,ha,bc k5,ot k4,vC,zdD]
           |false=>simp only[aC,hR,zdy,zdA,↓xo,iL,zdC,zdz,ot kg,hF,iS,uk,ha,bc k5,ot k4,vC,zdD]
          |false=>
           rw[WG] at vC;have AK:g=12:=by rw[hg];unfold tm;simp only[WG,decide_eq_false k5,decide_eq_true k4,zfl,Bool.true_and,zdC,zdD,zdG,if_true,if_false]
           subst AK;cases uk:iQ o with
           |true=>
            have ET:=λq=>h4 ⟨uk,q⟩;simp only[aC,hR,zdy,zdA,↓xo,iL,zdC,zdz,ot kg,hF,iS,uk,hlen,bc ET,ha,bc k5,ot k4,vC,zdD]
           |false=>simp only[aC,hR,zdy,zdA,↓xo,iL,zdC,zdz,ot kg,hF,iS,uk,ha,bc k5,ot k4,vC,zdD]
         ·have AK:g=0:=by rw[hg];unfold tm;simp only[decide_eq_false k5,decide_eq_false k4,zfl,zdG,if_false]
          subst AK;cases uk:iQ o with
          |true=>
           have ET:=λq=>h4 ⟨uk,q⟩;simp only[aC,hR,zdy,zdA,↓xo,iL,zdC,zdz,ot kg,hF,iS,uk,hlen,bc ET,ha,bc k5,bc k4]
          |false=>simp only[aC,hR,zdy,zdA,↓xo,iL,zdC,zdz,ot kg,hF,iS,uk,ha,bc k5,bc k4]
       ·rw[if_neg h1] at hg ha vC
        by_cases k5:gV o=5
        ·have k4: ¬gV o=4:=by omega
         cases CF:bs with
         |nil=>
          subst CF;have hz: ¬((([]:List Nat).length:Nat):Int)>0:=by simp
          have AK:g=0:=by rw[hg];unfold tm;simp only[zd7,zdG,if_false,decide_eq_false k4,zfl]
          subst AK;cases uk:iQ o with
          |true=>
           have ET:=λq=>h4 ⟨uk,q⟩;simp only[aC,hR,zdy,zdA,↓xo,iL,zdC,zdz,ot kg,hF,iS,uk,hlen,bc ET,ha,ot k5,bc hz,bc k4]
          |false=>simp only[aC,hR,zdy,zdA,↓xo,iL,zdC,zdz,ot kg,hF,iS,uk,ha,ot k5,bc hz,bc k4]
         |cons p ps=>
          obtain⟨n,pr,es,rfl,hn,BG⟩:=hcr p ps bs hb CF;subst CF;have hz:((((n+1)::ps).length:Nat):Int)>0:=by simp only[zdJ];omega
          have i0:0<=(0:Int)/\(0:Int)<((((n+1)::ps).length:Nat):Int):=⟨by omega,hz⟩
          have hc:=vT o pr;cases CX:lB o pr with
          |true=>
           rw[CX] at hc;have AK:g=11:=by rw[hg];unfold tm;simp only[BG,CX,decide_eq_true k5,decide_eq_false k4,zeX,zd7,zfl,zdG,if_true,if_false]
           subst AK;cases uk:iQ o with
           |true=>
            have ET:=λq=>h4 ⟨uk,q⟩;simp only[aC,hR,zdy,zdA,↓xo,iL,zdC,zdz,ot kg,hF,iS,uk,hlen,bc ET,ha,ot k5,ot hz,ot i0,z,zeb,au,hn,ah,hc,aJ hn]
           |false=>simp only[aC,hR,zdy,zdA,↓xo,iL,zdC,zdz,ot kg,hF,iS,uk,ha,ot k5,ot hz,ot i0,z,zeb,au,hn,ah,hc,aJ hn]
          |false=>
           rw[CX] at hc;have AK:g=0:=by rw[hg];unfold tm;simp only[BG,CX,decide_eq_true k5,decide_eq_false k4,zeX,zd7,zfl,zdG,if_true,if_false]
           subst AK;cases uk:iQ o with
           |true=>
            have ET:=λq=>h4 ⟨uk,q⟩;simp only[aC,hR,zdy,zdA,↓xo,iL,zdC,zdz,ot kg,hF,iS,uk,hlen,bc ET,ha,ot k5,ot hz,ot i0,z,zeb,au,hn,ah,hc,aJ hn,bc k4]
           |false=>simp only[aC,hR,zdy,zdA,↓xo,iL,zdC,zdz,ot kg,hF,iS,uk,ha,ot k5,ot hz,ot i0,z,zeb,au,hn,ah,hc,aJ hn,bc k4]
        ·by_cases k4:gV o=4
         ·cases WG:qA o st bs (aj o) with
          |true=>
           rw[WG] at vC;have AK:g=0:=by rw[hg];unfold tm;simp only[WG,decide_eq_false k5,decide_eq_true k4,zfl,Bool.true_and,zdC,zdD,zdG,if_true,if_false]
           subst AK;cases uk:iQ o with
           |true=>
            have ET:=λq=>h4 ⟨uk,q⟩;simp only[aC,hR,zdy,zdA,↓xo,iL,zdC,zdz,ot kg,hF,iS,uk,hlen,bc ET,ha,bc k5,ot k4,vC,zdD]
           |false=>simp only[aC,hR,zdy,zdA,↓xo,iL,zdC,zdz,ot kg,hF,iS,uk,ha,bc k5,ot k4,vC,zdD]
          |false=>
           rw[WG] at vC;have AK:g=12:=by rw[hg];unfold tm;simp only[WG,decide_eq_false k5,decide_eq_true k4,zfl,Bool.true_and,zdC,zdD,zdG,if_true,if_false]
           subst AK;cases uk:iQ o with
           |true=>
            have ET:=λq=>h4 ⟨uk,q⟩;simp only[aC,hR,zdy,zdA,↓xo,iL,zdC,zdz,ot kg,hF,iS,uk,hlen,bc ET,ha,bc k5,ot k4,vC,zdD]
           |false=>simp only[aC,hR,zdy,zdA,↓xo,iL,zdC,zdz,ot kg,hF,iS,uk,ha,bc k5,ot k4,vC,zdD]
         ·have AK:g=0:=by rw[hg];unfold tm;simp only[decide_eq_false k5,decide_eq_false k4,zfl,zdG,if_false]
          subst AK;cases uk:iQ o with
          |true=>
           have ET:=λq=>h4 ⟨uk,q⟩;simp only[aC,hR,zdy,zdA,↓xo,iL,zdC,zdz,ot kg,hF,iS,uk,hlen,bc ET,ha,bc k5,bc k4]
          |false=>simp only[aC,hR,zdy,zdA,↓xo,iL,zdC,zdz,ot kg,hF,iS,uk,ha,bc k5,bc k4]
      exact key _ rfl
  ·rw[if_neg (show¬((!true)=true) by decide),if_pos kg]
   simp only[aC,hR,zdy,zdA,↓xo,iL,zdC,zdz,bc kg,zdD]
end
def O5 (o:cY)(st:List gz)(l:List Nat):Int:=match l.findIdx? (λp=>!iO (aG o) (fF st p) (an o)) with|some n=>(n:Int)|none=> -1
theorem KG (o:cY){st:List gz}{l:List Nat}(h:Co st l):aD WX ((l,((),()),()),(o,st,()))=some ((O5 o st l,()),(o,st,())):=by
 have key: ∀n k:Nat,k+n=l.length->(∀j,j<k->∀p,l[j]?=some p->(!iO (aG o) (fF st p) (an o))=false)->ag (ay WX) ((l,((),()),(l.length:Int),(k:Int),()),(o,st,()))=
   some (match l.findIdx? (λp=>!iO (aG o) (fF st p) (an o)) with|some n=> .inl (((n:Int),()),(o,st,()))|none=> .inr ((),(o,st,()))):=by
  intro n;induction n with
  |zero=>
   intro k hk wy;have:l.findIdx? (λp=>!iO (aG o) (fF st p) (an o))=none:=by
    rw[zfh];intro e he;obtain⟨j,hj,rfl⟩:=zeh he;exact wy j (by omega) _ (zdE hj)
   rw[aw,this];simp only[ay,↓xo,oF ((k:Int)<(l.length:Int)),zdz]
  |succ n ih=>
   intro k hk wy;have ti:k<l.length:=by omega
   have hx:=zdE ti;obtain⟨pr,es,hp,O0⟩:=h.2 _ (zeO ti);generalize hg:l[k]=p at hx hp;have BG:=hp.oM.2;have e1:i64.wrap ((k:Int)+1)=((k+1:Nat):Int):=by rw[nO (by omega) (by have:=h.1;omega)];omega
   have hb:=QQ (aG o) pr (an o);have hc:hY WX (((),(),()),((pr,(),()),es,o,()))=some ((!iO (aG o) pr (an o),()),((pr,(),()),o,es,())):=by
    simp only[hY,ah,zdy,hb]
   rw[aw];cases hbb:(!iO (aG o) pr (an o)) with
   |true=>
    have:l.findIdx? (λp=>!iO (aG o) (fF st p) (an o))=some k:=by
     rw[zfi];refine⟨ti,by rw[hg,BG];exact hbb,λj hj=>?_⟩
     have:=wy j hj _ (zdE (by omega))
     rw[this];simp
    rw[this];rw[hbb] at hc;obtain⟨m,rfl,hm⟩:=hp;simp only[ay,↓xo,oT ((k:Int)<(l.length:Int)),oT ((0:Int)<=(k:Int)),zdA,zdB,hx,zdy,au,hm,hc,aJ hm]
   |false=>
    rw[hbb] at hc;have qR:=ih (k+1) (by omega) (λj hj q hq=>by
     by_cases e:j=k
     ·subst e;rw[hx] at hq;cases hq;rw[BG];exact hbb
     ·exact wy j (by omega) q hq)
    obtain⟨m,rfl,hm⟩:=hp;simp only[ay,↓xo,xw,oT ((k:Int)<(l.length:Int)),oT ((0:Int)<=(k:Int)),zdA,zdB,hx,zdy,au,hm,hc,zdz,aJ hm,e1,qR]
 have h0:=key l.length 0 (by omega) (λj hj=>by omega)
 change ag (ay WX) ((l,((),()),(l.length:Int),0,()),(o,st,()))=_ at h0;unfold O5;cases hf:l.findIdx? (λp=>!iO (aG o) (fF st p) (an o)) with
 |none=>rw[hf] at h0;simp only[aD,↓xl,h0,zdy]
 |some n=>rw[hf] at h0;simp only[aD,↓xl,h0,zdy]
def uU (o:cY)(l:List Nat)(st:List gz):List Nat×List gz:=match l.findIdx? (λp=>!iO (aG o) (fF st p) (an o)) with
 |none=>(l.take l.length++([st.length+1]++l.drop l.length),st++ [((an o,(),()),[(o,lR o,())],())])
 |some n=>if fF st (l.getD n 0)=an o then(l,kj st (l.getD n 0) (dC st (l.getD n 0)++ [(o,lR o,())])) else(l.take n++([st.length+1]++l.drop n),st++ [((an o,(),()),[(o,lR o,())],())])
section
variable {hdr:Np}{bs ss:List Nat}{st:List gz}
theorem TN (o:cY)(JM:aG o=1){l:List Nat}(hl:Co st l):bz WX (((),o,()),(hdr,(l,ss,st,())))=some ((),(hdr,(uU o l st).1,ss,(uU o l st).2,())):=by
 have hs:=Dm (aG o) (by omega) (hdr,(l,ss,st,()))
 have hi:=KG o hl;have rk:iU WX ((an o,()),())=some (((),()),((an o,(),()),[],())):=rfl;have MB:bO WX (((),o,()),((an o,(),()),[],()))=some ((),((an o,(),()),[(o,lR o,())],())):=EK (by simp) o
 have Ba: ∀k:Nat,k<=l.length->iy WX (((),(k:Int),(),()),(l,[st.length+1],st++ [((an o,(),()),[],())],()))=some (((),()),(l.take k++([st.length+1]++l.drop k),st++ [((an o,(),()),[],())],())):=λk hk=>by
  have:=hl.1;have hc:0<=(k:Int)/\(k:Int)<=(l.length:Int)/\0<([st.length+1]:List Nat).length/\(((l.length+([st.length+1]:List Nat).length:Nat):Int)*8<=((room:Nat):Int)):=by
   unfold room;simp only[zdJ,zdK];omega
  simp only[iy,↓xo,ot hc,zdA,zdB]
 have qQ: ∀k:Nat,k<=l.length->(l.take k++([st.length+1]++l.drop k))[k]?=some (st.length+1):=λk hk=>by
  rw[zer (by rw[zd3];omega),zd3,zeD hk,Nat.sub_self];rfl
 have hlen: ∀k:Nat,k<=l.length->(l.take k++([st.length+1]++l.drop k)).length=l.length+1:=λk hk=>by simp only[zdI,zd3,zd4,zdJ,zdK];omega
 have AK:(st++ [((an o,(),()),([]:List nB),())])[st.length]?=some ((an o,(),()),[],()):=by simp
 have uD:(st++ [((an o,(),()),([]:List nB),())]).set st.length ((an o,(),()),[(o,lR o,())],())=st++ [((an o,(),()),[(o,lR o,())],())]:=by simp
 unfold uU;unfold O5 at hi;rw[if_pos JM] at hs;cases hf:l.findIdx? (λp=>!iO (aG o) (fF st p) (an o)) with
 |none=>
  rw[hf] at hi;have e0:(-1:Int)<0:=by omega
  have hg:=qQ l.length (zdV _);have hL:=hlen l.length (zdV _);have hI:=Ba l.length (zdV _);simp only[bz,hs,zdy,hi,↓xo,ot e0,zdA,iL,rk,hI,ot (show 0<=(l.length:Int)/\(l.length:Int)<((l.take l.length++([st.length+1]++l.drop l.length)).length:Int) by rw[hL];omega),zdB,hg,au,AK,MB,uD]
 |some n=>
  rw[hf] at hi;have hn:n<l.length:=(List.findIdx?_eq_some_iff_getElem.1 hf).1;have hx:=zdE hn;obtain⟨pr,es,hp,O0⟩:=hl.2 _ (zeO hn);have YU:l.getD n 0=l[n]:=by rw[zdP,hx];rfl
  simp only[YU];generalize l[n]=p at hx hp;have kO:=hp.oM;obtain⟨m,rfl,hm⟩:=hp;simp only[kO.1,kO.2];by_cases BG:pr=an o
  ·have TO:=EK (es:=es) (hd:=(pr,(),())) (by omega) o
   have CW:kj st (m+1) (es++ [(o,lR o,())])=st.set m ((pr,(),()),es++ [(o,lR o,())],()):=by unfold kj;rw[kO.2];rfl
   simp only[bz,hs,zdy,hi,↓xo,oF ((n:Int)<0),zdz,oF ((n:Int)=(l.length:Int)),oT (0<=(n:Int)/\(n:Int)<(l.length:Int)),zdA,zdB,hx,au,hm,ah,ot BG,zdC,aJ hm,TO,if_pos BG,CW]
  ·have hg:=qQ n (by omega)
   have hL:=hlen n (by omega)
   have hI:=Ba n (by omega)
   simp only[bz,hs,zdy,hi,↓xo,oF ((n:Int)<0),zdz,oF ((n:Int)=(l.length:Int)),oT (0<=(n:Int)/\(n:Int)<(l.length:Int)),zdA,zdB,hx,au,hm,ah,bc BG,zdD,aJ hm,rk,hI,ot (show 0<=(n:Int)/\(n:Int)<((l.take n++([st.length+1]++l.drop n)).length:Int) by rw[hL];omega),hg,AK,MB,uD,if_neg BG]
theorem QW (o:cY)(JM:aG o=2){l:List Nat}(hl:Co st l):bz WX (((),o,()),(hdr,(bs,l,st,())))=some ((),(hdr,bs,(uU o l st).1,(uU o l st).2,())):=by
 have hs:=Dm (aG o) (by omega) (hdr,(bs,l,st,()))
 have hi:=KG o hl;have rk:iU WX ((an o,()),())=some (((),()),((an o,(),()),[],())):=rfl;have MB:bO WX (((),o,()),((an o,(),()),[],()))=some ((),((an o,(),()),[(o,lR o,())],())):=EK (by simp) o
 have Ba: ∀k:Nat,k<=l.length->iy WX (((),(k:Int),(),()),(l,[st.length+1],st++ [((an o,(),()),[],())],()))=some (((),()),(l.take k++([st.length+1]++l.drop k),st++ [((an o,(),()),[],())],())):=λk hk=>by
  have:=hl.1;have hc:0<=(k:Int)/\(k:Int)<=(l.length:Int)/\0<([st.length+1]:List Nat).length/\(((l.length+([st.length+1]:List Nat).length:Nat):Int)*8<=((room:Nat):Int)):=by
   unfold room;simp only[zdJ,zdK];omega
  simp only[iy,↓xo,ot hc,zdA,zdB]
 have qQ: ∀k:Nat,k<=l.length->(l.take k++([st.length+1]++l.drop k))[k]?=some (st.length+1):=λk hk=>by
  rw[zer (by rw[zd3];omega),zd3,zeD hk,Nat.sub_self];rfl
 have hlen: ∀k:Nat,k<=l.length->(l.take k++([st.length+1]++l.drop k)).length=l.length+1:=λk hk=>by simp only[zdI,zd3,zd4,zdJ,zdK];omega
 have AK:(st++ [((an o,(),()),([]:List nB),())])[st.length]?=some ((an o,(),()),[],()):=by simp
 have uD:(st++ [((an o,(),()),([]:List nB),())]).set st.length ((an o,(),()),[(o,lR o,())],())=st++ [((an o,(),()),[(o,lR o,())],())]:=by simp
 unfold uU;unfold O5 at hi;rw[if_neg (show¬aG o=1 by omega)] at hs
 cases hf:l.findIdx? (λp=>!iO (aG o) (fF st p) (an o)) with
 |none=>
  rw[hf] at hi;have e0:(-1:Int)<0:=by omega
  have hg:=qQ l.length (zdV _);have hL:=hlen l.length (zdV _);have hI:=Ba l.length (zdV _);simp only[bz,hs,zdy,hi,↓xo,ot e0,zdA,iL,rk,hI,ot (show 0<=(l.length:Int)/\(l.length:Int)<((l.take l.length++([st.length+1]++l.drop l.length)).length:Int) by rw[hL];omega),zdB,hg,au,AK,MB,uD]
 |some n=>
  rw[hf] at hi;have hn:n<l.length:=(List.findIdx?_eq_some_iff_getElem.1 hf).1;have hx:=zdE hn;obtain⟨pr,es,hp,O0⟩:=hl.2 _ (zeO hn);have YU:l.getD n 0=l[n]:=by rw[zdP,hx];rfl
  simp only[YU];generalize l[n]=p at hx hp;have kO:=hp.oM;obtain⟨m,rfl,hm⟩:=hp;simp only[kO.1,kO.2];by_cases BG:pr=an o
  ·have TO:=EK (es:=es) (hd:=(pr,(),())) (by omega) o
   have CW:kj st (m+1) (es++ [(o,lR o,())])=st.set m ((pr,(),()),es++ [(o,lR o,())],()):=by unfold kj;rw[kO.2];rfl
   simp only[bz,hs,zdy,hi,↓xo,oF ((n:Int)<0),zdz,oF ((n:Int)=(l.length:Int)),oT (0<=(n:Int)/\(n:Int)<(l.length:Int)),zdA,zdB,hx,au,hm,ah,ot BG,zdC,aJ hm,TO,if_pos BG,CW]
  ·have hg:=qQ n (by omega)
   have hL:=hlen n (by omega)
   have hI:=Ba n (by omega)
   simp only[bz,hs,zdy,hi,↓xo,oF ((n:Int)<0),zdz,oF ((n:Int)=(l.length:Int)),oT (0<=(n:Int)/\(n:Int)<(l.length:Int)),zdA,zdB,hx,au,hm,ah,bc BG,zdD,aJ hm,rk,hI,ot (show 0<=(n:Int)/\(n:Int)<((l.take n++([st.length+1]++l.drop n)).length:Int) by rw[hL];omega),hg,AK,MB,uD,if_neg BG]
end
abbrev mL:=Int×List nB
def jy (st:List gz)(l:List Nat):List mL:=l.map λp=>(fF st p,dC st p)
def KH (st:List gz)(l:List Nat):Prop:= ∀p∈l,∃pr es,tE st p pr es
def KI (t i:Int)(a:mL):Option cY:=(a.2.map (·.1)).find? (jW t i)
def mj (t i:Int):List mL->Option (Nat×cY)
 | []=>none
 |a::A=>match KI t i a with|some o=>some (0,o)|none=>(mj t i A).map λx=>(x.1+1,x.2)
theorem pM (t i:Int)(st:List gz): ∀l,jX t i st l=mj t i (jy st l)
 | []=>rfl
 |p::l=>by
  have ih:=pM t i st l;simp only[jX,jy,zex,mj,Cn,KI] at*;rw[ih];all_goals (cases ((dC st p).map (·.1)).find? (jW t i)<;>rfl)
def iT (A:List mL):Int:=gU (A.map λa=>(a.2.length:Int))
theorem AL (st:List gz)(l:List Nat):px st l=iT (jy st l):=by
 simp only[px,iT,jy,List.map_map];rfl
def rF (A:List mL):List cY:=A.flatMap λa=>a.2.map (·.1)
theorem QX (st:List gz)(l:List Nat):qL st l=rF (jy st l):=by
 simp only[qL,rF,jy,List.flatMap_map]
def IW (o:cY):List mL->Int->Bool
 | [],_=>false
 |a::A,q=>if(!lB o a.1)=true then false else if(mc o.2.2.1 a.2).1>=q then true else if(mc o.2.2.1 a.2).2=true then false else IW o A (q-(mc o.2.2.1 a.2).1)
theorem EU (o:cY)(st:List gz): ∀l q,qA o st l q=IW o (jy st l) q
 | [],_=>rfl
 |p::l,q=>by
  have ih:=EU o st l (q-(mc o.2.2.1 (dC st p)).1);simp only[qA,jy,zex,IW] at*;rw[ih]
def TP (o:cY)(A:List mL):Int:=
 if(decide (gV o=5)&&match A with| []=>false|a::_=>lB o a.1)=true then 11
 else if(decide (gV o=4)&&!IW o A (aj o))=true then 12 else 0
def Gb (o:cY)(A B:List mL):Int:=
 if(!oL o)=true then 1 else if¬mr o=0 then 1 else if(mj o.1 o.2.1 A).isSome=true\/(mj o.1 o.2.1 B).isSome=true then 5
 else if iQ o=true/\iT A+iT B>=64 then 4 else TP o (if aG o=1 then B else A)
theorem TQ (o:cY)(st:List gz)(bs ss:List Nat):WD o bs ss st=Gb o (jy st bs) (jy st ss):=by
 have h: ∀l,tm o st l=TP o (jy st l):=λl=>by
  unfold tm TP;rw[EU];cases l<;>rfl
 unfold WD Gb;rw[h,pM,pM,AL,AL];by_cases e:aG o=1
 ·simp only[if_pos e]
 ·simp only[if_neg e]
def qC (o:cY):List mL->Int->Int->Int->List mm->Bool×Int×List mL×Int×Int×List mm
 | [],q,last,no,out=>(false,q,[],last,no,out)
 |a::A,q,last,no,out=>
  if q>0/\lB o a.1=true then
   (if(eY o.2.2.1 q.toNat q a.2 []).1=true then(true,(eY o.2.2.1 q.toNat q a.2 []).2.2.2,(a.1,(eY o.2.2.1 q.toNat q a.2 []).2.2.1)::A,rE a.1 last (eY o.2.2.1 q.toNat q a.2 []).2.1,(lS a.1 (eY o.2.2.1 q.toNat q a.2 []).2.1 (no,aq o q,out)).1,(lS a.1 (eY o.2.2.1 q.toNat q a.2 []).2.1 (no,aq o q,out)).2.2)
   else if(eY o.2.2.1 q.toNat q a.2 []).2.2.1=[] then qC o A (eY o.2.2.1 q.toNat q a.2 []).2.2.2 (rE a.1 last (eY o.2.2.1 q.toNat q a.2 []).2.1) (lS a.1 (eY o.2.2.1 q.toNat q a.2 []).2.1 (no,aq o q,out)).1 (lS a.1 (eY o.2.2.1 q.toNat q a.2 []).2.1 (no,aq o q,out)).2.2
   else(false,(eY o.2.2.1 q.toNat q a.2 []).2.2.2,(a.1,(eY o.2.2.1 q.toNat q a.2 []).2.2.1)::A,rE a.1 last (eY o.2.2.1 q.toNat q a.2 []).2.1,(lS a.1 (eY o.2.2.1 q.toNat q a.2 []).2.1 (no,aq o q,out)).1,(lS a.1 (eY o.2.2.1 q.toNat q a.2 []).2.1 (no,aq o q,out)).2.2))
  else(false,q,a::A,last,no,out)
def EV (st eZ:List gz)(l:List Nat):Prop:= ∀p pr es,p∉l->tE st p pr es->tE eZ p pr es
theorem nL {st eZ:List gz}{l m:List Nat}(h:EV st eZ l)(hm:KH st m)(hd: ∀p∈m,p∉l):jy eZ m=jy st m/\KH eZ m:=by
 constructor
 ·apply List.map_congr_left
  intro p hp;obtain⟨pr,es,h1⟩:=hm p hp;have h2:=(h p pr es (hd p hp) h1).oM;rw[h2.1,h2.2,h1.oM.1,h1.oM.2]
 ·intro p hp
  obtain⟨pr,es,h1⟩:=hm p hp;exact⟨pr,es,h p pr es (hd p hp) h1⟩
theorem tE.ne0 {st:List gz}{p:Nat}{pr:Int}{es:List nB}(h:tE st p pr es):p≠0:=by obtain⟨n,rfl,_⟩:=h;omega
theorem sN {st:List gz}{p:Nat}{pr:Int}{es:List nB}(h:tE st p pr es)(nT:List nB)(l:List Nat)(hl:p∈l):EV st (kj st p nT) l:=λq WC TI hq h'=>h'.tQ (λe=>hq (e▸hl)) h.ne0
theorem WH {st:List gz}{p:Nat}{l:List Nat}(hl:KH st (p::l))(hn:(p::l).Nodup)(nT:List nB):jy (kj st p nT) (p::l)=(fF st p,nT)::jy st l/\KH (kj st p nT) (p::l):=by
 obtain⟨pr,es,h⟩:=hl p (zdM ..);have hnp:=(List.nodup_cons.1 hn).1;have h1:=nL (sN h nT [p] (List.mem_singleton.2 rfl)) (λq hq=>hl q (zdL _ hq)) (λq hq e=>hnp (List.mem_singleton.1 e▸hq));have h2:=(h.put (nT:=nT)).oM;have h3:=h.oM;refine⟨?_,λq hq=>?_⟩
 ·show(_,_)::jy _ l=_
  rw[h1.1,h2.1,h2.2,h3.2]
 ·rcases List.mem_cons.1 hq with rfl|hq
  ·exact⟨pr,nT,h.put⟩
  ·exact h1.2 q hq
theorem EW (o:cY): ∀(l:List Nat) (st:List gz) (q last no:Int) (out:List mm),KH st l->l.Nodup->∃l' eZ,gW o l st q last no out=((qC o (jy st l) q last no out).1,(qC o (jy st l) q last no out).2.1,l',eZ,(qC o (jy st l) q last no out).2.2.2)/\
  jy eZ l'=(qC o (jy st l) q last no out).2.2.1/\l'<:+l/\EV st eZ l/\KH eZ l'
 | [],st,q,last,no,out,_,_=>⟨[],st,rfl,rfl,zfo _,λ_ _ _ _ h=>h,λp hp=>by cases hp⟩
 |p::l,st,q,last,no,out,hl,hn=>by
  simp only[gW,jy,zex,qC];obtain⟨pr,es,hp⟩:=hl p (zdM ..);by_cases h1:q>0/\lB o (fF st p)=true
  ·rw[if_pos h1,if_pos h1]
   have hpa:=WH hl hn (eY o.2.2.1 q.toNat q (dC st p) []).2.2.1;have Y0:=sN hp (eY o.2.2.1 q.toNat q (dC st p) []).2.2.1 (p::l) (zdM ..);by_cases h2:(eY o.2.2.1 q.toNat q (dC st p) []).1=true
   ·rw[if_pos h2,if_pos h2]
    exact⟨_,_,rfl,hpa.1,zfo _,Y0,hpa.2⟩
   ·rw[if_neg h2,if_neg h2]
    by_cases h3:(eY o.2.2.1 q.toNat q (dC st p) []).2.2.1=[]
    ·rw[if_pos h3,if_pos h3]
     have hnp:=(List.nodup_cons.1 hn).1;have ha:=nL (sN hp (eY o.2.2.1 q.toNat q (dC st p) []).2.2.1 [p] (List.mem_singleton.2 rfl)) (λq hq=>hl q (zdL _ hq)) (λq hq e=>hnp (List.mem_singleton.1 e▸hq));obtain⟨l',eZ,i1,i2,i3,i4,i5⟩:=EW o l (kj st p (eY o.2.2.1 q.toNat q (dC st p) []).2.2.1) (eY o.2.2.1 q.toNat q (dC st p) []).2.2.2 (rE (fF st p) last (eY o.2.2.1 q.toNat q (dC st p) []).2.1) (lS (fF st p) (eY o.2.2.1 q.toNat q (dC st p) []).2.1 (no,aq o q,out)).1 (lS (fF st p) (eY o.2.2.1 q.toNat q (dC st p) []).2.1 (no,aq o q,out)).2.2 ha.2 (List.nodup_cons.1 hn).2;rw[ha.1] at i1 i2;exact⟨l',eZ,i1,i2,i3.trans (List.suffix_cons ..),λp' WC nT yi h'=>i4 _ _ _ (λe=>yi (zdL _ e)) (Y0 _ _ _ yi h'),i5⟩
    ·rw[if_neg h3,if_neg h3]
     exact⟨_,_,rfl,hpa.1,zfo _,Y0,hpa.2⟩
  ·rw[if_neg h1,if_neg h1]
   exact⟨_,_,rfl,rfl,zfo _,λ_ _ _ _ h=>h,hl⟩
def EX (o:cY)(A:List mL):List mL:=match A.findIdx? (λa=>!iO (aG o) a.1 (an o)) with
 |none=>A++ [(an o,[(o,lR o,())])]
 |some n=>match A[n]? with
  |none=>A
  |some a=>if a.1=an o then A.set n (a.1,a.2++ [(o,lR o,())]) else A.take n++((an o,[(o,lR o,())])::A.drop n)
theorem G6 (o:cY){l:List Nat}{st:List gz}(hl:KH st l)(hn:l.Nodup):jy (uU o l st).2 (uU o l st).1=EX o (jy st l)/\KH (uU o l st).2 (uU o l st).1/\EV st (uU o l st).2 l/\(∀p∈(uU o l st).1,p∈l\/p=st.length+1)/\(uU o l st).1.Nodup:=by
 have kQ: ∀p∈l,p<=st.length:=λp hp=>by
  obtain⟨pr,es,n,rfl,h⟩:=hl p hp;have:=(List.getElem?_eq_some_iff.1 h).1;omega
 have Y5: ∀(y:gz) p pr es,tE st p pr es->tE (st++ [y]) p pr es:=λy p pr es ⟨n,e,h⟩=>by
  have:=(List.getElem?_eq_some_iff.1 h).1;exact⟨n,e,by rw[zeq this];exact h⟩
 have rk: ∀(pr:Int) es,tE (st++ [((pr,(),()),es,())]) (st.length+1) pr es:=λpr es=>⟨st.length,rfl,by simp⟩
 have zc7:(jy st l).findIdx? (λa=>!iO (aG o) a.1 (an o))=l.findIdx? (λp=>!iO (aG o) (fF st p) (an o)):=by
  unfold jy;rw[List.findIdx?_map];rfl
 have Ba: ∀k,k<=l.length->jy (st++ [((an o,(),()),[(o,lR o,())],())]) (l.take k++([st.length+1]++l.drop k))=(jy st l).take k++((an o,[(o,lR o,())])::(jy st l).drop k)/\KH (st++ [((an o,(),()),[(o,lR o,())],())]) (l.take k++([st.length+1]++l.drop k))/\EV st (st++ [((an o,(),()),[(o,lR o,())],())]) l/\(∀p∈l.take k++([st.length+1]++l.drop k),p∈l\/p=st.length+1)/\(l.take k++([st.length+1]++l.drop k)).Nodup:=by
  intro k hk;have vE:EV st (st++ [((an o,(),()),[(o,lR o,())],())]) []:=λp pr es _ h=>Y5 _ p pr es h;have h1:=nL vE hl (λp _=>by simp)
  have h2:=(rk (an o) [(o,lR o,())]).oM;have tv: ∀p∈l.take k++([st.length+1]++l.drop k),p∈l\/p=st.length+1:=λp hp=>by
   simp only[zeY,zeZ] at hp;rcases hp with hp|rfl|hp
   ·exact .inl (zeC hp)
   ·exact .inr rfl
   ·exact .inl (ze6 hp)
  refine⟨?_,?_,λp pr es _ h=>Y5 _ p pr es h,tv,?_⟩
  ·have h3: ∀x y:List Nat,jy (st++ [((an o,(),()),[(o,lR o,())],())]) (x++y)=jy (st++ [((an o,(),()),[(o,lR o,())],())]) x++jy (st++ [((an o,(),()),[(o,lR o,())],())]) y:=λx y=>zfk
   have h4: ∀x:List Nat,jy (st++ [((an o,(),()),[(o,lR o,())],())]) (x.take k)=(jy (st++ [((an o,(),()),[(o,lR o,())],())]) x).take k:=λx=>List.map_take;have h5: ∀x:List Nat,jy (st++ [((an o,(),()),[(o,lR o,())],())]) (x.drop k)=(jy (st++ [((an o,(),()),[(o,lR o,())],())]) x).drop k:=λx=>List.map_drop;have h6:jy (st++ [((an o,(),()),[(o,lR o,())],())]) [st.length+1]=[(an o,[(o,lR o,())])]:=by
    show [(_,_)]=_
    rw[h2.1,h2.2]
   rw[h3,h3,h4,h5,h6,h1.1];rfl
  ·intro p hp
   rcases tv p hp with hp|rfl
   ·exact h1.2 p hp
   ·exact⟨_,_,rk _ _⟩
  ·have Vw: ∀p,p∈l->p≠st.length+1:=λp hp e=>by have:=kQ p hp;omega
   rw[show l.take k++([st.length+1]++l.drop k)=l.take k++(st.length+1)::l.drop k from rfl,List.nodup_append]
   have Jj:=hn;rw[<-zeT k l,List.nodup_append] at Jj;refine⟨Jj.1,List.nodup_cons.2 ⟨λh=>Vw _ (ze6 h) rfl,Jj.2.1⟩,λa ha b hb=>?_⟩;rcases List.mem_cons.1 hb with rfl|hb
   ·exact Vw a (zeC ha)
   ·exact Jj.2.2 a ha b hb
 unfold uU EX;rw[zc7];have hlen:(jy st l).length=l.length:=zeK ..;cases hf:l.findIdx? (λp=>!iO (aG o) (fF st p) (an o)) with
 |none=>
  have:=Ba l.length (zdV _);rw[<-hlen,zd9 (zdV _),List.drop_of_length_le (zdV _),hlen] at this;exact this
 |some n=>
  have PC:n<l.length:=(List.findIdx?_eq_some_iff_getElem.1 hf).1;have hx:=zdE PC;have tv:=zeO PC;have YU:l.getD n 0=l[n]:=by rw[zdP,hx];rfl
  have hax:(jy st l)[n]?=some (fF st l[n],dC st l[n]):=by unfold jy;rw[zeG,hx];rfl
  obtain⟨pr,es,hp⟩:=hl _ tv;simp only[YU,hax];by_cases BG:fF st l[n]=an o
  ·simp only[if_pos BG]
   refine⟨?_,λp yi=>?_,sN hp _ l tv,λp hp=> .inl hp,hn⟩
   ·apply List.ext_getElem?
    intro j;unfold jy;rw[ze8,zeG];by_cases hj:n=j
    ·subst hj
     rw[if_pos rfl,hx,if_pos (by rw[zeK];exact PC)]
     simp only[zdO];have:=(hp.put (nT:=dC st l[n]++ [(o,lR o,())])).oM;rw[this.1,this.2,hp.oM.2]
    ·rw[if_neg hj,zeG]
     cases hlj:l[j]? with
     |none=>rfl
     |some p=>
      simp only[zdO];have hpj:p≠l[n]:=λe=>by
       have BZ:=(List.getElem?_eq_some_iff.1 hlj);obtain⟨hj1,Yz⟩:=BZ;have:=(List.getElem_inj hn).1 (Yz.trans e);exact hj this.symm
      obtain⟨WC,nT,yi⟩:=hl p (zeB hlj);have h1:=(yi.tQ (nT:=dC st l[n]++ [(o,lR o,())]) hpj hp.ne0).oM;rw[h1.1,h1.2,yi.oM.1,yi.oM.2]
   ·by_cases e:p=l[n]
    ·subst e;exact⟨pr,_,hp.put⟩
    ·obtain⟨WC,nT,h'⟩:=hl p yi
     exact⟨WC,nT,h'.tQ e hp.ne0⟩
  ·simp only[if_neg BG]
   exact Ba n (by omega)
structure EY (s pr:Int)(o:cY):Prop where
 side:aG o=s
 gM:an o=pr
 qB:0<=o.1/\o.1<=31
 jL:0<=o.2.2.1/\o.2.2.1<=7
 kind:gV o=1\/gV o=5
structure lT (s:Int)(A:List mL):Prop where
 ne: ∀a∈A,a.2≠ []
 Jq: ∀a∈A,∀e∈a.2,nk e/\EY s a.1 e.1
 sorted:(A.map (·.1)).Pairwise λa b=>iO s a b=true
structure BI (A B:List mL):Prop where
 vU:lT 1 A
 qM:lT 2 B
 yZ:iT A+iT B<=64
 WI: ∀a∈A,∀b∈B,a.1<b.1
structure Bk (bs ss:List Nat)(st:List gz)(A B:List mL):Prop where
 lb:KH st bs
 ls:KH st ss
 nd:(bs++ss).Nodup
 ea:jy st bs=A
 eb:jy st ss=B
theorem l7 (a:mL)(A:List mL):iT (a::A)=a.2.length+iT A:=rfl
theorem qN (A B:List mL):iT (A++B)=iT A+iT B:=by unfold iT;rw[zfk,jQ]
theorem tF (A:List mL):0<=iT A:=by
 induction A with
 |nil=>exact zeF _
 |cons a A ih=>rw[l7];omega
theorem TR {A:List mL}{a:mL}(h:a∈A):(a.2.length:Int)<=iT A:=by
 induction A with
 |nil=>cases h
 |cons b A ih=>
  rw[l7];have:=tF A;rcases List.mem_cons.1 h with rfl|h
  ·omega
  ·have:=ih h;omega
theorem TS {A:List mL}(h: ∀a∈A,a.2≠ []):(A.length:Int)<=iT A:=by
 induction A with
 |nil=>exact zeF _
 |cons a A ih=>
  rw[l7];have h1:=ih λx hx=>h x (zdL _ hx);have h2:=List.length_pos_iff.2 (h a (zdM ..));simp only[zdJ];omega
theorem WJ {s:Int}{st:List gz}{l:List Nat}(hl:KH st l)(h:lT s (jy st l))(hc:iT (jy st l)<=64):yS st l:=by
 have h1:=TS h.ne;unfold jy at h1;rw[zeK] at h1;have hm: ∀p∈l,(fF st p,dC st p)∈jy st l:=λp hp=>List.mem_map.2 ⟨p,hp,rfl⟩;refine⟨⟨by unfold jy at hc;omega,λp hp=>?_⟩,λp hp e he=>(h.Jq _ (hm p hp) e he).1⟩
 obtain⟨pr,es,TK⟩:=hl p hp;refine⟨pr,es,TK,?_⟩;have:=TR (hm p hp);rw[show(fF st p,dC st p).2=dC st p from rfl,TK.oM.1] at this
 omega
section
variable {bs ss:List Nat}{st:List gz}{A B:List mL}{last no:Int}
theorem Bk.vU (h:Bk bs ss st A B)(hi:BI A B):yS st bs:=WJ h.lb (h.ea▸hi.vU) (by rw[h.ea];have:=hi.yZ;have:=tF B;omega)
theorem Bk.qM (h:Bk bs ss st A B)(hi:BI A B):yS st ss:=WJ h.ls (h.eb▸hi.qM) (by rw[h.eb];have:=hi.yZ;have:=tF A;omega)
abbrev kn (last no:Int):Np:=(((),(),()),last,no,())
def lU (o:cY)(q:Int):cY:=(o.1,o.2.1,o.2.2.1,o.2.2.2.1,o.2.2.2.2.1,o.2.2.2.2.2.1,q,min (qu o) q,o.2.2.2.2.2.2.2.2)
def pN (o:cY)(A B:List mL)(last no:Int):=qC o (if aG o=1 then B else A) (aj o) last no []
def iu (o:cY)(A B:List mL)(last no:Int):ld×List mL×List mL×Int×Int:=
 if¬Gb o A B=0 then((o,[],aj o,false,false,false,Gb o A B,()),A,B,last,no)
 else if(pN o A B last no).2.1>0/\(pN o A B last no).1=false/\iQ o=true then
  ((o,(pN o A B last no).2.2.2.2.2,(pN o A B last no).2.1,true,false,false,0,()),(if aG o=1 then EX (lU o (pN o A B last no).2.1) A else(pN o A B last no).2.2.1),(if aG o=1 then(pN o A B last no).2.2.1 else EX (lU o (pN o A B last no).2.1) B),(pN o A B last no).2.2.2.1,(pN o A B last no).2.2.2.2.1)
 else((o,(pN o A B last no).2.2.2.2.2,(pN o A B last no).2.1,false,false,(pN o A B last no).1,0,()),(if aG o=1 then A else(pN o A B last no).2.2.1),(if aG o=1 then(pN o A B last no).2.2.1 else B),(pN o A B last no).2.2.2.1,(pN o A B last no).2.2.2.2.1)
theorem wS {o:cY}(h:Gb o A B=0):oL o=true:=by
 unfold Gb at h;cases hr:oL o with
 |true=>rfl
 |false=>rw[hr] at h;simp at h
theorem O6 {m:List Nat}(h:KH st m): ∀p∈m,p≠st.length+1:=λp hp e=>by
 obtain⟨pr,es,n,rfl,h⟩:=h p hp;have:=(List.getElem?_eq_some_iff.1 h).1;omega
theorem zak (h:Bk bs ss st A B)(hi:BI A B)(o:cY): ∃oV oW eZ,dZ WX (((),o,()),(kn last no,bs,ss,st,()))=some (((iu o A B last no).1,()),(kn (iu o A B last no).2.2.2.1 (iu o A B last no).2.2.2.2,oV,oW,eZ,()))/\Bk oV oW eZ (iu o A B last no).2.1 (iu o A B last no).2.2.1:=by
 have kb:=h.vU hi;have ks:=h.qM hi;have hr:=KF (hdr:=kn last no) kb ks o;rw[TQ,h.ea,h.eb] at hr;unfold iu;by_cases h0:Gb o A B=0
 ·rw[if_neg (λe=>e h0)]
  have l8:=nU (wS h0);have hnd:=List.nodup_append.1 h.nd;obtain⟨M,hM,hm⟩:=QV kb ks hnd.1 hnd.2.1 o last no l8.side ⟨by have:=l8.nP;omega,l8.nP.2⟩
  have Oh:=iS o;rw[h0] at hr;have Vb:(0:Int)=0:=rfl;have TK:KH st (if aG o=1 then ss else bs):=by split;exact h.ls;exact h.lb
  have hnl:(if aG o=1 then ss else bs).Nodup:=by split;exact hnd.2.1;exact hnd.1
  obtain⟨l',eZ,m1,m2,m3,m4,m5⟩:=EW o _ st (aj o) last no [] TK hnl;have Vs:jy st (if aG o=1 then ss else bs)=(if aG o=1 then B else A):=by split;exact h.eb;exact h.ea
  rw[Vs] at m1 m2;change gW o _ st _ last no []=((pN o A B last no).1,(pN o A B last no).2.1,l',eZ,(pN o A B last no).2.2.2) at m1;change jy eZ l'=(pN o A B last no).2.2.1 at m2;rw[m1] at hM;generalize pN o A B last no=N at*;obtain⟨own,q,L,O7,Va,out⟩:=N;simp only at*;subst hM;simp only at hm;have tq:EV st eZ (if aG o=1 then ss else bs):=m4
  by_cases EJ:aG o=1
  ·simp only[if_pos EJ] at*
   have hA:=nL m4 h.lb (λp hp yi=>hnd.2.2 p hp p yi rfl);rw[h.ea] at hA;have zX: ∀p∈l',p∈ss:=λp hp=>m3.subset hp;have hb0:Bk bs l' eZ A L:=⟨hA.2,m5,List.nodup_append.2 ⟨hnd.1,m3.sublist.nodup hnd.2.1,λa ha b hb=>hnd.2.2 a ha b (zX b hb)⟩,hA.1,m2⟩;by_cases hc:q>0/\own=false/\iQ o=true
   ·rw[if_pos hc]
    obtain⟨c1,c2,c3⟩:=hc;subst c2;simp only[zdG,if_false] at hm;have Mi:=G6 (lU o q) hA.2 hnd.1;have ti:Co eZ bs:=by
     have PJ:=WJ (s:=1) hA.2 (hA.1▸hi.vU) (by rw[hA.1];have:=hi.yZ;have:=tF B;omega)
     exact PJ.1
    have hrb:=TN (hdr:=kn O7 Va) (ss:=l') (lU o q) (show aG (lU o q)=1 from EJ) ti
    have zal:bz WX (((),(o.1,o.2.1,o.2.2.1,o.2.2.2.1,o.2.2.2.2.1,o.2.2.2.2.2.1,q,min o.2.2.2.2.2.2.2.1 q,o.2.2.2.2.2.2.2.2),()),(kn O7 Va,bs,l',eZ,()))=_:=hrb;refine⟨_,_,_,by simp only[dZ,hr,zdy,↓xo,ot Vb,zdC,zdz,hm,ot c1,zdA,zdD,Oh,c3,vP,zal];rfl,?_⟩
    rw[hA.1] at Mi;have hl': ∀p∈l',p∉bs:=λp hp yi=>hnd.2.2 p yi p (zX p hp) rfl;have hL:=nL Mi.2.2.1 m5 hl';refine⟨Mi.2.1,hL.2,List.nodup_append.2 ⟨Mi.2.2.2.2,m3.sublist.nodup hnd.2.1,λa ha b hb e=>?_⟩,Mi.1,hL.1.trans m2⟩;subst e;rcases Mi.2.2.2.1 a ha with h1|h1
    ·exact hl' a hb h1
    ·exact O6 m5 a hb h1
   ·rw[if_neg hc]
    refine⟨bs,l',eZ,?_,hb0⟩;cases own with
    |true=>
     simp only[if_true] at hm;by_cases c1:q>0
     ·simp only[dZ,hr,zdy,↓xo,ot Vb,zdC,zdz,hm,ot c1,zdA]
     ·simp only[dZ,hr,zdy,↓xo,ot Vb,zdC,zdz,hm,bc c1]
    |false=>
     simp only[zdG,if_false] at hm;by_cases c1:q>0
     ·have c3:iQ o=false:=by cases hx:iQ o with|false=>rfl|true=>exact absurd ⟨c1,rfl,hx⟩ hc
      simp only[dZ,hr,zdy,↓xo,ot Vb,zdC,zdz,hm,ot c1,zdA,zdD,Oh,c3]
     ·simp only[dZ,hr,zdy,↓xo,ot Vb,zdC,zdz,hm,bc c1]
  ·have Vc:aG o=2:=l8.side.resolve_left EJ
   simp only[if_neg EJ] at*;have hA:=nL m4 h.ls (λp hp yi=>hnd.2.2 p yi p hp rfl);rw[h.eb] at hA;have zX: ∀p∈l',p∈bs:=λp hp=>m3.subset hp;have hb0:Bk l' ss eZ L B:=⟨m5,hA.2,List.nodup_append.2 ⟨m3.sublist.nodup hnd.1,hnd.2.1,λa ha b hb=>hnd.2.2 a (zX a ha) b hb⟩,m2,hA.1⟩;by_cases hc:q>0/\own=false/\iQ o=true
   ·rw[if_pos hc]
    obtain⟨c1,c2,c3⟩:=hc;subst c2;simp only[zdG,if_false] at hm;have Mi:=G6 (lU o q) hA.2 hnd.2.1;have ti:Co eZ ss:=by
     have PJ:=WJ (s:=2) hA.2 (hA.1▸hi.qM) (by rw[hA.1];have:=hi.yZ;have:=tF A;omega)
     exact PJ.1
    have hrb:=QW (hdr:=kn O7 Va) (bs:=l') (lU o q) (show aG (lU o q)=2 from Vc) ti
    have zal:bz WX (((),(o.1,o.2.1,o.2.2.1,o.2.2.2.1,o.2.2.2.2.1,o.2.2.2.2.2.1,q,min o.2.2.2.2.2.2.2.1 q,o.2.2.2.2.2.2.2.2),()),(kn O7 Va,l',ss,eZ,()))=_:=hrb;refine⟨_,_,_,by simp only[dZ,hr,zdy,↓xo,ot Vb,zdC,zdz,hm,ot c1,zdA,zdD,Oh,c3,vP,zal];rfl,?_⟩
    rw[hA.1] at Mi;have hl': ∀p∈l',p∉ss:=λp hp yi=>hnd.2.2 p (zX p hp) p yi rfl;have hL:=nL Mi.2.2.1 m5 hl';refine⟨hL.2,Mi.2.1,List.nodup_append.2 ⟨m3.sublist.nodup hnd.1,Mi.2.2.2.2,λa ha b hb e=>?_⟩,hL.1.trans m2,Mi.1⟩;subst e;rcases Mi.2.2.2.1 a hb with h1|h1
    ·exact hl' a ha h1
    ·exact O6 m5 a ha h1
   ·rw[if_neg hc]
    refine⟨l',ss,eZ,?_,hb0⟩;cases own with
    |true=>
     simp only[if_true] at hm;by_cases c1:q>0
     ·simp only[dZ,hr,zdy,↓xo,ot Vb,zdC,zdz,hm,ot c1,zdA]
     ·simp only[dZ,hr,zdy,↓xo,ot Vb,zdC,zdz,hm,bc c1]
    |false=>
     simp only[zdG,if_false] at hm;by_cases c1:q>0
     ·have c3:iQ o=false:=by cases hx:iQ o with|false=>rfl|true=>exact absurd ⟨c1,rfl,hx⟩ hc
      simp only[dZ,hr,zdy,↓xo,ot Vb,zdC,zdz,hm,ot c1,zdA,zdD,Oh,c3]
     ·simp only[dZ,hr,zdy,↓xo,ot Vb,zdC,zdz,hm,bc c1]
 ·rw[if_pos h0]
  refine⟨bs,ss,st,?_,h⟩;simp only[dZ,hr,zdy,↓xo,bc h0,zdD,zdA]
end
def BH (P:cY->Prop):Prop:= ∀o q,P o->P (aq o q)
theorem Nu {P:cY->Prop}(hP:BH P){e:nB}{r:List nB}{n:Int}(he:P e.1)(hr: ∀x∈r,P x.1): ∀x∈vR e r n,P x.1:=by
 unfold vR;intro x hx;split at hx
 ·rcases List.mem_cons.1 hx with rfl|hx
  ·exact hP _ _ he
  ·exact hr x hx
 ·rcases List.mem_append.1 hx with hx|hx
  ·exact hr x hx
  ·split at hx
   ·rw[zeZ] at hx;subst hx;exact hP _ _ he
   ·cases hx
theorem EZ {P:cY->Prop}(hP:BH P)(jL:Int): ∀(k:Nat) (q:Int) (es out:List nB),(∀e∈es,P e.1)->(∀e∈out,P e.1)->(∀e∈(eY jL k q es out).2.1,P e.1)/\∀e∈(eY jL k q es out).2.2.1,P e.1
 |0,q,es,out,h1,h2=>⟨h2,h1⟩
 |k+1,q,es,out,h1,h2=>by
  unfold eY;split
  ·cases es with
   |nil=>exact⟨h2,h1⟩
   |cons e r=>
    simp only;have he:=h1 e (zdM ..);split
    ·exact⟨h2,h1⟩
    ·refine EZ hP jL k _ _ _ (Nu hP he λx hx=>h1 x (zdL _ hx)) (λx hx=>?_)
     rcases List.mem_append.1 hx with hx|hx
     ·exact h2 x hx
     ·rw[zeZ] at hx;subst hx;exact he
  ·exact⟨h2,h1⟩
abbrev Fl.nP (f:mm):Int:=f.2.2.2.1
structure BJ (s pr:Int)(o:cY)(f:mm):Prop where
 Yd:EY s pr f.1
 zb1: ∃q,f.2.1=aq o q
 gM:f.2.2.1=pr
 nP:1<=Fl.nP f
def lj (l:List mm):Int:=gU (l.map λf=>Fl.nP f)
theorem um (a b:List mm):lj (a++b)=lj a+lj b:=by unfold lj;rw[zfk,jQ]
theorem Cs (s pr:Int)(o:cY): ∀(hs:List nB) (no q:Int) (out:List mm),zF hs->(∀h∈hs,EY s pr h.1)->∃fs,(lS pr hs (no,aq o q,out)).2.2=out++fs/\(∀f∈fs,BJ s pr o f)/\lj fs=ir hs
 | [],no,q,out,_,_=>⟨[],by simp[lS],λf hf=>(by cases hf),rfl⟩
 |h::r,no,q,out,h1,h2=>by
  obtain⟨fs,i1,i2,i3⟩:=Cs s pr o r (i64.wrap (no+1)) (q-h.2.1) (out++ [(h.1,aq o q,pr,h.2.1,i64.wrap (no+1),())]) (λx hx=>h1 x (zdL _ hx)) (λx hx=>h2 x (zdL _ hx));refine⟨(h.1,aq o q,pr,h.2.1,i64.wrap (no+1),())::fs,?_,?_,?_⟩
  ·show(lS pr r (i64.wrap (no+1),aq o (q-h.2.1),_)).2.2=_
   rw[i1];simp
  ·intro f hf
   rcases List.mem_cons.1 hf with rfl|hf
   ·exact⟨h2 h (zdM ..),⟨q,rfl⟩,rfl,h1 h (zdM ..)⟩
   ·exact i2 f hf
  ·have:ir (h::r)=h.2.1+ir r:=by simp[ir,gU]
   rw[this,<-i3];rfl
theorem Cu (s pr:Int):BH (EY s pr):=λ_ _ h=>⟨h.side,h.gM,h.qB,h.jL,h.kind⟩
structure Dn (s:Int)(o:cY)(A:List mL)(q:Int)(out:List mm)(M:Bool×Int×List mL×Int×Int×List mm):Prop where
 side:lT s M.2.2.1
 TT:M.2.2.1.map (·.1)<:+A.map (·.1)
 yZ:iT M.2.2.1<=iT A
 left:0<=M.2.1/\M.2.1<=q
 stop:M.1=false->M.2.1>0->M.2.2.1=[]\/∃a L,M.2.2.1=a::L/\lB o a.1=false
 yj: ∃fs,M.2.2.2.2.2=out++fs/\(∀f∈fs,∃pr,BJ s pr o f)/\lj fs=q-M.2.1
theorem lT.tail {s:Int}{a:mL}{A:List mL}(h:lT s (a::A)):lT s A:=
 ⟨λx hx=>h.ne x (zdL _ hx),λx hx=>h.Jq x (zdL _ hx),by have:=h.sorted;simp only[zex,zfp] at this;exact this.2⟩
theorem lT.head {s:Int}{a:mL}{A:List mL}(h:lT s (a::A)){es:List nB}(lF:es≠ [])(he: ∀e∈es,nk e/\EY s a.1 e.1):lT s ((a.1,es)::A):=by
 refine⟨λx hx=>?_,λx hx=>?_,h.sorted⟩
 ·rcases List.mem_cons.1 hx with rfl|hx
  ·exact lF
  ·exact h.ne x (zdL _ hx)
 ·rcases List.mem_cons.1 hx with rfl|hx
  ·exact he
  ·exact h.Jq x (zdL _ hx)
theorem vV (s:Int)(o:cY): ∀(A:List mL) (q last no:Int) (out:List mm),lT s A->0<=q->Dn s o A q out (qC o A q last no out)
 | [],q,last,no,out,h,h0=>⟨h,zfo _,zeF _,⟨h0,zeF _⟩,λ_ _=> .inl rfl,[],by simp[qC],λf hf=>(by cases hf),by simp[lj,gU,qC]⟩
 |a::A,q,last,no,out,h,h0=>by
  unfold qC;by_cases hc:q>0/\lB o a.1=true
  ·rw[if_pos hc]
   have Nv:=h.Jq a (zdM ..);obtain⟨t1,t2,t3,t4,t5,t6,t7,t8,t9⟩:=AJ o.2.2.1 q.toNat q a.2 [] h0 (by omega) (λe he=>(Nv e he).1) (λx hx=>by cases hx)
   obtain⟨p1,p2⟩:=EZ (Cu s a.1) o.2.2.1 q.toNat q a.2 [] (λe he=>(Nv e he).2) (λx hx=>by cases hx)
   generalize eY o.2.2.1 q.toNat q a.2 []=T at*;obtain⟨own,py,nT,q'⟩:=T;simp only at*;obtain⟨fs,f1,f2,f3⟩:=Cs s a.1 o py no q out t1 p1;have hz:ir ([]:List nB)=0:=rfl;have FX:iT ((a.1,nT)::A)<=iT (a::A):=by rw[l7,l7];simp only;omega
   have hf: ∃gs,(lS a.1 py (no,aq o q,out)).2.2=out++gs/\(∀f∈gs,∃pr,BJ s pr o f)/\lj gs=q-q':=⟨fs,f1,λf hf=>⟨_,f2 f hf⟩,by omega⟩
   cases own with
   |true=>
    rw[if_pos rfl];exact⟨h.head (t7 rfl) λe he=>⟨t5 e he,p2 e he⟩,zfo _,FX,⟨t3,t4⟩,λe=>(by cases e),hf⟩
   |false=>
    rw[if_neg (by simp)]
    by_cases he:nT=[]
    ·rw[if_pos he]
     have ih:=vV s o A q' (rE a.1 last py) (lS a.1 py (no,aq o q,out)).1 (lS a.1 py (no,aq o q,out)).2.2 h.tail t3;obtain⟨i1,i2,i3,i4,i5,gs,i6,i7,i8⟩:=ih;refine⟨i1,i2.trans (List.suffix_cons ..),?_,⟨i4.1,by omega⟩,i5,fs++gs,?_,λf hf=>?_,?_⟩
     ·rw[l7];omega
     ·rw[i6,f1];simp
     ·rcases List.mem_append.1 hf with hf|hf
      ·exact⟨_,f2 f hf⟩
      ·exact i7 f hf
     ·rw[um];omega
    ·rw[if_neg he]
     exact⟨h.head he λe he=>⟨t5 e he,p2 e he⟩,zfo _,FX,⟨t3,t4⟩,λ_ hq=>absurd ((t8 rfl).resolve_right he) (by simp only at hq;omega),hf⟩
  ·rw[if_neg hc]
   refine⟨h,zfo _,zeF _,⟨h0,zeF _⟩,λ_ hq=> .inr ⟨a,A,rfl,?_⟩,[],by simp,λf hf=>(by cases hf),by simp[lj,gU]⟩
   cases hx:lB o a.1 with
   |false=>rfl
   |true=>exact absurd ⟨hq,hx⟩ hc
theorem Gc {s a b c:Int}(h1:iO s a b=true)(h2:iO s b c=true):iO s a c=true:=by
 unfold iO at*;split at h1<;>simp_all<;>omega
theorem IX {s a b:Int}(h1:iO s a b=false)(h2:a≠b):iO s b a=true:=by
 unfold iO at*;split at h1<;>simp_all<;>omega
theorem O8 {s:Int}{o:cY}{A:List mL}(h:lT s A)(he:nk (o,lR o,())/\EY s (an o) o):lT s (EX o A)/\iT (EX o A)=iT A+1/\∀a∈EX o A,a.1=an o\/∃b∈A,b.1=a.1:=by
 have hs:=he.2.side;have rk: ∀x:mL,x=(an o,[(o,lR o,())])->x.2≠ []/\∀e∈x.2,nk e/\EY s x.1 e.1:=λx hx=>by
  subst hx;refine⟨by simp,λe h=>?_⟩
  rw[zeZ] at h;subst h;exact he
 have Ba: ∀P S:List mL,A=P++S->(∀a∈P,iO s a.1 (an o)=true)->(∀a∈S,iO s (an o) a.1=true)->lT s (P++((an o,[(o,lR o,())])::S))/\iT (P++((an o,[(o,lR o,())])::S))=iT A+1/\∀a∈P++((an o,[(o,lR o,())])::S),a.1=an o\/∃b∈A,b.1=a.1:=by
  intro P S hA hP hS;subst hA;refine⟨⟨λa ha=>?_,λa ha=>?_,?_⟩,?_,λa ha=>?_⟩
  ·rcases List.mem_append.1 ha with ha|ha
   ·exact h.ne a (zdQ _ ha)
   ·rcases List.mem_cons.1 ha with ha|ha
    ·exact(rk a ha).1
    ·exact h.ne a (zdR _ ha)
  ·rcases List.mem_append.1 ha with ha|ha
   ·exact h.Jq a (zdQ _ ha)
   ·rcases List.mem_cons.1 ha with ha|ha
    ·exact(rk a ha).2
    ·exact h.Jq a (zdR _ ha)
  ·have:=h.sorted
   rw[zfk,List.pairwise_append] at this;rw[zfk,List.pairwise_append,zex,zfp];refine⟨this.1,⟨λx hx=>?_,this.2.1⟩,λx hx y hy=>?_⟩
   ·obtain⟨a,ha,rfl⟩:=List.mem_map.1 hx;exact hS a ha
   ·rcases List.mem_cons.1 hy with rfl|hy
    ·obtain⟨a,ha,rfl⟩:=List.mem_map.1 hx;exact hP a ha
    ·exact this.2.2 x hx y hy
  ·rw[qN,qN,l7];simp only[zdJ,zdK];omega
  ·rcases List.mem_append.1 ha with ha|ha
   ·exact .inr ⟨a,zdQ _ ha,rfl⟩
   ·rcases List.mem_cons.1 ha with rfl|ha
    ·exact .inl rfl
    ·exact .inr ⟨a,zdR _ ha,rfl⟩
 unfold EX;cases hf:A.findIdx? (λa=>!iO (aG o) a.1 (an o)) with
 |none=>
  rw[zfh] at hf;refine Ba A [] (by simp) (λa ha=>?_) (λa ha=>by cases ha)
  have:=hf a ha;rw[hs] at this;simpa using this
 |some n=>
  rw[zfi] at hf;obtain⟨hn,h1,h2⟩:=hf;rw[hs] at h1;simp only[zdE hn];have FB:A=A.take n++A.drop n:=(zeT n A).symm;have hdr:A.drop n=A[n]::A.drop (n+1):=zfm hn;have PT: ∀a∈A.take n,iO s a.1 (an o)=true:=λa ha=>by
   obtain⟨j,hj,rfl⟩:=zeh ha;rw[zd3] at hj;have:=h2 j (by omega)
   rw[hs] at this;rw[List.getElem_take];simpa using this
  have zb2:=h.sorted;rw[FB,hdr,zfk,List.pairwise_append,zex,zfp] at zb2;by_cases BG:A[n].1=an o
  ·rw[if_pos BG]
   have uD:A.set n (A[n].1,A[n].2++ [(o,lR o,())])=A.take n++((A[n].1,A[n].2++ [(o,lR o,())])::A.drop (n+1)):=by rw[zfq,if_pos hn]
   have tv:=zeO hn;refine⟨⟨λa ha=>?_,λa ha=>?_,?_⟩,?_,λa ha=>?_⟩
   ·rcases zeN ha with ha|rfl
    ·exact h.ne a ha
    ·simp
   ·rcases zeN ha with ha|rfl
    ·exact h.Jq a ha
    ·intro e hx
     rcases List.mem_append.1 hx with hx|hx
     ·exact h.Jq _ tv e hx
     ·rw[zeZ] at hx;subst hx
      exact⟨he.1,by rw[show((A[n].1,A[n].2++ [(o,lR o,())]):mL).1=A[n].1 from rfl,BG];exact he.2⟩
   ·have:(A.set n (A[n].1,A[n].2++ [(o,lR o,())])).map (·.1)=A.map (·.1):=by
     rw[List.map_set];have h3:(A.map (·.1))[n]?=some A[n].1:=by rw[zeG,zdE hn];rfl
     exact aJ h3
    rw[this];exact h.sorted
   ·rw[uD,qN,l7]
    have:iT A=iT (A.take n)+(A[n].2.length+iT (A.drop (n+1))):=by rw[<-l7,<-hdr,<-qN,<-FB]
    rw[this];simp only[zdI,zdJ,zdK];omega
   ·rcases zeN ha with ha|rfl
    ·exact .inr ⟨a,ha,rfl⟩
    ·exact .inl BG
  ·rw[if_neg BG]
   refine Ba (A.take n) (A.drop n) FB PT (λa ha=>?_);have hb:iO s (an o) A[n].1=true:=IX (by simpa using h1) BG
   rw[hdr] at ha;rcases List.mem_cons.1 ha with rfl|ha
   ·exact hb
   ·exact Gc hb (zb2.2.1.1 a.1 (List.mem_map.2 ⟨a,ha,rfl⟩))
structure Ye (o:cY)(x:ld):Prop where
 ord:x.1=o
 yj:x.2.1=[]\/(yh o/\(∀f∈x.2.1,∃pr,BJ (3-aG o) pr o f)/\lj x.2.1=aj o-x.2.2.1)
 left:0<=aj o->0<=x.2.2.1/\x.2.2.1<=aj o
theorem E1 {L B:List mL}(h:L.map (·.1)<:+B.map (·.1)){a:mL}(ha:a∈L): ∃b∈B,b.1=a.1:=by
 have:a.1∈B.map (·.1):=h.subset (List.mem_map.2 ⟨a,ha,rfl⟩)
 obtain⟨b,hb,e⟩:=List.mem_map.1 this;exact⟨b,hb,e⟩
theorem sO {o:cY}(h:iQ o=true):gV o=1\/gV o=5:=by
 unfold iQ at h;simpa only[zeM,zdN] using h
theorem KJ {o:cY}(h:yh o)(hk:iQ o=true){q:Int}(h0:0<q)(h1:q<=aj o):nk (lU o q,lR (lU o q),())/\EY (aG o) (an o) (lU o q):=by
 have hq:aj (lU o q)=q:=rfl;have ht:=OW (o:=lU o q) (by rw[hq];omega)
 exact⟨⟨ht.1,ht.2,by show q<=_;have:=h.nP;omega⟩,⟨rfl,rfl,h.qB,h.jL,sO hk⟩⟩
theorem yC {A B:List mL}{last no:Int}(hi:BI A B)(o:cY):BI (iu o A B last no).2.1 (iu o A B last no).2.2.1/\iT (iu o A B last no).2.1+iT (iu o A B last no).2.2.1<=iT A+iT B+(if iQ o=true then 1 else 0)/\Ye o (iu o A B last no).1:=by
 have hz:(0:Int)<=(if iQ o=true then 1 else 0):=by split<;>omega
 unfold iu;by_cases h0:Gb o A B=0
 ·rw[if_neg (λe=>e h0)]
  have l8:=nU (wS h0);have hq:=l8.nP;have KK:iQ o=true->iT A+iT B+1<=64:=λhr=>by
   unfold Gb at h0;rw[wS (A:=A) (B:=B) (by unfold Gb;exact h0)] at h0
   simp only[zdC,zdG,if_false,hr,true_and] at h0;split at h0
   ·cases h0
   ·split at h0
    ·cases h0
    ·split at h0
     ·cases h0
     ·omega
  by_cases EJ:aG o=1
  ·have hm:Dn 2 o B (aj o) [] (pN o A B last no):=by unfold pN;rw[if_pos EJ];exact vV 2 o B _ last no [] hi.qM (by omega)
   generalize pN o A B last no=M at*;simp only[if_pos EJ];have jr: ∃fs,M.2.2.2.2.2=fs/\(∀f∈fs,∃pr,BJ (3-aG o) pr o f)/\lj fs=aj o-M.2.1:=by
    obtain⟨fs,f1,f2,f3⟩:=hm.yj;exact⟨fs,f1,by rw[EJ];exact f2,f3⟩
   obtain⟨fs,f1,f2,f3⟩:=jr;have TU: ∀a∈A,∀b∈M.2.2.1,a.1<b.1:=λa ha b hb=>by
    obtain⟨c,hc,e⟩:=E1 hm.TT hb;rw[<-e];exact hi.WI a ha c hc
   have FX:=hm.yZ;have zc8:=hi.yZ;by_cases hc:M.2.1>0/\M.1=false/\iQ o=true
   ·rw[if_pos hc]
    obtain⟨c1,c2,c3⟩:=hc;have uD:=KJ l8 c3 c1 hm.left.2;rw[EJ] at uD;obtain⟨i1,i2,i3⟩:=O8 (s:=1) (A:=A) hi.vU uD;have:=KK c3;refine⟨⟨i1,hm.side,by simp only[i2];omega,λa ha b hb=>?_⟩,by simp only[i2,c3,if_true];omega,rfl, .inr ⟨l8,by simp only[f1];exact f2,by simp only[f1];exact f3⟩,λ_=>hm.left⟩
    rcases i3 a ha with h1|⟨c,hc,h1⟩
    ·rcases hm.stop c2 c1 with h2|⟨x,L,h2,h3⟩
     ·simp only at hb;rw[h2] at hb;cases hb
     ·have hk:=sO c3
      have hp:an o<x.1:=by
       unfold lB at h3;rw[if_neg (by omega),if_pos EJ] at h3
       have:=of_decide_eq_false h3;omega
      have Ih:a.1=an o:=h1;simp only at hb;rw[h2] at hb;rcases List.mem_cons.1 hb with rfl|hb
      ·omega
      ·have JM:=hm.side.sorted
       rw[h2,zex,zfp] at JM;have:=JM.1 b.1 (List.mem_map.2 ⟨b,hb,rfl⟩);unfold iO at this;rw[if_neg (by omega)] at this
       have:=of_decide_eq_true this;omega
    ·rw[<-h1];exact TU c hc b hb
   ·rw[if_neg hc]
    exact⟨⟨hi.vU,hm.side,by simp only;omega,TU⟩,by simp only;omega,rfl, .inr ⟨l8,by simp only[f1];exact f2,by simp only[f1];exact f3⟩,λ_=>hm.left⟩
  ·have Vc:aG o=2:=l8.side.resolve_left EJ
   have hm:Dn 1 o A (aj o) [] (pN o A B last no):=by unfold pN;rw[if_neg EJ];exact vV 1 o A _ last no [] hi.vU (by omega)
   generalize pN o A B last no=M at*;simp only[if_neg EJ];have jr: ∃fs,M.2.2.2.2.2=fs/\(∀f∈fs,∃pr,BJ (3-aG o) pr o f)/\lj fs=aj o-M.2.1:=by
    obtain⟨fs,f1,f2,f3⟩:=hm.yj;exact⟨fs,f1,by rw[Vc];exact f2,f3⟩
   obtain⟨fs,f1,f2,f3⟩:=jr;have TU: ∀a∈M.2.2.1,∀b∈B,a.1<b.1:=λa ha b hb=>by
    obtain⟨c,hc,e⟩:=E1 hm.TT ha;rw[<-e];exact hi.WI c hc b hb
   have FX:=hm.yZ;have zc8:=hi.yZ;by_cases hc:M.2.1>0/\M.1=false/\iQ o=true
   ·rw[if_pos hc]
    obtain⟨c1,c2,c3⟩:=hc;have uD:=KJ l8 c3 c1 hm.left.2;rw[Vc] at uD;obtain⟨i1,i2,i3⟩:=O8 (s:=2) (A:=B) hi.qM uD;have:=KK c3;refine⟨⟨hm.side,i1,by simp only[i2];omega,λb hb a ha=>?_⟩,by simp only[i2,c3,if_true];omega,rfl, .inr ⟨l8,by simp only[f1];exact f2,by simp only[f1];exact f3⟩,λ_=>hm.left⟩
    rcases i3 a ha with h1|⟨c,hc,h1⟩
    ·rcases hm.stop c2 c1 with h2|⟨x,L,h2,h3⟩
     ·simp only at hb;rw[h2] at hb;cases hb
     ·have hk:=sO c3
      have hp:x.1<an o:=by
       unfold lB at h3;rw[if_neg (by omega),if_neg EJ] at h3
       have:=of_decide_eq_false h3;omega
      have Ih:a.1=an o:=h1;simp only at hb;rw[h2] at hb;rcases List.mem_cons.1 hb with rfl|hb
      ·omega
      ·have JM:=hm.side.sorted
       rw[h2,zex,zfp] at JM;have:=JM.1 b.1 (List.mem_map.2 ⟨b,hb,rfl⟩);unfold iO at this;rw[if_pos rfl] at this;have:=of_decide_eq_true this;omega
    ·rw[<-h1];exact TU b hb c hc
   ·rw[if_neg hc]
    exact⟨⟨hm.side,hi.qM,by simp only;omega,TU⟩,by simp only;omega,rfl, .inr ⟨l8,by simp only[f1];exact f2,by simp only[f1];exact f3⟩,λ_=>hm.left⟩
 ·rw[if_pos h0]
  exact⟨hi,by simp only;omega,rfl, .inl rfl,λh=>⟨h,zeF _⟩⟩
def uH (t i:Int)(A B:List mL):cY×Bool×List mL×List mL:=match mj t i A with
 |some (m,o)=>(o,true,(match A[m]? with|some a=>if oN t i a.2=[] then A.eraseIdx m else A.set m (a.1,oN t i a.2)|none=>A),B)
 |none=>match mj t i B with
  |some (m,o)=>(o,true,A,(match B[m]? with|some a=>if oN t i a.2=[] then B.eraseIdx m else B.set m (a.1,oN t i a.2)|none=>B))
  |none=>(o0,false,A,B)
section
variable {bs ss:List Nat}{st:List gz}{A B:List mL}{last no:Int}
theorem yk {l:List Nat}(hl:KH st l)(hn:l.Nodup){m:Nat}(hm:m<l.length)(nT:List nB):jy (kj st l[m] nT) l=(jy st l).set m (fF st l[m],nT)/\KH (kj st l[m] nT) l:=by
 obtain⟨pr,es,hp⟩:=hl _ (zeO hm);constructor
 ·apply List.ext_getElem?
  intro j;unfold jy;rw[ze8,zeG];by_cases hj:m=j
  ·subst hj
   rw[if_pos rfl,zdE hm,if_pos (by rw[zeK];exact hm)]
   simp only[zdO];have:=(hp.put (nT:=nT)).oM;rw[this.1,this.2,hp.oM.2]
  ·rw[if_neg hj,zeG]
   cases hlj:l[j]? with
   |none=>rfl
   |some p=>
    simp only[zdO];have hpj:p≠l[m]:=λe=>by
     obtain⟨hj1,Yz⟩:=List.getElem?_eq_some_iff.1 hlj;exact hj ((List.getElem_inj hn).1 (Yz.trans e)).symm
    obtain⟨WC,TI,yi⟩:=hl p (zeB hlj);have h1:=(yi.tQ (nT:=nT) hpj hp.ne0).oM;rw[h1.1,h1.2,yi.oM.1,yi.oM.2]
 ·intro p yi
  by_cases e:p=l[m]
  ·subst e;exact⟨pr,_,hp.put⟩
  ·obtain⟨WC,TI,h'⟩:=hl p yi
   exact⟨WC,TI,h'.tQ e hp.ne0⟩
theorem me {t i:Int}: ∀{A:List mL} {m:Nat} {o:cY},mj t i A=some (m,o)->∃a,A[m]?=some a/\KI t i a=some o
 | [],_,_,h=>by cases h
 |a::A,m,o,h=>by
  simp only[mj] at h;cases e:KI t i a with
  |some x=>rw[e] at h;cases h;exact⟨a,rfl,e⟩
  |none=>
   rw[e] at h;simp only at h;cases e2:mj t i A with
   |none=>rw[e2] at h;cases h
   |some y=>
    rw[e2] at h;obtain⟨m',o'⟩:=y;cases h;obtain⟨q,h1,h2⟩:=me e2;exact⟨q,by simpa using h1,h2⟩
theorem G7 {l:List Nat}(hl:KH st l)(hn:l.Nodup){m:Nat}(hm:m<l.length)(nT:List nB):jy (kj st l[m] nT) (mS l m nT)=(if nT=[] then(jy st l).eraseIdx m else(jy st l).set m (fF st l[m],nT))/\(mS l m nT).Sublist l:=by
 have h:=yk hl hn hm nT;unfold mS;by_cases e:nT=[]
 ·rw[if_pos e,if_pos e]
  refine⟨?_,zfr ..⟩;have h1:jy (kj st l[m] nT) (l.eraseIdx m)=(jy (kj st l[m] nT) l).eraseIdx m:=by unfold jy;rw[zff,zfk,List.map_take,List.map_drop,<-zff]
  rw[h1,h.1,List.eraseIdx_set_eq]
 ·rw[if_neg e,if_neg e]
  exact⟨h.1,List.Sublist.refl _⟩
theorem zam (h:Bk bs ss st A B)(hi:BI A B)(t i:Int): ∃oV oW eZ,fR WX (((),t,i,()),(kn last no,bs,ss,st,()))=some (((uH t i A B).1,(uH t i A B).2.1,()),(kn last no,oV,oW,eZ,()))/\Bk oV oW eZ (uH t i A B).2.2.1 (uH t i A B).2.2.2:=by
 have hr:=Nq (hdr:=kn last no) (t:=t) (i:=i) (h.vU hi).1 (h.qM hi).1;have hnd:=List.nodup_append.1 h.nd;obtain⟨lb,ls,nd,rfl,rfl⟩:=h;unfold EP at hr;unfold uH;rw[pM,pM] at hr;cases hf:mj t i (jy st bs) with
 |some x=>
  obtain⟨m,o⟩:=x;obtain⟨a,h1,h2⟩:=me hf;have hm:m<bs.length:=by have:=(List.getElem?_eq_some_iff.1 h1).1;unfold jy at this;rw[zeK] at this;exact this
  have hx:=zdE hm;have hg:bs.getD m 0=bs[m]:=by rw[zdP,hx];rfl
  have ha:a=(fF st bs[m],dC st bs[m]):=by
   unfold jy at h1;rw[zeG,hx] at h1;cases h1;rfl
  subst ha;rw[hf] at hr;simp only[hg] at hr;obtain⟨s1,s2⟩:=G7 lb hnd.1 hm (oN t i (dC st bs[m]));have O4:=nL (sN (lb _ (zeO hm)).choose_spec.choose_spec (oN t i (dC st bs[m])) bs (zeO hm)) ls (λp hp yi=>hnd.2.2 p yi p hp rfl);refine⟨_,_,_,hr,⟨λp hp=>(yk lb hnd.1 hm _).2 p (s2.subset hp),O4.2,List.nodup_append.2 ⟨s2.nodup hnd.1,hnd.2.1,λa ha b hb=>hnd.2.2 a (s2.subset ha) b hb⟩,?_,O4.1⟩⟩;simp only[h1];exact s1
 |none=>
  rw[hf] at hr;cases xN:mj t i (jy st ss) with
  |some x=>
   obtain⟨m,o⟩:=x;obtain⟨a,h1,h2⟩:=me xN;have hm:m<ss.length:=by have:=(List.getElem?_eq_some_iff.1 h1).1;unfold jy at this;rw[zeK] at this;exact this
   have hx:=zdE hm;have hg:ss.getD m 0=ss[m]:=by rw[zdP,hx];rfl
   have ha:a=(fF st ss[m],dC st ss[m]):=by
    unfold jy at h1;rw[zeG,hx] at h1;cases h1;rfl
   subst ha;rw[xN] at hr;simp only[hg] at hr;obtain⟨s1,s2⟩:=G7 ls hnd.2.1 hm (oN t i (dC st ss[m]));have O4:=nL (sN (ls _ (zeO hm)).choose_spec.choose_spec (oN t i (dC st ss[m])) ss (zeO hm)) lb (λp hp yi=>hnd.2.2 p hp p yi rfl);refine⟨_,_,_,hr,⟨O4.2,λp hp=>(yk ls hnd.2.1 hm _).2 p (s2.subset hp),List.nodup_append.2 ⟨hnd.1,s2.nodup hnd.2.1,λa ha b hb=>hnd.2.2 a ha b (s2.subset hb)⟩,O4.1,?_⟩⟩;simp only[h1];exact s1
  |none=>
   rw[xN] at hr;exact⟨_,_,_,hr,⟨lb,ls,nd,rfl,rfl⟩⟩
end
theorem TV {A B:List mL}(h:A.Sublist B):iT A<=iT B:=by
 induction h with
 |slnil=>exact zeF _
 |cons a h ih=>rw[l7];omega
 |cons_cons a h ih=>rw[l7,l7];omega
theorem TW {s:Int}{A B:List mL}(h:lT s B)(hs:A.Sublist B):lT s A:=
 ⟨λa ha=>h.ne a (hs.subset ha),λa ha=>h.Jq a (hs.subset ha),h.sorted.sublist (hs.map _)⟩
theorem KL {s:Int}{A:List mL}(h:lT s A){m:Nat}{a:mL}(ha:A[m]?=some a){es:List nB}(lF:es≠ [])(he: ∀e∈es,nk e/\EY s a.1 e.1)(hl:es.length<=a.2.length):lT s (A.set m (a.1,es))/\iT (A.set m (a.1,es))<=iT A/\(A.set m (a.1,es)).map (·.1)=A.map (·.1):=by
 have hp:(A.set m (a.1,es)).map (·.1)=A.map (·.1):=by
  rw[List.map_set];have h3:(A.map (·.1))[m]?=some a.1:=by rw[zeG,ha];rfl
  exact aJ h3
 have hm:=(List.getElem?_eq_some_iff.1 ha).1;refine⟨⟨λx hx=>?_,λx hx=>?_,by rw[hp];exact h.sorted⟩,?_,hp⟩
 ·rcases zeN hx with hx|rfl
  ·exact h.ne x hx
  ·exact lF
 ·rcases zeN hx with hx|rfl
  ·exact h.Jq x hx
  ·exact he
 ·have hdr:A.drop m=a::A.drop (m+1):=by
   rw[zfm hm,(List.getElem?_eq_some_iff.1 ha).2]
  have h1:iT A=iT (A.take m)+(a.2.length+iT (A.drop (m+1))):=by rw[<-l7,<-hdr,<-qN,zeT]
  rw[zfq,if_pos hm,qN,l7,h1];simp only;omega
theorem TX {A A' B:List mL}(h:BI A B)(h1:lT 1 A')(h2:iT A'<=iT A)(h3: ∀a∈A',∃b∈A,b.1=a.1):BI A' B:=
 ⟨h1,h.qM,by have:=h.yZ;omega,λa ha b hb=>by obtain⟨c,hc,e⟩:=h3 a ha;rw[<-e];exact h.WI c hc b hb⟩
theorem O9 {A B B':List mL}(h:BI A B)(h1:lT 2 B')(h2:iT B'<=iT B)(h3: ∀b∈B',∃c∈B,c.1=b.1):BI A B':=
 ⟨h.vU,h1,by have:=h.yZ;omega,λa ha b hb=>by obtain⟨c,hc,e⟩:=h3 b hb;rw[<-e];exact h.WI a ha c hc⟩
theorem Cv {A A':List mL}(h:A'.map (·.1)=A.map (·.1)): ∀a∈A',∃b∈A,b.1=a.1:=λa ha=>by
 have:a.1∈A.map (·.1):=h▸List.mem_map.2 ⟨a,ha,rfl⟩
 obtain⟨b,hb,e⟩:=List.mem_map.1 this;exact⟨b,hb,e⟩
theorem TY (t i:Int)(es:List nB):(oN t i es).Sublist es:=by
 unfold oN;split
 ·exact zfr ..
 ·exact List.Sublist.refl _
theorem KM {s:Int}{A:List mL}(h:lT s A){m:Nat}{a:mL}(ha:A[m]?=some a)(t i:Int):lT s (if oN t i a.2=[] then A.eraseIdx m else A.set m (a.1,oN t i a.2))/\iT (if oN t i a.2=[] then A.eraseIdx m else A.set m (a.1,oN t i a.2))<=iT A/\∀x∈(if oN t i a.2=[] then A.eraseIdx m else A.set m (a.1,oN t i a.2)),∃b∈A,b.1=x.1:=by
 by_cases e:oN t i a.2=[]
 ·simp only[if_pos e]
  have hs:(A.eraseIdx m).Sublist A:=zfr ..;exact⟨TW h hs,TV hs,λx hx=>⟨x,hs.subset hx,rfl⟩⟩
 ·simp only[if_neg e]
  have hs:=TY t i a.2;have:=KL h ha e (λx hx=>h.Jq a (zeB ha) x (hs.subset hx)) hs.length_le;exact⟨this.1,this.2.1,Cv this.2.2⟩
theorem WK {A B:List mL}(h:BI A B)(t i:Int):BI (uH t i A B).2.2.1 (uH t i A B).2.2.2/\iT (uH t i A B).2.2.1+iT (uH t i A B).2.2.2<=iT A+iT B:=by
 unfold uH;cases hf:mj t i A with
 |some x=>
  obtain⟨m,o⟩:=x;obtain⟨a,h1,h2⟩:=me hf;simp only[h1];obtain⟨a1,a2,a3⟩:=KM h.vU h1 t i;exact⟨TX h a1 a2 a3,by omega⟩
 |none=>
  cases xN:mj t i B with
  |some x=>
   obtain⟨m,o⟩:=x;obtain⟨a,h1,h2⟩:=me xN;simp only[h1];obtain⟨a1,a2,a3⟩:=KM h.qM h1 t i;exact⟨O9 h a1 a2 a3,by omega⟩
  |none=>exact⟨h,zeF _⟩
def tn (t i q:Int)(A B:List mL):Bool×List mL×List mL:=match mj t i A with
 |some (m,_)=>(match A[m]? with|some a=>((mE t i q a.2).1,A.set m (a.1,(mE t i q a.2).2),B)|none=>(false,A,B))
 |none=>match mj t i B with
  |some (m,_)=>(match B[m]? with|some a=>((mE t i q a.2).1,A,B.set m (a.1,(mE t i q a.2).2))|none=>(false,A,B))
  |none=>(false,A,B)
theorem TZ (t i q:Int){s pr:Int}{es:List nB}(h: ∀e∈es,nk e/\EY s pr e.1):(∀e∈(mE t i q es).2,nk e/\EY s pr e.1)/\(mE t i q es).2.length=es.length:=by
 unfold mE;cases hf:es.findIdx? (λe=>jW t i e.1) with
 |none=>exact⟨h,rfl⟩
 |some n=>
  have hn:n<es.length:=(List.findIdx?_eq_some_iff_getElem.1 hf).1;have hd:es.getD n ((0,0,0,0,0,0,0,0,0,()),0,())=es[n]:=by rw[zdP,zdE hn];rfl
  have hm:=h _ (zeO hn);simp only[hd];split
  ·exact⟨h,rfl⟩
  ·rename_i hq
   refine⟨λe he=>?_,zec⟩;rcases zeN he with he|rfl
   ·exact h e he
   ·obtain⟨⟨a1,a2,a3⟩,a4⟩:=hm
    exact⟨⟨by show 1<=min _ _;omega,by show min _ _<=q;omega,by show q<=_;omega⟩,Cu _ _ _ _ a4⟩
theorem G8 (t i q:Int){s:Int}{A:List mL}(h:lT s A){m:Nat}{a:mL}(ha:A[m]?=some a):lT s (A.set m (a.1,(mE t i q a.2).2))/\iT (A.set m (a.1,(mE t i q a.2).2))<=iT A/\∀x∈A.set m (a.1,(mE t i q a.2).2),∃b∈A,b.1=x.1:=by
 have hm:=zeB ha;have hl:=TZ t i q (h.Jq a hm);have lF:(mE t i q a.2).2≠ []:=λe=>h.ne a hm (zd8 (by rw[<-hl.2,e];rfl))
 have:=KL h ha lF hl.1 (by omega)
 exact⟨this.1,this.2.1,Cv this.2.2⟩
theorem T2 {A B:List mL}(h:BI A B)(t i q:Int):BI (tn t i q A B).2.1 (tn t i q A B).2.2/\iT (tn t i q A B).2.1+iT (tn t i q A B).2.2<=iT A+iT B:=by
 unfold tn;cases hf:mj t i A with
 |some x=>
  obtain⟨m,o⟩:=x;obtain⟨a,h1,h2⟩:=me hf;simp only[h1];obtain⟨a1,a2,a3⟩:=G8 t i q h.vU h1;exact⟨TX h a1 a2 a3,by omega⟩
 |none=>
  cases xN:mj t i B with
  |some x=>
   obtain⟨m,o⟩:=x;obtain⟨a,h1,h2⟩:=me xN;simp only[h1];obtain⟨a1,a2,a3⟩:=G8 t i q h.qM h1;exact⟨O9 h a1 a2 a3,by omega⟩
  |none=>exact⟨h,zeF _⟩
def uo (t i:Int)(A B:List mL):Option cY:=match mj t i A with|some x=>some x.2|none=>match mj t i B with|some x=>some x.2|none=>none
section
variable {bs ss:List Nat}{st:List gz}{A B:List mL}{last no:Int}
theorem Pb (h:Bk bs ss st A B)(hi:BI A B)(t i:Int):fk WX (((),t,i,()),(kn last no,bs,ss,st,()))=some (((uo t i A B).getD o0,(uo t i A B).isSome,()),(kn last no,bs,ss,st,())):=by
 have hr:=KC (hdr:=kn last no) (t:=t) (i:=i) (h.vU hi).1 (h.qM hi).1;rw[pM,pM,h.ea,h.eb] at hr;unfold uo;rw[hr];cases mj t i A with
 |some x=>rfl
 |none=>cases mj t i B<;>rfl
theorem zan (h:Bk bs ss st A B)(hi:BI A B):iq WX (((),()),(kn last no,bs,ss,st,()))=some ((iT A+iT B,()),(kn last no,bs,ss,st,())):=by
 have:=O3 (hdr:=kn last no) (h.vU hi).1 (h.qM hi).1;rw[AL,AL,h.ea,h.eb] at this;exact this
theorem G9 (h:Bk bs ss st A B)(hi:BI A B)(s:Int)(hs:s=1\/s=2):fy WX (((),s,()),(kn last no,bs,ss,st,()))=some (.inr ((rF (if s=1 then A else B),()),(kn last no,bs,ss,st,()))):=by
 have:=Ns (hdr:=kn last no) (h.vU hi).1 (h.qM hi).1 s hs;rw[QX] at this;rw[this];split
 ·rw[h.ea]
 ·rw[h.eb]
theorem WL (h:Bk bs ss st A B)(hi:BI A B)(t i q:Int): ∃eZ,gJ WX (((),t,i,q,()),(kn last no,bs,ss,st,()))=some (((tn t i q A B).1,()),(kn last no,bs,ss,eZ,()))/\Bk bs ss eZ (tn t i q A B).2.1 (tn t i q A B).2.2:=by
 have hr:=TF (hdr:=kn last no) (t:=t) (i:=i) (h.vU hi).1 (h.qM hi).1 q;have hnd:=List.nodup_append.1 h.nd;obtain⟨lb,ls,nd,rfl,rfl⟩:=h;unfold IU at hr;unfold tn;rw[pM,pM] at hr;cases hf:mj t i (jy st bs) with
 |some x=>
  obtain⟨m,o⟩:=x;obtain⟨a,h1,h2⟩:=me hf;have hm:m<bs.length:=by have:=(List.getElem?_eq_some_iff.1 h1).1;unfold jy at this;rw[zeK] at this;exact this
  have hx:=zdE hm;have hg:bs.getD m 0=bs[m]:=by rw[zdP,hx];rfl
  have ha:a=(fF st bs[m],dC st bs[m]):=by
   unfold jy at h1;rw[zeG,hx] at h1;cases h1;rfl
  subst ha;rw[hf] at hr;simp only[hg] at hr;have hp:=yk lb hnd.1 hm (mE t i q (dC st bs[m])).2;have O4:=nL (sN (lb _ (zeO hm)).choose_spec.choose_spec (mE t i q (dC st bs[m])).2 bs (zeO hm)) ls (λp hp yi=>hnd.2.2 p yi p hp rfl);simp only[h1];exact⟨_,hr,hp.2,O4.2,nd,hp.1,O4.1⟩
 |none=>
  rw[hf] at hr;cases xN:mj t i (jy st ss) with
  |some x=>
   obtain⟨m,o⟩:=x;obtain⟨a,h1,h2⟩:=me xN;have hm:m<ss.length:=by have:=(List.getElem?_eq_some_iff.1 h1).1;unfold jy at this;rw[zeK] at this;exact this
   have hx:=zdE hm;have hg:ss.getD m 0=ss[m]:=by rw[zdP,hx];rfl
   have ha:a=(fF st ss[m],dC st ss[m]):=by
    unfold jy at h1;rw[zeG,hx] at h1;cases h1;rfl
   subst ha;rw[xN] at hr;simp only[hg] at hr;have hp:=yk ls hnd.2.1 hm (mE t i q (dC st ss[m])).2;have O4:=nL (sN (ls _ (zeO hm)).choose_spec.choose_spec (mE t i q (dC st ss[m])).2 ss (zeO hm)) lb (λp hp yi=>hnd.2.2 p hp p yi rfl);simp only[h1];exact⟨_,hr,O4.2,hp.2,nd,O4.1,hp.1⟩
  |none=>
   rw[xN] at hr;exact⟨_,hr,lb,ls,nd,rfl,rfl⟩
end
theorem Cw {L:List (List cY)}{i:Nat}{x:List cY}(h:L[i]?=some x):(L.take (i+1)).flatten=(L.take i).flatten++x:=by
 have hi:i<L.length:=(List.getElem?_eq_some_iff.1 h).1;rw[ze9,h];simp
theorem Ha {L:List (List cY)}(i:Nat):(L.take i).flatten.length<=L.flatten.length:=by
 conv=>rhs;rw[<-zeT i L,List.flatten_append,zdI]
 omega
theorem Cx (L:List (List cY))(h:L.flatten.length<=1000000000)(hn:L.length<=1000000):ag (aR WX) ((L,0,L,(L.length:Int),0,()),())=some ((L,(L.flatten.length:Int),()),()):=by
 have key: ∀m i:Nat,i+m=L.length->ag (aR WX) ((L,((L.take i).flatten.length:Int),L,(L.length:Int),(i:Int),()),())=some ((L,(L.flatten.length:Int),()),()):=by
  intro m;induction m with
  |zero=>
   intro i hi;rw[aw];have:i=L.length:=by omega
   subst this;simp only[aR,↓xo,oF ((L.length:Int)<(L.length:Int)),zdz,zeS]
  |succ m ih=>
   intro i hi;have nb:i<L.length:=by omega
   have hx:=zdE nb;generalize L[i]=x at hx;have hf:=Cw hx;have hle:=Ha (L:=L) (i+1);rw[hf,zdI] at hle;rw[aw];have e1:IntKind.wrap .i64 (((L.take i).flatten.length:Int)+(x.length:Int))=((L.take (i+1)).flatten.length:Int):=by
    rw[nO (by omega) (by omega),hf,zdI];omega
   simp only[aR,↓xo,xw,oT ((i:Int)<(L.length:Int)),oT ((0:Int)<=(i:Int)),zdA,zdB,hx,zdy,e1,oF (((L.take (i+1)).flatten.length:Int)<0),zdz,lD nb hn];exact ih (i+1) (by omega)
 exact key L.length 0 (by omega)
theorem IY (L:List (List cY))(hn:L.length<=1000000):ag (aO WX) ((0,L,(L.length:Int),0,()),(List.replicate L.flatten.length ((0:Int),(0:Int),(0:Int),(0:Int),(0:Int),(0:Int),(0:Int),(0:Int),(0:Int),()),()))=some ((L.flatten.length,()),(L.flatten,())):=by
 have key: ∀m i:Nat,i+m=L.length->ag (aO WX) (((L.take i).flatten.length,L,(L.length:Int),(i:Int),()),((L.take i).flatten++List.replicate (L.flatten.length-(L.take i).flatten.length) ((0:Int),(0:Int),(0:Int),(0:Int),(0:Int),(0:Int),(0:Int),(0:Int),(0:Int),()),()))=some ((L.flatten.length,()),(L.flatten,())):=by
  intro m;induction m with
  |zero=>
   intro i hi;rw[aw];have:i=L.length:=by omega
   subst this;simp only[aO,↓xo,oF ((L.length:Int)<(L.length:Int)),zdz,zeS,Nat.sub_self,zeP,ze2]
  |succ m ih=>
   intro i hi;have nb:i<L.length:=by omega
   have hx:=zdE nb;generalize L[i]=x at hx;have hf:=Cw hx;have hle:=Ha (L:=L) (i+1);rw[hf,zdI] at hle;rw[aw];have e2:((L.take i).flatten++List.replicate (L.flatten.length-(L.take i).flatten.length) ((0:Int),(0:Int),(0:Int),(0:Int),(0:Int),(0:Int),(0:Int),(0:Int),(0:Int),())).take (0+(L.take i).flatten.length)++x++((L.take i).flatten++List.replicate (L.flatten.length-(L.take i).flatten.length) ((0:Int),(0:Int),(0:Int),(0:Int),(0:Int),(0:Int),(0:Int),(0:Int),(0:Int),())).drop (0+(L.take i).flatten.length+x.length)=(L.take (i+1)).flatten++List.replicate (L.flatten.length-(L.take (i+1)).flatten.length) ((0:Int),(0:Int),(0:Int),(0:Int),(0:Int),(0:Int),(0:Int),(0:Int),(0:Int),()):=by
    rw[zep,List.take_left,List.drop_append,ze7 (by omega),zeA,List.drop_replicate,hf,zdI]
    congr 2
    omega
   simp only[aO,↓xo,xw,oT ((i:Int)<(L.length:Int)),oT ((0:Int)<=(i:Int)),zdA,zdB,hx,zdy,
    ot (show 0+(L.take i).flatten.length+x.length<=((L.take i).flatten++List.replicate (L.flatten.length-(L.take i).flatten.length) ((0:Int),(0:Int),(0:Int),(0:Int),(0:Int),(0:Int),(0:Int),(0:Int),(0:Int),())).length by rw[zdI,zet];omega),e2,lD nb hn]
   have:=ih (i+1) (by omega)
   rw[hf,zdI] at this⊢;exact this
 have:=key L.length 0 (by omega)
 simpa using this
theorem Gd (L:List (List cY))(hf:L.flatten=[])(hn:L.length<=1000000):ag (aN WX) (((),L,(L.length:Int),0,()),(([]:List cY),()))=some (((),()),([],())):=by
 have key: ∀m i:Nat,i+m=L.length->ag (aN WX) (((),L,(L.length:Int),(i:Int),()),(([]:List cY),()))=some (((),()),([],())):=by
  intro m;induction m with
  |zero=>
   intro i hi;rw[aw];have:i=L.length:=by omega
   subst this;simp only[aN,↓xo,oF ((L.length:Int)<(L.length:Int)),zdz]
  |succ m ih=>
   intro i hi;have nb:i<L.length:=by omega
   have hx:=zdE nb;have hm:=zeO nb;have h0:L[i]=[]:=List.flatten_eq_nil_iff.1 hf _ hm;rw[h0] at hx;rw[aw];simp only[aN,↓xo,xw,oT ((i:Int)<(L.length:Int)),oT ((0:Int)<=(i:Int)),zdA,zdB,hx,zdy,ze2,zdK,lD nb hn,
    ot (show(((0+0:Nat):Int))*((72:Nat):Int)<=((room:Nat):Int) by unfold room;omega)]
   exact ih (i+1) (by omega)
 exact key L.length 0 (by omega)
theorem IZ (L:List (List cY))(hf:L.flatten=[])(hn:L.length<=1000000):aL WX ((L,()),())=some (.inr (((),()),([],()))):=by
 have h3:=Cx L (by rw[hf];simp) hn
 have hb:=Gd L hf hn;rw[hf] at h3;change _=some ((L,0,()),()) at h3;have hg:bY WX (((),0,()),())=some (.inr (((),()),[],())):=by kernel_rfl
 simp only[aL,xl,h3,zdy,hg,hb]
theorem KN (L:List (List cY))(hf:L.flatten≠ [])(h:L.flatten.length<=1000000000)(hn:L.length<=1000000):aL WX ((L,()),())=some (.inl ((L.flatten.length,()),(L.flatten,()))):=by
 have h3:=Cx L h hn;have hb:=IY L hn;have hp:0<L.flatten.length:=List.length_pos_iff.2 hf;generalize hN:L.flatten.length=n at*;have e0:IntKind.wrap .i64 ((n:Int)-IntKind.wrap .i64 (0-0))=(n:Int):=by
  rw[nO (n:=0-0) (by omega) (by omega),nO (by omega) (by omega)];omega
 simp only[aL,xl,h3,zdy,bY,↓xo,xw,e0,oF ((n:Int)<0),zdz,oT ((n:Int)>0),zdA,zdK,zfa,zeA,zet,zdB,and_self,iL];have e1:af ((0:Int)=0/\(0:Int)=0)=true:=ot (by decide)
 have e2:af ((0:Int)<=(n:Int)/\(0+(n:Int))*((72:Nat):Int)<=((room:Nat):Int))=true:=ot (by unfold room;omega)
 have e3:af ((0:Int)<=0/\(0:Int)<=0/\(0:Int)<=(n:Int))=true:=ot (by omega)
 have e4:((0:Int)-(0:Int)).toNat=0:=rfl;simp only[e1,e2,e3,zdA,zdy,e4,hb]
theorem CY (L:List (List cY))(h:L.flatten.length<=1000000000)(hn:L.length<=1000000):aL WX ((L,()),())=some (.inr (((),()),([],())))/\L.flatten=[]\/aL WX ((L,()),())=some (.inl ((L.flatten.length,()),(L.flatten,()))):=by
 by_cases hf:L.flatten=[]
 ·exact .inl ⟨IZ L hf hn,hf⟩
 ·exact .inr (KN L hf h hn)
theorem Cy {L:List (List mi)}{i:Nat}{x:List mi}(h:L[i]?=some x):(L.take (i+1)).flatten=(L.take i).flatten++x:=by
 have hi:i<L.length:=(List.getElem?_eq_some_iff.1 h).1;rw[ze9,h];simp
theorem Hb {L:List (List mi)}(i:Nat):(L.take i).flatten.length<=L.flatten.length:=by
 conv=>rhs;rw[<-zeT i L,List.flatten_append,zdI]
 omega
theorem Cz (L:List (List mi))(h:L.flatten.length<=1000000000)(hn:L.length<=1000000):ag (aY WX) ((L,0,L,(L.length:Int),0,()),())=some ((L,(L.flatten.length:Int),()),()):=by
 have key: ∀m i:Nat,i+m=L.length->ag (aY WX) ((L,((L.take i).flatten.length:Int),L,(L.length:Int),(i:Int),()),())=some ((L,(L.flatten.length:Int),()),()):=by
  intro m;induction m with
  |zero=>
   intro i hi;rw[aw];have:i=L.length:=by omega
   subst this;simp only[aY,↓xo,oF ((L.length:Int)<(L.length:Int)),zdz,zeS]
  |succ m ih=>
   intro i hi;have nb:i<L.length:=by omega
   have hx:=zdE nb;generalize L[i]=x at hx;have hf:=Cy hx;have hle:=Hb (L:=L) (i+1);rw[hf,zdI] at hle;rw[aw];have e1:IntKind.wrap .i64 (((L.take i).flatten.length:Int)+(x.length:Int))=((L.take (i+1)).flatten.length:Int):=by
    rw[nO (by omega) (by omega),hf,zdI];omega
   simp only[aY,↓xo,xw,oT ((i:Int)<(L.length:Int)),oT ((0:Int)<=(i:Int)),zdA,zdB,hx,zdy,e1,oF (((L.take (i+1)).flatten.length:Int)<0),zdz,lD nb hn];exact ih (i+1) (by omega)
 exact key L.length 0 (by omega)
theorem I0 (L:List (List mi))(hn:L.length<=1000000):ag (aU WX) ((0,L,(L.length:Int),0,()),(List.replicate L.flatten.length ((0:Int),(0:Int),(0:Int),(0:Int),(0:Int),(0:Int),(0:Int),(0:Int),(0:Int),(0:Int),(List.replicate 32 (0:Int)),()),()))=some ((L.flatten.length,()),(L.flatten,())):=by
 have key: ∀m i:Nat,i+m=L.length->ag (aU WX) (((L.take i).flatten.length,L,(L.length:Int),(i:Int),()),((L.take i).flatten++List.replicate (L.flatten.length-(L.take i).flatten.length) ((0:Int),(0:Int),(0:Int),(0:Int),(0:Int),(0:Int),(0:Int),(0:Int),(0:Int),(0:Int),(List.replicate 32 (0:Int)),()),()))=some ((L.flatten.length,()),(L.flatten,())):=by
  intro m;induction m with
  |zero=>
   intro i hi;rw[aw];have:i=L.length:=by omega
   subst this;simp only[aU,↓xo,oF ((L.length:Int)<(L.length:Int)),zdz,zeS,Nat.sub_self,zeP,ze2]
  |succ m ih=>
   intro i hi;have nb:i<L.length:=by omega
   have hx:=zdE nb;generalize L[i]=x at hx;have hf:=Cy hx;have hle:=Hb (L:=L) (i+1);rw[hf,zdI] at hle;rw[aw];have e2:((L.take i).flatten++List.replicate (L.flatten.length-(L.take i).flatten.length) ((0:Int),(0:Int),(0:Int),(0:Int),(0:Int),(0:Int),(0:Int),(0:Int),(0:Int),(0:Int),(List.replicate 32 (0:Int)),())).take (0+(L.take i).flatten.length)++x++((L.take i).flatten++List.replicate (L.flatten.length-(L.take i).flatten.length) ((0:Int),(0:Int),(0:Int),(0:Int),(0:Int),(0:Int),(0:Int),(0:Int),(0:Int),(0:Int),(List.replicate 32 (0:Int)),())).drop (0+(L.take i).flatten.length+x.length)=(L.take (i+1)).flatten++List.replicate (L.flatten.length-(L.take (i+1)).flatten.length) ((0:Int),(0:Int),(0:Int),(0:Int),(0:Int),(0:Int),(0:Int),(0:Int),(0:Int),(0:Int),(List.replicate 32 (0:Int)),()):=by
    rw[zep,List.take_left,List.drop_append,ze7 (by omega),zeA,List.drop_replicate,hf,zdI]
    congr 2
    omega
   simp only[aU,↓xo,xw,oT ((i:Int)<(L.length:Int)),oT ((0:Int)<=(i:Int)),zdA,zdB,hx,zdy,
    ot (show 0+(L.take i).flatten.length+x.length<=((L.take i).flatten++List.replicate (L.flatten.length-(L.take i).flatten.length) ((0:Int),(0:Int),(0:Int),(0:Int),(0:Int),(0:Int),(0:Int),(0:Int),(0:Int),(0:Int),(List.replicate 32 (0:Int)),())).length by rw[zdI,zet];omega),e2,lD nb hn]
   have:=ih (i+1) (by omega)
   rw[hf,zdI] at this⊢;exact this
 have:=key L.length 0 (by omega)
 simpa using this
theorem Ge (L:List (List mi))(hf:L.flatten=[])(hn:L.length<=1000000):ag (aS WX) (((),L,(L.length:Int),0,()),(([]:List mi),()))=some (((),()),([],())):=by
 have key: ∀m i:Nat,i+m=L.length->ag (aS WX) (((),L,(L.length:Int),(i:Int),()),(([]:List mi),()))=some (((),()),([],())):=by
  intro m;induction m with
  |zero=>
   intro i hi;rw[aw];have:i=L.length:=by omega
   subst this;simp only[aS,↓xo,oF ((L.length:Int)<(L.length:Int)),zdz]
  |succ m ih=>
   intro i hi;have nb:i<L.length:=by omega
   have hx:=zdE nb;have hm:=zeO nb;have h0:L[i]=[]:=List.flatten_eq_nil_iff.1 hf _ hm;rw[h0] at hx;rw[aw];simp only[aS,↓xo,xw,oT ((i:Int)<(L.length:Int)),oT ((0:Int)<=(i:Int)),zdA,zdB,hx,zdy,ze2,zdK,lD nb hn,
    ot (show(((0+0:Nat):Int))*((112:Nat):Int)<=((room:Nat):Int) by unfold room;omega)]
   exact ih (i+1) (by omega)
 exact key L.length 0 (by omega)
theorem I1 (L:List (List mi))(hf:L.flatten=[])(hn:L.length<=1000000):bm WX ((L,()),())=some (.inr (((),()),([],()))):=by
 have h3:=Cz L (by rw[hf];simp) hn
 have hb:=Ge L hf hn;rw[hf] at h3;change _=some ((L,0,()),()) at h3;have hg:cn WX (((),0,()),())=some (.inr (((),()),[],())):=by kernel_rfl
 simp only[bm,xl,h3,zdy,hg,hb]
theorem KO (L:List (List mi))(hf:L.flatten≠ [])(h:L.flatten.length<=1000000000)(hn:L.length<=1000000):bm WX ((L,()),())=some (.inl ((L.flatten.length,()),(L.flatten,()))):=by
 have h3:=Cz L h hn;have hb:=I0 L hn;have hp:0<L.flatten.length:=List.length_pos_iff.2 hf;generalize hN:L.flatten.length=n at*;have e0:IntKind.wrap .i64 ((n:Int)-IntKind.wrap .i64 (0-0))=(n:Int):=by
  rw[nO (n:=0-0) (by omega) (by omega),nO (by omega) (by omega)];omega
 simp only[bm,xl,h3,zdy,cn,↓xo,xw,e0,oF ((n:Int)<0),zdz,oT ((n:Int)>0),zdA,zdK,zfa,zeA,zet,zdB,and_self,iL];have e1:af ((0:Int)=0/\(0:Int)=0)=true:=ot (by decide)
 have e2:af ((0:Int)<=(n:Int)/\(0+(n:Int))*((112:Nat):Int)<=((room:Nat):Int))=true:=ot (by unfold room;omega)
 have e3:af ((0:Int)<=0/\(0:Int)<=0/\(0:Int)<=(n:Int))=true:=ot (by omega)
 have e4:((0:Int)-(0:Int)).toNat=0:=rfl;simp only[e1,e2,e3,zdA,zdy,e4,hb]
theorem CZ (L:List (List mi))(h:L.flatten.length<=1000000000)(hn:L.length<=1000000):bm WX ((L,()),())=some (.inr (((),()),([],())))/\L.flatten=[]\/bm WX ((L,()),())=some (.inl ((L.flatten.length,()),(L.flatten,()))):=by
 by_cases hf:L.flatten=[]
 ·exact .inl ⟨I1 L hf hn,hf⟩
 ·exact .inr (KO L hf h hn)
theorem Dp {L R:Type}{b:L->Option (L⊕R)}(mk:Nat->L)(fin:R)(n:Nat)(hs: ∀i,i<n->b (mk i)=some (.inl (mk (i+1))))(he:b (mk n)=some (.inr fin)): ∀i,i<=n->ag b (mk i)=some fin:=by
 have key: ∀m i,i+m=n->ag b (mk i)=some fin:=by
  intro m;induction m with
  |zero=>intro i hi;rw[aw,show i=n by omega,he]
  |succ m ih=>intro i hi;rw[aw,hs i (by omega)];exact ih (i+1) (by omega)
 exact λi hi=>key (n-i) i (by omega)
theorem Hc {L R α:Type}{b:L->Option (L⊕R)}(l:List α)(p:α->Bool)(mk:Nat->L)(res:Nat->R)(fin:R)(hs: ∀i (h:i<l.length),b (mk i)=some (if p l[i]=true then .inr (res i) else .inl (mk (i+1))))(he:b (mk l.length)=some (.inr fin)):
  ag b (mk 0)=some (match l.findIdx? p with|some n=>res n|none=>fin):=by
 have key: ∀m i,i+m=l.length->(∀j (h:j<l.length),j<i->p l[j]=false)->ag b (mk i)=some (match l.findIdx? p with|some n=>res n|none=>fin):=by
  intro m;induction m with
  |zero=>
   intro i hi wy;have:l.findIdx? p=none:=by
    rw[zfh];intro x hx;obtain⟨j,hj,rfl⟩:=zeh hx;exact wy j hj (by omega)
   rw[aw,show i=l.length by omega,he,this]
  |succ m ih=>
   intro i hi wy;rw[aw,hs i (by omega)]
   cases hp:p (l[i]'(by omega)) with
   |true=>
    have:l.findIdx? p=some i:=by
     rw[zfi];exact⟨by omega,hp,λj hj=>by rw[wy j (by omega) hj];simp⟩
    rw[this];rfl
   |false=>
    rw[if_neg (by simp)]
    exact ih (i+1) (by omega) (λj h hj=>by
     by_cases e:j=i
     ·subst e;exact hp
     ·exact wy j h (by omega))
 exact key l.length 0 (by omega) (λj _ h=>by omega)
theorem rG {L R:Type}{b:L->Option (L⊕R)}(I:Nat->L->Prop)(Q:R->Prop)(hs: ∀k l,I k l->(∃l',b l=some (.inl l')/\∃k',k'<k/\I k' l')\/∃r,b l=some (.inr r)/\Q r): ∀k l,I k l->∃r,ag b l=some r/\Q r:=by
 intro k;induction k using Nat.strongRecOn with
 |_ k ih=>
  intro l hl;rcases hs k l hl with⟨l',h1,k',h2,h3⟩|⟨r,h1,h2⟩
  ·obtain⟨r,h4,h5⟩:=ih k' h2 l' h3
   exact⟨r,by rw[aw,h1];exact h4,h5⟩
  ·exact⟨r,by rw[aw,h1],h2⟩
def KP {α:Type}(p:α->Bool)(l:List α):Int:=match l.findIdx? p with|some n=>(n:Int)|none=> -1
theorem Hd (t i:Int)(ws:List cY)(hl:ws.length<=1000000):bt WX ((ws,((),(),()),()),(t,i,()))=some ((KP (jW t i) ws,()),(t,i,())):=by
 have h:=Hc (b:=aE WX) ws (jW t i) (λk=>((ws,((),(),()),(ws.length:Int),(k:Int),()),(t,i,()))) (λn=> .inl (((n:Int),()),(t,i,()))) (.inr ((),(t,i,()))) (λk hk=>by
  have hx:=zdE hk;generalize ws[k]=x at hx;have e1:=lD hk hl;have hp:eA WX ((x,(),(),()),(t,i,()))=some ((jW t i x,()),(t,i,())):=by
   unfold jW;by_cases h1:x.1=t
   ·by_cases h2:x.2.1=i
    ·simp only[eA,↓xo,ot h1,zdA,ot h2];rw[decide_eq_true ⟨h1,h2⟩]
    ·simp only[eA,↓xo,ot h1,zdA,bc h2];rw[decide_eq_false (λq=>h2 q.2)]
   ·simp only[eA,↓xo,bc h1,zdz];rw[decide_eq_false (λq=>h1 q.1)]
  cases hb:jW t i x with
  |true=>simp only[aE,↓xo,oT ((k:Int)<(ws.length:Int)),oT ((0:Int)<=(k:Int)),zdA,zdB,hx,zdy,hp,hb,if_true]
  |false=>simp only[aE,↓xo,xw,oT ((k:Int)<(ws.length:Int)),oT ((0:Int)<=(k:Int)),zdA,zdB,hx,zdy,hp,hb,zdz,e1,zdG,if_false])
  (by simp only[aE,↓xo,oF ((ws.length:Int)<(ws.length:Int)),zdz])
 change ag (aE WX) ((ws,((),(),()),(ws.length:Int),0,()),(t,i,()))=_ at h;unfold KP;simp only[bt,↓xl,h,zdy];cases ws.findIdx? (jW t i)<;>rfl
abbrev Gf (last:Int)(o:cY):Bool:=BD o last
theorem KQ (last no:Int)(bs ss:List Nat)(st:List gz)(ws:List cY)(hl:ws.length<=1000000):bo WX ((ws,(((),(),()),()),()),(kn last no,bs,ss,st,()))=some ((KP (Gf last) ws,()),(kn last no,bs,ss,st,())):=by
 have h:=Hc (b:=aA WX) ws (Gf last) (λk=>((ws,(((),(),()),()),(ws.length:Int),(k:Int),()),(kn last no,bs,ss,st,()))) (λn=> .inl (((n:Int),()),(kn last no,bs,ss,st,()))) (.inr ((),(kn last no,bs,ss,st,()))) (λk hk=>by
  have hx:=zdE hk;generalize ws[k]=x at hx;have e1:=lD hk hl;have hh:=No x last;have hp:dQ WX ((x,((),(),()),()),(kn last no,bs,ss,st,()))=some ((Gf last x,()),(kn last no,bs,ss,st,())):=by
   simp only[dQ,gI,zdy,hh]
  cases hb:Gf last x with
  |true=>simp only[aA,↓xo,oT ((k:Int)<(ws.length:Int)),oT ((0:Int)<=(k:Int)),zdA,zdB,hx,zdy,hp,hb,if_true]
  |false=>simp only[aA,↓xo,xw,oT ((k:Int)<(ws.length:Int)),oT ((0:Int)<=(k:Int)),zdA,zdB,hx,zdy,hp,hb,zdz,e1,zdG,if_false])
  (by simp only[aA,↓xo,oF ((ws.length:Int)<(ws.length:Int)),zdz])
 change ag (aA WX) ((ws,(((),(),()),()),(ws.length:Int),0,()),(kn last no,bs,ss,st,()))=_ at h;unfold KP;simp only[bo,↓xl,h,zdy];cases ws.findIdx? (Gf last)<;>rfl
theorem Pc {es:List cY}{i:Nat}(h:i<es.length)(hl:es.length<=1000000):bq WX (((),(i:Int),((i+1:Nat):Int),()),(es,()))=some (((),()),(es.eraseIdx i,())):=by
 have e0:((i:Int)-(0:Int)).toNat=i:=by omega
 have e1:(es.drop (i+1)).length=es.length-(i+1):=by rw[zd4]
 have e2:es.take (0+i)++es.drop (i+1)++es.drop (0+i+(es.length-(i+1)))=es.eraseIdx i++es.drop (es.length-1):=by
  rw[zep,zff,show i+(es.length-(i+1))=es.length-1 by omega]
 have e3:(es.eraseIdx i).length=es.length-1:=zfg h;have e4:i+(es.length-(i+1))=es.length-1:=by omega
 have e5:(es.drop (es.length-1)).length=1:=by rw[zd4];omega
 simp only[bq,↓xo,oT (0<=(i:Int)/\(i:Int)<=((i+1:Nat):Int)/\((i+1:Nat):Int)<=(es.length:Int)/\(es.length:Int)<=(es.length:Int)),zdA,oF ((i:Int)=((i+1:Nat):Int)),zdz,oT (0<=(0:Int)/\(0:Int)<=(i:Int)/\(i:Int)<=(es.length:Int)),
  oT (0<=((i+1:Nat):Int)/\((i+1:Nat):Int)<=(es.length:Int)),e0,zdB,e1,oT (0+i+(es.length-(i+1))<=es.length),e2,e4]
 have e6: ∀X:List cY,(es.eraseIdx i++X).take (es.length-1)=es.eraseIdx i:=λX=>by rw[List.take_append_of_le_length (by omega),zd9 (by omega)]
 simp only[e6,zfc,List.append_assoc,ot (show 0<=((es.length-1:Nat):Int)/\((es.length-1:Nat):Int)<=(es.length:Int)/\(es.length:Int)<=(((es.eraseIdx i++es.drop (es.length-1)).length-0:Nat):Int) by rw[zdI,e3,e5];omega),zdA]
structure s8 (A B:List mL)(ws:List cY):Prop where
 bi:BI A B
 wo: ∀o∈ws,yh o/\0<mr o
 yZ:iT A+iT B+ws.length<=64
theorem s8.len {A B:List mL}{ws:List cY}(h:s8 A B ws):ws.length<=64:=by have:=h.yZ;have:=tF A;have:=tF B;omega
def oO (t i:Int)(A B:List mL)(ws:List cY):Option cY:=match uo t i A B with|some o=>some o|none=>match ws.findIdx? (jW t i) with|some n=>some (ws.getD n o0)|none=>none
def lV (t i:Int)(A B:List mL)(ws:List cY):cY×Bool×List mL×List mL×List cY:=
 if(uH t i A B).2.1=true then((uH t i A B).1,true,(uH t i A B).2.2.1,(uH t i A B).2.2.2,ws)
 else match ws.findIdx? (jW t i) with
  |some n=>(ws.getD n o0,true,(uH t i A B).2.2.1,(uH t i A B).2.2.2,ws.eraseIdx n)
  |none=>(o0,false,(uH t i A B).2.2.1,(uH t i A B).2.2.2,ws)
abbrev CA (last no:Int)(bs ss:List Nat)(ws:List cY)(st:List gz):(Unit×Unit×Unit)×Np×List Nat×List Nat×List cY×List gz×Unit:=(((),(),()),kn last no,bs,ss,ws,st,())
abbrev Gg (last no:Int)(bs ss:List Nat)(ws:List cY)(st:List gz):(Unit×Unit×Unit)×Np×List cY×List Nat×List Nat×List gz×Unit:=(((),(),()),kn last no,ws,bs,ss,st,())
section
variable {bs ss:List Nat}{st:List gz}{A B:List mL}{ws:List cY}{last no:Int}
theorem I2 (h:Bk bs ss st A B)(hi:s8 A B ws)(t i:Int):dT WX (((),t,i,()),CA last no bs ss ws st)=some (((oO t i A B ws).getD o0,(oO t i A B ws).isSome,()),Gg last no bs ss ws st):=by
 have hf:=Pb (last:=last) (no:=no) h hi.bi t i;have hp:=Hd t i ws (by have:=hi.len;omega)
 unfold KP at hp;unfold oO;cases hr:uo t i A B with
 |some o=>
  rw[hr] at hf;simp only[zeV,zfn] at hf;simp only[dT,hf,zdy,zdA,zeV,zfn]
 |none=>
  rw[hr] at hf;simp only[Option.getD_none,zeR] at hf;cases hw:ws.findIdx? (jW t i) with
  |none=>
   rw[hw] at hp;have e: ¬(-1:Int)>=0:=by omega
   simp only[dT,hf,zdy,zdz,ee,hp,↓xo,bc e,Option.getD_none,zeR]
  |some n=>
   rw[hw] at hp;have hn:=(List.findIdx?_eq_some_iff_getElem.1 hw).1;have hx:=zdE hn;have hg:ws.getD n o0=ws[n]:=by rw[zdP,hx];rfl
   simp only[dT,hf,zdy,zdz,ee,hp,↓xo,oT ((n:Int)>=0),zdA,oT (0<=(n:Int)/\(n:Int)<(ws.length:Int)),zdB,hx,zeV,zfn,hg]
theorem Nw (h:Bk bs ss st A B)(hi:s8 A B ws)(t i:Int): ∃oV oW eZ,cB WX (((),t,i,()),CA last no bs ss ws st)=some (((lV t i A B ws).1,(lV t i A B ws).2.1,()),Gg last no oV oW (lV t i A B ws).2.2.2.2 eZ)/\Bk oV oW eZ (lV t i A B ws).2.2.1 (lV t i A B ws).2.2.2.1:=by
 obtain⟨oV,oW,eZ,hr,hb⟩:=zam (last:=last) (no:=no) h hi.bi t i;have hp:=Hd t i ws (by have:=hi.len;omega)
 unfold KP at hp;unfold lV;refine⟨oV,oW,eZ,?_⟩;cases he:(uH t i A B).2.1 with
 |true=>
  rw[he] at hr;rw[if_pos rfl];exact⟨by simp only[cB,hr,zdy,zdA],hb⟩
 |false=>
  rw[he] at hr;rw[if_neg (by simp)]
  cases hw:ws.findIdx? (jW t i) with
  |none=>
   rw[hw] at hp;have e:(-1:Int)<0:=by omega
   exact⟨by simp only[cB,hr,zdy,zdz,ee,hp,↓xo,ot e,zdA],hb⟩
  |some n=>
   rw[hw] at hp;have hn:=(List.findIdx?_eq_some_iff_getElem.1 hw).1;have hx:=zdE hn;have hg:ws.getD n o0=ws[n]:=by rw[zdP,hx];rfl
   have hd:=Pc hn (by have:=hi.len;omega)
   have e1:=lD hn (by have:=hi.len;omega)
   exact⟨by simp only[cB,hr,zdy,zdz,ee,hp,↓xo,xw,oF ((n:Int)<0),oT (0<=(n:Int)/\(n:Int)<(ws.length:Int)),zdA,zdB,hx,e1,hd,hg],hb⟩
theorem AN (hi:s8 A B ws)(t i:Int):s8 (lV t i A B ws).2.2.1 (lV t i A B ws).2.2.2.1 (lV t i A B ws).2.2.2.2/\(lV t i A B ws).2.2.2.2.Sublist ws:=by
 have h:=WK hi.bi t i;have hc:=hi.yZ;unfold lV;split
 ·exact⟨⟨h.1,hi.wo,by simp only;omega⟩,List.Sublist.refl _⟩
 ·split
  ·rename_i n hn
   have hs:(ws.eraseIdx n).Sublist ws:=zfr ..;have:=hs.length_le;exact⟨⟨h.1,λo ho=>hi.wo o (hs.subset ho),by simp only;omega⟩,hs⟩
  ·exact⟨⟨h.1,hi.wo,by simp only;omega⟩,List.Sublist.refl _⟩
theorem zao (h:Bk bs ss st A B)(hi:s8 A B ws):hJ WX (((),()),CA last no bs ss ws st)=some ((iT A+iT B+ws.length,()),Gg last no bs ss ws st):=by
 have hl:=zan (last:=last) (no:=no) h hi.bi;have hc:=hi.yZ;have:=tF A;have:=tF B;have e:i64.wrap (iT A+iT B+(ws.length:Int))=iT A+iT B+ws.length:=nO (by omega) (by omega)
 simp only[hJ,hl,zdy,↓xo,xw,e]
def s9 (A B:List mL)(ws:List cY):List cY:=rF A++(rF B++ws)
theorem He (A:List mL):((rF A).length:Int)=iT A:=by
 unfold rF iT;induction A with
 |nil=>rfl
 |cons p l ih=>simp only[zen,zdI,zeK,zex,gU,zev] at*;omega
theorem yl (hi:s8 A B ws):(s9 A B ws).length<=64:=by
 have:=He A;have:=He B;have:=hi.yZ;unfold s9;rw[zdI,zdI];omega
theorem all_mk (h:Bk bs ss st A B)(hi:s8 A B ws):eS WX (((),()),CA last no bs ss ws st)=some ((s9 A B ws,()),Gg last no bs ss ws st):=by
 have h1:=G9 (last:=last) (no:=no) h hi.bi 1 (.inl rfl);have h2:=G9 (last:=last) (no:=no) h hi.bi 2 (.inr rfl);rw[if_pos rfl] at h1;rw[if_neg (by omega)] at h2
 have hf: [rF A,rF B,ws].flatten=s9 A B ws:=by simp[s9]
 have hc:=CY [rF A,rF B,ws] (by rw[hf];have:=yl hi;omega) (by simp)
 rw[hf] at hc;rcases hc with⟨hc,h0⟩|hc
 ·rw[h0]
  simp only[eS,h1,zdy,h2,hc]
 ·simp only[eS,h1,zdy,h2,hc,zeS]
end
def zc (o:cY)(A B:List mL)(ws:List cY):Int:=
 if(!oL o)=true then 1 else if(oO o.1 o.2.1 A B ws).isSome=true then 5
 else if iT A+iT B+ws.length>=64/\(mr o>0\/gV o=1\/gV o=5) then 4 else 0
def eJ (o:cY):cY:=(o.1,o.2.1,o.2.2.1,o.2.2.2.1,o.2.2.2.2.1,o.2.2.2.2.2.1,o.2.2.2.2.2.2.1,o.2.2.2.2.2.2.2.1,0,())
abbrev MS:=List mL×List mL×List cY×Int×Int
def jF:Nat->MS->List ld->MS×List ld
 |0,m,out=>(m,out)
 |k+1,(A,B,ws,last,no),out=>match ws.findIdx? (Gf last) with
  |none=>((A,B,ws,last,no),out)
  |some n=>jF k ((iu (eJ (ws.getD n o0)) A B last no).2.1,(iu (eJ (ws.getD n o0)) A B last no).2.2.1,ws.eraseIdx n,(iu (eJ (ws.getD n o0)) A B last no).2.2.2.1,(iu (eJ (ws.getD n o0)) A B last no).2.2.2.2) (out++ [(ws.getD n o0,(iu (eJ (ws.getD n o0)) A B last no).1.2)])
def js (o:cY)(m:MS):MS×List ld:=
 if¬zc o m.1 m.2.1 m.2.2.1=0 then((jF m.2.2.1.length m []).1,(o,[],aj o,false,false,false,zc o m.1 m.2.1 m.2.2.1,())::(jF m.2.2.1.length m []).2)
 else if mr o>0/\BD o m.2.2.2.1=false then((jF (m.2.2.1.length+1) (m.1,m.2.1,m.2.2.1++ [o],m.2.2.2) []).1,(o,[],aj o,false,true,false,0,())::(jF (m.2.2.1.length+1) (m.1,m.2.1,m.2.2.1++ [o],m.2.2.2) []).2)
 else((jF m.2.2.1.length ((iu (eJ o) m.1 m.2.1 m.2.2.2.1 m.2.2.2.2).2.1,(iu (eJ o) m.1 m.2.1 m.2.2.2.1 m.2.2.2.2).2.2.1,m.2.2.1,(iu (eJ o) m.1 m.2.1 m.2.2.2.1 m.2.2.2.2).2.2.2) []).1,(o,(iu (eJ o) m.1 m.2.1 m.2.2.2.1 m.2.2.2.2).1.2)::(jF m.2.2.1.length ((iu (eJ o) m.1 m.2.1 m.2.2.2.1 m.2.2.2.2).2.1,(iu (eJ o) m.1 m.2.1 m.2.2.2.1 m.2.2.2.2).2.2.1,m.2.2.1,(iu (eJ o) m.1 m.2.1 m.2.2.2.1 m.2.2.2.2).2.2.2) []).2)
section
variable {bs ss:List Nat}{st:List gz}{A B:List mL}{ws:List cY}{last no:Int}
theorem Nx (h:Bk bs ss st A B)(hi:s8 A B ws)(o:cY):cw WX (((),o,()),CA last no bs ss ws st)=some ((zc o A B ws,()),Gg last no bs ss ws st):=by
 have hR:=AI o;have hF:=I2 (last:=last) (no:=no) h hi o.1 o.2.1;have hL:=zao (last:=last) (no:=no) h hi;have WE: ¬(1:Int)=0:=by omega
 unfold zc;cases hr:oL o with
 |false=>
  rw[hr] at hR;simp only[cw,hR,zdy,zdz,↓xo,bc WE,zdD,zdA,if_true]
 |true=>
  rw[hr] at hR;cases hf:(oO o.1 o.2.1 A B ws).isSome with
  |true=>
   rw[hf] at hF;simp only[cw,hR,zdy,zdA,↓xo,iL,zdC,zdz,hF,if_true,zdG,if_false]
  |false=>
   rw[hf] at hF;simp only[zdC,zdG,if_false];by_cases h1:iT A+iT B+ws.length>=64
   ·by_cases h2:mr o>0
    ·rw[if_pos ⟨h1, .inl h2⟩]
     simp only[cw,hR,zdy,zdA,↓xo,iL,zdC,zdz,hF,hL,ot h1,ot h2]
    ·by_cases h3:gV o=1
     ·rw[if_pos ⟨h1, .inr (.inl h3)⟩]
      simp only[cw,hR,zdy,zdA,↓xo,iL,zdC,zdz,hF,hL,ot h1,bc h2,ot h3]
     ·by_cases h4:gV o=5
      ·rw[if_pos ⟨h1, .inr (.inr h4)⟩]
       simp only[cw,hR,zdy,zdA,↓xo,iL,zdC,zdz,hF,hL,ot h1,bc h2,bc h3,ot h4]
      ·rw[if_neg (by rintro⟨_,h|h|h⟩;exact h2 h;exact h3 h;exact h4 h)]
       simp only[cw,hR,zdy,zdA,↓xo,iL,zdC,zdz,hF,hL,ot h1,bc h2,bc h3,bc h4]
   ·rw[if_neg (λh=>h1 h.1)]
    simp only[cw,hR,zdy,zdA,↓xo,iL,zdC,zdz,hF,hL,bc h1]
theorem KR (h:Bk bs ss st A B)(hi:BI A B)(o:cY)(ws:List cY): ∃oV oW eZ,eM WX (((),o,()),CA last no bs ss ws st)=some (((o,(iu (eJ o) A B last no).1.2),()),Gg (iu (eJ o) A B last no).2.2.2.1 (iu (eJ o) A B last no).2.2.2.2 oV oW ws eZ)/\Bk oV oW eZ (iu (eJ o) A B last no).2.1 (iu (eJ o) A B last no).2.2.1:=by
 obtain⟨oV,oW,eZ,h1,h2⟩:=zak (last:=last) (no:=no) h hi (eJ o);refine⟨oV,oW,eZ,?_,h2⟩;unfold eJ at h1;simp only[eM,h1,zdy];rfl
theorem E2 (o:cY):iQ (eJ o)=iQ o:=rfl
theorem one_le {p:Prop} [Decidable p]:(if p then(1:Int) else 0)<=1:=by split<;>omega
theorem WM: ∀(k:Nat) (bs ss:List Nat) (st:List gz) (A B:List mL) (ws:List cY) (last no:Int) (out:List ld),Bk bs ss st A B->s8 A B ws->ws.length<=k->out.length+ws.length<=1000->∃oV oW eZ,ag (bT WX) (((),(),()),(),((),(),()),kn last no,bs,ss,ws,out,st,())=
  some (((),()),(),((),(),()),kn (jF k (A,B,ws,last,no) out).1.2.2.2.1 (jF k (A,B,ws,last,no) out).1.2.2.2.2,(jF k (A,B,ws,last,no) out).1.2.2.1,oV,oW,(jF k (A,B,ws,last,no) out).2,eZ,())/\Bk oV oW eZ (jF k (A,B,ws,last,no) out).1.1 (jF k (A,B,ws,last,no) out).1.2.1/\
  s8 (jF k (A,B,ws,last,no) out).1.1 (jF k (A,B,ws,last,no) out).1.2.1 (jF k (A,B,ws,last,no) out).1.2.2.1/\(∀o∈(jF k (A,B,ws,last,no) out).1.2.2.1,BD o (jF k (A,B,ws,last,no) out).1.2.2.2.1=false):=by
 intro k;have vG: ∀(bs ss:List Nat) (st:List gz) (A B:List mL) (ws:List cY) (last no:Int) (out:List ld),s8 A B ws->ws.findIdx? (Gf last)=none->ag (bT WX) (((),(),()),(),((),(),()),kn last no,bs,ss,ws,out,st,())=some (((),()),(),((),(),()),kn last no,ws,bs,ss,out,st,())/\∀o∈ws,BD o last=false:=by
  intro bs ss st A B ws last no out hi hn;have hp:=KQ last no bs ss st ws (by have:=hi.len;omega)
  unfold KP at hp;rw[hn] at hp;have e:(-1:Int)<0:=by omega
  refine⟨by rw[aw];simp only[bT,hp,zdy,↓xo,ot e,zdA],λo ho=>?_⟩
  rw[zfh] at hn;exact hn o ho
 induction k with
 |zero=>
  intro bs ss st A B ws last no out h hi hk ho;have:ws=[]:=zd8 (by omega)
  subst this;have:=vG bs ss st A B [] last no out hi rfl;exact⟨bs,ss,st,this.1,h,hi,this.2⟩
 |succ k ih=>
  intro bs ss st A B ws last no out h hi hk ho;unfold jF;cases hw:ws.findIdx? (Gf last) with
  |none=>
   have:=vG bs ss st A B ws last no out hi hw;exact⟨bs,ss,st,this.1,h,hi,this.2⟩
  |some n=>
   simp only;have hn:=(List.findIdx?_eq_some_iff_getElem.1 hw).1;have hx:=zdE hn;have hg:ws.getD n o0=ws[n]:=by rw[zdP,hx];rfl
   rw[hg];have hl:=hi.len;have hd:=Pc hn (by omega)
   have e1:=lD hn (by omega)
   have hp:=KQ last no bs ss st ws (by omega)
   unfold KP at hp;rw[hw] at hp;obtain⟨bs1,ss1,xb,h1,h2⟩:=KR (last:=last) (no:=no) h hi.bi ws[n] (ws.eraseIdx n);have hs:(ws.eraseIdx n).Sublist ws:=zfr ..;have hlen:=zfg hn;obtain⟨a1,a2,a3⟩:=yC (last:=last) (no:=no) hi.bi (eJ ws[n]);have hle:=one_le (p:=iQ (eJ ws[n])=true);have nb:s8 (iu (eJ ws[n]) A B last no).2.1 (iu (eJ ws[n]) A B last no).2.2.1 (ws.eraseIdx n):=⟨a1,λo ho=>hi.wo o (hs.subset ho),by rw[hlen];have:=hi.yZ;omega⟩
   obtain⟨oV,oW,eZ,i1,i2⟩:=ih bs1 ss1 xb _ _ (ws.eraseIdx n) (iu (eJ ws[n]) A B last no).2.2.2.1 (iu (eJ ws[n]) A B last no).2.2.2.2 (out++ [(ws[n],(iu (eJ ws[n]) A B last no).1.2)]) h2 nb (by omega) (by rw[hlen,zdI,zfs];omega)
   refine⟨oV,oW,eZ,?_,i2⟩;rw[aw];simp only[bT,hp,zdy,↓xo,xw,oF ((n:Int)<0),zdz,oT (0<=(n:Int)/\(n:Int)<(ws.length:Int)),zdA,zdB,hx,e1,hd,h1,ot (show(((out.length+([(ws[n],(iu (eJ ws[n]) A B last no).1.2)]:List ld).length:Nat):Int))*((120:Nat):Int)<=((room:Nat):Int) by unfold room;simp only[zdJ,zdK];omega)]
   exact i1
theorem yD: ∀(k:Nat) (m:MS) (out:List ld),(jF k m out).2.length<=out.length+k
 |0,m,out=>zdV _
 |k+1,(A,B,ws,last,no),out=>by
  unfold jF;split
  ·show out.length<=_;omega
  ·rename_i n _
   have:=yD k ((iu (eJ (ws.getD n o0)) A B last no).2.1,(iu (eJ (ws.getD n o0)) A B last no).2.2.1,ws.eraseIdx n,(iu (eJ (ws.getD n o0)) A B last no).2.2.2.1,(iu (eJ (ws.getD n o0)) A B last no).2.2.2.2) (out++ [(ws.getD n o0,(iu (eJ (ws.getD n o0)) A B last no).1.2)]);rw[zdI,zfs] at this;omega
theorem wT (h:Bk bs ss st A B)(hi:s8 A B ws)(k:Nat)(hk:ws.length<=k): ∃oV oW eZ,cX WX (((),()),CA last no bs ss ws st)=
  some (((),()),((),(),()),kn (jF k (A,B,ws,last,no) []).1.2.2.2.1 (jF k (A,B,ws,last,no) []).1.2.2.2.2,(jF k (A,B,ws,last,no) []).1.2.2.1,oV,oW,(jF k (A,B,ws,last,no) []).2,eZ,())/\Bk oV oW eZ (jF k (A,B,ws,last,no) []).1.1 (jF k (A,B,ws,last,no) []).1.2.1/\
  s8 (jF k (A,B,ws,last,no) []).1.1 (jF k (A,B,ws,last,no) []).1.2.1 (jF k (A,B,ws,last,no) []).1.2.2.1/\(∀o∈(jF k (A,B,ws,last,no) []).1.2.2.1,BD o (jF k (A,B,ws,last,no) []).1.2.2.2.1=false):=by
 obtain⟨oV,oW,eZ,h1,h2⟩:=WM k bs ss st A B ws last no [] h hi hk (by have:=hi.len;simp only[zdK];omega)
 exact⟨oV,oW,eZ,by simp only[cX,↓xl,h1,zdy],h2⟩
theorem Ny (h:Bk bs ss st A B)(hi:s8 A B ws)(o:cY): ∃oV oW eZ,dB WX (((),o,()),CA last no bs ss ws st)=
  some (((),()),((),(),()),kn (js o (A,B,ws,last,no)).1.2.2.2.1 (js o (A,B,ws,last,no)).1.2.2.2.2,(js o (A,B,ws,last,no)).1.2.2.1,oV,oW,(js o (A,B,ws,last,no)).2,eZ,())/\Bk oV oW eZ (js o (A,B,ws,last,no)).1.1 (js o (A,B,ws,last,no)).1.2.1/\
  s8 (js o (A,B,ws,last,no)).1.1 (js o (A,B,ws,last,no)).1.2.1 (js o (A,B,ws,last,no)).1.2.2.1/\(∀o'∈(js o (A,B,ws,last,no)).1.2.2.1,BD o' (js o (A,B,ws,last,no)).1.2.2.2.1=false)/\(js o (A,B,ws,last,no)).2.length<=70:=by
 have hr:=Nx (last:=last) (no:=no) h hi o;have hl:=hi.len;have qf: ∀(x:ld) (l:List ld),l.length<=69->af (((([x].length+l.length:Nat):Int))*((120:Nat):Int)<=((room:Nat):Int))=true:=λx l hl=>ot (by unfold room;simp only[zdJ,zdK];omega)
 unfold js;by_cases h0:zc o A B ws=0
 ·rw[h0] at hr
  rw[if_neg (λe=>e h0)];have T3:oL o=true:=by
   unfold zc at h0;cases hx:oL o with
   |true=>rfl
   |false=>rw[hx] at h0;simp at h0
  have KK:iQ o=true\/mr o>0->iT A+iT B+ws.length+1<=64:=λhx=>by
   unfold zc at h0;rw[T3] at h0;simp only[zdC,zdG,if_false] at h0;split at h0
   ·cases h0
   ·split at h0
    ·cases h0
    ·rename_i hy
     have hz: ¬(iT A+iT B+ws.length>=64):=λq=>hy ⟨q,by
      rcases hx with hx|hx
      ·exact .inr (sO hx)
      ·exact .inl hx⟩
     omega
  obtain⟨bs2,ss2,H6,n1,n2⟩:=KR (last:=last) (no:=no) h hi.bi o ws;obtain⟨a1,a2,a3⟩:=yC (last:=last) (no:=no) hi.bi (eJ o);have hi2:s8 (iu (eJ o) A B last no).2.1 (iu (eJ o) A B last no).2.2.1 ws:=⟨a1,hi.wo,by
   rw[E2] at a2;have:=hi.yZ;by_cases hx:iQ o=true
   ·have:=KK (.inl hx);rw[if_pos hx] at a2;omega
   ·rw[if_neg hx] at a2;omega⟩
  obtain⟨bs3,ss3,st3,t1,t2⟩:=wT (last:=(iu (eJ o) A B last no).2.2.2.1) (no:=(iu (eJ o) A B last no).2.2.2.2) n2 hi2 ws.length (zdV _);have tl:=yD ws.length ((iu (eJ o) A B last no).2.1,(iu (eJ o) A B last no).2.2.1,ws,(iu (eJ o) A B last no).2.2.2.1,(iu (eJ o) A B last no).2.2.2.2) [];rw[zdK,zep] at tl;change (jF ws.length ((iu (eJ o) A B last no).2.1,(iu (eJ o) A B last no).2.2.1,ws,(iu (eJ o) A B last no).2.2.2) []).2.length<=_ at tl;have Nv: ¬(mr o>0/\BD o last=false)->∃oV oW eZ,dB WX (((),o,()),CA last no bs ss ws st)=some (((),()),((),(),()),kn (jF ws.length ((iu (eJ o) A B last no).2.1,(iu (eJ o) A B last no).2.2.1,ws,(iu (eJ o) A B last no).2.2.2) []).1.2.2.2.1 (jF ws.length ((iu (eJ o) A B last no).2.1,(iu (eJ o) A B last no).2.2.1,ws,(iu (eJ o) A B last no).2.2.2) []).1.2.2.2.2,(jF ws.length ((iu (eJ o) A B last no).2.1,(iu (eJ o) A B last no).2.2.1,ws,(iu (eJ o) A B last no).2.2.2) []).1.2.2.1,oV,oW,(o,(iu (eJ o) A B last no).1.2)::(jF ws.length ((iu (eJ o) A B last no).2.1,(iu (eJ o) A B last no).2.2.1,ws,(iu (eJ o) A B last no).2.2.2) []).2,eZ,())/\Bk oV oW eZ (jF ws.length ((iu (eJ o) A B last no).2.1,(iu (eJ o) A B last no).2.2.1,ws,(iu (eJ o) A B last no).2.2.2) []).1.1 (jF ws.length ((iu (eJ o) A B last no).2.1,(iu (eJ o) A B last no).2.2.1,ws,(iu (eJ o) A B last no).2.2.2) []).1.2.1:=λvd=>by
   refine⟨bs3,ss3,st3,?_,t2.1⟩;by_cases kg:mr o>0
   ·have hh:=No o last
    have hb:BD o last=true:=by cases hx:BD o last with|true=>rfl|false=>exact absurd ⟨kg,hx⟩ vd
    rw[hb] at hh;simp only[dB,hr,zdy,↓xo,iL,zdC,zdz,ot kg,zdA,gI,hh,n1,t1,qf (o,(iu (eJ o) A B last no).1.2) _ (zdW tl (by omega)),zfe]
   ·simp only[dB,hr,zdy,↓xo,iL,zdC,zdz,bc kg,n1,t1,zdA,qf (o,(iu (eJ o) A B last no).1.2) _ (zdW tl (by omega)),zfe]
  by_cases hc:mr o>0/\BD o last=false
  ·rw[if_pos hc]
   have hh:=No o last;rw[hc.2] at hh;have:=KK (.inr hc.1);have hi4:s8 A B (ws++ [o]):=⟨hi.bi,λo' mX=>by
    rcases List.mem_append.1 mX with mX|mX
    ·exact hi.wo o' mX
    ·rw[zeZ] at mX;subst mX;exact⟨nU T3,hc.1⟩,by rw[zdI,zfs];omega⟩
   obtain⟨bs4,ss4,st4,u1,u2,u3,u4⟩:=wT (last:=last) (no:=no) h hi4 (ws.length+1) (by rw[zdI,zfs];omega)
   have ul:=yD (ws.length+1) (A,B,ws++ [o],last,no) [];rw[zdK,zep] at ul;refine⟨bs4,ss4,st4,?_,u2,u3,u4,by simp only[zdJ];omega⟩
   simp only[dB,hr,zdy,↓xo,iL,zdC,zdz,ot hc.1,zdA,gI,hh,zdD,ot (show(((ws.length+([o]:List cY).length:Nat):Int))*((72:Nat):Int)<=((room:Nat):Int) by unfold room;simp only[zdJ,zdK];omega),u1,qf (o,[],aj o,false,true,false,0,()) _ (zdW ul (by omega)),zfe]
  ·rw[if_neg hc]
   obtain⟨oV,oW,eZ,x1,x2⟩:=Nv hc;exact⟨oV,oW,eZ,x1,x2,t2.2.1,t2.2.2,by simp only[zdJ];omega⟩
 ·rw[if_pos h0]
  obtain⟨oV,oW,eZ,t1,t2,t3,t4⟩:=wT (last:=last) (no:=no) h hi ws.length (zdV _);have tl:=yD ws.length (A,B,ws,last,no) [];rw[zdK,zep] at tl;refine⟨oV,oW,eZ,?_,t2,t3,t4,by simp only[zdJ];omega⟩
  simp only[dB,hr,zdy,↓xo,bc h0,zdD,zdA,t1,qf (o,[],aj o,false,false,false,zc o A B ws,()) _ (zdW tl (by omega)),zfe]
end
structure pz (x:ld):Prop where
 yj: ∀f∈x.2.1,(0<=f.1.1/\f.1.1<=31)/\(0<=f.2.1.1/\f.2.1.1<=31)/\((aG f.1=1/\aG f.2.1=2)\/(aG f.1=2/\aG f.2.1=1))/\1<=Fl.nP f
 sum:0<=lj x.2.1/\lj x.2.1<=1048576
theorem wU {l:List mm}(h: ∀f∈l,1<=Fl.nP f):(l.length:Int)<=lj l:=by
 unfold lj;induction l with
 |nil=>exact zeF _
 |cons x l ih=>
  have a:=h x (zdM ..);have b:=ih λy hy=>h y (zdL _ hy);simp only[zex,gU,zev,zdJ] at*;omega
theorem pz.len {x:ld}(h:pz x):x.2.1.length<=1048576:=by
 have:=wU (l:=x.2.1) λf hf=>(h.yj f hf).2.2.2;have:=h.sum;omega
theorem KS (o:cY)(r:Int×Bool×Bool×Bool×Int×Unit):pz (o,[],r):=⟨λf hf=>(by cases hf),by simp[lj,gU]⟩
theorem E3 {o o':cY}{x:ld}(h:Ye o x):pz (o',x.2):=by
 rcases h.yj with h0|⟨h1,h2,h3⟩
 ·refine⟨λf hf=>?_,?_⟩
  ·simp only[h0] at hf;cases hf
  ·simp only[h0];simp[lj,gU]
 ·have hl:=h.left (by have:=h1.nP;omega)
  have hq:=h1.nP;have hn:=wU (l:=x.2.1) λf hf=>by obtain⟨pr,hp⟩:=h2 f hf;exact hp.nP
  refine⟨λf hf=>?_,by show 0<=lj x.2.1/\lj x.2.1<=_;omega⟩
  obtain⟨pr,hp⟩:=h2 f hf;obtain⟨q,hq⟩:=hp.zb1;have hs:=hp.Yd.side;refine⟨hp.Yd.qB,by rw[hq];exact h1.qB,?_,hp.nP⟩
  rw[hq];show(_/\aG o=2)\/(_/\aG o=1)
  have:=h1.side;omega
theorem Hf {A B:List mL}{ws:List cY}{last:Int}(no:Int){n:Nat}(hi:s8 A B ws)(hw:ws.findIdx? (Gf last)=some n): ∃x,ws[n]?=some x/\ws.getD n o0=x/\yh x/\s8 (iu (eJ x) A B last no).2.1 (iu (eJ x) A B last no).2.2.1 (ws.eraseIdx n):=by
 have hn:=(List.findIdx?_eq_some_iff_getElem.1 hw).1;have hg:=zdE hn;refine⟨_,hg,by rw[zdP,hg];rfl,(hi.wo _ (zeO hn)).1,?_⟩
 obtain⟨a1,a2,_⟩:=yC (last:=last) (no:=no) hi.bi (eJ ws[n]);have hlen:=zfg hn;have hle:=one_le (p:=iQ (eJ ws[n])=true);exact⟨a1,λo ho=>hi.wo o ((zfr ..).subset ho),by rw[hlen];have:=hi.yZ;omega⟩
theorem KT {A B:List mL}{ws:List cY}(last no:Int)(hi:s8 A B ws){o:cY}(h0:zc o A B ws=0):yh o/\(mr o>0->s8 A B (ws++ [o]))/\s8 (iu (eJ o) A B last no).2.1 (iu (eJ o) A B last no).2.2.1 ws:=by
 unfold zc at h0;split at h0
 ·cases h0
 ·rename_i hr
  have l8:yh o:=nU (by simpa using hr)
  split at h0
  ·cases h0
  ·split at h0
   ·cases h0
   ·rename_i hy
    have hf:mr o>0\/iQ o=true->iT A+iT B+ws.length+1<=64:=λhx=>by
     have: ¬(iT A+iT B+ws.length>=64):=λq=>hy ⟨q,hx.imp_right sO⟩;omega
    obtain⟨a1,a2,_⟩:=yC (last:=last) (no:=no) hi.bi (eJ o);refine⟨l8,λhs=>⟨hi.bi,λo' mX=>?_,?_⟩,a1,hi.wo,?_⟩
    ·rcases List.mem_append.1 mX with mX|mX
     ·exact hi.wo o' mX
     ·rw[zeZ] at mX;subst mX;exact⟨l8,hs⟩
    ·have:=hf (.inl hs);rw[zdI,zfs];omega
    ·rw[E2] at a2
     have:=hi.yZ;by_cases hx:iQ o=true
     ·have:=hf (.inr hx);rw[if_pos hx] at a2;omega
     ·rw[if_neg hx] at a2;omega
theorem wV: ∀(k:Nat) (m:MS) (out:List ld),s8 m.1 m.2.1 m.2.2.1->(∀x∈out,pz x)->∀x∈(jF k m out).2,pz x
 |0,m,out,_,h=>h
 |k+1,(A,B,ws,last,no),out,hi,h=>by
  unfold jF;split
  ·exact h
  ·rename_i n hw
   obtain⟨x,_,hd,_,nb⟩:=Hf no hi hw;rw[hd];refine wV k _ _ nb λy hy=>?_;rcases List.mem_append.1 hy with hy|hy
   ·exact h y hy
   ·rw[zeZ] at hy;subst hy;exact E3 (yC hi.bi (eJ x)).2.2
theorem zG (o:cY)(m:MS)(hi:s8 m.1 m.2.1 m.2.2.1): ∀x∈(js o m).2,pz x:=by
 obtain⟨A,B,ws,last,no⟩:=m;simp only at hi;unfold js;simp only;split
 ·intro x hx
  rcases List.mem_cons.1 hx with rfl|hx
  ·exact KS ..
  ·exact wV _ (A,B,ws,last,no) [] hi (λx hx=>by cases hx) x hx
 ·rename_i h0
  obtain⟨_,h4,h2⟩:=KT last no hi (Decidable.not_not.1 h0);split
  ·rename_i hc
   intro x hx;rcases List.mem_cons.1 hx with rfl|hx
   ·exact KS ..
   ·exact wV _ (A,B,ws++ [o],last,no) [] (h4 hc.1) (λx hx=>by cases hx) x hx
  ·intro x hx
   rcases List.mem_cons.1 hx with rfl|hx
   ·exact E3 (yC hi.bi (eJ o)).2.2
   ·exact wV _ (_,_,ws,_) [] h2 (λx hx=>by cases hx) x hx
def ym (gC:cY)(gM nP:Int):cY:=(gC.1,gC.2.1,gC.2.2.1,gC.2.2.2.1,gC.2.2.2.2.1,gM,nP,min (qu gC) (max nP 0),gC.2.2.2.2.2.2.2.2)
def eG (t i gM nP:Int)(m:MS):Int×MS×List ld:=match oO t i m.1 m.2.1 m.2.2.1 with
 |none=>(6,m,[])
 |some gC=>if(!oL (ym gC gM nP))=true then(1,m,[])
  else if gM=an gC/\nP<=aj gC/\(uo t i m.1 m.2.1).isSome=true then(0,((tn t i nP m.1 m.2.1).2.1,(tn t i nP m.1 m.2.1).2.2,m.2.2),[])
  else(0,js (ym gC gM nP) ((lV t i m.1 m.2.1 m.2.2.1).2.2.1,(lV t i m.1 m.2.1 m.2.2.1).2.2.2.1,(lV t i m.1 m.2.1 m.2.2.1).2.2.2.2,m.2.2.2))
abbrev T4 (last no:Int)(bs ss:List Nat)(ws:List cY)(outs:List ld)(st:List gz):(Unit×Unit×Unit)×Np×List cY×List Nat×List Nat×List ld×List gz×Unit:=(((),(),()),kn last no,ws,bs,ss,outs,st,())
section
variable {bs ss:List Nat}{st:List gz}{A B:List mL}{ws:List cY}{last no:Int}
def yn (m:MS):Prop:= ∀o∈m.2.2.1,BD o m.2.2.2.1=false
theorem KU (h:Bk bs ss st A B)(hi:s8 A B ws)(hh:yn (A,B,ws,last,no))(t i gM nP:Int): ∃oV oW eZ,fV WX (((),t,i,gM,nP,()),CA last no bs ss ws st)=
  some (((),(eG t i gM nP (A,B,ws,last,no)).1,()),T4 (eG t i gM nP (A,B,ws,last,no)).2.1.2.2.2.1 (eG t i gM nP (A,B,ws,last,no)).2.1.2.2.2.2 oV oW (eG t i gM nP (A,B,ws,last,no)).2.1.2.2.1 (eG t i gM nP (A,B,ws,last,no)).2.2 eZ)/\
  Bk oV oW eZ (eG t i gM nP (A,B,ws,last,no)).2.1.1 (eG t i gM nP (A,B,ws,last,no)).2.1.2.1/\s8 (eG t i gM nP (A,B,ws,last,no)).2.1.1 (eG t i gM nP (A,B,ws,last,no)).2.1.2.1 (eG t i gM nP (A,B,ws,last,no)).2.1.2.2.1/\yn (eG t i gM nP (A,B,ws,last,no)).2.1/\
  (∀x∈(eG t i gM nP (A,B,ws,last,no)).2.2,pz x)/\(eG t i gM nP (A,B,ws,last,no)).2.2.length<=70:=by
 have hf:=I2 (last:=last) (no:=no) h hi t i;unfold eG;cases hw:oO t i A B ws with
 |none=>
  rw[hw] at hf;exact⟨bs,ss,st,by simp only[fV,hf,zdy,zeR,zdD,zdA],h,hi,hh,λx hx=>(by cases hx),zeH _⟩
 |some gC=>
  rw[hw] at hf;simp only[zeV,zfn] at hf;have hRx:eU WX (((gC.1,gC.2.1,gC.2.2.1,gC.2.2.2.1,gC.2.2.2.2.1,gM,nP,min gC.2.2.2.2.2.2.2.1 (max nP 0),gC.2.2.2.2.2.2.2.2),()),())=some (((bif oL (ym gC gM nP) then 0 else 1),()),()):=AI (ym gC gM nP);have WE: ¬(1:Int)=0:=by omega
  simp only;cases hr:oL (ym gC gM nP) with
  |false=>
   rw[hr] at hRx;simp only[zdD,if_true];exact⟨bs,ss,st,by simp only[fV,hf,zdy,zdC,zdz,↓xo,vP,QD,hRx,bc WE,zdD,zdA,if_true],h,hi,hh,λx hx=>(by cases hx),zeH _⟩
  |true=>
   rw[hr] at hRx;simp only[zdC,zdG,if_false];have hbf:=Pb (last:=last) (no:=no) h hi.bi t i;by_cases hc:gM=an gC/\nP<=aj gC/\(uo t i A B).isSome=true
   ·simp only[if_pos hc]
    obtain⟨c1,c2,c3⟩:=hc;rw[c3] at hbf;obtain⟨eZ,l1,l2⟩:=WL (last:=last) (no:=no) h hi.bi t i nP;have l3:=T2 hi.bi t i nP;refine⟨bs,ss,eZ,?_,l2,⟨l3.1,hi.wo,by have:=hi.yZ;omega⟩,hh,λx hx=>(by cases hx),zeH _⟩
    simp only[fV,hf,zdy,zdC,zdz,↓xo,vP,QD,hRx,zdA,iL,ot (show gM=gC.2.2.2.2.2.1 from c1),ot (show nP<=gC.2.2.2.2.2.2.1 from c2),kc,fP,hbf,zdD,l1]
   ·simp only[if_neg hc]
    obtain⟨bs1,ss1,xb,r1,r2⟩:=Nw (last:=last) (no:=no) h hi t i;have r3:=(AN hi t i).1;obtain⟨oV,oW,eZ,a1,a2,a3,a4,a5⟩:=Ny (last:=last) (no:=no) r2 r3 (ym gC gM nP);refine⟨oV,oW,eZ,?_,a2,a3,a4,zG _ _ r3,a5⟩;unfold ym at a1⊢;by_cases c1:gM=an gC
    ·by_cases c2:nP<=aj gC
     ·have c3:(uo t i A B).isSome=false:=by cases hx:(uo t i A B).isSome with|false=>rfl|true=>exact absurd ⟨c1,c2,hx⟩ hc
      rw[c3] at hbf;simp only[fV,hf,zdy,zdC,zdz,↓xo,vP,QD,hRx,zdA,iL,ot (show gM=gC.2.2.2.2.2.1 from c1),ot (show nP<=gC.2.2.2.2.2.2.1 from c2),kc,fP,hbf,zdD,r1,a1]
     ·simp only[fV,hf,zdy,zdC,zdz,↓xo,vP,QD,hRx,zdA,iL,ot (show gM=gC.2.2.2.2.2.1 from c1),bc (show¬nP<=gC.2.2.2.2.2.2.1 from c2),r1,a1]
    ·simp only[fV,hf,zdy,zdC,zdz,↓xo,vP,QD,hRx,zdA,iL,bc (show¬gM=gC.2.2.2.2.2.1 from c1),r1,a1]
noncomputable def WN (x:Int)(o:cY):Bool:=af (WX.sT .u64 (WX.shr .u64 x (IntKind.u64.wrap o.1)) 1=1)
noncomputable def rL (x:Int):List cY->MS->List cY->MS×List cY
 | [],m,out=>(m,out)
 |o::l,m,out=>if WN x o=true then rL x l ((lV o.1 o.2.1 m.1 m.2.1 m.2.2.1).2.2.1,(lV o.1 o.2.1 m.1 m.2.1 m.2.2.1).2.2.2.1,(lV o.1 o.2.1 m.1 m.2.1 m.2.2.1).2.2.2.2,m.2.2.2) (out++ [o]) else rL x l m out
theorem ta (n:Int): ¬IntKind.u64.wrap n<0:=by rw[IntKind.wrap_u64];omega
theorem QY (x:Int)(last no:Int)(all:List cY)(hal:all.length<=1000): ∀(l pre:List cY) (bs ss:List Nat) (st:List gz) (A B:List mL) (ws:List cY) (out:List cY),pre++l=all->out.length+l.length<=1000->Bk bs ss st A B->s8 A B ws->yn (A,B,ws,last,no)->∃oV oW eZ,ag (fZ WX) (((),x,(),all,(all.length:Int),(pre.length:Int),()),((),(),()),kn last no,bs,ss,ws,out,st,())=
  some (((rL x l (A,B,ws,last,no) out).2,()),Gg last no oV oW (rL x l (A,B,ws,last,no) out).1.2.2.1 eZ)/\(rL x l (A,B,ws,last,no) out).1.2.2.2=(last,no)/\Bk oV oW eZ (rL x l (A,B,ws,last,no) out).1.1 (rL x l (A,B,ws,last,no) out).1.2.1/\s8 (rL x l (A,B,ws,last,no) out).1.1 (rL x l (A,B,ws,last,no) out).1.2.1 (rL x l (A,B,ws,last,no) out).1.2.2.1/\yn (rL x l (A,B,ws,last,no) out).1:=by
 intro l;induction l with
 |nil=>
  intro pre bs ss st A B ws out hp ho h hi hh;rw[ze2] at hp;subst hp;refine⟨bs,ss,st,?_,rfl,h,hi,hh⟩;rw[aw];simp only[fZ,↓xo,oF ((pre.length:Int)<(pre.length:Int)),zdz,rL]
 |cons o l ih=>
  intro pre bs ss st A B ws out hp ho h hi hh;have hx:all[pre.length]?=some o:=by rw[<-hp];simp
  have kQ:pre.length<all.length:=(List.getElem?_eq_some_iff.1 hx).1;have e1:i64.wrap ((pre.length:Int)+1)=(((pre++ [o]).length:Nat):Int):=by rw[lD kQ (by omega),zdI];rfl
  have yi:(pre++ [o])++l=all:=by rw[<-hp];simp
  simp only[zdJ] at ho;unfold rL;rw[aw];cases hb:WN x o with
  |true=>
   rw[if_pos rfl];have vl:=hb;unfold WN at vl;obtain⟨bs1,ss1,xb,r1,r2⟩:=Nw (last:=last) (no:=no) h hi o.1 o.2.1;obtain⟨r3,r4⟩:=AN hi o.1 o.2.1;obtain⟨oV,oW,eZ,i1,i2⟩:=ih (pre++ [o]) bs1 ss1 xb _ _ _ (out++ [o]) yi (by rw[zdI,zfs];omega) r2 r3 (λo' mX=>hh o' (r4.subset mX))
   refine⟨oV,oW,eZ,?_,i2⟩;simp only[fZ,↓xo,xw,oT ((pre.length:Int)<(all.length:Int)),oT ((0:Int)<=(pre.length:Int)),zdA,zdB,hx,zdy,bc (ta o.1),zdz,vl,r1,ot (show(((out.length+([o]:List cY).length:Nat):Int))*((72:Nat):Int)<=((room:Nat):Int) by unfold room;simp only[zdJ,zdK];omega),e1]
   exact i1
  |false=>
   rw[if_neg (by simp)]
   have vl:=hb;unfold WN at vl;obtain⟨oV,oW,eZ,i1,i2⟩:=ih (pre++ [o]) bs ss st A B ws out yi (by omega) h hi hh
   refine⟨oV,oW,eZ,?_,i2⟩;simp only[fZ,↓xo,xw,oT ((pre.length:Int)<(all.length:Int)),oT ((0:Int)<=(pre.length:Int)),zdA,zdB,hx,zdy,bc (ta o.1),zdz,vl,e1];exact i1
theorem BK (x:Int): ∀(l:List cY) (m:MS) (out:List cY),(rL x l m out).2.length<=out.length+l.length
 | [],_,_=>zdV _
 |o::l,m,out=>by
  unfold rL;split
  ·have:=BK x l ((lV o.1 o.2.1 m.1 m.2.1 m.2.2.1).2.2.1,(lV o.1 o.2.1 m.1 m.2.1 m.2.2.1).2.2.2.1,(lV o.1 o.2.1 m.1 m.2.1 m.2.2.1).2.2.2.2,m.2.2.2) (out++ [o])
   rw[zdI,zfs] at this;simp only[zdJ];omega
  ·have:=BK x l m out
   simp only[zdJ];omega
noncomputable def ml (x:Int)(m:MS):MS×List cY:=rL x (s9 m.1 m.2.1 m.2.2.1) m []
theorem WO (h:Bk bs ss st A B)(hi:s8 A B ws)(hh:yn (A,B,ws,last,no))(x:Int): ∃oV oW eZ,kz WX (((),x,()),CA last no bs ss ws st)=
  some (((ml x (A,B,ws,last,no)).2,()),Gg last no oV oW (ml x (A,B,ws,last,no)).1.2.2.1 eZ)/\(ml x (A,B,ws,last,no)).1.2.2.2=(last,no)/\Bk oV oW eZ (ml x (A,B,ws,last,no)).1.1 (ml x (A,B,ws,last,no)).1.2.1/\s8 (ml x (A,B,ws,last,no)).1.1 (ml x (A,B,ws,last,no)).1.2.1 (ml x (A,B,ws,last,no)).1.2.2.1/\yn (ml x (A,B,ws,last,no)).1/\(ml x (A,B,ws,last,no)).2.length<=64:=by
 have ha:=all_mk (last:=last) (no:=no) h hi;have hl:=yl hi;obtain⟨oV,oW,eZ,i1,i2,i3,i4,i5⟩:=QY x last no (s9 A B ws) (by omega) (s9 A B ws) [] bs ss st A B ws [] rfl (by simp only[zdK];omega) h hi hh
 change ag (fZ WX) (((),x,(),s9 A B ws,((s9 A B ws).length:Int),0,()),_)=_ at i1;have hln:=BK x (s9 A B ws) (A,B,ws,last,no) [];refine⟨oV,oW,eZ,?_,i2,i3,i4,i5,by rw[zdK,zep] at hln;exact zdW hln hl⟩
 simp only[kz,ha,zdy,↓xl,i1];rfl
def rM (t:Int)(l:List cY):Int:=gU (l.map λo=>if o.1=t then aj o else 0)
def uV (t:Int)(m:MS):Int:=rM t (s9 m.1 m.2.1 m.2.2.1)
theorem KV {s:Int}{A:List mL}(h:lT s A): ∀o∈rF A,1<=aj o/\aj o<=1048576:=by
 intro o ho;unfold rF at ho;obtain⟨a,ha,ho⟩:=List.mem_flatMap.1 ho;obtain⟨e,he,rfl⟩:=List.mem_map.1 ho;have:=(h.Jq a ha e he).1;unfold nk at this;omega
theorem uq (hi:s8 A B ws): ∀o∈s9 A B ws,1<=aj o/\aj o<=1048576:=by
 intro o ho;unfold s9 at ho;rcases List.mem_append.1 ho with ho|ho
 ·exact KV hi.bi.vU o ho
 ·rcases List.mem_append.1 ho with ho|ho
  ·exact KV hi.bi.qM o ho
  ·exact(hi.wo o ho).1.nP
theorem CB (t:Int){l:List cY}(h: ∀o∈l,1<=aj o/\aj o<=1048576)(hl:l.length<=64):0<=rM t l/\rM t l<=67108864:=by
 have:=wR (l:=l.map λo=>if o.1=t then aj o else 0) (m:=1048576) (λx hx=>by
  obtain⟨o,ho,rfl⟩:=List.mem_map.1 hx;have:=h o ho;split<;>omega)
 rw[zeK] at this;unfold rM;omega
theorem QZ (t:Int)(all:List cY)(h: ∀o∈all,1<=aj o/\aj o<=1048576)(hl:all.length<=64):ag (ga WX) ((t,0,all,(all.length:Int),0,()),())=some ((rM t all,()),()):=by
 have hb: ∀k,0<=rM t (all.take k)/\rM t (all.take k)<=67108864:=λk=>CB t (λo ho=>h o (zeC ho)) (by rw[zd3];omega)
 have:=Dp (b:=ga WX) (λk=>((t,rM t (all.take k),all,(all.length:Int),(k:Int),()),())) ((rM t all,()),()) all.length (λk hk=>by
  have hx:=zdE hk;generalize all[k]=o at hx;have e1:=lD hk (by omega)
  have ht:rM t (all.take (k+1))=rM t (all.take k)+(if o.1=t then aj o else 0):=by
   unfold rM;rw[ze9,hx,zfk,jQ];simp[gU]
  have b1:=hb (k+1);rw[ht] at b1;simp only[ht];by_cases hc:o.1=t
  ·rw[if_pos hc] at b1⊢
   have e2:i64.wrap (rM t (all.take k)+o.2.2.2.2.2.2.1)=rM t (all.take k)+aj o:=by
    show i64.wrap (rM t (all.take k)+aj o)=_
    exact nO (by omega) (by omega)
   simp only[ga,↓xo,xw,oT ((k:Int)<(all.length:Int)),oT ((0:Int)<=(k:Int)),zdA,zdB,hx,zdy,ot hc,e1,e2]
  ·rw[if_neg hc] at b1⊢
   simp only[ga,↓xo,xw,oT ((k:Int)<(all.length:Int)),oT ((0:Int)<=(k:Int)),zdA,zdB,hx,zdy,bc hc,zdz,e1,Int.add_zero])
  (by simp only[ga,↓xo,oF ((all.length:Int)<(all.length:Int)),zdz,zeS]) 0 (zeH _)
 exact this
theorem WQ (h:Bk bs ss st A B)(hi:s8 A B ws)(t:Int):kT WX (((),t,()),CA last no bs ss ws st)=some ((uV t (A,B,ws,last,no),()),Gg last no bs ss ws st):=by
 have ha:=all_mk (last:=last) (no:=no) h hi;have hl:=QZ t (s9 A B ws) (uq hi) (yl hi);simp only[kT,ha,zdy,↓xl,hl];rfl
theorem KW (hi:s8 A B ws)(t:Int):0<=uV t (A,B,ws,last,no)/\uV t (A,B,ws,last,no)<=67108864:=CB t (uq hi) (yl hi)
end
def tb (l:List (List Int))(n i:Nat):Int:=(l.getD n []).getD i 0
def Jr (l:List (List Int))(n i:Nat)(x:Int):List (List Int):=l.set n ((l.getD n []).set i x)
structure tG (l:List (List Int)):Prop where
 len:l.length=32
 row: ∀r∈l,r.length=8
theorem vW {l:List (List Int)}(h:tG l){n i:Nat}(hn:n<32)(hi:i<8): ∃r,l[n]?=some r/\r[i]?=some (tb l n i)/\l.getD n []=r:=by
 have h1:=zdE (l:=l) (i:=n) (by rw[h.len];omega)
 have h2:=h.row _ (zeB h1);have h3:=zdE (l:=l[n]'(by rw[h.len];omega)) (i:=i) (by omega)
 have h4:l.getD n []=l[n]'(by rw[h.len];omega):=by rw[zdP,h1];rfl
 refine⟨_,h1,?_,h4⟩;rw[h3];unfold tb;rw[h4,zdP,h3];rfl
theorem yo {l:List (List Int)}(h:tG l)(n i:Nat)(x:Int)(hn:n<32):tG (Jr l n i x):=by
 refine⟨by unfold Jr;rw[zec];exact h.len,λr hr=>?_⟩
 rcases zeN hr with hr|rfl
 ·exact h.row r hr
 ·obtain⟨r,h1,_,h3⟩:=vW h hn (show 0<8 by omega)
  rw[zec,h3];exact h.row r (zeB h1)
theorem ur {l:List (List Int)}(h:tG l){n i:Nat}(hn:n<32)(hi:i<8)(x:Int)(m j:Nat):tb (Jr l n i x) m j=if m=n/\j=i then x else tb l m j:=by
 obtain⟨r,h1,h2,h3⟩:=vW h hn hi;have hl:=(List.getElem?_eq_some_iff.1 h1).1;have hj:=(List.getElem?_eq_some_iff.1 h2).1;unfold tb Jr;simp only[zdP,h1,zeV,ze8];by_cases hm:n=m
 ·subst hm
  rw[if_pos rfl,if_pos hl,h1];simp only[zeV,ze8,true_and];by_cases e:i=j
  ·subst e;simp[hj]
  ·rw[if_neg e,if_neg (λq=>e q.symm)]
 ·rw[if_neg hm,if_neg (λq=>hm q.1.symm)]
theorem CC {i:Nat}(h:i<8):0<=(i:Int)/\(i:Int)<(8:Nat):=by omega
abbrev Gh (op ps:List (List Int)):((List (List Int))×(List (List Int))×Unit)×Unit:=((op,ps,()),())
section
variable {op ps:List (List Int)}{n i:Nat}
theorem rZ (hn:n<32)(hi:i<8):jn WX (((n:Int),(i:Int),()),())=some ((true,()),()):=by
 simp only[jn,↓xo,oT ((n:Int)>=0),oT ((n:Int)<32),oT ((i:Int)>=0),oT ((i:Int)<8),zdA]
theorem BL (h:tG op)(hn:n<32)(hi:i<8):eP WX (((),(n:Int),(i:Int),()),Gh op ps)=some ((tb op n i,()),Gh op ps):=by
 obtain⟨r,h1,h2,_⟩:=vW h hn hi;simp only[eP,rZ hn hi,zdy,zdC,zdz,↓xo,ot (qU hn),ot (CC hi),zdA,zdB,h1,h2]
theorem T5 (h:tG ps)(hn:n<32)(hi:i<8):eV WX (((),(n:Int),(i:Int),()),Gh op ps)=some ((tb ps n i,()),Gh op ps):=by
 obtain⟨r,h1,h2,_⟩:=vW h hn hi;simp only[eV,rZ hn hi,zdy,zdC,zdz,↓xo,ot (qU hn),ot (CC hi),zdA,zdB,h1,h2]
def WR (x lo hi:Int):Bool:=decide (lo<=x/\x<=hi)
def FF (l:List (List Int))(n i:Nat)(x lo hi:Int):List (List Int):=if WR x lo hi=true then Jr l n i x else l
theorem E4 (h:tG op)(hn:n<32)(hi:i<8){q:Int}(hq: -1048576<=q/\q<=1048576)(hb:0<=tb op n i/\tb op n i<=1099511627776):
  eT WX (((),(n:Int),(i:Int),q,()),Gh op ps)=some ((WR (tb op n i+q) 0 1099511627776,()),Gh (FF op n i (tb op n i+q) 0 1099511627776) ps):=by
 obtain⟨r,h1,h2,h3⟩:=vW h hn hi;have e:i64.wrap (tb op n i+q)=tb op n i+q:=nO (by omega) (by omega)
 unfold FF WR Jr;by_cases a:tb op n i+q<0
 ·rw[decide_eq_false (by omega)]
  simp only[eT,rZ hn hi,zdy,↓xo,xw,ot hq.1,ot (show q>= -1048576 from hq.1),ot hq.2,ot (qU hn),ot (CC hi),zdA,zdB,mH,h1,h2,e,ot a,zdG,if_false]
 ·by_cases b:tb op n i+q>1099511627776
  ·rw[decide_eq_false (by omega)]
   simp only[eT,rZ hn hi,zdy,↓xo,xw,ot (show q>= -1048576 from hq.1),ot hq.2,ot (qU hn),ot (CC hi),zdA,zdB,mH,h1,h2,e,bc a,ot b,zdz,zdG,if_false]
  ·rw[decide_eq_true (by omega)]
   simp only[eT,rZ hn hi,zdy,↓xo,xw,ot (show q>= -1048576 from hq.1),ot hq.2,ot (qU hn),ot (CC hi),zdA,zdB,mH,h1,h2,e,bc a,bc b,zdz,if_true,h3]
def AO (side q:Int):Int:=if side=2 then-q else q
theorem Hg (h:tG ps)(hn:n<32)(hi:i<8){q s:Int}(hs:s=1\/s=2)(hq:1<=q/\q<=1048576)(hb: -1099511627776<=tb ps n i/\tb ps n i<=1099511627776):
  ft WX (((),(n:Int),(i:Int),s,q,()),Gh op ps)=some ((WR (tb ps n i+AO s q) (-1099511627776) 1099511627776,()),Gh op (FF ps n i (tb ps n i+AO s q) (-1099511627776) 1099511627776)):=by
 obtain⟨r,h1,h2,h3⟩:=vW h hn hi;have X8: ¬(2:Int)=1:=by omega
 have N9: ¬(1:Int)=2:=by omega
 have e0:i64.wrap (0-q)= -q:=by rw[nO (by omega) (by omega)];omega
 have hsg: -1048576<=AO s q/\AO s q<=1048576:=by unfold AO;split<;>omega
 have e:i64.wrap (tb ps n i+AO s q)=tb ps n i+AO s q:=nO (by omega) (by omega)
 have mv:iX WX (((n,i,()),AO s q,(-1099511627776),1099511627776,()),Gh op ps)=some ((WR (tb ps n i+AO s q) (-1099511627776) 1099511627776,()),Gh op (FF ps n i (tb ps n i+AO s q) (-1099511627776) 1099511627776)):=by
  unfold FF WR Jr;by_cases a:tb ps n i+AO s q< -1099511627776
  ·rw[decide_eq_false (by omega)]
   simp only[zdy,↓xo,xw,iX,h1,h2,e,ot a,zdA,zdG,if_false]
  ·by_cases b:tb ps n i+AO s q>1099511627776
   ·rw[decide_eq_false (by omega)]
    simp only[zdy,↓xo,xw,iX,h1,h2,e,bc a,ot b,zdA,zdz,zdG,if_false]
   ·rw[decide_eq_true (by omega)]
    simp only[zdy,↓xo,xw,iX,h1,h2,e,bc a,bc b,zdz,if_true,h3]
 rcases hs with rfl|rfl
 ·have es:AO 1 q=q:=rfl
  rw[es] at mv⊢;simp only[ft,rZ hn hi,zdy,zdC,zdz,↓xo,xw,oF (q<1),oF (q>1048576),eq_self,iL,bc N9,ot (qU hn),ot (CC hi),zdA,zdB,mv]
 ·have es:AO 2 q= -q:=rfl
  rw[es] at mv⊢;simp only[ft,rZ hn hi,zdy,zdC,zdD,zdz,↓xo,xw,oF (q<1),oF (q>1048576),eq_self,iL,bc X8,e0,ot (qU hn),ot (CC hi),zdA,zdB,mv]
def uu (op:List (List Int))(n:Nat):Int:=gU ((List.range 8).map (tb op n))
theorem KX (h:tG op)(hn:n<32)(hb: ∀i,i<8->0<=tb op n i/\tb op n i<=1099511627776):gu WX (((),(n:Int),()),Gh op ps)=some ((uu op n,()),Gh op ps):=by
 have hs: ∀k,k<=8->0<=gU ((List.range k).map (tb op n))/\gU ((List.range k).map (tb op n))<=8796093022208:=λk hk=>by
  have:=wR (l:=(List.range k).map (tb op n)) (m:=1099511627776) (λx hx=>by
   obtain⟨j,hj,rfl⟩:=List.mem_map.1 hx;exact hb j (by have:=List.mem_range.1 hj;omega))
  rw[zeK,List.length_range] at this;omega
 have hl:=Dp (b:=ef WX) (λk=>(((),(n:Int),gU ((List.range k).map (tb op n)),(k:Int),()),Gh op ps)) ((uu op n,()),Gh op ps) 8 (λk hk=>by
  have e1:=lD hk (by omega)
  have b1:=hs k (by omega)
  have b2:=hs (k+1) (by omega)
  have e3:gU ((List.range (k+1)).map (tb op n))=gU ((List.range k).map (tb op n))+tb op n k:=by
   rw[List.range_succ,zfk,jQ];simp[gU]
  have e2:i64.wrap (gU ((List.range k).map (tb op n))+tb op n k)=gU ((List.range (k+1)).map (tb op n)):=by
   rw[e3] at b2⊢;exact nO (by omega) (by omega)
  simp only[ef,↓xo,xw,oT ((k:Int)<8),zdA,BL h hn hk,zdy,e1,e2])
  (by simp only[ef,↓xo,oF (((8:Nat):Int)<8),zdz];rfl) 0 (by omega)
 change ag (ef WX) (((),(n:Int),0,0,()),Gh op ps)=_ at hl;simp only[gu,↓xl,hl,zdy]
theorem T9 {o:cY}(h:yh o):kU WX ((o,()),())=some ((an o*aj o,0,()),()):=by
 have hq:=h.nP;have hp:0<=an o/\an o<=1048576:=by have:=h.gM;omega
 have b0:0<=an o*aj o:=Int.mul_nonneg hp.1 (by omega)
 have b1:an o*aj o<=1048576*1048576:=Int.mul_le_mul hp.2 hq.2 (by omega) (by omega)
 have e1:i64.wrap (an o*aj o)=an o*aj o:=nO (by omega) (by omega)
 have d0:1048576<=Int.tdiv 9223372036854775807 (aj o):=by
  rw[Int.tdiv_eq_ediv_of_nonneg (by omega)]
  exact(Int.le_ediv_iff_mul_le (by omega)).2 (by omega)
 have d1:Int.tdiv 9223372036854775807 (aj o)<=9223372036854775807:=Int.tdiv_le_self _ (by omega)
 have e2:i64.wrap (Int.tdiv 9223372036854775807 (aj o))=Int.tdiv 9223372036854775807 (aj o):=nO (by omega) (by omega)
 have key: ∀p q:Int,p=an o->q=aj o->lA WX ((p,q,()),())=some ((p*q,0,()),()):=by
  intro p q yi uE;subst yi uE;simp only[lA,↓xo,xw,oF (an o<0),oF (aj o<0),oT (aj o>0),oF (aj o=0),e2,oF (an o>Int.tdiv 9223372036854775807 (aj o)),e1,zdA,zdz]
 simp only[kU,key _ _ rfl rfl,zdy]
structure wW (op ps:List (List Int))(l:uA)(o:cY)(i:Nat):Prop where
 ord:yh o
 nP:aj o<=l.1
 value:an o*aj o<=l.2.1
 opn:uu op o.1.toNat+aj o<=l.2.2.1
 Yf:aG o=1->tb ps o.1.toNat i+(tb op o.1.toNat i+aj o)<=l.2.2.2.1
 KY:aG o=2->tb op o.1.toNat i+aj o-tb ps o.1.toNat i<=l.2.2.2.1
theorem KZ (h:tG op)(h':tG ps)(hi:i<8)(l:uA)(o:cY)(hb: ∀n i,n<32->i<8->0<=tb op n i/\tb op n i<=1099511627776)(hp: ∀n i,n<32->i<8-> -1099511627776<=tb ps n i/\tb ps n i<=1099511627776):
  ∃e,gx WX (((),l,o,(i:Int),()),Gh op ps)=some ((e,()),Gh op ps)/\(e=0->wW op ps l o i):=by
 have hR:=AI o;have i1: ¬(i:Int)<0:=by omega
 have i2: ¬(i:Int)>=8:=by omega
 have yr: ¬(1:Int)=0:=by omega
 cases hr:oL o with
 |false=>
  rw[hr] at hR;exact⟨1,by simp only[gx,hR,zdy,zdz,↓xo,bc yr,zdD,zdA],λq=>by omega⟩
 |true=>
  rw[hr] at hR;have ho:=nU hr;have hv:=T9 ho;have ht:=ho.qB;have hq:=ho.nP;obtain⟨n,hn⟩:=zft ht.1;have NA:n<32:=by omega
  have ha:=KX (ps:=ps) h NA (λi hi=>hb n i NA hi);have hpo:=T5 (op:=op) h' NA hi;have uN:=BL (ps:=ps) h NA hi;have b1:=hb n i NA hi;have b2:=hp n i NA hi;have bs:0<=uu op n/\uu op n<=8796093022208:=by
   have:=wR (l:=(List.range 8).map (tb op n)) (m:=1099511627776) (λx hx=>by
    obtain⟨j,hj,rfl⟩:=List.mem_map.1 hx;exact hb n j NA (List.mem_range.1 hj))
   rw[zeK,List.length_range] at this;unfold uu;omega
  have q0:o.2.2.2.2.2.2.1=aj o:=rfl;have s0:o.2.2.2.1=aG o:=rfl;have w1:i64.wrap (uu op n+aj o)=uu op n+aj o:=nO (by omega) (by omega)
  have w2:i64.wrap (tb op n i+aj o)=tb op n i+aj o:=nO (by omega) (by omega)
  have w3:i64.wrap (tb ps n i+(tb op n i+aj o))=tb ps n i+(tb op n i+aj o):=nO (by omega) (by omega)
  have w4:i64.wrap (tb op n i+aj o-tb ps n i)=tb op n i+aj o-tb ps n i:=nO (by omega) (by omega)
  have X8: ¬(2:Int)=1:=by omega
  have N9: ¬(1:Int)=2:=by omega
  have e8:(8:Int)=0->wW op ps l o i:=λq=>by omega
  by_cases c1:aj o>l.1
  ·exact⟨8,by simp only[gx,hR,hv,zdy,zdA,↓xo,eq_self,iL,zdC,zdz,bc i1,bc i2,q0,ot c1],e8⟩
  by_cases c2:an o*aj o>l.2.1
  ·exact⟨8,by simp only[gx,hR,hv,zdy,zdA,↓xo,eq_self,iL,zdC,zdz,bc i1,bc i2,q0,bc c1,ot c2],e8⟩
  by_cases c3:uu op n+aj o>l.2.2.1
  ·exact⟨8,by simp only[gx,hR,hv,zdy,zdA,↓xo,xw,eq_self,iL,zdC,zdz,bc i1,bc i2,q0,bc c1,bc c2,hn,ha,w1,ot c3],e8⟩
  rcases ho.side with hs|hs
  ·by_cases c4:tb ps n i+(tb op n i+aj o)>l.2.2.2.1
   ·exact⟨8,by simp only[gx,hR,hv,zdy,zdA,↓xo,xw,eq_self,iL,zdC,zdz,bc i1,bc i2,q0,bc c1,bc c2,hn,ha,w1,bc c3,hpo,uN,s0,hs,w2,w3,ot c4],e8⟩
   ·refine⟨0,by simp only[gx,hR,hv,zdy,zdA,↓xo,xw,eq_self,iL,zdC,zdz,bc i1,bc i2,q0,bc c1,bc c2,hn,ha,w1,bc c3,hpo,uN,s0,hs,w2,w3,bc c4,bc N9],λ_=>⟨ho,by omega,by omega,?_,λ_=>?_,λq=>by omega⟩⟩
    ·rw[hn];exact(by omega:uu op n+aj o<=l.2.2.1)
    ·rw[hn];exact(by omega:tb ps n i+(tb op n i+aj o)<=l.2.2.2.1)
  ·by_cases c4:tb op n i+aj o-tb ps n i>l.2.2.2.1
   ·exact⟨8,by simp only[gx,hR,hv,zdy,zdA,↓xo,xw,eq_self,iL,zdC,zdz,bc i1,bc i2,q0,bc c1,bc c2,hn,ha,w1,bc c3,hpo,uN,s0,hs,w2,w4,ot c4,bc X8],e8⟩
   ·refine⟨0,by simp only[gx,hR,hv,zdy,zdA,↓xo,xw,eq_self,iL,zdC,zdz,bc i1,bc i2,q0,bc c1,bc c2,hn,ha,w1,bc c3,hpo,uN,s0,hs,w2,w4,bc c4,bc X8],λ_=>⟨ho,by omega,by omega,?_,λq=>by omega,λ_=>?_⟩⟩
    ·rw[hn];exact(by omega:uu op n+aj o<=l.2.2.1)
    ·rw[hn];exact(by omega:tb op n i+aj o-tb ps n i<=l.2.2.2.1)
end
theorem pO {L R S:Type}{b:L->Option (L⊕R)}(n:Nat)(mk:Nat->S->L)(fin:S->R)(I:Nat->S->Prop)(hs: ∀k s,k<n->I k s->∃s',b (mk k s)=some (.inl (mk (k+1) s'))/\I (k+1) s')(he: ∀s,I n s->b (mk n s)=some (.inr (fin s))): ∀s,I 0 s->∃s',ag b (mk 0 s)=some (fin s')/\I n s':=by
 have key: ∀m k s,k+m=n->I k s->∃s',ag b (mk k s)=some (fin s')/\I n s':=by
  intro m;induction m with
  |zero=>
   intro k s hk hi;obtain rfl:k=n:=by omega
   exact⟨s,by rw[aw,he s hi],hi⟩
  |succ m ih=>
   intro k s hk hi;obtain⟨s',h1,h2⟩:=hs k s (by omega) hi
   obtain⟨s'',h3,h4⟩:=ih (k+1) s' (by omega) h2
   exact⟨s'',by rw[aw,h1];exact h3,h4⟩
 exact λs hi=>key n 0 s (by omega) hi
theorem Ua {i n:Nat}(h:i<n)(hn:n<=1000000000000):IntKind.wrap .i64 ((i:Int)+1)=((i+1:Nat):Int):=by rw[nO (by omega) (by omega)];omega
def zb3 (v:V)(i:Nat)(m:MS):Prop:= ∃bs ss st,v.M[i]?=some (CA m.2.2.2.1 m.2.2.2.2 bs ss m.2.2.1 st)/\Bk bs ss st m.1 m.2.1/\s8 m.1 m.2.1 m.2.2.1/\yn m
structure E5 (v:V)(μ:Nat->MS):Prop where
 mp: ∀i,i<8->v.mp[i]?=some (i+1)
 at_: ∀i,i<8->zb3 v i (μ i)
structure Lw (op:List (List Int)):Prop where
 sP:tG op
 AW: ∀n i,n<32->i<8->0<=tb op n i/\tb op n i<=1099511627776
structure Q0 (ps:List (List Int)):Prop where
 sP:tG ps
 AW: ∀n i,n<32->i<8-> -1099511627776<=tb ps n i/\tb ps n i<=1099511627776
section
variable {v:V}{μ:Nat->MS}{i n:Nat}
theorem K0 (hm:E5 v μ)(hi:i<8)(hn:n<32)(ho:Lw v.op): ∃mV,ag (de WX) (((),(i:Int),(n:Int),(n:Int),()),v.s)=some (((),(i:Int),(n:Int),()),{v with op:=mV}.s)/\Lw mV/\∀m j,tb mV m j=if m=n/\j=i then uV n (μ i) else tb v.op m j:=by
 obtain⟨bs,ss,st,hM,hB,hI,hH⟩:=hm.at_ i hi;have hO:=WQ (last:=(μ i).2.2.2.1) (no:=(μ i).2.2.2.2) hB hI (n:Int);have ob:=KW (last:=(μ i).2.2.2.1) (no:=(μ i).2.2.2.2) hI (n:Int);have hp:=hm.mp i hi;generalize hX:uV (n:Int) ((μ i).1,(μ i).2.1,(μ i).2.2.1,(μ i).2.2.2.1,(μ i).2.2.2.2)=X at hO ob;have key:=rG (b:=de WX) (λk l=> ∃mV,l=(((),(i:Int),(n:Int),(n:Int),()),{v with op:=mV}.s)/\Lw mV/\(∀m j,¬(m=n/\j=i)->tb mV m j=tb v.op m j)/\k=(X-tb mV n i).natAbs)
  (λr=> ∃mV,r=(((),(i:Int),(n:Int),()),{v with op:=mV}.s)/\Lw mV/\∀m j,tb mV m j=if m=n/\j=i then X else tb v.op m j) (λk l hl=>by
   obtain⟨mV,rfl,h1,h2,h3⟩:=hl;have b1:=h1.AW n i hn hi;have hA:=BL (ps:=v.ps) h1.sP hn hi;have e1:i64.wrap (X-tb mV n i)=X-tb mV n i:=nO (by omega) (by omega)
   by_cases h0:X-tb mV n i=0
   ·refine .inr ⟨_,?_,mV,rfl,h1,λm j=>?_⟩
    ·simp only[de,V.s,↓xo,xw,ot (CC hi),zdA,zdB,hp,zdy,au,hM,hO,hA,e1,ot h0,aJ hM]
    ·split
     ·rename_i e;rw[e.1,e.2];omega
     ·rename_i e;exact h2 m j e
   ·have hq: -1048576<=max (-1048576) (min (X-tb mV n i) 1048576)/\max (-1048576) (min (X-tb mV n i) 1048576)<=1048576:=by omega
    generalize hQ:max (-1048576) (min (X-tb mV n i) 1048576)=q at hq;have hS:=E4 (ps:=v.ps) h1.sP hn hi hq b1;have hv:WR (tb mV n i+q) 0 1099511627776=true:=decide_eq_true (by omega)
    rw[hv] at hS;unfold FF at hS;rw[if_pos hv] at hS;refine .inl ⟨_,?_,(X-(tb mV n i+q)).natAbs,by omega,Jr mV n i (tb mV n i+q),rfl,⟨yo h1.sP n i _ hn,λm j hm' hj=>?_⟩,λm j e=>?_,?_⟩
    ·simp only[de,V.s,↓xo,xw,vP,QD,ot (CC hi),zdA,zdB,hp,zdy,au,hM,hO,hA,e1,bc h0,zdz,aJ hM,hQ,hS,zdC]
    ·rw[ur h1.sP hn hi]
     split
     ·omega
     ·exact h1.AW m j hm' hj
    ·rw[ur h1.sP hn hi,if_neg e];exact h2 m j e
    ·rw[ur h1.sP hn hi,if_pos ⟨rfl,rfl⟩])
 obtain⟨r,h1,mV,rfl,h2,h3⟩:=key _ _ ⟨v.op,rfl,ho,λ_ _ _=>rfl,rfl⟩;exact⟨mV,h1,h2,h3⟩
theorem K3 (hm:E5 v μ)(hi:i<8)(ho:Lw v.op): ∃mV,fO WX (((),(i:Int),()),v.s)=some ((),{v with op:=mV}.s)/\Lw mV/\∀m j,m<32->tb mV m j=if j=i then uV m (μ i) else tb v.op m j:=by
 obtain⟨mV,h1,h2,h3⟩:=pO (b:=df WX) 32 (λk (mV:List (List Int))=>(((),(i:Int),(k:Int),()),{v with op:=mV}.s)) (λmV=>((),{v with op:=mV}.s)) (λk mV=>Lw mV/\∀m j,tb mV m j=if m<k/\j=i then uV m (μ i) else tb v.op m j)
  (λk WS hk hI=>by
   have hm':E5 {v with op:=WS} μ:=⟨hm.mp,hm.at_⟩;obtain⟨Ub,h1,h2,h3⟩:=K0 hm' hi hk hI.1;have e1:=lD hk (by omega)
   refine⟨Ub,by simp only[df,↓xo,xw,↓xl,oT ((k:Int)<32),zdA,h1,zdy,e1],h2,λm j=>?_⟩
   rw[h3 m j];by_cases hc:m=k/\j=i
   ·rw[if_pos hc,if_pos (by omega),hc.1]
   ·rw[if_neg hc]
    show tb WS m j=_
    rw[hI.2 m j];by_cases hd:m<k/\j=i
    ·rw[if_pos hd,if_pos (by omega)]
    ·rw[if_neg hd,if_neg (by omega)])
  (λmV _=>by simp only[df,↓xo,oF (((32:Nat):Int)<32),zdz]) v.op ⟨ho,λm j=>by rw[if_neg (by omega)]⟩
 change ag (df WX) (((),(i:Int),0,()),v.s)=_ at h1;refine⟨mV,by simp only[fO,↓xl,h1,zdy],h2,λm j hm'=>?_⟩
 rw[h3 m j];by_cases hc:j=i
 ·rw[if_pos ⟨hm',hc⟩,if_pos hc]
 ·rw[if_neg (λq=>hc q.2),if_neg hc]
def vY (i:Nat)(ps:List (List Int))(f:mm):List (List Int):=
 let Gi:=FF ps f.1.1.toNat i (tb ps f.1.1.toNat i+AO (aG f.1) (Fl.nP f)) (-1099511627776) 1099511627776
 FF Gi f.2.1.1.toNat i (tb Gi f.2.1.1.toNat i+AO (aG f.2.1) (Fl.nP f)) (-1099511627776) 1099511627776
def pU (i:Nat)(ps:List (List Int))(fs:List mm):List (List Int):=fs.foldl (vY i) ps
def oS (i:Nat)(ps:List (List Int))(l:List ld):List (List Int):=l.foldl (λps x=>pU i ps x.2.1) ps
theorem Yg {ps:List (List Int)}(h:Q0 ps){n i:Nat}(hn:n<32)(hi:i<8)(x:Int):Q0 (FF ps n i x (-1099511627776) 1099511627776):=by
 unfold FF;split
 ·rename_i hv
  have:=of_decide_eq_true hv;refine⟨yo h.sP n i _ hn,λm j hm hj=>?_⟩;rw[ur h.sP hn hi];split
  ·exact this
  ·exact h.AW m j hm hj
 ·exact h
theorem E6 {α β:Type}(f:β->α->β)(b:β){l:List α}{k:Nat}{x:α}(h:l[k]?=some x):(l.take (k+1)).foldl f b=f ((l.take k).foldl f b) x:=by
 rw[ze9,h,List.foldl_append];rfl
abbrev sX (v:V)(x:ld)(out:List gN):=((v.cfg,v.now,(),v.ph,v.mp,(),v.bp,v.lp,()),(v.tr,()),(v.op,v.ps,()),x,out,v.M,v.L,v.B,())
abbrev sE (v:V)(out:List gN):=((v.cfg,v.now,(),v.ph,v.mp,(),v.bp,v.lp,()),(v.tr,()),(v.op,v.ps,()),out,v.M,v.L,v.B,())
theorem NC (hi:i<8)(hp:Q0 v.ps)(x:ld)(hx:pz x)(l:List ld)(a b:Int)(out:List gN)(hl:out.length<=1000000000): ∃xt,ag (dH WX) (((),(i:Int),(),(),l,a,b,x.2.1,(x.2.1.length:Int),0,()),sX v x out)=some (((),(i:Int),(),(),l,a,b,()),sX {v with ps:=pU i v.ps x.2.1} x xt)/\Q0 (pU i v.ps x.2.1)/\xt.length=out.length+x.2.1.length:=by
 have hlen:=hx.len;obtain⟨⟨Xs,xt⟩,h1,h2,h3,h4⟩:=pO (b:=dH WX) x.2.1.length (λk (s:List (List Int)×List gN)=>(((),(i:Int),(),(),l,a,b,x.2.1,(x.2.1.length:Int),(k:Int),()),sX {v with ps:=s.1} x s.2)) (λs=>(((),(i:Int),(),(),l,a,b,()),sX {v with ps:=s.1} x s.2))
  (λk s=>s.1=pU i v.ps (x.2.1.take k)/\Q0 s.1/\s.2.length=out.length+k)
  (λk s hk hI=>by
   obtain⟨Gi,I3⟩:=s;obtain⟨i1,i2,i3⟩:=hI;simp only at i1 i2 i3;have BX:=zdE hk;obtain⟨f1,f2,f3,f4⟩:=hx.yj _ (zeO hk);have f5:Fl.nP x.2.1[k]<=1048576:=by
    have s1:=hx.sum;have hd:x.2.1=x.2.1.take k++ [x.2.1[k]]++x.2.1.drop (k+1):=by simp
    have s2:=s1.2;rw[hd,um,um] at s2;have g1:=wU (l:=x.2.1.take k) λf hf=>(hx.yj f (zeC hf)).2.2.2;have g2:=wU (l:=x.2.1.drop (k+1)) λf hf=>(hx.yj f (ze6 hf)).2.2.2;have g3:lj [x.2.1[k]]=Fl.nP x.2.1[k]:=by simp[lj,gU]
    omega
   have e1:=Ua hk (by omega)
   have ht:=E6 (vY i) v.ps BX;generalize x.2.1[k]=f at*;obtain⟨n1,L4⟩:=zft f1.1;obtain⟨n2,Jj⟩:=zft f2.1;have t1:=Hg (op:=v.op) i2.sP (n:=n1) (by omega) hi (s:=aG f.1) (by omega) ⟨f4,f5⟩ (i2.AW n1 i (by omega) hi)
   have i4:=Yg i2 (n:=n1) (by omega) hi (tb Gi n1 i+AO (aG f.1) (Fl.nP f))
   have t2:=Hg (op:=v.op) i4.sP (n:=n2) (by omega) hi (s:=aG f.2.1) (by omega) ⟨f4,f5⟩ (i4.AW n2 i (by omega) hi)
   have i5:=Yg i4 (n:=n2) (by omega) hi (tb (FF Gi n1 i (tb Gi n1 i+AO (aG f.1) (Fl.nP f)) (-1099511627776) 1099511627776) n2 i+AO (aG f.2.1) (Fl.nP f))
   have hf:vY i Gi f=FF (FF Gi n1 i (tb Gi n1 i+AO (aG f.1) (Fl.nP f)) (-1099511627776) 1099511627776) n2 i (tb (FF Gi n1 i (tb Gi n1 i+AO (aG f.1) (Fl.nP f)) (-1099511627776) 1099511627776) n2 i+AO (aG f.2.1) (Fl.nP f)) (-1099511627776) 1099511627776:=by
    unfold vY;rw[L4,Jj];rfl
   rw[<-hf] at t2 i5;refine⟨(vY i Gi f,I3++ [(1,(i:Int),f,(0,0,0,0,0,0,0,0,0,()),())]),?_,?_,i5,by rw[zdI,i3];simp only[zdJ,zdK];omega⟩
   ·have a1:f.1.1=(n1:Int):=L4
    have a2:f.2.1.1=(n2:Int):=Jj;have a3:f.1.2.2.2.1=aG f.1:=rfl;have a4:f.2.1.2.2.2.1=aG f.2.1:=rfl;have a5:f.2.2.2.1=Fl.nP f:=rfl;simp only[dH,↓xo,xw,oT ((k:Int)<(x.2.1.length:Int)),oT ((0:Int)<=(k:Int)),zdA,zdB,BX,zdy,a1,a2,a3,a4,a5,t1,t2,ot (show(((I3.length+([(1,(i:Int),f,(0,0,0,0,0,0,0,0,0,()),())]:List gN).length:Nat):Int))*((256:Nat):Int)<=((room:Nat):Int) by unfold room;simp only[zdJ,zdK];omega),e1]
   ·show vY i Gi f=_
    rw[i1];exact ht.symm)
  (λs _=>by simp only[dH,↓xo,oF ((x.2.1.length:Int)<(x.2.1.length:Int)),zdz]) (v.ps,out) ⟨rfl,hp,rfl⟩
 simp only at h1 h2 h3 h4;rw[zeS] at h2;subst h2;exact⟨xt,h1,h3,h4⟩
end
structure SI (v:V)(μ:Nat->MS):Prop where
 pV:E5 v μ
 op:Lw v.op
 Lx: ∀n i,n<32->i<8->tb v.op n i=uV n (μ i)
 ps:Q0 v.ps
section
variable {v:V}{μ:Nat->MS}{i n:Nat}
theorem Q1 (hi:i<8)(hp:Q0 v.ps)(l:List ld)(hl:l.length<=70)(hx: ∀x∈l,pz x): ∃xt,ag (bu WX) (((),(i:Int),(),l,(l.length:Int),0,()),sE v [])=some (((),(i:Int),xt,()),{v with ps:=oS i v.ps l}.s)/\Q0 (oS i v.ps l)/\xt.length<=80000000:=by
 obtain⟨⟨Xs,xt⟩,h1,h2,h3,h4⟩:=pO (b:=bu WX) l.length (λk (s:List (List Int)×List gN)=>(((),(i:Int),(),l,(l.length:Int),(k:Int),()),sE {v with ps:=s.1} s.2)) (λs=>(((),(i:Int),s.2,()),{v with ps:=s.1}.s))
  (λk s=>s.1=oS i v.ps (l.take k)/\Q0 s.1/\s.2.length<=k*1048577)
  (λk s hk hI=>by
   obtain⟨Gi,I3⟩:=s;obtain⟨i1,i2,i3⟩:=hI;simp only at i1 i2 i3;have BX:=zdE hk;have hc:=hx _ (zeO hk);have e1:=lD hk (by omega)
   have ht:=E6 (λps (x:ld)=>pU i ps x.2.1) v.ps BX;generalize l[k]=x at*;obtain⟨I4,f1,f2,f3⟩:=NC (v:={v with ps:=Gi}) hi i2 x hc l (l.length:Int) (k:Int) I3 (by omega)
   have hl2:=hc.len;have hcm:pU i Gi x.2.1=oS i v.ps (l.take (k+1)):=by rw[i1];exact ht.symm
   have hr: ∀e:gN,(((I4.length+([e]:List gN).length:Nat):Int))*((256:Nat):Int)<=((room:Nat):Int):=λe=>by
    unfold room;simp only[zdJ,zdK];omega
   have fin: ∀WT:List gN,WT.length<=I4.length+1->bu WX (((),(i:Int),(),l,(l.length:Int),(k:Int),()),sE {v with ps:=Gi} I3)=some (.inl (((),(i:Int),(),l,(l.length:Int),((k+1:Nat):Int),()),sE {v with ps:=pU i Gi x.2.1} WT))->∃s':List (List Int)×List gN,bu WX (((),(i:Int),(),l,(l.length:Int),(k:Int),()),sE {v with ps:=Gi} I3)=some (.inl (((),(i:Int),(),l,(l.length:Int),((k+1:Nat):Int),()),sE {v with ps:=s'.1} s'.2))/\s'.1=oS i v.ps (l.take (k+1))/\Q0 s'.1/\s'.2.length<=(k+1)*1048577:=λWT ho he=>
     ⟨(pU i Gi x.2.1,WT),he,hcm,f2,by simp only;omega⟩
   by_cases hq:x.2.2.1>0
   ·cases Uc:x.2.2.2.1 with
    |true=>
     refine fin (I4++ [(3,(i:Int),((0,0,0,0,0,0,0,0,0,()),(0,0,0,0,0,0,0,0,0,()),0,0,0,()),(x.1.1,x.1.2.1,x.1.2.2.1,x.1.2.2.2.1,x.1.2.2.2.2.1,x.1.2.2.2.2.2.1,x.2.2.1,x.1.2.2.2.2.2.2.2),())]) (by rw[zdI];exact zdV _) ?_
     simp only[bu,↓xo,xw,↓xl,oT ((k:Int)<(l.length:Int)),oT ((0:Int)<=(k:Int)),zdA,zdB,BX,zdy,f1,Uc,ot hq,ot (hr _),e1]
    |false=>
     cases Lp:x.2.2.2.2.1 with
     |true=>
      refine fin (I4++ [(3,(i:Int),((0,0,0,0,0,0,0,0,0,()),(0,0,0,0,0,0,0,0,0,()),0,0,0,()),(x.1.1,x.1.2.1,x.1.2.2.1,x.1.2.2.2.1,x.1.2.2.2.2.1,x.1.2.2.2.2.2.1,x.2.2.1,x.1.2.2.2.2.2.2.2),())]) (by rw[zdI];exact zdV _) ?_
      simp only[bu,↓xo,xw,↓xl,oT ((k:Int)<(l.length:Int)),oT ((0:Int)<=(k:Int)),zdA,zdz,zdB,BX,zdy,f1,Uc,Lp,ot hq,ot (hr _),e1]
     |false=>
      refine fin (I4++ [(2,(i:Int),((0,0,0,0,0,0,0,0,0,()),(0,0,0,0,0,0,0,0,0,()),0,0,0,()),(x.1.1,x.1.2.1,x.1.2.2.1,x.1.2.2.2.1,x.1.2.2.2.2.1,x.1.2.2.2.2.2.1,x.2.2.1,x.1.2.2.2.2.2.2.2),())]) (by rw[zdI];exact zdV _) ?_
      simp only[bu,↓xo,xw,↓xl,oT ((k:Int)<(l.length:Int)),oT ((0:Int)<=(k:Int)),zdA,zdz,zdB,BX,zdy,f1,Uc,Lp,ot hq,ot (hr _),e1]
   ·refine fin I4 (by omega) ?_
    cases Uc:x.2.2.2.1 with
    |true=>simp only[bu,↓xo,xw,↓xl,oT ((k:Int)<(l.length:Int)),oT ((0:Int)<=(k:Int)),zdA,zdz,zdB,BX,zdy,f1,Uc,bc hq,e1]
    |false=>
     cases Lp:x.2.2.2.2.1 with
     |true=>simp only[bu,↓xo,xw,↓xl,oT ((k:Int)<(l.length:Int)),oT ((0:Int)<=(k:Int)),zdA,zdz,zdB,BX,zdy,f1,Uc,Lp,bc hq,e1]
     |false=>simp only[bu,↓xo,xw,↓xl,oT ((k:Int)<(l.length:Int)),oT ((0:Int)<=(k:Int)),zdA,zdz,zdB,BX,zdy,f1,Uc,Lp,bc hq,e1])
  (λs _=>by simp only[bu,↓xo,oF ((l.length:Int)<(l.length:Int)),zdz,V.s]) (v.ps,[]) ⟨rfl,hp,zeH _⟩
 simp only at h1 h2 h3 h4;rw[zeS] at h2;subst h2;exact⟨xt,h1,h3,by omega⟩
theorem WU (hm:E5 v μ)(ho:Lw v.op)(hp:Q0 v.ps)(hi:i<8)(l:List ld)(hl:l.length<=70)(hx: ∀x∈l,pz x): ∃out mV,eW WX (((),(i:Int),l,()),v.s)=some ((out,()),{v with ps:=oS i v.ps l,op:=mV}.s)/\Q0 (oS i v.ps l)/\Lw mV/\(∀m j,m<32->tb mV m j=if j=i then uV m (μ i) else tb v.op m j)/\out.length<=80000000:=by
 obtain⟨out,h1,h2,h3⟩:=Q1 hi hp l hl hx;obtain⟨mV,g1,g2,g3⟩:=K3 (v:={v with ps:=oS i v.ps l}) (μ:=μ) ⟨hm.mp,hm.at_⟩ hi ho;refine⟨out,mV,?_,h2,g2,g3,h3⟩;simp only[eW,V.s,↓xl] at g1 h1⊢;simp only[h1,zdy,g1]
theorem Pd (hm:E5 v μ)(ho:Lw v.op)(hi:i<8)(l:List cY)(hl:l.length<=1000): ∃out mV,gh WX (((),(i:Int),l,()),v.s)=some ((out,()),{v with op:=mV}.s)/\Lw mV/\(∀m j,m<32->tb mV m j=if j=i then uV m (μ i) else tb v.op m j)/\out.length=l.length:=by
 obtain⟨out,h1,h2⟩:=pO (b:=dG WX) l.length (λk (s:List gN)=>(((),(i:Int),(),l,(l.length:Int),(k:Int),()),sE v s)) (λs=>(((),(i:Int),s,()),v.s))
  (λk s=>s.length=k)
  (λk s hk hI=>by
   have BX:=zdE hk;have e1:=lD hk (by omega)
   generalize l[k]=x at*;exact⟨s++ [(2,(i:Int),((0,0,0,0,0,0,0,0,0,()),(0,0,0,0,0,0,0,0,0,()),0,0,0,()),x,())],by simp only[dG,↓xo,xw,oT ((k:Int)<(l.length:Int)),oT ((0:Int)<=(k:Int)),zdA,zdB,BX,zdy,ot (show(((s.length+([(2,(i:Int),((0,0,0,0,0,0,0,0,0,()),(0,0,0,0,0,0,0,0,0,()),0,0,0,()),x,())]:List gN).length:Nat):Int))*((256:Nat):Int)<=((room:Nat):Int) by unfold room;simp only[zdJ,zdK];omega),e1],by rw[zdI,hI];rfl⟩)
  (λs _=>by simp only[dG,↓xo,oF ((l.length:Int)<(l.length:Int)),zdz,V.s]) [] rfl
 change ag (dG WX) (((),(i:Int),(),l,(l.length:Int),0,()),sE v [])=_ at h1;obtain⟨mV,g1,g2,g3⟩:=K3 hm hi ho;refine⟨out,mV,?_,g2,g3,h2⟩;simp only[gh,V.s,↓xl] at g1 h1⊢;simp only[h1,zdy,g1]
def qV (μ:Nat->MS)(i:Nat)(m:MS):Nat->MS:=λj=>if j=i then m else μ j
theorem Dq (hm:E5 v μ)(hi:i<8){m:MS}{bs ss:List Nat}{st:List gz}(hB:Bk bs ss st m.1 m.2.1)(hI:s8 m.1 m.2.1 m.2.2.1)(hH:yn m):E5 {v with M:=v.M.set i (CA m.2.2.2.1 m.2.2.2.2 bs ss m.2.2.1 st)} (qV μ i m):=by
 refine⟨hm.mp,λj hj=>?_⟩;obtain⟨bs0,ss0,st0,h0,_⟩:=hm.at_ i hi;unfold qV;by_cases e:j=i
 ·subst e
  rw[if_pos rfl];exact⟨bs,ss,st,kI h0,hB,hI,hH⟩
 ·rw[if_neg e]
  obtain⟨bs1,ss1,xb,h1,h2⟩:=hm.at_ j hj;exact⟨bs1,ss1,xb,by show(v.M.set i _)[j]?=_;rw[kF e];exact h1,h2⟩
theorem Q2 (h:SI v μ)(hi:i<8)(x:Int)(a:Int)(out:List gN)(hl:out.length<=1000)(ha:(i:Int)=a\/a=8): ∃xt mV M',bS WX (((),a,x,(),v.mp,(i:Int),()),sE v out)=some (.inl (((),a,x,(),v.mp,((i+1:Nat):Int),()),sE {v with op:=mV,M:=M'} xt))/\SI {v with op:=mV,M:=M'} (qV μ i (ml x (μ i)).1)/\xt.length<=out.length+64:=by
 obtain⟨bs,ss,st,hM,hB,hI,hH⟩:=h.pV.at_ i hi;obtain⟨oV,oW,eZ,m1,m2,m3,m4,m5,m6⟩:=WO (last:=(μ i).2.2.2.1) (no:=(μ i).2.2.2.2) hB hI hH x;change kz WX (((),x,()),_)=some (((ml x (μ i)).2,()),Gg (μ i).2.2.2.1 (μ i).2.2.2.2 oV oW (ml x (μ i)).1.2.2.1 eZ) at m1;change (ml x (μ i)).1.2.2.2=((μ i).2.2.2.1,(μ i).2.2.2.2) at m2;change Bk oV oW eZ (ml x (μ i)).1.1 (ml x (μ i)).1.2.1 at m3;change s8 (ml x (μ i)).1.1 (ml x (μ i)).1.2.1 (ml x (μ i)).1.2.2.1 at m4;change yn (ml x (μ i)).1 at m5;change (ml x (μ i)).2.length<=64 at m6;have s1:=Dq h.pV hi m3 m4 m5;have e2:(ml x (μ i)).1.2.2.2.1=(μ i).2.2.2.1:=by rw[m2]
 have e3:(ml x (μ i)).1.2.2.2.2=(μ i).2.2.2.2:=by rw[m2]
 rw[e2,e3] at s1;obtain⟨I4,mV,g1,g2,g3,g4⟩:=Pd (v:={v with M:=v.M.set i (CA (μ i).2.2.2.1 (μ i).2.2.2.2 oV oW (ml x (μ i)).1.2.2.1 eZ)}) s1 h.op hi (ml x (μ i)).2 (by omega)
 have hp:=h.pV.mp i hi;have e1:=lD hi (by omega)
 have hr:(((out.length+I4.length:Nat):Int))*((256:Nat):Int)<=((room:Nat):Int):=by unfold room;omega
 refine⟨out++I4,mV,_,?_,⟨⟨s1.mp,s1.at_⟩,g2,λn j hn hj=>?_,h.ps⟩,by rw[zdI];omega⟩
 ·simp only[V.s] at g1
  by_cases e:(i:Int)=a
  ·simp only[bS,V.s,↓xo,xw,oT ((i:Int)<8),ot (CC hi),zdA,zdB,hp,zdy,ot e,au,hM,m1,g1,ot hr,e1]
  ·have e8:a=8:=by omega
   simp only[bS,V.s,↓xo,xw,oT ((i:Int)<8),ot (CC hi),zdA,zdz,zdB,hp,zdy,bc e,ot e8,au,hM,m1,g1,ot hr,e1]
 ·show tb mV n j=_
  rw[g3 n j hn];unfold qV;by_cases e:j=i
  ·subst e;rw[if_pos rfl]
  ·rw[if_neg e,if_neg e];exact h.Lx n j hn hj
theorem K4 (h:SI v μ)(x a:Int)(ha:0<=a/\a<=8): ∃out mV M' μ',cZ WX (((),a,x,()),v.s)=some ((out,()),{v with op:=mV,M:=M'}.s)/\SI {v with op:=mV,M:=M'} μ'/\out.length<=512/\(∀i,μ' i=μ i\/μ' i=(ml x (μ i)).1):=by
 obtain⟨⟨mV,M',out,μ'⟩,h1,h2,h3,h4,_⟩:=pO (b:=bS WX) 8 (λk (s:List (List Int)×List uF×List gN×(Nat->MS))=>(((),a,x,(),v.mp,(k:Int),()),sE {v with op:=s.1,M:=s.2.1} s.2.2.1)) (λs=>((s.2.2.1,()),{v with op:=s.1,M:=s.2.1}.s))
  (λk s=>SI {v with op:=s.1,M:=s.2.1} s.2.2.2/\s.2.2.1.length<=64*k/\(∀i,s.2.2.2 i=μ i\/s.2.2.2 i=(ml x (μ i)).1)/\∀i,k<=i->s.2.2.2 i=μ i)
  (λk s hk hI=>by
   obtain⟨WS,M1,I3,μ1⟩:=s;obtain⟨i1,i2,i3,i4⟩:=hI;simp only at i1 i2 i3 i4;have e1:=lD hk (by omega)
   have hp:=i1.pV.mp k hk;change v.mp[k]?=_ at hp;by_cases e:(k:Int)=a\/a=8
   ·obtain⟨xt,mV,M',g1,g2,g3⟩:=Q2 i1 hk x a I3 (by omega) e
    refine⟨(mV,M',xt,qV μ1 k (ml x (μ1 k)).1),g1,g2,by simp only;omega,λi=>?_,λi hi=>?_⟩
    ·simp only[qV]
     by_cases q:i=k
     ·subst q;rw[if_pos rfl,i4 i (zdV _)];exact .inr rfl
     ·rw[if_neg q];exact i3 i
    ·simp only[qV]
     rw[if_neg (by omega)];exact i4 i (by omega)
   ·refine⟨(WS,M1,I3,μ1),?_,i1,by simp only;omega,i3,λi hi=>i4 i (by omega)⟩
    simp only[bS,V.s,↓xo,xw,oT ((k:Int)<8),ot (CC hk),zdA,zdz,zdB,hp,zdy,bc (λq=>e (.inl q)),bc (λq=>e (.inr q)),e1])
  (λs _=>by simp only[bS,↓xo,oF (((8:Nat):Int)<8),zdz,V.s]) (v.op,v.M,[],μ) ⟨h,zeH _,λi=> .inl rfl,λi _=>rfl⟩
 refine⟨out,mV,M',μ',?_,h2,by simp only at h3;omega,h4⟩
 change ag (bS WX) (((),a,x,(),v.mp,0,()),sE v [])=_ at h1;simp only[cZ,V.s,↓xl] at h1⊢;simp only[h1,zdy]
end
abbrev T0:oX:=(0,0,0,0,false,gL,())
structure Q3 (tr:List oX):Prop where
 len:tr.length=32
 jL: ∀x∈tr,0<=x.1/\x.1<=7
 key: ∀x∈tr,x.2.2.2.2.2.1.length=32
def iD (tr:List oX)(n:Int):oX:=tr.getD n.toNat T0
noncomputable def lC (tr:List oX)(n:Int):Bool:=if 0<=n/\n<=31 then !af ((iD tr n).2.2.1=0) else false
noncomputable def vk (tr:List oX)(n:Int):oX:=if lC tr n=true then iD tr n else T0
abbrev Rw (tr:List oX):((List oX)×Unit)×Unit:=((tr,()),())
section
variable {tr:List oX}
theorem uv (h:Q3 tr){n:Int}(hn:0<=n/\n<=31):tr[n.toNat]?=some (iD tr n):=by
 have:=zdE (l:=tr) (i:=n.toNat) (by rw[h.len];omega)
 unfold iD;rw[zdP,this];rfl
theorem CD {n:Int}(hn:0<=n/\n<=31):0<=n/\n<(32:Nat):=by omega
theorem oI (h:Q3 tr)(n:Int):bI WX (((),n,()),Rw tr)=some ((lC tr n,()),Rw tr):=by
 unfold lC;by_cases hn:0<=n/\n<=31
 ·rw[if_pos hn]
  simp only[bI,ig,↓xo,oT (n>=0),ot hn.2,zdA,zdy,ot (CD hn),uv h hn]
 ·rw[if_neg hn]
  by_cases h0:n>=0
  ·simp only[bI,ig,↓xo,ot h0,oF (n<=31),zdA,zdz,zdy]
  ·simp only[bI,ig,↓xo,bc h0,zdz,zdy]
theorem qO {n:Int}(h:lC tr n=true):0<=n/\n<=31:=by
 unfold lC at h;split at h
 ·assumption
 ·cases h
theorem oa (h:Q3 tr)(n:Int):bC WX (((),n,()),Rw tr)=some ((vk tr n,()),Rw tr):=by
 have h1:=oI h n;unfold vk;cases ht:lC tr n with
 |true=>
  rw[ht] at h1;have hn:=qO ht;simp only[bC,h1,zdy,zdC,zdz,↓xo,ot (CD hn),zdA,uv h hn,if_true]
 |false=>
  rw[ht] at h1;simp only[bC,h1,zdy,zdD,zdA,zdG,if_false]
theorem Hh (h:Q3 tr)(n:Int):0<=(vk tr n).1/\(vk tr n).1<=7:=by
 unfold vk;split
 ·rename_i ht
  exact h.jL _ (zeB (uv h (qO ht)))
 ·exact⟨zeF _,by decide⟩
theorem Ud (h:Q3 tr)(n:Int):(vk tr n).2.2.2.2.2.1.length=32:=by
 unfold vk;split
 ·rename_i ht
  exact h.key _ (zeB (uv h (qO ht)))
 ·rfl
noncomputable def WV (tr:List oX)(n:Int)(b:Bool):List oX:=if lC tr n=true then tr.set n.toNat ((iD tr n).1,(iD tr n).2.1,(iD tr n).2.2.1,(iD tr n).2.2.2.1,b,(iD tr n).2.2.2.2.2) else tr
theorem Pe (h:Q3 tr)(n:Int)(b:Bool):iN WX (((),n,b,()),Rw tr)=some ((lC tr n,()),Rw (WV tr n b)):=by
 have h1:=oI h n;unfold WV;cases ht:lC tr n with
 |true=>
  rw[ht] at h1;have hn:=qO ht;simp only[iN,h1,zdy,zdC,zdz,↓xo,ot (CD hn),zdA,uv h hn,if_true]
 |false=>
  rw[ht] at h1;simp only[iN,h1,zdy,zdD,zdA,zdG,if_false]
structure FG (tr tr':List oX):Prop where
 len:tr'.length=tr.length
 same: ∀i:Nat,(tr'.getD i T0).1=(tr.getD i T0).1/\(tr'.getD i T0).2.1=(tr.getD i T0).2.1/\(tr'.getD i T0).2.2.1=(tr.getD i T0).2.2.1/\(tr'.getD i T0).2.2.2.2.2=(tr.getD i T0).2.2.2.2.2
theorem FG.rfl {tr:List oX}:FG tr tr:=⟨Eq.refl _,λ_=>⟨Eq.refl _,Eq.refl _,Eq.refl _,Eq.refl _⟩⟩
theorem FG.trans {a b c:List oX}(h:FG a b)(k:FG b c):FG a c:=⟨k.len.trans h.len,λi=>⟨(k.same i).1.trans (h.same i).1,(k.same i).2.1.trans (h.same i).2.1,(k.same i).2.2.1.trans (h.same i).2.2.1,(k.same i).2.2.2.trans (h.same i).2.2.2⟩⟩
theorem FG.inv {a b:List oX}(h:FG a b)(k:Q3 a):Q3 b:=by
 have key: ∀x∈b,∃y∈a,x.1=y.1/\x.2.2.2.2.2=y.2.2.2.2.2:=λx hx=>by
  obtain⟨i,hi,rfl⟩:=zeh hx;have hl:=h.len;have h1:=h.same i;have e1:b.getD i T0=b[i]:=by rw[zdP,zdE hi];rfl
  have e2:a.getD i T0=a[i]'(by omega):=by rw[zdP,zdE (by omega)];rfl
  rw[e1,e2] at h1;exact⟨a[i]'(by omega),zeO _,h1.1,h1.2.2.2⟩
 refine⟨by rw[h.len];exact k.len,λx hx=>?_,λx hx=>?_⟩
 ·obtain⟨y,hy,e,_⟩:=key x hx
  rw[e];exact k.jL y hy
 ·obtain⟨y,hy,_,e⟩:=key x hx
  rw[e];exact k.key y hy
theorem I5 (tr:List oX)(n:Int)(b:Bool):FG tr (WV tr n b):=by
 unfold WV;split
 ·refine⟨by rw[zec],λi=>?_⟩
  simp only[zdP,ze8];by_cases e:n.toNat=i
  ·subst e
   rw[if_pos rfl];by_cases hl:n.toNat<tr.length
   ·rw[if_pos hl]
    simp[iD,zdP]
   ·rw[if_neg hl,List.getElem?_eq_none (by omega)]
    exact⟨rfl,rfl,rfl,rfl⟩
  ·rw[if_neg e];exact⟨rfl,rfl,rfl,rfl⟩
 ·exact .rfl
structure PhI (ph:Jl):Prop where
 a:ph.1.length=8
 b:ph.2.1.length=8
 c:ph.2.2.1.length=8
theorem ND {α:Type}{l:List α}(h:l.length=8){n:Int}(hn:0<=n/\n<=7): ∃x,l[n.toNat]?=some x:=⟨_,zdE (by rw[h];omega)⟩
theorem I6 {n:Int}(hn:0<=n/\n<=7):0<=n/\n<(8:Nat):=by omega
def An {α β:Type}(y:β)(o:Option (α×β)):Prop:= ∃x,o=some (x,y)
theorem An.bif {α β:Type}{y:β}{c:Bool}{a b:Option (α×β)}(h1:An y a)(h2:An y b):An y (bif c then a else b):=by cases c<;>assumption
theorem An.mk {α β:Type}(x:α)(y:β):An y (some (x,y)):=⟨x,rfl⟩
theorem Ue (x:Bool×Unit):iI WX (x,())=some (((bif x.1 then 0 else 7),()),()):=by obtain⟨b,⟨⟩⟩:=x;cases b<;>rfl
theorem Q4 {ph:Jl}(hp:PhI ph)(x:oX)(i:Int):An () (jx WX ((ph,x,i,()),())):=by
 by_cases h0:i<0
 ·exact⟨(1,()),by simp only[jx,↓xo,ot h0,zdA]⟩
 by_cases h1:i>=8
 ·exact⟨(1,()),by simp only[jx,↓xo,bc h0,ot h1,zdA,zdz]⟩
 obtain⟨b,hb⟩:=ND hp.a (n:=i) (by omega)
 simp only[jx,↓xo,xw,bc h0,bc h1,zdz,gQ,zdy,bc (ta i),oT (0<=i/\i<(8:Nat)),zdA,hb];repeat' first|exact An.mk _ _|apply An.bif
theorem K5 {ph:Jl}(hp:PhI ph)(x y:oX)(hx:0<=x.1/\x.1<=7):An () (gT WX ((ph,x,y,()),())):=by
 obtain⟨b,hb⟩:=ND hp.c hx;simp only[gT,↓xo,xw,gQ,zdy,bc (ta y.1),ot (I6 hx),zdA,zdz,hb];repeat' first|exact An.mk _ _|apply An.bif
theorem An.bind {α β γ δ:Type}{y:β}{z:δ}{o:Option (α×β)}{f:α×β->Option (γ×δ)}(h:An y o)(k: ∀x,An z (f (x,y))):An z (o.bind f):=by
 obtain⟨x,rfl⟩:=h;exact k x
theorem WW (h:Q3 tr){ph:Jl}(hp:PhI ph)(n d i o:Int):An (Rw tr) (lz WX (((),ph,n,d,i,o,()),Rw tr)):=by
 have hx:=Hh h n;have hb:=(ND hp.b hx);obtain⟨b,hb⟩:=hb;have k1: ∀x i,An () (jx WX ((ph,x,i,()),())):=λx i=>Q4 hp x i;have k2: ∀y,An () (gT WX ((ph,vk tr n,y,()),())):=λy=>K5 hp _ y hx;simp only[lz,oI h,oa h,↓xo,zdy,ot (I6 hx),zdA,hb,gQ,Ue];repeat' first|exact An.mk _ _|apply An.bif|(refine An.bind (k1 _ _) λx=>?_)|(refine An.bind (k2 _) λx=>?_;rw[Ue,zdy])
theorem Pf (h:Q3 tr)(n sc:Int):An (Rw tr) (iM WX (((),n,sc,()),Rw tr)):=by
 obtain⟨s,h1,_⟩:=pO (b:=cG WX) 32 (λk (s:Int)=>(((),n,sc,(),s,tr,(k:Int),()),(tr,()),(vk tr n,()))) (λs=>((s,()),(tr,()),(vk tr n,()))) (λ_ _=>True)
  (λk s hk _=>by
   have hx:=zdE (l:=tr) (i:=k) (by rw[h.len];exact hk)
   generalize tr[k]'(by rw[h.len];exact hk)=x at hx
   have e1:=lD hk (by omega)
   have key: ∃s',cG WX (((),n,sc,(),s,tr,(k:Int),()),(tr,()),(vk tr n,()))=some (.inl (((),n,sc,(),s',tr,((k+1:Nat):Int),()),(tr,()),(vk tr n,()))):=by
    simp only[cG,↓xo,xw,oT ((k:Int)<32),ot (qU hk),zdA,zdB,hx,zdy,oI h,bc (ta (k:Int)),zdz,e1];have cb: ∀(c:Bool) (a b:Option (cG.D⊕cG.R)),(∃s',a=some (.inl (((),n,sc,(),s',tr,((k+1:Nat):Int),()),(tr,()),(vk tr n,()))))->(∃s',b=some (.inl (((),n,sc,(),s',tr,((k+1:Nat):Int),()),(tr,()),(vk tr n,()))))->∃s',(bif c then a else b)=some (.inl (((),n,sc,(),s',tr,((k+1:Nat):Int),()),(tr,()),(vk tr n,()))):=λc a b ha hb=>by cases c<;>assumption
    repeat' first|exact⟨_,rfl⟩|apply cb
   obtain⟨s',hs⟩:=key;exact⟨s',hs,trivial⟩)
  (λs _=>by simp only[cG,↓xo,oF (((32:Nat):Int)<32),zdz]) 0 trivial
 change ag (cG WX) (((),n,sc,(),0,tr,0,()),(tr,()),(vk tr n,()))=_ at h1;exact⟨(s,()),by simp only[iM,oa h,zdy,↓xl,h1]⟩
end
theorem Uf (k:uA)(now:Int)(h:k.2.1≠0): ∃b k',fj WX (((),now,()),(k,()))=some ((b,()),(k',()))/\k'.2.1=k.2.1:=by
 have key: ∃k1,fi WX (((),now,()),(k,()))=some ((),(k1,()))/\k1.2.1=k.2.1:=by
  by_cases h1:now<=k.2.2.2.1
  ·exact⟨k,by simp only[fi,↓xo,ot h1,zdA],rfl⟩
  ·by_cases h2:i64.wrap (k.2.2.1+i64.wrap (Int.tdiv (i64.wrap (now-k.2.2.2.1)) k.2.1))>=k.1
   ·refine⟨_,(?_:_=some ((),((k.1,k.2.1,k.1,now,()),()))),rfl⟩
    simp only[fi,↓xo,xw,bc h1,bc h,zdz,ot h2,zdA]
   ·refine⟨?w,?_,?_⟩
    rotate_left
    ·simp only[fi,↓xo,xw,bc h1,bc h,zdz,bc h2]
     rfl
    ·rfl
 obtain⟨k1,h1,h2⟩:=key;by_cases c1:k1.2.2.1=0
 ·exact⟨false,k1,by simp only[fj,h1,zdy,↓xo,ot c1,zdA],h2⟩
 ·by_cases c2:k1.2.2.1=k1.1
  ·refine⟨true,?w2,?_,?_⟩
   rotate_left
   ·simp only[fj,h1,zdy,↓xo,bc c1,ot c2,zdA,zdz]
    rfl
   ·exact h2
  ·refine⟨true,?w3,?_,?_⟩
   rotate_left
   ·simp only[fj,h1,zdy,↓xo,bc c1,bc c2,zdz]
    rfl
   ·exact h2
end AM
