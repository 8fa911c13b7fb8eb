/- The engine and the venue, in plain Lean: what the printed functions keep. Conditions: none. -/
import Derived.Test.YtepopigkpnoflaaGreatDrPrn2
set_option linter.unusedVariables false
set_option linter.unusedSimpArgs false
set_option maxRecDepth 100000
namespace AM
open Go Go.Proofs IntKind
theorem oT (p:Prop)(h:p:=by omega):aa p=true:=ot h
theorem oF (p:Prop)(h: ¬p:=by omega):aa p=false:=bg h
theorem xo (p:Prop){i:Decidable p}: @W.aa WX p i=aa p:=(@ke p i).symm
theorem xw (k:IntKind)(n:Int):WX.wr k n=k.wrap n:=by
 have h:WX.wr k n=wr k n:=(pI k n).symm;rw[h,pI]
theorem xl {L R:Type}(b:L->Option (L⊕R))(l:L):WX.ag b l=ag b l:=Eg _ b l
theorem vf (a b:Int):WX.qM a b=min a b:=by
 show(bif decide (b<a) then b else a)=_
 by_cases h:b<a
 ·rw[decide_eq_true h,zdO];omega
 ·rw[decide_eq_false h,zdN];omega
theorem Mo (a b:Int):WX.imax a b=max a b:=by
 show(bif decide (b>a) then b else a)=_
 by_cases h:b>a
 ·rw[decide_eq_true h,zdO];omega
 ·rw[decide_eq_false h,zdN];omega
theorem nR {n:Int}(h0: -9223372036854775808<=n)(h1:n<=9223372036854775807):IntKind.wrap .i64 n=n:=by rw[IntKind.wrap_i64];omega
theorem an {α:Type}(k:Nat)(f:Nat->Option α):mH (k+1) f=f k:=rfl
structure V where
 c:List NW
 cfg:xd
 now:Int
 ph:H9
 mp:List Nat
 bp:List Nat
 lp:List Nat
 tr:List oS
 op:List (List Int)
 ps:List (List Int)
 lg:GC
 mt:List LZ
 M:List uD
 L:List tv
 S:List Ar
 F:List xe
 O:List Bm
 B:List vM
abbrev VT:=((Unit×(List NW)×Unit×Unit×Unit)×(xd×Int×Unit×H9×(List Nat)×Unit×(List Nat)×(List Nat)×Unit)×((List oS)×Unit)×((List (List Int))×(List (List Int))×Unit)×GC×((List LZ)×Unit)×(List uD)×(List tv)×(List Ar)×(List xe)×(List Bm)×(List vM)×Unit)
abbrev ST:=((xd×Int×Unit×H9×(List Nat)×Unit×(List Nat)×(List Nat)×Unit)×((List oS)×Unit)×((List (List Int))×(List (List Int))×Unit)×(List uD)×(List tv)×(List vM)×Unit)
def V.e (v:V):VT:=(((),v.c,(),(),()),(v.cfg,v.now,(),v.ph,v.mp,(),v.bp,v.lp,()),(v.tr,()),(v.op,v.ps,()),v.lg,(v.mt,()),v.M,v.L,v.S,v.F,v.O,v.B,())
def V.s (v:V):ST:=((v.cfg,v.now,(),v.ph,v.mp,(),v.bp,v.lp,()),(v.tr,()),(v.op,v.ps,()),v.M,v.L,v.B,())
abbrev gM:List Int:=List.replicate 32 (0:Int)
abbrev C0:mS:=(0,0,0,0,0,0,0,0,0,0,0,0,0,0,gM,())
theorem aJ {β:Type}{l:List β}{n:Nat}{x:β}(h:l[n]?=some x):l.set n x=l:=by
 apply List.ext_getElem?;intro j;rw[zfj];split
 ·rename_i e;subst e
  have:=(List.getElem?_eq_some_iff.1 h).1;rw[if_pos this,h]
 ·rfl
structure mT (v:V)(i f o:Nat)(s:wV)(fr ou:(List Int)×Bool×Unit):Prop where
 lt:i<16
 c:v.c[i]?=some (i+1,f+1,o+1,())
 S:v.S[i]?=some (s,())
 F:v.F[f]?=some (fr,())
 O:v.O[o]?=some (ou,())
section
variable {v:V}{i f o:Nat}{s:wV}{fr ou:(List Int)×Bool×Unit}
theorem lr (h:i<16):0<=(i:Int)/\(i:Int)<(16:Nat):=by omega
theorem Sy (h:mT v i f o s fr ou):gl WX (((),(i:Int),()),v.e)=some ((s.1,()),v.e):=by
 have hl:=h.lt;simp only[gl,fh,V.e,↓xo,oT ((i:Int)>=0),oT ((i:Int)<16),ot (lr hl),zdO,zdM,zdQ,zdN,zdP,h.c,an,h.S,aj,aJ h.S]
def Fit (v:V):Prop:= ∀i,i<16->∃f o s fr ou,mT v i f o s fr ou/\(s.1≠0->ou.2.1=false)
theorem Sz (h:Fit v):eY WX (((),()),v.e)=some (((-1),()),v.e):=by
 have key: ∀n i:Nat,i+n=16->ag (bY WX) ((v.c,(i:Int),()),v.S,v.F,v.O,())=some (.inr ((),v.S,v.F,v.O,())):=by
  intro n;induction n with
  |zero=>
   intro i hi;rw[ar];simp only[bY,↓xo,oF ((i:Int)<16),zdN]
  |succ n ih=>
   intro i hi;obtain⟨f,o,s,fr,ou,hc,hf⟩:=h i (by omega)
   rw[ar];have e1:i64.wrap ((i:Int)+1)=((i+1:Nat):Int):=by rw[nR (by omega) (by omega)];omega
   by_cases h0:s.1=0
   ·simp only[bY,↓xo,xw,oT ((i:Int)<16),ot (lr hc.lt),zdO,zdM,zdP,hc.c,an,hc.S,aj,ot h0,zdQ,zdN,aJ hc.S,e1]
    exact ih (i+1) (by omega)
   ·simp only[bY,↓xo,xw,oT ((i:Int)<16),ot (lr hc.lt),zdO,zdM,zdP,hc.c,an,hc.S,aj,bg h0,zdR,aJ hc.S,e1,hc.O,jO,hf h0,zdN,aJ hc.O]
    exact ih (i+1) (by omega)
 have:=key 16 0 (by omega)
 simp only[eY,V.e,xl];change ag (bY WX) ((v.c,0,()),v.S,v.F,v.O,())=_ at this;simp only[this,zdM]
theorem P0 (h:Fit v):cg WX (((),()),v.e)=some ((),v.e):=by
 have h1:=Sz h;have h2:ag (cX WX) (((),(-1),()),v.e)=some ((),v.e):=by
  rw[ar];simp only[cX,↓xo,oF ((-1:Int)>=0),zdN]
 simp only[cg,h1,zdM,xl,h2]
end
theorem lG {i n:Nat}(h:i<n)(hn:n<=1000000):IntKind.wrap .i64 ((i:Int)+1)=((i+1:Nat):Int):=by rw[nR (by omega) (by omega)];omega
theorem GD {L:List (List Int)}{i:Nat}{x:List Int}(h:L[i]?=some x):(L.take (i+1)).flatten=(L.take i).flatten++x:=by
 have hi:i<L.length:=(List.getElem?_eq_some_iff.1 h).1;rw[zfk,h];simp
theorem N5 {L:List (List Int)}(i:Nat):(L.take i).flatten.length<=L.flatten.length:=by
 conv=>rhs;rw[<-ze5 i L,List.flatten_append,zdW]
 omega
theorem GF (L:List (List Int))(h:L.flatten.length<=1000000000000)(hn:L.length<=1000000):ag (bR WX) ((L,0,L,(L.length:Int),0,()),())=some ((L,(L.flatten.length:Int),()),()):=by
 have key: ∀m i:Nat,i+m=L.length->ag (bR WX) ((L,((L.take i).flatten.length:Int),L,(L.length:Int),(i:Int),()),())=some ((L,(L.flatten.length:Int),()),()):=by
  intro m;induction m with
  |zero=>
   intro i hi;rw[ar];have:i=L.length:=by omega
   subst this;simp only[bR,↓xo,oF ((L.length:Int)<(L.length:Int)),zdN,ze4]
  |succ m ih=>
   intro i hi;have nB:i<L.length:=by omega
   have hx:=zdS nB;generalize L[i]=x at hx;have hf:=GD hx;have hle:=N5 (L:=L) (i+1);rw[hf,zdW] at hle;rw[ar];have e1:IntKind.wrap .i64 (((L.take i).flatten.length:Int)+(x.length:Int))=((L.take (i+1)).flatten.length:Int):=by
    rw[nR (by omega) (by omega),hf,zdW];omega
   simp only[bR,↓xo,xw,oT ((i:Int)<(L.length:Int)),oT ((0:Int)<=(i:Int)),zdO,zdP,hx,zdM,e1,oF (((L.take (i+1)).flatten.length:Int)<0),zdN,lG nB hn];exact ih (i+1) (by omega)
 exact key L.length 0 (by omega)
theorem Mp (L:List (List Int))(hn:L.length<=1000000):ag (bG WX) ((0,L,(L.length:Int),0,()),(List.replicate L.flatten.length (0:Int),()))=some ((L.flatten.length,()),(L.flatten,())):=by
 have key: ∀m i:Nat,i+m=L.length->ag (bG WX) (((L.take i).flatten.length,L,(L.length:Int),(i:Int),()),((L.take i).flatten++List.replicate (L.flatten.length-(L.take i).flatten.length) (0:Int),()))=some ((L.flatten.length,()),(L.flatten,())):=by
  intro m;induction m with
  |zero=>
   intro i hi;rw[ar];have:i=L.length:=by omega
   subst this;simp only[bG,↓xo,oF ((L.length:Int)<(L.length:Int)),zdN,ze4,Nat.sub_self,ze1,zfe]
  |succ m ih=>
   intro i hi;have nB:i<L.length:=by omega
   have hx:=zdS nB;generalize L[i]=x at hx;have hf:=GD hx;have hle:=N5 (L:=L) (i+1);rw[hf,zdW] at hle;rw[ar];have e2:((L.take i).flatten++List.replicate (L.flatten.length-(L.take i).flatten.length) (0:Int)).take (0+(L.take i).flatten.length)++x++((L.take i).flatten++List.replicate (L.flatten.length-(L.take i).flatten.length) (0:Int)).drop (0+(L.take i).flatten.length+x.length)=(L.take (i+1)).flatten++List.replicate (L.flatten.length-(L.take (i+1)).flatten.length) (0:Int):=by
    rw[zeC,List.take_left,List.drop_append,zfi (by omega),zeN,List.drop_replicate,hf,zdW]
    congr 2
    omega
   simp only[bG,↓xo,xw,oT ((i:Int)<(L.length:Int)),oT ((0:Int)<=(i:Int)),zdO,zdP,hx,zdM,
    ot (show 0+(L.take i).flatten.length+x.length<=((L.take i).flatten++List.replicate (L.flatten.length-(L.take i).flatten.length) (0:Int)).length by rw[zdW,zeG];omega),e2,lG nB hn]
   have:=ih (i+1) (by omega)
   rw[hf,zdW] at this⊢;exact this
 have:=key L.length 0 (by omega)
 simpa using this
theorem JT (L:List (List Int))(hf:L.flatten=[])(hn:L.length<=1000000):ag (bC WX) (((),L,(L.length:Int),0,()),(([]:List Int),()))=some (((),()),([],())):=by
 have key: ∀m i:Nat,i+m=L.length->ag (bC WX) (((),L,(L.length:Int),(i:Int),()),(([]:List Int),()))=some (((),()),([],())):=by
  intro m;induction m with
  |zero=>
   intro i hi;rw[ar];have:i=L.length:=by omega
   subst this;simp only[bC,↓xo,oF ((L.length:Int)<(L.length:Int)),zdN]
  |succ m ih=>
   intro i hi;have nB:i<L.length:=by omega
   have hx:=zdS nB;have hm:=ze0 nB;have h0:L[i]=[]:=List.flatten_eq_nil_iff.1 hf _ hm;rw[h0] at hx;rw[ar];simp only[bC,↓xo,xw,oT ((i:Int)<(L.length:Int)),oT ((0:Int)<=(i:Int)),zdO,zdP,hx,zdM,zfe,zdY,lG nB hn,
    ot (show(((0+0:Nat):Int))*((1:Nat):Int)<=((room:Nat):Int) by unfold room;omega)]
   exact ih (i+1) (by omega)
 exact key L.length 0 (by omega)
theorem concat_nil (L:List (List Int))(hf:L.flatten=[])(hn:L.length<=1000000):ax WX ((L,()),())=some (.inr (((),()),([],()))):=by
 have h3:=GF L (by rw[hf];simp) hn
 have hb:=JT L hf hn;rw[hf] at h3;change _=some ((L,0,()),()) at h3;have hg:eZ WX (((),0,()),())=some (.inr (((),()),[],())):=by kernel_rfl
 simp only[ax,xl,h3,zdM,hg,hb]
theorem vP (L:List (List Int))(hf:L.flatten≠ [])(h:L.flatten.length<=1000000000000)(hn:L.length<=1000000):ax WX ((L,()),())=some (.inl ((L.flatten.length,()),(L.flatten,()))):=by
 have h3:=GF L h hn;have hb:=Mp L hn;have hp:0<L.flatten.length:=List.length_pos_iff.2 hf;generalize hN:L.flatten.length=n at*;have e0:IntKind.wrap .i64 ((n:Int)-IntKind.wrap .i64 (0-0))=(n:Int):=by
  rw[nR (n:=0-0) (by omega) (by omega),nR (by omega) (by omega)];omega
 simp only[ax,xl,h3,zdM,eZ,↓xo,xw,e0,oF ((n:Int)<0),zdN,oT ((n:Int)>0),zdO,zdY,zfl,zeN,zeG,zdP,and_self,iF];have e1:aa ((0:Int)=0/\(0:Int)=0)=true:=ot (by decide)
 have e2:aa ((0:Int)<=(n:Int)/\(0+(n:Int))*((1:Nat):Int)<=((room:Nat):Int))=true:=ot (by unfold room;omega)
 have e3:aa ((0:Int)<=0/\(0:Int)<=0/\(0:Int)<=(n:Int))=true:=ot (by omega)
 have e4:((0:Int)-(0:Int)).toNat=0:=rfl;simp only[e1,e2,e3,zdO,zdM,e4,hb]
theorem FQ (L:List (List Int))(h:L.flatten.length<=1000000000000)(hn:L.length<=1000000):ax WX ((L,()),())=some (.inr (((),()),([],())))/\L.flatten=[]\/ax WX ((L,()),())=some (.inl ((L.flatten.length,()),(L.flatten,()))):=by
 by_cases hf:L.flatten=[]
 ·exact .inl ⟨concat_nil L hf hn,hf⟩
 ·exact .inr (vP L hf h hn)
theorem vQ (b:List Int)(h:b.length<=1000000000000):bh WX ((b,()),())=some (((),()),(b,())):=by
 have hr:aa ((((([]:List Int).length+b.length:Nat):Int))*((1:Nat):Int)<=((room:Nat):Int))=true:=ot (by unfold room;simp only[zdY];omega)
 by_cases h0:b=[]
 ·subst h0
  show some (((),()),([],()))=_
  rfl
 ·have: ¬(b.length:Int)=0:=λe=>h0 (zem (by omega))
  simp only[bh,↓xo,bg this,zdN,hr,zdO,zeN]
def Cg:Option (((List Int)×Unit)×Unit)->Bool|some ((l,_),_)=>Nat.beq l.length 32|none=>false
theorem mF (xs:List Int){n:Nat}(h:xs.length=n): ∃f:Nat->Int,xs=(List.range n).map f:=by
 refine⟨λi=>xs.getD i 0,?_⟩;apply List.ext_getElem?;intro i;by_cases hi:i<n
 ·have hx:i<xs.length:=by omega
  simp[hi,zdS hx]
 ·rw[List.getElem?_eq_none (by omega),List.getElem?_eq_none (by simp;omega)]
theorem En {r:Option (((List Int)×Unit)×Unit)}(h:Cg r=true): ∃ys:List Int,r=some ((ys,()),())/\ys.length=32:=by
 match r with
 |none=>cases h
 |some ((l,()),())=>exact⟨l,rfl,zfm h⟩
def vg (t:Int):mS:=(1,0,t,0,0,0,0,0,0,0,0,0,0,0,gM,())
def sk (tag:List Int):mS:=(2,0,0,0,0,0,0,0,0,0,0,0,0,0,tag,())
theorem Io:((gO WX ((vg 2,()),())).bind λr1=>gh WX (r1.2,()))=some (((),()),([0,2,1,2],())):=by kernel_rfl
theorem Ip:((gO WX ((vg 4,()),())).bind λr1=>gh WX (r1.2,()))=some (((),()),([0,2,1,4],())):=by kernel_rfl
theorem JU:cj WX (((),[0,2,1,2],()),(([],false,()),()))=some (.inr (([[1,2]],()),(([],false,()),()))):=by kernel_rfl
theorem JV:cj WX (((),[0,2,1,4],()),(([],false,()),()))=some (.inr (([[1,4]],()),(([],false,()),()))):=by kernel_rfl
theorem Mq:ff WX (([1,2],()),())=some ((vg 2,true,()),()):=by kernel_rfl
theorem Mr:ff WX (([1,4],()),())=some ((vg 4,true,()),()):=by kernel_rfl
theorem Ms: ∀f:Nat->Int,((gO WX ((sk ((List.range 32).map f),()),())).bind λr1=>gh WX (r1.2,()))=some (((),()),([0,33,2]++(List.range 32).map f,())):=λf=>by kernel_rfl
theorem P1: ∀f:Nat->Int,cj WX (((),[0,33,2]++(List.range 32).map f,()),(([],false,()),()))=some (.inr (([[2]++(List.range 32).map f],()),(([],false,()),()))):=λf=>by kernel_rfl
theorem SA: ∀f:Nat->Int,ff WX (([2]++(List.range 32).map f,()),())=some ((sk ((List.range 32).map f),true,()),()):=λf=>by kernel_rfl
theorem Mt:(((List.replicate 32 (0:Int)).zip (List.replicate 32 (0:Int))).all λp=>WX.yR (.int .u8) p.1 p.2)=true:=by kernel_rfl
theorem qv (a:Int):WX.ak a a=true:=decide_eq_true rfl
section
variable {v:V}
structure Tr (v:V)(n:Nat)(x:oS):Prop where
 lt:n<32
 tr:v.tr[n]?=some x
 Xu:x.2.2.1≠0
theorem qR {n:Nat}(h:n<32):0<=(n:Int)/\(n:Int)<(32:Nat):=by omega
theorem Eo {n:Nat}{x:oS}(h:Tr v n x):bL WX (((),(n:Int),()),((v.tr,()),()))=some ((true,()),((v.tr,()),())):=by
 have hl:=h.lt;simp only[bL,ig,↓xo,oT ((n:Int)>=0),oT ((n:Int)<=31),ot (qR hl),zdO,zdM,zdP,h.tr,bg h.Xu,zdR]
theorem Bw {n:Nat}{x:oS}(h:Tr v n x):bH WX (((),(n:Int),()),((v.tr,()),()))=some ((x,()),((v.tr,()),())):=by
 simp only[bH,Eo h,zdM,zdQ,zdN,↓xo,ot (qR h.lt),zdO,zdP,h.tr]
structure Lk (v:V)(n p:Nat)(k:wU):Prop where
 lt:n<32
 lp:v.lp[n]?=some (p+1)
 L:v.L[p]?=some (k,())
def oB (k:wU)(now:Int):Bool:=decide (k.2.2.1>=k.1/\now<k.2.2.2.1)
theorem qH (k:wU)(now:Int):fy WX (((),now,()),(k,()))=some ((oB k now,()),(k,())):=by
 unfold oB;by_cases h:k.2.2.1>=k.1
 ·by_cases h2:now<k.2.2.2.1
  ·simp only[fy,↓xo,ot h,zdO,ot h2]
   rw[decide_eq_true ⟨h,h2⟩]
  ·simp only[fy,↓xo,ot h,zdO,bg h2]
   rw[decide_eq_false (λq=>h2 q.2)]
 ·simp only[fy,↓xo,bg h,zdN]
  rw[decide_eq_false (λq=>h q.1)]
theorem GG {n p:Nat}{k:wU}(h:Lk v n p k):dA WX (((),(n:Int),()),v.s)=some ((oB k v.now,()),v.s):=by
 have hl:=h.lt;simp only[dA,kH,V.s,↓xo,oT ((n:Int)>=0),oT ((n:Int)<32),ot (qR hl),zdO,zdM,zdP,h.lp,an,h.L,qH,aJ h.L]
def failed (k:wU)(now:Int):wU:=if oB k now then k else
 let w:=if k.2.2.1>=k.1 then 1 else i64.wrap (k.2.2.1+1)
 (k.1,k.2.1,w,(if w=k.1 then i64.wrap (now+k.2.1) else k.2.2.2.1),())
theorem P2 (k:wU)(now:Int):fA WX (((),now,()),(k,()))=some ((),(failed k now,())):=by
 obtain⟨t,l,w,u,_⟩:=k;have e1:i64.wrap (0+1)=1:=by rw[nR (by omega) (by omega)];rfl
 unfold failed;cases hk:oB (t,l,w,u,()) now with
 |true=>simp only[fA,qH,hk,zdM,zdO,if_true]
 |false=>
  by_cases h:w>=t
  ·by_cases h2:(1:Int)=t
   ·simp only[fA,qH,hk,zdM,zdN,↓xo,xw,ot h,zdO,e1,ot h2,zdU,if_false,if_pos h,if_pos h2]
   ·simp only[fA,qH,hk,zdM,zdN,↓xo,xw,ot h,zdO,e1,bg h2,zdU,if_false,if_pos h,if_neg h2]
  ·by_cases h2:i64.wrap (w+1)=t
   ·simp only[fA,qH,hk,zdM,zdN,↓xo,xw,bg h,zdO,ot h2,zdU,if_false,if_neg h,if_pos h2]
   ·simp only[fA,qH,hk,zdM,zdN,↓xo,xw,bg h,bg h2,zdU,if_false,if_neg h,if_neg h2]
theorem VP {n:Nat}{x:oS}(h:Tr v n x)(k:Int)(hk:k=3\/k=4\/k=5):dH WX (((),(k,0,(n:Int),C0,()),()),v.s)=some ((true,()),v.s):=by
 have e1: ¬k=1:=by omega
 have e2: ¬k=2:=by omega
 simp only[dH,V.s,↓xo,bg e1,zdN,eq_self,iF,zdQ,Eo h,zdM,bg e2,oT (k>=1),oT (k<=5),zdO,qv,Mt,ze9]
theorem P3 (n:Int)(h1:1<=n)(h2:n<=1099511627776-v.now)(h3:0<=v.now)(h4:v.now<=1099511627776):dH WX (((),(1,n,0,C0,()),()),v.s)=some ((true,()),v.s):=by
 have e:i64.wrap (1099511627776-v.now)=1099511627776-v.now:=nR (by omega) (by omega)
 simp only[dH,V.s,↓xo,xw,eq_self,iF,zdO,oT (n>=1),e,ot h2,qv,Mt,ze9]
theorem SC {n p:Nat}{x:oS}{k:wU}(h:Tr v n x)(hk:Lk v n p k)(hn:oB k v.now=false):cn WX (((),(4,0,(n:Int),C0,()),()),v.s)=some (.inl (((),0,()),(v.cfg,v.now,(),v.ph,v.mp,(),v.bp,v.lp,()),(v.tr,()),(v.op,v.ps,()),[],v.M,v.L.set p ((k.1,k.2.1,0,0,()),()),v.B,())):=by
 have hf:=VP h 4 (.inr (.inl rfl));have hl:=GG hk;have e1: ¬(4:Int)=1:=by omega
 have e2: ¬(4:Int)=3:=by omega
 simp only[cn,hf,zdM,zdQ,zdN,↓xo,bg e1,bg e2,eq_self,iF,zdO,hl,hn,ot (qR h.lt)];simp only[V.s,zdP,hk.lp,zdM,an,hk.L,gz]
theorem VQ (n:Int)(h1:1<=n)(h2:n<=1099511627776-v.now)(h3:0<=v.now)(h4:v.now<=1099511627776):cn WX (((),(1,n,0,C0,()),()),v.s)=some (.inl (((),0,()),(v.cfg,v.now+n,(),v.ph,v.mp,(),v.bp,v.lp,()),(v.tr,()),(v.op,v.ps,()),[],v.M,v.L,v.B,())):=by
 have hf:=P3 n h1 h2 h3 h4;have e:i64.wrap (v.now+n)=v.now+n:=nR (by omega) (by omega)
 simp only[cn,hf,zdM,zdQ,zdN,↓xo,xw,eq_self,iF,zdO];simp only[V.s,e]
end
theorem N6 {k n:Int}(hk:k=3\/k=4\/k=5)(h0:0<=n)(h1:n<32):gA WX (((k,0,n,C0,()),()),())=some ((true,()),()):=by
 have e1: ¬k=1:=by omega
 have e2: ¬k=2:=by omega
 rcases hk with rfl|rfl|rfl
 ·simp only[gA,↓xo,oT (n>=0),bg e1,bg e2,eq_self,iF,ot h1,zdO,zdN,qv,Mt,ze9]
 ·have e3: ¬(4:Int)=3:=by omega
  simp only[gA,↓xo,oT (n>=0),bg e1,bg e2,bg e3,eq_self,iF,ot h1,zdO,zdN,qv,Mt,ze9]
 ·have e3: ¬(5:Int)=3:=by omega
  have e4: ¬(5:Int)=4:=by omega
  simp only[gA,↓xo,oT (n>=0),bg e1,bg e2,bg e3,bg e4,eq_self,iF,ot h1,zdO,zdN,qv,Mt,ze9]
theorem VR {n:Int}(h0:1<=n)(h1:n<=1099511627776):gA WX (((1,n,0,C0,()),()),())=some ((true,()),()):=by
 have e0:((0:Int)>=0):=by omega
 simp only[gA,↓xo,ot e0,oT (n>0),ot h1,eq_self,iF,zdO,qv,Mt,ze9]
theorem VS (k N n:Int): ∃bs:List Int,hZ WX (((k,N,n,C0,()),()),())=some (((),()),(bs,()))/\bs.length=10:=by
 have h:(match hZ WX (((k,N,n,C0,()),()),()) with|some (_,(bs,_))=>Nat.beq bs.length 10|none=>false)=true:=by kernel_rfl
 revert h;match hZ WX (((k,N,n,C0,()),()),()) with
 |none=>intro h;cases h
 |some (((),()),(bs,()))=>intro h;exact⟨bs,rfl,zfm h⟩
theorem zbr: ∀f g:Nat->Int,Cg (jt WX (((List.range 32).map f,(List.range 10).map g,()),()))=true:=λf g=>by kernel_rfl
theorem VU {a b:List Int}(ha:a.length=32)(hb:b.length=10): ∃c:List Int,jt WX ((a,b,()),())=some ((c,()),())/\c.length=32:=by
 obtain⟨f,rfl⟩:=mF a ha;obtain⟨g,rfl⟩:=mF b hb;exact En (zbr f g)
theorem Zm: ∃u:List Int,lz WX (([],WX.wr .u32 10,()),())=some (((),()),(u,()))/\u.length=4:=by
 have h:(match lz WX (([],WX.wr .u32 10,()),()) with|some (_,(bs,_))=>Nat.beq bs.length 4|none=>false)=true:=by kernel_rfl
 revert h;match lz WX (([],WX.wr .u32 10,()),()) with
 |none=>intro h;cases h
 |some (((),()),(bs,()))=>intro h;exact⟨bs,rfl,zfm h⟩
def yO (lg:GC)(n:Nat):Prop:=lg.1.length=n/\lg.2.1.length=32
theorem Iq {lg:GC}{m:Nat}{k N n:Int}(h:yO lg m)(hm:m<=100000000000)(hr:gA WX (((k,N,n,C0,()),()),())=some ((true,()),())):
  ∃wW,gf WX (((),(k,N,n,C0,()),()),(lg,()))=some ((true,()),(wW,()))/\yO wW (m+46):=by
 obtain⟨b,c,ct,u⟩:=lg;obtain⟨hb,hc⟩:=h;simp only at hb hc;obtain⟨bs,h1,h2⟩:=VS k N n;obtain⟨c',h3,h4⟩:=VU hc h2;obtain⟨w,h5,h6⟩:=Zm;have e0:(0:Int)<=0/\(0:Int)<=((32:Nat):Int)/\((32:Nat):Int)<=(32:Nat):=by omega
 have e1:((bs.length:Nat):Int)=10:=by omega
 have e2:(c'.drop 0).take ((((32:Nat):Int)-(0:Int)).toNat)=c':=by
  rw[zfn,zen];rw[h4];decide
 have hf: [b,w,bs,c'].flatten.length=b.length+46:=by simp;omega
 have hc:=vP [b,w,bs,c'] (λe=>by rw[e] at hf;simp at hf) (by omega) (by simp)
 simp only[gf,hr,zdM,zdQ,zdN,h1,h3,e1,h5,↓xo,ot e0,zdO,e2,hc,ze4];exact⟨_,rfl,by rw[hf];omega,h4⟩
theorem tM {mt:List LZ}(h:mt.length=4){i:Nat}(hi:i<4): ∃rA r,aT WX (((),(i:Int),1,()),((mt,()),()))=some ((r,()),((rA,()),()))/\rA.length=4:=by
 have hx:=zdS (l:=mt) (i:=i) (by omega)
 have e1: ¬(1:Int)<0:=by omega
 have e2: ¬(1:Int)>4294967296:=by omega
 simp only[aT,↓xo,oF ((i:Int)<0),oF ((i:Int)>=4),bg e1,bg e2,zdN,oT (0<=(i:Int)/\(i:Int)<(4:Nat)),zdO,zdP,hx,zdM];exact⟨_,_,rfl,by rw[zeq];exact h⟩
def NB (n:mf)(bs:List Int):Prop:=(∃x,mM WX ((n,()),())=some (.inl x)/\gh WX (x.2,())=some (((),()),(bs,())))\/(∃x,mM WX ((n,()),())=some (.inr x)/\gh WX x=some (((),()),(bs,())))
noncomputable def nbF (n:mf):Option (List Int):=(mM WX ((n,()),())).bind λr=>match r with| .inl x=>(gh WX (x.2,())).map (·.2.1)| .inr x=>(gh WX x).map (·.2.1)
theorem Ch {n:mf}{k:Nat}(h:((nbF n).map λl=>Nat.beq l.length k)=some true): ∃bs,NB n bs/\bs.length=k:=by
 unfold nbF at h;cases e:mM WX ((n,()),()) with
 |none=>rw[e] at h;cases h
 |some r=>
  rw[e] at h;cases r with
  |inl x=>
   simp only[zdM] at h;cases e2:gh WX (x.2,()) with
   |none=>rw[e2] at h;cases h
   |some y=>
    rw[e2] at h;obtain⟨⟨⟨⟩,⟨⟩⟩,bs,⟨⟩⟩:=y;simp only[zd2,zdT] at h;exact⟨bs, .inl ⟨x,e,e2⟩,zfm h⟩
  |inr x=>
   simp only[zdM] at h;cases e2:gh WX x with
   |none=>rw[e2] at h;cases h
   |some y=>
    rw[e2] at h;obtain⟨⟨⟨⟩,⟨⟩⟩,bs,⟨⟩⟩:=y;simp only[zd2,zdT] at h;exact⟨bs, .inr ⟨x,e,e2⟩,zfm h⟩
theorem Ay {nc:List Int}(h:nc.length=32): ∃bs,NB (1,0,0,0,0,0,0,0,0,0,nc,()) bs/\bs.length=35:=by
 obtain⟨f,rfl⟩:=mF nc h;have: ∀f:Nat->Int,((nbF (1,0,0,0,0,0,0,0,0,0,(List.range 32).map f,())).map λl=>Nat.beq l.length 35)=some true:=λf=>by kernel_rfl
 exact Ch (this f)
theorem P4 (er sq:Int): ∃bs,NB (4,er,sq,0,0,0,0,0,0,0,gM,()) bs/\bs.length=8:=Ch (by kernel_rfl)
theorem Ep: ∃bs,NB (2,0,0,0,0,0,0,0,0,0,gM,()) bs/\bs.length=3:=Ch (by kernel_rfl)
theorem Zn (sq:Int): ∃bs,NB (3,0,sq,0,0,0,0,0,0,0,gM,()) bs/\bs.length=7:=Ch (by kernel_rfl)
section
variable {v:V}{i f o:Nat}{s:wV}{fr:(List Int)×Bool×Unit}{ob:List Int}
theorem VV {bs:List Int}(hp:bs≠ [])(h:ob.length+bs.length<=4096):gE WX (((),bs,()),((ob,false,()),()))=some ((true,()),((ob++bs,false,()),())):=by
 have e:i64.wrap (4096-(ob.length:Int))=4096-(ob.length:Int):=nR (by omega) (by omega)
 have vC: [ob,bs].flatten=ob++bs:=by simp
 have hc:=vP [ob,bs] (by rw[vC];simp[hp]) (by rw[vC,zdW];omega) (by simp)
 simp only[gE,zdN,↓xo,xw,e,oF ((bs.length:Int)>4096-(ob.length:Int)),hc,zdM,vC,ze4]
theorem SD (h:mT v i f o s fr (ob,false,())){n:mf}{bs:List Int}(hb:NB n bs)(hp:bs≠ [])(hl:ob.length+bs.length<=4096):
  cd WX (((),(i:Int),n,()),v.e)=some ((),{v with O:=v.O.set o ((ob++bs,false,()),())}.e):=by
 have hpu:=VV hp hl;rcases hb with⟨x,h1,h2⟩|⟨x,h1,h2⟩
 ·simp only[cd,V.e,↓xo,ot (lr h.lt),zdO,zdP,h.c,zdM,h1,h2,an,h.O,hpu]
 ·simp only[cd,V.e,↓xo,ot (lr h.lt),zdO,zdP,h.c,zdM,h1,h2,an,h.O,hpu]
end
section
variable {v:V}
theorem SE {r:Ia}{er Zo:Int}{L':List tv}{wW:GC}{rA:List LZ}{b c}
  (h1:cn WX (((),r,()),v.s)=some (.inl (((),er,()),(v.cfg,Zo,(),v.ph,v.mp,(),v.bp,v.lp,()),(v.tr,()),(v.op,v.ps,()),[],v.M,L',v.B,())))
  (h2:gf WX (((),r,()),(v.lg,()))=some (b,(wW,()))) (h3:aT WX (((),1,1,()),((v.mt,()),()))=some (c,((rA,()),()))):
  bU WX (((),r,()),v.e)=some ((er,()),{v with now:=Zo,L:=L',lg:=wW,mt:=rA}.e):=by
 have hl: ∀X,ag (bV WX) (((),er,[],0,0,()),X)=some ((er,()),X):=λX=>by
  have e0: ¬(0:Int)<0:=by omega
  rw[ar];simp only[bV,↓xo,bg e0,zdN]
 simp only[V.s] at h1;simp only[bU,V.e,h1,h2,h3,zdM,↓xl,zdY,zfl,hl]
def SF (v:V)(n:Nat)(x:oS):Prop:= ∀i,i<16->∃f o s fr ou,mT v i f o s fr ou/\(s.1=3->∃(m:Nat) (y:oS),s.2.1=(m:Int)/\m≠n/\Tr v m y/\y.1≠x.1)
theorem Zp {n p:Nat}{x:oS}{k:wU}(h:Tr v n x)(hk:Lk v n p k)(hl:oB k v.now=false)(nV:x.2.2.2.2.1=false)(ha:SF v n x)(hq:1<=v.cfg.2.2.2.2.2.2.2.1):eO WX (((),(n:Int),()),v.e)=some ((0,()),v.e):=by
 have h1:=Eo h;have h2:=GG hk;have h3:=Bw h;simp only[V.s] at h2;have key: ∀m i:Nat,i+m=16->ag (bD WX) (((),(n:Int),(),0,v.c,(i:Int),()),v.e)=some (.inr (((),0,()),v.e)):=by
  intro m;induction m with
  |zero=>
   intro i hi;rw[ar];simp only[bD,↓xo,oF ((i:Int)<16),zdN]
  |succ m ih=>
   intro i hi;obtain⟨f,o,s,fr,ou,hc,hf⟩:=ha i (by omega)
   rw[ar];have e1:i64.wrap ((i:Int)+1)=((i+1:Nat):Int):=by rw[nR (by omega) (by omega)];omega
   have qP:=ih (i+1) (by omega)
   simp only[V.e] at qP;by_cases h0:s.1=3
   ·obtain⟨m',y,g1,g2,g3,g4⟩:=hf h0
    have e2: ¬s.1=2:=by omega
    have e3: ¬(m':Int)=(n:Int):=by omega
    have h4:=Bw g3;simp only[bD,V.e,↓xo,xw,oT ((i:Int)<16),ot (lr hc.lt),zdO,zdM,zdP,hc.c,an,hc.S,aj,ot h0,zdQ,zdN,aJ hc.S,e1,aA,bg e2,g1,bg e3,h3,h4,bg g4,qP]
   ·simp only[bD,V.e,↓xo,xw,oT ((i:Int)<16),ot (lr hc.lt),zdO,zdM,zdP,hc.c,an,hc.S,aj,bg h0,zdR,aJ hc.S,e1,qP]
 have JW:=key 16 0 (by omega)
 simp only[V.e] at JW;change ag (bD WX) (((),(n:Int),(),0,v.c,0,()),_)=_ at JW;simp only[eO,V.e,c8,zdM,h1,zdQ,zdN,h2,hl,h3,nV,↓xl,JW,dS,↓xo,oF ((0:Int)>=v.cfg.2.2.2.2.2.2.2.1)]
variable {i f o:Nat}{s:wV}{fr:(List Int)×Bool×Unit}{ou:(List Int)×Bool×Unit}{ob:List Int}
def s0:wV:=(0,0,gM,0,0,())
theorem Zq (h:mT v i f o s fr ou)(hm:v.mt.length=4):
  ∃rA,bI WX (((),(i:Int),()),v.e)=some ((),{v with c:=v.c.set i (i+1,v.F.length+1,o+1,()),mt:=rA,S:=v.S.set i (s0,()),F:=v.F++ [(([],false,()),())]}.e)/\rA.length=4:=by
 obtain⟨rA,r,h3,h4⟩:=tM hm (i:=3) (by omega)
 change aT WX (((),3,1,()),_)=_ at h3;refine⟨rA,?_,h4⟩;simp only[bI,V.e,↓xo,ot (lr h.lt),zdO,zdP,h.c,zdM,an,h.S,cH,gY,h3,s0]
end
def SG (key rB tag:List Int):Prop:= ∃r1 r2,nh WX ((key,()),())=some r1/\dU WX (((),rB,()),r1.2)=some r2/\r2.1=(tag,())
noncomputable def zbs (key rB:List Int):Option Bool:=(nh WX ((key,()),())).bind λr1=>(dU WX (((),rB,()),r1.2)).map λr2=>Nat.beq r2.1.1.length 32
theorem zdg: ∀f g:Nat->Int,zbs ((List.range 32).map f) ((List.range 32).map g)=some true:=λf g=>by kernel_rfl
theorem Mu {key rB:List Int}(hk:key.length=32)(hn:rB.length=32): ∃tag,SG key rB tag/\tag.length=32:=by
 obtain⟨f,rfl⟩:=mF key hk;obtain⟨g,rfl⟩:=mF rB hn;have h:=zdg f g;unfold zbs at h;cases e1:nh WX (((List.range 32).map f,()),()) with
 |none=>rw[e1] at h;cases h
 |some r1=>
  rw[e1,zdM] at h;cases e2:dU WX (((),(List.range 32).map g,()),r1.2) with
  |none=>rw[e2] at h;cases h
  |some r2=>
   rw[e2,zd2,zdT] at h;exact⟨r2.1.1,⟨r1,r2,e1,e2,rfl⟩,zfm h⟩
def bv (x:Int):BitVec 8:=BitVec.ofInt 8 x
theorem wu8 (p:BitVec 8):IntKind.wrap .u8 (p.toNat:Int)=(p.toNat:Int):=by
 have:=p.isLt;rw[IntKind.wrap_u8];omega
theorem Mv (p:BitVec 8):bv (p.toNat:Int)=p:=by
 unfold bv;apply BitVec.eq_of_toNat_eq;have:=p.isLt;rw[BitVec.toNat_ofInt];omega
theorem SH (x y:Int):WX.py .u8 x y=(((bv x^^^bv y).toNat:Nat):Int):=wu8 _
theorem zbt (p q:BitVec 8):WX.AO .u8 (p.toNat:Int) (q.toNat:Int)=(((p|||q).toNat:Nat):Int):=by
 show IntKind.wrap .u8 ((((bv (p.toNat:Int))|||(bv (q.toNat:Int))).toNat:Nat):Int)=_
 rw[Mv,Mv,wu8]
theorem zt (a b:List Int)(ha:a.length=32)(hb:b.length=32): ∀n i:Nat,i+n=32->∀acc:BitVec 8,∃CO:BitVec 8,ag (gP WX) (((),(),(acc.toNat:Int),(i:Int),()),a,b,())=some ((((CO.toNat:Nat):Int),()),a,b,())/\(acc≠0#8->CO≠0#8)/\
  (acc=0#8->(∀j,i<=j->a[j]?=b[j]?)->CO=0#8)/\(∀x y,i<32->a[i]?=some x->b[i]?=some y->bv x^^^bv y≠0#8->CO≠0#8):=by
 intro n;induction n with
 |zero=>
  intro i hi acc;refine⟨acc,?_,λh=>h,λh _=>h,λx y h=>by omega⟩
  rw[ar];simp only[gP,↓xo,oF ((i:Int)<32),zdN]
 |succ n ih=>
  intro i hi acc;have hx:=zdS (l:=a) (i:=i) (by omega)
  have hy:=zdS (l:=b) (i:=i) (by omega)
  generalize a[i]=x at hx;generalize b[i]=y at hy;obtain⟨CO,h1,h2,h3,h4⟩:=ih (i+1) (by omega) (acc|||(bv x^^^bv y))
  have e1:i64.wrap ((i:Int)+1)=((i+1:Nat):Int):=by rw[nR (by omega) (by omega)];omega
  refine⟨CO,?_,λh=>h2 λe=>h (BitVec.or_eq_zero_iff.1 e).1,λh hj=>?_,λx' y' _ BS Z9 lV=>?_⟩
  ·rw[ar]
   simp only[gP,↓xo,xw,oT ((i:Int)<32),ot (qR (show i<32 by omega)),zdO,zdP,hx,hy,zdM,SH,zbt,e1]
   exact h1
  ·have:x=y:=by have:=hj i (zd9 _);rw[hx,hy] at this;simpa using this
   subst this;rw[h,BitVec.xor_self] at h3;exact h3 (by rfl) λj BU=>hj j (by omega)
  ·rw[hx] at BS;rw[hy] at Z9
   cases BS;cases Z9;exact h2 λe=>lV (BitVec.or_eq_zero_iff.1 e).2
theorem Mw {t:List Int}(h:t.length=32):jV WX ((t,t,()),())=some ((true,()),()):=by
 obtain⟨CO,h1,_,h3,_⟩:=zt t t h h 32 0 (by omega) 0#8
 have:=h3 rfl λ_ _=>rfl;subst this;change ag (gP WX) (((),(),0,0,()),t,t,())=some ((0,()),t,t,()) at h1;simp only[jV,↓xl,h1,zdM,↓xo,eq_self,iF]
theorem Mx {t:List Int}{x:Int}(h:t.length=32)(hx:t[0]?=some x):jV WX ((t.set 0 (WX.py .u8 x 1),t,()),())=some ((false,()),()):=by
 obtain⟨CO,h1,_,_,h4⟩:=zt (t.set 0 (WX.py .u8 x 1)) t (by rw[zeq];exact h) h 32 0 (by omega) 0#8
 have:=h4 (WX.py .u8 x 1) x (by omega) (by rw[zfj];simp[h]) hx (by
  rw[SH,Mv];have:bv 1=1#8:=by decide
  rw[this,BitVec.xor_comm (bv x) 1#8,BitVec.xor_assoc,BitVec.xor_self,BitVec.xor_zero];decide)
 change ag (gP WX) (((),(),0,0,()),_,_,())=_ at h1;have lV: ¬(((CO.toNat:Nat):Int))=0:=λe=>this (BitVec.eq_of_toNat_eq (by
  have:CO.toNat=0:=by omega
  rw[this];rfl))
 simp only[jV,↓xl,h1,zdM,↓xo,bg lV]
theorem pt {l:List Int}(h:l.length=32):(l.drop 0).take ((((32:Nat):Int)-(0:Int)).toNat)=l:=by
 rw[zfn,zen];rw[h];decide
theorem SJ {key rB tag FR:List Int}{b:Bool}(hk:key.length=32)(hn:rB.length=32)(hm:SG key rB tag)(he:jV WX ((FR,tag,()),())=some ((b,()),()))(tr nx sn now:Int):
  ef WX (((),key,FR,now,()),((2,tr,rB,nx,sn,()),()))=some ((b,()),((if b then(3,tr,gM,1,now,()) else s0),())):=by
 obtain⟨r1,r2,h1,h2,h3⟩:=hm;have e0:(0:Int)<=0/\(0:Int)<=((32:Nat):Int)/\((32:Nat):Int)<=(32:Nat):=by omega
 cases b with
 |true=>simp only[ef,↓xo,eq_self,iF,zdQ,zdN,ot e0,zdO,pt hk,pt hn,h1,h2,h3,he,zdM,if_true]
 |false=>simp only[ef,↓xo,eq_self,iF,zdQ,zdR,zdN,ot e0,zdO,pt hk,pt hn,h1,h2,h3,he,zdM,cH,zdU,if_false,s0]
section
variable {v:V}{i f o:Nat}{s:wV}{fr ou:(List Int)×Bool×Unit}
theorem GH (h:mT v i f o s fr ou)(hs:s.1≠0){bs x:List Int}{wD:(List Int)×Bool×Unit}(hf:cj WX (((),bs,()),(fr,()))=some (.inr (([x],()),(wD,()))))(hm:v.mt.length=4)
  {Q:V->Prop} (hb: ∀rA,rA.length=4->∃v2,c9 WX (((),(i:Int),x,()),{v with F:=v.F.set f (wD,()),mt:=rA}.e)=some ((),v2.e)/\Fit v2/\(∃f2 o2 s2 Uw VW,mT v2 i f2 o2 s2 Uw VW/\Uw.2.1=false)/\Q v2):
  ∃v2,cR WX (((),(i:Int),bs,()),v.e)=some ((),v2.e)/\Q v2:=by
 obtain⟨rA,r,h3,h4⟩:=tM hm (i:=0) (by omega)
 change aT WX (((),0,1,()),_)=_ at h3;obtain⟨v2,b1,b2,⟨f2,o2,s2,Uw,VW,b3,b4⟩,b5⟩:=hb rA h4;refine⟨v2,?_,b5⟩;have Ir:mT {v with F:=v.F.set f (wD,())} i f o s wD ou:=⟨h.lt,h.c,h.S,by
  have:=(List.getElem?_eq_some_iff.1 h.F).1;show(v.F.set f (wD,()))[f]?=_
  rw[zfj];simp[this],h.O⟩
 have hA:=Sy Ir;have hS:=P0 b2;have e0:(0:Int)<1:=by omega
 have e1:(0:Int)<=0:=by omega
 have e2:i64.wrap (0+1)=1:=by rw[nR (by omega) (by omega)];rfl
 have e3: ¬(1:Int)<1:=by omega
 have e4:([x]:List (List Int))[(0:Int).toNat]?=some x:=rfl;simp only[V.e] at hA b1 hS h3;have hl:ag (bP WX) (((),(i:Int),[x],1,0,()),{v with F:=v.F.set f (wD,())}.e)=some (((),(i:Int),()),v2.e):=by
  rw[ar];simp only[bP,V.e,↓xo,xw,ot e0,ot e1,zdO,e4,zdM,hA,bg hs,zdN,h3,b1,hS,e2];rw[ar];simp only[bP,↓xo,bg e3,zdN]
 simp only[V.e] at hl;simp only[cR,V.e,↓xo,ot (lr h.lt),zdO,zdP,h.c,zdM,an,h.F,hf,zdX,zdY,zeC,Int.natCast_one,↓xl,hl,b3.c,b3.F,eE,b4,zdN,aJ b3.F]
theorem JX (h:mT v i f o s fr ou)(hs:s.1≠0){bs:List Int}{Q:V->Prop}(hb: ∃v2,cR WX (((),(i:Int),bs,()),v.e)=some ((),v2.e)/\Q v2):
  ∃v2,aI WX (((),(2,(i:Int),0,gM,bs,()),()),v.e)=some ((true,()),v2.e)/\Q v2:=by
 obtain⟨v2,b1,b2⟩:=hb;refine⟨v2,?_,b2⟩;have hl:=h.lt;have e1: ¬(2:Int)=4:=by omega
 have e2: ¬(2:Int)=1:=by omega
 simp only[V.e] at b1;simp only[aI,fh,V.e,↓xo,bg e1,bg e2,zdN,oT ((i:Int)>=0),oT ((i:Int)<16),ot (lr hl),zdO,zdM,zdQ,eq_self,iF,zdP,h.c,an,h.S,aj,bg hs,aJ h.S,b1]
theorem Er (h:mT v i f o s fr ou)(hs:s.1=0)(nc:List Int):
  aI WX (((),(1,(i:Int),0,nc,[],()),()),v.e)=some ((true,()),{v with c:=v.c.set i (i+1,v.F.length+1,v.O.length+1,()),S:=v.S.set i ((1,0,nc,0,v.now,()),()),F:=v.F++ [(([],false,()),())],O:=v.O++ [(([],false,()),())]}.e):=by
 have hl:=h.lt;have e1: ¬(1:Int)=4:=by omega
 have hc:i<v.c.length:=(List.getElem?_eq_some_iff.1 h.c).1;have e3:(v.c.set i (i+1,v.F.length+1,o+1,()))[i]?=some (i+1,v.F.length+1,o+1,()):=by rw[zfj];simp[hc]
 simp only[aI,fh,V.e,↓xo,bg e1,zdN,oT ((i:Int)>=0),oT ((i:Int)<16),ot (lr hl),zdO,zdM,zdQ,eq_self,iF,zdP,h.c,an,h.S,bd,dT,ot hs,gY,mj,e3,zfo]
theorem mT.other {j f' o':Nat}{s':wV}{wD Is:(List Int)×Bool×Unit}(h:mT v j f' o' s' wD Is)(hij:j≠i)(c':Nat×Nat×Nat×Unit)(s2:Ar)(F':List xe):mT {v with c:=v.c.set i c',S:=v.S.set i s2,F:=v.F++F'} j f' o' s' wD Is:=by
 refine⟨h.lt,?_,?_,?_,h.O⟩
 ·show(v.c.set i c')[j]?=_
  rw[zer (Ne.symm hij)];exact h.c
 ·show(v.S.set i s2)[j]?=_
  rw[zer (Ne.symm hij)];exact h.S
 ·show(v.F++F')[f']?=_
  rw[zeD (List.getElem?_eq_some_iff.1 h.F).1];exact h.F
end
section
variable {v:V}{i f o:Nat}{s:wV}{fr ou:(List Int)×Bool×Unit}
theorem Az {v':V}(hc:v'.c=v.c)(hS:v'.S=v.S)(hF:v'.F=v.F)(hO:v'.O=v.O)(h:Fit v):Fit v':=λi hi=>by
 obtain⟨f,o,s,fr,ou,h1,h2⟩:=h i hi;exact⟨f,o,s,fr,ou,⟨h1.lt,by rw[hc];exact h1.c,by rw[hS];exact h1.S,by rw[hF];exact h1.F,by rw[hO];exact h1.O⟩,h2⟩
theorem ko {β:Type}{l:List β}{n:Nat}{x y:β}(h:l[n]?=some x):(l.set n y)[n]?=some y:=by
 have:=(List.getElem?_eq_some_iff.1 h).1;rw[zfj];simp[this]
theorem kL {β:Type}{l:List β}{n m:Nat}{y:β}(h:m≠n):(l.set n y)[m]?=l[m]?:=zer (Ne.symm h)
theorem mT.out (h:mT v i f o s fr ou)(Is:(List Int)×Bool×Unit):mT {v with O:=v.O.set o (Is,())} i f o s fr Is:=⟨h.lt,h.c,h.S,h.F,ko h.O⟩
theorem mT.jk (h:mT v i f o s fr ou)(s':wV):mT {v with S:=v.S.set i (s',())} i f o s' fr ou:=⟨h.lt,h.c,ko h.S,h.F,h.O⟩
theorem N7 (h:Fit v)(x:List Int)(o:Nat):Fit {v with O:=v.O.set o ((x,false,()),())}:=λj hj=>by
 obtain⟨f,o',s,fr,ou,h1,h2⟩:=h j hj;by_cases e:o'=o
 ·subst e
  exact⟨f,o',s,fr,_,⟨h1.lt,h1.c,h1.S,h1.F,ko h1.O⟩,λ_=>rfl⟩
 ·exact⟨f,o',s,fr,ou,⟨h1.lt,h1.c,h1.S,h1.F,by show(v.O.set o _)[o']?=_;rw[kL e];exact h1.O⟩,h2⟩
theorem GI (h:Fit v)(x:xe)(f:Nat):Fit {v with F:=v.F.set f x}:=λj hj=>by
 obtain⟨f',o,s,fr,ou,h1,h2⟩:=h j hj;by_cases e:f'=f
 ·subst e
  exact⟨f',o,s,x.1,ou,⟨h1.lt,h1.c,h1.S,ko h1.F,h1.O⟩,h2⟩
 ·exact⟨f',o,s,fr,ou,⟨h1.lt,h1.c,h1.S,by show(v.F.set f _)[f']?=_;rw[kL e];exact h1.F,h1.O⟩,h2⟩
theorem N8 (h:Fit v)(hc:mT v i f o s fr ou)(s':wV)(hs:s'.1≠0->ou.2.1=false):Fit {v with S:=v.S.set i (s',())}:=λj hj=>by
 by_cases e:j=i
 ·subst e
  exact⟨f,o,s',fr,ou,hc.jk s',hs⟩
 ·obtain⟨f',o',s2,wD,Is,h1,h2⟩:=h j hj
  exact⟨f',o',s2,wD,Is,⟨h1.lt,h1.c,by show(v.S.set i _)[j]?=_;rw[kL e];exact h1.S,h1.F,h1.O⟩,h2⟩
theorem SK (h:Fit v)(hc:mT v i f o s fr ou){F':List xe}{O':List Bm}{f' o':Nat}{wD Is:(List Int)×Bool×Unit}{s':wV}(hF:(v.F++F')[f']?=some (wD,()))(hO:(v.O++O')[o']?=some (Is,()))(hs:s'.1≠0->Is.2.1=false):
  Fit {v with c:=v.c.set i (i+1,f'+1,o'+1,()),S:=v.S.set i (s',()),F:=v.F++F',O:=v.O++O'}:=λj hj=>by
 by_cases e:j=i
 ·subst e
  exact⟨f',o',s',wD,Is,⟨hc.lt,ko hc.c,ko hc.S,hF,hO⟩,hs⟩
 ·obtain⟨f2,o2,s2,Uw,VW,h1,h2⟩:=h j hj
  refine⟨f2,o2,s2,Uw,VW,⟨h1.lt,?_,?_,?_,?_⟩,h2⟩
  ·show(v.c.set i _)[j]?=_;rw[kL e];exact h1.c
  ·show(v.S.set i _)[j]?=_;rw[kL e];exact h1.S
  ·show(v.F++F')[f2]?=_;rw[zeD (List.getElem?_eq_some_iff.1 h1.F).1];exact h1.F
  ·show(v.O++O')[o2]?=_;rw[zeD (List.getElem?_eq_some_iff.1 h1.O).1];exact h1.O
theorem VX {ob:List Int}{tr nx sn n:Int}{nc x:List Int}(h:mT v i f o (1,tr,nc,nx,sn,()) fr (ob,false,()))(hn:nc.length=32)(hl:ob.length+35<=4096)(hg:ff WX ((x,()),())=some ((vg n,true,()),())):
  ∃bs,c9 WX (((),(i:Int),x,()),v.e)=some ((),{v with S:=v.S.set i ((2,n,nc,nx,v.now,()),()),O:=v.O.set o ((ob++bs,false,()),())}.e)/\bs.length=35:=by
 obtain⟨bs,h1,h2⟩:=Ay hn;refine⟨bs,?_,h2⟩;have h3:=SD (h.jk (2,n,nc,nx,v.now,())) h1 (by intro e;rw[e] at h2;cases h2) (by omega)
 simp only[V.e] at h3;have e1: ¬(2:Int)=1:=by omega
 have hs:=ko (y:=((2,n,nc,nx,v.now,()),())) h.S;have hk:vg n=(1,0,n,0,0,0,0,0,0,0,0,0,0,0,gM,()):=rfl;rw[hk] at hg;simp only[c9,V.e,↓xo,ot (lr h.lt),zdO,zdP,h.c,zdM,hg,zdQ,zdN,eq_self,iF,bd,an,h.S,eK,hs,fa,bg e1,zfo,h3]
theorem JY {ob:List Int}{nx sn:Int}{n p m:Nat}{nc tag:List Int}{x:oS}{k:wU}(h:mT v i f o (2,(n:Int),nc,nx,sn,()) fr (ob,false,()))(ht:Tr v n x)(hk:Lk v n p k)(hlk:oB k v.now=false)(nV:x.2.2.2.2.1=false)(yA:x.2.2.2.2.2.1.length=32)(hn:nc.length=32)(ha:SF v n x)(hq:1<=v.cfg.2.2.2.2.2.2.2.1)
  (Zr:SG x.2.2.2.2.2.1 nc tag) (IU:tag.length=32) (hm:v.mt.length=4) (hl:ob.length+8<=4096) (Zs:yO v.lg m) (hmm:m<=100000000000):
  ∃bs rA wW,cO WX (((),(i:Int),tag,()),v.e)=some ((),{v with mt:=rA,S:=v.S.set i ((3,(n:Int),gM,1,v.now,()),()),O:=v.O.set o ((ob++bs,false,()),()),L:=v.L.set p ((k.1,k.2.1,0,0,()),()),lg:=wW}.e)/\rA.length=4/\bs.length=3/\yO wW (m+46):=by
 have lT:=Zp ht hk hlk nV ha hq;have htr:=Bw ht;have JZ:=SJ yA hn Zr (Mw IU) (n:Int) nx sn v.now;have hdo:=SC ht hk hlk;obtain⟨wW,g1,g2⟩:=Iq Zs hmm (N6 (k:=4) (n:=(n:Int)) (.inr (.inl rfl)) (by omega) (by have:=ht.lt;omega))
 obtain⟨mt1,r1,g3,g4⟩:=tM hm (i:=1) (by omega)
 change aT WX (((),1,1,()),_)=_ at g3;have zbu:=SE (v:={v with S:=v.S.set i ((3,(n:Int),gM,1,v.now,()),())}) (r:=(4,0,(n:Int),C0,())) hdo g1 g3;obtain⟨bs,h1,h2⟩:=Ep;have h3:=SD (v:={v with S:=v.S.set i ((3,(n:Int),gM,1,v.now,()),()),L:=v.L.set p ((k.1,k.2.1,0,0,()),()),lg:=wW,mt:=mt1}) (i:=i) (f:=f) (o:=o) (s:=(3,(n:Int),gM,1,v.now,())) (fr:=fr) (ob:=ob) ⟨h.lt,h.c,ko h.S,h.F,h.O⟩ h1 (by intro e;rw[e] at h2;cases h2) (by omega)
 refine⟨bs,mt1,wW,?_,g4,h2,g2⟩;simp only[V.e] at lT h3 zbu;simp only[if_true] at JZ;simp only[cO,V.e,↓xo,ot (lr h.lt),zdO,zdP,h.c,zdM,an,h.S,aA,aj,eq_self,iF,aJ h.S,zdQ,zdN,lT,c8,htr,bd,JZ,zbu,h3]
end
theorem J0 (j:Int): ∃nc:List Int,gZ WX ((j,()),())=some ((nc,()),())/\nc.length=32:=En (by kernel_rfl)
structure Q (v:V)(m:Nat):Prop where
 fit:Fit v
 mt:v.mt.length=4
 lg:yO v.lg m
 le:m<=10000000000
 lp: ∀n,n<32->v.lp[n]?=some (n+1)
 J1:1<=v.cfg.2.2.2.2.2.2.2.1
def N9 (n:Int):Prop:= ∃fb x r,gO WX ((vg n,()),())=some r/\gh WX (r.2,())=some (((),()),(fb,()))/\cj WX (((),fb,()),(([],false,()),()))=some (.inr (([x],()),(([],false,()),())))/\ff WX ((x,()),())=some ((vg n,true,()),())
theorem Zt:N9 2:=by
 obtain⟨r,h1,h2⟩:=Option.bind_eq_some_iff.1 Io;exact⟨_,_,r,h1,h2,JU,Mq⟩
theorem Zu:N9 4:=by
 obtain⟨r,h1,h2⟩:=Option.bind_eq_some_iff.1 Ip;exact⟨_,_,r,h1,h2,JV,Mr⟩
theorem P5 {tag:List Int}(h:tag.length=32): ∃fb x r,gO WX ((sk tag,()),())=some r/\gh WX (r.2,())=some (((),()),(fb,()))/\cj WX (((),fb,()),(([],false,()),()))=some (.inr (([x],()),(([],false,()),())))/\ff WX ((x,()),())=some ((sk tag,true,()),()):=by
 obtain⟨f,rfl⟩:=mF tag h;obtain⟨r,h1,h2⟩:=Option.bind_eq_some_iff.1 (Ms f);exact⟨_,_,r,h1,h2,P1 f,SA f⟩
section
variable {v:V}{i f o:Nat}{s:wV}{fr ou:(List Int)×Bool×Unit}
theorem Oa {c:mS}{r:_}{fb:List Int}(h1:gO WX ((c,()),())=some r)(h2:gh WX (r.2,())=some (((),()),(fb,()))){P:V->Prop}(h3: ∃v2,aI WX (((),(2,(i:Int),0,gM,fb,()),()),v.e)=some ((true,()),v2.e)/\P v2):
  ∃v2,dV WX (((),(i:Int),c,()),v.e)=some ((true,()),v2.e)/\P v2:=by
 obtain⟨v2,h4,h5⟩:=h3;exact⟨v2,by simp only[dV,h1,zdM,h2,h4],h5⟩
structure Ob (v v2:V)(i:Nat)(n:Int)(nc:List Int):Prop where
 eq: ∃rA ob,v2={v with c:=v.c.set i (i+1,v.F.length+1,v.O.length+1,()),S:=v.S.set i ((2,n,nc,0,v.now,()),()),mt:=rA,F:=v.F++ [(([],false,()),())],O:=v.O++ [((ob,false,()),())]}/\ob.length=35/\mT v2 i v.F.length v.O.length (2,n,nc,0,v.now,()) ([],false,()) (ob,false,())
 fit:Fit v2
 mt:v2.mt.length=4
theorem Da {β:Type}(l:List β)(a b:β):(l++ [a]).set l.length b=l++ [b]:=by simp
theorem SL (h:mT v i f o s fr ou)(hs:s.1=0)(hf:Fit v)(hm:v.mt.length=4){n:Int}(hh:N9 n){nc:List Int}(hn:nc.length=32):
  ∃v1 v2:V,aI WX (((),(1,(i:Int),0,nc,[],()),()),v.e)=some ((true,()),v1.e)/\dV WX (((),(i:Int),vg n,()),v1.e)=some ((true,()),v2.e)/\Ob v v2 i n nc:=by
 obtain⟨fb,x,r,g1,g2,g3,g4⟩:=hh;have h1:=Er h hs nc;have hF:(v.F++ [((([]:List Int),false,()),())])[v.F.length]?=some (([],false,()),()):=by simp
 have hO:(v.O++ [((([]:List Int),false,()),())])[v.O.length]?=some (([],false,()),()):=by simp
 generalize hv1:({v with c:=v.c.set i (i+1,v.F.length+1,v.O.length+1,()),S:=v.S.set i ((1,0,nc,0,v.now,()),()),F:=v.F++ [(([],false,()),())],O:=v.O++ [(([],false,()),())]}:V)=v1 at h1;have c1:mT v1 i v.F.length v.O.length (1,0,nc,0,v.now,()) ([],false,()) ([],false,()):=by
  subst hv1;exact⟨h.lt,ko h.c,ko h.S,hF,hO⟩
 have f1:Fit v1:=by subst hv1;exact SK hf h hF hO λ_=>rfl
 have m1:v1.mt.length=4:=by subst hv1;exact hm
 obtain⟨v2,h2,h3⟩:=Oa (v:=v1) (i:=i) (P:=λv2=>Ob v v2 i n nc) g1 g2 (JX c1 (show(1:Int)≠0 by omega) (GH c1 (show(1:Int)≠0 by omega) g3 m1 λrA SM=>by
  subst hv1;have cb:=(⟨c1.lt,c1.c,c1.S,ko c1.F,c1.O⟩:mT {c:=v.c.set i (i+1,v.F.length+1,v.O.length+1,()),cfg:=v.cfg,now:=v.now,ph:=v.ph,mp:=v.mp,bp:=v.bp,lp:=v.lp,tr:=v.tr,op:=v.op,ps:=v.ps,lg:=v.lg,mt:=rA,M:=v.M,L:=v.L,S:=v.S.set i ((1,0,nc,0,v.now,()),()),F:=(v.F++ [(([],false,()),())]).set v.F.length (([],false,()),()),O:=v.O++ [(([],false,()),())],B:=v.B} i v.F.length v.O.length (1,0,nc,0,v.now,()) ([],false,()) ([],false,()));obtain⟨bs,b1,b2⟩:=VX cb hn (by simp) g4
  have cb2:=(cb.jk (2,n,nc,0,v.now,())).out ([]++bs,false,());have fb1:=Az (v':={c:=v.c.set i (i+1,v.F.length+1,v.O.length+1,()),cfg:=v.cfg,now:=v.now,ph:=v.ph,mp:=v.mp,bp:=v.bp,lp:=v.lp,tr:=v.tr,op:=v.op,ps:=v.ps,lg:=v.lg,mt:=rA,M:=v.M,L:=v.L,S:=v.S.set i ((1,0,nc,0,v.now,()),()),F:=(v.F++ [(([],false,()),())]).set v.F.length (([],false,()),()),O:=v.O++ [(([],false,()),())],B:=v.B}) (by rfl) (by rfl) (by rfl) (by rfl) (GI f1 (([],false,()),()) v.F.length)
  have fb2:=N7 (N8 fb1 cb (2,n,nc,0,v.now,()) λ_=>rfl) ([]++bs) v.O.length;exact⟨_,b1,fb2,⟨v.F.length,v.O.length,_,_,_,cb2,rfl⟩,⟨⟨rA,[]++bs,by rw[zfo,Da,Da],by simpa using b2,cb2⟩,fb2,SM⟩⟩))
 exact⟨v1,v2,h1,h2,h3⟩
end
section
variable {v:V}{i f o:Nat}{s:wV}{fr ou:(List Int)×Bool×Unit}
theorem My (h:mT v i f o s fr ou){x tag:List Int}(hg:ff WX ((x,()),())=some ((sk tag,true,()),())){v2:V}(ha:cO WX (((),(i:Int),tag,()),v.e)=some ((),v2.e)):
  c9 WX (((),(i:Int),x,()),v.e)=some ((),v2.e):=by
 have hk:sk tag=(2,0,0,0,0,0,0,0,0,0,0,0,0,0,tag,()):=rfl;rw[hk] at hg;have e1: ¬(2:Int)=1:=by omega
 simp only[V.e] at ha;simp only[c9,V.e,↓xo,ot (lr h.lt),zdO,zdP,h.c,zdM,hg,zdQ,zdN,bg e1,eq_self,iF,ha]
structure Zv (v v3:V)(i:Nat)(sf:wV)(L':List tv)(m':Nat):Prop where
 eq: ∃c' rA F' O' wW,v3={v with c:=c',S:=v.S.set i (sf,()),mt:=rA,F:=F',O:=O',L:=L',lg:=wW}
 ex:sf.1=3->∃rA wW ob,v3={v with c:=v.c.set i (i+1,v.F.length+1,v.O.length+1,()),S:=v.S.set i (sf,()),mt:=rA,F:=v.F++ [(([],false,()),())],O:=v.O++ [((ob,false,()),())],L:=L',lg:=wW}/\ob.length=38
 conn: ∃f o ob,mT v3 i f o sf ([],false,()) (ob,false,())/\ob.length<=50
 q:Q v3 m'
theorem SN {v2:V}{ob:List Int}{tag:List Int}(ht:tag.length=32)(hc:mT v2 i f o s ([],false,()) (ob,false,()))(hs:s.1≠0)(hm:v2.mt.length=4){P:V->Prop}
  (hb: ∀rA,rA.length=4->mT {v2 with F:=v2.F.set f (([],false,()),()),mt:=rA} i f o s ([],false,()) (ob,false,())->∃v3,cO WX (((),(i:Int),tag,()),{v2 with F:=v2.F.set f (([],false,()),()),mt:=rA}.e)=some ((),v3.e)/\Fit v3/\(∃f2 o2 s2 Uw VW,mT v3 i f2 o2 s2 Uw VW/\Uw.2.1=false)/\P v3):
  ∃v3,dV WX (((),(i:Int),sk tag,()),v2.e)=some ((true,()),v3.e)/\P v3:=by
 obtain⟨fb,x,r,g1,g2,g3,g4⟩:=P5 ht;exact Oa g1 g2 (JX hc hs (GH hc hs g3 hm λrA SM=>by
  have c1:mT {v2 with F:=v2.F.set f (([],false,()),()),mt:=rA} i f o s ([],false,()) (ob,false,()):=⟨hc.lt,hc.c,hc.S,ko hc.F,hc.O⟩;obtain⟨v3,h1,h2,h3,h4⟩:=hb rA SM c1;exact⟨v3,My c1 g4 h1,h2,h3,h4⟩))
end
def Al (S:List Ar)(tr:List oS)(n:Nat)(x:oS):Prop:= ∀(j:Nat) (s:wV),S[j]?=some (s,())->s.1=3->∃(m:Nat) (y:oS),s.2.1=(m:Int)/\m≠n/\m<32/\tr[m]?=some y/\y.2.2.1≠0/\y.1≠x.1
theorem SO {v:V}{n:Nat}{x:oS}(hf:Fit v)(h:Al v.S v.tr n x):SF v n x:=λi hi=>by
 obtain⟨f,o,s,fr,ou,h1,h2⟩:=hf i hi;refine⟨f,o,s,fr,ou,h1,λh3=>?_⟩;obtain⟨m,y,g1,g2,g3,g4,g5,g6⟩:=h i s h1.S h3;exact⟨m,y,g1,g2,⟨g3,g4,g5⟩,g6⟩
theorem Zw {S:List Ar}{tr:List oS}{n i:Nat}{x:oS}(h:Al S tr n x)(s':wV)(hs:s'.1≠3):Al (S.set i (s',())) tr n x:=λj s h1 h3=>by
 by_cases e:j=i
 ·subst e
  rw[zfj] at h1;simp only[if_true] at h1;split at h1
  ·cases h1;exact absurd h3 hs
  ·cases h1
 ·rw[kL e] at h1;exact h j s h1 h3
section
variable {v:V}{i:Nat}
theorem Et {v2:V}{m n p:Nat}{nc tag:List Int}{x:oS}{k:wU}(hq:Q v m)(hm0:m+46<=10000000000)(ha:Ob v v2 i (n:Int) nc)(ht:Tr v n x)(hk:Lk v n p k)(hl:oB k v.now=false)(nV:x.2.2.2.2.1=false)(yA:x.2.2.2.2.2.1.length=32)(hn:nc.length=32)(hal:Al v.S v.tr n x)
  (Zr:SG x.2.2.2.2.2.1 nc tag) (IU:tag.length=32):
  ∃v3,dV WX (((),(i:Int),sk tag,()),v2.e)=some ((true,()),v3.e)/\Zv v v3 i (3,(n:Int),gM,1,v.now,()) (v.L.set p ((k.1,k.2.1,0,0,()),())) (m+46):=by
 obtain⟨⟨mt2,ob,rfl,hob,hc⟩,lq,hmt⟩:=ha;have hFF: ∀bs:List Int,(v.F++ [((([]:List Int),false,()),())]).set v.F.length (([],false,()),())=v.F++ [(([],false,()),())]/\(v.O++ [((ob,false,()),())]).set v.O.length ((ob++bs,false,()),())=v.O++ [((ob++bs,false,()),())]:=λbs=>⟨Da _ _ _,Da _ _ _⟩;generalize K6:v.c.set i (i+1,v.F.length+1,v.O.length+1,())=c' at*;generalize hF':v.F++ [((([]:List Int),false,()),())]=F' at*;generalize hO':v.O++ [((ob,false,()),())]=O' at*;generalize vC:v.F.length=f at*;generalize X6:v.O.length=o at*;refine SN IU hc (show(2:Int)≠0 by omega) hmt λrA SM c1=>?_
 have f1:=GI lq (([],false,()),()) f;have zdh:Al (v.S.set i ((2,(n:Int),nc,0,v.now,()),())) v.tr n x:=Zw hal _ (show(2:Int)≠3 by omega)
 have f1':Fit {c:=c',cfg:=v.cfg,now:=v.now,ph:=v.ph,mp:=v.mp,bp:=v.bp,lp:=v.lp,tr:=v.tr,op:=v.op,ps:=v.ps,lg:=v.lg,mt:=rA,M:=v.M,L:=v.L,S:=v.S.set i ((2,(n:Int),nc,0,v.now,()),()),F:=F'.set f (([],false,()),()),O:=O',B:=v.B}:=Az (by rfl) (by rfl) (by rfl) (by rfl) f1
 obtain⟨bs,mt3,wW,h1,h2,h3,h4⟩:=JY (tag:=tag) (p:=p) (x:=x) (k:=k) (m:=m) c1 ⟨ht.lt,ht.tr,ht.Xu⟩ ⟨hk.lt,hk.lp,hk.L⟩ hl nV yA hn (SO f1' zdh) hq.J1 Zr IU SM (by omega) hq.lg (by have:=hq.le;omega)
 have f2:=N7 f1' (ob++bs) o;have c2:=c1.out (ob++bs,false,());have f3:=N8 f2 c2 (3,(n:Int),gM,1,v.now,()) λ_=>rfl;have c4:=c2.jk (3,(n:Int),gM,1,v.now,());refine⟨_,h1,Az (by rfl) (by rfl) (by rfl) (by rfl) f3,⟨_,_,_,_,_,⟨c4.lt,c4.c,c4.S,c4.F,c4.O⟩,rfl⟩,⟨⟨c',mt3,_,_,wW,by rw[zfo]⟩,λ_=>⟨mt3,wW,ob++bs,by rw[zfo,(hFF bs).1,(hFF bs).2];subst vC X6 K6 hF';rfl,by rw[zdW];omega⟩,⟨_,_,ob++bs,⟨c4.lt,c4.c,c4.S,c4.F,c4.O⟩,by rw[zdW];omega⟩,⟨Az (by rfl) (by rfl) (by rfl) (by rfl) f3,h2,h4,hm0,hq.lp,hq.J1⟩⟩⟩
theorem J2 {f o:Nat}{s:wV}{fr ou:(List Int)×Bool×Unit}{m n:Nat}{j:Int}{x:oS}{sf:wV}{L':List tv}{m':Nat}(right:Bool)(h:mT v i f o s fr ou)(hs:s.1=0)(hq:Q v m)(hh:N9 (n:Int))(yA:gB WX (((n:Int),()),())=some ((x.2.2.2.2.2.1,()),()))(VY:x.2.2.2.2.2.1.length=32)
  (hw: ∀nc tag FR:List Int,nc.length=32->tag.length=32->FR.length=32->SG x.2.2.2.2.2.1 nc tag->(right=true->FR=tag)->(right=false->jV WX ((FR,tag,()),())=some ((false,()),()))->∀v2,Ob v v2 i (n:Int) nc->∃v3,dV WX (((),(i:Int),sk FR,()),v2.e)=some ((true,()),v3.e)/\Zv v v3 i sf L' m'):
  ∃v3,fc WX (((),(i:Int),(n:Int),j,right,()),v.e)=some ((decide (sf.1=3),()),v3.e)/\Zv v v3 i sf L' m':=by
 obtain⟨nc,h1,h2⟩:=J0 j;obtain⟨v1,v2,h3,h4,h5⟩:=SL h hs hq.fit hq.mt hh h2;obtain⟨tag,⟨r1,r2,g1,g2,g3⟩,g4⟩:=Mu VY h2;have e0:(0:Int)<=0/\(0:Int)<=((32:Nat):Int)/\((32:Nat):Int)<=(32:Nat):=by omega
 have e1:(0:Int)<=0/\(0:Int)<(32:Nat):=by omega
 have hk:vg (n:Int)=(1,0,(n:Int),0,0,0,0,0,0,0,0,0,0,0,gM,()):=rfl;rw[hk] at h4;have hx:=zdS (l:=tag) (i:=0) (by omega)
 generalize tag[0]=y at hx;have ha: ∀t,sk t=(2,0,0,0,0,0,0,0,0,0,0,0,0,0,t,()):=λ_=>rfl;cases right with
 |true=>
  obtain⟨v3,h6,h7⟩:=hw nc tag tag h2 g4 g4 ⟨r1,r2,g1,g2,g3⟩ (λ_=>rfl) (λe=>by cases e) v2 h5
  obtain⟨f3,o3,ob3,hc3,_⟩:=h7.conn;have hA:=Sy hc3;rw[ha] at h6;refine⟨v3,?_,h7⟩;simp only[fc,h1,zdM,h3,zdQ,zdN,h4,yA,↓xo,ot e0,zdO,pt VY,pt h2,g1,g2,g3,h6,hA];rw[ke]
 |false=>
  obtain⟨v3,h6,h7⟩:=hw nc tag (tag.set 0 (WX.py .u8 y 1)) h2 g4 (by rw[zeq];exact g4) ⟨r1,r2,g1,g2,g3⟩ (λe=>by cases e) (λ_=>Mx g4 hx) v2 h5
  obtain⟨f3,o3,ob3,hc3,_⟩:=h7.conn;have hA:=Sy hc3;rw[ha] at h6;refine⟨v3,?_,h7⟩;have hz:(0:Int).toNat=0:=rfl;simp only[fc,h1,zdM,h3,zdQ,zdR,zdN,h4,yA,↓xo,ot e0,ot e1,zdO,pt VY,pt h2,g1,g2,g3,hz,hx,h6,hA];rw[ke]
end
section
variable {v:V}
theorem VZ: ∀f g:Nat->Int,Cg (jt WX (((List.range 32).map f,(List.range 18).map g,()),()))=true:=λf g=>by kernel_rfl
end
theorem jC {v lo hi:Int}(hv: -9223372036854775808<=v/\v<=9223372036854775807)(h0: -1000000<=lo)(h1:lo<=hi)(h2:hi<=1000000): ∃r:Int,lo<=r/\r<=hi/\aN WX ((v,lo,hi,()),())=some ((r,()),()):=by
 obtain⟨r,h3,h4,h5⟩:=Py hv (lo:=lo) (hi:=hi) (by omega) h1 (by omega) (by omega)
 refine⟨r,h3,h4,?_⟩;rw[<-h5,<-Xl];rfl
noncomputable abbrev kk (n:Int):List Int:=List.replicate 32 (WX.wr .u8 (WX.wr .i64 (n+1)))
theorem It (n:Int):gB WX ((n,()),())=some ((kk n,()),()):=by kernel_rfl
abbrev J3 (c:List Int):Prop:= ∀x∈c,-9223372036854775808<=x/\x<=9223372036854775807
theorem wX {c:List Int}(hc:J3 c)(i:Nat){lo hi:Int}(h0: -1000000<=lo)(h1:lo<=hi)(h2:hi<=1000000): ∃r:Int,lo<=r/\r<=hi/\aG WX (((i:Int),lo,hi,(),()),c,())=some ((r,()),c,()):=by
 by_cases h:i<c.length
 ·have hx:=zdS h
  have hm:=hc _ (ze0 h);obtain⟨r,h3,h4,h5⟩:=jC hm h0 h1 h2;refine⟨r,h3,h4,?_⟩;simp only[aG,↓xo,oT ((i:Int)<(c.length:Int)),oT ((0:Int)<=(i:Int)),zdO,zdP,hx,zdM,h5]
 ·refine⟨hi,h1,zeS _,?_⟩
  simp only[aG,↓xo,oF ((i:Int)<(c.length:Int)),zdN]
abbrev zT:oS:=(0,0,0,0,false,gM,())
abbrev lmt:wU:=(1048576,1099511627776,1099511627776,1099511627776,())
noncomputable def tt (a0:Int)(i:Nat):oS:=(WX.wr .i64 (Int.tdiv (i:Int) 2),WX.wr .i64 ((Int.tmod (i:Int) 2)*a0),1,7,false,kk (i:Int),())
noncomputable def fT (a0:Int):Nat->Nat->List oS->List oS
 |0,_,T=>T
 |n+1,i,T=>fT a0 n (i+1) (T.set i (tt a0 i))
def fL:Nat->Nat->List wU->List wU
 |0,_,T=>T
 |n+1,i,T=>fL n (i+1) (T.set i lmt)
theorem SP (a0:Int): ∀(n i:Nat) (T:List oS),(fT a0 n i T).length=T.length
 |0,_,_=>rfl
 |n+1,i,T=>by simp only[fT];rw[SP a0 n];simp
theorem Mz: ∀(n i:Nat) (T:List wU),(fL n i T).length=T.length
 |0,_,_=>rfl
 |n+1,i,T=>by simp only[fL];rw[Mz n];simp
theorem SQ {c:List Int}{a0:Int}(h:aG WX ((0,0,1,(),()),c,())=some ((a0,()),c,()))(g:xd)(rest:Int×Int×Int×Int×Int×Int×Unit):
  ∀(n i:Nat) (T:List oS) (Lm:List wU),i+n=6->T.length=32->Lm.length=32->ag (cU WX) (((),((),()),(),(i:Int),()),g,c,(T,Lm,rest),())=some (((),((),()),(),()),g,c,(fT a0 n i T,fL n i Lm,rest),()):=by
 intro n;have e2: ¬(2:Int)=0:=by omega
 induction n with
 |zero=>
  intro i T Lm hi hT hL;rw[ar];simp only[cU,↓xo,oF ((i:Int)<6),zdN,fT,fL]
 |succ n ih=>
  intro i T Lm hi hT hL;have hx:=zdS (l:=T) (i:=i) (by omega)
  have hy:=zdS (l:=Lm) (i:=i) (by omega)
  have e1:i64.wrap ((i:Int)+1)=((i+1:Nat):Int):=by rw[nR (by omega) (by omega)];omega
  have hk:=It (i:Int);rw[ar];have qP:=ih (i+1) (T.set i (tt a0 i)) (Lm.set i lmt) (by omega) (by rw[zeq];exact hT) (by rw[zeq];exact hL)
  have hs:cU WX (((),((),()),(),(i:Int),()),g,c,(T,Lm,rest),())=some (.inl (((),((),()),(),((i+1:Nat):Int),()),g,c,(T.set i (tt a0 i),Lm.set i lmt,rest),())):=by
   simp only[cU,↓xo,oT ((i:Int)<6),bg e2,zdO,zdN,h,zdM,hk,ot (qR (show i<32 by omega)),zdP,hx,hy,tt]
   rw[xw,e1]
  rw[hs];simp only[fT,fL];exact qP
noncomputable def T6 (a0:Int):List oS:=fT a0 6 0 (List.replicate 32 zT)
def L6:List wU:=fL 6 0 (List.replicate 32 (0,0,0,0,()))
noncomputable def yD (a0 a1:Int):List oS:=
 let x7:=(T6 a0).getD 0 zT
 let T7:=(T6 a0).set 0 (x7.1,x7.2.1,WX.AO .i64 1 a1,x7.2.2.2)
 let x8:=T7.getD 2 zT
 let T8:=T7.set 2 (x8.1,x8.2.1,7,x8.2.2.2)
 let x9:=T8.getD 4 zT
 T8.set 4 (x9.1,x9.2.1,9,x9.2.2.2)
structure Ux (c:List Int)(g:xd):Prop where
 ex: ∃a0 a1 a2 a3 a4 a5 b r t l d q:Int,(a0=0\/a0=1)/\0<=a1/\a1<=7/\(0<=a2/\a2<=20)/\(0<=a3/\a3<=3000)/\(0<=a4/\a4<=40)/\(0<=a5/\a5<=40)/\(1<=b/\b<=60)/\(1<=r/\r<=20)/\(1<=t/\t<=3)/\(1<=l/\l<=50)/\(1<=d/\d<=200)/\(1<=q/\q<=4)/\g=(yD a0 a1,L6.set 1 (a2,a3,a4,a5,()),b,r,t,l,d,q,())
theorem Db {β:Type}{l:List β}{n:Nat}(h:n<l.length)(z:β):l[n]?=some (l.getD n z):=by
 rw[zdS h,zd3,zdS h];rfl
theorem P6 {c:List Int}(hc:J3 c): ∃g,dg WX ((c,()),())=some ((g,()),())/\Ux c g:=by
 obtain⟨a0,p0,q0,h0⟩:=wX hc 0 (lo:=0) (hi:=1) (by omega) (by omega) (by omega)
 obtain⟨a1,p1,q1,h1⟩:=wX hc 1 (lo:=0) (hi:=7) (by omega) (by omega) (by omega)
 obtain⟨a2,p2,q2,h2⟩:=wX hc 2 (lo:=0) (hi:=20) (by omega) (by omega) (by omega)
 obtain⟨a3,p3,q3,h3⟩:=wX hc 3 (lo:=0) (hi:=3000) (by omega) (by omega) (by omega)
 obtain⟨a4,p4,q4,h4⟩:=wX hc 4 (lo:=0) (hi:=40) (by omega) (by omega) (by omega)
 obtain⟨a5,p5,q5,h5⟩:=wX hc 5 (lo:=0) (hi:=40) (by omega) (by omega) (by omega)
 obtain⟨b,p6,q6,h6⟩:=wX hc 6 (lo:=1) (hi:=60) (by omega) (by omega) (by omega)
 obtain⟨r,p7,q7,h7⟩:=wX hc 7 (lo:=1) (hi:=20) (by omega) (by omega) (by omega)
 obtain⟨t,p8,q8,h8⟩:=wX hc 8 (lo:=1) (hi:=3) (by omega) (by omega) (by omega)
 obtain⟨l,p9,q9,h9⟩:=wX hc 9 (lo:=1) (hi:=50) (by omega) (by omega) (by omega)
 obtain⟨d,p10,q10,F7⟩:=wX hc 10 (lo:=1) (hi:=200) (by omega) (by omega) (by omega)
 obtain⟨q,p11,q11,Nl⟩:=wX hc 11 (lo:=1) (hi:=4) (by omega) (by omega) (by omega)
 change aG WX ((0,0,1,(),()),c,())=_ at h0;change aG WX ((1,0,7,(),()),c,())=_ at h1;change aG WX ((2,0,20,(),()),c,())=_ at h2;change aG WX ((3,0,3000,(),()),c,())=_ at h3;change aG WX ((4,0,40,(),()),c,())=_ at h4;change aG WX ((5,0,40,(),()),c,())=_ at h5;change aG WX ((6,1,60,(),()),c,())=_ at h6;change aG WX ((7,1,20,(),()),c,())=_ at h7;change aG WX ((8,1,3,(),()),c,())=_ at h8;change aG WX ((9,1,50,(),()),c,())=_ at h9;change aG WX ((10,1,200,(),()),c,())=_ at F7;change aG WX ((11,1,4,(),()),c,())=_ at Nl;refine⟨(yD a0 a1,L6.set 1 (a2,a3,a4,a5,()),b,r,t,l,d,q,()),?_,⟨a0,a1,a2,a3,a4,a5,b,r,t,l,d,q,by omega,p1,q1,⟨p2,q2⟩,⟨p3,q3⟩,⟨p4,q4⟩,⟨p5,q5⟩,⟨p6,q6⟩,⟨p7,q7⟩,⟨p8,q8⟩,⟨p9,q9⟩,⟨p10,q10⟩,⟨p11,q11⟩,rfl⟩⟩
 have hl:=SQ h0 (List.replicate 32 zT,List.replicate 32 (0,0,0,0,()),0,0,0,0,0,0,()) (0,0,0,0,0,0,()) 6 0 (List.replicate 32 zT) (List.replicate 32 (0,0,0,0,())) (by omega) (by simp) (by simp)
 change ag (cU WX) (((),((),()),(),0,()),_,c,_,())=some (((),((),()),(),()),_,c,(T6 a0,L6,_),()) at hl;have hT:(T6 a0).length=32:=by unfold T6;rw[SP];simp
 have hL:L6.length=32:=by unfold L6;rw[Mz];simp
 have z0:(0:Int).toNat=0:=rfl;have z1:(1:Int).toNat=1:=rfl;have z2:(2:Int).toNat=2:=rfl;have z4:(4:Int).toNat=4:=rfl;have i0:(0:Int)<=0/\(0:Int)<(32:Nat):=by omega
 have i1:(0:Int)<=1/\(1:Int)<(32:Nat):=by omega
 have i2:(0:Int)<=2/\(2:Int)<(32:Nat):=by omega
 have i4:(0:Int)<=4/\(4:Int)<(32:Nat):=by omega
 have g0:=Db (l:=T6 a0) (n:=0) (by omega) zT
 have g1:L6[1]?=some (L6.getD 1 (0,0,0,0,())):=Db (by omega) _
 have g2: ∀y,((T6 a0).set 0 y)[2]?=some (((T6 a0).set 0 y).getD 2 zT):=λy=>Db (by rw[zeq];omega) zT
 have g4: ∀y z,(((T6 a0).set 0 y).set 2 z)[4]?=some ((((T6 a0).set 0 y).set 2 z).getD 4 zT):=λy z=>Db (by rw[zeq,zeq];omega) zT
 simp only[dg,↓xl,hl,zdM,h1,↓xo,ot i0,ot i1,ot i2,ot i4,zdO,z0,z1,z2,z4,g0,g2,g4,h2,h3,h4,h5,h6,h7,h8,h9,F7,Nl,g1,yD]
theorem Oc {a0 a1:Int}(h0:a0=0\/a0=1)(h1:0<=a1)(h2:a1<=7):nG WX ((yD a0 a1,()),())=some (.inr (((),(-1),()),((yD a0 a1,()),())))/\(yD a0 a1)[2]?=some (1,0,7,7,false,kk 2,())/\(yD a0 a1)[4]?=some (2,0,9,7,false,kk 4,()):=by
 have:a1=0\/a1=1\/a1=2\/a1=3\/a1=4\/a1=5\/a1=6\/a1=7:=by omega
 rcases h0 with rfl|rfl<;>rcases this with rfl|rfl|rfl|rfl|rfl|rfl|rfl|rfl<;>exact⟨by kernel_rfl,by kernel_rfl,by kernel_rfl⟩
def Zx (y:wU):Prop:=0<=y.1/\y.1<=1048576/\0<=y.2.1/\0<=y.2.2.1/\y.2.2.1<=1099511627776/\0<=y.2.2.2.1/\y.2.2.2.1<=1099511627776
instance (y:wU):Decidable (Zx y):=by unfold Zx;infer_instance
theorem V0 {y:wU}(h:Zx y):l9 WX ((y,()),())=some ((true,()),()):=by
 obtain⟨h1,h2,h3,h4,h5,h6,h7⟩:=h;simp only[l9,↓xo,ot (show y.1>=0 from h1),ot h2,ot (show y.2.1>=0 from h3),ot (show y.2.2.1>=0 from h4),ot h5,ot (show y.2.2.2.1>=0 from h6),ot h7,zdO]
theorem MA {l:List wU}(hl:l.length=32)(h: ∀y∈l,Zx y):ag (fP WX) ((true,l,0,()),())=some ((true,()),()):=by
 have key: ∀n i:Nat,i+n=32->ag (fP WX) ((true,l,(i:Int),()),())=some ((true,()),()):=by
  intro n;induction n with
  |zero=>
   intro i hi;rw[ar];simp only[fP,↓xo,oF ((i:Int)<32),zdN]
  |succ n ih=>
   intro i hi;have hx:=zdS (l:=l) (i:=i) (by omega)
   have hr:=V0 (h _ (ze0 (l:=l) (n:=i) (by omega)))
   generalize l[i]=y at hx hr;have e1:i64.wrap ((i:Int)+1)=((i+1:Nat):Int):=by rw[nR (by omega) (by omega)];omega
   have qP:=ih (i+1) (by omega)
   rw[ar];simp only[fP,↓xo,xw,oT ((i:Int)<32),ot (qR (show i<32 by omega)),zdO,zdP,hx,zdM,hr,e1,qP]
 exact key 32 0 (by omega)
theorem GJ {b r:Int}(hb:1<=b/\b<=60)(hr:1<=r/\r<=20):jq WX ((b,r,()),())=some (.inr (((),0,()),((b,r,b,0,()),()))):=by
 simp only[jq,↓xo,oF (b<1),oF (b>1048576),oF (r<1),oF (r>1099511627776),zdN]
theorem Od {t l:Int}(ht:1<=t/\t<=3)(hl:1<=l/\l<=50):kF WX ((t,l,()),())=some (.inr (((),0,()),((t,l,0,0,()),()))):=by
 simp only[kF,↓xo,oF (t<1),oF (t>1048576),oF (l<1),oF (l>1099511627776),zdN]
theorem P7 {a2 a3 a4 a5:Int}(h2:0<=a2/\a2<=20)(h3:0<=a3/\a3<=3000)(h4:0<=a4/\a4<=40)(h5:0<=a5/\a5<=40): ∀y∈L6.set 1 (a2,a3,a4,a5,()),Zx y:=by
 intro y hy;rcases zeZ hy with h|h
 ·have: ∀y∈L6,Zx y:=by
   have h0:(L6.all λy=>decide (Zx y))=true:=by kernel_rfl
   intro y hy;exact of_decide_eq_true (List.all_eq_true.1 h0 y hy)
  exact this y h
 ·subst h
  refine⟨h2.1,?_,h3.1,h4.1,?_,h5.1,?_⟩
  ·show a2<=_;omega
  ·show a4<=_;omega
  ·show a5<=_;omega
theorem SR {x:wU}:(L6.set 1 x).length=32:=by rw[zeq];unfold L6;rw[Mz];simp
def V1:Nat->Nat->List Nat->List Nat
 |0,_,l=>l
 |n+1,i,l=>V1 n (i+1) (l.set i (i+1))
theorem V2 {b r t lk:Int}(hb:1<=b/\b<=60)(hr:1<=r/\r<=20)(ht:1<=t/\t<=3)(hl:1<=lk/\lk<=50)(g:xd)(hg:g.2.2.1=b/\g.2.2.2.1=r/\g.2.2.2.2.1=t/\g.2.2.2.2.2.1=lk)(cfg:xd)(now:Int)(ph:H9)(mp:List Nat)(tr:(List oS)×Unit)(ac:(List (List Int))×(List (List Int))×Unit)(M:List uD):
  ∀(n i:Nat) (bp lp:List Nat) (L:List tv) (B:List vM),i+n=32->bp.length=32->lp.length=32->L.length=i->B.length=i->ag (cz WX) (((),(),(i:Int),()),g,(cfg,now,(),ph,mp,(),bp,lp,()),tr,ac,M,L,B,())=
   some (((),()),g,(cfg,now,(),ph,mp,(),V1 n i bp,V1 n i lp,()),tr,ac,M,L++List.replicate n ((t,lk,0,0,()),()),B++List.replicate n ((b,r,b,0,()),()),()):=by
 have h1:=GJ hb hr;have h2:=Od ht hl;obtain⟨g1,g2,g3,g4⟩:=hg;intro n;induction n with
 |zero=>
  intro i bp lp L B hi h3 h4 h5 h6;rw[ar];simp only[cz,↓xo,oF ((i:Int)<32),zdN,V1,ze1,zfe]
 |succ n ih=>
  intro i bp lp L B hi h3 h4 h5 h6;have hx:=zdS (l:=bp) (i:=i) (by omega)
  have hy:=zdS (l:=lp) (i:=i) (by omega)
  have e1:i64.wrap ((i:Int)+1)=((i+1:Nat):Int):=by rw[nR (by omega) (by omega)];omega
  have qP:=ih (i+1) (bp.set i (i+1)) (lp.set i (i+1)) (L++ [((t,lk,0,0,()),())]) (B++ [((b,r,b,0,()),())]) (by omega) (by rw[zeq];exact h3) (by rw[zeq];exact h4) (by rw[zdW,h5];rfl) (by rw[zdW,h6];rfl)
  rw[ar];simp only[cz,↓xo,xw,oT ((i:Int)<32),ot (qR (show i<32 by omega)),zdO,g1,g2,g3,g4,h1,h2,zdM,zdP,hx,hy,e1,h5,h6,qP,V1,zfp,zfq,<-zez]
abbrev ph0:H9:=(List.replicate 8 false,List.replicate 8 false,List.replicate 8 (0:Int),())
abbrev oo:List (List Int):=List.replicate 32 (List.replicate 8 (0:Int))
abbrev e0:uD:=(((),(),()),(((),(),()),0,0,()),[],[],[],[],())
abbrev p8:List Nat:=(List.range 8).map (·+1)
abbrev c16:List NW:=(List.range 16).map λi=>(i+1,i+1,i+1,())
theorem Zy (g:xd)(T:List oS):WX.ag (dK WX) (((),(),0,()),g,(g,0,(),ph0,List.replicate 8 0,(),List.replicate 32 0,List.replicate 32 0,()),(T,()),(oo,oo,()),[],[],[],())=
  some (((),(),()),g,(g,0,(),ph0,p8,(),List.replicate 32 0,List.replicate 32 0,()),(T,()),(oo,oo,()),List.replicate 8 e0,[],[],()):=by kernel_rfl
theorem Zz (s:xd×Int×Unit×H9×(List Nat)×Unit×(List Nat)×(List Nat)×Unit)(tr:(List oS)×Unit)(ac:(List (List Int))×(List (List Int))×Unit)(lg:GC)(mt:(List LZ)×Unit)(M:List uD)(L:List tv)(B:List vM):
  WX.ag (dL WX) (((),0,()),((),List.replicate 16 (0,0,0,()),(),(),()),s,tr,ac,lg,mt,M,L,[],[],[],B,())=some (((),()),((),c16,(),(),()),s,tr,ac,lg,mt,M,L,List.replicate 16 (s0,()),List.replicate 16 (([],false,()),()),List.replicate 16 (([],false,()),()),B,()):=by kernel_rfl
def v0 (g:xd):V:={c:=c16,cfg:=g,now:=0,ph:=ph0,mp:=p8,bp:=V1 32 0 (List.replicate 32 0),lp:=V1 32 0 (List.replicate 32 0),tr:=g.1,op:=oo,ps:=oo,lg:=([],gM,0,()),mt:=List.replicate 4 ((),(),0,()),M:=List.replicate 8 e0,L:=List.replicate 32 ((g.2.2.2.2.1,g.2.2.2.2.2.1,0,0,()),()),S:=List.replicate 16 (s0,()),F:=List.replicate 16 (([],false,()),()),O:=List.replicate 16 (([],false,()),()),B:=List.replicate 32 ((g.2.2.1,g.2.2.2.1,g.2.2.1,0,()),())}
theorem MB {c:List Int}{g:xd}(h:Ux c g):jM WX ((g,()),())=some (.inr (((),0,()),(v0 g).e)):=by
 obtain⟨a0,a1,a2,a3,a4,a5,b,r,t,l,d,q,h0,h1,HU,h2,h3,h4,h5,hb,hr,ht,hl,hd,hq,rfl⟩:=h;have ht1:=(Oc h0 h1 HU).1;have hb1:=GJ hb hr;have hl1:=Od ht hl;have hrt:=MA SR (P7 h2 h3 h4 h5);generalize yD a0 a1=T at ht1;generalize L6.set 1 (a2,a3,a4,a5,())=Lm at hrt;have hR:jA WX (((T,Lm,b,r,t,l,d,q,()),()),())=some ((true,()),()):=by
  simp only[jA,ht1,zdM,hb1,hl1,↓xo,eq_self,iF,zdO,oT (d>=1),oT (d<=1099511627776),oT (q>=1),oT (q<=16),↓xl,hrt]
 have Nl:=V2 hb hr ht hl (T,Lm,b,r,t,l,d,q,()) ⟨rfl,rfl,rfl,rfl⟩ (T,Lm,b,r,t,l,d,q,()) 0 ph0 p8 (T,()) (oo,oo,()) (List.replicate 8 e0) 32 0 (List.replicate 32 0) (List.replicate 32 0) [] [] (by omega) (by simp) (by simp) rfl rfl
 change ag (cz WX) (((),(),0,()),_,_,_,_,_,_,_,())=_ at Nl;simp only[zeN] at Nl;have h6:=Zy (T,Lm,b,r,t,l,d,q,()) T;rw[xl] at h6;simp only[jM,lX,hR,zdM,zdQ,zdN,pn,ht1,h6,↓xl,Nl,↓xo,eq_self,iF,nH,nI];have hv:=Zz;simp only[↓xl] at hv;simp only[hv,zdM];rfl
structure Sc (g:xd)(v:V)(k:wU)(m:Nat):Prop where
 cfg:v.cfg=g
 now:v.now=0
 tr:v.tr=g.1
 ph:v.ph=ph0
 bp:v.bp=(v0 g).bp
 B:v.B=(v0 g).B
 S:v.S=List.replicate 16 (s0,())
 L:v.L=(v0 g).L.set 2 (k,())
 q:Q v m
theorem V3: ∀n,n<32->(V1 32 0 (List.replicate 32 0))[n]?=some (n+1):=by decide
theorem qm {β:Type}{n i:Nat}(h:i<n)(a:β):(List.replicate n a)[i]?=some a:=by rw[zeH,if_pos h]
theorem Dc (g:xd): ∀i,i<16->mT (v0 g) i i i s0 ([],false,()) ([],false,()):=λi hi=>by
 refine⟨hi,?_,?_,?_,?_⟩
 ·show c16[i]?=_
  simp[hi]
 ·exact qm hi _
 ·exact qm hi _
 ·exact qm hi _
theorem zbv {c:List Int}{g:xd}(h:Ux c g):Sc g (v0 g) (g.2.2.2.2.1,g.2.2.2.2.2.1,0,0,()) 0:=by
 refine⟨rfl,rfl,rfl,rfl,rfl,rfl,rfl,?_,⟨λi hi=>⟨_,_,_,_,_,Dc g i hi,λ_=>rfl⟩,rfl,⟨rfl,by simp[v0]⟩,by omega,V3,?_⟩⟩
 ·exact(aJ (by simp[v0])).symm
 ·obtain⟨a0,a1,a2,a3,a4,a5,b,r,t,l,d,q,_,_,_,_,_,_,_,_,_,_,_,_,hq,rfl⟩:=h
  exact hq.1
theorem zbw {g:xd}{v:V}{k:wU}{m:Nat}(h:Sc g v k m)(n:Nat)(x:oS):Al v.S v.tr n x:=λj s h1 h3=>by
 rw[h.S,zeH] at h1;split at h1
 ·cases h1;exact absurd h3 (by show¬(0:Int)=3;omega)
 ·cases h1
noncomputable abbrev x2:oS:=(1,0,7,7,false,kk 2,())
noncomputable abbrev x4:oS:=(2,0,9,7,false,kk 4,())
theorem MC {c:List Int}{g:xd}(h:Ux c g):g.1[2]?=some x2/\g.1[4]?=some x4:=by
 obtain⟨a0,a1,a2,a3,a4,a5,b,r,t,l,d,q,h0,h1,HU,_,_,_,_,_,_,_,_,_,_,rfl⟩:=h;exact(Oc h0 h1 HU).2
theorem ZA {c:List Int}{g:xd}(hc:Ux c g){v:V}{k:wU}{m:Nat}(h:Sc g v k m):Tr v 2 x2:=⟨by omega,by rw[h.tr];exact(MC hc).1,by show¬(7:Int)=0;omega⟩
theorem Iu (n:Int):(kk n).length=32:=by simp
noncomputable def g0:xd:=(yD 1 7,L6.set 1 (20,3000,40,40,()),60,20,3,50,200,4,())
theorem MD:dg WX ((([]:List Int),()),())=some ((g0,()),()):=by kernel_rfl
theorem AA:Ux [] g0:=⟨⟨1,7,20,3000,40,40,60,20,3,50,200,4, .inr rfl,by omega,by omega,by omega,by omega,by omega,by omega,by omega,by omega,by omega,by omega,by omega,by omega,rfl⟩⟩
noncomputable def ZB (vt:VT):Option ga.R:=(((dV WX) (((),0,(3,1,0,0,1,2,1,100,5,0,0,0,0,0,(List.replicate 32 (0:Int)),()),()),vt)).bind λr6=>(((dV WX) (((),1,(3,1,0,0,1,1,1,100,3,0,0,0,0,0,(List.replicate 32 (0:Int)),()),()),r6.2)).bind λr7=>(((il WX) (((),()),r7.2)).bind λr8=>(bif r6.1.1 then(bif r7.1.1 then(((fx WX) (((),()),r8.2.2.1,r8.2.2.2.1,r8.2.2.2.2.1,r8.2.2.2.2.2.2.2.1,r8.2.2.2.2.2.2.2.2.1,r8.2.2.2.2.2.2.2.2.2.2.2.2)).bind λr9=>(((fx WX) r9).bind λnA=>(((gk WX) (((),4,0,()),nA.2.2.2.1,())).bind λnM=>(bif (WX.aa (nM.1.1=3)) then(((fx WX) (((),()),nA.2.1,nA.2.2.1,nM.2.1,nA.2.2.2.2)).bind λoV=>(((gk WX) (((),2,0,()),oV.2.2.2.1,())).bind λoG=>some ((((WX.aa (oG.1.1=(-3))),()),())))) else some (((false,()),())))))) else some (((false,()),()))) else some (((false,()),()))))))
def okT:Option ga.R->Bool|some ((b,_),_)=>b|none=>false
theorem ZC {r:Option ga.R}(h:okT r=true):r=some (((true,()),())):=by
 match r with
 |none=>cases h
 |some ((b,()),())=>cases b;cases h;rfl
noncomputable def lkd:tv:=((3,50,0,0,()),())
noncomputable def vv (mt:List LZ)(lg:GC)(o1 o2:List Int):V:={v0 g0 with c:=(c16.set 0 (1,17,17,())).set 1 (2,18,18,()),S:=((List.replicate 16 (s0,())).set 0 ((3,2,gM,1,0,()),())).set 1 ((3,4,gM,1,0,()),()),mt:=mt,F:=(List.replicate 16 (([],false,()),())++ [(([],false,()),())])++ [(([],false,()),())],O:=(List.replicate 16 (([],false,()),())++ [((o1,false,()),())])++ [((o2,false,()),())],L:=((v0 g0).L.set 2 lkd).set 4 lkd,lg:=lg}
theorem P8: ∀(f g h h':Nat->Int) (m0 m1 m2 m3 n:Int),okT (ZB (vv [((),(),m0,()),((),(),m1,()),((),(),m2,()),((),(),m3,())] ((List.range 92).map f,(List.range 32).map g,n,()) ((List.range 38).map h) ((List.range 38).map h')).e)=true:=λf g h h' m0 m1 m2 m3 n=>by kernel_rfl
theorem mt4 {mt:List LZ}(h:mt.length=4): ∃m0 m1 m2 m3,mt=[((),(),m0,()),((),(),m1,()),((),(),m2,()),((),(),m3,())]:=by
 match mt,h with
 | [((),(),a,()),((),(),b,()),((),(),c,()),((),(),d,())],_=>exact⟨a,b,c,d,rfl⟩
theorem SU {p:Unit×(List Int)×Unit}{y1 y2 y3:VT}{r:_}(hN:iu WX ((([]:List Int),()),())=some (.inr (((),()),p,y1)))(h1:fc WX (((),0,2,5,true,()),y1)=some ((true,()),y2))(h2:fc WX (((),1,4,6,true,()),y2)=some ((true,()),y3))(h3:ZB y3=some r):ga WX ((),())=some r:=by
 rw[<-h3];simp only[ga,hN,zdM,h1,h2,zdQ,zdN,ZB]
theorem ME:ga WX ((),())=some (((true,()),())):=by
 have qZ:=MB AA;have hN:iu WX ((([]:List Int),()),())=some (.inr (((),()),((),List.replicate 16 (0:Int),()),(v0 g0).e)):=by
  simp only[iu,MD,zdM,qZ,↓xo,eq_self,iF,zdQ,zdN]
 have hs:=zbv AA;have l2:Lk (v0 g0) 2 2 (3,50,0,0,()):=⟨by omega,hs.q.lp 2 (by omega),qm (by omega) _⟩
 obtain⟨v1,h1,w1⟩:=J2 (x:=x2) (n:=2) (j:=5) (sf:=(3,2,gM,1,(v0 g0).now,())) (L':=(v0 g0).L.set 2 ((3,50,0,0,()),())) (m':=0+46) true (Dc g0 0 (by omega)) rfl hs.q Zt (It 2) (Iu 2) (λnc tag FR b1 b2 b3 b4 b5 _ w b7=>by
  rw[b5 rfl];exact Et (k:=(3,50,0,0,())) hs.q (by omega) b7 (ZA AA hs) l2 (by decide) rfl (Iu 2) b1 (zbw hs 2 x2) b4 b2)
 obtain⟨mt1,lg1,ob1,e1,zdi⟩:=w1.ex rfl;have hq1:=w1.q;have hS1:v1.S=(List.replicate 16 ((s0,()):Ar)).set 0 ((3,2,gM,1,0,()),()):=by rw[e1];rfl
 have zbx:v1.tr=g0.1:=by rw[e1];rfl
 obtain⟨f,o,s,fr,ou,Ir,_⟩:=hq1.fit 1 (by omega)
 have KO:s=s0:=by
  have:=Ir.S;rw[hS1,kL (by omega),qm (by omega)] at this
  cases this;rfl
 subst KO;have l4:Lk v1 4 4 (3,50,0,0,()):=⟨by omega,hq1.lp 4 (by omega),by rw[e1];show((v0 g0).L.set 2 _)[4]?=_;rw[kL (by omega)];exact qm (by omega) _⟩
 have al4:Al v1.S v1.tr 4 x4:=λj s h1 h3=>by
  rw[hS1] at h1;by_cases e:j=0
  ·subst e
   rw[ko (qm (by omega) _)] at h1
   cases h1;exact⟨2,x2,rfl,by omega,by omega,by rw[zbx];exact(MC AA).1,by show¬(7:Int)=0;omega,by show¬(1:Int)=2;omega⟩
  ·rw[kL e,zeH] at h1
   split at h1
   ·cases h1;exact absurd h3 (by show¬(0:Int)=3;omega)
   ·cases h1
 have O0:v1.now=0:=by rw[e1];rfl
 obtain⟨v2,h2,w2⟩:=J2 (x:=x4) (n:=4) (j:=6) (sf:=(3,4,gM,1,v1.now,())) (L':=v1.L.set 4 ((3,50,0,0,()),())) (m':=0+46+46) true Ir rfl hq1 Zu (It 4) (Iu 4) (λnc tag FR b1 b2 b3 b4 b5 _ w b7=>by
  rw[b5 rfl];exact Et (k:=(3,50,0,0,())) hq1 (by omega) b7 ⟨by decide,by rw[zbx];exact(MC AA).2,by show¬(9:Int)=0;omega⟩ l4 (decide_eq_false (λq=>by have:=q.1;change (0:Int)>=3 at this;omega)) rfl (Iu 4) b1 al4 b4 b2)
 obtain⟨mt2,lg2,ob2,e2,zdj⟩:=w2.ex rfl;have Zs:=w2.q.lg;have hmt:=w2.q.mt;have zdk:v2.lg=lg2:=by rw[e2]
 have zdl:v2.mt=mt2:=by rw[e2]
 rw[zdk] at Zs;rw[zdl] at hmt;have ev:v2=vv mt2 lg2 ob1 ob2:=by
  rw[e2,O0,e1];rfl
 obtain⟨b,c,n,u⟩:=lg2;obtain⟨hl1,ZD⟩:=Zs;obtain⟨f',Yg⟩:=mF b (n:=92) hl1;obtain⟨g',CC⟩:=mF c (n:=32) ZD;obtain⟨k1,hk1⟩:=mF ob1 (n:=38) zdi;obtain⟨k2,OZ⟩:=mF ob2 (n:=38) zdj;obtain⟨m0,m1,m2,m3,rfl⟩:=mt4 hmt;have key:=ZC (P8 f' g' k1 k2 m0 m1 m2 m3 n);rw[<-Yg,<-CC,<-hk1,<-OZ] at key;rw[ev] at h2;change fc WX (((),0,2,5,true,()),_)=some ((true,()),_) at h1;change fc WX (((),1,4,6,true,()),_)=some ((true,()),_) at h2;exact SU hN h1 h2 key
abbrev oC:=et×Int×Unit
abbrev ay (o:et):Int:=o.2.2.2.2.2.2.1
abbrev qn (o:et):Int:=o.2.2.2.2.2.2.2.1
def aB (o:et)(q:Int):et:=(o.1,o.2.1,o.2.2.1,o.2.2.2.1,o.2.2.2.2.1,o.2.2.2.2.2.1,q,o.2.2.2.2.2.2.2)
def kM (t i:Int)(o:et):Bool:=decide (o.1=t/\o.2.1=i)
def mg (o:et):Int:=if qn o>0 then min (qn o) (ay o) else ay o
theorem ZE (o:et):mD WX ((o,()),())=some ((mg o,()),()):=by
 unfold mg;by_cases h:qn o>0
 ·simp only[mD,↓xo,ot h,zdO,vf,if_pos h]
 ·simp only[mD,↓xo,bg h,zdN,if_neg h]
section
variable {es:List oC}{hd:Int×Unit×Unit}
theorem Eu (h:es.length<=1000000)(o:et):bS WX (((),o,()),(hd,es,()))=some ((),(hd,es++ [(o,mg o,())],())):=by
 simp only[bS,ZE,zdM,↓xo,zdX,zdY,ot (show(((es.length+(0+1):Nat):Int))*((80:Nat):Int)<=((room:Nat):Int) by unfold room;omega),zdO]
theorem GK {i:Nat}(h:i<es.length)(hl:es.length<=1000000):aW WX (((),(i:Int),((i+1:Nat):Int),()),(es,()))=some (((),()),(es.eraseIdx i,())):=by
 have e0:((i:Int)-(0:Int)).toNat=i:=by omega
 have e1:(es.drop (i+1)).length=es.length-(i+1):=by rw[zei]
 have e2:es.take (0+i)++es.drop (i+1)++es.drop (0+i+(es.length-(i+1)))=es.eraseIdx i++es.drop (es.length-1):=by
  rw[zeC,zfr,show i+(es.length-(i+1))=es.length-1 by omega]
 have e3:(es.eraseIdx i).length=es.length-1:=zfs h;have e4:i+(es.length-(i+1))=es.length-1:=by omega
 have e5:(es.drop (es.length-1)).length=1:=by rw[zei];omega
 simp only[aW,↓xo,oT (0<=(i:Int)/\(i:Int)<=((i+1:Nat):Int)/\((i+1:Nat):Int)<=(es.length:Int)/\(es.length:Int)<=(es.length:Int)),zdO,oF ((i:Int)=((i+1:Nat):Int)),zdN,oT (0<=(0:Int)/\(0:Int)<=(i:Int)/\(i:Int)<=(es.length:Int)),
  oT (0<=((i+1:Nat):Int)/\((i+1:Nat):Int)<=(es.length:Int)),e0,zdP,e1,oT (0+i+(es.length-(i+1))<=es.length),e2,e4]
 have e6: ∀X:List oC,(es.eraseIdx i++X).take (es.length-1)=es.eraseIdx i:=λX=>by rw[List.take_append_of_le_length (by omega),zen (by omega)]
 simp only[e6,zfn,zfp,ot (show 0<=((es.length-1:Nat):Int)/\((es.length-1:Nat):Int)<=(es.length:Int)/\(es.length:Int)<=(((es.eraseIdx i++es.drop (es.length-1)).length-0:Nat):Int) by rw[zdW,e3,e5];omega),zdO]
def V4 (t i:Int)(es:List oC):Int:=match es.findIdx? (λe=>kM t i e.1) with|some n=>(n:Int)|none=> -1
theorem Oe (hl:es.length<=1000000)(t i:Int):fX WX (((),t,i,()),(hd,es,()))=some ((V4 t i es,()),(hd,es,())):=by
 have key: ∀n k:Nat,k+n=es.length->(∀j,j<k->∀e,es[j]?=some e->kM t i e.1=false)->ag (au WX) ((es,((),(),()),(es.length:Int),(k:Int),()),(t,i,()))=some (match es.findIdx? (λe=>kM t i e.1) with|some n=> .inl (((n:Int),()),(t,i,()))|none=> .inr ((),(t,i,()))):=by
  intro n;induction n with
  |zero=>
   intro k hk v8;have:es.findIdx? (λe=>kM t i e.1)=none:=by
    rw[zft];intro e he;obtain⟨j,hj,rfl⟩:=zeu he;exact v8 j (by omega) _ (zdS hj)
   rw[ar,this];simp only[au,↓xo,oF ((k:Int)<(es.length:Int)),zdN]
  |succ n ih=>
   intro k hk v8;have hx:=zdS (l:=es) (i:=k) (by omega)
   generalize hg:es[k]=x at hx;have e1:i64.wrap ((k:Int)+1)=((k+1:Nat):Int):=by rw[nR (by omega) (by omega)];omega
   have hp:fi WX ((x,(),(),()),(t,i,()))=some ((kM t i x.1,()),(t,i,())):=by
    unfold kM;by_cases h1:x.1.1=t
    ·by_cases h2:x.1.2.1=i
     ·simp only[fi,↓xo,ot h1,zdO,ot h2];rw[decide_eq_true ⟨h1,h2⟩]
     ·simp only[fi,↓xo,ot h1,zdO,bg h2];rw[decide_eq_false (λq=>h2 q.2)]
    ·simp only[fi,↓xo,bg h1,zdN];rw[decide_eq_false (λq=>h1 q.1)]
   rw[ar];cases hb:kM t i x.1 with
   |true=>
    have:es.findIdx? (λe=>kM t i e.1)=some k:=by
     rw[zfu];refine⟨by omega,by rw[hg];exact hb,λj hj=>?_⟩
     have:=v8 j hj _ (zdS (by omega))
     simp[this]
    rw[this];simp only[au,↓xo,oT ((k:Int)<(es.length:Int)),oT ((0:Int)<=(k:Int)),zdO,zdP,hx,zdM,hp,hb]
   |false=>
    have qP:=ih (k+1) (by omega) (λj hj e he=>by
     by_cases h:j=k
     ·subst h;rw[hx] at he;cases he;exact hb
     ·exact v8 j (by omega) e he)
    simp only[au,↓xo,xw,oT ((k:Int)<(es.length:Int)),oT ((0:Int)<=(k:Int)),zdO,zdP,hx,zdM,hp,hb,zdN,e1,qP]
 have Fw:=key es.length 0 (by omega) (λj hj=>by omega)
 change ag (au WX) ((es,((),(),()),(es.length:Int),0,()),(t,i,()))=_ at Fw;unfold V4;cases hf:es.findIdx? (λe=>kM t i e.1) with
 |none=>
  rw[hf] at Fw;simp only[fX,bn,↓xl,Fw,zdM]
 |some n=>
  rw[hf] at Fw;simp only[fX,bn,↓xl,Fw,zdM]
theorem P9 (hl:es.length<=1000000)(t i:Int):eQ WX (((),t,i,()),(hd,es,()))=some (match es.findIdx? (λe=>kM t i e.1) with
  |some n=>(((es.getD n ((0,0,0,0,0,0,0,0,0,()),0,())).1,true,()),(hd,es.eraseIdx n,()))|none=>(((0,0,0,0,0,0,0,0,0,()),false,()),(hd,es,()))):=by
 have hf:=Oe (hd:=hd) hl t i;unfold V4 at hf;cases h:es.findIdx? (λe=>kM t i e.1) with
 |none=>
  rw[h] at hf;have e0:(-1:Int)<0:=by omega
  simp only[eQ,hf,zdM,↓xo,ot e0,zdO]
 |some n=>
  rw[h] at hf;have hn:n<es.length:=(List.findIdx?_eq_some_iff_getElem.1 h).1;have hx:=zdS hn;have K4:=GK hn hl;have e1:i64.wrap ((n:Int)+1)=((n+1:Nat):Int):=by rw[nR (by omega) (by omega)];omega
  simp only[eQ,hf,zdM,↓xo,xw,oF ((n:Int)<0),zdN,oT (0<=(n:Int)/\(n:Int)<(es.length:Int)),zdO,zdP,hx,e1,K4,zd3,ze7]
end
section
variable {es:List oC}{hd:Int×Unit×Unit}
theorem yt (hl:es.length<=1000000):dB WX (((),()),(hd,es,()))=some ((es.map (·.1),()),(hd,es,())):=by
 have key: ∀n k:Nat,k+n=es.length->ag (cY WX) (((),(),(),(es.length:Int),(k:Int),()),hd,es,(es.map (·.1)).take k,())=some ((es.map (·.1),()),(hd,es,())):=by
  intro n;induction n with
  |zero=>
   intro k hk;have:k=es.length:=by omega
   subst this;rw[ar];simp only[cY,↓xo,oF ((es.length:Int)<(es.length:Int)),zdN];rw[zen (by simp)]
  |succ n ih=>
   intro k hk;have hx:=zdS (l:=es) (i:=k) (by omega)
   generalize es[k]=x at hx;have e1:i64.wrap ((k:Int)+1)=((k+1:Nat):Int):=by rw[nR (by omega) (by omega)];omega
   have hm:(es.map (·.1))[k]?=some x.1:=by rw[zeT,hx];rfl
   have ht:(es.map (·.1)).take (k+1)=(es.map (·.1)).take k++ [x.1]:=by rw[zfk,hm];rfl
   have hlen:((es.map (·.1)).take k).length=k:=by rw[zeh,zeX];omega
   have qP:=ih (k+1) (by omega)
   rw[ht] at qP;rw[ar];simp only[cY,↓xo,xw,oT ((k:Int)<(es.length:Int)),zdO,oT (0<=(k:Int)/\(k:Int)<(es.length:Int)),zdP,hx,zdM,hlen,zdX,zdY,ot (show(((k+(0+1):Nat):Int))*((72:Nat):Int)<=((room:Nat):Int) by unfold room;omega),e1,qP]
 have:=key es.length 0 (by omega)
 change ag (cY WX) (((),(),(),(es.length:Int),0,()),hd,es,[],())=_ at this;simp only[dB,↓xl,this,zdM]
def oD (e:oC):Prop:=1<=e.2.1/\e.2.1<=ay e.1/\ay e.1<=1048576
def jK (l:List Int):Int:=l.foldr (·+·) 0
theorem ni (a b:List Int):jK (a++b)=jK a+jK b:=by
 induction a with
 |nil=>simp[jK]
 |cons x a ih=>simp only[jK,zes,zeI] at*;omega
theorem wE {l:List Int}{m:Int}(h: ∀x∈l,0<=x/\x<=m):0<=jK l/\jK l<=m*l.length:=by
 induction l with
 |nil=>simp[jK]
 |cons x l ih=>
  have h1:=h x (zd0 ..);have h2:=ih λy hy=>h y (zdZ _ hy);simp only[jK,zeI,zdX] at*;rw[Int.natCast_add,Int.mul_add];omega
theorem SV (hl:es.length<=1000000)(he: ∀e∈es,oD e):gH WX (((),()),(hd,es,()))=some ((jK (es.map λe=>ay e.1),()),(hd,es,())):=by
 have hb: ∀k,0<=jK ((es.map λe=>ay e.1).take k)/\jK ((es.map λe=>ay e.1).take k)<=1048576000000:=λk=>by
  have:=wE (l:=(es.map λe=>ay e.1).take k) (m:=1048576) (λx hx=>by
   have:=zeP hx;obtain⟨e,h1,rfl⟩:=List.mem_map.1 this;have:=he e h1;unfold oD at this;omega)
  have hlen:((es.map λe=>ay e.1).take k).length<=1000000:=by rw[zeh,zeX];omega
  refine⟨this.1,zfv this.2 ?_⟩;have:((((es.map λe=>ay e.1).take k).length:Nat):Int)<=1000000:=by omega
  omega
 have key: ∀n k:Nat,k+n=es.length->ag (du WX) (((),jK ((es.map λe=>ay e.1).take k),(),(es.length:Int),(k:Int),()),hd,es,())=some ((jK (es.map λe=>ay e.1),()),(hd,es,())):=by
  intro n;induction n with
  |zero=>
   intro k hk;have:k=es.length:=by omega
   subst this;rw[ar];simp only[du,↓xo,oF ((es.length:Int)<(es.length:Int)),zdN];rw[zen (by simp)]
  |succ n ih=>
   intro k hk;have hx:=zdS (l:=es) (i:=k) (by omega)
   generalize es[k]=x at hx;have e1:i64.wrap ((k:Int)+1)=((k+1:Nat):Int):=by rw[nR (by omega) (by omega)];omega
   have hm:(es.map λe=>ay e.1)[k]?=some (ay x.1):=by rw[zeT,hx];rfl
   have ht:(es.map λe=>ay e.1).take (k+1)=(es.map λe=>ay e.1).take k++ [ay x.1]:=by rw[zfk,hm];rfl
   have hs:jK ((es.map λe=>ay e.1).take (k+1))=jK ((es.map λe=>ay e.1).take k)+ay x.1:=by rw[ht,ni];simp[jK]
   have b1:=hb k;have b2:=hb (k+1);have qP:=ih (k+1) (by omega)
   rw[hs] at qP b2;rw[ar];have e2:i64.wrap (jK ((es.map λe=>ay e.1).take k)+ay x.1)=jK ((es.map λe=>ay e.1).take k)+ay x.1:=nR (by omega) (by omega)
   simp only[du,↓xo,xw,oT ((k:Int)<(es.length:Int)),zdO,oT (0<=(k:Int)/\(k:Int)<(es.length:Int)),zdP,hx,zdM,e1,e2,qP]
 have:=key es.length 0 (by omega)
 change ag (du WX) (((),0,(),(es.length:Int),0,()),hd,es,())=_ at this;simp only[gH,↓xl,this,zdM]
def yP (e:oC)(r:List oC)(n:Int):List oC:=
 if e.2.1-n>0 then(aB e.1 (ay e.1-n),e.2.1-n,())::r
 else r++(if ay e.1-n>0 then [(aB e.1 (ay e.1-n),mg (aB e.1 (ay e.1-n)),())] else [])
theorem V5 {e:oC}{r:List oC}(hl:r.length<=100000)(he:oD e){n:Int}(h1:1<=n)(h2:n<=e.2.1):gp WX (((),n,()),(hd,e::r,()))=some ((),(hd,yP e r n,())):=by
 obtain⟨a1,a2,a3⟩:=he;have w1:i64.wrap (e.1.2.2.2.2.2.2.1-n)=ay e.1-n:=by
  show i64.wrap (ay e.1-n)=_
  exact nR (by omega) (by omega)
 have w2:i64.wrap (e.2.1-n)=e.2.1-n:=nR (by omega) (by omega)
 have z:(0:Int).toNat=0:=rfl;have i0:0<=(0:Int)/\(0:Int)<((e::r).length:Int):=by simp only[zdX];omega
 unfold yP;by_cases h3:e.2.1-n>0
 ·simp only[gp,↓xo,xw,ot i0,zdO,z,zep,zdM,List.set_cons_zero,w1,w2,ot h3,if_pos h3,aB]
 ·have K4:=GK (es:=(aB e.1 (ay e.1-n),e.2.1-n,())::r) (i:=0) (by simp) (by simp only[zdX];omega)
  change aW WX (((),0,1,()),_)=some (((),()),(r,())) at K4;simp only[aB] at K4;by_cases h4:ay e.1-n>0
  ·have ha:=Eu (es:=r) (hd:=hd) (by omega) (aB e.1 (ay e.1-n))
   simp only[aB] at ha;simp only[gp,↓xo,xw,ot i0,zdO,z,zep,zdM,List.set_cons_zero,w1,w2,bg h3,zdN,K4,ot h4,ha,if_neg h3,if_pos h4,aB]
  ·simp only[gp,↓xo,xw,ot i0,zdO,z,zep,zdM,List.set_cons_zero,w1,w2,bg h3,zdN,K4,bg h4,if_neg h3,if_neg h4,zfe]
end
section
variable {es:List oC}{hd:Int×Unit×Unit}
theorem Of {o:et}(h1:1<=ay o):1<=mg o/\mg o<=ay o:=by
 unfold mg;split<;>omega
theorem J4 {e:oC}{r:List oC}{n:Int}(he:oD e)(hr: ∀x∈r,oD x)(h1:1<=n)(h2:n<=e.2.1):(∀x∈yP e r n,oD x)/\(yP e r n).length<=r.length+1:=by
 obtain⟨a1,a2,a3⟩:=he;unfold yP;have hq: ∀o q,ay (aB o q)=q:=λ_ _=>rfl;split
 ·rename_i h3
  refine⟨λx hx=>?_,zd9 _⟩;rcases List.mem_cons.1 hx with rfl|hx
  ·exact⟨by show 1<=e.2.1-n;omega,by show e.2.1-n<=ay e.1-n;omega,by show ay e.1-n<=_;omega⟩
  ·exact hr x hx
 ·split
  ·rename_i h4
   refine⟨λx hx=>?_,by simp⟩
   rcases List.mem_append.1 hx with hx|hx
   ·exact hr x hx
   ·rw[zfb] at hx
    subst hx;have:=Of (o:=aB e.1 (ay e.1-n)) (by rw[hq];omega)
    exact⟨this.1,this.2,by show ay e.1-n<=_;omega⟩
  ·refine⟨λx hx=>?_,by simp⟩
   rw[zfe] at hx;exact hr x hx
def fH (kp:Int):Nat->Int->List oC->List oC->Bool×List oC×List oC×Int
 |0,q,es,out=>(false,out,es,q)
 |k+1,q,es,out=>if q>0 then
   (match es with
    | []=>(false,out,[],q)
    |e::r=>if e.1.2.2.1=kp then(true,out,e::r,q) else fH kp k (q-min q e.2.1) (yP e r (min q e.2.1)) (out++ [(e.1,min q e.2.1,())]))
  else(false,out,es,q)
theorem Qa (kp:Int): ∀(k:Nat) (q:Int) (es out:List oC),q<=k->q<=1048576->es.length<=100000->out.length+k<=1100000->(∀e∈es,oD e)->ag (cZ WX) (((),kp,q,(),()),hd,es,out,())=
  some (if(fH kp k q es out).1 then .inl (((),true,()),hd,(fH kp k q es out).2.2.1,(fH kp k q es out).2.1,()) else .inr (((fH kp k q es out).2.1,()),hd,(fH kp k q es out).2.2.1,())):=by
 intro k;have z:(0:Int).toNat=0:=rfl;induction k with
 |zero=>
  intro q es out hq _ _ _ _;rw[ar];simp only[cZ,↓xo,oF (q>0),zdN,fH,zdU,if_false]
 |succ k ih=>
  intro q es out hq hq2 hl ho he;rw[ar];unfold fH;by_cases h0:q>0
  ·rw[if_pos h0]
   cases es with
   |nil=>
    have e0: ¬((([]:List oC).length:Nat):Int)>0:=by simp
    simp only[cZ,↓xo,ot h0,zdO,bg e0,zdN,zdU,if_false]
   |cons e r=>
    have i0:0<=(0:Int)/\(0:Int)<((e::r).length:Int):=by simp only[zdX];omega
    have i1:((e::r).length:Int)>0:=i0.2;by_cases hf:e.1.2.2.1=kp
    ·simp only[cZ,↓xo,ot h0,zdO,ot i1,ot i0,z,zep,zdM,ot hf,if_pos hf,if_true]
    ·have hee:=he e (zd0 ..)
     have O0:1<=min q e.2.1:=by have:=hee.1;omega
     have IT:min q e.2.1<=e.2.1:=by omega
     have hg:=V5 (hd:=hd) (e:=e) (r:=r) (by simp only[zdX] at hl;omega) hee O0 IT
     have WW:=J4 hee (λx hx=>he x (zdZ _ hx)) O0 IT;have w1:i64.wrap (q-min q e.2.1)=q-min q e.2.1:=nR (by omega) (by omega)
     have qP:=ih (q-min q e.2.1) (yP e r (min q e.2.1)) (out++ [(e.1,min q e.2.1,())]) (by omega) (by omega) (by simp only[zdX] at hl;omega) (by rw[zdW];simp only[zdX,zdY];omega) WW.1
     simp only[cZ,↓xo,xw,vf,ot h0,zdO,ot i1,ot i0,z,zep,zdM,bg hf,zdN,ot (show(((out.length+([(e.1,min q e.2.1,())]:List oC).length:Nat):Int))*((80:Nat):Int)<=((room:Nat):Int) by unfold room;simp only[zdX,zdY];omega),hg,w1,qP,if_neg hf]
  ·rw[if_neg h0]
   simp only[cZ,↓xo,bg h0,zdN,zdU,if_false]
theorem Og (kp:Int){q:Int}(h0:0<=q)(hq:q<=1048576)(hl:es.length<=100000)(he: ∀e∈es,oD e):gq WX (((),kp,q,()),(hd,es,()))=
  some (if(fH kp q.toNat q es []).1 then .inl (((),true,()),hd,(fH kp q.toNat q es []).2.2.1,(fH kp q.toNat q es []).2.1,()) else .inr (((fH kp q.toNat q es []).2.1,false,()),(hd,(fH kp q.toNat q es []).2.2.1,()))):=by
 have JW:=Qa (hd:=hd) kp q.toNat q es [] (by omega) hq hl (by simp only[zdY];omega) he
 simp only[gq,↓xl,JW,zdM];cases (fH kp q.toNat q es []).1<;>rfl
end
section
variable {es:List oC}{hd:Int×Unit×Unit}
def mb (kp:Int)(es:List oC):Int×Bool:=match es.findIdx? (λe=>decide (e.1.2.2.1=kp)) with
 |some n=>(jK ((es.take n).map λe=>e.2.1),true)
 |none=>(jK (es.map λe=>ay e.1),false)
theorem Ex (he: ∀e∈es,oD e)(hl:es.length<=1000000)(k:Nat):0<=jK ((es.take k).map λe=>e.2.1)/\jK ((es.take k).map λe=>e.2.1)<=1048576000000:=by
 have:=wE (l:=(es.take k).map λe=>e.2.1) (m:=1048576) (λx hx=>by
  obtain⟨e,h1,rfl⟩:=List.mem_map.1 hx;have:=he e (zeP h1);unfold oD at this;omega)
 have hlen:((es.take k).map λe=>e.2.1).length<=1000000:=by rw[zeX,zeh];omega
 refine⟨this.1,zfv this.2 ?_⟩;have:(((((es.take k).map λe=>e.2.1).length:Nat)):Int)<=1000000:=by omega
 omega
theorem J5 (kp:Int)(hl:es.length<=1000000)(he: ∀e∈es,oD e):ft WX (((),kp,()),(hd,es,()))=some (((mb kp es).1,(mb kp es).2,()),(hd,es,())):=by
 have key: ∀n k:Nat,k+n=es.length->(∀j,j<k->∀e,es[j]?=some e->¬e.1.2.2.1=kp)->ag (cV WX) (((),kp,jK ((es.take k).map λe=>e.2.1),(),(es.length:Int),(k:Int),()),hd,es,())=
   some (match es.findIdx? (λe=>decide (e.1.2.2.1=kp)) with|some n=> .inl ((jK ((es.take n).map λe=>e.2.1),true,()),(hd,es,()))|none=> .inr (((),()),(hd,es,()))):=by
  intro n;induction n with
  |zero=>
   intro k hk v8;have:es.findIdx? (λe=>decide (e.1.2.2.1=kp))=none:=by
    rw[zft];intro e he;obtain⟨j,hj,rfl⟩:=zeu he;exact decide_eq_false (v8 j (by omega) _ (zdS hj))
   rw[ar,this];simp only[cV,↓xo,oF ((k:Int)<(es.length:Int)),zdN]
  |succ n ih=>
   intro k hk v8;have hx:=zdS (l:=es) (i:=k) (by omega)
   have hem:=ze0 (l:=es) (n:=k) (by omega)
   generalize hg:es[k]=x at hx hem;have e1:i64.wrap ((k:Int)+1)=((k+1:Nat):Int):=by rw[nR (by omega) (by omega)];omega
   rw[ar];by_cases hb:x.1.2.2.1=kp
   ·have:es.findIdx? (λe=>decide (e.1.2.2.1=kp))=some k:=by
     rw[zfu];refine⟨by omega,by rw[hg];exact decide_eq_true hb,λj hj=>?_⟩
     have:=v8 j hj _ (zdS (by omega))
     simp[this]
    rw[this];simp only[cV,↓xo,oT ((k:Int)<(es.length:Int)),oT (0<=(k:Int)/\(k:Int)<(es.length:Int)),zdO,zdP,hx,zdM,ot hb]
   ·have ht:(es.take (k+1)).map (λe=>e.2.1)=(es.take k).map (λe=>e.2.1)++ [x.2.1]:=by rw[zfk,hx,zfw];rfl
    have hs:jK ((es.take (k+1)).map λe=>e.2.1)=jK ((es.take k).map λe=>e.2.1)+x.2.1:=by rw[ht,ni];simp[jK]
    have b1:=Ex he hl k;have b2:=Ex he hl (k+1);rw[hs] at b2;have w1:i64.wrap (jK ((es.take k).map λe=>e.2.1)+x.2.1)=jK ((es.take k).map λe=>e.2.1)+x.2.1:=nR (by omega) (by omega)
    have qP:=ih (k+1) (by omega) (λj hj e he=>by
     by_cases h:j=k
     ·subst h;rw[hx] at he;cases he;exact hb
     ·exact v8 j (by omega) e he)
    rw[hs] at qP;simp only[cV,↓xo,xw,oT ((k:Int)<(es.length:Int)),oT (0<=(k:Int)/\(k:Int)<(es.length:Int)),zdO,zdP,hx,zdM,bg hb,zdN,e1,w1,qP]
 have h0:=key es.length 0 (by omega) (λj hj=>by omega)
 change ag (cV WX) (((),kp,0,(),(es.length:Int),0,()),hd,es,())=_ at h0;unfold mb;cases hf:es.findIdx? (λe=>decide (e.1.2.2.1=kp)) with
 |none=>
  rw[hf] at h0;simp only[ft,↓xl,h0,zdM,SV hl he]
 |some n=>
  rw[hf] at h0;simp only[ft,↓xl,h0,zdM]
def nS (t i q:Int)(es:List oC):Bool×List oC:=match es.findIdx? (λe=>kM t i e.1) with
 |none=>(false,es)
 |some n=>if q<1\/q>ay (es.getD n ((0,0,0,0,0,0,0,0,0,()),0,())).1 then(false,es) else
   (true,es.set n (aB (es.getD n ((0,0,0,0,0,0,0,0,0,()),0,())).1 q,min (es.getD n ((0,0,0,0,0,0,0,0,0,()),0,())).2.1 q,()))
theorem Oh (hl:es.length<=1000000)(t i q:Int):fE WX (((),t,i,q,()),(hd,es,()))=some (((nS t i q es).1,()),(hd,(nS t i q es).2,())):=by
 have hf:=Oe (hd:=hd) hl t i;unfold V4 at hf;unfold nS;cases h:es.findIdx? (λe=>kM t i e.1) with
 |none=>
  rw[h] at hf;have e0:(-1:Int)<0:=by omega
  simp only[fE,hf,zdM,↓xo,ot e0,zdO]
 |some n=>
  rw[h] at hf;have hn:n<es.length:=(List.findIdx?_eq_some_iff_getElem.1 h).1;have hx:=zdS hn;have hd:es.getD n ((0,0,0,0,0,0,0,0,0,()),0,())=es[n]:=by rw[zd3,hx];rfl
  simp only[hd];generalize es[n]=x at hx;have hs: ∀y,(es.set n y)[n]?=some y:=λy=>by rw[zfj];simp[hn]
  by_cases h1:q<1
  ·simp only[fE,hf,zdM,↓xo,oF ((n:Int)<0),zdN,ot h1,zdO,if_pos (Or.inl h1:q<1\/q>ay x.1)]
  ·by_cases h2:q>ay x.1
   ·simp only[fE,hf,zdM,↓xo,oF ((n:Int)<0),zdN,bg h1,oT (0<=(n:Int)/\(n:Int)<(es.length:Int)),zdO,zdP,hx,ot h2,if_pos (Or.inr h2:q<1\/q>ay x.1)]
   ·have h3: ¬(q<1\/q>ay x.1):=by omega
    simp only[fE,hf,zdM,↓xo,vf,oF ((n:Int)<0),zdN,bg h1,oT (0<=(n:Int)/\(n:Int)<(es.length:Int)),zdO,zdP,hx,bg h2,hs,zfo,if_neg h3,aB]
end
abbrev br (o:et):Int:=o.2.2.2.1
abbrev gV (o:et):Int:=o.2.2.2.2.1
abbrev aE (o:et):Int:=o.2.2.2.2.2.1
abbrev ml (o:et):Int:=o.2.2.2.2.2.2.2.2.1
def Fg (n lo hi:Int):Bool:=decide (lo<=n)&&decide (n<=hi)
theorem SW (n lo hi:Int):aM WX ((n,lo,hi,()),())=some ((Fg n lo hi,()),()):=by
 unfold Fg;by_cases h:lo<=n
 ·simp only[aM,↓xo,ot (show n>=lo from h),zdO,decide_eq_true h,Bool.true_and,ke]
 ·simp only[aM,↓xo,bg (show¬n>=lo from h),zdN,decide_eq_false h,zfx]
def pv (o:et):Bool:=
 (bif decide (gV o=2) then decide (aE o=0) else Fg (aE o) 1 1048576)&& ((decide (qn o=0)||(decide (gV o=1)||decide (gV o=5)))&& ((Fg o.1 0 31&& (Fg o.2.2.1 0 7&&Fg o.2.1 0 1073741824))&& ((Fg (br o) 1 2&& (Fg (gV o) 1 5&&Fg (ay o) 1 1048576))&& (Fg (qn o) 0 (ay o)&&Fg (ml o) 0 1048576))))
theorem AB (o:et):eW WX ((o,()),())=some (((bif pv o then 0 else 1),()),()):=by
 unfold pv;simp only[eW,SW,zdM,↓xo,ke];generalize decide (gV o=2)=b1;generalize decide (aE o=0)=b2;generalize Fg (aE o) 1 1048576=b3;generalize decide (qn o=0)=b4;generalize decide (gV o=1)=b5;generalize decide (gV o=5)=b6;generalize Fg o.1 0 31=b7;generalize Fg o.2.2.1 0 7=b8;generalize Fg o.2.1 0 1073741824=b9;generalize Fg (br o) 1 2=b10;generalize Fg (gV o) 1 5=b11;generalize Fg (ay o) 1 1048576=b12;generalize Fg (qn o) 0 (ay o)=b13;generalize Fg (ml o) 0 1048576=b14;cases b1<;>cases b2<;>cases b3<;>cases b4<;>cases b5<;>cases b6<;>cases b7<;>first|rfl|(cases b8<;>cases b9<;>cases b10<;>cases b11<;>cases b12<;>first|rfl|(cases b13<;>cases b14<;>rfl))
def lU (o:et)(p:Int):Bool:=if gV o=2 then true else if br o=1 then decide (aE o>=p) else decide (aE o<=p)
theorem vR (o:et)(p:Int):cQ WX ((o,p,()),())=some ((lU o p,()),()):=by
 unfold lU;by_cases h:gV o=2
 ·simp only[cQ,↓xo,ot h,zdO,if_pos h]
 ·by_cases h2:br o=1
  ·simp only[cQ,↓xo,bg h,zdN,ot h2,zdO,if_neg h,if_pos h2,ke]
  ·simp only[cQ,↓xo,bg h,zdN,bg h2,if_neg h,if_neg h2,ke]
def iQ (s a b:Int):Bool:=if s=1 then decide (a>b) else decide (a<b)
theorem Qb (s a b:Int):jN WX ((s,a,b,()),())=some ((iQ s a b,()),()):=by
 unfold iQ;by_cases h:s=1
 ·simp only[jN,↓xo,ot h,zdO,if_pos h,ke]
 ·simp only[jN,↓xo,bg h,zdN,if_neg h,ke]
def Bx (o:et)(l:Int):Bool:=if ml o<=0 then false else if l<=0 then false else if br o=1 then decide (l>=ml o) else decide (l<=ml o)
theorem MF (o:et)(l:Int):kJ WX ((o,l,()),())=some ((Bx o l,()),()):=by
 unfold Bx;by_cases h:ml o<=0
 ·simp only[kJ,↓xo,ot h,zdO,if_pos h]
 ·by_cases h1:l<=0
  ·simp only[kJ,↓xo,bg h,ot h1,zdO,zdN,if_neg h,if_pos h1]
  ·by_cases h2:br o=1
   ·simp only[kJ,↓xo,bg h,bg h1,zdN,ot h2,zdO,if_neg h,if_neg h1,if_pos h2,ke]
   ·simp only[kJ,↓xo,bg h,bg h1,zdN,bg h2,if_neg h,if_neg h1,if_neg h2,ke]
abbrev MG:=(Unit×Unit×Unit)×Int×Int×Unit
abbrev o0:et:=(0,0,0,0,0,0,0,0,0,())
def tw (st:List gF)(p:Nat)(pr:Int)(es:List oC):Prop:= ∃n,p=n+1/\st[n]?=some ((pr,(),()),es,())
def dJ (st:List gF)(p:Nat):List oC:=match p with|0=> []|n+1=>(st.getD n ((0,(),()),[],())).2.1
def fI (st:List gF)(p:Nat):Int:=match p with|0=>0|n+1=>(st.getD n ((0,(),()),[],())).1.1
theorem tw.oM {st:List gF}{p:Nat}{pr:Int}{es:List oC}(h:tw st p pr es):dJ st p=es/\fI st p=pr:=by
 obtain⟨n,rfl,h⟩:=h;simp only[dJ,fI,zd3,h,ze7,and_self]
def Ci (t i:Int)(st:List gF)(p:Nat):Option et:=((dJ st p).map (·.1)).find? (kM t i)
def Cj (st:List gF)(l:List Nat):Prop:=l.length<=1000/\∀p∈l,∃pr es,tw st p pr es/\es.length<=100000
section
variable {hdr:MG}{bs ss:List Nat}{st:List gF}{t i:Int}
theorem Oi (s idx a b c:Int)(os:List et)(hl:os.length<=1000000)(hs:s=0\/s=1)(oz:et):
  ag (cD WX) (((),t,i,(),s,idx,a,(),b,c,os,(os.length:Int),0,()),hdr,bs,ss,oz,st,())=
   some (match os.find? (kM t i) with|some o=>(if s=0 then .inl (((),idx,(),()),hdr,o,bs,ss,st,()) else .inr (.inl (((),idx,(),()),hdr,o,bs,ss,st,())))|none=> .inr (.inr (((),t,i,(),s,a,(),b,c,()),hdr,oz,bs,ss,st,()))):=by
 have key: ∀n k:Nat,k+n=os.length->(∀j,j<k->∀e,os[j]?=some e->kM t i e=false)->ag (cD WX) (((),t,i,(),s,idx,a,(),b,c,os,(os.length:Int),(k:Int),()),hdr,bs,ss,oz,st,())=
   some (match os.find? (kM t i) with|some o=>(if s=0 then .inl (((),idx,(),()),hdr,o,bs,ss,st,()) else .inr (.inl (((),idx,(),()),hdr,o,bs,ss,st,())))|none=> .inr (.inr (((),t,i,(),s,a,(),b,c,()),hdr,oz,bs,ss,st,()))):=by
  intro n;induction n with
  |zero=>
   intro k hk v8;have:os.find? (kM t i)=none:=by
    rw[List.find?_eq_none];intro e he;obtain⟨j,hj,rfl⟩:=zeu he;rw[v8 j (by omega) _ (zdS hj)]
    simp
   rw[ar,this];simp only[cD,↓xo,oF ((k:Int)<(os.length:Int)),zdN]
  |succ n ih=>
   intro k hk v8;have hx:=zdS (l:=os) (i:=k) (by omega)
   generalize hg:os[k]=x at hx;have e1:i64.wrap ((k:Int)+1)=((k+1:Nat):Int):=by rw[nR (by omega) (by omega)];omega
   have qP:kM t i x=false->_:=λhb=>ih (k+1) (by omega) (λj hj e he=>by
    by_cases h:j=k
    ·subst h;rw[hx] at he;cases he;exact hb
    ·exact v8 j (by omega) e he)
   rw[ar];by_cases h1:x.1=t
   ·by_cases h2:x.2.1=i
    ·have hb:kM t i x=true:=decide_eq_true ⟨h1,h2⟩
     have:os.find? (kM t i)=some x:=by
      rw[List.find?_eq_some_iff_getElem];refine⟨hb,k,by omega,hg,λj hj=>?_⟩
      have:=v8 j hj _ (zdS (by omega))
      simp[this]
     rw[this];rcases hs with rfl|rfl
     ·have z0:(0:Int)=((0:Nat):Int):=rfl
      simp only[cD,↓xo,oT ((k:Int)<(os.length:Int)),oT ((0:Int)<=(k:Int)),zdO,zdP,hx,zdM,ot h1,ot h2,ot z0,if_true]
     ·have z0: ¬(1:Int)=((0:Nat):Int):=by omega
      have z1:(1:Int)=((1:Nat):Int):=rfl;have z2: ¬(1:Int)=0:=by omega
      simp only[cD,↓xo,oT ((k:Int)<(os.length:Int)),oT ((0:Int)<=(k:Int)),zdO,zdP,hx,zdM,ot h1,ot h2,bg z0,zdN,ot z1,if_neg z2]
    ·have Uh:=qP (decide_eq_false (λq=>h2 q.2))
     simp only[cD,↓xo,xw,oT ((k:Int)<(os.length:Int)),oT ((0:Int)<=(k:Int)),zdO,zdP,hx,zdM,ot h1,bg h2,zdN,e1,Uh]
   ·have Uh:=qP (decide_eq_false (λq=>h1 q.1))
    simp only[cD,↓xo,xw,oT ((k:Int)<(os.length:Int)),oT ((0:Int)<=(k:Int)),zdO,zdP,hx,zdM,bg h1,zdN,e1,Uh]
 exact key os.length 0 (by omega) (λj hj=>by omega)
theorem Ck:eP WX=cD WX:=rfl
def jZ (t i:Int)(st:List gF):List Nat->Option (Nat×et)
 | []=>none
 |p::ps=>match Ci t i st p with|some o=>some (0,o)|none=>(jZ t i st ps).map λx=>(x.1+1,x.2)
theorem V6 (h:Cj st bs)(a:Int)(oz:et):ag (eG WX) (((),t,i,(),0,a,(),(bs.length:Int),0,()),hdr,bs,ss,oz,st,())=
  some (match jZ t i st bs with|some (m,o)=> .inl (((),(m:Int),(),()),hdr,o,bs,ss,st,())|none=> .inr (.inr (((),t,i,(),a,()),hdr,oz,bs,ss,st,()))):=by
 have key: ∀n k:Nat,k+n=bs.length->ag (eG WX) (((),t,i,(),0,a,(),(bs.length:Int),(k:Int),()),hdr,bs,ss,oz,st,())=
   some (match jZ t i st (bs.drop k) with|some (m,o)=> .inl (((),((k+m:Nat):Int),(),()),hdr,o,bs,ss,st,())|none=> .inr (.inr (((),t,i,(),a,()),hdr,oz,bs,ss,st,()))):=by
  intro n;induction n with
  |zero=>
   intro k hk;have:bs.drop k=[]:=zfi (by omega)
   rw[ar,this];simp only[eG,↓xo,oF ((k:Int)<(bs.length:Int)),zdN,jZ]
  |succ n ih=>
   intro k hk;have th:k<bs.length:=by omega
   have hx:=zdS th;obtain⟨pr,es,hp,Oj⟩:=h.2 _ (ze0 th);have hd:bs.drop k=bs[k]::bs.drop (k+1):=zfy th;generalize bs[k]=p at hx hp hd;have kU:=hp.oM;obtain⟨m,rfl,hm⟩:=hp;have e1:i64.wrap ((k:Int)+1)=((k+1:Nat):Int):=by rw[nR (by omega) (by have:=h.1;omega)];omega
   have ho:=yt (es:=es) (hd:=(pr,(),())) (by omega)
   have h8:=Oi (hdr:=hdr) (bs:=bs) (ss:=ss) (st:=st) (t:=t) (i:=i) 0 (k:Int) a (bs.length:Int) (k:Int) (es.map (·.1)) (by rw[zeX];omega) (.inl rfl) oz
   have qP:=ih (k+1) (by omega)
   rw[ar,hd];simp only[jZ,Ci,kU.1];cases hf:(es.map (·.1)).find? (kM t i) with
   |some o=>
    rw[hf] at h8;simp only[if_true] at h8;simp only[eG,↓xo,oT ((k:Int)<(bs.length:Int)),oT (0<=(k:Int)/\(k:Int)<(bs.length:Int)),zdO,zdP,hx,zdM,an,hm,ho,aJ hm,↓xl,h8,zeM]
   |none=>
    rw[hf] at h8;simp only[eG,↓xo,xw,oT ((k:Int)<(bs.length:Int)),oT (0<=(k:Int)/\(k:Int)<(bs.length:Int)),zdO,zdP,hx,zdM,an,hm,ho,aJ hm,↓xl,h8,e1,qP];cases jZ t i st (bs.drop (k+1)) with
    |none=>rfl
    |some x=>simp only[zd2];rw[show k+1+x.1=k+(x.1+1) by omega]
 have:=key bs.length 0 (by omega)
 simp only[zfn,zeC] at this;exact this
theorem SX (h:Cj st ss)(a:Int)(oz:et):ag (dR WX) (((),t,i,(),1,a,(),(ss.length:Int),0,()),hdr,bs,ss,oz,st,())=
  some (match jZ t i st ss with|some (m,o)=> .inr (.inl (((),(m:Int),(),()),hdr,o,bs,ss,st,()))|none=> .inr (.inr (((),t,i,(),a,()),hdr,oz,bs,ss,st,()))):=by
 have key: ∀n k:Nat,k+n=ss.length->ag (dR WX) (((),t,i,(),1,a,(),(ss.length:Int),(k:Int),()),hdr,bs,ss,oz,st,())=
   some (match jZ t i st (ss.drop k) with|some (m,o)=> .inr (.inl (((),((k+m:Nat):Int),(),()),hdr,o,bs,ss,st,()))|none=> .inr (.inr (((),t,i,(),a,()),hdr,oz,bs,ss,st,()))):=by
  intro n;induction n with
  |zero=>
   intro k hk;have:ss.drop k=[]:=zfi (by omega)
   rw[ar,this];simp only[dR,↓xo,oF ((k:Int)<(ss.length:Int)),zdN,jZ]
  |succ n ih=>
   intro k hk;have th:k<ss.length:=by omega
   have hx:=zdS th;obtain⟨pr,es,hp,Oj⟩:=h.2 _ (ze0 th);have hd:ss.drop k=ss[k]::ss.drop (k+1):=zfy th;generalize ss[k]=p at hx hp hd;have kU:=hp.oM;obtain⟨m,rfl,hm⟩:=hp;have e1:i64.wrap ((k:Int)+1)=((k+1:Nat):Int):=by rw[nR (by omega) (by have:=h.1;omega)];omega
   have ho:=yt (es:=es) (hd:=(pr,(),())) (by omega)
   have h8:=Oi (hdr:=hdr) (bs:=bs) (ss:=ss) (st:=st) (t:=t) (i:=i) 1 (k:Int) a (ss.length:Int) (k:Int) (es.map (·.1)) (by rw[zeX];omega) (.inr rfl) oz
   have qP:=ih (k+1) (by omega)
   rw[ar,hd];simp only[jZ,Ci,kU.1];cases hf:(es.map (·.1)).find? (kM t i) with
   |some o=>
    rw[hf] at h8;simp only[if_neg (show¬(1:Int)=0 by omega)] at h8
    simp only[dR,↓xo,oT ((k:Int)<(ss.length:Int)),oT (0<=(k:Int)/\(k:Int)<(ss.length:Int)),zdO,zdP,hx,zdM,an,hm,ho,aJ hm,↓xl,Ck,h8,zeM]
   |none=>
    rw[hf] at h8;simp only[dR,↓xo,xw,oT ((k:Int)<(ss.length:Int)),oT (0<=(k:Int)/\(k:Int)<(ss.length:Int)),zdO,zdP,hx,zdM,an,hm,ho,aJ hm,↓xl,Ck,h8,e1,qP];cases jZ t i st (ss.drop (k+1)) with
    |none=>rfl
    |some x=>simp only[zd2];rw[show k+1+x.1=k+(x.1+1) by omega]
 have:=key ss.length 0 (by omega)
 simp only[zfn,zeC] at this;exact this
theorem Ey (hb:Cj st bs)(hs:Cj st ss):fQ WX (((),t,i,()),(hdr,bs,ss,st,()))=some (match jZ t i st bs with
  |some (m,o)=> .inl (((),(m:Int),o,()),(hdr,bs,ss,st,()))
  |none=>match jZ t i st ss with
   |some (m,o)=> .inr (.inl (((),(m:Int),o,()),(hdr,bs,ss,st,())))
   |none=> .inr (.inr (((),0,o0,()),(hdr,bs,ss,st,())))):=by
 have h5:=V6 (hdr:=hdr) (ss:=ss) (t:=t) (i:=i) hb 0 o0;have h5b:=SX (hdr:=hdr) (bs:=bs) (t:=t) (i:=i) hs 1 o0;have e0:(0:Int)<2:=by omega
 have e1:(1:Int)<2:=by omega
 have z0:(0:Int)=((0:Nat):Int):=rfl;have z1: ¬(1:Int)=((0:Nat):Int):=by omega
 have z2:(1:Int)=((1:Nat):Int):=rfl;have w1:i64.wrap (0+1)=1:=by rw[nR (by omega) (by omega)];rfl
 have w2:i64.wrap (1+1)=2:=by rw[nR (by omega) (by omega)];rfl
 have e2: ¬(2:Int)<2:=by omega
 have hl:ag (dY WX) (((),t,i,(),0,()),hdr,bs,ss,o0,st,())=some (match jZ t i st bs with
   |some (m,o)=> .inl (((),(m:Int),(),()),hdr,o,bs,ss,st,())
   |none=>match jZ t i st ss with
    |some (m,o)=> .inr (.inl (((),(m:Int),(),()),hdr,o,bs,ss,st,()))
    |none=> .inr (.inr (((),()),hdr,o0,bs,ss,st,()))):=by
  rw[ar];cases hf:jZ t i st bs with
  |some x=>
   rw[hf] at h5;simp only[dY,↓xo,ot e0,zdO,ot z0,↓xl,h5,zdM]
  |none=>
   rw[hf] at h5;simp only[dY,↓xo,xw,ot e0,zdO,ot z0,↓xl,h5,zdM,w1];rw[ar];cases xF:jZ t i st ss with
   |some x=>
    rw[xF] at h5b;simp only[dY,↓xo,ot e1,zdO,bg z1,zdN,ot z2,↓xl,h5b,zdM]
   |none=>
    rw[xF] at h5b;simp only[dY,↓xo,xw,ot e1,zdO,bg z1,zdN,ot z2,↓xl,h5b,zdM,w2];rw[ar];simp only[dY,↓xo,bg e2,zdN]
 cases hf:jZ t i st bs with
 |some x=>
  rw[hf] at hl;simp only[fQ,↓xl,hl,zdM]
 |none=>
  rw[hf] at hl;cases xF:jZ t i st ss with
  |some x=>
   rw[xF] at hl;simp only[fQ,↓xl,hl,zdM]
  |none=>
   rw[xF] at hl;simp only[fQ,↓xl,hl,zdM]
end
theorem SY {l:List Nat}{st:List gF}{i:Nat}(h:i<l.length)(hl:l.length<=1000000):bf WX (((),(i:Int),((i+1:Nat):Int),()),(l,st,()))=some (((),()),(l.eraseIdx i,st,())):=by
 have e0:((i:Int)-(0:Int)).toNat=i:=by omega
 have e1:(l.drop (i+1)).length=l.length-(i+1):=by rw[zei]
 have e2:l.take (0+i)++l.drop (i+1)++l.drop (0+i+(l.length-(i+1)))=l.eraseIdx i++l.drop (l.length-1):=by
  rw[zeC,zfr,show i+(l.length-(i+1))=l.length-1 by omega]
 have e3:(l.eraseIdx i).length=l.length-1:=zfs h;have e4:i+(l.length-(i+1))=l.length-1:=by omega
 have e5:(l.drop (l.length-1)).length=1:=by rw[zei];omega
 have e6: ∀X:List Nat,(l.eraseIdx i++X).take (l.length-1)=l.eraseIdx i:=λX=>by rw[List.take_append_of_le_length (by omega),zen (by omega)]
 simp only[bf,↓xo,oT (0<=(i:Int)/\(i:Int)<=((i+1:Nat):Int)/\((i+1:Nat):Int)<=(l.length:Int)/\(l.length:Int)<=(l.length:Int)),zdO,oF ((i:Int)=((i+1:Nat):Int)),zdN,oT (0<=(0:Int)/\(0:Int)<=(i:Int)/\(i:Int)<=(l.length:Int)),
  oT (0<=((i+1:Nat):Int)/\((i+1:Nat):Int)<=(l.length:Int)),e0,zdP,e1,oT (0+i+(l.length-(i+1))<=l.length),e2,e4]
 simp only[e6,zfn,zfp,ot (show 0<=((l.length-1:Nat):Int)/\((l.length-1:Nat):Int)<=(l.length:Int)/\(l.length:Int)<=(((l.eraseIdx i++l.drop (l.length-1)).length-0:Nat):Int) by rw[zdW,e3,e5];omega),zdO]
section
variable {hdr:MG}{bs ss:List Nat}{st:List gF}{t i:Int}
def mN (l:List Nat)(m:Nat)(es:List oC):List Nat:=if es=[] then l.eraseIdx m else l
theorem J6 {m p:Nat}{pr:Int}{es:List oC}(h:bs[m]?=some p)(hp:tw st p pr es)(hl:bs.length<=1000):jr WX (((),(m:Int),()),(hdr,bs,ss,st,()))=some ((),(hdr,mN bs m es,ss,st,())):=by
 have hm:=(List.getElem?_eq_some_iff.1 h).1;obtain⟨n,rfl,hn⟩:=hp;have hd:=SY (st:=st) hm (by omega)
 have e1:i64.wrap ((m:Int)+1)=((m+1:Nat):Int):=by rw[nR (by omega) (by omega)];omega
 unfold mN;by_cases h0:es=[]
 ·subst h0
  have z:((([]:List oC).length:Nat):Int)=0:=rfl;simp only[jr,↓xo,xw,oT (0<=(m:Int)/\(m:Int)<(bs.length:Int)),zdO,zdP,h,zdM,an,hn,dD,ot z,aJ hn,e1,hd,if_true]
 ·have z: ¬((es.length:Nat):Int)=0:=λe=>h0 (zem (by omega))
  simp only[jr,↓xo,oT (0<=(m:Int)/\(m:Int)<(bs.length:Int)),zdO,zdP,h,zdM,an,hn,dD,bg z,zdN,aJ hn,if_neg h0]
theorem GL {m p:Nat}{pr:Int}{es:List oC}(h:ss[m]?=some p)(hp:tw st p pr es)(hl:ss.length<=1000):gx WX (((),(m:Int),()),(hdr,bs,ss,st,()))=some ((),(hdr,bs,mN ss m es,st,())):=by
 have hm:=(List.getElem?_eq_some_iff.1 h).1;obtain⟨n,rfl,hn⟩:=hp;have hd:=SY (st:=st) hm (by omega)
 have e1:i64.wrap ((m:Int)+1)=((m+1:Nat):Int):=by rw[nR (by omega) (by omega)];omega
 unfold mN;by_cases h0:es=[]
 ·subst h0
  have z:((([]:List oC).length:Nat):Int)=0:=rfl;simp only[gx,↓xo,xw,oT (0<=(m:Int)/\(m:Int)<(ss.length:Int)),zdO,zdP,h,zdM,an,hn,dD,ot z,aJ hn,e1,hd,if_true]
 ·have z: ¬((es.length:Nat):Int)=0:=λe=>h0 (zem (by omega))
  simp only[gx,↓xo,oT (0<=(m:Int)/\(m:Int)<(ss.length:Int)),zdO,zdP,h,zdM,an,hn,dD,bg z,zdN,aJ hn,if_neg h0]
theorem uf: ∀{l:List Nat} {m:Nat} {o:et},jZ t i st l=some (m,o)->∃p,l[m]?=some p/\Ci t i st p=some o
 | [],_,_,h=>by cases h
 |p::ps,m,o,h=>by
  simp only[jZ] at h;cases e:Ci t i st p with
  |some x=>rw[e] at h;cases h;exact⟨p,rfl,e⟩
  |none=>
   rw[e] at h;simp only at h;cases e2:jZ t i st ps with
   |none=>rw[e2] at h;cases h
   |some y=>
    rw[e2] at h;obtain⟨m',o'⟩:=y;cases h;obtain⟨q,h1,h2⟩:=uf e2;exact⟨q,by simpa using h1,h2⟩
theorem J7 (hb:Cj st bs)(hs:Cj st ss):fq WX (((),t,i,()),(hdr,bs,ss,st,()))=some ((match jZ t i st bs with|some (_,o)=>(o,true,())|none=>match jZ t i st ss with|some (_,o)=>(o,true,())|none=>(o0,false,())),(hdr,bs,ss,st,())):=by
 have h:=Ey (hdr:=hdr) (t:=t) (i:=i) hb hs;cases hf:jZ t i st bs with
 |some x=>rw[hf] at h;simp only[fq,h,zdM]
 |none=>
  rw[hf] at h;cases xF:jZ t i st ss with
  |some x=>rw[xF] at h;simp only[fq,h,zdM]
  |none=>rw[xF] at h;simp only[fq,h,zdM]
def qw (t i:Int)(es:List oC):List oC:=match es.findIdx? (λe=>kM t i e.1) with|some n=>es.eraseIdx n|none=>es
theorem Ez {es:List oC}{hd:Int×Unit×Unit}(hl:es.length<=1000000){o:et}(h:(es.map (·.1)).find? (kM t i)=some o):eQ WX (((),t,i,()),(hd,es,()))=some ((o,true,()),(hd,qw t i es,())):=by
 rw[P9 hl];unfold qw;rw[List.find?_map] at h;simp only[zeJ] at h;obtain⟨e,h1,rfl⟩:=h;have h2:=h1;rw[List.find?_eq_some_iff_getElem] at h2;obtain⟨h3,n,hn,h4,h5⟩:=h2;have:es.findIdx? (λe=>kM t i e.1)=some n:=by
  rw[zfu];refine⟨hn,by rw[h4];exact h3,λj hj=>?_⟩
  have:=h5 j hj;simpa using this
 rw[this];simp only[zd3,zdS hn,ze7,h4]
end
def kt (st:List gF)(p:Nat)(es:List oC):List gF:=st.set (p-1) ((fI st p,(),()),es,())
section
variable {hdr:MG}{bs ss:List Nat}{st:List gF}{t i:Int}
theorem tw.put {p:Nat}{pr:Int}{es oa:List oC}(h:tw st p pr es):tw (kt st p oa) p pr oa:=by
 have he:=h.oM;obtain⟨n,rfl,hn⟩:=h;refine⟨n,rfl,?_⟩;unfold kt;rw[he.2];have:=(List.getElem?_eq_some_iff.1 hn).1;show(st.set n _)[n]?=_
 rw[zfj];simp[this]
theorem tw.tN {p q:Nat}{pr:Int}{es oa:List oC}(h:tw st q pr es)(lV:q≠p)(hp:p≠0):tw (kt st p oa) q pr es:=by
 obtain⟨n,rfl,hn⟩:=h;refine⟨n,rfl,?_⟩;unfold kt;rw[zer (by omega)];exact hn
def EA (t i:Int)(bs ss:List Nat)(st:List gF):et×Bool×List Nat×List Nat×List gF:=match jZ t i st bs with
 |some (m,o)=>(o,true,mN bs m (qw t i (dJ st (bs.getD m 0))),ss,kt st (bs.getD m 0) (qw t i (dJ st (bs.getD m 0))))
 |none=>match jZ t i st ss with
  |some (m,o)=>(o,true,bs,mN ss m (qw t i (dJ st (ss.getD m 0))),kt st (ss.getD m 0) (qw t i (dJ st (ss.getD m 0))))
  |none=>(o0,false,bs,ss,st)
theorem MH (hb:Cj st bs)(hs:Cj st ss):fY WX (((),t,i,()),(hdr,bs,ss,st,()))=some (((EA t i bs ss st).1,(EA t i bs ss st).2.1,()),(hdr,(EA t i bs ss st).2.2.1,(EA t i bs ss st).2.2.2.1,(EA t i bs ss st).2.2.2.2,())):=by
 have h:=Ey (hdr:=hdr) (t:=t) (i:=i) hb hs;unfold EA;cases hf:jZ t i st bs with
 |some x=>
  rw[hf] at h;obtain⟨m,o⟩:=x;obtain⟨p,h1,h2⟩:=uf hf;have hm:=(List.getElem?_eq_some_iff.1 h1).1;obtain⟨pr,es,h3,h4⟩:=hb.2 p (zeO h1);have h5:=h3.oM;have h6:=h3;obtain⟨n,rfl,hn⟩:=h6;simp only[Ci,h5.1] at h2;have hr:=Ez (hd:=(pr,(),())) (by omega) h2
  have EB:=J6 (hdr:=hdr) (ss:=ss) (es:=qw t i es) h1 (h3.put (oa:=qw t i es)) hb.1;have hg:bs.getD m 0=n+1:=by rw[zd3,h1];rfl
  have CP:kt st (n+1) (qw t i es)=st.set n ((pr,(),()),qw t i es,()):=by unfold kt;rw[h5.2];rfl
  rw[CP] at EB;simp only[fY,h,zdM,↓xo,oT (0<=(m:Int)/\(m:Int)<(bs.length:Int)),zdO,zdP,h1,an,hn,hr,EB,hg,h5.1,CP]
 |none=>
  rw[hf] at h;cases xF:jZ t i st ss with
  |some x=>
   rw[xF] at h;obtain⟨m,o⟩:=x;obtain⟨p,h1,h2⟩:=uf xF;have hm:=(List.getElem?_eq_some_iff.1 h1).1;obtain⟨pr,es,h3,h4⟩:=hs.2 p (zeO h1);have h5:=h3.oM;have h6:=h3;obtain⟨n,rfl,hn⟩:=h6;simp only[Ci,h5.1] at h2;have hr:=Ez (hd:=(pr,(),())) (by omega) h2
   have EB:=GL (hdr:=hdr) (bs:=bs) (es:=qw t i es) h1 (h3.put (oa:=qw t i es)) hs.1;have hg:ss.getD m 0=n+1:=by rw[zd3,h1];rfl
   have CP:kt st (n+1) (qw t i es)=st.set n ((pr,(),()),qw t i es,()):=by unfold kt;rw[h5.2];rfl
   rw[CP] at EB;simp only[fY,h,zdM,↓xo,oT (0<=(m:Int)/\(m:Int)<(ss.length:Int)),zdO,zdP,h1,an,hn,hr,EB,hg,h5.1,CP]
  |none=>
   rw[xF] at h;simp only[fY,h,zdM]
def Iv (t i q:Int)(bs ss:List Nat)(st:List gF):Bool×List gF:=match jZ t i st bs with
 |some (m,_)=>((nS t i q (dJ st (bs.getD m 0))).1,kt st (bs.getD m 0) (nS t i q (dJ st (bs.getD m 0))).2)
 |none=>match jZ t i st ss with
  |some (m,_)=>((nS t i q (dJ st (ss.getD m 0))).1,kt st (ss.getD m 0) (nS t i q (dJ st (ss.getD m 0))).2)
  |none=>(false,st)
theorem SZ (hb:Cj st bs)(hs:Cj st ss)(q:Int):gL WX (((),t,i,q,()),(hdr,bs,ss,st,()))=some (((Iv t i q bs ss st).1,()),(hdr,bs,ss,(Iv t i q bs ss st).2,())):=by
 have h:=Ey (hdr:=hdr) (t:=t) (i:=i) hb hs;unfold Iv;cases hf:jZ t i st bs with
 |some x=>
  rw[hf] at h;obtain⟨m,o⟩:=x;obtain⟨p,h1,h2⟩:=uf hf;have hm:=(List.getElem?_eq_some_iff.1 h1).1;obtain⟨pr,es,h3,h4⟩:=hb.2 p (zeO h1);have h5:=h3.oM;obtain⟨n,rfl,hn⟩:=h3;have hr:=Oh (hd:=(pr,(),())) (es:=es) (by omega) t i q
  have hg:bs.getD m 0=n+1:=by rw[zd3,h1];rfl
  have CP:kt st (n+1) (nS t i q es).2=st.set n ((pr,(),()),(nS t i q es).2,()):=by unfold kt;rw[h5.2];rfl
  simp only[gL,h,zdM,↓xo,oT (0<=(m:Int)/\(m:Int)<(bs.length:Int)),zdO,zdP,h1,an,hn,hr,hg,h5.1,CP]
 |none=>
  rw[hf] at h;cases xF:jZ t i st ss with
  |some x=>
   rw[xF] at h;obtain⟨m,o⟩:=x;obtain⟨p,h1,h2⟩:=uf xF;have hm:=(List.getElem?_eq_some_iff.1 h1).1;obtain⟨pr,es,h3,h4⟩:=hs.2 p (zeO h1);have h5:=h3.oM;obtain⟨n,rfl,hn⟩:=h3;have hr:=Oh (hd:=(pr,(),())) (es:=es) (by omega) t i q
   have hg:ss.getD m 0=n+1:=by rw[zd3,h1];rfl
   have CP:kt st (n+1) (nS t i q es).2=st.set n ((pr,(),()),(nS t i q es).2,()):=by unfold kt;rw[h5.2];rfl
   simp only[gL,h,zdM,↓xo,oT (0<=(m:Int)/\(m:Int)<(ss.length:Int)),zdO,zdP,h1,an,hn,hr,hg,h5.1,CP]
  |none=>
   rw[xF] at h;simp only[gL,h,zdM]
def pw (st:List gF)(l:List Nat):Int:=jK (l.map λp=>((dJ st p).length:Int))
theorem Iw (h:Cj st bs)(k:Nat):0<=pw st (bs.take k)/\pw st (bs.take k)<=100000000:=by
 have:=wE (l:=(bs.take k).map λp=>((dJ st p).length:Int)) (m:=100000) (λx hx=>by
  obtain⟨p,h1,rfl⟩:=List.mem_map.1 hx;obtain⟨pr,es,h2,h3⟩:=h.2 p (zeP h1);rw[h2.oM.1];omega)
 have hlen:((bs.take k).map λp=>((dJ st p).length:Int)).length<=1000:=by rw[zeX,zeh];have:=h.1;omega
 refine⟨this.1,zfv this.2 ?_⟩;have:(((((bs.take k).map λp=>((dJ st p).length:Int)).length:Nat)):Int)<=1000:=by omega
 omega
theorem ZF (h:Cj st bs)(c:Int)(hc:0<=c/\c<=1000000000)(z:Int):ag (fC WX) (((),c,((),(),()),z,(),(bs.length:Int),0,()),hdr,bs,ss,st,())=some (((),c+pw st bs,((),(),()),z,()),hdr,bs,ss,st,()):=by
 have key: ∀n k:Nat,k+n=bs.length->ag (fC WX) (((),c+pw st (bs.take k),((),(),()),z,(),(bs.length:Int),(k:Int),()),hdr,bs,ss,st,())=some (((),c+pw st bs,((),(),()),z,()),hdr,bs,ss,st,()):=by
  intro n;induction n with
  |zero=>
   intro k hk;have:bs.take k=bs:=zen (by omega)
   rw[ar,this];simp only[fC,↓xo,oF ((k:Int)<(bs.length:Int)),zdN]
  |succ n ih=>
   intro k hk;have th:k<bs.length:=by omega
   have hx:=zdS th;obtain⟨pr,es,hp,Oj⟩:=h.2 _ (ze0 th);generalize bs[k]=p at hx hp;have kU:=hp.oM;have ht:pw st (bs.take (k+1))=pw st (bs.take k)+(es.length:Int):=by
    unfold pw;rw[zfk,hx,zfw,ni];simp[jK,kU.1]
   obtain⟨m,rfl,hm⟩:=hp;have b1:=Iw h k;have e1:i64.wrap ((k:Int)+1)=((k+1:Nat):Int):=by rw[nR (by omega) (by have:=h.1;omega)];omega
   have e2:i64.wrap (c+pw st (bs.take k)+(es.length:Int))=c+pw st (bs.take (k+1)):=by rw[nR (by omega) (by omega),ht];omega
   have qP:=ih (k+1) (by omega)
   rw[ar];simp only[fC,↓xo,xw,oT ((k:Int)<(bs.length:Int)),oT (0<=(k:Int)/\(k:Int)<(bs.length:Int)),zdO,zdP,hx,zdM,an,hm,dD,aJ hm,e1,e2,qP]
 have:=key bs.length 0 (by omega)
 have e:c+pw st (bs.take 0)=c:=by simp[pw,jK]
 rw[e] at this;exact this
end
section
variable {hdr:MG}{bs ss:List Nat}{st:List gF}{t i:Int}
theorem V7 (h:Cj st ss)(c:Int)(hc:0<=c/\c<=1000000000)(z:Int):ag (eU WX) (((),c,((),(),()),z,(),(ss.length:Int),0,()),hdr,bs,ss,st,())=some (((),c+pw st ss,((),(),()),z,()),hdr,bs,ss,st,()):=by
 have key: ∀n k:Nat,k+n=ss.length->ag (eU WX) (((),c+pw st (ss.take k),((),(),()),z,(),(ss.length:Int),(k:Int),()),hdr,bs,ss,st,())=some (((),c+pw st ss,((),(),()),z,()),hdr,bs,ss,st,()):=by
  intro n;induction n with
  |zero=>
   intro k hk;have:ss.take k=ss:=zen (by omega)
   rw[ar,this];simp only[eU,↓xo,oF ((k:Int)<(ss.length:Int)),zdN]
  |succ n ih=>
   intro k hk;have th:k<ss.length:=by omega
   have hx:=zdS th;obtain⟨pr,es,hp,Oj⟩:=h.2 _ (ze0 th);generalize ss[k]=p at hx hp;have kU:=hp.oM;have ht:pw st (ss.take (k+1))=pw st (ss.take k)+(es.length:Int):=by
    unfold pw;rw[zfk,hx,zfw,ni];simp[jK,kU.1]
   obtain⟨m,rfl,hm⟩:=hp;have b1:=Iw h k;have e1:i64.wrap ((k:Int)+1)=((k+1:Nat):Int):=by rw[nR (by omega) (by have:=h.1;omega)];omega
   have e2:i64.wrap (c+pw st (ss.take k)+(es.length:Int))=c+pw st (ss.take (k+1)):=by rw[nR (by omega) (by omega),ht];omega
   have qP:=ih (k+1) (by omega)
   rw[ar];simp only[eU,↓xo,xw,oT ((k:Int)<(ss.length:Int)),oT (0<=(k:Int)/\(k:Int)<(ss.length:Int)),zdO,zdP,hx,zdM,an,hm,dD,aJ hm,e1,e2,qP]
 have:=key ss.length 0 (by omega)
 have e:c+pw st (ss.take 0)=c:=by simp[pw,jK]
 rw[e] at this;exact this
theorem Ok (hb:Cj st bs)(hs:Cj st ss):iw WX (((),()),(hdr,bs,ss,st,()))=some ((pw st bs+pw st ss,()),(hdr,bs,ss,st,())):=by
 have c1:=Iw hb bs.length;rw[ze4] at c1;have h1:=ZF (hdr:=hdr) (ss:=ss) hb 0 (by omega) 0
 have h2:=V7 (hdr:=hdr) (bs:=bs) hs (pw st bs) (by omega) 1
 have e0:(0:Int)<2:=by omega
 have e1:(1:Int)<2:=by omega
 have e2: ¬(2:Int)<2:=by omega
 have z0:(0:Int)=((0:Nat):Int):=rfl;have z1: ¬(1:Int)=((0:Nat):Int):=by omega
 have z2:(1:Int)=((1:Nat):Int):=rfl;have w1:i64.wrap (0+1)=1:=by rw[nR (by omega) (by omega)];rfl
 have w2:i64.wrap (1+1)=2:=by rw[nR (by omega) (by omega)];rfl
 rw[Int.zero_add] at h1;have hl:ag (fD WX) (((),0,((),(),()),0,()),hdr,bs,ss,st,())=some ((pw st bs+pw st ss,()),(hdr,bs,ss,st,())):=by
  rw[ar];simp only[fD,↓xo,xw,ot e0,zdO,ot z0,↓xl,h1,zdM,w1];rw[ar];simp only[fD,↓xo,xw,ot e1,zdO,bg z1,zdN,ot z2,↓xl,h2,zdM,w2];rw[ar];simp only[fD,↓xo,bg e2,zdN]
 simp only[iw,↓xl,hl,zdM]
def qI (st:List gF)(l:List Nat):List et:=l.flatMap λp=>(dJ st p).map (·.1)
theorem S2 (l:List Nat):((qI st l).length:Int)=pw st l:=by
 unfold qI pw;induction l with
 |nil=>rfl
 |cons p l ih=>simp only[zeA,zdW,zeX,zeK,jK,zeI] at*;omega
theorem J8 {l:List Nat}(h:Cj st l)(k:Nat):(qI st (l.take k)).length<=100000000:=by
 have h1:=S2 (st:=st) (l.take k);have h2:=Iw h k;omega
theorem Qc (h:Cj st bs):ag (dM WX) (((),(),(),(bs.length:Int),0,()),hdr,bs,ss,[],st,())=some ((qI st bs,()),hdr,bs,ss,st,()):=by
 have key: ∀n k:Nat,k+n=bs.length->ag (dM WX) (((),(),(),(bs.length:Int),(k:Int),()),hdr,bs,ss,qI st (bs.take k),st,())=some ((qI st bs,()),hdr,bs,ss,st,()):=by
  intro n;induction n with
  |zero=>
   intro k hk;have:bs.take k=bs:=zen (by omega)
   rw[ar,this];simp only[dM,↓xo,oF ((k:Int)<(bs.length:Int)),zdN]
  |succ n ih=>
   intro k hk;have th:k<bs.length:=by omega
   have hx:=zdS th;obtain⟨pr,es,hp,Oj⟩:=h.2 _ (ze0 th);generalize bs[k]=p at hx hp;have kU:=hp.oM;have ht:qI st (bs.take (k+1))=qI st (bs.take k)++es.map (·.1):=by
    unfold qI;rw[zfk,hx,List.flatMap_append];simp[kU.1]
   have b1:=J8 h k;obtain⟨m,rfl,hm⟩:=hp;have e1:i64.wrap ((k:Int)+1)=((k+1:Nat):Int):=by rw[nR (by omega) (by have:=h.1;omega)];omega
   have ho:=yt (es:=es) (hd:=(pr,(),())) (by omega)
   have qP:=ih (k+1) (by omega)
   rw[ht] at qP;rw[ar];simp only[dM,↓xo,xw,oT ((k:Int)<(bs.length:Int)),oT (0<=(k:Int)/\(k:Int)<(bs.length:Int)),zdO,zdP,hx,zdM,an,hm,ho,aJ hm,ot (show(((qI st (bs.take k)).length+(es.map (·.1)).length:Nat):Int)*((72:Nat):Int)<=((room:Nat):Int) by rw[zeX];unfold room;omega),e1,qP]
 have:=key bs.length 0 (by omega)
 exact this
theorem MI (h:Cj st ss):ag (dn WX) (((),(),(),(ss.length:Int),0,()),hdr,bs,ss,[],st,())=some ((qI st ss,()),hdr,bs,ss,st,()):=by
 have key: ∀n k:Nat,k+n=ss.length->ag (dn WX) (((),(),(),(ss.length:Int),(k:Int),()),hdr,bs,ss,qI st (ss.take k),st,())=some ((qI st ss,()),hdr,bs,ss,st,()):=by
  intro n;induction n with
  |zero=>
   intro k hk;have:ss.take k=ss:=zen (by omega)
   rw[ar,this];simp only[dn,↓xo,oF ((k:Int)<(ss.length:Int)),zdN]
  |succ n ih=>
   intro k hk;have th:k<ss.length:=by omega
   have hx:=zdS th;obtain⟨pr,es,hp,Oj⟩:=h.2 _ (ze0 th);generalize ss[k]=p at hx hp;have kU:=hp.oM;have ht:qI st (ss.take (k+1))=qI st (ss.take k)++es.map (·.1):=by
    unfold qI;rw[zfk,hx,List.flatMap_append];simp[kU.1]
   have b1:=J8 h k;obtain⟨m,rfl,hm⟩:=hp;have e1:i64.wrap ((k:Int)+1)=((k+1:Nat):Int):=by rw[nR (by omega) (by have:=h.1;omega)];omega
   have ho:=yt (es:=es) (hd:=(pr,(),())) (by omega)
   have qP:=ih (k+1) (by omega)
   rw[ht] at qP;rw[ar];simp only[dn,↓xo,xw,oT ((k:Int)<(ss.length:Int)),oT (0<=(k:Int)/\(k:Int)<(ss.length:Int)),zdO,zdP,hx,zdM,an,hm,ho,aJ hm,ot (show(((qI st (ss.take k)).length+(es.map (·.1)).length:Nat):Int)*((72:Nat):Int)<=((room:Nat):Int) by rw[zeX];unfold room;omega),e1,qP]
 have:=key ss.length 0 (by omega)
 exact this
theorem Df (s:Int)(hs:s=1\/s=2)(x:MG×List Nat×List Nat×List gF×Unit):eM WX (((),s,()),x)=some (if s=1 then .inr (.inl (((),()),x)) else .inr (.inr (((),()),x))):=by
 rcases hs with rfl|rfl
 ·have w:i64.wrap (1-1)=((0:Nat):Int):=by rw[nR (by omega) (by omega)];rfl
  simp only[eM,↓xo,xw,eq_self,iF,zdQ,zdN,w,zdO,if_true]
 ·have w:i64.wrap (2-1)=1:=by rw[nR (by omega) (by omega)];rfl
  have e1: ¬(2:Int)=1:=by omega
  have z1: ¬(1:Int)=((0:Nat):Int):=by omega
  have z2:(1:Int)=((1:Nat):Int):=rfl;simp only[eM,↓xo,xw,bg e1,zdR,zdO,eq_self,iF,zdQ,zdN,w,bg z1,ot z2,if_neg e1]
theorem zu (o:et)(hs:br o=1\/br o=2)(x:MG×List Nat×List Nat×List gF×Unit):ed WX (((),o,()),x)=some (if br o=1 then .inr (.inr (((),()),x)) else .inr (.inl (((),()),x))):=by
 have w:i64.wrap (3-br o)=3-br o:=nR (by omega) (by omega)
 have h:=Df (3-br o) (by omega) x
 rcases hs with h1|h1
 ·rw[if_neg (by omega)] at h
  simp only[ed,xw,w,h,zdM,if_pos h1]
 ·rw[if_pos (by omega)] at h
  have h2: ¬br o=1:=by omega
  simp only[ed,xw,w,h,zdM,if_neg h2]
theorem MJ (hb:Cj st bs)(hs:Cj st ss)(s:Int)(h:s=1\/s=2):fB WX (((),s,()),(hdr,bs,ss,st,()))=some (.inr ((qI st (if s=1 then bs else ss),()),(hdr,bs,ss,st,()))):=by
 have h0:=Df s h (hdr,bs,ss,st,());have h1:=Qc (hdr:=hdr) (ss:=ss) hb;have h2:=MI (hdr:=hdr) (bs:=bs) hs;by_cases e:s=1
 ·rw[if_pos e] at h0
  simp only[fB,h0,zdM,↓xl,h1,if_pos e]
 ·rw[if_neg e] at h0
  simp only[fB,h0,zdM,↓xl,h2,if_neg e]
end
def yE (st:List gF)(l:List Nat):Prop:=Cj st l/\∀p∈l,∀e∈dJ st p,oD e
def qx (o:et)(st:List gF):List Nat->Int->Bool
 | [],_=>false
 |p::ps,q=>if(!lU o (fI st p))=true then false else if(mb o.2.2.1 (dJ st p)).1>=q then true else if(mb o.2.2.1 (dJ st p)).2=true then false else qx o st ps (q-(mb o.2.2.1 (dJ st p)).1)
theorem Cl (kp:Int){es:List oC}(hl:es.length<=1000000)(he: ∀e∈es,oD e):0<=(mb kp es).1/\(mb kp es).1<=1048576000000:=by
 unfold mb;split
 ·exact Ex he hl _
 ·have:=wE (l:=es.map λe=>ay e.1) (m:=1048576) (λx hx=>by
   obtain⟨e,h1,rfl⟩:=List.mem_map.1 hx;have:=he e h1;unfold oD at this;omega)
  rw[zeX] at this;refine⟨this.1,zfv this.2 ?_⟩;have:((es.length:Nat):Int)<=1000000:=by omega
  omega
def iS (o:et):Bool:=decide (gV o=1)||decide (gV o=5)
theorem iU (o:et):jQ WX ((o,()),())=some ((iS o,()),()):=by
 unfold iS;by_cases h:gV o=1
 ·simp only[jQ,↓xo,ot h,zdO,decide_eq_true h,Bool.true_or]
 ·simp only[jQ,↓xo,bg h,zdN,decide_eq_false h,zfd,ke]
section
variable {hdr:MG}{bs ss:List Nat}{st:List gF}{t i:Int}
theorem S5 (h:yE st bs)(o:et): ∀(n k:Nat) (q:Int),k+n=bs.length->1<=q->q<=1048576->∃o',ag (de WX) (((),(),(),(bs.length:Int),(k:Int),()),hdr,bs,ss,aB o q,st,())=some (if qx o st (bs.drop k) q then .inr ((true,()),hdr,o',bs,ss,st,()) else .inl ((),hdr,o',bs,ss,st,())):=by
 intro n;induction n with
 |zero=>
  intro k q hk h1 h2;have:bs.drop k=[]:=zfi (by omega)
  refine⟨aB o q,?_⟩;rw[ar,this];simp only[de,↓xo,oF ((k:Int)<(bs.length:Int)),zdN,qx,zdU,if_false]
 |succ n ih=>
  intro k q hk h1 h2;have th:k<bs.length:=by omega
  have hx:=zdS th;have tq:=ze0 th;obtain⟨pr,es,hp,Oj⟩:=h.1.2 _ tq;have mh:=h.2 _ tq;have hd:bs.drop k=bs[k]::bs.drop (k+1):=zfy th;generalize bs[k]=p at hx hp hd mh;have kU:=hp.oM;rw[kU.1] at mh;obtain⟨m,rfl,hm⟩:=hp;have e1:i64.wrap ((k:Int)+1)=((k+1:Nat):Int):=by rw[nR (by omega) (by have:=h.1.1;omega)];omega
  have hc:cQ WX ((aB o q,pr,()),())=some ((lU o pr,()),()):=vR (aB o q) pr;have hr:=J5 (hd:=(pr,(),())) (es:=es) o.2.2.1 (by omega) mh
  rw[ar,hd];simp only[qx,kU.1,kU.2];cases CQ:lU o pr with
  |false=>
   refine⟨aB o q,?_⟩;rw[CQ] at hc;simp only[de,↓xo,oT ((k:Int)<(bs.length:Int)),oT (0<=(k:Int)/\(k:Int)<(bs.length:Int)),zdO,zdP,hx,zdM,an,hm,ai,hc,zdR,zdU,if_false,if_true,aJ hm,zdQ]
  |true=>
   rw[CQ] at hc;simp only[zdQ,zdU,if_false];have hq:(aB o q).2.2.2.2.2.2.1=q:=rfl;have hf:(aB o q).2.2.1=o.2.2.1:=rfl;have b0:=Cl o.2.2.1 (es:=es) (by omega) mh
   by_cases sB:(mb o.2.2.1 es).1>=q
   ·refine⟨aB o q,?_⟩
    rw[if_pos sB];simp only[de,↓xo,oT ((k:Int)<(bs.length:Int)),oT (0<=(k:Int)/\(k:Int)<(bs.length:Int)),zdO,zdP,hx,zdM,an,hm,ai,hc,zdQ,zdN,aJ hm,hf,hr,hq,ot sB,if_true]
   ·rw[if_neg sB]
    have w1:i64.wrap (q-(mb o.2.2.1 es).1)=q-(mb o.2.2.1 es).1:=nR (by omega) (by omega)
    cases tn:(mb o.2.2.1 es).2 with
    |true=>
     refine⟨aB o (q-(mb o.2.2.1 es).1),?_⟩;simp only[de,↓xo,xw,oT ((k:Int)<(bs.length:Int)),oT (0<=(k:Int)/\(k:Int)<(bs.length:Int)),zdO,zdP,hx,zdM,an,hm,ai,hc,zdQ,zdN,aJ hm,hf,hr,hq,bg sB,tn,w1,if_true,zdU,if_false];rfl
    |false=>
     obtain⟨o',qP⟩:=ih (k+1) (q-(mb o.2.2.1 es).1) (by omega) (by omega) (by omega)
     refine⟨o',?_⟩;simp only[aB] at qP;simp only[de,↓xo,xw,oT ((k:Int)<(bs.length:Int)),oT (0<=(k:Int)/\(k:Int)<(bs.length:Int)),zdO,zdP,hx,zdM,an,hm,ai,hc,zdQ,zdN,aJ hm,hf,hr,hq,bg sB,tn,w1,e1,zdU,if_false];simp only[aB,qP]
theorem Qd (h:yE st ss)(o:et): ∀(n k:Nat) (q:Int),k+n=ss.length->1<=q->q<=1048576->∃o',ag (cJ WX) (((),(),(),(ss.length:Int),(k:Int),()),hdr,bs,ss,aB o q,st,())=some (if qx o st (ss.drop k) q then .inr ((true,()),hdr,o',bs,ss,st,()) else .inl ((),hdr,o',bs,ss,st,())):=by
 intro n;induction n with
 |zero=>
  intro k q hk h1 h2;have:ss.drop k=[]:=zfi (by omega)
  refine⟨aB o q,?_⟩;rw[ar,this];simp only[cJ,↓xo,oF ((k:Int)<(ss.length:Int)),zdN,qx,zdU,if_false]
 |succ n ih=>
  intro k q hk h1 h2;have th:k<ss.length:=by omega
  have hx:=zdS th;have tq:=ze0 th;obtain⟨pr,es,hp,Oj⟩:=h.1.2 _ tq;have mh:=h.2 _ tq;have hd:ss.drop k=ss[k]::ss.drop (k+1):=zfy th;generalize ss[k]=p at hx hp hd mh;have kU:=hp.oM;rw[kU.1] at mh;obtain⟨m,rfl,hm⟩:=hp;have e1:i64.wrap ((k:Int)+1)=((k+1:Nat):Int):=by rw[nR (by omega) (by have:=h.1.1;omega)];omega
  have hc:cQ WX ((aB o q,pr,()),())=some ((lU o pr,()),()):=vR (aB o q) pr;have hr:=J5 (hd:=(pr,(),())) (es:=es) o.2.2.1 (by omega) mh
  rw[ar,hd];simp only[qx,kU.1,kU.2];cases CQ:lU o pr with
  |false=>
   refine⟨aB o q,?_⟩;rw[CQ] at hc;simp only[cJ,↓xo,oT ((k:Int)<(ss.length:Int)),oT (0<=(k:Int)/\(k:Int)<(ss.length:Int)),zdO,zdP,hx,zdM,an,hm,ai,hc,zdR,zdU,if_false,if_true,aJ hm,zdQ]
  |true=>
   rw[CQ] at hc;simp only[zdQ,zdU,if_false];have hq:(aB o q).2.2.2.2.2.2.1=q:=rfl;have hf:(aB o q).2.2.1=o.2.2.1:=rfl;have b0:=Cl o.2.2.1 (es:=es) (by omega) mh
   by_cases sB:(mb o.2.2.1 es).1>=q
   ·refine⟨aB o q,?_⟩
    rw[if_pos sB];simp only[cJ,↓xo,oT ((k:Int)<(ss.length:Int)),oT (0<=(k:Int)/\(k:Int)<(ss.length:Int)),zdO,zdP,hx,zdM,an,hm,ai,hc,zdQ,zdN,aJ hm,hf,hr,hq,ot sB,if_true]
   ·rw[if_neg sB]
    have w1:i64.wrap (q-(mb o.2.2.1 es).1)=q-(mb o.2.2.1 es).1:=nR (by omega) (by omega)
    cases tn:(mb o.2.2.1 es).2 with
    |true=>
     refine⟨aB o (q-(mb o.2.2.1 es).1),?_⟩;simp only[cJ,↓xo,xw,oT ((k:Int)<(ss.length:Int)),oT (0<=(k:Int)/\(k:Int)<(ss.length:Int)),zdO,zdP,hx,zdM,an,hm,ai,hc,zdQ,zdN,aJ hm,hf,hr,hq,bg sB,tn,w1,if_true,zdU,if_false];rfl
    |false=>
     obtain⟨o',qP⟩:=ih (k+1) (q-(mb o.2.2.1 es).1) (by omega) (by omega) (by omega)
     refine⟨o',?_⟩;simp only[aB] at qP;simp only[cJ,↓xo,xw,oT ((k:Int)<(ss.length:Int)),oT (0<=(k:Int)/\(k:Int)<(ss.length:Int)),zdO,zdP,hx,zdM,an,hm,ai,hc,zdQ,zdN,aJ hm,hf,hr,hq,bg sB,tn,w1,e1,zdU,if_false];simp only[aB,qP]
theorem Cm (o:et):aB o (ay o)=o:=rfl
theorem Qe (hb:yE st bs)(hs:yE st ss)(o:et)(Lt:br o=1\/br o=2)(hq:1<=ay o/\ay o<=1048576):ez WX (((),o,()),(hdr,bs,ss,st,()))=some ((qx o st (if br o=1 then ss else bs) (ay o),()),(hdr,bs,ss,st,())):=by
 have ha:=zu o Lt (hdr,bs,ss,st,());by_cases h1:br o=1
 ·obtain⟨o',h⟩:=Qd (hdr:=hdr) (bs:=bs) hs o ss.length 0 (ay o) (by omega) hq.1 hq.2
  change ag (cJ WX) (((),(),(),(ss.length:Int),0,()),hdr,bs,ss,o,st,())=_ at h;rw[zfn] at h;rw[if_pos h1] at ha;rw[if_pos h1];simp only[ez,ha,zdM,↓xl,h];cases qx o st ss (ay o)<;>rfl
 ·obtain⟨o',h⟩:=S5 (hdr:=hdr) (ss:=ss) hb o bs.length 0 (ay o) (by omega) hq.1 hq.2
  change ag (de WX) (((),(),(),(bs.length:Int),0,()),hdr,bs,ss,o,st,())=_ at h;rw[zfn] at h;rw[if_neg h1] at ha;rw[if_neg h1];simp only[ez,ha,zdM,↓xl,h];cases qx o st bs (ay o)<;>rfl
end
def zw (hs:List oC):Prop:= ∀h∈hs,1<=h.2.1
def jx (hs:List oC):Int:=jK (hs.map λh=>h.2.1)
theorem FT (a b:List oC):jx (a++b)=jx a+jx b:=by unfold jx;rw[zfw,ni]
theorem EC (kp:Int): ∀(k:Nat) (q:Int) (es out:List oC),0<=q->q<=k->(∀e∈es,oD e)->zw out->
  zw (fH kp k q es out).2.1/\jx (fH kp k q es out).2.1+(fH kp k q es out).2.2.2=jx out+q/\0<=(fH kp k q es out).2.2.2/\(fH kp k q es out).2.2.2<=q/\(∀e∈(fH kp k q es out).2.2.1,oD e)/\(fH kp k q es out).2.2.1.length<=es.length/\
   ((fH kp k q es out).1=true->(fH kp k q es out).2.2.1≠ [])/\((fH kp k q es out).1=false->(fH kp k q es out).2.2.2=0\/(fH kp k q es out).2.2.1=[])/\(fH kp k q es out).2.1.length<=out.length+k:=by
 intro k;induction k with
 |zero=>
  intro q es out h0 hq he ho;unfold fH;exact⟨ho,rfl,h0,zeS _,he,zd9 _,λh=>(by cases h),λ_=> .inl (by show q=0;omega),zd9 _⟩
 |succ k ih=>
  intro q es out h0 hq he ho;unfold fH;by_cases hq0:q>0
  ·rw[if_pos hq0]
   cases es with
   |nil=>exact⟨ho,rfl,h0,zeS _,he,zd9 _,λh=>(by cases h),λ_=> .inr rfl,by show out.length<=_;omega⟩
   |cons e r=>
    simp only;by_cases hf:e.1.2.2.1=kp
    ·rw[if_pos hf]
     exact⟨ho,rfl,h0,zeS _,he,zd9 _,λ_=>(λh=>by cases h),λh=>(by cases h),by show out.length<=_;omega⟩
    ·rw[if_neg hf]
     have hee:=he e (zd0 ..);have O0:1<=min q e.2.1:=by have:=hee.1;omega
     have IT:min q e.2.1<=e.2.1:=by omega
     have hg:=J4 hee (λx hx=>he x (zdZ _ hx)) O0 IT;have mW:zw (out++ [(e.1,min q e.2.1,())]):=λh hh=>by
      rcases List.mem_append.1 hh with hh|hh
      ·exact ho h hh
      ·rw[zfb] at hh;subst hh;exact O0
     obtain⟨i1,i2,i3,i4,i5,i6,i7,i8,i9⟩:=ih (q-min q e.2.1) (yP e r (min q e.2.1)) (out++ [(e.1,min q e.2.1,())]) (by omega) (by omega) hg.1 mW
     have hs:jx (out++ [(e.1,min q e.2.1,())])=jx out+min q e.2.1:=by rw[FT];simp[jx,jK]
     rw[hs] at i2;refine⟨i1,by omega,i3,by omega,i5,?_,i7,i8,?_⟩
     ·have:=hg.2;simp only[zdX];omega
     ·rw[zdW] at i9;simp only[zdX,zdY] at i9;omega
  ·rw[if_neg hq0]
   exact⟨ho,rfl,h0,zeS _,he,zd9 _,λh=>(by cases h),λ_=> .inl (by show q=0;omega),by show out.length<=_;omega⟩
def mO (gS:Int):List oC->Int×et×List np->Int×et×List np
 | [],s=>s
 |h::r,(no,o,out)=>mO gS r (i64.wrap (no+1),aB o (ay o-h.2.1),out++ [(h.1,o,gS,h.2.1,i64.wrap (no+1),())])
def rL (gS last:Int)(hs:List oC):Int:=if hs=[] then last else gS
section
variable {bs ss:List Nat}{st:List gF}
theorem Xv (gS:Int)(own:Bool): ∀(hs:List oC) (pre:List oC) (last no:Int) (o:et) (out:List np),zw hs->jx hs<=ay o->ay o<=1048576->(pre++hs).length<=2000000->out.length+hs.length<=100000000->
  ag (cM WX) (((),(),(),(),gS,own,pre++hs,((pre++hs).length:Int),(pre.length:Int),()),(((),(),()),last,no,()),bs,ss,o,out,st,())=
   some (((),(),(),(),own,()),(((),(),()),rL gS last hs,(mO gS hs (no,o,out)).1,()),(mO gS hs (no,o,out)).2.1,bs,ss,(mO gS hs (no,o,out)).2.2,st,()):=by
 intro hs;induction hs with
 |nil=>
  intro pre last no o out _ _ _ _ _;rw[ar];simp only[cM,↓xo,zfe,oF ((pre.length:Int)<(pre.length:Int)),zdN,mO,rL,if_true]
 |cons h r ih=>
  intro pre last no o out hh hs hq hl ho;have h1:=hh h (zd0 ..);have Xd:jx (h::r)=h.2.1+jx r:=by simp[jx,jK]
  have hr0:0<=jx r:=by
   unfold jx;have: ∀l:List oC,zw l->0<=jK (l.map λh=>h.2.1):=by
    intro l;induction l with
    |nil=>intro _;simp[jK]
    |cons x l ihl=>
     intro hx;have a:=hx x (zd0 ..);have b:=ihl λy hy=>hx y (zdZ _ hy);simp only[zeK,jK,zeI] at*;omega
   exact this r λx hx=>hh x (zdZ _ hx)
  rw[Xd] at hs;have hx:(pre++h::r)[pre.length]?=some h:=by simp
  have hlen:(pre++h::r).length=pre.length+(r.length+1):=by simp
  have e1:i64.wrap ((pre.length:Int)+1)=(((pre++ [h]).length:Nat):Int):=by rw[nR (by omega) (by omega),zdW];simp
  have w1:i64.wrap (o.2.2.2.2.2.2.1-h.2.1)=ay o-h.2.1:=by
   show i64.wrap (ay o-h.2.1)=_
   exact nR (by omega) (by omega)
  have hpp:pre++h::r=(pre++ [h])++r:=by simp
  have hl1:rL gS gS r=gS:=by unfold rL;split<;>rfl
  have ZD:rL gS last (h::r)=gS:=by unfold rL;rw[if_neg (by intro e;cases e)]
  have uC:ay (aB o (ay o-h.2.1))=ay o-h.2.1:=rfl;have qP:=ih (pre++ [h]) gS (i64.wrap (no+1)) (aB o (ay o-h.2.1)) (out++ [(h.1,o,gS,h.2.1,i64.wrap (no+1),())]) (λx hx=>hh x (zdZ _ hx)) (by rw[uC];omega) (by rw[uC];omega) (by rw[<-hpp];exact hl) (by rw[zdW];simp only[zdX,zdY] at*;omega)
  rw[<-hpp,hl1] at qP;simp only[aB] at qP;have pT:(((out.length+([(h.1,o,gS,h.2.1,i64.wrap (no+1),())]:List np).length:Nat):Int))*((168:Nat):Int)<=((room:Nat):Int):=by
   unfold room;simp only[zdX,zdY] at*;omega
  rw[ar];simp only[cM,↓xo,xw,oT ((pre.length:Int)<((pre++h::r).length:Int)),oT ((0:Int)<=(pre.length:Int)),zdO,zdP,hx,zdM,ot pT,e1,w1,qP,mO,ZD,aB]
theorem MK:eC WX=cM WX:=rfl
theorem By (gS:Int): ∀(hs:List oC) (no:Int) (o:et) (out:List np),∃q,(mO gS hs (no,o,out)).2.1=aB o q/\q=ay o-jx hs
 | [],no,o,out=>⟨ay o,rfl,by simp[jx,jK]⟩
 |h::r,no,o,out=>by
  obtain⟨q,h1,h2⟩:=By gS r (i64.wrap (no+1)) (aB o (ay o-h.2.1)) (out++ [(h.1,o,gS,h.2.1,i64.wrap (no+1),())]);refine⟨q,h1,?_⟩;have:jx (h::r)=h.2.1+jx r:=by simp[jx,jK]
  rw[this,h2];show ay o-h.2.1-jx r=_
  omega
end
def gW (o:et):List Nat->List gF->Int->Int->Int->List np->Bool×Int×List Nat×List gF×Int×Int×List np
 | [],st,q,last,no,out=>(false,q,[],st,last,no,out)
 |p::ps,st,q,last,no,out=>
  if q>0/\lU o (fI st p)=true then
   (if(fH o.2.2.1 q.toNat q (dJ st p) []).1=true then(true,(fH o.2.2.1 q.toNat q (dJ st p) []).2.2.2,p::ps,kt st p (fH o.2.2.1 q.toNat q (dJ st p) []).2.2.1,rL (fI st p) last (fH o.2.2.1 q.toNat q (dJ st p) []).2.1,(mO (fI st p) (fH o.2.2.1 q.toNat q (dJ st p) []).2.1 (no,aB o q,out)).1,(mO (fI st p) (fH o.2.2.1 q.toNat q (dJ st p) []).2.1 (no,aB o q,out)).2.2)
   else if(fH o.2.2.1 q.toNat q (dJ st p) []).2.2.1=[] then gW o ps (kt st p (fH o.2.2.1 q.toNat q (dJ st p) []).2.2.1) (fH o.2.2.1 q.toNat q (dJ st p) []).2.2.2 (rL (fI st p) last (fH o.2.2.1 q.toNat q (dJ st p) []).2.1) (mO (fI st p) (fH o.2.2.1 q.toNat q (dJ st p) []).2.1 (no,aB o q,out)).1 (mO (fI st p) (fH o.2.2.1 q.toNat q (dJ st p) []).2.1 (no,aB o q,out)).2.2
   else(false,(fH o.2.2.1 q.toNat q (dJ st p) []).2.2.2,p::ps,kt st p (fH o.2.2.1 q.toNat q (dJ st p) []).2.2.1,rL (fI st p) last (fH o.2.2.1 q.toNat q (dJ st p) []).2.1,(mO (fI st p) (fH o.2.2.1 q.toNat q (dJ st p) []).2.1 (no,aB o q,out)).1,(mO (fI st p) (fH o.2.2.1 q.toNat q (dJ st p) []).2.1 (no,aB o q,out)).2.2))
  else(false,q,p::ps,st,last,no,out)
theorem J9 {hs:List oC}(h:zw hs):(hs.length:Int)<=jx hs:=by
 unfold jx;induction hs with
 |nil=>simp[jK]
 |cons x l ih=>
  have a:=h x (zd0 ..);have b:=ih λy hy=>h y (zdZ _ hy);simp only[zeK,jK,zeI,zdX] at*;omega
theorem Bz (gS:Int): ∀(hs:List oC) (no:Int) (o:et) (out:List np),(mO gS hs (no,o,out)).2.2.length=out.length+hs.length
 | [],_,_,_=>rfl
 |h::r,no,o,out=>by
  simp only[mO];rw[Bz gS r];simp only[zdW,zdX,zdY];omega
theorem ED {st:List gF}{p q:Nat}{oa:List oC}(lV:q≠p)(hp:p≠0):dJ (kt st p oa) q=dJ st q:=by
 cases q with
 |zero=>rfl
 |succ n=>
  unfold kt dJ;simp only[zd3];rw[zer (by omega)]
theorem GM {st:List gF}{p:Nat}{ps:List Nat}{oa:List oC}(hk:yE st (p::ps))(hn:(p::ps).Nodup):yE (kt st p oa) ps:=by
 have hnp:=(List.nodup_cons.1 hn).1;obtain⟨pr,es,hp,_⟩:=hk.1.2 p (zd0 ..);have hp0:p≠0:=by obtain⟨n,rfl,_⟩:=hp;omega
 refine⟨⟨by have:=hk.1.1;simp only[zdX] at this;omega,λq hq=>?_⟩,λq hq e he=>?_⟩
 ·obtain⟨V8,S6,h1,h2⟩:=hk.1.2 q (zdZ _ hq)
  exact⟨V8,S6,h1.tN (by rintro rfl;exact hnp hq) hp0,h2⟩
 ·rw[ED (by rintro rfl;exact hnp hq) hp0] at he
  exact hk.2 q (zdZ _ hq) e he
section
variable {bs ss:List Nat}
theorem ZG {hdr:MG}{bs ss:List Nat}{st:List gF}{m p:Nat}{pr:Int}{es:List oC}(l0:bs[m]?=some p)(hp:tw st p pr es)(hl:bs.length<=1000):jr WX (((),(m:Int),()),(hdr,bs,ss,st,()))=some ((),(hdr,mN bs m es,ss,st,())):=J6 l0 hp hl
theorem ZH {hdr:MG}{bs ss:List Nat}{st:List gF}{m p:Nat}{pr:Int}{es:List oC}(l0:ss[m]?=some p)(hp:tw st p pr es)(hl:ss.length<=1000):gx WX (((),(m:Int),()),(hdr,bs,ss,st,()))=some ((),(hdr,bs,mN ss m es,st,())):=GL l0 hp hl
theorem S7 (o:et): ∀(l:List Nat) (st:List gF) (q last no:Int) (out:List np),0<=q->q<=1048576->(out.length:Int)+q<=50000000->yE st l->l.Nodup->
  ag (ca WX) (((),(),(),(),()),(((),(),()),last,no,()),l,ss,aB o q,out,st,())=
   some (if(gW o l st q last no out).1=true then .inl (((),(gW o l st q last no out).2.1,true,()),(((),(),()),(gW o l st q last no out).2.2.2.2.1,(gW o l st q last no out).2.2.2.2.2.1,()),aB o (gW o l st q last no out).2.1,(gW o l st q last no out).2.2.1,ss,(gW o l st q last no out).2.2.2.2.2.2,(gW o l st q last no out).2.2.2.1,())
    else .inr (((),(gW o l st q last no out).2.2.2.2.2.2,()),(((),(),()),(gW o l st q last no out).2.2.2.2.1,(gW o l st q last no out).2.2.2.2.2.1,()),aB o (gW o l st q last no out).2.1,(gW o l st q last no out).2.2.1,ss,(gW o l st q last no out).2.2.2.1,())):=by
 intro l;have z:(0:Int).toNat=0:=rfl;induction l with
 |nil=>
  intro st q last no out h0 h1 ho hk hn;rw[ar];have hz: ¬((([]:List Nat).length:Nat):Int)>0:=by simp
  by_cases hq:q>0
  ·have uC:(aB o q).2.2.2.2.2.2.1>0:=hq
   simp only[ca,↓xo,ot uC,zdO,bg hz,zdN,gW,zdU,if_false]
  ·have uC: ¬(aB o q).2.2.2.2.2.2.1>0:=hq
   simp only[ca,↓xo,bg uC,zdN,gW,zdU,if_false]
 |cons p ps ih=>
  intro st q last no out h0 h1 ho hk hn;have i0:0<=(0:Int)/\(0:Int)<(((p::ps).length:Nat):Int):=by simp only[zdX];omega
  have i1:(((p::ps).length:Nat):Int)>0:=i0.2;rw[ar];by_cases hq:q>0
  ·have uC:(aB o q).2.2.2.2.2.2.1>0:=hq
   obtain⟨pr,es,hp,Oj⟩:=hk.1.2 p (zd0 ..);have mh:=hk.2 p (zd0 ..);have kU:=hp.oM;rw[kU.1] at mh;have hc:cQ WX ((aB o q,pr,()),())=some ((lU o pr,()),()):=vR (aB o q) pr;have ZI: ∀oa,tw (kt st p oa) p pr oa:=λoa=>hp.put;have Xw:=hp;obtain⟨m,rfl,hm⟩:=Xw;have CP: ∀oa,kt st (m+1) oa=st.set m ((pr,(),()),oa,()):=λoa=>by unfold kt;rw[kU.2];rfl
   cases CQ:lU o pr with
   |false=>
    rw[CQ] at hc;simp only[ca,↓xo,ot uC,ot i1,ot i0,z,zep,zdO,zdM,an,hm,ai,hc,zdN,aJ hm,gW,kU.2,CQ,zdU,and_false,if_false]
   |true=>
    rw[CQ] at hc;have ht:=Og (hd:=(pr,(),())) (es:=es) o.2.2.1 h0 h1 (by have:=hk.1.1;have:=Oj;omega) mh
    obtain⟨t1,t2,t3,t4,t5,t6,t7,t8,t9⟩:=EC o.2.2.1 q.toNat q es [] h0 (by omega) mh (λh hh=>by cases hh)
    have hf:(aB o q).2.2.1=o.2.2.1:=rfl;have ZJ:(aB o q).2.2.2.2.2.2.1=q:=rfl;simp only[gW,kU.1,kU.2,CQ,and_true,if_pos hq];generalize fH o.2.2.1 q.toNat q es []=T at*;obtain⟨own,rC,oa,q'⟩:=T;simp only at*;have X5:jx rC=q-q':=by have:jx ([]:List oC)=0:=rfl;omega
    have hlen:=J9 t1;have h7:=Xv (bs:=(m+1)::ps) (ss:=ss) (st:=st.set m ((pr,(),()),oa,())) pr own rC [] last no (aB o q) out t1 (by show jx rC<=q;omega) (by show q<=1048576;omega) (by simp only[zeN];omega) (by omega)
    obtain⟨q2,e1,e2⟩:=By pr rC no (aB o q) out;have e3:q2=q':=by rw[e2];show q-jx rC=q';omega
    rw[e3] at e1;have X6:=Bz pr rC no (aB o q) out;generalize mO pr rC (no,aB o q,out)=H at*;obtain⟨Uy,oo,xi⟩:=H;simp only at*;subst e1;rw[zeN] at h7;change ag (cM WX) (((),(),(),(),pr,own,rC,(rC.length:Int),0,()),_,_,_,_,_,_,())=_ at h7;have EB:=ZG (hdr:=(((),(),()),rL pr last rC,Uy,())) (ss:=ss) (bs:=(m+1)::ps) (m:=0) (p:=m+1) (es:=oa) (l0:=rfl) (ZI oa) hk.1.1;rw[CP] at EB;change jr WX (((),0,()),_)=_ at EB;cases own with
    |true=>
     have lV:=t7 rfl;have S8:mN ((m+1)::ps) 0 oa=(m+1)::ps:=by unfold mN;rw[if_neg lV]
     rw[S8] at EB;simp only[if_true] at ht;simp only[ca,↓xo,ot uC,ot i1,ot i0,z,zep,zdO,zdM,an,hm,ai,hc,aJ hm,hf,ZJ,ot hq,ht,↓xl,h7,EB,if_true,CP];rfl
    |false=>
     simp only[zdU,if_false] at ht⊢;by_cases lV:oa=[]
     ·subst lV
      have S8:mN ((m+1)::ps) 0 []=ps:=by unfold mN;rw[if_pos rfl];rfl
      rw[S8] at EB;have OZ:=GM (oa:=[]) hk hn;rw[CP] at OZ;have qP:=ih (st.set m ((pr,(),()),[],())) q' (rL pr last rC) Uy xi t3 (by omega) (by omega) OZ (List.nodup_cons.1 hn).2
      simp only[ca,↓xo,ot uC,ot i1,ot i0,z,zep,zdO,zdM,an,hm,ai,hc,aJ hm,hf,ZJ,ot hq,ht,↓xl,h7,EB,zdN,CP,if_true];exact qP
     ·have S8:mN ((m+1)::ps) 0 oa=(m+1)::ps:=by unfold mN;rw[if_neg lV]
      rw[S8] at EB;have hq0:q'=0:=(t8 rfl).resolve_right lV;subst hq0;simp only[ca,↓xo,ot uC,ot i1,ot i0,z,zep,zdO,zdM,an,hm,ai,hc,aJ hm,hf,ZJ,ot hq,ht,↓xl,h7,EB,zdN,CP,if_neg lV];rw[ar];have hz: ¬(aB o 0).2.2.2.2.2.2.1>0:=by show¬(0:Int)>0;omega
      simp only[ca,↓xo,aB] at hz⊢;simp only[bg hz,zdN,zdU,if_false]
  ·have uC: ¬(aB o q).2.2.2.2.2.2.1>0:=hq
   have: ¬(q>0/\lU o (fI st p)=true):=λh=>hq h.1;simp only[ca,↓xo,bg uC,zdN,gW,if_neg this,zdU,if_false]
end
section
variable {bs ss:List Nat}
theorem Qf (o:et): ∀(l:List Nat) (st:List gF) (q last no:Int) (out:List np),0<=q->q<=1048576->(out.length:Int)+q<=50000000->yE st l->l.Nodup->
  ag (bQ WX) (((),(),(),(),()),(((),(),()),last,no,()),bs,l,aB o q,out,st,())=
   some (if(gW o l st q last no out).1=true then .inl (((),(gW o l st q last no out).2.1,true,()),(((),(),()),(gW o l st q last no out).2.2.2.2.1,(gW o l st q last no out).2.2.2.2.2.1,()),aB o (gW o l st q last no out).2.1,bs,(gW o l st q last no out).2.2.1,(gW o l st q last no out).2.2.2.2.2.2,(gW o l st q last no out).2.2.2.1,())
    else .inr (((),(gW o l st q last no out).2.2.2.2.2.2,()),(((),(),()),(gW o l st q last no out).2.2.2.2.1,(gW o l st q last no out).2.2.2.2.2.1,()),aB o (gW o l st q last no out).2.1,bs,(gW o l st q last no out).2.2.1,(gW o l st q last no out).2.2.2.1,())):=by
 intro l;have z:(0:Int).toNat=0:=rfl;induction l with
 |nil=>
  intro st q last no out h0 h1 ho hk hn;rw[ar];have hz: ¬((([]:List Nat).length:Nat):Int)>0:=by simp
  by_cases hq:q>0
  ·have uC:(aB o q).2.2.2.2.2.2.1>0:=hq
   simp only[bQ,↓xo,ot uC,zdO,bg hz,zdN,gW,zdU,if_false]
  ·have uC: ¬(aB o q).2.2.2.2.2.2.1>0:=hq
   simp only[bQ,↓xo,bg uC,zdN,gW,zdU,if_false]
 |cons p ps ih=>
  intro st q last no out h0 h1 ho hk hn;have i0:0<=(0:Int)/\(0:Int)<(((p::ps).length:Nat):Int):=by simp only[zdX];omega
  have i1:(((p::ps).length:Nat):Int)>0:=i0.2;rw[ar];by_cases hq:q>0
  ·have uC:(aB o q).2.2.2.2.2.2.1>0:=hq
   obtain⟨pr,es,hp,Oj⟩:=hk.1.2 p (zd0 ..);have mh:=hk.2 p (zd0 ..);have kU:=hp.oM;rw[kU.1] at mh;have hc:cQ WX ((aB o q,pr,()),())=some ((lU o pr,()),()):=vR (aB o q) pr;have ZI: ∀oa,tw (kt st p oa) p pr oa:=λoa=>hp.put;have Xw:=hp;obtain⟨m,rfl,hm⟩:=Xw;have CP: ∀oa,kt st (m+1) oa=st.set m ((pr,(),()),oa,()):=λoa=>by unfold kt;rw[kU.2];rfl
   cases CQ:lU o pr with
   |false=>
    rw[CQ] at hc;simp only[bQ,↓xo,ot uC,ot i1,ot i0,z,zep,zdO,zdM,an,hm,ai,hc,zdN,aJ hm,gW,kU.2,CQ,zdU,and_false,if_false]
   |true=>
    rw[CQ] at hc;have ht:=Og (hd:=(pr,(),())) (es:=es) o.2.2.1 h0 h1 (by have:=hk.1.1;have:=Oj;omega) mh
    obtain⟨t1,t2,t3,t4,t5,t6,t7,t8,t9⟩:=EC o.2.2.1 q.toNat q es [] h0 (by omega) mh (λh hh=>by cases hh)
    have hf:(aB o q).2.2.1=o.2.2.1:=rfl;have ZJ:(aB o q).2.2.2.2.2.2.1=q:=rfl;simp only[gW,kU.1,kU.2,CQ,and_true,if_pos hq];generalize fH o.2.2.1 q.toNat q es []=T at*;obtain⟨own,rC,oa,q'⟩:=T;simp only at*;have X5:jx rC=q-q':=by have:jx ([]:List oC)=0:=rfl;omega
    have hlen:=J9 t1;have h7:=Xv (bs:=bs) (ss:=(m+1)::ps) (st:=st.set m ((pr,(),()),oa,())) pr own rC [] last no (aB o q) out t1 (by show jx rC<=q;omega) (by show q<=1048576;omega) (by simp only[zeN];omega) (by omega)
    obtain⟨q2,e1,e2⟩:=By pr rC no (aB o q) out;have e3:q2=q':=by rw[e2];show q-jx rC=q';omega
    rw[e3] at e1;have X6:=Bz pr rC no (aB o q) out;generalize mO pr rC (no,aB o q,out)=H at*;obtain⟨Uy,oo,xi⟩:=H;simp only at*;subst e1;rw[zeN] at h7;change ag (cM WX) (((),(),(),(),pr,own,rC,(rC.length:Int),0,()),_,_,_,_,_,_,())=_ at h7;have EB:=ZH (hdr:=(((),(),()),rL pr last rC,Uy,())) (bs:=bs) (ss:=(m+1)::ps) (m:=0) (p:=m+1) (es:=oa) (l0:=rfl) (ZI oa) hk.1.1;rw[CP] at EB;change gx WX (((),0,()),_)=_ at EB;cases own with
    |true=>
     have lV:=t7 rfl;have S8:mN ((m+1)::ps) 0 oa=(m+1)::ps:=by unfold mN;rw[if_neg lV]
     rw[S8] at EB;simp only[if_true] at ht;simp only[bQ,↓xo,ot uC,ot i1,ot i0,z,zep,zdO,zdM,an,hm,ai,hc,aJ hm,hf,ZJ,ot hq,ht,↓xl,MK,h7,EB,if_true,CP];rfl
    |false=>
     simp only[zdU,if_false] at ht⊢;by_cases lV:oa=[]
     ·subst lV
      have S8:mN ((m+1)::ps) 0 []=ps:=by unfold mN;rw[if_pos rfl];rfl
      rw[S8] at EB;have OZ:=GM (oa:=[]) hk hn;rw[CP] at OZ;have qP:=ih (st.set m ((pr,(),()),[],())) q' (rL pr last rC) Uy xi t3 (by omega) (by omega) OZ (List.nodup_cons.1 hn).2
      simp only[bQ,↓xo,ot uC,ot i1,ot i0,z,zep,zdO,zdM,an,hm,ai,hc,aJ hm,hf,ZJ,ot hq,ht,↓xl,MK,h7,EB,zdN,CP,if_true];exact qP
     ·have S8:mN ((m+1)::ps) 0 oa=(m+1)::ps:=by unfold mN;rw[if_neg lV]
      rw[S8] at EB;have hq0:q'=0:=(t8 rfl).resolve_right lV;subst hq0;simp only[bQ,↓xo,ot uC,ot i1,ot i0,z,zep,zdO,zdM,an,hm,ai,hc,aJ hm,hf,ZJ,ot hq,ht,↓xl,MK,h7,EB,zdN,CP,if_neg lV];rw[ar];have hz: ¬(aB o 0).2.2.2.2.2.2.1>0:=by show¬(0:Int)>0;omega
      simp only[bQ,↓xo,aB] at hz⊢;simp only[bg hz,zdN,zdU,if_false]
  ·have uC: ¬(aB o q).2.2.2.2.2.2.1>0:=hq
   have: ¬(q>0/\lU o (fI st p)=true):=λh=>hq h.1;simp only[bQ,↓xo,bg uC,zdN,gW,if_neg this,zdU,if_false]
theorem Qg {st:List gF}(hb:yE st bs)(hs:yE st ss)(hnb:bs.Nodup)(uY:ss.Nodup)(o:et)(last no:Int)(Lt:br o=1\/br o=2)(hq:0<=ay o/\ay o<=1048576):
  ∃M,M=gW o (if br o=1 then ss else bs) st (ay o) last no []/\hU WX (((),o,()),((((),(),()),last,no,()),bs,ss,st,()))=
   some (if M.1=true then .inl (((),M.2.1,true,()),(((),(),()),M.2.2.2.2.1,M.2.2.2.2.2.1,()),(if br o=1 then bs else M.2.2.1),(if br o=1 then M.2.2.1 else ss),M.2.2.2.2.2.2,M.2.2.2.1,())
    else .inr ((M.2.2.2.2.2.2,M.2.1,false,()),((((),(),()),M.2.2.2.2.1,M.2.2.2.2.2.1,()),(if br o=1 then bs else M.2.2.1),(if br o=1 then M.2.2.1 else ss),M.2.2.2.1,()))):=by
 refine⟨_,rfl,?_⟩;have ha:=zu o Lt ((((),(),()),last,no,()),bs,ss,st,());by_cases h1:br o=1
 ·have h:=Qf (bs:=bs) o ss st (ay o) last no [] hq.1 hq.2 (by simp only[zdY];omega) hs uY
  rw[Cm] at h;simp only[if_pos h1] at ha⊢;simp only[hU,ha,zdM,↓xl,h];cases (gW o ss st (ay o) last no []).1<;>rfl
 ·have h:=S7 (ss:=ss) o bs st (ay o) last no [] hq.1 hq.2 (by simp only[zdY];omega) hb hnb
  rw[Cm] at h;simp only[if_neg h1] at ha⊢;simp only[hU,ha,zdM,↓xl,h];cases (gW o bs st (ay o) last no []).1<;>rfl
end
theorem ug {n lo hi:Int}(h:Fg n lo hi=true):lo<=n/\n<=hi:=by
 unfold Fg at h;simp only[zdV,zd1] at h;exact h
structure AD (o:et):Prop where
 side:br o=1\/br o=2
 kind:1<=gV o/\gV o<=5
 pN:1<=ay o/\ay o<=1048576
 zdC:0<=qn o/\qn o<=ay o
 qy:0<=o.1/\o.1<=31
 kp:0<=o.2.2.1/\o.2.2.1<=7
 gS:(gV o=2/\aE o=0)\/(¬gV o=2/\1<=aE o/\aE o<=1048576)
theorem qJ {o:et}(h:pv o=true):AD o:=by
 unfold pv at h;simp only[zdV] at h;obtain⟨h1,h2,⟨h3,h4,h5⟩,⟨h6,h7,h8⟩,h9,F7⟩:=h;have a:=ug h6;refine⟨by omega,ug h7,ug h8,ug h9,ug h3,ug h4,?_⟩
 by_cases hk:gV o=2
 ·rw[decide_eq_true hk,zdO] at h1
  exact .inl ⟨hk,of_decide_eq_true h1⟩
 ·rw[decide_eq_false hk,zdN] at h1
  exact .inr ⟨hk,ug h1⟩
section
variable {hdr:MG}{bs ss:List Nat}{st:List gF}
def tj (o:et)(st:List gF)(l:List Nat):Int:=
 if(decide (gV o=5)&&match l with| []=>false|p::_=>lU o (fI st p))=true then 11
 else if(decide (gV o=4)&&!qx o st l (ay o))=true then 12 else 0
def V9 (o:et)(bs ss:List Nat)(st:List gF):Int:=
 if(!pv o)=true then 1 else if¬ml o=0 then 1 else if(jZ o.1 o.2.1 st bs).isSome=true\/(jZ o.1 o.2.1 st ss).isSome=true then 5
 else if iS o=true/\pw st bs+pw st ss>=64 then 4 else tj o st (if br o=1 then ss else bs)
theorem Ka (hb:yE st bs)(hs:yE st ss)(o:et):aC WX (((),o,()),(hdr,bs,ss,st,()))=some ((V9 o bs ss st,()),(hdr,bs,ss,st,())):=by
 unfold V9;have Wa: ¬(1:Int)=0:=by omega
 have hR:=AB o;cases hr:pv o with
 |false=>
  rw[hr] at hR;simp only[aC,hR,zdM,zdN,↓xo,bg Wa,zdR,zdO,if_true]
 |true=>
  rw[hr] at hR;have mh:=qJ hr;have e0:(0:Int)=0:=rfl;by_cases kr:ml o=0
  ·have hF:=J7 (hdr:=hdr) (t:=o.1) (i:=o.2.1) hb.1 hs.1
   have hlen:=Ok (hdr:=hdr) hb.1 hs.1;have ha:=zu o mh.side (hdr,bs,ss,st,());have vC:=Qe (hdr:=hdr) hb hs o mh.side mh.pN;have S9: ∀x:Nat×et,(jZ o.1 o.2.1 st bs=some x\/(jZ o.1 o.2.1 st bs=none/\jZ o.1 o.2.1 st ss=some x))->aC WX (((),o,()),(hdr,bs,ss,st,()))=some ((5,()),(hdr,bs,ss,st,())):=by
    intro x hx;rcases hx with hx|⟨Hn,hx⟩
    ·rw[hx] at hF
     simp only[aC,hR,zdM,zdO,↓xo,iF,zdQ,zdN,ot kr,hF]
    ·rw[Hn,hx] at hF
     simp only[aC,hR,zdM,zdO,↓xo,iF,zdQ,zdN,ot kr,hF]
   cases hsb:jZ o.1 o.2.1 st bs with
   |some x=>
    rw[S9 x (.inl hsb)];simp only[zdQ,zdU,if_false,kr,not_true_eq_false,zfz,true_or,if_true]
   |none=>
    cases Ol:jZ o.1 o.2.1 st ss with
    |some x=>
     rw[S9 x (.inr ⟨hsb,Ol⟩)];simp only[zdQ,zdU,if_false,kr,not_true_eq_false,zfz,or_true,if_true]
    |none=>
     rw[hsb,Ol] at hF;have v8: ¬((none:Option (Nat×et)).isSome=true\/(none:Option (Nat×et)).isSome=true):=by simp
     simp only[zdQ,zdU,if_false,kr,not_true_eq_false,if_neg v8];by_cases h4:iS o=true/\pw st bs+pw st ss>=64
     ·rw[if_pos h4]
      simp only[aC,hR,zdM,zdO,↓xo,iF,zdQ,zdN,ot kr,hF,iU,h4.1,hlen,ot h4.2]
     ·rw[if_neg h4]
      have key: ∀(g:Int),g=tj o st (if br o=1 then ss else bs)->aC WX (((),o,()),(hdr,bs,ss,st,()))=some ((g,()),(hdr,bs,ss,st,())):=by
       intro g hg;have hcr: ∀(p:Nat) (ps l:List Nat),yE st l->l=p::ps->∃n pr es,p=n+1/\st[n]?=some ((pr,(),()),es,())/\fI st p=pr:=by
        intro p ps l hl he;subst he;obtain⟨pr,es,h1,_⟩:=hl.1.2 p (zd0 ..);have:=h1.oM.2;obtain⟨n,rfl,h2⟩:=h1;exact⟨n,pr,es,rfl,h2,this⟩
       have z:(0:Int).toNat=0:=rfl;by_cases h1:br o=1
       ·rw[if_pos h1] at hg ha vC
        by_cases k5:gV o=5
        ·have k4: ¬gV o=4:=by omega
         cases Fw:ss with
         |nil=>
          subst Fw;have hz: ¬((([]:List Nat).length:Nat):Int)>0:=by simp
          have AE:g=0:=by rw[hg];unfold tj;simp only[zel,zdU,if_false,decide_eq_false k4,zfx]
          subst AE;cases uh:iS o with
          |true=>
           have EE:=λq=>h4 ⟨uh,q⟩;simp only[aC,hR,zdM,zdO,↓xo,iF,zdQ,zdN,ot kr,hF,iU,uh,hlen,bg EE,ha,ot k5,bg hz,bg k4]
          |false=>simp only[aC,hR,zdM,zdO,↓xo,iF,zdQ,zdN,ot kr,hF,iU,uh,ha,ot k5,bg hz,bg k4]
         |cons p ps=>
          obtain⟨n,pr,es,rfl,hn,BA⟩:=hcr p ps ss hs Fw;subst Fw;have hz:((((n+1)::ps).length:Nat):Int)>0:=by simp only[zdX];omega
          have i0:0<=(0:Int)/\(0:Int)<((((n+1)::ps).length:Nat):Int):=⟨by omega,hz⟩
          have hc:=vR o pr;cases CQ:lU o pr with
          |true=>
           rw[CQ] at hc;have AE:g=11:=by rw[hg];unfold tj;simp only[BA,CQ,decide_eq_true k5,decide_eq_false k4,ze9,zel,zfx,zdU,if_true,if_false]
           subst AE;cases uh:iS o with
           |true=>
            have EE:=λq=>h4 ⟨uh,q⟩;simp only[aC,hR,zdM,zdO,↓xo,iF,zdQ,zdN,ot kr,hF,iU,uh,hlen,bg EE,ha,ot k5,ot hz,ot i0,z,zep,an,hn,ai,hc,aJ hn]
           |false=>simp only[aC,hR,zdM,zdO,↓xo,iF,zdQ,zdN,ot kr,hF,iU,uh,ha,ot k5,ot hz,ot i0,z,zep,an,hn,ai,hc,aJ hn]
          |false=>
           rw[CQ] at hc;have AE:g=0:=by rw[hg];unfold tj;simp only[BA,CQ,decide_eq_true k5,decide_eq_false k4,ze9,zel,zfx,zdU,if_true,if_false]
           subst AE;cases uh:iS o with
           |true=>
            have EE:=λq=>h4 ⟨uh,q⟩;simp only[aC,hR,zdM,zdO,↓xo,iF,zdQ,zdN,ot kr,hF,iU,uh,hlen,bg EE,ha,ot k5,ot hz,ot i0,z,zep,an,hn,ai,hc,aJ hn,bg k4]
           |false=>simp only[aC,hR,zdM,zdO,↓xo,iF,zdQ,zdN,ot kr,hF,iU,uh,ha,ot k5,ot hz,ot i0,z,zep,an,hn,ai,hc,aJ hn,bg k4]
        ·by_cases k4:gV o=4
         ·cases Wb:qx o st ss (ay o) with
          |true=>
           rw[Wb] at vC;have AE:g=0:=by rw[hg];unfold tj;simp only[Wb,decide_eq_false k5,decide_eq_true k4,zfx,Bool.true_and,zdQ,zdR,zdU,if_true,if_false]
           subst AE;cases uh:iS o with
           |true=>
            have EE:=λq=>h4 ⟨uh,q⟩;simp only[aC,hR,zdM,zdO,↓xo,iF,zdQ,zdN,ot kr,hF,iU,uh,hlen,bg EE,ha,bg k5,ot k4,vC,zdR]
           |false=>simp only[aC,hR,zdM,zdO,↓xo,iF,zdQ,zdN,ot kr,hF,iU,uh,ha,bg k5,ot k4,vC,zdR]
          |false=>
           rw[Wb] at vC;have AE:g=12:=by rw[hg];unfold tj;simp only[Wb,decide_eq_false k5,decide_eq_true k4,zfx,Bool.true_and,zdQ,zdR,zdU,if_true,if_false]
           subst AE;cases uh:iS o with
           |true=>
            have EE:=λq=>h4 ⟨uh,q⟩;simp only[aC,hR,zdM,zdO,↓xo,iF,zdQ,zdN,ot kr,hF,iU,uh,hlen,bg EE,ha,bg k5,ot k4,vC,zdR]
           |false=>simp only[aC,hR,zdM,zdO,↓xo,iF,zdQ,zdN,ot kr,hF,iU,uh,ha,bg k5,ot k4,vC,zdR]
         ·have AE:g=0:=by rw[hg];unfold tj;simp only[decide_eq_false k5,decide_eq_false k4,zfx,zdU,if_false]
          subst AE;cases uh:iS o with
          |true=>
           have EE:=λq=>h4 ⟨uh,q⟩;simp only[aC,hR,zdM,zdO,↓xo,iF,zdQ,zdN,ot kr,hF,iU,uh,hlen,bg EE,ha,bg k5,bg k4]
          |false=>simp only[aC,hR,zdM,zdO,↓xo,iF,zdQ,zdN,ot kr,hF,iU,uh,ha,bg k5,bg k4]
       ·rw[if_neg h1] at hg ha vC
        by_cases k5:gV o=5
        ·have k4: ¬gV o=4:=by omega
         cases Fw:bs with
         |nil=>
          subst Fw;have hz: ¬((([]:List Nat).length:Nat):Int)>0:=by simp
          have AE:g=0:=by rw[hg];unfold tj;simp only[zel,zdU,if_false,decide_eq_false k4,zfx]
          subst AE;cases uh:iS o with
          |true=>
           have EE:=λq=>h4 ⟨uh,q⟩;simp only[aC,hR,zdM,zdO,↓xo,iF,zdQ,zdN,ot kr,hF,iU,uh,hlen,bg EE,ha,ot k5,bg hz,bg k4]
          |false=>simp only[aC,hR,zdM,zdO,↓xo,iF,zdQ,zdN,ot kr,hF,iU,uh,ha,ot k5,bg hz,bg k4]
         |cons p ps=>
          obtain⟨n,pr,es,rfl,hn,BA⟩:=hcr p ps bs hb Fw;subst Fw;have hz:((((n+1)::ps).length:Nat):Int)>0:=by simp only[zdX];omega
          have i0:0<=(0:Int)/\(0:Int)<((((n+1)::ps).length:Nat):Int):=⟨by omega,hz⟩
          have hc:=vR o pr;cases CQ:lU o pr with
          |true=>
           rw[CQ] at hc;have AE:g=11:=by rw[hg];unfold tj;simp only[BA,CQ,decide_eq_true k5,decide_eq_false k4,ze9,zel,zfx,zdU,if_true,if_false]
           subst AE;cases uh:iS o with
           |true=>
            have EE:=λq=>h4 ⟨uh,q⟩;simp only[aC,hR,zdM,zdO,↓xo,iF,zdQ,zdN,ot kr,hF,iU,uh,hlen,bg EE,ha,ot k5,ot hz,ot i0,z,zep,an,hn,ai,hc,aJ hn]
           |false=>simp only[aC,hR,zdM,zdO,↓xo,iF,zdQ,zdN,ot kr,hF,iU,uh,ha,ot k5,ot hz,ot i0,z,zep,an,hn,ai,hc,aJ hn]
          |false=>
           rw[CQ] at hc;have AE:g=0:=by rw[hg];unfold tj;simp only[BA,CQ,decide_eq_true k5,decide_eq_false k4,ze9,zel,zfx,zdU,if_true,if_false]
           subst AE;cases uh:iS o with
           |true=>
            have EE:=λq=>h4 ⟨uh,q⟩;simp only[aC,hR,zdM,zdO,↓xo,iF,zdQ,zdN,ot kr,hF,iU,uh,hlen,bg EE,ha,ot k5,ot hz,ot i0,z,zep,an,hn,ai,hc,aJ hn,bg k4]
           |false=>simp only[aC,hR,zdM,zdO,↓xo,iF,zdQ,zdN,ot kr,hF,iU,uh,ha,ot k5,ot hz,ot i0,z,zep,an,hn,ai,hc,aJ hn,bg k4]
        ·by_cases k4:gV o=4
         ·cases Wb:qx o st bs (ay o) with
          |true=>
           rw[Wb] at vC;have AE:g=0:=by rw[hg];unfold tj;simp only[Wb,decide_eq_false k5,decide_eq_true k4,zfx,Bool.true_and,zdQ,zdR,zdU,if_true,if_false]
           subst AE;cases uh:iS o with
           |true=>
            have EE:=λq=>h4 ⟨uh,q⟩;simp only[aC,hR,zdM,zdO,↓xo,iF,zdQ,zdN,ot kr,hF,iU,uh,hlen,bg EE,ha,bg k5,ot k4,vC,zdR]
           |false=>simp only[aC,hR,zdM,zdO,↓xo,iF,zdQ,zdN,ot kr,hF,iU,uh,ha,bg k5,ot k4,vC,zdR]
          |false=>
           rw[Wb] at vC;have AE:g=12:=by rw[hg];unfold tj;simp only[Wb,decide_eq_false k5,decide_eq_true k4,zfx,Bool.true_and,zdQ,zdR,zdU,if_true,if_false]
           subst AE;cases uh:iS o with
           |true=>
            have EE:=λq=>h4 ⟨uh,q⟩;simp only[aC,hR,zdM,zdO,↓xo,iF,zdQ,zdN,ot kr,hF,iU,uh,hlen,bg EE,ha,bg k5,ot k4,vC,zdR]
           |false=>simp only[aC,hR,zdM,zdO,↓xo,iF,zdQ,zdN,ot kr,hF,iU,uh,ha,bg k5,ot k4,vC,zdR]
         ·have AE:g=0:=by rw[hg];unfold tj;simp only[decide_eq_false k5,decide_eq_false k4,zfx,zdU,if_false]
          subst AE;cases uh:iS o with
          |true=>
           have EE:=λq=>h4 ⟨uh,q⟩;simp only[aC,hR,zdM,zdO,↓xo,iF,zdQ,zdN,ot kr,hF,iU,uh,hlen,bg EE,ha,bg k5,bg k4]
          |false=>simp only[aC,hR,zdM,zdO,↓xo,iF,zdQ,zdN,ot kr,hF,iU,uh,ha,bg k5,bg k4]
      exact key _ rfl
  ·rw[if_neg (show¬((!true)=true) by decide),if_pos kr]
   simp only[aC,hR,zdM,zdO,↓xo,iF,zdQ,zdN,bg kr,zdR]
end
def Om (o:et)(st:List gF)(l:List Nat):Int:=match l.findIdx? (λp=>!iQ (br o) (fI st p) (aE o)) with|some n=>(n:Int)|none=> -1
theorem Kb (o:et){st:List gF}{l:List Nat}(h:Cj st l):aD WX ((l,((),()),()),(o,st,()))=some ((Om o st l,()),(o,st,())):=by
 have key: ∀n k:Nat,k+n=l.length->(∀j,j<k->∀p,l[j]?=some p->(!iQ (br o) (fI st p) (aE o))=false)->ag (aw WX) ((l,((),()),(l.length:Int),(k:Int),()),(o,st,()))=
   some (match l.findIdx? (λp=>!iQ (br o) (fI st p) (aE o)) with|some n=> .inl (((n:Int),()),(o,st,()))|none=> .inr ((),(o,st,()))):=by
  intro n;induction n with
  |zero=>
   intro k hk v8;have:l.findIdx? (λp=>!iQ (br o) (fI st p) (aE o))=none:=by
    rw[zft];intro e he;obtain⟨j,hj,rfl⟩:=zeu he;exact v8 j (by omega) _ (zdS hj)
   rw[ar,this];simp only[aw,↓xo,oF ((k:Int)<(l.length:Int)),zdN]
  |succ n ih=>
   intro k hk v8;have th:k<l.length:=by omega
   have hx:=zdS th;obtain⟨pr,es,hp,Oj⟩:=h.2 _ (ze0 th);generalize hg:l[k]=p at hx hp;have BA:=hp.oM.2;have e1:i64.wrap ((k:Int)+1)=((k+1:Nat):Int):=by rw[nR (by omega) (by have:=h.1;omega)];omega
   have hb:=Qb (br o) pr (aE o);have hc:hY WX (((),(),()),((pr,(),()),es,o,()))=some ((!iQ (br o) pr (aE o),()),((pr,(),()),o,es,())):=by
    simp only[hY,ai,zdM,hb]
   rw[ar];cases hbb:(!iQ (br o) pr (aE o)) with
   |true=>
    have:l.findIdx? (λp=>!iQ (br o) (fI st p) (aE o))=some k:=by
     rw[zfu];refine⟨th,by rw[hg,BA];exact hbb,λj hj=>?_⟩
     have:=v8 j hj _ (zdS (by omega))
     rw[this];simp
    rw[this];rw[hbb] at hc;obtain⟨m,rfl,hm⟩:=hp;simp only[aw,↓xo,oT ((k:Int)<(l.length:Int)),oT ((0:Int)<=(k:Int)),zdO,zdP,hx,zdM,an,hm,hc,aJ hm]
   |false=>
    rw[hbb] at hc;have qP:=ih (k+1) (by omega) (λj hj q hq=>by
     by_cases e:j=k
     ·subst e;rw[hx] at hq;cases hq;rw[BA];exact hbb
     ·exact v8 j (by omega) q hq)
    obtain⟨m,rfl,hm⟩:=hp;simp only[aw,↓xo,xw,oT ((k:Int)<(l.length:Int)),oT ((0:Int)<=(k:Int)),zdO,zdP,hx,zdM,an,hm,hc,zdN,aJ hm,e1,qP]
 have h0:=key l.length 0 (by omega) (λj hj=>by omega)
 change ag (aw WX) ((l,((),()),(l.length:Int),0,()),(o,st,()))=_ at h0;unfold Om;cases hf:l.findIdx? (λp=>!iQ (br o) (fI st p) (aE o)) with
 |none=>rw[hf] at h0;simp only[aD,↓xl,h0,zdM]
 |some n=>rw[hf] at h0;simp only[aD,↓xl,h0,zdM]
def uR (o:et)(l:List Nat)(st:List gF):List Nat×List gF:=match l.findIdx? (λp=>!iQ (br o) (fI st p) (aE o)) with
 |none=>(l.take l.length++([st.length+1]++l.drop l.length),st++ [((aE o,(),()),[(o,mg o,())],())])
 |some n=>if fI st (l.getD n 0)=aE o then(l,kt st (l.getD n 0) (dJ st (l.getD n 0)++ [(o,mg o,())])) else(l.take n++([st.length+1]++l.drop n),st++ [((aE o,(),()),[(o,mg o,())],())])
section
variable {hdr:MG}{bs ss:List Nat}{st:List gF}
theorem Ta (o:et)(Lt:br o=1){l:List Nat}(hl:Cj st l):bE WX (((),o,()),(hdr,(l,ss,st,())))=some ((),(hdr,(uR o l st).1,ss,(uR o l st).2,())):=by
 have hs:=Df (br o) (by omega) (hdr,(l,ss,st,()))
 have hi:=Kb o hl;have qZ:iW WX ((aE o,()),())=some (((),()),((aE o,(),()),[],())):=rfl;have Pz:bS WX (((),o,()),((aE o,(),()),[],()))=some ((),((aE o,(),()),[(o,mg o,())],())):=Eu (by simp) o
 have A4: ∀k:Nat,k<=l.length->iz WX (((),(k:Int),(),()),(l,[st.length+1],st++ [((aE o,(),()),[],())],()))=some (((),()),(l.take k++([st.length+1]++l.drop k),st++ [((aE o,(),()),[],())],())):=λk hk=>by
  have:=hl.1;have hc:0<=(k:Int)/\(k:Int)<=(l.length:Int)/\0<([st.length+1]:List Nat).length/\(((l.length+([st.length+1]:List Nat).length:Nat):Int)*8<=((room:Nat):Int)):=by
   unfold room;simp only[zdX,zdY];omega
  simp only[iz,↓xo,ot hc,zdO,zdP]
 have qO: ∀k:Nat,k<=l.length->(l.take k++([st.length+1]++l.drop k))[k]?=some (st.length+1):=λk hk=>by
  rw[zeE (by rw[zeh];omega),zeh,zeQ hk,Nat.sub_self];rfl
 have hlen: ∀k:Nat,k<=l.length->(l.take k++([st.length+1]++l.drop k)).length=l.length+1:=λk hk=>by simp only[zdW,zeh,zei,zdX,zdY];omega
 have AE:(st++ [((aE o,(),()),([]:List oC),())])[st.length]?=some ((aE o,(),()),[],()):=by simp
 have uB:(st++ [((aE o,(),()),([]:List oC),())]).set st.length ((aE o,(),()),[(o,mg o,())],())=st++ [((aE o,(),()),[(o,mg o,())],())]:=by simp
 unfold uR;unfold Om at hi;rw[if_pos Lt] at hs;cases hf:l.findIdx? (λp=>!iQ (br o) (fI st p) (aE o)) with
 |none=>
  rw[hf] at hi;have e0:(-1:Int)<0:=by omega
  have hg:=qO l.length (zd9 _);have hL:=hlen l.length (zd9 _);have hI:=A4 l.length (zd9 _);simp only[bE,hs,zdM,hi,↓xo,ot e0,zdO,iF,qZ,hI,ot (show 0<=(l.length:Int)/\(l.length:Int)<((l.take l.length++([st.length+1]++l.drop l.length)).length:Int) by rw[hL];omega),zdP,hg,an,AE,Pz,uB]
 |some n=>
  rw[hf] at hi;have hn:n<l.length:=(List.findIdx?_eq_some_iff_getElem.1 hf).1;have hx:=zdS hn;obtain⟨pr,es,hp,Oj⟩:=hl.2 _ (ze0 hn);have Yk:l.getD n 0=l[n]:=by rw[zd3,hx];rfl
  simp only[Yk];generalize l[n]=p at hx hp;have kU:=hp.oM;obtain⟨m,rfl,hm⟩:=hp;simp only[kU.1,kU.2];by_cases BA:pr=aE o
  ·have Tb:=Eu (es:=es) (hd:=(pr,(),())) (by omega) o
   have CP:kt st (m+1) (es++ [(o,mg o,())])=st.set m ((pr,(),()),es++ [(o,mg o,())],()):=by unfold kt;rw[kU.2];rfl
   simp only[bE,hs,zdM,hi,↓xo,oF ((n:Int)<0),zdN,oF ((n:Int)=(l.length:Int)),oT (0<=(n:Int)/\(n:Int)<(l.length:Int)),zdO,zdP,hx,an,hm,ai,ot BA,zdQ,aJ hm,Tb,if_pos BA,CP]
  ·have hg:=qO n (by omega)
   have hL:=hlen n (by omega)
   have hI:=A4 n (by omega)
   simp only[bE,hs,zdM,hi,↓xo,oF ((n:Int)<0),zdN,oF ((n:Int)=(l.length:Int)),oT (0<=(n:Int)/\(n:Int)<(l.length:Int)),zdO,zdP,hx,an,hm,ai,bg BA,zdR,aJ hm,qZ,hI,ot (show 0<=(n:Int)/\(n:Int)<((l.take n++([st.length+1]++l.drop n)).length:Int) by rw[hL];omega),hg,AE,Pz,uB,if_neg BA]
theorem Qh (o:et)(Lt:br o=2){l:List Nat}(hl:Cj st l):bE WX (((),o,()),(hdr,(bs,l,st,())))=some ((),(hdr,bs,(uR o l st).1,(uR o l st).2,())):=by
 have hs:=Df (br o) (by omega) (hdr,(bs,l,st,()))
 have hi:=Kb o hl;have qZ:iW WX ((aE o,()),())=some (((),()),((aE o,(),()),[],())):=rfl;have Pz:bS WX (((),o,()),((aE o,(),()),[],()))=some ((),((aE o,(),()),[(o,mg o,())],())):=Eu (by simp) o
 have A4: ∀k:Nat,k<=l.length->iz WX (((),(k:Int),(),()),(l,[st.length+1],st++ [((aE o,(),()),[],())],()))=some (((),()),(l.take k++([st.length+1]++l.drop k),st++ [((aE o,(),()),[],())],())):=λk hk=>by
  have:=hl.1;have hc:0<=(k:Int)/\(k:Int)<=(l.length:Int)/\0<([st.length+1]:List Nat).length/\(((l.length+([st.length+1]:List Nat).length:Nat):Int)*8<=((room:Nat):Int)):=by
   unfold room;simp only[zdX,zdY];omega
  simp only[iz,↓xo,ot hc,zdO,zdP]
 have qO: ∀k:Nat,k<=l.length->(l.take k++([st.length+1]++l.drop k))[k]?=some (st.length+1):=λk hk=>by
  rw[zeE (by rw[zeh];omega),zeh,zeQ hk,Nat.sub_self];rfl
 have hlen: ∀k:Nat,k<=l.length->(l.take k++([st.length+1]++l.drop k)).length=l.length+1:=λk hk=>by simp only[zdW,zeh,zei,zdX,zdY];omega
 have AE:(st++ [((aE o,(),()),([]:List oC),())])[st.length]?=some ((aE o,(),()),[],()):=by simp
 have uB:(st++ [((aE o,(),()),([]:List oC),())]).set st.length ((aE o,(),()),[(o,mg o,())],())=st++ [((aE o,(),()),[(o,mg o,())],())]:=by simp
 unfold uR;unfold Om at hi;rw[if_neg (show¬br o=1 by omega)] at hs
 cases hf:l.findIdx? (λp=>!iQ (br o) (fI st p) (aE o)) with
 |none=>
  rw[hf] at hi;have e0:(-1:Int)<0:=by omega
  have hg:=qO l.length (zd9 _);have hL:=hlen l.length (zd9 _);have hI:=A4 l.length (zd9 _);simp only[bE,hs,zdM,hi,↓xo,ot e0,zdO,iF,qZ,hI,ot (show 0<=(l.length:Int)/\(l.length:Int)<((l.take l.length++([st.length+1]++l.drop l.length)).length:Int) by rw[hL];omega),zdP,hg,an,AE,Pz,uB]
 |some n=>
  rw[hf] at hi;have hn:n<l.length:=(List.findIdx?_eq_some_iff_getElem.1 hf).1;have hx:=zdS hn;obtain⟨pr,es,hp,Oj⟩:=hl.2 _ (ze0 hn);have Yk:l.getD n 0=l[n]:=by rw[zd3,hx];rfl
  simp only[Yk];generalize l[n]=p at hx hp;have kU:=hp.oM;obtain⟨m,rfl,hm⟩:=hp;simp only[kU.1,kU.2];by_cases BA:pr=aE o
  ·have Tb:=Eu (es:=es) (hd:=(pr,(),())) (by omega) o
   have CP:kt st (m+1) (es++ [(o,mg o,())])=st.set m ((pr,(),()),es++ [(o,mg o,())],()):=by unfold kt;rw[kU.2];rfl
   simp only[bE,hs,zdM,hi,↓xo,oF ((n:Int)<0),zdN,oF ((n:Int)=(l.length:Int)),oT (0<=(n:Int)/\(n:Int)<(l.length:Int)),zdO,zdP,hx,an,hm,ai,ot BA,zdQ,aJ hm,Tb,if_pos BA,CP]
  ·have hg:=qO n (by omega)
   have hL:=hlen n (by omega)
   have hI:=A4 n (by omega)
   simp only[bE,hs,zdM,hi,↓xo,oF ((n:Int)<0),zdN,oF ((n:Int)=(l.length:Int)),oT (0<=(n:Int)/\(n:Int)<(l.length:Int)),zdO,zdP,hx,an,hm,ai,bg BA,zdR,aJ hm,qZ,hI,ot (show 0<=(n:Int)/\(n:Int)<((l.take n++([st.length+1]++l.drop n)).length:Int) by rw[hL];omega),hg,AE,Pz,uB,if_neg BA]
end
abbrev nu:=Int×List oC
def jD (st:List gF)(l:List Nat):List nu:=l.map λp=>(fI st p,dJ st p)
def Kc (st:List gF)(l:List Nat):Prop:= ∀p∈l,∃pr es,tw st p pr es
def Qi (t i:Int)(a:nu):Option et:=(a.2.map (·.1)).find? (kM t i)
def mX (t i:Int):List nu->Option (Nat×et)
 | []=>none
 |a::A=>match Qi t i a with|some o=>some (0,o)|none=>(mX t i A).map λx=>(x.1+1,x.2)
theorem pH (t i:Int)(st:List gF): ∀l,jZ t i st l=mX t i (jD st l)
 | []=>rfl
 |p::l=>by
  have ih:=pH t i st l;simp only[jZ,jD,zeK,mX,Ci,Qi] at*;rw[ih];all_goals (cases ((dJ st p).map (·.1)).find? (kM t i)<;>rfl)
def iV (A:List nu):Int:=jK (A.map λa=>(a.2.length:Int))
theorem AF (st:List gF)(l:List Nat):pw st l=iV (jD st l):=by
 simp only[pw,iV,jD,List.map_map];rfl
def ui (A:List nu):List et:=A.flatMap λa=>a.2.map (·.1)
theorem Qj (st:List gF)(l:List Nat):qI st l=ui (jD st l):=by
 simp only[qI,ui,jD,List.flatMap_map]
def Ix (o:et):List nu->Int->Bool
 | [],_=>false
 |a::A,q=>if(!lU o a.1)=true then false else if(mb o.2.2.1 a.2).1>=q then true else if(mb o.2.2.1 a.2).2=true then false else Ix o A (q-(mb o.2.2.1 a.2).1)
theorem EF (o:et)(st:List gF): ∀l q,qx o st l q=Ix o (jD st l) q
 | [],_=>rfl
 |p::l,q=>by
  have ih:=EF o st l (q-(mb o.2.2.1 (dJ st p)).1);simp only[qx,jD,zeK,Ix] at*;rw[ih]
def Tc (o:et)(A:List nu):Int:=
 if(decide (gV o=5)&&match A with| []=>false|a::_=>lU o a.1)=true then 11
 else if(decide (gV o=4)&&!Ix o A (ay o))=true then 12 else 0
def FU (o:et)(A B:List nu):Int:=
 if(!pv o)=true then 1 else if¬ml o=0 then 1 else if(mX o.1 o.2.1 A).isSome=true\/(mX o.1 o.2.1 B).isSome=true then 5
 else if iS o=true/\iV A+iV B>=64 then 4 else Tc o (if br o=1 then B else A)
theorem Td (o:et)(st:List gF)(bs ss:List Nat):V9 o bs ss st=FU o (jD st bs) (jD st ss):=by
 have h: ∀l,tj o st l=Tc o (jD st l):=λl=>by
  unfold tj Tc;rw[EF];cases l<;>rfl
 unfold V9 FU;rw[h,pH,pH,AF,AF];by_cases e:br o=1
 ·simp only[if_pos e]
 ·simp only[if_neg e]
def uj (o:et):List nu->Int->Int->Int->List np->Bool×Int×List nu×Int×Int×List np
 | [],q,last,no,out=>(false,q,[],last,no,out)
 |a::A,q,last,no,out=>
  if q>0/\lU o a.1=true then
   (if(fH o.2.2.1 q.toNat q a.2 []).1=true then(true,(fH o.2.2.1 q.toNat q a.2 []).2.2.2,(a.1,(fH o.2.2.1 q.toNat q a.2 []).2.2.1)::A,rL a.1 last (fH o.2.2.1 q.toNat q a.2 []).2.1,(mO a.1 (fH o.2.2.1 q.toNat q a.2 []).2.1 (no,aB o q,out)).1,(mO a.1 (fH o.2.2.1 q.toNat q a.2 []).2.1 (no,aB o q,out)).2.2)
   else if(fH o.2.2.1 q.toNat q a.2 []).2.2.1=[] then uj o A (fH o.2.2.1 q.toNat q a.2 []).2.2.2 (rL a.1 last (fH o.2.2.1 q.toNat q a.2 []).2.1) (mO a.1 (fH o.2.2.1 q.toNat q a.2 []).2.1 (no,aB o q,out)).1 (mO a.1 (fH o.2.2.1 q.toNat q a.2 []).2.1 (no,aB o q,out)).2.2
   else(false,(fH o.2.2.1 q.toNat q a.2 []).2.2.2,(a.1,(fH o.2.2.1 q.toNat q a.2 []).2.2.1)::A,rL a.1 last (fH o.2.2.1 q.toNat q a.2 []).2.1,(mO a.1 (fH o.2.2.1 q.toNat q a.2 []).2.1 (no,aB o q,out)).1,(mO a.1 (fH o.2.2.1 q.toNat q a.2 []).2.1 (no,aB o q,out)).2.2))
  else(false,q,a::A,last,no,out)
def EG (st fe:List gF)(l:List Nat):Prop:= ∀p pr es,p∉l->tw st p pr es->tw fe p pr es
theorem nK {st fe:List gF}{l m:List Nat}(h:EG st fe l)(hm:Kc st m)(hd: ∀p∈m,p∉l):jD fe m=jD st m/\Kc fe m:=by
 constructor
 ·apply List.map_congr_left
  intro p hp;obtain⟨pr,es,h1⟩:=hm p hp;have h2:=(h p pr es (hd p hp) h1).oM;rw[h2.1,h2.2,h1.oM.1,h1.oM.2]
 ·intro p hp
  obtain⟨pr,es,h1⟩:=hm p hp;exact⟨pr,es,h p pr es (hd p hp) h1⟩
theorem tw.ne0 {st:List gF}{p:Nat}{pr:Int}{es:List oC}(h:tw st p pr es):p≠0:=by obtain⟨n,rfl,_⟩:=h;omega
theorem sJ {st:List gF}{p:Nat}{pr:Int}{es:List oC}(h:tw st p pr es)(oa:List oC)(l:List Nat)(hl:p∈l):EG st (kt st p oa) l:=λq V8 S6 hq h'=>h'.tN (λe=>hq (e▸hl)) h.ne0
theorem Wc {st:List gF}{p:Nat}{l:List Nat}(hl:Kc st (p::l))(hn:(p::l).Nodup)(oa:List oC):jD (kt st p oa) (p::l)=(fI st p,oa)::jD st l/\Kc (kt st p oa) (p::l):=by
 obtain⟨pr,es,h⟩:=hl p (zd0 ..);have hnp:=(List.nodup_cons.1 hn).1;have h1:=nK (sJ h oa [p] (List.mem_singleton.2 rfl)) (λq hq=>hl q (zdZ _ hq)) (λq hq e=>hnp (List.mem_singleton.1 e▸hq));have h2:=(h.put (oa:=oa)).oM;have h3:=h.oM;refine⟨?_,λq hq=>?_⟩
 ·show(_,_)::jD _ l=_
  rw[h1.1,h2.1,h2.2,h3.2]
 ·rcases List.mem_cons.1 hq with rfl|hq
  ·exact⟨pr,oa,h.put⟩
  ·exact h1.2 q hq
theorem EH (o:et): ∀(l:List Nat) (st:List gF) (q last no:Int) (out:List np),Kc st l->l.Nodup->∃l' fe,gW o l st q last no out=((uj o (jD st l) q last no out).1,(uj o (jD st l) q last no out).2.1,l',fe,(uj o (jD st l) q last no out).2.2.2)/\
  jD fe l'=(uj o (jD st l) q last no out).2.2.1/\l'<:+l/\EG st fe l/\Kc fe l'
 | [],st,q,last,no,out,_,_=>⟨[],st,rfl,rfl,zfA _,λ_ _ _ _ h=>h,λp hp=>by cases hp⟩
 |p::l,st,q,last,no,out,hl,hn=>by
  simp only[gW,jD,zeK,uj];obtain⟨pr,es,hp⟩:=hl p (zd0 ..);by_cases h1:q>0/\lU o (fI st p)=true
  ·rw[if_pos h1,if_pos h1]
   have hpa:=Wc hl hn (fH o.2.2.1 q.toNat q (dJ st p) []).2.2.1;have U5:=sJ hp (fH o.2.2.1 q.toNat q (dJ st p) []).2.2.1 (p::l) (zd0 ..);by_cases h2:(fH o.2.2.1 q.toNat q (dJ st p) []).1=true
   ·rw[if_pos h2,if_pos h2]
    exact⟨_,_,rfl,hpa.1,zfA _,U5,hpa.2⟩
   ·rw[if_neg h2,if_neg h2]
    by_cases h3:(fH o.2.2.1 q.toNat q (dJ st p) []).2.2.1=[]
    ·rw[if_pos h3,if_pos h3]
     have hnp:=(List.nodup_cons.1 hn).1;have ha:=nK (sJ hp (fH o.2.2.1 q.toNat q (dJ st p) []).2.2.1 [p] (List.mem_singleton.2 rfl)) (λq hq=>hl q (zdZ _ hq)) (λq hq e=>hnp (List.mem_singleton.1 e▸hq));obtain⟨l',fe,i1,i2,i3,i4,i5⟩:=EH o l (kt st p (fH o.2.2.1 q.toNat q (dJ st p) []).2.2.1) (fH o.2.2.1 q.toNat q (dJ st p) []).2.2.2 (rL (fI st p) last (fH o.2.2.1 q.toNat q (dJ st p) []).2.1) (mO (fI st p) (fH o.2.2.1 q.toNat q (dJ st p) []).2.1 (no,aB o q,out)).1 (mO (fI st p) (fH o.2.2.1 q.toNat q (dJ st p) []).2.1 (no,aB o q,out)).2.2 ha.2 (List.nodup_cons.1 hn).2;rw[ha.1] at i1 i2;exact⟨l',fe,i1,i2,i3.trans (List.suffix_cons ..),λp' V8 oa yb h'=>i4 _ _ _ (λe=>yb (zdZ _ e)) (U5 _ _ _ yb h'),i5⟩
    ·rw[if_neg h3,if_neg h3]
     exact⟨_,_,rfl,hpa.1,zfA _,U5,hpa.2⟩
  ·rw[if_neg h1,if_neg h1]
   exact⟨_,_,rfl,rfl,zfA _,λ_ _ _ _ h=>h,hl⟩
def Kd (o:et)(A:List nu):List nu:=match A.findIdx? (λa=>!iQ (br o) a.1 (aE o)) with
 |none=>A++ [(aE o,[(o,mg o,())])]
 |some n=>match A[n]? with
  |none=>A
  |some a=>if a.1=aE o then A.set n (a.1,a.2++ [(o,mg o,())]) else A.take n++((aE o,[(o,mg o,())])::A.drop n)
theorem GN (o:et){l:List Nat}{st:List gF}(hl:Kc st l)(hn:l.Nodup):jD (uR o l st).2 (uR o l st).1=Kd o (jD st l)/\Kc (uR o l st).2 (uR o l st).1/\EG st (uR o l st).2 l/\(∀p∈(uR o l st).1,p∈l\/p=st.length+1)/\(uR o l st).1.Nodup:=by
 have kW: ∀p∈l,p<=st.length:=λp hp=>by
  obtain⟨pr,es,n,rfl,h⟩:=hl p hp;have:=(List.getElem?_eq_some_iff.1 h).1;omega
 have Yu: ∀(y:gF) p pr es,tw st p pr es->tw (st++ [y]) p pr es:=λy p pr es ⟨n,e,h⟩=>by
  have:=(List.getElem?_eq_some_iff.1 h).1;exact⟨n,e,by rw[zeD this];exact h⟩
 have qZ: ∀(pr:Int) es,tw (st++ [((pr,(),()),es,())]) (st.length+1) pr es:=λpr es=>⟨st.length,rfl,by simp⟩
 have zdm:(jD st l).findIdx? (λa=>!iQ (br o) a.1 (aE o))=l.findIdx? (λp=>!iQ (br o) (fI st p) (aE o)):=by
  unfold jD;rw[List.findIdx?_map];rfl
 have A4: ∀k,k<=l.length->jD (st++ [((aE o,(),()),[(o,mg o,())],())]) (l.take k++([st.length+1]++l.drop k))=(jD st l).take k++((aE o,[(o,mg o,())])::(jD st l).drop k)/\Kc (st++ [((aE o,(),()),[(o,mg o,())],())]) (l.take k++([st.length+1]++l.drop k))/\EG st (st++ [((aE o,(),()),[(o,mg o,())],())]) l/\(∀p∈l.take k++([st.length+1]++l.drop k),p∈l\/p=st.length+1)/\(l.take k++([st.length+1]++l.drop k)).Nodup:=by
  intro k hk;have vE:EG st (st++ [((aE o,(),()),[(o,mg o,())],())]) []:=λp pr es _ h=>Yu _ p pr es h;have h1:=nK vE hl (λp _=>by simp)
  have h2:=(qZ (aE o) [(o,mg o,())]).oM;have tq: ∀p∈l.take k++([st.length+1]++l.drop k),p∈l\/p=st.length+1:=λp hp=>by
   simp only[zfa,zfb] at hp;rcases hp with hp|rfl|hp
   ·exact .inl (zeP hp)
   ·exact .inr rfl
   ·exact .inl (zfh hp)
  refine⟨?_,?_,λp pr es _ h=>Yu _ p pr es h,tq,?_⟩
  ·have h3: ∀x y:List Nat,jD (st++ [((aE o,(),()),[(o,mg o,())],())]) (x++y)=jD (st++ [((aE o,(),()),[(o,mg o,())],())]) x++jD (st++ [((aE o,(),()),[(o,mg o,())],())]) y:=λx y=>zfw
   have h4: ∀x:List Nat,jD (st++ [((aE o,(),()),[(o,mg o,())],())]) (x.take k)=(jD (st++ [((aE o,(),()),[(o,mg o,())],())]) x).take k:=λx=>List.map_take;have h5: ∀x:List Nat,jD (st++ [((aE o,(),()),[(o,mg o,())],())]) (x.drop k)=(jD (st++ [((aE o,(),()),[(o,mg o,())],())]) x).drop k:=λx=>List.map_drop;have h6:jD (st++ [((aE o,(),()),[(o,mg o,())],())]) [st.length+1]=[(aE o,[(o,mg o,())])]:=by
    show [(_,_)]=_
    rw[h2.1,h2.2]
   rw[h3,h3,h4,h5,h6,h1.1];rfl
  ·intro p hp
   rcases tq p hp with hp|rfl
   ·exact h1.2 p hp
   ·exact⟨_,_,qZ _ _⟩
  ·have UT: ∀p,p∈l->p≠st.length+1:=λp hp e=>by have:=kW p hp;omega
   rw[show l.take k++([st.length+1]++l.drop k)=l.take k++(st.length+1)::l.drop k from rfl,List.nodup_append]
   have IT:=hn;rw[<-ze5 k l,List.nodup_append] at IT;refine⟨IT.1,List.nodup_cons.2 ⟨λh=>UT _ (zfh h) rfl,IT.2.1⟩,λa ha b hb=>?_⟩;rcases List.mem_cons.1 hb with rfl|hb
   ·exact UT a (zeP ha)
   ·exact IT.2.2 a ha b hb
 unfold uR Kd;rw[zdm];have hlen:(jD st l).length=l.length:=zeX ..;cases hf:l.findIdx? (λp=>!iQ (br o) (fI st p) (aE o)) with
 |none=>
  have:=A4 l.length (zd9 _);rw[<-hlen,zen (zd9 _),List.drop_of_length_le (zd9 _),hlen] at this;exact this
 |some n=>
  have OS:n<l.length:=(List.findIdx?_eq_some_iff_getElem.1 hf).1;have hx:=zdS OS;have tq:=ze0 OS;have Yk:l.getD n 0=l[n]:=by rw[zd3,hx];rfl
  have hax:(jD st l)[n]?=some (fI st l[n],dJ st l[n]):=by unfold jD;rw[zeT,hx];rfl
  obtain⟨pr,es,hp⟩:=hl _ tq;simp only[Yk,hax];by_cases BA:fI st l[n]=aE o
  ·simp only[if_pos BA]
   refine⟨?_,λp yb=>?_,sJ hp _ l tq,λp hp=> .inl hp,hn⟩
   ·apply List.ext_getElem?
    intro j;unfold jD;rw[zfj,zeT];by_cases hj:n=j
    ·subst hj
     rw[if_pos rfl,hx,if_pos (by rw[zeX];exact OS)]
     simp only[zd2];have:=(hp.put (oa:=dJ st l[n]++ [(o,mg o,())])).oM;rw[this.1,this.2,hp.oM.2]
    ·rw[if_neg hj,zeT]
     cases hlj:l[j]? with
     |none=>rfl
     |some p=>
      simp only[zd2];have hpj:p≠l[n]:=λe=>by
       have BU:=(List.getElem?_eq_some_iff.1 hlj);obtain⟨hj1,XU⟩:=BU;have:=(List.getElem_inj hn).1 (XU.trans e);exact hj this.symm
      obtain⟨V8,oa,yb⟩:=hl p (zeO hlj);have h1:=(yb.tN (oa:=dJ st l[n]++ [(o,mg o,())]) hpj hp.ne0).oM;rw[h1.1,h1.2,yb.oM.1,yb.oM.2]
   ·by_cases e:p=l[n]
    ·subst e;exact⟨pr,_,hp.put⟩
    ·obtain⟨V8,oa,h'⟩:=hl p yb
     exact⟨V8,oa,h'.tN e hp.ne0⟩
  ·simp only[if_neg BA]
   exact A4 n (by omega)
structure EI (s pr:Int)(o:et):Prop where
 side:br o=s
 gS:aE o=pr
 qy:0<=o.1/\o.1<=31
 kp:0<=o.2.2.1/\o.2.2.1<=7
 kind:gV o=1\/gV o=5
structure mc (s:Int)(A:List nu):Prop where
 ne: ∀a∈A,a.2≠ []
 Qk: ∀a∈A,∀e∈a.2,oD e/\EI s a.1 e.1
 sorted:(A.map (·.1)).Pairwise λa b=>iQ s a b=true
structure BI (A B:List nu):Prop where
 yF:mc 1 A
 tk:mc 2 B
 yL:iV A+iV B<=64
 Wd: ∀a∈A,∀b∈B,a.1<b.1
structure Bk (bs ss:List Nat)(st:List gF)(A B:List nu):Prop where
 lb:Kc st bs
 ls:Kc st ss
 nd:(bs++ss).Nodup
 ea:jD st bs=A
 eb:jD st ss=B
theorem lY (a:nu)(A:List nu):iV (a::A)=a.2.length+iV A:=rfl
theorem qK (A B:List nu):iV (A++B)=iV A+iV B:=by unfold iV;rw[zfw,ni]
theorem tz (A:List nu):0<=iV A:=by
 induction A with
 |nil=>exact zeS _
 |cons a A ih=>rw[lY];omega
theorem Te {A:List nu}{a:nu}(h:a∈A):(a.2.length:Int)<=iV A:=by
 induction A with
 |nil=>cases h
 |cons b A ih=>
  rw[lY];have:=tz A;rcases List.mem_cons.1 h with rfl|h
  ·omega
  ·have:=ih h;omega
theorem Tf {A:List nu}(h: ∀a∈A,a.2≠ []):(A.length:Int)<=iV A:=by
 induction A with
 |nil=>exact zeS _
 |cons a A ih=>
  rw[lY];have h1:=ih λx hx=>h x (zdZ _ hx);have h2:=List.length_pos_iff.2 (h a (zd0 ..));simp only[zdX];omega
theorem We {s:Int}{st:List gF}{l:List Nat}(hl:Kc st l)(h:mc s (jD st l))(hc:iV (jD st l)<=64):yE st l:=by
 have h1:=Tf h.ne;unfold jD at h1;rw[zeX] at h1;have hm: ∀p∈l,(fI st p,dJ st p)∈jD st l:=λp hp=>List.mem_map.2 ⟨p,hp,rfl⟩;refine⟨⟨by unfold jD at hc;omega,λp hp=>?_⟩,λp hp e he=>(h.Qk _ (hm p hp) e he).1⟩
 obtain⟨pr,es,Xw⟩:=hl p hp;refine⟨pr,es,Xw,?_⟩;have:=Te (hm p hp);rw[show(fI st p,dJ st p).2=dJ st p from rfl,Xw.oM.1] at this
 omega
section
variable {bs ss:List Nat}{st:List gF}{A B:List nu}{last no:Int}
theorem Bk.yF (h:Bk bs ss st A B)(hi:BI A B):yE st bs:=We h.lb (h.ea▸hi.yF) (by rw[h.ea];have:=hi.yL;have:=tz B;omega)
theorem Bk.tk (h:Bk bs ss st A B)(hi:BI A B):yE st ss:=We h.ls (h.eb▸hi.tk) (by rw[h.eb];have:=hi.yL;have:=tz A;omega)
abbrev ku (last no:Int):MG:=(((),(),()),last,no,())
def nL (o:et)(q:Int):et:=(o.1,o.2.1,o.2.2.1,o.2.2.2.1,o.2.2.2.2.1,o.2.2.2.2.2.1,q,min (qn o) q,o.2.2.2.2.2.2.2.2)
def rG (o:et)(A B:List nu)(last no:Int):=uj o (if br o=1 then B else A) (ay o) last no []
def jl (o:et)(A B:List nu)(last no:Int):l8×List nu×List nu×Int×Int:=
 if¬FU o A B=0 then((o,[],ay o,false,false,false,FU o A B,()),A,B,last,no)
 else if(rG o A B last no).2.1>0/\(rG o A B last no).1=false/\iS o=true then
  ((o,(rG o A B last no).2.2.2.2.2,(rG o A B last no).2.1,true,false,false,0,()),(if br o=1 then Kd (nL o (rG o A B last no).2.1) A else(rG o A B last no).2.2.1),(if br o=1 then(rG o A B last no).2.2.1 else Kd (nL o (rG o A B last no).2.1) B),(rG o A B last no).2.2.2.1,(rG o A B last no).2.2.2.2.1)
 else((o,(rG o A B last no).2.2.2.2.2,(rG o A B last no).2.1,false,false,(rG o A B last no).1,0,()),(if br o=1 then A else(rG o A B last no).2.2.1),(if br o=1 then(rG o A B last no).2.2.1 else B),(rG o A B last no).2.2.2.1,(rG o A B last no).2.2.2.2.1)
theorem zx {o:et}(h:FU o A B=0):pv o=true:=by
 unfold FU at h;cases hr:pv o with
 |true=>rfl
 |false=>rw[hr] at h;simp at h
theorem On {m:List Nat}(h:Kc st m): ∀p∈m,p≠st.length+1:=λp hp e=>by
 obtain⟨pr,es,n,rfl,h⟩:=h p hp;have:=(List.getElem?_eq_some_iff.1 h).1;omega
theorem ZK (h:Bk bs ss st A B)(hi:BI A B)(o:et): ∃oW oX fe,eu WX (((),o,()),(ku last no,bs,ss,st,()))=some (((jl o A B last no).1,()),(ku (jl o A B last no).2.2.2.1 (jl o A B last no).2.2.2.2,oW,oX,fe,()))/\Bk oW oX fe (jl o A B last no).2.1 (jl o A B last no).2.2.1:=by
 have kb:=h.yF hi;have ks:=h.tk hi;have hr:=Ka (hdr:=ku last no) kb ks o;rw[Td,h.ea,h.eb] at hr;unfold jl;by_cases h0:FU o A B=0
 ·rw[if_neg (λe=>e h0)]
  have mh:=qJ (zx h0);have hnd:=List.nodup_append.1 h.nd;obtain⟨M,hM,hm⟩:=Qg kb ks hnd.1 hnd.2.1 o last no mh.side ⟨by have:=mh.pN;omega,mh.pN.2⟩
  have Ny:=iU o;rw[h0] at hr;have Uz:(0:Int)=0:=rfl;have Xw:Kc st (if br o=1 then ss else bs):=by split;exact h.ls;exact h.lb
  have hnl:(if br o=1 then ss else bs).Nodup:=by split;exact hnd.2.1;exact hnd.1
  obtain⟨l',fe,m1,m2,m3,m4,m5⟩:=EH o _ st (ay o) last no [] Xw hnl;have UP:jD st (if br o=1 then ss else bs)=(if br o=1 then B else A):=by split;exact h.eb;exact h.ea
  rw[UP] at m1 m2;change gW o _ st _ last no []=((rG o A B last no).1,(rG o A B last no).2.1,l',fe,(rG o A B last no).2.2.2) at m1;change jD fe l'=(rG o A B last no).2.2.1 at m2;rw[m1] at hM;generalize rG o A B last no=N at*;obtain⟨own,q,L,Oo,Uy,out⟩:=N;simp only at*;subst hM;simp only at hm;have tn:EG st fe (if br o=1 then ss else bs):=m4
  by_cases KO:br o=1
  ·simp only[if_pos KO] at*
   have hA:=nK m4 h.lb (λp hp yb=>hnd.2.2 p hp p yb rfl);rw[h.ea] at hA;have zP: ∀p∈l',p∈ss:=λp hp=>m3.subset hp;have hb0:Bk bs l' fe A L:=⟨hA.2,m5,List.nodup_append.2 ⟨hnd.1,m3.sublist.nodup hnd.2.1,λa ha b hb=>hnd.2.2 a ha b (zP b hb)⟩,hA.1,m2⟩;by_cases hc:q>0/\own=false/\iS o=true
   ·rw[if_pos hc]
    obtain⟨c1,c2,c3⟩:=hc;subst c2;simp only[zdU,if_false] at hm;have LB:=GN (nL o q) hA.2 hnd.1;have th:Cj fe bs:=by
     have OZ:=We (s:=1) hA.2 (hA.1▸hi.yF) (by rw[hA.1];have:=hi.yL;have:=tz B;omega)
     exact OZ.1
    have hrb:=Ta (hdr:=ku Oo Uy) (ss:=l') (nL o q) (show br (nL o q)=1 from KO) th
    have ZL:bE WX (((),(o.1,o.2.1,o.2.2.1,o.2.2.2.1,o.2.2.2.2.1,o.2.2.2.2.2.1,q,min o.2.2.2.2.2.2.2.1 q,o.2.2.2.2.2.2.2.2),()),(ku Oo Uy,bs,l',fe,()))=_:=hrb;refine⟨_,_,_,by simp only[eu,hr,zdM,↓xo,ot Uz,zdQ,zdN,hm,ot c1,zdO,zdR,Ny,c3,vf,ZL];rfl,?_⟩
    rw[hA.1] at LB;have hl': ∀p∈l',p∉bs:=λp hp yb=>hnd.2.2 p yb p (zP p hp) rfl;have hL:=nK LB.2.2.1 m5 hl';refine⟨LB.2.1,hL.2,List.nodup_append.2 ⟨LB.2.2.2.2,m3.sublist.nodup hnd.2.1,λa ha b hb e=>?_⟩,LB.1,hL.1.trans m2⟩;subst e;rcases LB.2.2.2.1 a ha with h1|h1
    ·exact hl' a hb h1
    ·exact On m5 a hb h1
   ·rw[if_neg hc]
    refine⟨bs,l',fe,?_,hb0⟩;cases own with
    |true=>
     simp only[if_true] at hm;by_cases c1:q>0
     ·simp only[eu,hr,zdM,↓xo,ot Uz,zdQ,zdN,hm,ot c1,zdO]
     ·simp only[eu,hr,zdM,↓xo,ot Uz,zdQ,zdN,hm,bg c1]
    |false=>
     simp only[zdU,if_false] at hm;by_cases c1:q>0
     ·have c3:iS o=false:=by cases hx:iS o with|false=>rfl|true=>exact absurd ⟨c1,rfl,hx⟩ hc
      simp only[eu,hr,zdM,↓xo,ot Uz,zdQ,zdN,hm,ot c1,zdO,zdR,Ny,c3]
     ·simp only[eu,hr,zdM,↓xo,ot Uz,zdQ,zdN,hm,bg c1]
  ·have Xx:br o=2:=mh.side.resolve_left KO
   simp only[if_neg KO] at*;have hA:=nK m4 h.ls (λp hp yb=>hnd.2.2 p yb p hp rfl);rw[h.eb] at hA;have zP: ∀p∈l',p∈bs:=λp hp=>m3.subset hp;have hb0:Bk l' ss fe L B:=⟨m5,hA.2,List.nodup_append.2 ⟨m3.sublist.nodup hnd.1,hnd.2.1,λa ha b hb=>hnd.2.2 a (zP a ha) b hb⟩,m2,hA.1⟩;by_cases hc:q>0/\own=false/\iS o=true
   ·rw[if_pos hc]
    obtain⟨c1,c2,c3⟩:=hc;subst c2;simp only[zdU,if_false] at hm;have LB:=GN (nL o q) hA.2 hnd.2.1;have th:Cj fe ss:=by
     have OZ:=We (s:=2) hA.2 (hA.1▸hi.tk) (by rw[hA.1];have:=hi.yL;have:=tz A;omega)
     exact OZ.1
    have hrb:=Qh (hdr:=ku Oo Uy) (bs:=l') (nL o q) (show br (nL o q)=2 from Xx) th
    have ZL:bE WX (((),(o.1,o.2.1,o.2.2.1,o.2.2.2.1,o.2.2.2.2.1,o.2.2.2.2.2.1,q,min o.2.2.2.2.2.2.2.1 q,o.2.2.2.2.2.2.2.2),()),(ku Oo Uy,l',ss,fe,()))=_:=hrb;refine⟨_,_,_,by simp only[eu,hr,zdM,↓xo,ot Uz,zdQ,zdN,hm,ot c1,zdO,zdR,Ny,c3,vf,ZL];rfl,?_⟩
    rw[hA.1] at LB;have hl': ∀p∈l',p∉ss:=λp hp yb=>hnd.2.2 p (zP p hp) p yb rfl;have hL:=nK LB.2.2.1 m5 hl';refine⟨hL.2,LB.2.1,List.nodup_append.2 ⟨m3.sublist.nodup hnd.1,LB.2.2.2.2,λa ha b hb e=>?_⟩,hL.1.trans m2,LB.1⟩;subst e;rcases LB.2.2.2.1 a hb with h1|h1
    ·exact hl' a ha h1
    ·exact On m5 a ha h1
   ·rw[if_neg hc]
    refine⟨l',ss,fe,?_,hb0⟩;cases own with
    |true=>
     simp only[if_true] at hm;by_cases c1:q>0
     ·simp only[eu,hr,zdM,↓xo,ot Uz,zdQ,zdN,hm,ot c1,zdO]
     ·simp only[eu,hr,zdM,↓xo,ot Uz,zdQ,zdN,hm,bg c1]
    |false=>
     simp only[zdU,if_false] at hm;by_cases c1:q>0
     ·have c3:iS o=false:=by cases hx:iS o with|false=>rfl|true=>exact absurd ⟨c1,rfl,hx⟩ hc
      simp only[eu,hr,zdM,↓xo,ot Uz,zdQ,zdN,hm,ot c1,zdO,zdR,Ny,c3]
     ·simp only[eu,hr,zdM,↓xo,ot Uz,zdQ,zdN,hm,bg c1]
 ·rw[if_pos h0]
  refine⟨bs,ss,st,?_,h⟩;simp only[eu,hr,zdM,↓xo,bg h0,zdR,zdO]
end
def BB (P:et->Prop):Prop:= ∀o q,P o->P (aB o q)
theorem ML {P:et->Prop}(hP:BB P){e:oC}{r:List oC}{n:Int}(he:P e.1)(hr: ∀x∈r,P x.1): ∀x∈yP e r n,P x.1:=by
 unfold yP;intro x hx;split at hx
 ·rcases List.mem_cons.1 hx with rfl|hx
  ·exact hP _ _ he
  ·exact hr x hx
 ·rcases List.mem_append.1 hx with hx|hx
  ·exact hr x hx
  ·split at hx
   ·rw[zfb] at hx;subst hx;exact hP _ _ he
   ·cases hx
theorem EJ {P:et->Prop}(hP:BB P)(kp:Int): ∀(k:Nat) (q:Int) (es out:List oC),(∀e∈es,P e.1)->(∀e∈out,P e.1)->(∀e∈(fH kp k q es out).2.1,P e.1)/\∀e∈(fH kp k q es out).2.2.1,P e.1
 |0,q,es,out,h1,h2=>⟨h2,h1⟩
 |k+1,q,es,out,h1,h2=>by
  unfold fH;split
  ·cases es with
   |nil=>exact⟨h2,h1⟩
   |cons e r=>
    simp only;have he:=h1 e (zd0 ..);split
    ·exact⟨h2,h1⟩
    ·refine EJ hP kp k _ _ _ (ML hP he λx hx=>h1 x (zdZ _ hx)) (λx hx=>?_)
     rcases List.mem_append.1 hx with hx|hx
     ·exact h2 x hx
     ·rw[zfb] at hx;subst hx;exact he
  ·exact⟨h2,h1⟩
abbrev Fl.pN (f:np):Int:=f.2.2.2.1
structure BC (s pr:Int)(o:et)(f:np):Prop where
 Xy:EI s pr f.1
 zby: ∃q,f.2.1=aB o q
 gS:f.2.2.1=pr
 pN:1<=Fl.pN f
def lv (l:List np):Int:=jK (l.map λf=>Fl.pN f)
theorem uk (a b:List np):lv (a++b)=lv a+lv b:=by unfold lv;rw[zfw,ni]
theorem Cn (s pr:Int)(o:et): ∀(hs:List oC) (no q:Int) (out:List np),zw hs->(∀h∈hs,EI s pr h.1)->∃fs,(mO pr hs (no,aB o q,out)).2.2=out++fs/\(∀f∈fs,BC s pr o f)/\lv fs=jx hs
 | [],no,q,out,_,_=>⟨[],by simp[mO],λf hf=>(by cases hf),rfl⟩
 |h::r,no,q,out,h1,h2=>by
  obtain⟨fs,i1,i2,i3⟩:=Cn s pr o r (i64.wrap (no+1)) (q-h.2.1) (out++ [(h.1,aB o q,pr,h.2.1,i64.wrap (no+1),())]) (λx hx=>h1 x (zdZ _ hx)) (λx hx=>h2 x (zdZ _ hx));refine⟨(h.1,aB o q,pr,h.2.1,i64.wrap (no+1),())::fs,?_,?_,?_⟩
  ·show(mO pr r (i64.wrap (no+1),aB o (q-h.2.1),_)).2.2=_
   rw[i1];simp
  ·intro f hf
   rcases List.mem_cons.1 hf with rfl|hf
   ·exact⟨h2 h (zd0 ..),⟨q,rfl⟩,rfl,h1 h (zd0 ..)⟩
   ·exact i2 f hf
  ·have:jx (h::r)=h.2.1+jx r:=by simp[jx,jK]
   rw[this,<-i3];rfl
theorem Co (s pr:Int):BB (EI s pr):=λ_ _ h=>⟨h.side,h.gS,h.qy,h.kp,h.kind⟩
structure Iy (s:Int)(o:et)(A:List nu)(q:Int)(out:List np)(M:Bool×Int×List nu×Int×Int×List np):Prop where
 side:mc s M.2.2.1
 Tg:M.2.2.1.map (·.1)<:+A.map (·.1)
 yL:iV M.2.2.1<=iV A
 left:0<=M.2.1/\M.2.1<=q
 stop:M.1=false->M.2.1>0->M.2.2.1=[]\/∃a L,M.2.2.1=a::L/\lU o a.1=false
 AG: ∃fs,M.2.2.2.2.2=out++fs/\(∀f∈fs,∃pr,BC s pr o f)/\lv fs=q-M.2.1
theorem mc.tail {s:Int}{a:nu}{A:List nu}(h:mc s (a::A)):mc s A:=
 ⟨λx hx=>h.ne x (zdZ _ hx),λx hx=>h.Qk x (zdZ _ hx),by have:=h.sorted;simp only[zeK,zfB] at this;exact this.2⟩
theorem mc.head {s:Int}{a:nu}{A:List nu}(h:mc s (a::A)){es:List oC}(lV:es≠ [])(he: ∀e∈es,oD e/\EI s a.1 e.1):mc s ((a.1,es)::A):=by
 refine⟨λx hx=>?_,λx hx=>?_,h.sorted⟩
 ·rcases List.mem_cons.1 hx with rfl|hx
  ·exact lV
  ·exact h.ne x (zdZ _ hx)
 ·rcases List.mem_cons.1 hx with rfl|hx
  ·exact he
  ·exact h.Qk x (zdZ _ hx)
theorem BD (s:Int)(o:et): ∀(A:List nu) (q last no:Int) (out:List np),mc s A->0<=q->Iy s o A q out (uj o A q last no out)
 | [],q,last,no,out,h,h0=>⟨h,zfA _,zeS _,⟨h0,zeS _⟩,λ_ _=> .inl rfl,[],by simp[uj],λf hf=>(by cases hf),by simp[lv,jK,uj]⟩
 |a::A,q,last,no,out,h,h0=>by
  unfold uj;by_cases hc:q>0/\lU o a.1=true
  ·rw[if_pos hc]
   have Wf:=h.Qk a (zd0 ..);obtain⟨t1,t2,t3,t4,t5,t6,t7,t8,t9⟩:=EC o.2.2.1 q.toNat q a.2 [] h0 (by omega) (λe he=>(Wf e he).1) (λx hx=>by cases hx)
   obtain⟨p1,p2⟩:=EJ (Co s a.1) o.2.2.1 q.toNat q a.2 [] (λe he=>(Wf e he).2) (λx hx=>by cases hx)
   generalize fH o.2.2.1 q.toNat q a.2 []=T at*;obtain⟨own,rC,oa,q'⟩:=T;simp only at*;obtain⟨fs,f1,f2,f3⟩:=Cn s a.1 o rC no q out t1 p1;have hz:jx ([]:List oC)=0:=rfl;have FB:iV ((a.1,oa)::A)<=iV (a::A):=by rw[lY,lY];simp only;omega
   have hf: ∃gs,(mO a.1 rC (no,aB o q,out)).2.2=out++gs/\(∀f∈gs,∃pr,BC s pr o f)/\lv gs=q-q':=⟨fs,f1,λf hf=>⟨_,f2 f hf⟩,by omega⟩
   cases own with
   |true=>
    rw[if_pos rfl];exact⟨h.head (t7 rfl) λe he=>⟨t5 e he,p2 e he⟩,zfA _,FB,⟨t3,t4⟩,λe=>(by cases e),hf⟩
   |false=>
    rw[if_neg (by simp)]
    by_cases he:oa=[]
    ·rw[if_pos he]
     have ih:=BD s o A q' (rL a.1 last rC) (mO a.1 rC (no,aB o q,out)).1 (mO a.1 rC (no,aB o q,out)).2.2 h.tail t3;obtain⟨i1,i2,i3,i4,i5,gs,i6,i7,i8⟩:=ih;refine⟨i1,i2.trans (List.suffix_cons ..),?_,⟨i4.1,by omega⟩,i5,fs++gs,?_,λf hf=>?_,?_⟩
     ·rw[lY];omega
     ·rw[i6,f1];simp
     ·rcases List.mem_append.1 hf with hf|hf
      ·exact⟨_,f2 f hf⟩
      ·exact i7 f hf
     ·rw[uk];omega
    ·rw[if_neg he]
     exact⟨h.head he λe he=>⟨t5 e he,p2 e he⟩,zfA _,FB,⟨t3,t4⟩,λ_ hq=>absurd ((t8 rfl).resolve_right he) (by simp only at hq;omega),hf⟩
  ·rw[if_neg hc]
   refine⟨h,zfA _,zeS _,⟨h0,zeS _⟩,λ_ hq=> .inr ⟨a,A,rfl,?_⟩,[],by simp,λf hf=>(by cases hf),by simp[lv,jK]⟩
   cases hx:lU o a.1 with
   |false=>rfl
   |true=>exact absurd ⟨hq,hx⟩ hc
theorem FV {s a b c:Int}(h1:iQ s a b=true)(h2:iQ s b c=true):iQ s a c=true:=by
 unfold iQ at*;split at h1<;>simp_all<;>omega
theorem Iz {s a b:Int}(h1:iQ s a b=false)(h2:a≠b):iQ s b a=true:=by
 unfold iQ at*;split at h1<;>simp_all<;>omega
theorem Oq {s:Int}{o:et}{A:List nu}(h:mc s A)(he:oD (o,mg o,())/\EI s (aE o) o):mc s (Kd o A)/\iV (Kd o A)=iV A+1/\∀a∈Kd o A,a.1=aE o\/∃b∈A,b.1=a.1:=by
 have hs:=he.2.side;have qZ: ∀x:nu,x=(aE o,[(o,mg o,())])->x.2≠ []/\∀e∈x.2,oD e/\EI s x.1 e.1:=λx hx=>by
  subst hx;refine⟨by simp,λe h=>?_⟩
  rw[zfb] at h;subst h;exact he
 have A4: ∀P S:List nu,A=P++S->(∀a∈P,iQ s a.1 (aE o)=true)->(∀a∈S,iQ s (aE o) a.1=true)->mc s (P++((aE o,[(o,mg o,())])::S))/\iV (P++((aE o,[(o,mg o,())])::S))=iV A+1/\∀a∈P++((aE o,[(o,mg o,())])::S),a.1=aE o\/∃b∈A,b.1=a.1:=by
  intro P S hA hP hS;subst hA;refine⟨⟨λa ha=>?_,λa ha=>?_,?_⟩,?_,λa ha=>?_⟩
  ·rcases List.mem_append.1 ha with ha|ha
   ·exact h.ne a (zd4 _ ha)
   ·rcases List.mem_cons.1 ha with ha|ha
    ·exact(qZ a ha).1
    ·exact h.ne a (zd5 _ ha)
  ·rcases List.mem_append.1 ha with ha|ha
   ·exact h.Qk a (zd4 _ ha)
   ·rcases List.mem_cons.1 ha with ha|ha
    ·exact(qZ a ha).2
    ·exact h.Qk a (zd5 _ ha)
  ·have:=h.sorted
   rw[zfw,List.pairwise_append] at this;rw[zfw,List.pairwise_append,zeK,zfB];refine⟨this.1,⟨λx hx=>?_,this.2.1⟩,λx hx y hy=>?_⟩
   ·obtain⟨a,ha,rfl⟩:=List.mem_map.1 hx;exact hS a ha
   ·rcases List.mem_cons.1 hy with rfl|hy
    ·obtain⟨a,ha,rfl⟩:=List.mem_map.1 hx;exact hP a ha
    ·exact this.2.2 x hx y hy
  ·rw[qK,qK,lY];simp only[zdX,zdY];omega
  ·rcases List.mem_append.1 ha with ha|ha
   ·exact .inr ⟨a,zd4 _ ha,rfl⟩
   ·rcases List.mem_cons.1 ha with rfl|ha
    ·exact .inl rfl
    ·exact .inr ⟨a,zd5 _ ha,rfl⟩
 unfold Kd;cases hf:A.findIdx? (λa=>!iQ (br o) a.1 (aE o)) with
 |none=>
  rw[zft] at hf;refine A4 A [] (by simp) (λa ha=>?_) (λa ha=>by cases ha)
  have:=hf a ha;rw[hs] at this;simpa using this
 |some n=>
  rw[zfu] at hf;obtain⟨hn,h1,h2⟩:=hf;rw[hs] at h1;simp only[zdS hn];have Fe:A=A.take n++A.drop n:=(ze5 n A).symm;have hdr:A.drop n=A[n]::A.drop (n+1):=zfy hn;have O8: ∀a∈A.take n,iQ s a.1 (aE o)=true:=λa ha=>by
   obtain⟨j,hj,rfl⟩:=zeu ha;rw[zeh] at hj;have:=h2 j (by omega)
   rw[hs] at this;rw[List.getElem_take];simpa using this
  have zbz:=h.sorted;rw[Fe,hdr,zfw,List.pairwise_append,zeK,zfB] at zbz;by_cases BA:A[n].1=aE o
  ·rw[if_pos BA]
   have uB:A.set n (A[n].1,A[n].2++ [(o,mg o,())])=A.take n++((A[n].1,A[n].2++ [(o,mg o,())])::A.drop (n+1)):=by rw[zfC,if_pos hn]
   have tq:=ze0 hn;refine⟨⟨λa ha=>?_,λa ha=>?_,?_⟩,?_,λa ha=>?_⟩
   ·rcases zeZ ha with ha|rfl
    ·exact h.ne a ha
    ·simp
   ·rcases zeZ ha with ha|rfl
    ·exact h.Qk a ha
    ·intro e hx
     rcases List.mem_append.1 hx with hx|hx
     ·exact h.Qk _ tq e hx
     ·rw[zfb] at hx;subst hx
      exact⟨he.1,by rw[show((A[n].1,A[n].2++ [(o,mg o,())]):nu).1=A[n].1 from rfl,BA];exact he.2⟩
   ·have:(A.set n (A[n].1,A[n].2++ [(o,mg o,())])).map (·.1)=A.map (·.1):=by
     rw[List.map_set];have h3:(A.map (·.1))[n]?=some A[n].1:=by rw[zeT,zdS hn];rfl
     exact aJ h3
    rw[this];exact h.sorted
   ·rw[uB,qK,lY]
    have:iV A=iV (A.take n)+(A[n].2.length+iV (A.drop (n+1))):=by rw[<-lY,<-hdr,<-qK,<-Fe]
    rw[this];simp only[zdW,zdX,zdY];omega
   ·rcases zeZ ha with ha|rfl
    ·exact .inr ⟨a,ha,rfl⟩
    ·exact .inl BA
  ·rw[if_neg BA]
   refine A4 (A.take n) (A.drop n) Fe O8 (λa ha=>?_);have hb:iQ s (aE o) A[n].1=true:=Iz (by simpa using h1) BA
   rw[hdr] at ha;rcases List.mem_cons.1 ha with rfl|ha
   ·exact hb
   ·exact FV hb (zbz.2.1.1 a.1 (List.mem_map.2 ⟨a,ha,rfl⟩))
structure Xz (o:et)(x:l8):Prop where
 ord:x.1=o
 AG:x.2.1=[]\/(AD o/\(∀f∈x.2.1,∃pr,BC (3-br o) pr o f)/\lv x.2.1=ay o-x.2.2.1)
 left:0<=ay o->0<=x.2.2.1/\x.2.2.1<=ay o
theorem EK {L B:List nu}(h:L.map (·.1)<:+B.map (·.1)){a:nu}(ha:a∈L): ∃b∈B,b.1=a.1:=by
 have:a.1∈B.map (·.1):=h.subset (List.mem_map.2 ⟨a,ha,rfl⟩)
 obtain⟨b,hb,e⟩:=List.mem_map.1 this;exact⟨b,hb,e⟩
theorem sK {o:et}(h:iS o=true):gV o=1\/gV o=5:=by
 unfold iS at h;simpa only[zeY,zd1] using h
theorem Ke {o:et}(h:AD o)(hk:iS o=true){q:Int}(h0:0<q)(h1:q<=ay o):oD (nL o q,mg (nL o q),())/\EI (br o) (aE o) (nL o q):=by
 have hq:ay (nL o q)=q:=rfl;have ht:=Of (o:=nL o q) (by rw[hq];omega)
 exact⟨⟨ht.1,ht.2,by show q<=_;have:=h.pN;omega⟩,⟨rfl,rfl,h.qy,h.kp,sK hk⟩⟩
theorem yu {A B:List nu}{last no:Int}(hi:BI A B)(o:et):BI (jl o A B last no).2.1 (jl o A B last no).2.2.1/\iV (jl o A B last no).2.1+iV (jl o A B last no).2.2.1<=iV A+iV B+(if iS o=true then 1 else 0)/\Xz o (jl o A B last no).1:=by
 have hz:(0:Int)<=(if iS o=true then 1 else 0):=by split<;>omega
 unfold jl;by_cases h0:FU o A B=0
 ·rw[if_neg (λe=>e h0)]
  have mh:=qJ (zx h0);have hq:=mh.pN;have Kf:iS o=true->iV A+iV B+1<=64:=λhr=>by
   unfold FU at h0;rw[zx (A:=A) (B:=B) (by unfold FU;exact h0)] at h0
   simp only[zdQ,zdU,if_false,hr,true_and] at h0;split at h0
   ·cases h0
   ·split at h0
    ·cases h0
    ·split at h0
     ·cases h0
     ·omega
  by_cases KO:br o=1
  ·have hm:Iy 2 o B (ay o) [] (rG o A B last no):=by unfold rG;rw[if_pos KO];exact BD 2 o B _ last no [] hi.tk (by omega)
   generalize rG o A B last no=M at*;simp only[if_pos KO];have jv: ∃fs,M.2.2.2.2.2=fs/\(∀f∈fs,∃pr,BC (3-br o) pr o f)/\lv fs=ay o-M.2.1:=by
    obtain⟨fs,f1,f2,f3⟩:=hm.AG;exact⟨fs,f1,by rw[KO];exact f2,f3⟩
   obtain⟨fs,f1,f2,f3⟩:=jv;have Th: ∀a∈A,∀b∈M.2.2.1,a.1<b.1:=λa ha b hb=>by
    obtain⟨c,hc,e⟩:=EK hm.Tg hb;rw[<-e];exact hi.Wd a ha c hc
   have FB:=hm.yL;have zdn:=hi.yL;by_cases hc:M.2.1>0/\M.1=false/\iS o=true
   ·rw[if_pos hc]
    obtain⟨c1,c2,c3⟩:=hc;have uB:=Ke mh c3 c1 hm.left.2;rw[KO] at uB;obtain⟨i1,i2,i3⟩:=Oq (s:=1) (A:=A) hi.yF uB;have:=Kf c3;refine⟨⟨i1,hm.side,by simp only[i2];omega,λa ha b hb=>?_⟩,by simp only[i2,c3,if_true];omega,rfl, .inr ⟨mh,by simp only[f1];exact f2,by simp only[f1];exact f3⟩,λ_=>hm.left⟩
    rcases i3 a ha with h1|⟨c,hc,h1⟩
    ·rcases hm.stop c2 c1 with h2|⟨x,L,h2,h3⟩
     ·simp only at hb;rw[h2] at hb;cases hb
     ·have hk:=sK c3
      have hp:aE o<x.1:=by
       unfold lU at h3;rw[if_neg (by omega),if_pos KO] at h3
       have:=of_decide_eq_false h3;omega
      have HU:a.1=aE o:=h1;simp only at hb;rw[h2] at hb;rcases List.mem_cons.1 hb with rfl|hb
      ·omega
      ·have Lt:=hm.side.sorted
       rw[h2,zeK,zfB] at Lt;have:=Lt.1 b.1 (List.mem_map.2 ⟨b,hb,rfl⟩);unfold iQ at this;rw[if_neg (by omega)] at this
       have:=of_decide_eq_true this;omega
    ·rw[<-h1];exact Th c hc b hb
   ·rw[if_neg hc]
    exact⟨⟨hi.yF,hm.side,by simp only;omega,Th⟩,by simp only;omega,rfl, .inr ⟨mh,by simp only[f1];exact f2,by simp only[f1];exact f3⟩,λ_=>hm.left⟩
  ·have Xx:br o=2:=mh.side.resolve_left KO
   have hm:Iy 1 o A (ay o) [] (rG o A B last no):=by unfold rG;rw[if_neg KO];exact BD 1 o A _ last no [] hi.yF (by omega)
   generalize rG o A B last no=M at*;simp only[if_neg KO];have jv: ∃fs,M.2.2.2.2.2=fs/\(∀f∈fs,∃pr,BC (3-br o) pr o f)/\lv fs=ay o-M.2.1:=by
    obtain⟨fs,f1,f2,f3⟩:=hm.AG;exact⟨fs,f1,by rw[Xx];exact f2,f3⟩
   obtain⟨fs,f1,f2,f3⟩:=jv;have Th: ∀a∈M.2.2.1,∀b∈B,a.1<b.1:=λa ha b hb=>by
    obtain⟨c,hc,e⟩:=EK hm.Tg ha;rw[<-e];exact hi.Wd c hc b hb
   have FB:=hm.yL;have zdn:=hi.yL;by_cases hc:M.2.1>0/\M.1=false/\iS o=true
   ·rw[if_pos hc]
    obtain⟨c1,c2,c3⟩:=hc;have uB:=Ke mh c3 c1 hm.left.2;rw[Xx] at uB;obtain⟨i1,i2,i3⟩:=Oq (s:=2) (A:=B) hi.tk uB;have:=Kf c3;refine⟨⟨hm.side,i1,by simp only[i2];omega,λb hb a ha=>?_⟩,by simp only[i2,c3,if_true];omega,rfl, .inr ⟨mh,by simp only[f1];exact f2,by simp only[f1];exact f3⟩,λ_=>hm.left⟩
    rcases i3 a ha with h1|⟨c,hc,h1⟩
    ·rcases hm.stop c2 c1 with h2|⟨x,L,h2,h3⟩
     ·simp only at hb;rw[h2] at hb;cases hb
     ·have hk:=sK c3
      have hp:x.1<aE o:=by
       unfold lU at h3;rw[if_neg (by omega),if_neg KO] at h3
       have:=of_decide_eq_false h3;omega
      have HU:a.1=aE o:=h1;simp only at hb;rw[h2] at hb;rcases List.mem_cons.1 hb with rfl|hb
      ·omega
      ·have Lt:=hm.side.sorted
       rw[h2,zeK,zfB] at Lt;have:=Lt.1 b.1 (List.mem_map.2 ⟨b,hb,rfl⟩);unfold iQ at this;rw[if_pos rfl] at this;have:=of_decide_eq_true this;omega
    ·rw[<-h1];exact Th b hb c hc
   ·rw[if_neg hc]
    exact⟨⟨hm.side,hi.tk,by simp only;omega,Th⟩,by simp only;omega,rfl, .inr ⟨mh,by simp only[f1];exact f2,by simp only[f1];exact f3⟩,λ_=>hm.left⟩
 ·rw[if_pos h0]
  exact⟨hi,by simp only;omega,rfl, .inl rfl,λh=>⟨h,zeS _⟩⟩
def vh (t i:Int)(A B:List nu):et×Bool×List nu×List nu:=match mX t i A with
 |some (m,o)=>(o,true,(match A[m]? with|some a=>if qw t i a.2=[] then A.eraseIdx m else A.set m (a.1,qw t i a.2)|none=>A),B)
 |none=>match mX t i B with
  |some (m,o)=>(o,true,A,(match B[m]? with|some a=>if qw t i a.2=[] then B.eraseIdx m else B.set m (a.1,qw t i a.2)|none=>B))
  |none=>(o0,false,A,B)
section
variable {bs ss:List Nat}{st:List gF}{A B:List nu}{last no:Int}
theorem yc {l:List Nat}(hl:Kc st l)(hn:l.Nodup){m:Nat}(hm:m<l.length)(oa:List oC):jD (kt st l[m] oa) l=(jD st l).set m (fI st l[m],oa)/\Kc (kt st l[m] oa) l:=by
 obtain⟨pr,es,hp⟩:=hl _ (ze0 hm);constructor
 ·apply List.ext_getElem?
  intro j;unfold jD;rw[zfj,zeT];by_cases hj:m=j
  ·subst hj
   rw[if_pos rfl,zdS hm,if_pos (by rw[zeX];exact hm)]
   simp only[zd2];have:=(hp.put (oa:=oa)).oM;rw[this.1,this.2,hp.oM.2]
  ·rw[if_neg hj,zeT]
   cases hlj:l[j]? with
   |none=>rfl
   |some p=>
    simp only[zd2];have hpj:p≠l[m]:=λe=>by
     obtain⟨hj1,XU⟩:=List.getElem?_eq_some_iff.1 hlj;exact hj ((List.getElem_inj hn).1 (XU.trans e)).symm
    obtain⟨V8,S6,yb⟩:=hl p (zeO hlj);have h1:=(yb.tN (oa:=oa) hpj hp.ne0).oM;rw[h1.1,h1.2,yb.oM.1,yb.oM.2]
 ·intro p yb
  by_cases e:p=l[m]
  ·subst e;exact⟨pr,_,hp.put⟩
  ·obtain⟨V8,S6,h'⟩:=hl p yb
   exact⟨V8,S6,h'.tN e hp.ne0⟩
theorem oc {t i:Int}: ∀{A:List nu} {m:Nat} {o:et},mX t i A=some (m,o)->∃a,A[m]?=some a/\Qi t i a=some o
 | [],_,_,h=>by cases h
 |a::A,m,o,h=>by
  simp only[mX] at h;cases e:Qi t i a with
  |some x=>rw[e] at h;cases h;exact⟨a,rfl,e⟩
  |none=>
   rw[e] at h;simp only at h;cases e2:mX t i A with
   |none=>rw[e2] at h;cases h
   |some y=>
    rw[e2] at h;obtain⟨m',o'⟩:=y;cases h;obtain⟨q,h1,h2⟩:=oc e2;exact⟨q,by simpa using h1,h2⟩
theorem GO {l:List Nat}(hl:Kc st l)(hn:l.Nodup){m:Nat}(hm:m<l.length)(oa:List oC):jD (kt st l[m] oa) (mN l m oa)=(if oa=[] then(jD st l).eraseIdx m else(jD st l).set m (fI st l[m],oa))/\(mN l m oa).Sublist l:=by
 have h:=yc hl hn hm oa;unfold mN;by_cases e:oa=[]
 ·rw[if_pos e,if_pos e]
  refine⟨?_,zfD ..⟩;have h1:jD (kt st l[m] oa) (l.eraseIdx m)=(jD (kt st l[m] oa) l).eraseIdx m:=by unfold jD;rw[zfr,zfw,List.map_take,List.map_drop,<-zfr]
  rw[h1,h.1,List.eraseIdx_set_eq]
 ·rw[if_neg e,if_neg e]
  exact⟨h.1,List.Sublist.refl _⟩
theorem ZM (h:Bk bs ss st A B)(hi:BI A B)(t i:Int): ∃oW oX fe,fY WX (((),t,i,()),(ku last no,bs,ss,st,()))=some (((vh t i A B).1,(vh t i A B).2.1,()),(ku last no,oW,oX,fe,()))/\Bk oW oX fe (vh t i A B).2.2.1 (vh t i A B).2.2.2:=by
 have hr:=MH (hdr:=ku last no) (t:=t) (i:=i) (h.yF hi).1 (h.tk hi).1;have hnd:=List.nodup_append.1 h.nd;obtain⟨lb,ls,nd,rfl,rfl⟩:=h;unfold EA at hr;unfold vh;rw[pH,pH] at hr;cases hf:mX t i (jD st bs) with
 |some x=>
  obtain⟨m,o⟩:=x;obtain⟨a,h1,h2⟩:=oc hf;have hm:m<bs.length:=by have:=(List.getElem?_eq_some_iff.1 h1).1;unfold jD at this;rw[zeX] at this;exact this
  have hx:=zdS hm;have hg:bs.getD m 0=bs[m]:=by rw[zd3,hx];rfl
  have ha:a=(fI st bs[m],dJ st bs[m]):=by
   unfold jD at h1;rw[zeT,hx] at h1;cases h1;rfl
  subst ha;rw[hf] at hr;simp only[hg] at hr;obtain⟨s1,s2⟩:=GO lb hnd.1 hm (qw t i (dJ st bs[m]));have Ol:=nK (sJ (lb _ (ze0 hm)).choose_spec.choose_spec (qw t i (dJ st bs[m])) bs (ze0 hm)) ls (λp hp yb=>hnd.2.2 p yb p hp rfl);refine⟨_,_,_,hr,⟨λp hp=>(yc lb hnd.1 hm _).2 p (s2.subset hp),Ol.2,List.nodup_append.2 ⟨s2.nodup hnd.1,hnd.2.1,λa ha b hb=>hnd.2.2 a (s2.subset ha) b hb⟩,?_,Ol.1⟩⟩;simp only[h1];exact s1
 |none=>
  rw[hf] at hr;cases xF:mX t i (jD st ss) with
  |some x=>
   obtain⟨m,o⟩:=x;obtain⟨a,h1,h2⟩:=oc xF;have hm:m<ss.length:=by have:=(List.getElem?_eq_some_iff.1 h1).1;unfold jD at this;rw[zeX] at this;exact this
   have hx:=zdS hm;have hg:ss.getD m 0=ss[m]:=by rw[zd3,hx];rfl
   have ha:a=(fI st ss[m],dJ st ss[m]):=by
    unfold jD at h1;rw[zeT,hx] at h1;cases h1;rfl
   subst ha;rw[xF] at hr;simp only[hg] at hr;obtain⟨s1,s2⟩:=GO ls hnd.2.1 hm (qw t i (dJ st ss[m]));have Ol:=nK (sJ (ls _ (ze0 hm)).choose_spec.choose_spec (qw t i (dJ st ss[m])) ss (ze0 hm)) lb (λp hp yb=>hnd.2.2 p hp p yb rfl);refine⟨_,_,_,hr,⟨Ol.2,λp hp=>(yc ls hnd.2.1 hm _).2 p (s2.subset hp),List.nodup_append.2 ⟨hnd.1,s2.nodup hnd.2.1,λa ha b hb=>hnd.2.2 a ha b (s2.subset hb)⟩,Ol.1,?_⟩⟩;simp only[h1];exact s1
  |none=>
   rw[xF] at hr;exact⟨_,_,_,hr,⟨lb,ls,nd,rfl,rfl⟩⟩
end
theorem Ti {A B:List nu}(h:A.Sublist B):iV A<=iV B:=by
 induction h with
 |slnil=>exact zeS _
 |cons a h ih=>rw[lY];omega
 |cons_cons a h ih=>rw[lY,lY];omega
theorem Tj {s:Int}{A B:List nu}(h:mc s B)(hs:A.Sublist B):mc s A:=
 ⟨λa ha=>h.ne a (hs.subset ha),λa ha=>h.Qk a (hs.subset ha),h.sorted.sublist (hs.map _)⟩
theorem Kg {s:Int}{A:List nu}(h:mc s A){m:Nat}{a:nu}(ha:A[m]?=some a){es:List oC}(lV:es≠ [])(he: ∀e∈es,oD e/\EI s a.1 e.1)(hl:es.length<=a.2.length):mc s (A.set m (a.1,es))/\iV (A.set m (a.1,es))<=iV A/\(A.set m (a.1,es)).map (·.1)=A.map (·.1):=by
 have hp:(A.set m (a.1,es)).map (·.1)=A.map (·.1):=by
  rw[List.map_set];have h3:(A.map (·.1))[m]?=some a.1:=by rw[zeT,ha];rfl
  exact aJ h3
 have hm:=(List.getElem?_eq_some_iff.1 ha).1;refine⟨⟨λx hx=>?_,λx hx=>?_,by rw[hp];exact h.sorted⟩,?_,hp⟩
 ·rcases zeZ hx with hx|rfl
  ·exact h.ne x hx
  ·exact lV
 ·rcases zeZ hx with hx|rfl
  ·exact h.Qk x hx
  ·exact he
 ·have hdr:A.drop m=a::A.drop (m+1):=by
   rw[zfy hm,(List.getElem?_eq_some_iff.1 ha).2]
  have h1:iV A=iV (A.take m)+(a.2.length+iV (A.drop (m+1))):=by rw[<-lY,<-hdr,<-qK,ze5]
  rw[zfC,if_pos hm,qK,lY,h1];simp only;omega
theorem Tk {A A' B:List nu}(h:BI A B)(h1:mc 1 A')(h2:iV A'<=iV A)(h3: ∀a∈A',∃b∈A,b.1=a.1):BI A' B:=
 ⟨h1,h.tk,by have:=h.yL;omega,λa ha b hb=>by obtain⟨c,hc,e⟩:=h3 a ha;rw[<-e];exact h.Wd c hc b hb⟩
theorem Ot {A B B':List nu}(h:BI A B)(h1:mc 2 B')(h2:iV B'<=iV B)(h3: ∀b∈B',∃c∈B,c.1=b.1):BI A B':=
 ⟨h.yF,h1,by have:=h.yL;omega,λa ha b hb=>by obtain⟨c,hc,e⟩:=h3 b hb;rw[<-e];exact h.Wd a ha c hc⟩
theorem Cp {A A':List nu}(h:A'.map (·.1)=A.map (·.1)): ∀a∈A',∃b∈A,b.1=a.1:=λa ha=>by
 have:a.1∈A.map (·.1):=h▸List.mem_map.2 ⟨a,ha,rfl⟩
 obtain⟨b,hb,e⟩:=List.mem_map.1 this;exact⟨b,hb,e⟩
theorem Tl (t i:Int)(es:List oC):(qw t i es).Sublist es:=by
 unfold qw;split
 ·exact zfD ..
 ·exact List.Sublist.refl _
theorem Kh {s:Int}{A:List nu}(h:mc s A){m:Nat}{a:nu}(ha:A[m]?=some a)(t i:Int):mc s (if qw t i a.2=[] then A.eraseIdx m else A.set m (a.1,qw t i a.2))/\iV (if qw t i a.2=[] then A.eraseIdx m else A.set m (a.1,qw t i a.2))<=iV A/\∀x∈(if qw t i a.2=[] then A.eraseIdx m else A.set m (a.1,qw t i a.2)),∃b∈A,b.1=x.1:=by
 by_cases e:qw t i a.2=[]
 ·simp only[if_pos e]
  have hs:(A.eraseIdx m).Sublist A:=zfD ..;exact⟨Tj h hs,Ti hs,λx hx=>⟨x,hs.subset hx,rfl⟩⟩
 ·simp only[if_neg e]
  have hs:=Tl t i a.2;have:=Kg h ha e (λx hx=>h.Qk a (zeO ha) x (hs.subset hx)) hs.length_le;exact⟨this.1,this.2.1,Cp this.2.2⟩
theorem Wg {A B:List nu}(h:BI A B)(t i:Int):BI (vh t i A B).2.2.1 (vh t i A B).2.2.2/\iV (vh t i A B).2.2.1+iV (vh t i A B).2.2.2<=iV A+iV B:=by
 unfold vh;cases hf:mX t i A with
 |some x=>
  obtain⟨m,o⟩:=x;obtain⟨a,h1,h2⟩:=oc hf;simp only[h1];obtain⟨a1,a2,a3⟩:=Kh h.yF h1 t i;exact⟨Tk h a1 a2 a3,by omega⟩
 |none=>
  cases xF:mX t i B with
  |some x=>
   obtain⟨m,o⟩:=x;obtain⟨a,h1,h2⟩:=oc xF;simp only[h1];obtain⟨a1,a2,a3⟩:=Kh h.tk h1 t i;exact⟨Ot h a1 a2 a3,by omega⟩
  |none=>exact⟨h,zeS _⟩
def yd (t i q:Int)(A B:List nu):Bool×List nu×List nu:=match mX t i A with
 |some (m,_)=>(match A[m]? with|some a=>((nS t i q a.2).1,A.set m (a.1,(nS t i q a.2).2),B)|none=>(false,A,B))
 |none=>match mX t i B with
  |some (m,_)=>(match B[m]? with|some a=>((nS t i q a.2).1,A,B.set m (a.1,(nS t i q a.2).2))|none=>(false,A,B))
  |none=>(false,A,B)
theorem Tm (t i q:Int){s pr:Int}{es:List oC}(h: ∀e∈es,oD e/\EI s pr e.1):(∀e∈(nS t i q es).2,oD e/\EI s pr e.1)/\(nS t i q es).2.length=es.length:=by
 unfold nS;cases hf:es.findIdx? (λe=>kM t i e.1) with
 |none=>exact⟨h,rfl⟩
 |some n=>
  have hn:n<es.length:=(List.findIdx?_eq_some_iff_getElem.1 hf).1;have hd:es.getD n ((0,0,0,0,0,0,0,0,0,()),0,())=es[n]:=by rw[zd3,zdS hn];rfl
  have hm:=h _ (ze0 hn);simp only[hd];split
  ·exact⟨h,rfl⟩
  ·rename_i hq
   refine⟨λe he=>?_,zeq⟩;rcases zeZ he with he|rfl
   ·exact h e he
   ·obtain⟨⟨a1,a2,a3⟩,a4⟩:=hm
    exact⟨⟨by show 1<=min _ _;omega,by show min _ _<=q;omega,by show q<=_;omega⟩,Co _ _ _ _ a4⟩
theorem GP (t i q:Int){s:Int}{A:List nu}(h:mc s A){m:Nat}{a:nu}(ha:A[m]?=some a):mc s (A.set m (a.1,(nS t i q a.2).2))/\iV (A.set m (a.1,(nS t i q a.2).2))<=iV A/\∀x∈A.set m (a.1,(nS t i q a.2).2),∃b∈A,b.1=x.1:=by
 have hm:=zeO ha;have hl:=Tm t i q (h.Qk a hm);have lV:(nS t i q a.2).2≠ []:=λe=>h.ne a hm (zem (by rw[<-hl.2,e];rfl))
 have:=Kg h ha lV hl.1 (by omega)
 exact⟨this.1,this.2.1,Cp this.2.2⟩
theorem Tn {A B:List nu}(h:BI A B)(t i q:Int):BI (yd t i q A B).2.1 (yd t i q A B).2.2/\iV (yd t i q A B).2.1+iV (yd t i q A B).2.2<=iV A+iV B:=by
 unfold yd;cases hf:mX t i A with
 |some x=>
  obtain⟨m,o⟩:=x;obtain⟨a,h1,h2⟩:=oc hf;simp only[h1];obtain⟨a1,a2,a3⟩:=GP t i q h.yF h1;exact⟨Tk h a1 a2 a3,by omega⟩
 |none=>
  cases xF:mX t i B with
  |some x=>
   obtain⟨m,o⟩:=x;obtain⟨a,h1,h2⟩:=oc xF;simp only[h1];obtain⟨a1,a2,a3⟩:=GP t i q h.tk h1;exact⟨Ot h a1 a2 a3,by omega⟩
  |none=>exact⟨h,zeS _⟩
def vj (t i:Int)(A B:List nu):Option et:=match mX t i A with|some x=>some x.2|none=>match mX t i B with|some x=>some x.2|none=>none
section
variable {bs ss:List Nat}{st:List gF}{A B:List nu}{last no:Int}
theorem Ou (h:Bk bs ss st A B)(hi:BI A B)(t i:Int):fq WX (((),t,i,()),(ku last no,bs,ss,st,()))=some (((vj t i A B).getD o0,(vj t i A B).isSome,()),(ku last no,bs,ss,st,())):=by
 have hr:=J7 (hdr:=ku last no) (t:=t) (i:=i) (h.yF hi).1 (h.tk hi).1;rw[pH,pH,h.ea,h.eb] at hr;unfold vj;rw[hr];cases mX t i A with
 |some x=>rfl
 |none=>cases mX t i B<;>rfl
theorem ZN (h:Bk bs ss st A B)(hi:BI A B):iw WX (((),()),(ku last no,bs,ss,st,()))=some ((iV A+iV B,()),(ku last no,bs,ss,st,())):=by
 have:=Ok (hdr:=ku last no) (h.yF hi).1 (h.tk hi).1;rw[AF,AF,h.ea,h.eb] at this;exact this
theorem GQ (h:Bk bs ss st A B)(hi:BI A B)(s:Int)(hs:s=1\/s=2):fB WX (((),s,()),(ku last no,bs,ss,st,()))=some (.inr ((ui (if s=1 then A else B),()),(ku last no,bs,ss,st,()))):=by
 have:=MJ (hdr:=ku last no) (h.yF hi).1 (h.tk hi).1 s hs;rw[Qj] at this;rw[this];split
 ·rw[h.ea]
 ·rw[h.eb]
theorem Wh (h:Bk bs ss st A B)(hi:BI A B)(t i q:Int): ∃fe,gL WX (((),t,i,q,()),(ku last no,bs,ss,st,()))=some (((yd t i q A B).1,()),(ku last no,bs,ss,fe,()))/\Bk bs ss fe (yd t i q A B).2.1 (yd t i q A B).2.2:=by
 have hr:=SZ (hdr:=ku last no) (t:=t) (i:=i) (h.yF hi).1 (h.tk hi).1 q;have hnd:=List.nodup_append.1 h.nd;obtain⟨lb,ls,nd,rfl,rfl⟩:=h;unfold Iv at hr;unfold yd;rw[pH,pH] at hr;cases hf:mX t i (jD st bs) with
 |some x=>
  obtain⟨m,o⟩:=x;obtain⟨a,h1,h2⟩:=oc hf;have hm:m<bs.length:=by have:=(List.getElem?_eq_some_iff.1 h1).1;unfold jD at this;rw[zeX] at this;exact this
  have hx:=zdS hm;have hg:bs.getD m 0=bs[m]:=by rw[zd3,hx];rfl
  have ha:a=(fI st bs[m],dJ st bs[m]):=by
   unfold jD at h1;rw[zeT,hx] at h1;cases h1;rfl
  subst ha;rw[hf] at hr;simp only[hg] at hr;have hp:=yc lb hnd.1 hm (nS t i q (dJ st bs[m])).2;have Ol:=nK (sJ (lb _ (ze0 hm)).choose_spec.choose_spec (nS t i q (dJ st bs[m])).2 bs (ze0 hm)) ls (λp hp yb=>hnd.2.2 p yb p hp rfl);simp only[h1];exact⟨_,hr,hp.2,Ol.2,nd,hp.1,Ol.1⟩
 |none=>
  rw[hf] at hr;cases xF:mX t i (jD st ss) with
  |some x=>
   obtain⟨m,o⟩:=x;obtain⟨a,h1,h2⟩:=oc xF;have hm:m<ss.length:=by have:=(List.getElem?_eq_some_iff.1 h1).1;unfold jD at this;rw[zeX] at this;exact this
   have hx:=zdS hm;have hg:ss.getD m 0=ss[m]:=by rw[zd3,hx];rfl
   have ha:a=(fI st ss[m],dJ st ss[m]):=by
    unfold jD at h1;rw[zeT,hx] at h1;cases h1;rfl
   subst ha;rw[xF] at hr;simp only[hg] at hr;have hp:=yc ls hnd.2.1 hm (nS t i q (dJ st ss[m])).2;have Ol:=nK (sJ (ls _ (ze0 hm)).choose_spec.choose_spec (nS t i q (dJ st ss[m])).2 ss (ze0 hm)) lb (λp hp yb=>hnd.2.2 p hp p yb rfl);simp only[h1];exact⟨_,hr,Ol.2,hp.2,nd,Ol.1,hp.1⟩
  |none=>
   rw[xF] at hr;exact⟨_,hr,lb,ls,nd,rfl,rfl⟩
end
theorem Cq {L:List (List et)}{i:Nat}{x:List et}(h:L[i]?=some x):(L.take (i+1)).flatten=(L.take i).flatten++x:=by
 have hi:i<L.length:=(List.getElem?_eq_some_iff.1 h).1;rw[zfk,h];simp
theorem GR {L:List (List et)}(i:Nat):(L.take i).flatten.length<=L.flatten.length:=by
 conv=>rhs;rw[<-ze5 i L,List.flatten_append,zdW]
 omega
theorem Cr (L:List (List et))(h:L.flatten.length<=1000000000)(hn:L.length<=1000000):ag (aR WX) ((L,0,L,(L.length:Int),0,()),())=some ((L,(L.flatten.length:Int),()),()):=by
 have key: ∀m i:Nat,i+m=L.length->ag (aR WX) ((L,((L.take i).flatten.length:Int),L,(L.length:Int),(i:Int),()),())=some ((L,(L.flatten.length:Int),()),()):=by
  intro m;induction m with
  |zero=>
   intro i hi;rw[ar];have:i=L.length:=by omega
   subst this;simp only[aR,↓xo,oF ((L.length:Int)<(L.length:Int)),zdN,ze4]
  |succ m ih=>
   intro i hi;have nB:i<L.length:=by omega
   have hx:=zdS nB;generalize L[i]=x at hx;have hf:=Cq hx;have hle:=GR (L:=L) (i+1);rw[hf,zdW] at hle;rw[ar];have e1:IntKind.wrap .i64 (((L.take i).flatten.length:Int)+(x.length:Int))=((L.take (i+1)).flatten.length:Int):=by
    rw[nR (by omega) (by omega),hf,zdW];omega
   simp only[aR,↓xo,xw,oT ((i:Int)<(L.length:Int)),oT ((0:Int)<=(i:Int)),zdO,zdP,hx,zdM,e1,oF (((L.take (i+1)).flatten.length:Int)<0),zdN,lG nB hn];exact ih (i+1) (by omega)
 exact key L.length 0 (by omega)
theorem IA (L:List (List et))(hn:L.length<=1000000):ag (aP WX) ((0,L,(L.length:Int),0,()),(List.replicate L.flatten.length ((0:Int),(0:Int),(0:Int),(0:Int),(0:Int),(0:Int),(0:Int),(0:Int),(0:Int),()),()))=some ((L.flatten.length,()),(L.flatten,())):=by
 have key: ∀m i:Nat,i+m=L.length->ag (aP WX) (((L.take i).flatten.length,L,(L.length:Int),(i:Int),()),((L.take i).flatten++List.replicate (L.flatten.length-(L.take i).flatten.length) ((0:Int),(0:Int),(0:Int),(0:Int),(0:Int),(0:Int),(0:Int),(0:Int),(0:Int),()),()))=some ((L.flatten.length,()),(L.flatten,())):=by
  intro m;induction m with
  |zero=>
   intro i hi;rw[ar];have:i=L.length:=by omega
   subst this;simp only[aP,↓xo,oF ((L.length:Int)<(L.length:Int)),zdN,ze4,Nat.sub_self,ze1,zfe]
  |succ m ih=>
   intro i hi;have nB:i<L.length:=by omega
   have hx:=zdS nB;generalize L[i]=x at hx;have hf:=Cq hx;have hle:=GR (L:=L) (i+1);rw[hf,zdW] at hle;rw[ar];have e2:((L.take i).flatten++List.replicate (L.flatten.length-(L.take i).flatten.length) ((0:Int),(0:Int),(0:Int),(0:Int),(0:Int),(0:Int),(0:Int),(0:Int),(0:Int),())).take (0+(L.take i).flatten.length)++x++((L.take i).flatten++List.replicate (L.flatten.length-(L.take i).flatten.length) ((0:Int),(0:Int),(0:Int),(0:Int),(0:Int),(0:Int),(0:Int),(0:Int),(0:Int),())).drop (0+(L.take i).flatten.length+x.length)=(L.take (i+1)).flatten++List.replicate (L.flatten.length-(L.take (i+1)).flatten.length) ((0:Int),(0:Int),(0:Int),(0:Int),(0:Int),(0:Int),(0:Int),(0:Int),(0:Int),()):=by
    rw[zeC,List.take_left,List.drop_append,zfi (by omega),zeN,List.drop_replicate,hf,zdW]
    congr 2
    omega
   simp only[aP,↓xo,xw,oT ((i:Int)<(L.length:Int)),oT ((0:Int)<=(i:Int)),zdO,zdP,hx,zdM,
    ot (show 0+(L.take i).flatten.length+x.length<=((L.take i).flatten++List.replicate (L.flatten.length-(L.take i).flatten.length) ((0:Int),(0:Int),(0:Int),(0:Int),(0:Int),(0:Int),(0:Int),(0:Int),(0:Int),())).length by rw[zdW,zeG];omega),e2,lG nB hn]
   have:=ih (i+1) (by omega)
   rw[hf,zdW] at this⊢;exact this
 have:=key L.length 0 (by omega)
 simpa using this
theorem FW (L:List (List et))(hf:L.flatten=[])(hn:L.length<=1000000):ag (aO WX) (((),L,(L.length:Int),0,()),(([]:List et),()))=some (((),()),([],())):=by
 have key: ∀m i:Nat,i+m=L.length->ag (aO WX) (((),L,(L.length:Int),(i:Int),()),(([]:List et),()))=some (((),()),([],())):=by
  intro m;induction m with
  |zero=>
   intro i hi;rw[ar];have:i=L.length:=by omega
   subst this;simp only[aO,↓xo,oF ((L.length:Int)<(L.length:Int)),zdN]
  |succ m ih=>
   intro i hi;have nB:i<L.length:=by omega
   have hx:=zdS nB;have hm:=ze0 nB;have h0:L[i]=[]:=List.flatten_eq_nil_iff.1 hf _ hm;rw[h0] at hx;rw[ar];simp only[aO,↓xo,xw,oT ((i:Int)<(L.length:Int)),oT ((0:Int)<=(i:Int)),zdO,zdP,hx,zdM,zfe,zdY,lG nB hn,
    ot (show(((0+0:Nat):Int))*((72:Nat):Int)<=((room:Nat):Int) by unfold room;omega)]
   exact ih (i+1) (by omega)
 exact key L.length 0 (by omega)
theorem IB (L:List (List et))(hf:L.flatten=[])(hn:L.length<=1000000):aL WX ((L,()),())=some (.inr (((),()),([],()))):=by
 have h3:=Cr L (by rw[hf];simp) hn
 have hb:=FW L hf hn;rw[hf] at h3;change _=some ((L,0,()),()) at h3;have hg:cf WX (((),0,()),())=some (.inr (((),()),[],())):=by kernel_rfl
 simp only[aL,xl,h3,zdM,hg,hb]
theorem Ki (L:List (List et))(hf:L.flatten≠ [])(h:L.flatten.length<=1000000000)(hn:L.length<=1000000):aL WX ((L,()),())=some (.inl ((L.flatten.length,()),(L.flatten,()))):=by
 have h3:=Cr L h hn;have hb:=IA L hn;have hp:0<L.flatten.length:=List.length_pos_iff.2 hf;generalize hN:L.flatten.length=n at*;have e0:IntKind.wrap .i64 ((n:Int)-IntKind.wrap .i64 (0-0))=(n:Int):=by
  rw[nR (n:=0-0) (by omega) (by omega),nR (by omega) (by omega)];omega
 simp only[aL,xl,h3,zdM,cf,↓xo,xw,e0,oF ((n:Int)<0),zdN,oT ((n:Int)>0),zdO,zdY,zfl,zeN,zeG,zdP,and_self,iF];have e1:aa ((0:Int)=0/\(0:Int)=0)=true:=ot (by decide)
 have e2:aa ((0:Int)<=(n:Int)/\(0+(n:Int))*((72:Nat):Int)<=((room:Nat):Int))=true:=ot (by unfold room;omega)
 have e3:aa ((0:Int)<=0/\(0:Int)<=0/\(0:Int)<=(n:Int))=true:=ot (by omega)
 have e4:((0:Int)-(0:Int)).toNat=0:=rfl;simp only[e1,e2,e3,zdO,zdM,e4,hb]
theorem CR (L:List (List et))(h:L.flatten.length<=1000000000)(hn:L.length<=1000000):aL WX ((L,()),())=some (.inr (((),()),([],())))/\L.flatten=[]\/aL WX ((L,()),())=some (.inl ((L.flatten.length,()),(L.flatten,()))):=by
 by_cases hf:L.flatten=[]
 ·exact .inl ⟨IB L hf hn,hf⟩
 ·exact .inr (Ki L hf h hn)
theorem Cs {L:List (List mf)}{i:Nat}{x:List mf}(h:L[i]?=some x):(L.take (i+1)).flatten=(L.take i).flatten++x:=by
 have hi:i<L.length:=(List.getElem?_eq_some_iff.1 h).1;rw[zfk,h];simp
theorem GS {L:List (List mf)}(i:Nat):(L.take i).flatten.length<=L.flatten.length:=by
 conv=>rhs;rw[<-ze5 i L,List.flatten_append,zdW]
 omega
theorem Cu (L:List (List mf))(h:L.flatten.length<=1000000000)(hn:L.length<=1000000):ag (bc WX) ((L,0,L,(L.length:Int),0,()),())=some ((L,(L.flatten.length:Int),()),()):=by
 have key: ∀m i:Nat,i+m=L.length->ag (bc WX) ((L,((L.take i).flatten.length:Int),L,(L.length:Int),(i:Int),()),())=some ((L,(L.flatten.length:Int),()),()):=by
  intro m;induction m with
  |zero=>
   intro i hi;rw[ar];have:i=L.length:=by omega
   subst this;simp only[bc,↓xo,oF ((L.length:Int)<(L.length:Int)),zdN,ze4]
  |succ m ih=>
   intro i hi;have nB:i<L.length:=by omega
   have hx:=zdS nB;generalize L[i]=x at hx;have hf:=Cs hx;have hle:=GS (L:=L) (i+1);rw[hf,zdW] at hle;rw[ar];have e1:IntKind.wrap .i64 (((L.take i).flatten.length:Int)+(x.length:Int))=((L.take (i+1)).flatten.length:Int):=by
    rw[nR (by omega) (by omega),hf,zdW];omega
   simp only[bc,↓xo,xw,oT ((i:Int)<(L.length:Int)),oT ((0:Int)<=(i:Int)),zdO,zdP,hx,zdM,e1,oF (((L.take (i+1)).flatten.length:Int)<0),zdN,lG nB hn];exact ih (i+1) (by omega)
 exact key L.length 0 (by omega)
theorem IC (L:List (List mf))(hn:L.length<=1000000):ag (aV WX) ((0,L,(L.length:Int),0,()),(List.replicate L.flatten.length ((0:Int),(0:Int),(0:Int),(0:Int),(0:Int),(0:Int),(0:Int),(0:Int),(0:Int),(0:Int),(List.replicate 32 (0:Int)),()),()))=some ((L.flatten.length,()),(L.flatten,())):=by
 have key: ∀m i:Nat,i+m=L.length->ag (aV WX) (((L.take i).flatten.length,L,(L.length:Int),(i:Int),()),((L.take i).flatten++List.replicate (L.flatten.length-(L.take i).flatten.length) ((0:Int),(0:Int),(0:Int),(0:Int),(0:Int),(0:Int),(0:Int),(0:Int),(0:Int),(0:Int),(List.replicate 32 (0:Int)),()),()))=some ((L.flatten.length,()),(L.flatten,())):=by
  intro m;induction m with
  |zero=>
   intro i hi;rw[ar];have:i=L.length:=by omega
   subst this;simp only[aV,↓xo,oF ((L.length:Int)<(L.length:Int)),zdN,ze4,Nat.sub_self,ze1,zfe]
  |succ m ih=>
   intro i hi;have nB:i<L.length:=by omega
   have hx:=zdS nB;generalize L[i]=x at hx;have hf:=Cs hx;have hle:=GS (L:=L) (i+1);rw[hf,zdW] at hle;rw[ar];have e2:((L.take i).flatten++List.replicate (L.flatten.length-(L.take i).flatten.length) ((0:Int),(0:Int),(0:Int),(0:Int),(0:Int),(0:Int),(0:Int),(0:Int),(0:Int),(0:Int),(List.replicate 32 (0:Int)),())).take (0+(L.take i).flatten.length)++x++((L.take i).flatten++List.replicate (L.flatten.length-(L.take i).flatten.length) ((0:Int),(0:Int),(0:Int),(0:Int),(0:Int),(0:Int),(0:Int),(0:Int),(0:Int),(0:Int),(List.replicate 32 (0:Int)),())).drop (0+(L.take i).flatten.length+x.length)=(L.take (i+1)).flatten++List.replicate (L.flatten.length-(L.take (i+1)).flatten.length) ((0:Int),(0:Int),(0:Int),(0:Int),(0:Int),(0:Int),(0:Int),(0:Int),(0:Int),(0:Int),(List.replicate 32 (0:Int)),()):=by
    rw[zeC,List.take_left,List.drop_append,zfi (by omega),zeN,List.drop_replicate,hf,zdW]
    congr 2
    omega
   simp only[aV,↓xo,xw,oT ((i:Int)<(L.length:Int)),oT ((0:Int)<=(i:Int)),zdO,zdP,hx,zdM,
    ot (show 0+(L.take i).flatten.length+x.length<=((L.take i).flatten++List.replicate (L.flatten.length-(L.take i).flatten.length) ((0:Int),(0:Int),(0:Int),(0:Int),(0:Int),(0:Int),(0:Int),(0:Int),(0:Int),(0:Int),(List.replicate 32 (0:Int)),())).length by rw[zdW,zeG];omega),e2,lG nB hn]
   have:=ih (i+1) (by omega)
   rw[hf,zdW] at this⊢;exact this
 have:=key L.length 0 (by omega)
 simpa using this
theorem FX (L:List (List mf))(hf:L.flatten=[])(hn:L.length<=1000000):ag (aS WX) (((),L,(L.length:Int),0,()),(([]:List mf),()))=some (((),()),([],())):=by
 have key: ∀m i:Nat,i+m=L.length->ag (aS WX) (((),L,(L.length:Int),(i:Int),()),(([]:List mf),()))=some (((),()),([],())):=by
  intro m;induction m with
  |zero=>
   intro i hi;rw[ar];have:i=L.length:=by omega
   subst this;simp only[aS,↓xo,oF ((L.length:Int)<(L.length:Int)),zdN]
  |succ m ih=>
   intro i hi;have nB:i<L.length:=by omega
   have hx:=zdS nB;have hm:=ze0 nB;have h0:L[i]=[]:=List.flatten_eq_nil_iff.1 hf _ hm;rw[h0] at hx;rw[ar];simp only[aS,↓xo,xw,oT ((i:Int)<(L.length:Int)),oT ((0:Int)<=(i:Int)),zdO,zdP,hx,zdM,zfe,zdY,lG nB hn,
    ot (show(((0+0:Nat):Int))*((112:Nat):Int)<=((room:Nat):Int) by unfold room;omega)]
   exact ih (i+1) (by omega)
 exact key L.length 0 (by omega)
theorem ID (L:List (List mf))(hf:L.flatten=[])(hn:L.length<=1000000):bo WX ((L,()),())=some (.inr (((),()),([],()))):=by
 have h3:=Cu L (by rw[hf];simp) hn
 have hb:=FX L hf hn;rw[hf] at h3;change _=some ((L,0,()),()) at h3;have hg:cB WX (((),0,()),())=some (.inr (((),()),[],())):=by kernel_rfl
 simp only[bo,xl,h3,zdM,hg,hb]
theorem Kj (L:List (List mf))(hf:L.flatten≠ [])(h:L.flatten.length<=1000000000)(hn:L.length<=1000000):bo WX ((L,()),())=some (.inl ((L.flatten.length,()),(L.flatten,()))):=by
 have h3:=Cu L h hn;have hb:=IC L hn;have hp:0<L.flatten.length:=List.length_pos_iff.2 hf;generalize hN:L.flatten.length=n at*;have e0:IntKind.wrap .i64 ((n:Int)-IntKind.wrap .i64 (0-0))=(n:Int):=by
  rw[nR (n:=0-0) (by omega) (by omega),nR (by omega) (by omega)];omega
 simp only[bo,xl,h3,zdM,cB,↓xo,xw,e0,oF ((n:Int)<0),zdN,oT ((n:Int)>0),zdO,zdY,zfl,zeN,zeG,zdP,and_self,iF];have e1:aa ((0:Int)=0/\(0:Int)=0)=true:=ot (by decide)
 have e2:aa ((0:Int)<=(n:Int)/\(0+(n:Int))*((112:Nat):Int)<=((room:Nat):Int))=true:=ot (by unfold room;omega)
 have e3:aa ((0:Int)<=0/\(0:Int)<=0/\(0:Int)<=(n:Int))=true:=ot (by omega)
 have e4:((0:Int)-(0:Int)).toNat=0:=rfl;simp only[e1,e2,e3,zdO,zdM,e4,hb]
theorem CS (L:List (List mf))(h:L.flatten.length<=1000000000)(hn:L.length<=1000000):bo WX ((L,()),())=some (.inr (((),()),([],())))/\L.flatten=[]\/bo WX ((L,()),())=some (.inl ((L.flatten.length,()),(L.flatten,()))):=by
 by_cases hf:L.flatten=[]
 ·exact .inl ⟨ID L hf hn,hf⟩
 ·exact .inr (Kj L hf h hn)
theorem Dg {L R:Type}{b:L->Option (L⊕R)}(mk:Nat->L)(fin:R)(n:Nat)(hs: ∀i,i<n->b (mk i)=some (.inl (mk (i+1))))(he:b (mk n)=some (.inr fin)): ∀i,i<=n->ag b (mk i)=some fin:=by
 have key: ∀m i,i+m=n->ag b (mk i)=some fin:=by
  intro m;induction m with
  |zero=>intro i hi;rw[ar,show i=n by omega,he]
  |succ m ih=>intro i hi;rw[ar,hs i (by omega)];exact ih (i+1) (by omega)
 exact λi hi=>key (n-i) i (by omega)
theorem GU {L R α:Type}{b:L->Option (L⊕R)}(l:List α)(p:α->Bool)(mk:Nat->L)(res:Nat->R)(fin:R)(hs: ∀i (h:i<l.length),b (mk i)=some (if p l[i]=true then .inr (res i) else .inl (mk (i+1))))(he:b (mk l.length)=some (.inr fin)):
  ag b (mk 0)=some (match l.findIdx? p with|some n=>res n|none=>fin):=by
 have key: ∀m i,i+m=l.length->(∀j (h:j<l.length),j<i->p l[j]=false)->ag b (mk i)=some (match l.findIdx? p with|some n=>res n|none=>fin):=by
  intro m;induction m with
  |zero=>
   intro i hi v8;have:l.findIdx? p=none:=by
    rw[zft];intro x hx;obtain⟨j,hj,rfl⟩:=zeu hx;exact v8 j hj (by omega)
   rw[ar,show i=l.length by omega,he,this]
  |succ m ih=>
   intro i hi v8;rw[ar,hs i (by omega)]
   cases hp:p (l[i]'(by omega)) with
   |true=>
    have:l.findIdx? p=some i:=by
     rw[zfu];exact⟨by omega,hp,λj hj=>by rw[v8 j (by omega) hj];simp⟩
    rw[this];rfl
   |false=>
    rw[if_neg (by simp)]
    exact ih (i+1) (by omega) (λj h hj=>by
     by_cases e:j=i
     ·subst e;exact hp
     ·exact v8 j h (by omega))
 exact key l.length 0 (by omega) (λj _ h=>by omega)
theorem rD {L R:Type}{b:L->Option (L⊕R)}(I:Nat->L->Prop)(Q:R->Prop)(hs: ∀k l,I k l->(∃l',b l=some (.inl l')/\∃k',k'<k/\I k' l')\/∃r,b l=some (.inr r)/\Q r): ∀k l,I k l->∃r,ag b l=some r/\Q r:=by
 intro k;induction k using Nat.strongRecOn with
 |_ k ih=>
  intro l hl;rcases hs k l hl with⟨l',h1,k',h2,h3⟩|⟨r,h1,h2⟩
  ·obtain⟨r,h4,h5⟩:=ih k' h2 l' h3
   exact⟨r,by rw[ar,h1];exact h4,h5⟩
  ·exact⟨r,by rw[ar,h1],h2⟩
def Kk {α:Type}(p:α->Bool)(l:List α):Int:=match l.findIdx? p with|some n=>(n:Int)|none=> -1
theorem GW (t i:Int)(ws:List et)(hl:ws.length<=1000000):bA WX ((ws,((),(),()),()),(t,i,()))=some ((Kk (kM t i) ws,()),(t,i,())):=by
 have h:=GU (b:=aF WX) ws (kM t i) (λk=>((ws,((),(),()),(ws.length:Int),(k:Int),()),(t,i,()))) (λn=> .inl (((n:Int),()),(t,i,()))) (.inr ((),(t,i,()))) (λk hk=>by
  have hx:=zdS hk;generalize ws[k]=x at hx;have e1:=lG hk hl;have hp:eH WX ((x,(),(),()),(t,i,()))=some ((kM t i x,()),(t,i,())):=by
   unfold kM;by_cases h1:x.1=t
   ·by_cases h2:x.2.1=i
    ·simp only[eH,↓xo,ot h1,zdO,ot h2];rw[decide_eq_true ⟨h1,h2⟩]
    ·simp only[eH,↓xo,ot h1,zdO,bg h2];rw[decide_eq_false (λq=>h2 q.2)]
   ·simp only[eH,↓xo,bg h1,zdN];rw[decide_eq_false (λq=>h1 q.1)]
  cases hb:kM t i x with
  |true=>simp only[aF,↓xo,oT ((k:Int)<(ws.length:Int)),oT ((0:Int)<=(k:Int)),zdO,zdP,hx,zdM,hp,hb,if_true]
  |false=>simp only[aF,↓xo,xw,oT ((k:Int)<(ws.length:Int)),oT ((0:Int)<=(k:Int)),zdO,zdP,hx,zdM,hp,hb,zdN,e1,zdU,if_false])
  (by simp only[aF,↓xo,oF ((ws.length:Int)<(ws.length:Int)),zdN])
 change ag (aF WX) ((ws,((),(),()),(ws.length:Int),0,()),(t,i,()))=_ at h;unfold Kk;simp only[bA,↓xl,h,zdM];cases ws.findIdx? (kM t i)<;>rfl
abbrev FY (last:Int)(o:et):Bool:=Bx o last
theorem Kl (last no:Int)(bs ss:List Nat)(st:List gF)(ws:List et)(hl:ws.length<=1000000):bu WX ((ws,(((),(),()),()),()),(ku last no,bs,ss,st,()))=some ((Kk (FY last) ws,()),(ku last no,bs,ss,st,())):=by
 have h:=GU (b:=az WX) ws (FY last) (λk=>((ws,(((),(),()),()),(ws.length:Int),(k:Int),()),(ku last no,bs,ss,st,()))) (λn=> .inl (((n:Int),()),(ku last no,bs,ss,st,()))) (.inr ((),(ku last no,bs,ss,st,()))) (λk hk=>by
  have hx:=zdS hk;generalize ws[k]=x at hx;have e1:=lG hk hl;have hh:=MF x last;have hp:dW WX ((x,((),(),()),()),(ku last no,bs,ss,st,()))=some ((FY last x,()),(ku last no,bs,ss,st,())):=by
   simp only[dW,gK,zdM,hh]
  cases hb:FY last x with
  |true=>simp only[az,↓xo,oT ((k:Int)<(ws.length:Int)),oT ((0:Int)<=(k:Int)),zdO,zdP,hx,zdM,hp,hb,if_true]
  |false=>simp only[az,↓xo,xw,oT ((k:Int)<(ws.length:Int)),oT ((0:Int)<=(k:Int)),zdO,zdP,hx,zdM,hp,hb,zdN,e1,zdU,if_false])
  (by simp only[az,↓xo,oF ((ws.length:Int)<(ws.length:Int)),zdN])
 change ag (az WX) ((ws,(((),(),()),()),(ws.length:Int),0,()),(ku last no,bs,ss,st,()))=_ at h;unfold Kk;simp only[bu,↓xl,h,zdM];cases ws.findIdx? (FY last)<;>rfl
theorem Ov {es:List et}{i:Nat}(h:i<es.length)(hl:es.length<=1000000):bw WX (((),(i:Int),((i+1:Nat):Int),()),(es,()))=some (((),()),(es.eraseIdx i,())):=by
 have e0:((i:Int)-(0:Int)).toNat=i:=by omega
 have e1:(es.drop (i+1)).length=es.length-(i+1):=by rw[zei]
 have e2:es.take (0+i)++es.drop (i+1)++es.drop (0+i+(es.length-(i+1)))=es.eraseIdx i++es.drop (es.length-1):=by
  rw[zeC,zfr,show i+(es.length-(i+1))=es.length-1 by omega]
 have e3:(es.eraseIdx i).length=es.length-1:=zfs h;have e4:i+(es.length-(i+1))=es.length-1:=by omega
 have e5:(es.drop (es.length-1)).length=1:=by rw[zei];omega
 simp only[bw,↓xo,oT (0<=(i:Int)/\(i:Int)<=((i+1:Nat):Int)/\((i+1:Nat):Int)<=(es.length:Int)/\(es.length:Int)<=(es.length:Int)),zdO,oF ((i:Int)=((i+1:Nat):Int)),zdN,oT (0<=(0:Int)/\(0:Int)<=(i:Int)/\(i:Int)<=(es.length:Int)),
  oT (0<=((i+1:Nat):Int)/\((i+1:Nat):Int)<=(es.length:Int)),e0,zdP,e1,oT (0+i+(es.length-(i+1))<=es.length),e2,e4]
 have e6: ∀X:List et,(es.eraseIdx i++X).take (es.length-1)=es.eraseIdx i:=λX=>by rw[List.take_append_of_le_length (by omega),zen (by omega)]
 simp only[e6,zfn,zfp,ot (show 0<=((es.length-1:Nat):Int)/\((es.length-1:Nat):Int)<=(es.length:Int)/\(es.length:Int)<=(((es.eraseIdx i++es.drop (es.length-1)).length-0:Nat):Int) by rw[zdW,e3,e5];omega),zdO]
structure wF (A B:List nu)(ws:List et):Prop where
 bi:BI A B
 wo: ∀o∈ws,AD o/\0<ml o
 yL:iV A+iV B+ws.length<=64
theorem wF.len {A B:List nu}{ws:List et}(h:wF A B ws):ws.length<=64:=by have:=h.yL;have:=tz A;have:=tz B;omega
def s7 (t i:Int)(A B:List nu)(ws:List et):Option et:=match vj t i A B with|some o=>some o|none=>match ws.findIdx? (kM t i) with|some n=>some (ws.getD n o0)|none=>none
def mP (t i:Int)(A B:List nu)(ws:List et):et×Bool×List nu×List nu×List et:=
 if(vh t i A B).2.1=true then((vh t i A B).1,true,(vh t i A B).2.2.1,(vh t i A B).2.2.2,ws)
 else match ws.findIdx? (kM t i) with
  |some n=>(ws.getD n o0,true,(vh t i A B).2.2.1,(vh t i A B).2.2.2,ws.eraseIdx n)
  |none=>(o0,false,(vh t i A B).2.2.1,(vh t i A B).2.2.2,ws)
abbrev Cv (last no:Int)(bs ss:List Nat)(ws:List et)(st:List gF):(Unit×Unit×Unit)×MG×List Nat×List Nat×List et×List gF×Unit:=(((),(),()),ku last no,bs,ss,ws,st,())
abbrev FZ (last no:Int)(bs ss:List Nat)(ws:List et)(st:List gF):(Unit×Unit×Unit)×MG×List et×List Nat×List Nat×List gF×Unit:=(((),(),()),ku last no,ws,bs,ss,st,())
section
variable {bs ss:List Nat}{st:List gF}{A B:List nu}{ws:List et}{last no:Int}
theorem IE (h:Bk bs ss st A B)(hi:wF A B ws)(t i:Int):dZ WX (((),t,i,()),Cv last no bs ss ws st)=some (((s7 t i A B ws).getD o0,(s7 t i A B ws).isSome,()),FZ last no bs ss ws st):=by
 have hf:=Ou (last:=last) (no:=no) h hi.bi t i;have hp:=GW t i ws (by have:=hi.len;omega)
 unfold Kk at hp;unfold s7;cases hr:vj t i A B with
 |some o=>
  rw[hr] at hf;simp only[ze7,zfz] at hf;simp only[dZ,hf,zdM,zdO,ze7,zfz]
 |none=>
  rw[hr] at hf;simp only[Option.getD_none,ze3] at hf;cases hw:ws.findIdx? (kM t i) with
  |none=>
   rw[hw] at hp;have e: ¬(-1:Int)>=0:=by omega
   simp only[dZ,hf,zdM,zdN,eA,hp,↓xo,bg e,Option.getD_none,ze3]
  |some n=>
   rw[hw] at hp;have hn:=(List.findIdx?_eq_some_iff_getElem.1 hw).1;have hx:=zdS hn;have hg:ws.getD n o0=ws[n]:=by rw[zd3,hx];rfl
   simp only[dZ,hf,zdM,zdN,eA,hp,↓xo,oT ((n:Int)>=0),zdO,oT (0<=(n:Int)/\(n:Int)<(ws.length:Int)),zdP,hx,ze7,zfz,hg]
theorem MM (h:Bk bs ss st A B)(hi:wF A B ws)(t i:Int): ∃oW oX fe,cI WX (((),t,i,()),Cv last no bs ss ws st)=some (((mP t i A B ws).1,(mP t i A B ws).2.1,()),FZ last no oW oX (mP t i A B ws).2.2.2.2 fe)/\Bk oW oX fe (mP t i A B ws).2.2.1 (mP t i A B ws).2.2.2.1:=by
 obtain⟨oW,oX,fe,hr,hb⟩:=ZM (last:=last) (no:=no) h hi.bi t i;have hp:=GW t i ws (by have:=hi.len;omega)
 unfold Kk at hp;unfold mP;refine⟨oW,oX,fe,?_⟩;cases he:(vh t i A B).2.1 with
 |true=>
  rw[he] at hr;rw[if_pos rfl];exact⟨by simp only[cI,hr,zdM,zdO],hb⟩
 |false=>
  rw[he] at hr;rw[if_neg (by simp)]
  cases hw:ws.findIdx? (kM t i) with
  |none=>
   rw[hw] at hp;have e:(-1:Int)<0:=by omega
   exact⟨by simp only[cI,hr,zdM,zdN,eA,hp,↓xo,ot e,zdO],hb⟩
  |some n=>
   rw[hw] at hp;have hn:=(List.findIdx?_eq_some_iff_getElem.1 hw).1;have hx:=zdS hn;have hg:ws.getD n o0=ws[n]:=by rw[zd3,hx];rfl
   have hd:=Ov hn (by have:=hi.len;omega)
   have e1:=lG hn (by have:=hi.len;omega)
   exact⟨by simp only[cI,hr,zdM,zdN,eA,hp,↓xo,xw,oF ((n:Int)<0),oT (0<=(n:Int)/\(n:Int)<(ws.length:Int)),zdO,zdP,hx,e1,hd,hg],hb⟩
theorem EL (hi:wF A B ws)(t i:Int):wF (mP t i A B ws).2.2.1 (mP t i A B ws).2.2.2.1 (mP t i A B ws).2.2.2.2/\(mP t i A B ws).2.2.2.2.Sublist ws:=by
 have h:=Wg hi.bi t i;have hc:=hi.yL;unfold mP;split
 ·exact⟨⟨h.1,hi.wo,by simp only;omega⟩,List.Sublist.refl _⟩
 ·split
  ·rename_i n hn
   have hs:(ws.eraseIdx n).Sublist ws:=zfD ..;have:=hs.length_le;exact⟨⟨h.1,λo ho=>hi.wo o (hs.subset ho),by simp only;omega⟩,hs⟩
  ·exact⟨⟨h.1,hi.wo,by simp only;omega⟩,List.Sublist.refl _⟩
theorem ZO (h:Bk bs ss st A B)(hi:wF A B ws):hJ WX (((),()),Cv last no bs ss ws st)=some ((iV A+iV B+ws.length,()),FZ last no bs ss ws st):=by
 have hl:=ZN (last:=last) (no:=no) h hi.bi;have hc:=hi.yL;have:=tz A;have:=tz B;have e:i64.wrap (iV A+iV B+(ws.length:Int))=iV A+iV B+ws.length:=nR (by omega) (by omega)
 simp only[hJ,hl,zdM,↓xo,xw,e]
def ye (A B:List nu)(ws:List et):List et:=ui A++(ui B++ws)
theorem GX (A:List nu):((ui A).length:Int)=iV A:=by
 unfold ui iV;induction A with
 |nil=>rfl
 |cons p l ih=>simp only[zeA,zdW,zeX,zeK,jK,zeI] at*;omega
theorem AH (hi:wF A B ws):(ye A B ws).length<=64:=by
 have:=GX A;have:=GX B;have:=hi.yL;unfold ye;rw[zdW,zdW];omega
theorem all_mk (h:Bk bs ss st A B)(hi:wF A B ws):fW WX (((),()),Cv last no bs ss ws st)=some ((ye A B ws,()),FZ last no bs ss ws st):=by
 have h1:=GQ (last:=last) (no:=no) h hi.bi 1 (.inl rfl);have h2:=GQ (last:=last) (no:=no) h hi.bi 2 (.inr rfl);rw[if_pos rfl] at h1;rw[if_neg (by omega)] at h2
 have hf: [ui A,ui B,ws].flatten=ye A B ws:=by simp[ye]
 have hc:=CR [ui A,ui B,ws] (by rw[hf];have:=AH hi;omega) (by simp)
 rw[hf] at hc;rcases hc with⟨hc,h0⟩|hc
 ·rw[h0]
  simp only[fW,h1,zdM,h2,hc]
 ·simp only[fW,h1,zdM,h2,hc,ze4]
end
def yQ (o:et)(A B:List nu)(ws:List et):Int:=
 if(!pv o)=true then 1 else if(s7 o.1 o.2.1 A B ws).isSome=true then 5
 else if iV A+iV B+ws.length>=64/\(ml o>0\/gV o=1\/gV o=5) then 4 else 0
def fR (o:et):et:=(o.1,o.2.1,o.2.2.1,o.2.2.2.1,o.2.2.2.2.1,o.2.2.2.2.2.1,o.2.2.2.2.2.2.1,o.2.2.2.2.2.2.2.1,0,())
abbrev MS:=List nu×List nu×List et×Int×Int
def kc:Nat->MS->List l8->MS×List l8
 |0,m,out=>(m,out)
 |k+1,(A,B,ws,last,no),out=>match ws.findIdx? (FY last) with
  |none=>((A,B,ws,last,no),out)
  |some n=>kc k ((jl (fR (ws.getD n o0)) A B last no).2.1,(jl (fR (ws.getD n o0)) A B last no).2.2.1,ws.eraseIdx n,(jl (fR (ws.getD n o0)) A B last no).2.2.2.1,(jl (fR (ws.getD n o0)) A B last no).2.2.2.2) (out++ [(ws.getD n o0,(jl (fR (ws.getD n o0)) A B last no).1.2)])
def ll (o:et)(m:MS):MS×List l8:=
 if¬yQ o m.1 m.2.1 m.2.2.1=0 then((kc m.2.2.1.length m []).1,(o,[],ay o,false,false,false,yQ o m.1 m.2.1 m.2.2.1,())::(kc m.2.2.1.length m []).2)
 else if ml o>0/\Bx o m.2.2.2.1=false then((kc (m.2.2.1.length+1) (m.1,m.2.1,m.2.2.1++ [o],m.2.2.2) []).1,(o,[],ay o,false,true,false,0,())::(kc (m.2.2.1.length+1) (m.1,m.2.1,m.2.2.1++ [o],m.2.2.2) []).2)
 else((kc m.2.2.1.length ((jl (fR o) m.1 m.2.1 m.2.2.2.1 m.2.2.2.2).2.1,(jl (fR o) m.1 m.2.1 m.2.2.2.1 m.2.2.2.2).2.2.1,m.2.2.1,(jl (fR o) m.1 m.2.1 m.2.2.2.1 m.2.2.2.2).2.2.2) []).1,(o,(jl (fR o) m.1 m.2.1 m.2.2.2.1 m.2.2.2.2).1.2)::(kc m.2.2.1.length ((jl (fR o) m.1 m.2.1 m.2.2.2.1 m.2.2.2.2).2.1,(jl (fR o) m.1 m.2.1 m.2.2.2.1 m.2.2.2.2).2.2.1,m.2.2.1,(jl (fR o) m.1 m.2.1 m.2.2.2.1 m.2.2.2.2).2.2.2) []).2)
section
variable {bs ss:List Nat}{st:List gF}{A B:List nu}{ws:List et}{last no:Int}
theorem MN (h:Bk bs ss st A B)(hi:wF A B ws)(o:et):cF WX (((),o,()),Cv last no bs ss ws st)=some ((yQ o A B ws,()),FZ last no bs ss ws st):=by
 have hR:=AB o;have hF:=IE (last:=last) (no:=no) h hi o.1 o.2.1;have hL:=ZO (last:=last) (no:=no) h hi;have Wa: ¬(1:Int)=0:=by omega
 unfold yQ;cases hr:pv o with
 |false=>
  rw[hr] at hR;simp only[cF,hR,zdM,zdN,↓xo,bg Wa,zdR,zdO,if_true]
 |true=>
  rw[hr] at hR;cases hf:(s7 o.1 o.2.1 A B ws).isSome with
  |true=>
   rw[hf] at hF;simp only[cF,hR,zdM,zdO,↓xo,iF,zdQ,zdN,hF,if_true,zdU,if_false]
  |false=>
   rw[hf] at hF;simp only[zdQ,zdU,if_false];by_cases h1:iV A+iV B+ws.length>=64
   ·by_cases h2:ml o>0
    ·rw[if_pos ⟨h1, .inl h2⟩]
     simp only[cF,hR,zdM,zdO,↓xo,iF,zdQ,zdN,hF,hL,ot h1,ot h2]
    ·by_cases h3:gV o=1
     ·rw[if_pos ⟨h1, .inr (.inl h3)⟩]
      simp only[cF,hR,zdM,zdO,↓xo,iF,zdQ,zdN,hF,hL,ot h1,bg h2,ot h3]
     ·by_cases h4:gV o=5
      ·rw[if_pos ⟨h1, .inr (.inr h4)⟩]
       simp only[cF,hR,zdM,zdO,↓xo,iF,zdQ,zdN,hF,hL,ot h1,bg h2,bg h3,ot h4]
      ·rw[if_neg (by rintro⟨_,h|h|h⟩;exact h2 h;exact h3 h;exact h4 h)]
       simp only[cF,hR,zdM,zdO,↓xo,iF,zdQ,zdN,hF,hL,ot h1,bg h2,bg h3,bg h4]
   ·rw[if_neg (λh=>h1 h.1)]
    simp only[cF,hR,zdM,zdO,↓xo,iF,zdQ,zdN,hF,hL,bg h1]
theorem Km (h:Bk bs ss st A B)(hi:BI A B)(o:et)(ws:List et): ∃oW oX fe,eR WX (((),o,()),Cv last no bs ss ws st)=some (((o,(jl (fR o) A B last no).1.2),()),FZ (jl (fR o) A B last no).2.2.2.1 (jl (fR o) A B last no).2.2.2.2 oW oX ws fe)/\Bk oW oX fe (jl (fR o) A B last no).2.1 (jl (fR o) A B last no).2.2.1:=by
 obtain⟨oW,oX,fe,h1,h2⟩:=ZK (last:=last) (no:=no) h hi (fR o);refine⟨oW,oX,fe,?_,h2⟩;unfold fR at h1;simp only[eR,h1,zdM];rfl
theorem EM (o:et):iS (fR o)=iS o:=rfl
theorem one_le {p:Prop} [Decidable p]:(if p then(1:Int) else 0)<=1:=by split<;>omega
theorem Wi: ∀(k:Nat) (bs ss:List Nat) (st:List gF) (A B:List nu) (ws:List et) (last no:Int) (out:List l8),Bk bs ss st A B->wF A B ws->ws.length<=k->out.length+ws.length<=1000->∃oW oX fe,ag (bX WX) (((),(),()),(),((),(),()),ku last no,bs,ss,ws,out,st,())=
  some (((),()),(),((),(),()),ku (kc k (A,B,ws,last,no) out).1.2.2.2.1 (kc k (A,B,ws,last,no) out).1.2.2.2.2,(kc k (A,B,ws,last,no) out).1.2.2.1,oW,oX,(kc k (A,B,ws,last,no) out).2,fe,())/\Bk oW oX fe (kc k (A,B,ws,last,no) out).1.1 (kc k (A,B,ws,last,no) out).1.2.1/\
  wF (kc k (A,B,ws,last,no) out).1.1 (kc k (A,B,ws,last,no) out).1.2.1 (kc k (A,B,ws,last,no) out).1.2.2.1/\(∀o∈(kc k (A,B,ws,last,no) out).1.2.2.1,Bx o (kc k (A,B,ws,last,no) out).1.2.2.2.1=false):=by
 intro k;have vG: ∀(bs ss:List Nat) (st:List gF) (A B:List nu) (ws:List et) (last no:Int) (out:List l8),wF A B ws->ws.findIdx? (FY last)=none->ag (bX WX) (((),(),()),(),((),(),()),ku last no,bs,ss,ws,out,st,())=some (((),()),(),((),(),()),ku last no,ws,bs,ss,out,st,())/\∀o∈ws,Bx o last=false:=by
  intro bs ss st A B ws last no out hi hn;have hp:=Kl last no bs ss st ws (by have:=hi.len;omega)
  unfold Kk at hp;rw[hn] at hp;have e:(-1:Int)<0:=by omega
  refine⟨by rw[ar];simp only[bX,hp,zdM,↓xo,ot e,zdO],λo ho=>?_⟩
  rw[zft] at hn;exact hn o ho
 induction k with
 |zero=>
  intro bs ss st A B ws last no out h hi hk ho;have:ws=[]:=zem (by omega)
  subst this;have:=vG bs ss st A B [] last no out hi rfl;exact⟨bs,ss,st,this.1,h,hi,this.2⟩
 |succ k ih=>
  intro bs ss st A B ws last no out h hi hk ho;unfold kc;cases hw:ws.findIdx? (FY last) with
  |none=>
   have:=vG bs ss st A B ws last no out hi hw;exact⟨bs,ss,st,this.1,h,hi,this.2⟩
  |some n=>
   simp only;have hn:=(List.findIdx?_eq_some_iff_getElem.1 hw).1;have hx:=zdS hn;have hg:ws.getD n o0=ws[n]:=by rw[zd3,hx];rfl
   rw[hg];have hl:=hi.len;have hd:=Ov hn (by omega)
   have e1:=lG hn (by omega)
   have hp:=Kl last no bs ss st ws (by omega)
   unfold Kk at hp;rw[hw] at hp;obtain⟨bs1,ss1,wQ,h1,h2⟩:=Km (last:=last) (no:=no) h hi.bi ws[n] (ws.eraseIdx n);have hs:(ws.eraseIdx n).Sublist ws:=zfD ..;have hlen:=zfs hn;obtain⟨a1,a2,a3⟩:=yu (last:=last) (no:=no) hi.bi (fR ws[n]);have hle:=one_le (p:=iS (fR ws[n])=true);have nB:wF (jl (fR ws[n]) A B last no).2.1 (jl (fR ws[n]) A B last no).2.2.1 (ws.eraseIdx n):=⟨a1,λo ho=>hi.wo o (hs.subset ho),by rw[hlen];have:=hi.yL;omega⟩
   obtain⟨oW,oX,fe,i1,i2⟩:=ih bs1 ss1 wQ _ _ (ws.eraseIdx n) (jl (fR ws[n]) A B last no).2.2.2.1 (jl (fR ws[n]) A B last no).2.2.2.2 (out++ [(ws[n],(jl (fR ws[n]) A B last no).1.2)]) h2 nB (by omega) (by rw[hlen,zdW,zfE];omega)
   refine⟨oW,oX,fe,?_,i2⟩;rw[ar];simp only[bX,hp,zdM,↓xo,xw,oF ((n:Int)<0),zdN,oT (0<=(n:Int)/\(n:Int)<(ws.length:Int)),zdO,zdP,hx,e1,hd,h1,ot (show(((out.length+([(ws[n],(jl (fR ws[n]) A B last no).1.2)]:List l8).length:Nat):Int))*((120:Nat):Int)<=((room:Nat):Int) by unfold room;simp only[zdX,zdY];omega)]
   exact i1
theorem yv: ∀(k:Nat) (m:MS) (out:List l8),(kc k m out).2.length<=out.length+k
 |0,m,out=>zd9 _
 |k+1,(A,B,ws,last,no),out=>by
  unfold kc;split
  ·show out.length<=_;omega
  ·rename_i n _
   have:=yv k ((jl (fR (ws.getD n o0)) A B last no).2.1,(jl (fR (ws.getD n o0)) A B last no).2.2.1,ws.eraseIdx n,(jl (fR (ws.getD n o0)) A B last no).2.2.2.1,(jl (fR (ws.getD n o0)) A B last no).2.2.2.2) (out++ [(ws.getD n o0,(jl (fR (ws.getD n o0)) A B last no).1.2)]);rw[zdW,zfE] at this;omega
theorem wG (h:Bk bs ss st A B)(hi:wF A B ws)(k:Nat)(hk:ws.length<=k): ∃oW oX fe,df WX (((),()),Cv last no bs ss ws st)=
  some (((),()),((),(),()),ku (kc k (A,B,ws,last,no) []).1.2.2.2.1 (kc k (A,B,ws,last,no) []).1.2.2.2.2,(kc k (A,B,ws,last,no) []).1.2.2.1,oW,oX,(kc k (A,B,ws,last,no) []).2,fe,())/\Bk oW oX fe (kc k (A,B,ws,last,no) []).1.1 (kc k (A,B,ws,last,no) []).1.2.1/\
  wF (kc k (A,B,ws,last,no) []).1.1 (kc k (A,B,ws,last,no) []).1.2.1 (kc k (A,B,ws,last,no) []).1.2.2.1/\(∀o∈(kc k (A,B,ws,last,no) []).1.2.2.1,Bx o (kc k (A,B,ws,last,no) []).1.2.2.2.1=false):=by
 obtain⟨oW,oX,fe,h1,h2⟩:=Wi k bs ss st A B ws last no [] h hi hk (by have:=hi.len;simp only[zdY];omega)
 exact⟨oW,oX,fe,by simp only[df,↓xl,h1,zdM],h2⟩
theorem To (h:Bk bs ss st A B)(hi:wF A B ws)(o:et): ∃oW oX fe,dI WX (((),o,()),Cv last no bs ss ws st)=
  some (((),()),((),(),()),ku (ll o (A,B,ws,last,no)).1.2.2.2.1 (ll o (A,B,ws,last,no)).1.2.2.2.2,(ll o (A,B,ws,last,no)).1.2.2.1,oW,oX,(ll o (A,B,ws,last,no)).2,fe,())/\Bk oW oX fe (ll o (A,B,ws,last,no)).1.1 (ll o (A,B,ws,last,no)).1.2.1/\
  wF (ll o (A,B,ws,last,no)).1.1 (ll o (A,B,ws,last,no)).1.2.1 (ll o (A,B,ws,last,no)).1.2.2.1/\(∀o'∈(ll o (A,B,ws,last,no)).1.2.2.1,Bx o' (ll o (A,B,ws,last,no)).1.2.2.2.1=false)/\(ll o (A,B,ws,last,no)).2.length<=70:=by
 have hr:=MN (last:=last) (no:=no) h hi o;have hl:=hi.len;have pT: ∀(x:l8) (l:List l8),l.length<=69->aa (((([x].length+l.length:Nat):Int))*((120:Nat):Int)<=((room:Nat):Int))=true:=λx l hl=>ot (by unfold room;simp only[zdX,zdY];omega)
 unfold ll;by_cases h0:yQ o A B ws=0
 ·rw[h0] at hr
  rw[if_neg (λe=>e h0)];have Tp:pv o=true:=by
   unfold yQ at h0;cases hx:pv o with
   |true=>rfl
   |false=>rw[hx] at h0;simp at h0
  have Kf:iS o=true\/ml o>0->iV A+iV B+ws.length+1<=64:=λhx=>by
   unfold yQ at h0;rw[Tp] at h0;simp only[zdQ,zdU,if_false] at h0;split at h0
   ·cases h0
   ·split at h0
    ·cases h0
    ·rename_i hy
     have hz: ¬(iV A+iV B+ws.length>=64):=λq=>hy ⟨q,by
      rcases hx with hx|hx
      ·exact .inr (sK hx)
      ·exact .inl hx⟩
     omega
  obtain⟨bs2,ss2,HL,n1,n2⟩:=Km (last:=last) (no:=no) h hi.bi o ws;obtain⟨a1,a2,a3⟩:=yu (last:=last) (no:=no) hi.bi (fR o);have hi2:wF (jl (fR o) A B last no).2.1 (jl (fR o) A B last no).2.2.1 ws:=⟨a1,hi.wo,by
   rw[EM] at a2;have:=hi.yL;by_cases hx:iS o=true
   ·have:=Kf (.inl hx);rw[if_pos hx] at a2;omega
   ·rw[if_neg hx] at a2;omega⟩
  obtain⟨bs3,ss3,st3,t1,t2⟩:=wG (last:=(jl (fR o) A B last no).2.2.2.1) (no:=(jl (fR o) A B last no).2.2.2.2) n2 hi2 ws.length (zd9 _);have tl:=yv ws.length ((jl (fR o) A B last no).2.1,(jl (fR o) A B last no).2.2.1,ws,(jl (fR o) A B last no).2.2.2.1,(jl (fR o) A B last no).2.2.2.2) [];rw[zdY,zeC] at tl;change (kc ws.length ((jl (fR o) A B last no).2.1,(jl (fR o) A B last no).2.2.1,ws,(jl (fR o) A B last no).2.2.2) []).2.length<=_ at tl;have Wf: ¬(ml o>0/\Bx o last=false)->∃oW oX fe,dI WX (((),o,()),Cv last no bs ss ws st)=some (((),()),((),(),()),ku (kc ws.length ((jl (fR o) A B last no).2.1,(jl (fR o) A B last no).2.2.1,ws,(jl (fR o) A B last no).2.2.2) []).1.2.2.2.1 (kc ws.length ((jl (fR o) A B last no).2.1,(jl (fR o) A B last no).2.2.1,ws,(jl (fR o) A B last no).2.2.2) []).1.2.2.2.2,(kc ws.length ((jl (fR o) A B last no).2.1,(jl (fR o) A B last no).2.2.1,ws,(jl (fR o) A B last no).2.2.2) []).1.2.2.1,oW,oX,(o,(jl (fR o) A B last no).1.2)::(kc ws.length ((jl (fR o) A B last no).2.1,(jl (fR o) A B last no).2.2.1,ws,(jl (fR o) A B last no).2.2.2) []).2,fe,())/\Bk oW oX fe (kc ws.length ((jl (fR o) A B last no).2.1,(jl (fR o) A B last no).2.2.1,ws,(jl (fR o) A B last no).2.2.2) []).1.1 (kc ws.length ((jl (fR o) A B last no).2.1,(jl (fR o) A B last no).2.2.1,ws,(jl (fR o) A B last no).2.2.2) []).1.2.1:=λuY=>by
   refine⟨bs3,ss3,st3,?_,t2.1⟩;by_cases kr:ml o>0
   ·have hh:=MF o last
    have hb:Bx o last=true:=by cases hx:Bx o last with|true=>rfl|false=>exact absurd ⟨kr,hx⟩ uY
    rw[hb] at hh;simp only[dI,hr,zdM,↓xo,iF,zdQ,zdN,ot kr,zdO,gK,hh,n1,t1,pT (o,(jl (fR o) A B last no).1.2) _ (zea tl (by omega)),zfq]
   ·simp only[dI,hr,zdM,↓xo,iF,zdQ,zdN,bg kr,n1,t1,zdO,pT (o,(jl (fR o) A B last no).1.2) _ (zea tl (by omega)),zfq]
  by_cases hc:ml o>0/\Bx o last=false
  ·rw[if_pos hc]
   have hh:=MF o last;rw[hc.2] at hh;have:=Kf (.inr hc.1);have hi4:wF A B (ws++ [o]):=⟨hi.bi,λo' mW=>by
    rcases List.mem_append.1 mW with mW|mW
    ·exact hi.wo o' mW
    ·rw[zfb] at mW;subst mW;exact⟨qJ Tp,hc.1⟩,by rw[zdW,zfE];omega⟩
   obtain⟨bs4,ss4,st4,u1,u2,u3,u4⟩:=wG (last:=last) (no:=no) h hi4 (ws.length+1) (by rw[zdW,zfE];omega)
   have ul:=yv (ws.length+1) (A,B,ws++ [o],last,no) [];rw[zdY,zeC] at ul;refine⟨bs4,ss4,st4,?_,u2,u3,u4,by simp only[zdX];omega⟩
   simp only[dI,hr,zdM,↓xo,iF,zdQ,zdN,ot hc.1,zdO,gK,hh,zdR,ot (show(((ws.length+([o]:List et).length:Nat):Int))*((72:Nat):Int)<=((room:Nat):Int) by unfold room;simp only[zdX,zdY];omega),u1,pT (o,[],ay o,false,true,false,0,()) _ (zea ul (by omega)),zfq]
  ·rw[if_neg hc]
   obtain⟨oW,oX,fe,x1,x2⟩:=Wf hc;exact⟨oW,oX,fe,x1,x2,t2.2.1,t2.2.2,by simp only[zdX];omega⟩
 ·rw[if_pos h0]
  obtain⟨oW,oX,fe,t1,t2,t3,t4⟩:=wG (last:=last) (no:=no) h hi ws.length (zd9 _);have tl:=yv ws.length (A,B,ws,last,no) [];rw[zdY,zeC] at tl;refine⟨oW,oX,fe,?_,t2,t3,t4,by simp only[zdX];omega⟩
  simp only[dI,hr,zdM,↓xo,bg h0,zdR,zdO,t1,pT (o,[],ay o,false,false,false,yQ o A B ws,()) _ (zea tl (by omega)),zfq]
end
structure s8 (x:l8):Prop where
 AG: ∀f∈x.2.1,(0<=f.1.1/\f.1.1<=31)/\(0<=f.2.1.1/\f.2.1.1<=31)/\((br f.1=1/\br f.2.1=2)\/(br f.1=2/\br f.2.1=1))/\1<=Fl.pN f
 sum:0<=lv x.2.1/\lv x.2.1<=1048576
theorem wH {l:List np}(h: ∀f∈l,1<=Fl.pN f):(l.length:Int)<=lv l:=by
 unfold lv;induction l with
 |nil=>exact zeS _
 |cons x l ih=>
  have a:=h x (zd0 ..);have b:=ih λy hy=>h y (zdZ _ hy);simp only[zeK,jK,zeI,zdX] at*;omega
theorem s8.len {x:l8}(h:s8 x):x.2.1.length<=1048576:=by
 have:=wH (l:=x.2.1) λf hf=>(h.AG f hf).2.2.2;have:=h.sum;omega
theorem Kn (o:et)(r:Int×Bool×Bool×Bool×Int×Unit):s8 (o,[],r):=⟨λf hf=>(by cases hf),by simp[lv,jK]⟩
theorem EN {o o':et}{x:l8}(h:Xz o x):s8 (o',x.2):=by
 rcases h.AG with h0|⟨h1,h2,h3⟩
 ·refine⟨λf hf=>?_,?_⟩
  ·simp only[h0] at hf;cases hf
  ·simp only[h0];simp[lv,jK]
 ·have hl:=h.left (by have:=h1.pN;omega)
  have hq:=h1.pN;have hn:=wH (l:=x.2.1) λf hf=>by obtain⟨pr,hp⟩:=h2 f hf;exact hp.pN
  refine⟨λf hf=>?_,by show 0<=lv x.2.1/\lv x.2.1<=_;omega⟩
  obtain⟨pr,hp⟩:=h2 f hf;obtain⟨q,hq⟩:=hp.zby;have hs:=hp.Xy.side;refine⟨hp.Xy.qy,by rw[hq];exact h1.qy,?_,hp.pN⟩
  rw[hq];show(_/\br o=2)\/(_/\br o=1)
  have:=h1.side;omega
theorem Ql {A B:List nu}{ws:List et}{last:Int}(no:Int){n:Nat}(hi:wF A B ws)(hw:ws.findIdx? (FY last)=some n): ∃x,ws[n]?=some x/\ws.getD n o0=x/\AD x/\wF (jl (fR x) A B last no).2.1 (jl (fR x) A B last no).2.2.1 (ws.eraseIdx n):=by
 have hn:=(List.findIdx?_eq_some_iff_getElem.1 hw).1;have hg:=zdS hn;refine⟨_,hg,by rw[zd3,hg];rfl,(hi.wo _ (ze0 hn)).1,?_⟩
 obtain⟨a1,a2,_⟩:=yu (last:=last) (no:=no) hi.bi (fR ws[n]);have hlen:=zfs hn;have hle:=one_le (p:=iS (fR ws[n])=true);exact⟨a1,λo ho=>hi.wo o ((zfD ..).subset ho),by rw[hlen];have:=hi.yL;omega⟩
theorem Tq {A B:List nu}{ws:List et}(last no:Int)(hi:wF A B ws){o:et}(h0:yQ o A B ws=0):AD o/\(ml o>0->wF A B (ws++ [o]))/\wF (jl (fR o) A B last no).2.1 (jl (fR o) A B last no).2.2.1 ws:=by
 unfold yQ at h0;split at h0
 ·cases h0
 ·rename_i hr
  have mh:AD o:=qJ (by simpa using hr)
  split at h0
  ·cases h0
  ·split at h0
   ·cases h0
   ·rename_i hy
    have hf:ml o>0\/iS o=true->iV A+iV B+ws.length+1<=64:=λhx=>by
     have: ¬(iV A+iV B+ws.length>=64):=λq=>hy ⟨q,hx.imp_right sK⟩;omega
    obtain⟨a1,a2,_⟩:=yu (last:=last) (no:=no) hi.bi (fR o);refine⟨mh,λhs=>⟨hi.bi,λo' mW=>?_,?_⟩,a1,hi.wo,?_⟩
    ·rcases List.mem_append.1 mW with mW|mW
     ·exact hi.wo o' mW
     ·rw[zfb] at mW;subst mW;exact⟨mh,hs⟩
    ·have:=hf (.inl hs);rw[zdW,zfE];omega
    ·rw[EM] at a2
     have:=hi.yL;by_cases hx:iS o=true
     ·have:=hf (.inr hx);rw[if_pos hx] at a2;omega
     ·rw[if_neg hx] at a2;omega
theorem wI: ∀(k:Nat) (m:MS) (out:List l8),wF m.1 m.2.1 m.2.2.1->(∀x∈out,s8 x)->∀x∈(kc k m out).2,s8 x
 |0,m,out,_,h=>h
 |k+1,(A,B,ws,last,no),out,hi,h=>by
  unfold kc;split
  ·exact h
  ·rename_i n hw
   obtain⟨x,_,hd,_,nB⟩:=Ql no hi hw;rw[hd];refine wI k _ _ nB λy hy=>?_;rcases List.mem_append.1 hy with hy|hy
   ·exact h y hy
   ·rw[zfb] at hy;subst hy;exact EN (yu hi.bi (fR x)).2.2
theorem EO (o:et)(m:MS)(hi:wF m.1 m.2.1 m.2.2.1): ∀x∈(ll o m).2,s8 x:=by
 obtain⟨A,B,ws,last,no⟩:=m;simp only at hi;unfold ll;simp only;split
 ·intro x hx
  rcases List.mem_cons.1 hx with rfl|hx
  ·exact Kn ..
  ·exact wI _ (A,B,ws,last,no) [] hi (λx hx=>by cases hx) x hx
 ·rename_i h0
  obtain⟨_,h4,h2⟩:=Tq last no hi (Decidable.not_not.1 h0);split
  ·rename_i hc
   intro x hx;rcases List.mem_cons.1 hx with rfl|hx
   ·exact Kn ..
   ·exact wI _ (A,B,ws++ [o],last,no) [] (h4 hc.1) (λx hx=>by cases hx) x hx
  ·intro x hx
   rcases List.mem_cons.1 hx with rfl|hx
   ·exact EN (yu hi.bi (fR o)).2.2
   ·exact wI _ (_,_,ws,_) [] h2 (λx hx=>by cases hx) x hx
def ZP (lL:et)(gS pN:Int):et:=(lL.1,lL.2.1,lL.2.2.1,lL.2.2.2.1,lL.2.2.2.2.1,gS,pN,min (qn lL) (max pN 0),lL.2.2.2.2.2.2.2.2)
def fS (t i gS pN:Int)(m:MS):Int×MS×List l8:=match s7 t i m.1 m.2.1 m.2.2.1 with
 |none=>(6,m,[])
 |some lL=>if(!pv (ZP lL gS pN))=true then(1,m,[])
  else if gS=aE lL/\pN<=ay lL/\(vj t i m.1 m.2.1).isSome=true then(0,((yd t i pN m.1 m.2.1).2.1,(yd t i pN m.1 m.2.1).2.2,m.2.2),[])
  else(0,ll (ZP lL gS pN) ((mP t i m.1 m.2.1 m.2.2.1).2.2.1,(mP t i m.1 m.2.1 m.2.2.1).2.2.2.1,(mP t i m.1 m.2.1 m.2.2.1).2.2.2.2,m.2.2.2))
abbrev Ts (last no:Int)(bs ss:List Nat)(ws:List et)(outs:List l8)(st:List gF):(Unit×Unit×Unit)×MG×List et×List Nat×List Nat×List l8×List gF×Unit:=(((),(),()),ku last no,ws,bs,ss,outs,st,())
section
variable {bs ss:List Nat}{st:List gF}{A B:List nu}{ws:List et}{last no:Int}
def yf (m:MS):Prop:= ∀o∈m.2.2.1,Bx o m.2.2.2.1=false
theorem Tt (h:Bk bs ss st A B)(hi:wF A B ws)(hh:yf (A,B,ws,last,no))(t i gS pN:Int): ∃oW oX fe,gb WX (((),t,i,gS,pN,()),Cv last no bs ss ws st)=
  some (((),(fS t i gS pN (A,B,ws,last,no)).1,()),Ts (fS t i gS pN (A,B,ws,last,no)).2.1.2.2.2.1 (fS t i gS pN (A,B,ws,last,no)).2.1.2.2.2.2 oW oX (fS t i gS pN (A,B,ws,last,no)).2.1.2.2.1 (fS t i gS pN (A,B,ws,last,no)).2.2 fe)/\
  Bk oW oX fe (fS t i gS pN (A,B,ws,last,no)).2.1.1 (fS t i gS pN (A,B,ws,last,no)).2.1.2.1/\wF (fS t i gS pN (A,B,ws,last,no)).2.1.1 (fS t i gS pN (A,B,ws,last,no)).2.1.2.1 (fS t i gS pN (A,B,ws,last,no)).2.1.2.2.1/\yf (fS t i gS pN (A,B,ws,last,no)).2.1/\
  (∀x∈(fS t i gS pN (A,B,ws,last,no)).2.2,s8 x)/\(fS t i gS pN (A,B,ws,last,no)).2.2.length<=70:=by
 have hf:=IE (last:=last) (no:=no) h hi t i;unfold fS;cases hw:s7 t i A B ws with
 |none=>
  rw[hw] at hf;exact⟨bs,ss,st,by simp only[gb,hf,zdM,ze3,zdR,zdO],h,hi,hh,λx hx=>(by cases hx),zeU _⟩
 |some lL=>
  rw[hw] at hf;simp only[ze7,zfz] at hf;have ZQ:eW WX (((lL.1,lL.2.1,lL.2.2.1,lL.2.2.2.1,lL.2.2.2.2.1,gS,pN,min lL.2.2.2.2.2.2.2.1 (max pN 0),lL.2.2.2.2.2.2.2.2),()),())=some (((bif pv (ZP lL gS pN) then 0 else 1),()),()):=AB (ZP lL gS pN);have Wa: ¬(1:Int)=0:=by omega
  simp only;cases hr:pv (ZP lL gS pN) with
  |false=>
   rw[hr] at ZQ;simp only[zdR,if_true];exact⟨bs,ss,st,by simp only[gb,hf,zdM,zdQ,zdN,↓xo,vf,Mo,ZQ,bg Wa,zdR,zdO,if_true],h,hi,hh,λx hx=>(by cases hx),zeU _⟩
  |true=>
   rw[hr] at ZQ;simp only[zdQ,zdU,if_false];have hbf:=Ou (last:=last) (no:=no) h hi.bi t i;by_cases hc:gS=aE lL/\pN<=ay lL/\(vj t i A B).isSome=true
   ·simp only[if_pos hc]
    obtain⟨c1,c2,c3⟩:=hc;rw[c3] at hbf;obtain⟨fe,l1,l2⟩:=Wh (last:=last) (no:=no) h hi.bi t i pN;have l3:=Tn hi.bi t i pN;refine⟨bs,ss,fe,?_,l2,⟨l3.1,hi.wo,by have:=hi.yL;omega⟩,hh,λx hx=>(by cases hx),zeU _⟩
    simp only[gb,hf,zdM,zdQ,zdN,↓xo,vf,Mo,ZQ,zdO,iF,ot (show gS=lL.2.2.2.2.2.1 from c1),ot (show pN<=lL.2.2.2.2.2.2.1 from c2),kj,fV,hbf,zdR,l1]
   ·simp only[if_neg hc]
    obtain⟨bs1,ss1,wQ,r1,r2⟩:=MM (last:=last) (no:=no) h hi t i;have r3:=(EL hi t i).1;obtain⟨oW,oX,fe,a1,a2,a3,a4,a5⟩:=To (last:=last) (no:=no) r2 r3 (ZP lL gS pN);refine⟨oW,oX,fe,?_,a2,a3,a4,EO _ _ r3,a5⟩;unfold ZP at a1⊢;by_cases c1:gS=aE lL
    ·by_cases c2:pN<=ay lL
     ·have c3:(vj t i A B).isSome=false:=by cases hx:(vj t i A B).isSome with|false=>rfl|true=>exact absurd ⟨c1,c2,hx⟩ hc
      rw[c3] at hbf;simp only[gb,hf,zdM,zdQ,zdN,↓xo,vf,Mo,ZQ,zdO,iF,ot (show gS=lL.2.2.2.2.2.1 from c1),ot (show pN<=lL.2.2.2.2.2.2.1 from c2),kj,fV,hbf,zdR,r1,a1]
     ·simp only[gb,hf,zdM,zdQ,zdN,↓xo,vf,Mo,ZQ,zdO,iF,ot (show gS=lL.2.2.2.2.2.1 from c1),bg (show¬pN<=lL.2.2.2.2.2.2.1 from c2),r1,a1]
    ·simp only[gb,hf,zdM,zdQ,zdN,↓xo,vf,Mo,ZQ,zdO,iF,bg (show¬gS=lL.2.2.2.2.2.1 from c1),r1,a1]
noncomputable def Wj (x:Int)(o:et):Bool:=aa (WX.sP .u64 (WX.shr .u64 x (IntKind.u64.wrap o.1)) 1=1)
noncomputable def tm (x:Int):List et->MS->List et->MS×List et
 | [],m,out=>(m,out)
 |o::l,m,out=>if Wj x o=true then tm x l ((mP o.1 o.2.1 m.1 m.2.1 m.2.2.1).2.2.1,(mP o.1 o.2.1 m.1 m.2.1 m.2.2.1).2.2.2.1,(mP o.1 o.2.1 m.1 m.2.1 m.2.2.1).2.2.2.2,m.2.2.2) (out++ [o]) else tm x l m out
theorem s9 (n:Int): ¬IntKind.u64.wrap n<0:=by rw[IntKind.wrap_u64];omega
theorem Qm (x:Int)(last no:Int)(all:List et)(hal:all.length<=1000): ∀(l pre:List et) (bs ss:List Nat) (st:List gF) (A B:List nu) (ws:List et) (out:List et),pre++l=all->out.length+l.length<=1000->Bk bs ss st A B->wF A B ws->yf (A,B,ws,last,no)->∃oW oX fe,ag (gi WX) (((),x,(),all,(all.length:Int),(pre.length:Int),()),((),(),()),ku last no,bs,ss,ws,out,st,())=
  some (((tm x l (A,B,ws,last,no) out).2,()),FZ last no oW oX (tm x l (A,B,ws,last,no) out).1.2.2.1 fe)/\(tm x l (A,B,ws,last,no) out).1.2.2.2=(last,no)/\Bk oW oX fe (tm x l (A,B,ws,last,no) out).1.1 (tm x l (A,B,ws,last,no) out).1.2.1/\wF (tm x l (A,B,ws,last,no) out).1.1 (tm x l (A,B,ws,last,no) out).1.2.1 (tm x l (A,B,ws,last,no) out).1.2.2.1/\yf (tm x l (A,B,ws,last,no) out).1:=by
 intro l;induction l with
 |nil=>
  intro pre bs ss st A B ws out hp ho h hi hh;rw[zfe] at hp;subst hp;refine⟨bs,ss,st,?_,rfl,h,hi,hh⟩;rw[ar];simp only[gi,↓xo,oF ((pre.length:Int)<(pre.length:Int)),zdN,tm]
 |cons o l ih=>
  intro pre bs ss st A B ws out hp ho h hi hh;have hx:all[pre.length]?=some o:=by rw[<-hp];simp
  have kW:pre.length<all.length:=(List.getElem?_eq_some_iff.1 hx).1;have e1:i64.wrap ((pre.length:Int)+1)=(((pre++ [o]).length:Nat):Int):=by rw[lG kW (by omega),zdW];rfl
  have yb:(pre++ [o])++l=all:=by rw[<-hp];simp
  simp only[zdX] at ho;unfold tm;rw[ar];cases hb:Wj x o with
  |true=>
   rw[if_pos rfl];have vl:=hb;unfold Wj at vl;obtain⟨bs1,ss1,wQ,r1,r2⟩:=MM (last:=last) (no:=no) h hi o.1 o.2.1;obtain⟨r3,r4⟩:=EL hi o.1 o.2.1;obtain⟨oW,oX,fe,i1,i2⟩:=ih (pre++ [o]) bs1 ss1 wQ _ _ _ (out++ [o]) yb (by rw[zdW,zfE];omega) r2 r3 (λo' mW=>hh o' (r4.subset mW))
   refine⟨oW,oX,fe,?_,i2⟩;simp only[gi,↓xo,xw,oT ((pre.length:Int)<(all.length:Int)),oT ((0:Int)<=(pre.length:Int)),zdO,zdP,hx,zdM,bg (s9 o.1),zdN,vl,r1,ot (show(((out.length+([o]:List et).length:Nat):Int))*((72:Nat):Int)<=((room:Nat):Int) by unfold room;simp only[zdX,zdY];omega),e1]
   exact i1
  |false=>
   rw[if_neg (by simp)]
   have vl:=hb;unfold Wj at vl;obtain⟨oW,oX,fe,i1,i2⟩:=ih (pre++ [o]) bs ss st A B ws out yb (by omega) h hi hh
   refine⟨oW,oX,fe,?_,i2⟩;simp only[gi,↓xo,xw,oT ((pre.length:Int)<(all.length:Int)),oT ((0:Int)<=(pre.length:Int)),zdO,zdP,hx,zdM,bg (s9 o.1),zdN,vl,e1];exact i1
theorem BE (x:Int): ∀(l:List et) (m:MS) (out:List et),(tm x l m out).2.length<=out.length+l.length
 | [],_,_=>zd9 _
 |o::l,m,out=>by
  unfold tm;split
  ·have:=BE x l ((mP o.1 o.2.1 m.1 m.2.1 m.2.2.1).2.2.1,(mP o.1 o.2.1 m.1 m.2.1 m.2.2.1).2.2.2.1,(mP o.1 o.2.1 m.1 m.2.1 m.2.2.1).2.2.2.2,m.2.2.2) (out++ [o])
   rw[zdW,zfE] at this;simp only[zdX];omega
  ·have:=BE x l m out
   simp only[zdX];omega
noncomputable def mQ (x:Int)(m:MS):MS×List et:=tm x (ye m.1 m.2.1 m.2.2.1) m []
theorem Wk (h:Bk bs ss st A B)(hi:wF A B ws)(hh:yf (A,B,ws,last,no))(x:Int): ∃oW oX fe,kI WX (((),x,()),Cv last no bs ss ws st)=
  some (((mQ x (A,B,ws,last,no)).2,()),FZ last no oW oX (mQ x (A,B,ws,last,no)).1.2.2.1 fe)/\(mQ x (A,B,ws,last,no)).1.2.2.2=(last,no)/\Bk oW oX fe (mQ x (A,B,ws,last,no)).1.1 (mQ x (A,B,ws,last,no)).1.2.1/\wF (mQ x (A,B,ws,last,no)).1.1 (mQ x (A,B,ws,last,no)).1.2.1 (mQ x (A,B,ws,last,no)).1.2.2.1/\yf (mQ x (A,B,ws,last,no)).1/\(mQ x (A,B,ws,last,no)).2.length<=64:=by
 have ha:=all_mk (last:=last) (no:=no) h hi;have hl:=AH hi;obtain⟨oW,oX,fe,i1,i2,i3,i4,i5⟩:=Qm x last no (ye A B ws) (by omega) (ye A B ws) [] bs ss st A B ws [] rfl (by simp only[zdY];omega) h hi hh
 change ag (gi WX) (((),x,(),ye A B ws,((ye A B ws).length:Int),0,()),_)=_ at i1;have hln:=BE x (ye A B ws) (A,B,ws,last,no) [];refine⟨oW,oX,fe,?_,i2,i3,i4,i5,by rw[zdY,zeC] at hln;exact zea hln hl⟩
 simp only[kI,ha,zdM,↓xl,i1];rfl
def sL (t:Int)(l:List et):Int:=jK (l.map λo=>if o.1=t then ay o else 0)
def wY (t:Int)(m:MS):Int:=sL t (ye m.1 m.2.1 m.2.2.1)
theorem Ko {s:Int}{A:List nu}(h:mc s A): ∀o∈ui A,1<=ay o/\ay o<=1048576:=by
 intro o ho;unfold ui at ho;obtain⟨a,ha,ho⟩:=List.mem_flatMap.1 ho;obtain⟨e,he,rfl⟩:=List.mem_map.1 ho;have:=(h.Qk a ha e he).1;unfold oD at this;omega
theorem AI (hi:wF A B ws): ∀o∈ye A B ws,1<=ay o/\ay o<=1048576:=by
 intro o ho;unfold ye at ho;rcases List.mem_append.1 ho with ho|ho
 ·exact Ko hi.bi.yF o ho
 ·rcases List.mem_append.1 ho with ho|ho
  ·exact Ko hi.bi.tk o ho
  ·exact(hi.wo o ho).1.pN
theorem Cw (t:Int){l:List et}(h: ∀o∈l,1<=ay o/\ay o<=1048576)(hl:l.length<=64):0<=sL t l/\sL t l<=67108864:=by
 have:=wE (l:=l.map λo=>if o.1=t then ay o else 0) (m:=1048576) (λx hx=>by
  obtain⟨o,ho,rfl⟩:=List.mem_map.1 hx;have:=h o ho;split<;>omega)
 rw[zeX] at this;unfold sL;omega
theorem Qn (t:Int)(all:List et)(h: ∀o∈all,1<=ay o/\ay o<=1048576)(hl:all.length<=64):ag (gj WX) ((t,0,all,(all.length:Int),0,()),())=some ((sL t all,()),()):=by
 have hb: ∀k,0<=sL t (all.take k)/\sL t (all.take k)<=67108864:=λk=>Cw t (λo ho=>h o (zeP ho)) (by rw[zeh];omega)
 have:=Dg (b:=gj WX) (λk=>((t,sL t (all.take k),all,(all.length:Int),(k:Int),()),())) ((sL t all,()),()) all.length (λk hk=>by
  have hx:=zdS hk;generalize all[k]=o at hx;have e1:=lG hk (by omega)
  have ht:sL t (all.take (k+1))=sL t (all.take k)+(if o.1=t then ay o else 0):=by
   unfold sL;rw[zfk,hx,zfw,ni];simp[jK]
  have b1:=hb (k+1);rw[ht] at b1;simp only[ht];by_cases hc:o.1=t
  ·rw[if_pos hc] at b1⊢
   have e2:i64.wrap (sL t (all.take k)+o.2.2.2.2.2.2.1)=sL t (all.take k)+ay o:=by
    show i64.wrap (sL t (all.take k)+ay o)=_
    exact nR (by omega) (by omega)
   simp only[gj,↓xo,xw,oT ((k:Int)<(all.length:Int)),oT ((0:Int)<=(k:Int)),zdO,zdP,hx,zdM,ot hc,e1,e2]
  ·rw[if_neg hc] at b1⊢
   simp only[gj,↓xo,xw,oT ((k:Int)<(all.length:Int)),oT ((0:Int)<=(k:Int)),zdO,zdP,hx,zdM,bg hc,zdN,e1,Int.add_zero])
  (by simp only[gj,↓xo,oF ((all.length:Int)<(all.length:Int)),zdN,ze4]) 0 (zeU _)
 exact this
theorem Wl (h:Bk bs ss st A B)(hi:wF A B ws)(t:Int):kY WX (((),t,()),Cv last no bs ss ws st)=some ((wY t (A,B,ws,last,no),()),FZ last no bs ss ws st):=by
 have ha:=all_mk (last:=last) (no:=no) h hi;have hl:=Qn t (ye A B ws) (AI hi) (AH hi);simp only[kY,ha,zdM,↓xl,hl];rfl
theorem Kp (hi:wF A B ws)(t:Int):0<=wY t (A,B,ws,last,no)/\wY t (A,B,ws,last,no)<=67108864:=Cw t (AI hi) (AH hi)
end
def tb (l:List (List Int))(n i:Nat):Int:=(l.getD n []).getD i 0
def Ow (l:List (List Int))(n i:Nat)(x:Int):List (List Int):=l.set n ((l.getD n []).set i x)
structure AJ (l:List (List Int)):Prop where
 len:l.length=32
 row: ∀r∈l,r.length=8
theorem vS {l:List (List Int)}(h:AJ l){n i:Nat}(hn:n<32)(hi:i<8): ∃r,l[n]?=some r/\r[i]?=some (tb l n i)/\l.getD n []=r:=by
 have h1:=zdS (l:=l) (i:=n) (by rw[h.len];omega)
 have h2:=h.row _ (zeO h1);have h3:=zdS (l:=l[n]'(by rw[h.len];omega)) (i:=i) (by omega)
 have h4:l.getD n []=l[n]'(by rw[h.len];omega):=by rw[zd3,h1];rfl
 refine⟨_,h1,?_,h4⟩;rw[h3];unfold tb;rw[h4,zd3,h3];rfl
theorem AK {l:List (List Int)}(h:AJ l)(n i:Nat)(x:Int)(hn:n<32):AJ (Ow l n i x):=by
 refine⟨by unfold Ow;rw[zeq];exact h.len,λr hr=>?_⟩
 rcases zeZ hr with hr|rfl
 ·exact h.row r hr
 ·obtain⟨r,h1,_,h3⟩:=vS h hn (show 0<8 by omega)
  rw[zeq,h3];exact h.row r (zeO h1)
theorem yg {l:List (List Int)}(h:AJ l){n i:Nat}(hn:n<32)(hi:i<8)(x:Int)(m j:Nat):tb (Ow l n i x) m j=if m=n/\j=i then x else tb l m j:=by
 obtain⟨r,h1,h2,h3⟩:=vS h hn hi;have hl:=(List.getElem?_eq_some_iff.1 h1).1;have hj:=(List.getElem?_eq_some_iff.1 h2).1;unfold tb Ow;simp only[zd3,h1,ze7,zfj];by_cases hm:n=m
 ·subst hm
  rw[if_pos rfl,if_pos hl,h1];simp only[ze7,zfj,true_and];by_cases e:i=j
  ·subst e;simp[hj]
  ·rw[if_neg e,if_neg (λq=>e q.symm)]
 ·rw[if_neg hm,if_neg (λq=>hm q.1.symm)]
theorem CT {i:Nat}(h:i<8):0<=(i:Int)/\(i:Int)<(8:Nat):=by omega
abbrev IF (op ps:List (List Int)):((List (List Int))×(List (List Int))×Unit)×Unit:=((op,ps,()),())
section
variable {op ps:List (List Int)}{n i:Nat}
theorem rX (hn:n<32)(hi:i<8):js WX (((n:Int),(i:Int),()),())=some ((true,()),()):=by
 simp only[js,↓xo,oT ((n:Int)>=0),oT ((n:Int)<32),oT ((i:Int)>=0),oT ((i:Int)<8),zdO]
theorem BF (h:AJ op)(hn:n<32)(hi:i<8):eT WX (((),(n:Int),(i:Int),()),IF op ps)=some ((tb op n i,()),IF op ps):=by
 obtain⟨r,h1,h2,_⟩:=vS h hn hi;simp only[eT,rX hn hi,zdM,zdQ,zdN,↓xo,ot (qR hn),ot (CT hi),zdO,zdP,h1,h2]
theorem ZR (h:AJ ps)(hn:n<32)(hi:i<8):gk WX (((),(n:Int),(i:Int),()),IF op ps)=some ((tb ps n i,()),IF op ps):=by
 obtain⟨r,h1,h2,_⟩:=vS h hn hi;simp only[gk,rX hn hi,zdM,zdQ,zdN,↓xo,ot (qR hn),ot (CT hi),zdO,zdP,h1,h2]
def Wm (x lo hi:Int):Bool:=decide (lo<=x/\x<=hi)
def KP (l:List (List Int))(n i:Nat)(x lo hi:Int):List (List Int):=if Wm x lo hi=true then Ow l n i x else l
theorem EP (h:AJ op)(hn:n<32)(hi:i<8){q:Int}(hq: -1048576<=q/\q<=1048576)(hb:0<=tb op n i/\tb op n i<=1099511627776):
  eV WX (((),(n:Int),(i:Int),q,()),IF op ps)=some ((Wm (tb op n i+q) 0 1099511627776,()),IF (KP op n i (tb op n i+q) 0 1099511627776) ps):=by
 obtain⟨r,h1,h2,h3⟩:=vS h hn hi;have e:i64.wrap (tb op n i+q)=tb op n i+q:=nR (by omega) (by omega)
 unfold KP Wm Ow;by_cases a:tb op n i+q<0
 ·rw[decide_eq_false (by omega)]
  simp only[eV,rX hn hi,zdM,↓xo,xw,ot hq.1,ot (show q>= -1048576 from hq.1),ot hq.2,ot (qR hn),ot (CT hi),zdO,zdP,mC,h1,h2,e,ot a,zdU,if_false]
 ·by_cases b:tb op n i+q>1099511627776
  ·rw[decide_eq_false (by omega)]
   simp only[eV,rX hn hi,zdM,↓xo,xw,ot (show q>= -1048576 from hq.1),ot hq.2,ot (qR hn),ot (CT hi),zdO,zdP,mC,h1,h2,e,bg a,ot b,zdN,zdU,if_false]
  ·rw[decide_eq_true (by omega)]
   simp only[eV,rX hn hi,zdM,↓xo,xw,ot (show q>= -1048576 from hq.1),ot hq.2,ot (qR hn),ot (CT hi),zdO,zdP,mC,h1,h2,e,bg a,bg b,zdN,if_true,h3]
def Fh (side q:Int):Int:=if side=2 then-q else q
theorem GY (h:AJ ps)(hn:n<32)(hi:i<8){q s:Int}(hs:s=1\/s=2)(hq:1<=q/\q<=1048576)(hb: -1099511627776<=tb ps n i/\tb ps n i<=1099511627776):
  fu WX (((),(n:Int),(i:Int),s,q,()),IF op ps)=some ((Wm (tb ps n i+Fh s q) (-1099511627776) 1099511627776,()),IF op (KP ps n i (tb ps n i+Fh s q) (-1099511627776) 1099511627776)):=by
 obtain⟨r,h1,h2,h3⟩:=vS h hn hi;have Uv: ¬(2:Int)=1:=by omega
 have Nq: ¬(1:Int)=2:=by omega
 have e0:i64.wrap (0-q)= -q:=by rw[nR (by omega) (by omega)];omega
 have hsg: -1048576<=Fh s q/\Fh s q<=1048576:=by unfold Fh;split<;>omega
 have e:i64.wrap (tb ps n i+Fh s q)=tb ps n i+Fh s q:=nR (by omega) (by omega)
 have mv:ja WX (((n,i,()),Fh s q,(-1099511627776),1099511627776,()),IF op ps)=some ((Wm (tb ps n i+Fh s q) (-1099511627776) 1099511627776,()),IF op (KP ps n i (tb ps n i+Fh s q) (-1099511627776) 1099511627776)):=by
  unfold KP Wm Ow;by_cases a:tb ps n i+Fh s q< -1099511627776
  ·rw[decide_eq_false (by omega)]
   simp only[zdM,↓xo,xw,ja,h1,h2,e,ot a,zdO,zdU,if_false]
  ·by_cases b:tb ps n i+Fh s q>1099511627776
   ·rw[decide_eq_false (by omega)]
    simp only[zdM,↓xo,xw,ja,h1,h2,e,bg a,ot b,zdO,zdN,zdU,if_false]
   ·rw[decide_eq_true (by omega)]
    simp only[zdM,↓xo,xw,ja,h1,h2,e,bg a,bg b,zdN,if_true,h3]
 rcases hs with rfl|rfl
 ·have es:Fh 1 q=q:=rfl
  rw[es] at mv⊢;simp only[fu,rX hn hi,zdM,zdQ,zdN,↓xo,xw,oF (q<1),oF (q>1048576),eq_self,iF,bg Nq,ot (qR hn),ot (CT hi),zdO,zdP,mv]
 ·have es:Fh 2 q= -q:=rfl
  rw[es] at mv⊢;simp only[fu,rX hn hi,zdM,zdQ,zdR,zdN,↓xo,xw,oF (q<1),oF (q>1048576),eq_self,iF,bg Uv,e0,ot (qR hn),ot (CT hi),zdO,zdP,mv]
def yh (op:List (List Int))(n:Nat):Int:=jK ((List.range 8).map (tb op n))
theorem Tu (h:AJ op)(hn:n<32)(hb: ∀i,i<8->0<=tb op n i/\tb op n i<=1099511627776):iG WX (((),(n:Int),()),IF op ps)=some ((yh op n,()),IF op ps):=by
 have hs: ∀k,k<=8->0<=jK ((List.range k).map (tb op n))/\jK ((List.range k).map (tb op n))<=8796093022208:=λk hk=>by
  have:=wE (l:=(List.range k).map (tb op n)) (m:=1099511627776) (λx hx=>by
   obtain⟨j,hj,rfl⟩:=List.mem_map.1 hx;exact hb j (by have:=List.mem_range.1 hj;omega))
  rw[zeX,List.length_range] at this;omega
 have hl:=Dg (b:=eB WX) (λk=>(((),(n:Int),jK ((List.range k).map (tb op n)),(k:Int),()),IF op ps)) ((yh op n,()),IF op ps) 8 (λk hk=>by
  have e1:=lG hk (by omega)
  have b1:=hs k (by omega)
  have b2:=hs (k+1) (by omega)
  have e3:jK ((List.range (k+1)).map (tb op n))=jK ((List.range k).map (tb op n))+tb op n k:=by
   rw[List.range_succ,zfw,ni];simp[jK]
  have e2:i64.wrap (jK ((List.range k).map (tb op n))+tb op n k)=jK ((List.range (k+1)).map (tb op n)):=by
   rw[e3] at b2⊢;exact nR (by omega) (by omega)
  simp only[eB,↓xo,xw,oT ((k:Int)<8),zdO,BF h hn hk,zdM,e1,e2])
  (by simp only[eB,↓xo,oF (((8:Nat):Int)<8),zdN];rfl) 0 (by omega)
 change ag (eB WX) (((),(n:Int),0,0,()),IF op ps)=_ at hl;simp only[iG,↓xl,hl,zdM]
theorem Tv {o:et}(h:AD o):kZ WX ((o,()),())=some ((aE o*ay o,0,()),()):=by
 have hq:=h.pN;have hp:0<=aE o/\aE o<=1048576:=by have:=h.gS;omega
 have b0:0<=aE o*ay o:=Int.mul_nonneg hp.1 (by omega)
 have b1:aE o*ay o<=1048576*1048576:=Int.mul_le_mul hp.2 hq.2 (by omega) (by omega)
 have e1:i64.wrap (aE o*ay o)=aE o*ay o:=nR (by omega) (by omega)
 have d0:1048576<=Int.tdiv 9223372036854775807 (ay o):=by
  rw[Int.tdiv_eq_ediv_of_nonneg (by omega)]
  exact(Int.le_ediv_iff_mul_le (by omega)).2 (by omega)
 have d1:Int.tdiv 9223372036854775807 (ay o)<=9223372036854775807:=Int.tdiv_le_self _ (by omega)
 have e2:i64.wrap (Int.tdiv 9223372036854775807 (ay o))=Int.tdiv 9223372036854775807 (ay o):=nR (by omega) (by omega)
 have key: ∀p q:Int,p=aE o->q=ay o->lD WX ((p,q,()),())=some ((p*q,0,()),()):=by
  intro p q yb uC;subst yb uC;simp only[lD,↓xo,xw,oF (aE o<0),oF (ay o<0),oT (ay o>0),oF (ay o=0),e2,oF (aE o>Int.tdiv 9223372036854775807 (ay o)),e1,zdO,zdN]
 simp only[kZ,key _ _ rfl rfl,zdM]
structure BG (op ps:List (List Int))(l:wU)(o:et)(i:Nat):Prop where
 ord:AD o
 pN:ay o<=l.1
 value:aE o*ay o<=l.2.1
 opn:yh op o.1.toNat+ay o<=l.2.2.1
 buy:br o=1->tb ps o.1.toNat i+(tb op o.1.toNat i+ay o)<=l.2.2.2.1
 zdJ:br o=2->tb op o.1.toNat i+ay o-tb ps o.1.toNat i<=l.2.2.2.1
theorem Kq (h:AJ op)(h':AJ ps)(hi:i<8)(l:wU)(o:et)(hb: ∀n i,n<32->i<8->0<=tb op n i/\tb op n i<=1099511627776)(hp: ∀n i,n<32->i<8-> -1099511627776<=tb ps n i/\tb ps n i<=1099511627776):
  ∃e,gD WX (((),l,o,(i:Int),()),IF op ps)=some ((e,()),IF op ps)/\(e=0->BG op ps l o i):=by
 have hR:=AB o;have i1: ¬(i:Int)<0:=by omega
 have i2: ¬(i:Int)>=8:=by omega
 have yj: ¬(1:Int)=0:=by omega
 cases hr:pv o with
 |false=>
  rw[hr] at hR;exact⟨1,by simp only[gD,hR,zdM,zdN,↓xo,bg yj,zdR,zdO],λq=>by omega⟩
 |true=>
  rw[hr] at hR;have ho:=qJ hr;have hv:=Tv ho;have ht:=ho.qy;have hq:=ho.pN;obtain⟨n,hn⟩:=zfF ht.1;have MO:n<32:=by omega
  have ha:=Tu (ps:=ps) h MO (λi hi=>hb n i MO hi);have hpo:=ZR (op:=op) h' MO hi;have vm:=BF (ps:=ps) h MO hi;have b1:=hb n i MO hi;have b2:=hp n i MO hi;have bs:0<=yh op n/\yh op n<=8796093022208:=by
   have:=wE (l:=(List.range 8).map (tb op n)) (m:=1099511627776) (λx hx=>by
    obtain⟨j,hj,rfl⟩:=List.mem_map.1 hx;exact hb n j MO (List.mem_range.1 hj))
   rw[zeX,List.length_range] at this;unfold yh;omega
  have q0:o.2.2.2.2.2.2.1=ay o:=rfl;have s0:o.2.2.2.1=br o:=rfl;have w1:i64.wrap (yh op n+ay o)=yh op n+ay o:=nR (by omega) (by omega)
  have w2:i64.wrap (tb op n i+ay o)=tb op n i+ay o:=nR (by omega) (by omega)
  have w3:i64.wrap (tb ps n i+(tb op n i+ay o))=tb ps n i+(tb op n i+ay o):=nR (by omega) (by omega)
  have w4:i64.wrap (tb op n i+ay o-tb ps n i)=tb op n i+ay o-tb ps n i:=nR (by omega) (by omega)
  have Uv: ¬(2:Int)=1:=by omega
  have Nq: ¬(1:Int)=2:=by omega
  have e8:(8:Int)=0->BG op ps l o i:=λq=>by omega
  by_cases c1:ay o>l.1
  ·exact⟨8,by simp only[gD,hR,hv,zdM,zdO,↓xo,eq_self,iF,zdQ,zdN,bg i1,bg i2,q0,ot c1],e8⟩
  by_cases c2:aE o*ay o>l.2.1
  ·exact⟨8,by simp only[gD,hR,hv,zdM,zdO,↓xo,eq_self,iF,zdQ,zdN,bg i1,bg i2,q0,bg c1,ot c2],e8⟩
  by_cases c3:yh op n+ay o>l.2.2.1
  ·exact⟨8,by simp only[gD,hR,hv,zdM,zdO,↓xo,xw,eq_self,iF,zdQ,zdN,bg i1,bg i2,q0,bg c1,bg c2,hn,ha,w1,ot c3],e8⟩
  rcases ho.side with hs|hs
  ·by_cases c4:tb ps n i+(tb op n i+ay o)>l.2.2.2.1
   ·exact⟨8,by simp only[gD,hR,hv,zdM,zdO,↓xo,xw,eq_self,iF,zdQ,zdN,bg i1,bg i2,q0,bg c1,bg c2,hn,ha,w1,bg c3,hpo,vm,s0,hs,w2,w3,ot c4],e8⟩
   ·refine⟨0,by simp only[gD,hR,hv,zdM,zdO,↓xo,xw,eq_self,iF,zdQ,zdN,bg i1,bg i2,q0,bg c1,bg c2,hn,ha,w1,bg c3,hpo,vm,s0,hs,w2,w3,bg c4,bg Nq],λ_=>⟨ho,by omega,by omega,?_,λ_=>?_,λq=>by omega⟩⟩
    ·rw[hn];exact(by omega:yh op n+ay o<=l.2.2.1)
    ·rw[hn];exact(by omega:tb ps n i+(tb op n i+ay o)<=l.2.2.2.1)
  ·by_cases c4:tb op n i+ay o-tb ps n i>l.2.2.2.1
   ·exact⟨8,by simp only[gD,hR,hv,zdM,zdO,↓xo,xw,eq_self,iF,zdQ,zdN,bg i1,bg i2,q0,bg c1,bg c2,hn,ha,w1,bg c3,hpo,vm,s0,hs,w2,w4,ot c4,bg Uv],e8⟩
   ·refine⟨0,by simp only[gD,hR,hv,zdM,zdO,↓xo,xw,eq_self,iF,zdQ,zdN,bg i1,bg i2,q0,bg c1,bg c2,hn,ha,w1,bg c3,hpo,vm,s0,hs,w2,w4,bg c4,bg Uv],λ_=>⟨ho,by omega,by omega,?_,λq=>by omega,λ_=>?_⟩⟩
    ·rw[hn];exact(by omega:yh op n+ay o<=l.2.2.1)
    ·rw[hn];exact(by omega:tb op n i+ay o-tb ps n i<=l.2.2.2.1)
end
theorem oR {L R S:Type}{b:L->Option (L⊕R)}(n:Nat)(mk:Nat->S->L)(fin:S->R)(I:Nat->S->Prop)(hs: ∀k s,k<n->I k s->∃s',b (mk k s)=some (.inl (mk (k+1) s'))/\I (k+1) s')(he: ∀s,I n s->b (mk n s)=some (.inr (fin s))): ∀s,I 0 s->∃s',ag b (mk 0 s)=some (fin s')/\I n s':=by
 have key: ∀m k s,k+m=n->I k s->∃s',ag b (mk k s)=some (fin s')/\I n s':=by
  intro m;induction m with
  |zero=>
   intro k s hk hi;obtain rfl:k=n:=by omega
   exact⟨s,by rw[ar,he s hi],hi⟩
  |succ m ih=>
   intro k s hk hi;obtain⟨s',h1,h2⟩:=hs k s (by omega) hi
   obtain⟨s'',h3,h4⟩:=ih (k+1) s' (by omega) h2
   exact⟨s'',by rw[ar,h1];exact h3,h4⟩
 exact λs hi=>key n 0 s (by omega) hi
theorem Tw {i n:Nat}(h:i<n)(hn:n<=1000000000000):IntKind.wrap .i64 ((i:Int)+1)=((i+1:Nat):Int):=by rw[nR (by omega) (by omega)];omega
def zbA (v:V)(i:Nat)(m:MS):Prop:= ∃bs ss st,v.M[i]?=some (Cv m.2.2.2.1 m.2.2.2.2 bs ss m.2.2.1 st)/\Bk bs ss st m.1 m.2.1/\wF m.1 m.2.1 m.2.2.1/\yf m
structure IG (v:V)(μ:Nat->MS):Prop where
 mp: ∀i,i<8->v.mp[i]?=some (i+1)
 at_: ∀i,i<8->zbA v i (μ i)
structure KQ (op:List (List Int)):Prop where
 wJ:AJ op
 Cz: ∀n i,n<32->i<8->0<=tb op n i/\tb op n i<=1099511627776
structure Qo (ps:List (List Int)):Prop where
 wJ:AJ ps
 Cz: ∀n i,n<32->i<8-> -1099511627776<=tb ps n i/\tb ps n i<=1099511627776
section
variable {v:V}{μ:Nat->MS}{i n:Nat}
theorem Kr (hm:IG v μ)(hi:i<8)(hn:n<32)(ho:KQ v.op): ∃mU,ag (dq WX) (((),(i:Int),(n:Int),(n:Int),()),v.s)=some (((),(i:Int),(n:Int),()),{v with op:=mU}.s)/\KQ mU/\∀m j,tb mU m j=if m=n/\j=i then wY n (μ i) else tb v.op m j:=by
 obtain⟨bs,ss,st,hM,hB,hI,hH⟩:=hm.at_ i hi;have hO:=Wl (last:=(μ i).2.2.2.1) (no:=(μ i).2.2.2.2) hB hI (n:Int);have ob:=Kp (last:=(μ i).2.2.2.1) (no:=(μ i).2.2.2.2) hI (n:Int);have hp:=hm.mp i hi;generalize hX:wY (n:Int) ((μ i).1,(μ i).2.1,(μ i).2.2.1,(μ i).2.2.2.1,(μ i).2.2.2.2)=X at hO ob;have key:=rD (b:=dq WX) (λk l=> ∃mU,l=(((),(i:Int),(n:Int),(n:Int),()),{v with op:=mU}.s)/\KQ mU/\(∀m j,¬(m=n/\j=i)->tb mU m j=tb v.op m j)/\k=(X-tb mU n i).natAbs)
  (λr=> ∃mU,r=(((),(i:Int),(n:Int),()),{v with op:=mU}.s)/\KQ mU/\∀m j,tb mU m j=if m=n/\j=i then X else tb v.op m j) (λk l hl=>by
   obtain⟨mU,rfl,h1,h2,h3⟩:=hl;have b1:=h1.Cz n i hn hi;have hA:=BF (ps:=v.ps) h1.wJ hn hi;have e1:i64.wrap (X-tb mU n i)=X-tb mU n i:=nR (by omega) (by omega)
   by_cases h0:X-tb mU n i=0
   ·refine .inr ⟨_,?_,mU,rfl,h1,λm j=>?_⟩
    ·simp only[dq,V.s,↓xo,xw,ot (CT hi),zdO,zdP,hp,zdM,an,hM,hO,hA,e1,ot h0,aJ hM]
    ·split
     ·rename_i e;rw[e.1,e.2];omega
     ·rename_i e;exact h2 m j e
   ·have hq: -1048576<=max (-1048576) (min (X-tb mU n i) 1048576)/\max (-1048576) (min (X-tb mU n i) 1048576)<=1048576:=by omega
    generalize hQ:max (-1048576) (min (X-tb mU n i) 1048576)=q at hq;have hS:=EP (ps:=v.ps) h1.wJ hn hi hq b1;have hv:Wm (tb mU n i+q) 0 1099511627776=true:=decide_eq_true (by omega)
    rw[hv] at hS;unfold KP at hS;rw[if_pos hv] at hS;refine .inl ⟨_,?_,(X-(tb mU n i+q)).natAbs,by omega,Ow mU n i (tb mU n i+q),rfl,⟨AK h1.wJ n i _ hn,λm j ZS hj=>?_⟩,λm j e=>?_,?_⟩
    ·simp only[dq,V.s,↓xo,xw,vf,Mo,ot (CT hi),zdO,zdP,hp,zdM,an,hM,hO,hA,e1,bg h0,zdN,aJ hM,hQ,hS,zdQ]
    ·rw[yg h1.wJ hn hi]
     split
     ·omega
     ·exact h1.Cz m j ZS hj
    ·rw[yg h1.wJ hn hi,if_neg e];exact h2 m j e
    ·rw[yg h1.wJ hn hi,if_pos ⟨rfl,rfl⟩])
 obtain⟨r,h1,mU,rfl,h2,h3⟩:=key _ _ ⟨v.op,rfl,ho,λ_ _ _=>rfl,rfl⟩;exact⟨mU,h1,h2,h3⟩
theorem Ks (hm:IG v μ)(hi:i<8)(ho:KQ v.op): ∃mU,fU WX (((),(i:Int),()),v.s)=some ((),{v with op:=mU}.s)/\KQ mU/\∀m j,m<32->tb mU m j=if j=i then wY m (μ i) else tb v.op m j:=by
 obtain⟨mU,h1,h2,h3⟩:=oR (b:=dr WX) 32 (λk (mU:List (List Int))=>(((),(i:Int),(k:Int),()),{v with op:=mU}.s)) (λmU=>((),{v with op:=mU}.s)) (λk mU=>KQ mU/\∀m j,tb mU m j=if m<k/\j=i then wY m (μ i) else tb v.op m j)
  (λk op1 hk hI=>by
   have ZS:IG {v with op:=op1} μ:=⟨hm.mp,hm.at_⟩;obtain⟨Tx,h1,h2,h3⟩:=Kr ZS hi hk hI.1;have e1:=lG hk (by omega)
   refine⟨Tx,by simp only[dr,↓xo,xw,↓xl,oT ((k:Int)<32),zdO,h1,zdM,e1],h2,λm j=>?_⟩
   rw[h3 m j];by_cases hc:m=k/\j=i
   ·rw[if_pos hc,if_pos (by omega),hc.1]
   ·rw[if_neg hc]
    show tb op1 m j=_
    rw[hI.2 m j];by_cases hd:m<k/\j=i
    ·rw[if_pos hd,if_pos (by omega)]
    ·rw[if_neg hd,if_neg (by omega)])
  (λmU _=>by simp only[dr,↓xo,oF (((32:Nat):Int)<32),zdN]) v.op ⟨ho,λm j=>by rw[if_neg (by omega)]⟩
 change ag (dr WX) (((),(i:Int),0,()),v.s)=_ at h1;refine⟨mU,by simp only[fU,↓xl,h1,zdM],h2,λm j ZS=>?_⟩
 rw[h3 m j];by_cases hc:j=i
 ·rw[if_pos ⟨ZS,hc⟩,if_pos hc]
 ·rw[if_neg (λq=>hc q.2),if_neg hc]
def GZ (i:Nat)(ps:List (List Int))(f:np):List (List Int):=
 let G0:=KP ps f.1.1.toNat i (tb ps f.1.1.toNat i+Fh (br f.1) (Fl.pN f)) (-1099511627776) 1099511627776
 KP G0 f.2.1.1.toNat i (tb G0 f.2.1.1.toNat i+Fh (br f.2.1) (Fl.pN f)) (-1099511627776) 1099511627776
def yi (i:Nat)(ps:List (List Int))(fs:List np):List (List Int):=fs.foldl (GZ i) ps
def um (i:Nat)(ps:List (List Int))(l:List l8):List (List Int):=l.foldl (λps x=>yi i ps x.2.1) ps
theorem XA {ps:List (List Int)}(h:Qo ps){n i:Nat}(hn:n<32)(hi:i<8)(x:Int):Qo (KP ps n i x (-1099511627776) 1099511627776):=by
 unfold KP;split
 ·rename_i hv
  have:=of_decide_eq_true hv;refine⟨AK h.wJ n i _ hn,λm j hm hj=>?_⟩;rw[yg h.wJ hn hi];split
  ·exact this
  ·exact h.Cz m j hm hj
 ·exact h
theorem ER {α β:Type}(f:β->α->β)(b:β){l:List α}{k:Nat}{x:α}(h:l[k]?=some x):(l.take (k+1)).foldl f b=f ((l.take k).foldl f b) x:=by
 rw[zfk,h,List.foldl_append];rfl
abbrev sX (v:V)(x:l8)(out:List gN):=((v.cfg,v.now,(),v.ph,v.mp,(),v.bp,v.lp,()),(v.tr,()),(v.op,v.ps,()),x,out,v.M,v.L,v.B,())
abbrev sE (v:V)(out:List gN):=((v.cfg,v.now,(),v.ph,v.mp,(),v.bp,v.lp,()),(v.tr,()),(v.op,v.ps,()),out,v.M,v.L,v.B,())
theorem MP (hi:i<8)(hp:Qo v.ps)(x:l8)(hx:s8 x)(l:List l8)(a b:Int)(out:List gN)(hl:out.length<=1000000000): ∃xi,ag (dO WX) (((),(i:Int),(),(),l,a,b,x.2.1,(x.2.1.length:Int),0,()),sX v x out)=some (((),(i:Int),(),(),l,a,b,()),sX {v with ps:=yi i v.ps x.2.1} x xi)/\Qo (yi i v.ps x.2.1)/\xi.length=out.length+x.2.1.length:=by
 have hlen:=hx.len;obtain⟨⟨XL,xi⟩,h1,h2,h3,h4⟩:=oR (b:=dO WX) x.2.1.length (λk (s:List (List Int)×List gN)=>(((),(i:Int),(),(),l,a,b,x.2.1,(x.2.1.length:Int),(k:Int),()),sX {v with ps:=s.1} x s.2)) (λs=>(((),(i:Int),(),(),l,a,b,()),sX {v with ps:=s.1} x s.2))
  (λk s=>s.1=yi i v.ps (x.2.1.take k)/\Qo s.1/\s.2.length=out.length+k)
  (λk s hk hI=>by
   obtain⟨G0,II⟩:=s;obtain⟨i1,i2,i3⟩:=hI;simp only at i1 i2 i3;have BS:=zdS hk;obtain⟨f1,f2,f3,f4⟩:=hx.AG _ (ze0 hk);have f5:Fl.pN x.2.1[k]<=1048576:=by
    have s1:=hx.sum;have hd:x.2.1=x.2.1.take k++ [x.2.1[k]]++x.2.1.drop (k+1):=by simp
    have s2:=s1.2;rw[hd,uk,uk] at s2;have g1:=wH (l:=x.2.1.take k) λf hf=>(hx.AG f (zeP hf)).2.2.2;have g2:=wH (l:=x.2.1.drop (k+1)) λf hf=>(hx.AG f (zfh hf)).2.2.2;have g3:lv [x.2.1[k]]=Fl.pN x.2.1[k]:=by simp[lv,jK]
    omega
   have e1:=Tw hk (by omega)
   have ht:=ER (GZ i) v.ps BS;generalize x.2.1[k]=f at*;obtain⟨n1,O0⟩:=zfF f1.1;obtain⟨n2,IT⟩:=zfF f2.1;have t1:=GY (op:=v.op) i2.wJ (n:=n1) (by omega) hi (s:=br f.1) (by omega) ⟨f4,f5⟩ (i2.Cz n1 i (by omega) hi)
   have i4:=XA i2 (n:=n1) (by omega) hi (tb G0 n1 i+Fh (br f.1) (Fl.pN f))
   have t2:=GY (op:=v.op) i4.wJ (n:=n2) (by omega) hi (s:=br f.2.1) (by omega) ⟨f4,f5⟩ (i4.Cz n2 i (by omega) hi)
   have i5:=XA i4 (n:=n2) (by omega) hi (tb (KP G0 n1 i (tb G0 n1 i+Fh (br f.1) (Fl.pN f)) (-1099511627776) 1099511627776) n2 i+Fh (br f.2.1) (Fl.pN f))
   have hf:GZ i G0 f=KP (KP G0 n1 i (tb G0 n1 i+Fh (br f.1) (Fl.pN f)) (-1099511627776) 1099511627776) n2 i (tb (KP G0 n1 i (tb G0 n1 i+Fh (br f.1) (Fl.pN f)) (-1099511627776) 1099511627776) n2 i+Fh (br f.2.1) (Fl.pN f)) (-1099511627776) 1099511627776:=by
    unfold GZ;rw[O0,IT];rfl
   rw[<-hf] at t2 i5;refine⟨(GZ i G0 f,II++ [(1,(i:Int),f,(0,0,0,0,0,0,0,0,0,()),())]),?_,?_,i5,by rw[zdW,i3];simp only[zdX,zdY];omega⟩
   ·have a1:f.1.1=(n1:Int):=O0
    have a2:f.2.1.1=(n2:Int):=IT;have a3:f.1.2.2.2.1=br f.1:=rfl;have a4:f.2.1.2.2.2.1=br f.2.1:=rfl;have a5:f.2.2.2.1=Fl.pN f:=rfl;simp only[dO,↓xo,xw,oT ((k:Int)<(x.2.1.length:Int)),oT ((0:Int)<=(k:Int)),zdO,zdP,BS,zdM,a1,a2,a3,a4,a5,t1,t2,ot (show(((II.length+([(1,(i:Int),f,(0,0,0,0,0,0,0,0,0,()),())]:List gN).length:Nat):Int))*((256:Nat):Int)<=((room:Nat):Int) by unfold room;simp only[zdX,zdY];omega),e1]
   ·show GZ i G0 f=_
    rw[i1];exact ht.symm)
  (λs _=>by simp only[dO,↓xo,oF ((x.2.1.length:Int)<(x.2.1.length:Int)),zdN]) (v.ps,out) ⟨rfl,hp,rfl⟩
 simp only at h1 h2 h3 h4;rw[ze4] at h2;subst h2;exact⟨xi,h1,h3,h4⟩
end
structure SI (v:V)(μ:Nat->MS):Prop where
 qS:IG v μ
 op:KQ v.op
 MQ: ∀n i,n<32->i<8->tb v.op n i=wY n (μ i)
 ps:Qo v.ps
section
variable {v:V}{μ:Nat->MS}{i n:Nat}
theorem Qp (hi:i<8)(hp:Qo v.ps)(l:List l8)(hl:l.length<=70)(hx: ∀x∈l,s8 x): ∃xi,ag (bB WX) (((),(i:Int),(),l,(l.length:Int),0,()),sE v [])=some (((),(i:Int),xi,()),{v with ps:=um i v.ps l}.s)/\Qo (um i v.ps l)/\xi.length<=80000000:=by
 obtain⟨⟨XL,xi⟩,h1,h2,h3,h4⟩:=oR (b:=bB WX) l.length (λk (s:List (List Int)×List gN)=>(((),(i:Int),(),l,(l.length:Int),(k:Int),()),sE {v with ps:=s.1} s.2)) (λs=>(((),(i:Int),s.2,()),{v with ps:=s.1}.s))
  (λk s=>s.1=um i v.ps (l.take k)/\Qo s.1/\s.2.length<=k*1048577)
  (λk s hk hI=>by
   obtain⟨G0,II⟩:=s;obtain⟨i1,i2,i3⟩:=hI;simp only at i1 i2 i3;have BS:=zdS hk;have hc:=hx _ (ze0 hk);have e1:=lG hk (by omega)
   have ht:=ER (λps (x:l8)=>yi i ps x.2.1) v.ps BS;generalize l[k]=x at*;obtain⟨IJ,f1,f2,f3⟩:=MP (v:={v with ps:=G0}) hi i2 x hc l (l.length:Int) (k:Int) II (by omega)
   have ZD:=hc.len;have hcm:yi i G0 x.2.1=um i v.ps (l.take (k+1)):=by rw[i1];exact ht.symm
   have hr: ∀e:gN,(((IJ.length+([e]:List gN).length:Nat):Int))*((256:Nat):Int)<=((room:Nat):Int):=λe=>by
    unfold room;simp only[zdX,zdY];omega
   have fin: ∀Wn:List gN,Wn.length<=IJ.length+1->bB WX (((),(i:Int),(),l,(l.length:Int),(k:Int),()),sE {v with ps:=G0} II)=some (.inl (((),(i:Int),(),l,(l.length:Int),((k+1:Nat):Int),()),sE {v with ps:=yi i G0 x.2.1} Wn))->∃s':List (List Int)×List gN,bB WX (((),(i:Int),(),l,(l.length:Int),(k:Int),()),sE {v with ps:=G0} II)=some (.inl (((),(i:Int),(),l,(l.length:Int),((k+1:Nat):Int),()),sE {v with ps:=s'.1} s'.2))/\s'.1=um i v.ps (l.take (k+1))/\Qo s'.1/\s'.2.length<=(k+1)*1048577:=λWn ho he=>
     ⟨(yi i G0 x.2.1,Wn),he,hcm,f2,by simp only;omega⟩
   by_cases hq:x.2.2.1>0
   ·cases Tz:x.2.2.2.1 with
    |true=>
     refine fin (IJ++ [(3,(i:Int),((0,0,0,0,0,0,0,0,0,()),(0,0,0,0,0,0,0,0,0,()),0,0,0,()),(x.1.1,x.1.2.1,x.1.2.2.1,x.1.2.2.2.1,x.1.2.2.2.2.1,x.1.2.2.2.2.2.1,x.2.2.1,x.1.2.2.2.2.2.2.2),())]) (by rw[zdW];exact zd9 _) ?_
     simp only[bB,↓xo,xw,↓xl,oT ((k:Int)<(l.length:Int)),oT ((0:Int)<=(k:Int)),zdO,zdP,BS,zdM,f1,Tz,ot hq,ot (hr _),e1]
    |false=>
     cases KJ:x.2.2.2.2.1 with
     |true=>
      refine fin (IJ++ [(3,(i:Int),((0,0,0,0,0,0,0,0,0,()),(0,0,0,0,0,0,0,0,0,()),0,0,0,()),(x.1.1,x.1.2.1,x.1.2.2.1,x.1.2.2.2.1,x.1.2.2.2.2.1,x.1.2.2.2.2.2.1,x.2.2.1,x.1.2.2.2.2.2.2.2),())]) (by rw[zdW];exact zd9 _) ?_
      simp only[bB,↓xo,xw,↓xl,oT ((k:Int)<(l.length:Int)),oT ((0:Int)<=(k:Int)),zdO,zdN,zdP,BS,zdM,f1,Tz,KJ,ot hq,ot (hr _),e1]
     |false=>
      refine fin (IJ++ [(2,(i:Int),((0,0,0,0,0,0,0,0,0,()),(0,0,0,0,0,0,0,0,0,()),0,0,0,()),(x.1.1,x.1.2.1,x.1.2.2.1,x.1.2.2.2.1,x.1.2.2.2.2.1,x.1.2.2.2.2.2.1,x.2.2.1,x.1.2.2.2.2.2.2.2),())]) (by rw[zdW];exact zd9 _) ?_
      simp only[bB,↓xo,xw,↓xl,oT ((k:Int)<(l.length:Int)),oT ((0:Int)<=(k:Int)),zdO,zdN,zdP,BS,zdM,f1,Tz,KJ,ot hq,ot (hr _),e1]
   ·refine fin IJ (by omega) ?_
    cases Tz:x.2.2.2.1 with
    |true=>simp only[bB,↓xo,xw,↓xl,oT ((k:Int)<(l.length:Int)),oT ((0:Int)<=(k:Int)),zdO,zdN,zdP,BS,zdM,f1,Tz,bg hq,e1]
    |false=>
     cases KJ:x.2.2.2.2.1 with
     |true=>simp only[bB,↓xo,xw,↓xl,oT ((k:Int)<(l.length:Int)),oT ((0:Int)<=(k:Int)),zdO,zdN,zdP,BS,zdM,f1,Tz,KJ,bg hq,e1]
     |false=>simp only[bB,↓xo,xw,↓xl,oT ((k:Int)<(l.length:Int)),oT ((0:Int)<=(k:Int)),zdO,zdN,zdP,BS,zdM,f1,Tz,KJ,bg hq,e1])
  (λs _=>by simp only[bB,↓xo,oF ((l.length:Int)<(l.length:Int)),zdN,V.s]) (v.ps,[]) ⟨rfl,hp,zeU _⟩
 simp only at h1 h2 h3 h4;rw[ze4] at h2;subst h2;exact⟨xi,h1,h3,by omega⟩
theorem Wo (hm:IG v μ)(ho:KQ v.op)(hp:Qo v.ps)(hi:i<8)(l:List l8)(hl:l.length<=70)(hx: ∀x∈l,s8 x): ∃out mU,eX WX (((),(i:Int),l,()),v.s)=some ((out,()),{v with ps:=um i v.ps l,op:=mU}.s)/\Qo (um i v.ps l)/\KQ mU/\(∀m j,m<32->tb mU m j=if j=i then wY m (μ i) else tb v.op m j)/\out.length<=80000000:=by
 obtain⟨out,h1,h2,h3⟩:=Qp hi hp l hl hx;obtain⟨mU,g1,g2,g3⟩:=Ks (v:={v with ps:=um i v.ps l}) (μ:=μ) ⟨hm.mp,hm.at_⟩ hi ho;refine⟨out,mU,?_,h2,g2,g3,h3⟩;simp only[eX,V.s,↓xl] at g1 h1⊢;simp only[h1,zdM,g1]
theorem Ox (hm:IG v μ)(ho:KQ v.op)(hi:i<8)(l:List et)(hl:l.length<=1000): ∃out mU,gn WX (((),(i:Int),l,()),v.s)=some ((out,()),{v with op:=mU}.s)/\KQ mU/\(∀m j,m<32->tb mU m j=if j=i then wY m (μ i) else tb v.op m j)/\out.length=l.length:=by
 obtain⟨out,h1,h2⟩:=oR (b:=dN WX) l.length (λk (s:List gN)=>(((),(i:Int),(),l,(l.length:Int),(k:Int),()),sE v s)) (λs=>(((),(i:Int),s,()),v.s))
  (λk s=>s.length=k)
  (λk s hk hI=>by
   have BS:=zdS hk;have e1:=lG hk (by omega)
   generalize l[k]=x at*;exact⟨s++ [(2,(i:Int),((0,0,0,0,0,0,0,0,0,()),(0,0,0,0,0,0,0,0,0,()),0,0,0,()),x,())],by simp only[dN,↓xo,xw,oT ((k:Int)<(l.length:Int)),oT ((0:Int)<=(k:Int)),zdO,zdP,BS,zdM,ot (show(((s.length+([(2,(i:Int),((0,0,0,0,0,0,0,0,0,()),(0,0,0,0,0,0,0,0,0,()),0,0,0,()),x,())]:List gN).length:Nat):Int))*((256:Nat):Int)<=((room:Nat):Int) by unfold room;simp only[zdX,zdY];omega),e1],by rw[zdW,hI];rfl⟩)
  (λs _=>by simp only[dN,↓xo,oF ((l.length:Int)<(l.length:Int)),zdN,V.s]) [] rfl
 change ag (dN WX) (((),(i:Int),(),l,(l.length:Int),0,()),sE v [])=_ at h1;obtain⟨mU,g1,g2,g3⟩:=Ks hm hi ho;refine⟨out,mU,?_,g2,g3,h2⟩;simp only[gn,V.s,↓xl] at g1 h1⊢;simp only[h1,zdM,g1]
def wK (μ:Nat->MS)(i:Nat)(m:MS):Nat->MS:=λj=>if j=i then m else μ j
theorem Dh (hm:IG v μ)(hi:i<8){m:MS}{bs ss:List Nat}{st:List gF}(hB:Bk bs ss st m.1 m.2.1)(hI:wF m.1 m.2.1 m.2.2.1)(hH:yf m):IG {v with M:=v.M.set i (Cv m.2.2.2.1 m.2.2.2.2 bs ss m.2.2.1 st)} (wK μ i m):=by
 refine⟨hm.mp,λj hj=>?_⟩;obtain⟨bs0,ss0,st0,h0,_⟩:=hm.at_ i hi;unfold wK;by_cases e:j=i
 ·subst e
  rw[if_pos rfl];exact⟨bs,ss,st,ko h0,hB,hI,hH⟩
 ·rw[if_neg e]
  obtain⟨bs1,ss1,wQ,h1,h2⟩:=hm.at_ j hj;exact⟨bs1,ss1,wQ,by show(v.M.set i _)[j]?=_;rw[kL e];exact h1,h2⟩
theorem Qq (h:SI v μ)(hi:i<8)(x:Int)(a:Int)(out:List gN)(hl:out.length<=1000)(ha:(i:Int)=a\/a=8): ∃xi mU M',bW WX (((),a,x,(),v.mp,(i:Int),()),sE v out)=some (.inl (((),a,x,(),v.mp,((i+1:Nat):Int),()),sE {v with op:=mU,M:=M'} xi))/\SI {v with op:=mU,M:=M'} (wK μ i (mQ x (μ i)).1)/\xi.length<=out.length+64:=by
 obtain⟨bs,ss,st,hM,hB,hI,hH⟩:=h.qS.at_ i hi;obtain⟨oW,oX,fe,m1,m2,m3,m4,m5,m6⟩:=Wk (last:=(μ i).2.2.2.1) (no:=(μ i).2.2.2.2) hB hI hH x;change kI WX (((),x,()),_)=some (((mQ x (μ i)).2,()),FZ (μ i).2.2.2.1 (μ i).2.2.2.2 oW oX (mQ x (μ i)).1.2.2.1 fe) at m1;change (mQ x (μ i)).1.2.2.2=((μ i).2.2.2.1,(μ i).2.2.2.2) at m2;change Bk oW oX fe (mQ x (μ i)).1.1 (mQ x (μ i)).1.2.1 at m3;change wF (mQ x (μ i)).1.1 (mQ x (μ i)).1.2.1 (mQ x (μ i)).1.2.2.1 at m4;change yf (mQ x (μ i)).1 at m5;change (mQ x (μ i)).2.length<=64 at m6;have s1:=Dh h.qS hi m3 m4 m5;have e2:(mQ x (μ i)).1.2.2.2.1=(μ i).2.2.2.1:=by rw[m2]
 have e3:(mQ x (μ i)).1.2.2.2.2=(μ i).2.2.2.2:=by rw[m2]
 rw[e2,e3] at s1;obtain⟨IJ,mU,g1,g2,g3,g4⟩:=Ox (v:={v with M:=v.M.set i (Cv (μ i).2.2.2.1 (μ i).2.2.2.2 oW oX (mQ x (μ i)).1.2.2.1 fe)}) s1 h.op hi (mQ x (μ i)).2 (by omega)
 have hp:=h.qS.mp i hi;have e1:=lG hi (by omega)
 have hr:(((out.length+IJ.length:Nat):Int))*((256:Nat):Int)<=((room:Nat):Int):=by unfold room;omega
 refine⟨out++IJ,mU,_,?_,⟨⟨s1.mp,s1.at_⟩,g2,λn j hn hj=>?_,h.ps⟩,by rw[zdW];omega⟩
 ·simp only[V.s] at g1
  by_cases e:(i:Int)=a
  ·simp only[bW,V.s,↓xo,xw,oT ((i:Int)<8),ot (CT hi),zdO,zdP,hp,zdM,ot e,an,hM,m1,g1,ot hr,e1]
  ·have e8:a=8:=by omega
   simp only[bW,V.s,↓xo,xw,oT ((i:Int)<8),ot (CT hi),zdO,zdN,zdP,hp,zdM,bg e,ot e8,an,hM,m1,g1,ot hr,e1]
 ·show tb mU n j=_
  rw[g3 n j hn];unfold wK;by_cases e:j=i
  ·subst e;rw[if_pos rfl]
  ·rw[if_neg e,if_neg e];exact h.MQ n j hn hj
theorem Kt (h:SI v μ)(x a:Int)(ha:0<=a/\a<=8): ∃out mU M' μ',di WX (((),a,x,()),v.s)=some ((out,()),{v with op:=mU,M:=M'}.s)/\SI {v with op:=mU,M:=M'} μ'/\out.length<=512/\(∀i,μ' i=μ i\/μ' i=(mQ x (μ i)).1):=by
 obtain⟨⟨mU,M',out,μ'⟩,h1,h2,h3,h4,_⟩:=oR (b:=bW WX) 8 (λk (s:List (List Int)×List uD×List gN×(Nat->MS))=>(((),a,x,(),v.mp,(k:Int),()),sE {v with op:=s.1,M:=s.2.1} s.2.2.1)) (λs=>((s.2.2.1,()),{v with op:=s.1,M:=s.2.1}.s))
  (λk s=>SI {v with op:=s.1,M:=s.2.1} s.2.2.2/\s.2.2.1.length<=64*k/\(∀i,s.2.2.2 i=μ i\/s.2.2.2 i=(mQ x (μ i)).1)/\∀i,k<=i->s.2.2.2 i=μ i)
  (λk s hk hI=>by
   obtain⟨op1,M1,II,μ1⟩:=s;obtain⟨i1,i2,i3,i4⟩:=hI;simp only at i1 i2 i3 i4;have e1:=lG hk (by omega)
   have hp:=i1.qS.mp k hk;change v.mp[k]?=_ at hp;by_cases e:(k:Int)=a\/a=8
   ·obtain⟨xi,mU,M',g1,g2,g3⟩:=Qq i1 hk x a II (by omega) e
    refine⟨(mU,M',xi,wK μ1 k (mQ x (μ1 k)).1),g1,g2,by simp only;omega,λi=>?_,λi hi=>?_⟩
    ·simp only[wK]
     by_cases q:i=k
     ·subst q;rw[if_pos rfl,i4 i (zd9 _)];exact .inr rfl
     ·rw[if_neg q];exact i3 i
    ·simp only[wK]
     rw[if_neg (by omega)];exact i4 i (by omega)
   ·refine⟨(op1,M1,II,μ1),?_,i1,by simp only;omega,i3,λi hi=>i4 i (by omega)⟩
    simp only[bW,V.s,↓xo,xw,oT ((k:Int)<8),ot (CT hk),zdO,zdN,zdP,hp,zdM,bg (λq=>e (.inl q)),bg (λq=>e (.inr q)),e1])
  (λs _=>by simp only[bW,↓xo,oF (((8:Nat):Int)<8),zdN,V.s]) (v.op,v.M,[],μ) ⟨h,zeU _,λi=> .inl rfl,λi _=>rfl⟩
 refine⟨out,mU,M',μ',?_,h2,by simp only at h3;omega,h4⟩
 change ag (bW WX) (((),a,x,(),v.mp,0,()),sE v [])=_ at h1;simp only[di,V.s,↓xl] at h1⊢;simp only[h1,zdM]
end
abbrev T0:oS:=(0,0,0,0,false,gM,())
structure Qr (tr:List oS):Prop where
 len:tr.length=32
 kp: ∀x∈tr,0<=x.1/\x.1<=7
 key: ∀x∈tr,x.2.2.2.2.2.1.length=32
def iE (tr:List oS)(n:Int):oS:=tr.getD n.toNat T0
noncomputable def lE (tr:List oS)(n:Int):Bool:=if 0<=n/\n<=31 then !aa ((iE tr n).2.2.1=0) else false
noncomputable def vk (tr:List oS)(n:Int):oS:=if lE tr n=true then iE tr n else T0
abbrev QS (tr:List oS):((List oS)×Unit)×Unit:=((tr,()),())
section
variable {tr:List oS}
theorem uo (h:Qr tr){n:Int}(hn:0<=n/\n<=31):tr[n.toNat]?=some (iE tr n):=by
 have:=zdS (l:=tr) (i:=n.toNat) (by rw[h.len];omega)
 unfold iE;rw[zd3,this];rfl
theorem Cx {n:Int}(hn:0<=n/\n<=31):0<=n/\n<(32:Nat):=by omega
theorem oJ (h:Qr tr)(n:Int):bL WX (((),n,()),QS tr)=some ((lE tr n,()),QS tr):=by
 unfold lE;by_cases hn:0<=n/\n<=31
 ·rw[if_pos hn]
  simp only[bL,ig,↓xo,oT (n>=0),ot hn.2,zdO,zdM,ot (Cx hn),uo h hn]
 ·rw[if_neg hn]
  by_cases h0:n>=0
  ·simp only[bL,ig,↓xo,ot h0,oF (n<=31),zdO,zdN,zdM]
  ·simp only[bL,ig,↓xo,bg h0,zdN,zdM]
theorem qL {n:Int}(h:lE tr n=true):0<=n/\n<=31:=by
 unfold lE at h;split at h
 ·assumption
 ·cases h
theorem oe (h:Qr tr)(n:Int):bH WX (((),n,()),QS tr)=some ((vk tr n,()),QS tr):=by
 have h1:=oJ h n;unfold vk;cases ht:lE tr n with
 |true=>
  rw[ht] at h1;have hn:=qL ht;simp only[bH,h1,zdM,zdQ,zdN,↓xo,ot (Cx hn),zdO,uo h hn,if_true]
 |false=>
  rw[ht] at h1;simp only[bH,h1,zdM,zdR,zdO,zdU,if_false]
theorem G1 (h:Qr tr)(n:Int):0<=(vk tr n).1/\(vk tr n).1<=7:=by
 unfold vk;split
 ·rename_i ht
  exact h.kp _ (zeO (uo h (qL ht)))
 ·exact⟨zeS _,by decide⟩
theorem TA (h:Qr tr)(n:Int):(vk tr n).2.2.2.2.2.1.length=32:=by
 unfold vk;split
 ·rename_i ht
  exact h.key _ (zeO (uo h (qL ht)))
 ·rfl
noncomputable def Wp (tr:List oS)(n:Int)(b:Bool):List oS:=if lE tr n=true then tr.set n.toNat ((iE tr n).1,(iE tr n).2.1,(iE tr n).2.2.1,(iE tr n).2.2.2.1,b,(iE tr n).2.2.2.2.2) else tr
theorem Oy (h:Qr tr)(n:Int)(b:Bool):iP WX (((),n,b,()),QS tr)=some ((lE tr n,()),QS (Wp tr n b)):=by
 have h1:=oJ h n;unfold Wp;cases ht:lE tr n with
 |true=>
  rw[ht] at h1;have hn:=qL ht;simp only[iP,h1,zdM,zdQ,zdN,↓xo,ot (Cx hn),zdO,uo h hn,if_true]
 |false=>
  rw[ht] at h1;simp only[iP,h1,zdM,zdR,zdO,zdU,if_false]
structure Fi (tr tr':List oS):Prop where
 len:tr'.length=tr.length
 same: ∀i:Nat,(tr'.getD i T0).1=(tr.getD i T0).1/\(tr'.getD i T0).2.1=(tr.getD i T0).2.1/\(tr'.getD i T0).2.2.1=(tr.getD i T0).2.2.1/\(tr'.getD i T0).2.2.2.2.2=(tr.getD i T0).2.2.2.2.2
theorem Fi.rfl {tr:List oS}:Fi tr tr:=⟨Eq.refl _,λ_=>⟨Eq.refl _,Eq.refl _,Eq.refl _,Eq.refl _⟩⟩
theorem Fi.trans {a b c:List oS}(h:Fi a b)(k:Fi b c):Fi a c:=⟨k.len.trans h.len,λi=>⟨(k.same i).1.trans (h.same i).1,(k.same i).2.1.trans (h.same i).2.1,(k.same i).2.2.1.trans (h.same i).2.2.1,(k.same i).2.2.2.trans (h.same i).2.2.2⟩⟩
theorem Fi.inv {a b:List oS}(h:Fi a b)(k:Qr a):Qr b:=by
 have key: ∀x∈b,∃y∈a,x.1=y.1/\x.2.2.2.2.2=y.2.2.2.2.2:=λx hx=>by
  obtain⟨i,hi,rfl⟩:=zeu hx;have hl:=h.len;have h1:=h.same i;have e1:b.getD i T0=b[i]:=by rw[zd3,zdS hi];rfl
  have e2:a.getD i T0=a[i]'(by omega):=by rw[zd3,zdS (by omega)];rfl
  rw[e1,e2] at h1;exact⟨a[i]'(by omega),ze0 _,h1.1,h1.2.2.2⟩
 refine⟨by rw[h.len];exact k.len,λx hx=>?_,λx hx=>?_⟩
 ·obtain⟨y,hy,e,_⟩:=key x hx
  rw[e];exact k.kp y hy
 ·obtain⟨y,hy,_,e⟩:=key x hx
  rw[e];exact k.key y hy
theorem IK (tr:List oS)(n:Int)(b:Bool):Fi tr (Wp tr n b):=by
 unfold Wp;split
 ·refine⟨by rw[zeq],λi=>?_⟩
  simp only[zd3,zfj];by_cases e:n.toNat=i
  ·subst e
   rw[if_pos rfl];by_cases hl:n.toNat<tr.length
   ·rw[if_pos hl]
    simp[iE,zd3]
   ·rw[if_neg hl,List.getElem?_eq_none (by omega)]
    exact⟨rfl,rfl,rfl,rfl⟩
  ·rw[if_neg e];exact⟨rfl,rfl,rfl,rfl⟩
 ·exact .rfl
structure PhI (ph:H9):Prop where
 a:ph.1.length=8
 b:ph.2.1.length=8
 c:ph.2.2.1.length=8
theorem MR {α:Type}{l:List α}(h:l.length=8){n:Int}(hn:0<=n/\n<=7): ∃x,l[n.toNat]?=some x:=⟨_,zdS (by rw[h];omega)⟩
theorem IL {n:Int}(hn:0<=n/\n<=7):0<=n/\n<(8:Nat):=by omega
def An {α β:Type}(y:β)(o:Option (α×β)):Prop:= ∃x,o=some (x,y)
theorem An.bif {α β:Type}{y:β}{c:Bool}{a b:Option (α×β)}(h1:An y a)(h2:An y b):An y (bif c then a else b):=by cases c<;>assumption
theorem An.mk {α β:Type}(x:α)(y:β):An y (some (x,y)):=⟨x,rfl⟩
theorem TB (x:Bool×Unit):iM WX (x,())=some (((bif x.1 then 0 else 7),()),()):=by obtain⟨b,⟨⟩⟩:=x;cases b<;>rfl
theorem Qs {ph:H9}(hp:PhI ph)(x:oS)(i:Int):An () (jB WX ((ph,x,i,()),())):=by
 by_cases h0:i<0
 ·exact⟨(1,()),by simp only[jB,↓xo,ot h0,zdO]⟩
 by_cases h1:i>=8
 ·exact⟨(1,()),by simp only[jB,↓xo,bg h0,ot h1,zdO,zdN]⟩
 obtain⟨b,hb⟩:=MR hp.a (n:=i) (by omega)
 simp only[jB,↓xo,xw,bg h0,bg h1,zdN,gQ,zdM,bg (s9 i),oT (0<=i/\i<(8:Nat)),zdO,hb];repeat' first|exact An.mk _ _|apply An.bif
theorem Ku {ph:H9}(hp:PhI ph)(x y:oS)(hx:0<=x.1/\x.1<=7):An () (gU WX ((ph,x,y,()),())):=by
 obtain⟨b,hb⟩:=MR hp.c hx;simp only[gU,↓xo,xw,gQ,zdM,bg (s9 y.1),ot (IL hx),zdO,zdN,hb];repeat' first|exact An.mk _ _|apply An.bif
theorem An.bind {α β γ δ:Type}{y:β}{z:δ}{o:Option (α×β)}{f:α×β->Option (γ×δ)}(h:An y o)(k: ∀x,An z (f (x,y))):An z (o.bind f):=by
 obtain⟨x,rfl⟩:=h;exact k x
theorem Wq (h:Qr tr){ph:H9}(hp:PhI ph)(n d i o:Int):An (QS tr) (lC WX (((),ph,n,d,i,o,()),QS tr)):=by
 have hx:=G1 h n;have hb:=(MR hp.b hx);obtain⟨b,hb⟩:=hb;have k1: ∀x i,An () (jB WX ((ph,x,i,()),())):=λx i=>Qs hp x i;have k2: ∀y,An () (gU WX ((ph,vk tr n,y,()),())):=λy=>Ku hp _ y hx;simp only[lC,oJ h,oe h,↓xo,zdM,ot (IL hx),zdO,hb,gQ,TB];repeat' first|exact An.mk _ _|apply An.bif|(refine An.bind (k1 _ _) λx=>?_)|(refine An.bind (k2 _) λx=>?_;rw[TB,zdM])
theorem Oz (h:Qr tr)(n sc:Int):An (QS tr) (iO WX (((),n,sc,()),QS tr)):=by
 obtain⟨s,h1,_⟩:=oR (b:=cN WX) 32 (λk (s:Int)=>(((),n,sc,(),s,tr,(k:Int),()),(tr,()),(vk tr n,()))) (λs=>((s,()),(tr,()),(vk tr n,()))) (λ_ _=>True)
  (λk s hk _=>by
   have hx:=zdS (l:=tr) (i:=k) (by rw[h.len];exact hk)
   generalize tr[k]'(by rw[h.len];exact hk)=x at hx
   have e1:=lG hk (by omega)
   have key: ∃s',cN WX (((),n,sc,(),s,tr,(k:Int),()),(tr,()),(vk tr n,()))=some (.inl (((),n,sc,(),s',tr,((k+1:Nat):Int),()),(tr,()),(vk tr n,()))):=by
    simp only[cN,↓xo,xw,oT ((k:Int)<32),ot (qR hk),zdO,zdP,hx,zdM,oJ h,bg (s9 (k:Int)),zdN,e1];have cb: ∀(c:Bool) (a b:Option (cN.D⊕cN.R)),(∃s',a=some (.inl (((),n,sc,(),s',tr,((k+1:Nat):Int),()),(tr,()),(vk tr n,()))))->(∃s',b=some (.inl (((),n,sc,(),s',tr,((k+1:Nat):Int),()),(tr,()),(vk tr n,()))))->∃s',(bif c then a else b)=some (.inl (((),n,sc,(),s',tr,((k+1:Nat):Int),()),(tr,()),(vk tr n,()))):=λc a b ha hb=>by cases c<;>assumption
    repeat' first|exact⟨_,rfl⟩|apply cb
   obtain⟨s',hs⟩:=key;exact⟨s',hs,trivial⟩)
  (λs _=>by simp only[cN,↓xo,oF (((32:Nat):Int)<32),zdN]) 0 trivial
 change ag (cN WX) (((),n,sc,(),0,tr,0,()),(tr,()),(vk tr n,()))=_ at h1;exact⟨(s,()),by simp only[iO,oe h,zdM,↓xl,h1]⟩
end
theorem TC (k:wU)(now:Int)(h:k.2.1≠0): ∃b k',fk WX (((),now,()),(k,()))=some ((b,()),(k',()))/\k'.2.1=k.2.1:=by
 have key: ∃k1,fj WX (((),now,()),(k,()))=some ((),(k1,()))/\k1.2.1=k.2.1:=by
  by_cases h1:now<=k.2.2.2.1
  ·exact⟨k,by simp only[fj,↓xo,ot h1,zdO],rfl⟩
  ·by_cases h2:i64.wrap (k.2.2.1+i64.wrap (Int.tdiv (i64.wrap (now-k.2.2.2.1)) k.2.1))>=k.1
   ·refine⟨_,(?_:_=some ((),((k.1,k.2.1,k.1,now,()),()))),rfl⟩
    simp only[fj,↓xo,xw,bg h1,bg h,zdN,ot h2,zdO]
   ·refine⟨?w,?_,?_⟩
    rotate_left
    ·simp only[fj,↓xo,xw,bg h1,bg h,zdN,bg h2]
     rfl
    ·rfl
 obtain⟨k1,h1,h2⟩:=key;by_cases c1:k1.2.2.1=0
 ·exact⟨false,k1,by simp only[fk,h1,zdM,↓xo,ot c1,zdO],h2⟩
 ·by_cases c2:k1.2.2.1=k1.1
  ·refine⟨true,?w2,?_,?_⟩
   rotate_left
   ·simp only[fk,h1,zdM,↓xo,bg c1,ot c2,zdO,zdN]
    rfl
   ·exact h2
  ·refine⟨true,?w3,?_,?_⟩
   rotate_left
   ·simp only[fk,h1,zdM,↓xo,bg c1,bg c2,zdN]
    rfl
   ·exact h2
end AM
