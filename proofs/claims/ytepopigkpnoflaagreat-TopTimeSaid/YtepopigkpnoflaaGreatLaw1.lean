/- The engine and the venue, in plain Lean: what the printed functions keep. Conditions: none. -/
import Derived.Test.YtepopigkpnoflaaGreatPrn2
set_option linter.unusedVariables false
set_option linter.unusedSimpArgs false
set_option maxRecDepth 100000
namespace AM
open Go Go.Proofs IntKind
theorem xo (p:Prop){i:Decidable p}: @W.af WX p i=af p:=(@k0 p i).symm
theorem xw (k:IntKind)(n:Int):WX.wr k n=k.wrap n:=by
 have h:WX.wr k n=wr k n:=(pU k n).symm;rw[h,pU]
theorem xl {L R:Type}(b:L->Option (L⊕R))(l:L):WX.ag b l=ag b l:=EN _ b l
theorem vu (a b:Int):WX.sZ a b=min a b:=by
 show(bif decide (b<a) then b else a)=_
 by_cases h:b<a
 ·rw[decide_eq_true h,zdH];omega
 ·rw[decide_eq_false h,zdG];omega
theorem QH (a b:Int):WX.imax a b=max a b:=by
 show(bif decide (b>a) then b else a)=_
 by_cases h:b>a
 ·rw[decide_eq_true h,zdH];omega
 ·rw[decide_eq_false h,zdG];omega
theorem nL {n:Int}(h0: -9223372036854775808<=n)(h1:n<=9223372036854775807):IntKind.wrap .i64 n=n:=by rw[IntKind.wrap_i64];omega
theorem al {α:Type}(k:Nat)(f:Nat->Option α):mM (k+1) f=f k:=rfl
structure V where
 c:List MD
 cfg:u9
 now:Int
 ph:Jt
 mp:List Nat
 bp:List Nat
 lp:List Nat
 tr:List pv
 op:List (List Int)
 ps:List (List Int)
 lg:IG
 mt:List Lt
 M:List tk
 L:List tn
 S:List zG
 F:List wR
 O:List AK
 B:List vm
abbrev VT:=((Unit×(List MD)×Unit×Unit×Unit)×(u9×Int×Unit×Jt×(List Nat)×Unit×(List Nat)×(List Nat)×Unit)×((List pv)×Unit)×((List (List Int))×(List (List Int))×Unit)×IG×((List Lt)×Unit)×(List tk)×(List tn)×(List zG)×(List wR)×(List AK)×(List vm)×Unit)
abbrev ST:=((u9×Int×Unit×Jt×(List Nat)×Unit×(List Nat)×(List Nat)×Unit)×((List pv)×Unit)×((List (List Int))×(List (List Int))×Unit)×(List tk)×(List tn)×(List vm)×Unit)
def V.e (v:V):VT:=(((),v.c,(),(),()),(v.cfg,v.now,(),v.ph,v.mp,(),v.bp,v.lp,()),(v.tr,()),(v.op,v.ps,()),v.lg,(v.mt,()),v.M,v.L,v.S,v.F,v.O,v.B,())
def V.s (v:V):ST:=((v.cfg,v.now,(),v.ph,v.mp,(),v.bp,v.lp,()),(v.tr,()),(v.op,v.ps,()),v.M,v.L,v.B,())
abbrev hY:List Int:=List.replicate 32 (0:Int)
abbrev C0:mZ:=(0,0,0,0,0,0,0,0,0,0,0,0,0,0,hY,())
theorem aE {β:Type}{l:List β}{n:Nat}{x:β}(h:l[n]?=some x):l.set n x=l:=by
 apply List.ext_getElem?;intro j;rw[zfc];split
 ·rename_i e;subst e
  have:=(List.getElem?_eq_some_iff.1 h).1;rw[if_pos this,h]
 ·rfl
structure nz (v:V)(i f o:Nat)(s:xy)(fr ou:(List Int)×Bool×Unit):Prop where
 lt:i<16
 c:v.c[i]?=some (i+1,f+1,o+1,())
 S:v.S[i]?=some (s,())
 F:v.F[f]?=some (fr,())
 O:v.O[o]?=some (ou,())
section
variable {v:V}{i f o:Nat}{s:xy}{fr ou:(List Int)×Bool×Unit}
theorem lC (h:i<16):0<=(i:Int)/\(i:Int)<(16:Nat):=by omega
theorem M3 (h:nz v i f o s fr ou):eW WX (((),(i:Int),()),v.e)=some ((s.1,()),v.e):=by
 have hl:=h.lt;simp only[eW,fF,V.e,↓xo,ot (show(i:Int)>=0 by omega),ot (show(i:Int)<16 by omega),ot (lC hl),zdH,zdF,zdJ,zdG,zdI,h.c,al,h.S,ai,aE h.S]
def Fit (v:V):Prop:= ∀i,i<16->∃f o s fr ou,nz v i f o s fr ou/\(s.1≠0->ou.2.1=false)
theorem Tl (h:Fit v):fw WX (((),()),v.e)=some (((-1),()),v.e):=by
 have key: ∀n i:Nat,i+n=16->ag (bV WX) ((v.c,(i:Int),()),v.S,v.F,v.O,())=some (.inr ((),v.S,v.F,v.O,())):=by
  intro n;induction n with
  |zero=>
   intro i hi;rw[aq];simp only[bV,↓xo,aV (show¬(i:Int)<16 by omega),zdG]
  |succ n ih=>
   intro i hi;obtain⟨f,o,s,fr,ou,hc,hf⟩:=h i (by omega)
   rw[aq];have e1:i64.wrap ((i:Int)+1)=((i+1:Nat):Int):=by rw[nL (by omega) (by omega)];omega
   by_cases h0:s.1=0
   ·simp only[bV,↓xo,xw,ot (show(i:Int)<16 by omega),ot (lC hc.lt),zdH,zdF,zdI,hc.c,al,hc.S,ai,ot h0,zdJ,zdG,aE hc.S,e1]
    exact ih (i+1) (by omega)
   ·simp only[bV,↓xo,xw,ot (show(i:Int)<16 by omega),ot (lC hc.lt),zdH,zdF,zdI,hc.c,al,hc.S,ai,aV h0,zdK,aE hc.S,e1,hc.O,jW,hf h0,zdG,aE hc.O]
    exact ih (i+1) (by omega)
 have:=key 16 0 (by omega)
 simp only[fw,V.e,xl];change ag (bV WX) ((v.c,0,()),v.S,v.F,v.O,())=_ at this;simp only[this,zdF]
theorem QJ (h:Fit v):cd WX (((),()),v.e)=some ((),v.e):=by
 have h1:=Tl h;have h2:ag (cW WX) (((),(-1),()),v.e)=some ((),v.e):=by
  rw[aq];simp only[cW,↓xo,aV (show¬(-1:Int)>=0 by omega),zdG]
 simp only[cd,h1,zdF,xl,h2]
end
theorem jY {i n:Nat}(h:i<n)(hn:n<=1000000):IntKind.wrap .i64 ((i:Int)+1)=((i+1:Nat):Int):=by rw[nL (by omega) (by omega)];omega
theorem Hb {L:List (List Int)}{i:Nat}{x:List Int}(h:L[i]?=some x):(L.take (i+1)).flatten=(L.take i).flatten++x:=by
 have hi:i<L.length:=(List.getElem?_eq_some_iff.1 h).1;rw[zfd,h];simp
theorem OP {L:List (List Int)}(i:Nat):(L.take i).flatten.length<=L.flatten.length:=by
 conv=>rhs;rw[<-zeY i L,List.flatten_append,zdP]
 omega
theorem Hc (L:List (List Int))(h:L.flatten.length<=1000000000000)(hn:L.length<=1000000):ag (bO WX) ((L,0,L,(L.length:Int),0,()),())=some ((L,(L.flatten.length:Int),()),()):=by
 have key: ∀m i:Nat,i+m=L.length->ag (bO WX) ((L,((L.take i).flatten.length:Int),L,(L.length:Int),(i:Int),()),())=some ((L,(L.flatten.length:Int),()),()):=by
  intro m;induction m with
  |zero=>
   intro i hi;rw[aq];have:i=L.length:=by omega
   subst this;simp only[bO,↓xo,aV (show¬(L.length:Int)<(L.length:Int) by omega),zdG,zeX]
  |succ m ih=>
   intro i hi;have nM:i<L.length:=by omega
   have hx:=zdL nM;generalize L[i]=x at hx;have hf:=Hb hx;have hle:=OP (L:=L) (i+1);rw[hf,zdP] at hle;rw[aq];have e1:IntKind.wrap .i64 (((L.take i).flatten.length:Int)+(x.length:Int))=((L.take (i+1)).flatten.length:Int):=by
    rw[nL (by omega) (by omega),hf,zdP];omega
   simp only[bO,↓xo,xw,ot (show(i:Int)<(L.length:Int) by omega),ot (show(0:Int)<=(i:Int) by omega),zdH,zdI,hx,zdF,e1,aV (show¬((L.take (i+1)).flatten.length:Int)<0 by omega),zdG,jY nM hn]
   exact ih (i+1) (by omega)
 exact key L.length 0 (by omega)
theorem M4 (L:List (List Int))(hn:L.length<=1000000):ag (bE WX) ((0,L,(L.length:Int),0,()),(List.replicate L.flatten.length (0:Int),()))=some ((L.flatten.length,()),(L.flatten,())):=by
 have key: ∀m i:Nat,i+m=L.length->ag (bE WX) (((L.take i).flatten.length,L,(L.length:Int),(i:Int),()),((L.take i).flatten++List.replicate (L.flatten.length-(L.take i).flatten.length) (0:Int),()))=some ((L.flatten.length,()),(L.flatten,())):=by
  intro m;induction m with
  |zero=>
   intro i hi;rw[aq];have:i=L.length:=by omega
   subst this;simp only[bE,↓xo,aV (show¬(L.length:Int)<(L.length:Int) by omega),zdG,zeX,Nat.sub_self,zeU,ze7]
  |succ m ih=>
   intro i hi;have nM:i<L.length:=by omega
   have hx:=zdL nM;generalize L[i]=x at hx;have hf:=Hb hx;have hle:=OP (L:=L) (i+1);rw[hf,zdP] at hle;rw[aq];have e2:((L.take i).flatten++List.replicate (L.flatten.length-(L.take i).flatten.length) (0:Int)).take (0+(L.take i).flatten.length)++x++((L.take i).flatten++List.replicate (L.flatten.length-(L.take i).flatten.length) (0:Int)).drop (0+(L.take i).flatten.length+x.length)=(L.take (i+1)).flatten++List.replicate (L.flatten.length-(L.take (i+1)).flatten.length) (0:Int):=by
    rw[zev,List.take_left,List.drop_append,zfb (by omega),zeG,List.drop_replicate,hf,zdP]
    congr 2
    omega
   simp only[bE,↓xo,xw,ot (show(i:Int)<(L.length:Int) by omega),ot (show(0:Int)<=(i:Int) by omega),zdH,zdI,hx,zdF,
    ot (show 0+(L.take i).flatten.length+x.length<=((L.take i).flatten++List.replicate (L.flatten.length-(L.take i).flatten.length) (0:Int)).length by rw[zdP,zez];omega),e2,jY nM hn]
   have:=ih (i+1) (by omega)
   rw[hf,zdP] at this⊢;exact this
 have:=key L.length 0 (by omega)
 simpa using this
theorem Ku (L:List (List Int))(hf:L.flatten=[])(hn:L.length<=1000000):ag (bz WX) (((),L,(L.length:Int),0,()),(([]:List Int),()))=some (((),()),([],())):=by
 have key: ∀m i:Nat,i+m=L.length->ag (bz WX) (((),L,(L.length:Int),(i:Int),()),(([]:List Int),()))=some (((),()),([],())):=by
  intro m;induction m with
  |zero=>
   intro i hi;rw[aq];have:i=L.length:=by omega
   subst this;simp only[bz,↓xo,aV (show¬(L.length:Int)<(L.length:Int) by omega),zdG]
  |succ m ih=>
   intro i hi;have nM:i<L.length:=by omega
   have hx:=zdL nM;have hm:=zeT nM;have h0:L[i]=[]:=List.flatten_eq_nil_iff.1 hf _ hm;rw[h0] at hx;rw[aq];simp only[bz,↓xo,xw,ot (show(i:Int)<(L.length:Int) by omega),ot (show(0:Int)<=(i:Int) by omega),zdH,zdI,hx,zdF,ze7,zdR,jY nM hn,
    ot (show(((0+0:Nat):Int))*((1:Nat):Int)<=((room:Nat):Int) by unfold room;omega)]
   exact ih (i+1) (by omega)
 exact key L.length 0 (by omega)
theorem concat_nil (L:List (List Int))(hf:L.flatten=[])(hn:L.length<=1000000):aw WX ((L,()),())=some (.inr (((),()),([],()))):=by
 have h3:=Hc L (by rw[hf];simp) hn
 have hb:=Ku L hf hn;rw[hf] at h3;change _=some ((L,0,()),()) at h3;have hg:fA WX (((),0,()),())=some (.inr (((),()),[],())):=by kernel_rfl
 simp only[aw,xl,h3,zdF,hg,hb]
theorem wb (L:List (List Int))(hf:L.flatten≠ [])(h:L.flatten.length<=1000000000000)(hn:L.length<=1000000):aw WX ((L,()),())=some (.inl ((L.flatten.length,()),(L.flatten,()))):=by
 have h3:=Hc L h hn;have hb:=M4 L hn;have hp:0<L.flatten.length:=List.length_pos_iff.2 hf;generalize hN:L.flatten.length=n at*;have e0:IntKind.wrap .i64 ((n:Int)-IntKind.wrap .i64 (0-0))=(n:Int):=by
  rw[nL (n:=0-0) (by omega) (by omega),nL (by omega) (by omega)];omega
 simp only[aw,xl,h3,zdF,fA,↓xo,xw,e0,aV (show¬(n:Int)<0 by omega),zdG,ot (show(n:Int)>0 by omega),zdH,zdR,zfe,zeG,zez,zdI,and_self,iX]
 have e1:af ((0:Int)=0/\(0:Int)=0)=true:=ot (by decide)
 have e2:af ((0:Int)<=(n:Int)/\(0+(n:Int))*((1:Nat):Int)<=((room:Nat):Int))=true:=ot (by unfold room;omega)
 have e3:af ((0:Int)<=0/\(0:Int)<=0/\(0:Int)<=(n:Int))=true:=ot (by omega)
 have e4:((0:Int)-(0:Int)).toNat=0:=rfl;simp only[e1,e2,e3,zdH,zdF,e4,hb]
theorem Gs (L:List (List Int))(h:L.flatten.length<=1000000000000)(hn:L.length<=1000000):aw WX ((L,()),())=some (.inr (((),()),([],())))/\L.flatten=[]\/aw WX ((L,()),())=some (.inl ((L.flatten.length,()),(L.flatten,()))):=by
 by_cases hf:L.flatten=[]
 ·exact .inl ⟨concat_nil L hf hn,hf⟩
 ·exact .inr (wb L hf h hn)
theorem E3 (b:List Int)(h:b.length<=1000000000000):bG WX ((b,()),())=some (((),()),(b,())):=by
 have hr:af ((((([]:List Int).length+b.length:Nat):Int))*((1:Nat):Int)<=((room:Nat):Int))=true:=ot (by unfold room;simp only[zdR];omega)
 by_cases h0:b=[]
 ·subst h0
  show some (((),()),([],()))=_
  rfl
 ·have: ¬(b.length:Int)=0:=λe=>h0 (zef (by omega))
  simp only[bG,↓xo,aV this,zdG,hr,zdH,zeG]
def CG:Option (((List Int)×Unit)×Unit)->Bool|some ((l,_),_)=>Nat.beq l.length 32|none=>false
theorem mL (xs:List Int){n:Nat}(h:xs.length=n): ∃f:Nat->Int,xs=(List.range n).map f:=by
 refine⟨λi=>xs.getD i 0,?_⟩;apply List.ext_getElem?;intro i;by_cases hi:i<n
 ·have hx:i<xs.length:=by omega
  simp[hi,zdL hx]
 ·rw[List.getElem?_eq_none (by omega),List.getElem?_eq_none (by simp;omega)]
theorem E4 {r:Option (((List Int)×Unit)×Unit)}(h:CG r=true): ∃ys:List Int,r=some ((ys,()),())/\ys.length=32:=by
 match r with
 |none=>cases h
 |some ((l,()),())=>exact⟨l,rfl,zff h⟩
def vw (t:Int):mZ:=(1,0,t,0,0,0,0,0,0,0,0,0,0,0,hY,())
def sy (tag:List Int):mZ:=(2,0,0,0,0,0,0,0,0,0,0,0,0,0,tag,())
theorem IX:((ia WX ((vw 2,()),())).bind λr1=>gA WX (r1.2,()))=some (((),()),([0,2,1,2],())):=by kernel_rfl
theorem IY:((ia WX ((vw 4,()),())).bind λr1=>gA WX (r1.2,()))=some (((),()),([0,2,1,4],())):=by kernel_rfl
theorem Kv:cf WX (((),[0,2,1,2],()),(([],false,()),()))=some (.inr (([[1,2]],()),(([],false,()),()))):=by kernel_rfl
theorem Kw:cf WX (((),[0,2,1,4],()),(([],false,()),()))=some (.inr (([[1,4]],()),(([],false,()),()))):=by kernel_rfl
theorem M5:fD WX (([1,2],()),())=some ((vw 2,true,()),()):=by kernel_rfl
theorem M6:fD WX (([1,4],()),())=some ((vw 4,true,()),()):=by kernel_rfl
theorem M7: ∀f:Nat->Int,((ia WX ((sy ((List.range 32).map f),()),())).bind λr1=>gA WX (r1.2,()))=some (((),()),([0,33,2]++(List.range 32).map f,())):=λf=>by kernel_rfl
theorem QK: ∀f:Nat->Int,cf WX (((),[0,33,2]++(List.range 32).map f,()),(([],false,()),()))=some (.inr (([[2]++(List.range 32).map f],()),(([],false,()),()))):=λf=>by kernel_rfl
theorem Tm: ∀f:Nat->Int,fD WX (([2]++(List.range 32).map f,()),())=some ((sy ((List.range 32).map f),true,()),()):=λf=>by kernel_rfl
theorem M8:(((List.replicate 32 (0:Int)).zip (List.replicate 32 (0:Int))).all λp=>WX.zm (.int .u8) p.1 p.2)=true:=by kernel_rfl
theorem qE (a:Int):WX.aj a a=true:=decide_eq_true rfl
section
variable {v:V}
structure Tr (v:V)(n:Nat)(x:pv):Prop where
 lt:n<32
 tr:v.tr[n]?=some x
 Ye:x.2.2.1≠0
theorem qX {n:Nat}(h:n<32):0<=(n:Int)/\(n:Int)<(32:Nat):=by omega
theorem E5 {n:Nat}{x:pv}(h:Tr v n x):bK WX (((),(n:Int),()),((v.tr,()),()))=some ((true,()),((v.tr,()),())):=by
 have hl:=h.lt;simp only[bK,iD,↓xo,ot (show(n:Int)>=0 by omega),ot (show(n:Int)<=31 by omega),ot (qX hl),zdH,zdF,zdI,h.tr,aV h.Ye,zdK]
theorem BT {n:Nat}{x:pv}(h:Tr v n x):bF WX (((),(n:Int),()),((v.tr,()),()))=some ((x,()),((v.tr,()),())):=by
 simp only[bF,E5 h,zdF,zdJ,zdG,↓xo,ot (qX h.lt),zdH,zdI,h.tr]
structure Lk (v:V)(n p:Nat)(k:xm):Prop where
 lt:n<32
 lp:v.lp[n]?=some (p+1)
 L:v.L[p]?=some (k,())
def oK (k:xm)(now:Int):Bool:=decide (k.2.2.1>=k.1/\now<k.2.2.2.1)
theorem qP (k:xm)(now:Int):fQ WX (((),now,()),(k,()))=some ((oK k now,()),(k,())):=by
 unfold oK;by_cases h:k.2.2.1>=k.1
 ·by_cases h2:now<k.2.2.2.1
  ·simp only[fQ,↓xo,ot h,zdH,ot h2]
   rw[decide_eq_true ⟨h,h2⟩]
  ·simp only[fQ,↓xo,ot h,zdH,aV h2]
   rw[decide_eq_false (λq=>h2 q.2)]
 ·simp only[fQ,↓xo,aV h,zdG]
  rw[decide_eq_false (λq=>h q.1)]
theorem Hd {n p:Nat}{k:xm}(h:Lk v n p k):dD WX (((),(n:Int),()),v.s)=some ((oK k v.now,()),v.s):=by
 have hl:=h.lt;simp only[dD,kO,V.s,↓xo,ot (show(n:Int)>=0 by omega),ot (show(n:Int)<32 by omega),ot (qX hl),zdH,zdF,zdI,h.lp,al,h.L,qP,aE h.L]
def failed (k:xm)(now:Int):xm:=if oK k now then k else
 let w:=if k.2.2.1>=k.1 then 1 else i64.wrap (k.2.2.1+1)
 (k.1,k.2.1,w,(if w=k.1 then i64.wrap (now+k.2.1) else k.2.2.2.1),())
theorem QL (k:xm)(now:Int):fR WX (((),now,()),(k,()))=some ((),(failed k now,())):=by
 obtain⟨t,l,w,u,_⟩:=k;have e1:i64.wrap (0+1)=1:=by rw[nL (by omega) (by omega)];rfl
 unfold failed;cases hk:oK (t,l,w,u,()) now with
 |true=>simp only[fR,qP,hk,zdF,zdH,if_true]
 |false=>
  by_cases h:w>=t
  ·by_cases h2:(1:Int)=t
   ·simp only[fR,qP,hk,zdF,zdG,↓xo,xw,ot h,zdH,e1,ot h2,zdN,if_false,if_pos h,if_pos h2]
   ·simp only[fR,qP,hk,zdF,zdG,↓xo,xw,ot h,zdH,e1,aV h2,zdN,if_false,if_pos h,if_neg h2]
  ·by_cases h2:i64.wrap (w+1)=t
   ·simp only[fR,qP,hk,zdF,zdG,↓xo,xw,aV h,zdH,ot h2,zdN,if_false,if_neg h,if_pos h2]
   ·simp only[fR,qP,hk,zdF,zdG,↓xo,xw,aV h,aV h2,zdN,if_false,if_neg h,if_neg h2]
theorem Wm {n:Nat}{x:pv}(h:Tr v n x)(k:Int)(hk:k=3\/k=4\/k=5):dL WX (((),(k,0,(n:Int),C0,()),()),v.s)=some ((true,()),v.s):=by
 have e1: ¬k=1:=by omega
 have e2: ¬k=2:=by omega
 simp only[dL,V.s,↓xo,aV e1,zdG,eq_self,iX,zdJ,E5 h,zdF,aV e2,ot (show k>=1 by omega),ot (show k<=5 by omega),zdH,qE,M8,ze2]
theorem QM (n:Int)(h1:1<=n)(h2:n<=1099511627776-v.now)(h3:0<=v.now)(h4:v.now<=1099511627776):dL WX (((),(1,n,0,C0,()),()),v.s)=some ((true,()),v.s):=by
 have e:i64.wrap (1099511627776-v.now)=1099511627776-v.now:=nL (by omega) (by omega)
 simp only[dL,V.s,↓xo,xw,eq_self,iX,zdH,ot (show n>=1 by omega),e,ot h2,qE,M8,ze2]
theorem Tn {n p:Nat}{x:pv}{k:xm}(h:Tr v n x)(hk:Lk v n p k)(hn:oK k v.now=false):cj WX (((),(4,0,(n:Int),C0,()),()),v.s)=some (.inl (((),0,()),(v.cfg,v.now,(),v.ph,v.mp,(),v.bp,v.lp,()),(v.tr,()),(v.op,v.ps,()),[],v.M,v.L.set p ((k.1,k.2.1,0,0,()),()),v.B,())):=by
 have hf:=Wm h 4 (.inr (.inl rfl));have hl:=Hd hk;have e1: ¬(4:Int)=1:=by omega
 have e2: ¬(4:Int)=3:=by omega
 simp only[cj,hf,zdF,zdJ,zdG,↓xo,aV e1,aV e2,eq_self,iX,zdH,hl,hn,ot (qX h.lt)];simp only[V.s,zdI,hk.lp,zdF,al,hk.L,gM]
theorem Wn (n:Int)(h1:1<=n)(h2:n<=1099511627776-v.now)(h3:0<=v.now)(h4:v.now<=1099511627776):cj WX (((),(1,n,0,C0,()),()),v.s)=some (.inl (((),0,()),(v.cfg,v.now+n,(),v.ph,v.mp,(),v.bp,v.lp,()),(v.tr,()),(v.op,v.ps,()),[],v.M,v.L,v.B,())):=by
 have hf:=QM n h1 h2 h3 h4;have e:i64.wrap (v.now+n)=v.now+n:=nL (by omega) (by omega)
 simp only[cj,hf,zdF,zdJ,zdG,↓xo,xw,eq_self,iX,zdH];simp only[V.s,e]
end
theorem OQ {k n:Int}(hk:k=3\/k=4\/k=5)(h0:0<=n)(h1:n<32):gN WX (((k,0,n,C0,()),()),())=some ((true,()),()):=by
 have e1: ¬k=1:=by omega
 have e2: ¬k=2:=by omega
 rcases hk with rfl|rfl|rfl
 ·simp only[gN,↓xo,ot (show n>=0 by omega),aV e1,aV e2,eq_self,iX,ot h1,zdH,zdG,qE,M8,ze2]
 ·have e3: ¬(4:Int)=3:=by omega
  simp only[gN,↓xo,ot (show n>=0 by omega),aV e1,aV e2,aV e3,eq_self,iX,ot h1,zdH,zdG,qE,M8,ze2]
 ·have e3: ¬(5:Int)=3:=by omega
  have e4: ¬(5:Int)=4:=by omega
  simp only[gN,↓xo,ot (show n>=0 by omega),aV e1,aV e2,aV e3,aV e4,eq_self,iX,ot h1,zdH,zdG,qE,M8,ze2]
theorem Wo {n:Int}(h0:1<=n)(h1:n<=1099511627776):gN WX (((1,n,0,C0,()),()),())=some ((true,()),()):=by
 have e0:((0:Int)>=0):=by omega
 simp only[gN,↓xo,ot e0,ot (show n>0 by omega),ot h1,eq_self,iX,zdH,qE,M8,ze2]
theorem Wp (k N n:Int): ∃bs:List Int,iz WX (((k,N,n,C0,()),()),())=some (((),()),(bs,()))/\bs.length=10:=by
 have h:(match iz WX (((k,N,n,C0,()),()),()) with|some (_,(bs,_))=>Nat.beq bs.length 10|none=>false)=true:=by kernel_rfl
 revert h;match iz WX (((k,N,n,C0,()),()),()) with
 |none=>intro h;cases h
 |some (((),()),(bs,()))=>intro h;exact⟨bs,rfl,zff h⟩
theorem zbZ: ∀f g:Nat->Int,CG (jB WX (((List.range 32).map f,(List.range 10).map g,()),()))=true:=λf g=>by kernel_rfl
theorem Wq {a b:List Int}(ha:a.length=32)(hb:b.length=10): ∃c:List Int,jB WX ((a,b,()),())=some ((c,()),())/\c.length=32:=by
 obtain⟨f,rfl⟩:=mL a ha;obtain⟨g,rfl⟩:=mL b hb;exact E4 (zbZ f g)
theorem Z1: ∃u:List Int,lH WX (([],WX.wr .u32 10,()),())=some (((),()),(u,()))/\u.length=4:=by
 have h:(match lH WX (([],WX.wr .u32 10,()),()) with|some (_,(bs,_))=>Nat.beq bs.length 4|none=>false)=true:=by kernel_rfl
 revert h;match lH WX (([],WX.wr .u32 10,()),()) with
 |none=>intro h;cases h
 |some (((),()),(bs,()))=>intro h;exact⟨bs,rfl,zff h⟩
def zj (lg:IG)(n:Nat):Prop:=lg.1.length=n/\lg.2.1.length=32
theorem IZ {lg:IG}{m:Nat}{k N n:Int}(h:zj lg m)(hm:m<=100000000000)(hr:gN WX (((k,N,n,C0,()),()),())=some ((true,()),())):
  ∃xn,gy WX (((),(k,N,n,C0,()),()),(lg,()))=some ((true,()),(xn,()))/\zj xn (m+46):=by
 obtain⟨b,c,ct,u⟩:=lg;obtain⟨hb,hc⟩:=h;simp only at hb hc;obtain⟨bs,h1,h2⟩:=Wp k N n;obtain⟨c',h3,h4⟩:=Wq hc h2;obtain⟨w,h5,h6⟩:=Z1;have e0:(0:Int)<=0/\(0:Int)<=((32:Nat):Int)/\((32:Nat):Int)<=(32:Nat):=by omega
 have e1:((bs.length:Nat):Int)=10:=by omega
 have e2:(c'.drop 0).take ((((32:Nat):Int)-(0:Int)).toNat)=c':=by
  rw[zfg,zeg];rw[h4];decide
 have hf: [b,w,bs,c'].flatten.length=b.length+46:=by simp;omega
 have hc:=wb [b,w,bs,c'] (λe=>by rw[e] at hf;simp at hf) (by omega) (by simp)
 simp only[gy,hr,zdF,zdJ,zdG,h1,h3,e1,h5,↓xo,ot e0,zdH,e2,hc,zeX];exact⟨_,rfl,by rw[hf];omega,h4⟩
theorem tX {mt:List Lt}(h:mt.length=4){i:Nat}(hi:i<4): ∃rF r,aR WX (((),(i:Int),1,()),((mt,()),()))=some ((r,()),((rF,()),()))/\rF.length=4:=by
 have hx:=zdL (l:=mt) (i:=i) (by omega)
 have e1: ¬(1:Int)<0:=by omega
 have e2: ¬(1:Int)>4294967296:=by omega
 simp only[aR,↓xo,aV (show¬(i:Int)<0 by omega),aV (show¬(i:Int)>=4 by omega),aV e1,aV e2,zdG,ot (show 0<=(i:Int)/\(i:Int)<(4:Nat) by omega),zdH,zdI,hx,zdF]
 exact⟨_,_,rfl,by rw[zej];exact h⟩
def NB (n:mq)(bs:List Int):Prop:=(∃x,mT WX ((n,()),())=some (.inl x)/\gA WX (x.2,())=some (((),()),(bs,())))\/(∃x,mT WX ((n,()),())=some (.inr x)/\gA WX x=some (((),()),(bs,())))
noncomputable def nbF (n:mq):Option (List Int):=(mT WX ((n,()),())).bind λr=>match r with| .inl x=>(gA WX (x.2,())).map (·.2.1)| .inr x=>(gA WX x).map (·.2.1)
theorem CH {n:mq}{k:Nat}(h:((nbF n).map λl=>Nat.beq l.length k)=some true): ∃bs,NB n bs/\bs.length=k:=by
 unfold nbF at h;cases e:mT WX ((n,()),()) with
 |none=>rw[e] at h;cases h
 |some r=>
  rw[e] at h;cases r with
  |inl x=>
   simp only[zdF] at h;cases e2:gA WX (x.2,()) with
   |none=>rw[e2] at h;cases h
   |some y=>
    rw[e2] at h;obtain⟨⟨⟨⟩,⟨⟩⟩,bs,⟨⟩⟩:=y;simp only[zdV,zdM] at h;exact⟨bs, .inl ⟨x,e,e2⟩,zff h⟩
  |inr x=>
   simp only[zdF] at h;cases e2:gA WX x with
   |none=>rw[e2] at h;cases h
   |some y=>
    rw[e2] at h;obtain⟨⟨⟨⟩,⟨⟩⟩,bs,⟨⟩⟩:=y;simp only[zdV,zdM] at h;exact⟨bs, .inr ⟨x,e,e2⟩,zff h⟩
theorem AU {nc:List Int}(h:nc.length=32): ∃bs,NB (1,0,0,0,0,0,0,0,0,0,nc,()) bs/\bs.length=35:=by
 obtain⟨f,rfl⟩:=mL nc h;have: ∀f:Nat->Int,((nbF (1,0,0,0,0,0,0,0,0,0,(List.range 32).map f,())).map λl=>Nat.beq l.length 35)=some true:=λf=>by kernel_rfl
 exact CH (this f)
theorem QN (er sq:Int): ∃bs,NB (4,er,sq,0,0,0,0,0,0,0,hY,()) bs/\bs.length=8:=CH (by kernel_rfl)
theorem E6: ∃bs,NB (2,0,0,0,0,0,0,0,0,0,hY,()) bs/\bs.length=3:=CH (by kernel_rfl)
theorem Z2 (sq:Int): ∃bs,NB (3,0,sq,0,0,0,0,0,0,0,hY,()) bs/\bs.length=7:=CH (by kernel_rfl)
section
variable {v:V}{i f o:Nat}{s:xy}{fr:(List Int)×Bool×Unit}{ob:List Int}
theorem Wr {bs:List Int}(hp:bs≠ [])(h:ob.length+bs.length<=4096):gT WX (((),bs,()),((ob,false,()),()))=some ((true,()),((ob++bs,false,()),())):=by
 have e:i64.wrap (4096-(ob.length:Int))=4096-(ob.length:Int):=nL (by omega) (by omega)
 have vP: [ob,bs].flatten=ob++bs:=by simp
 have hc:=wb [ob,bs] (by rw[vP];simp[hp]) (by rw[vP,zdP];omega) (by simp)
 simp only[gT,zdG,↓xo,xw,e,aV (show¬(bs.length:Int)>4096-(ob.length:Int) by omega),hc,zdF,vP,zeX]
theorem To (h:nz v i f o s fr (ob,false,())){n:mq}{bs:List Int}(hb:NB n bs)(hp:bs≠ [])(hl:ob.length+bs.length<=4096):
  bZ WX (((),(i:Int),n,()),v.e)=some ((),{v with O:=v.O.set o ((ob++bs,false,()),())}.e):=by
 have hpu:=Wr hp hl;rcases hb with⟨x,h1,h2⟩|⟨x,h1,h2⟩
 ·simp only[bZ,V.e,↓xo,ot (lC h.lt),zdH,zdI,h.c,zdF,h1,h2,al,h.O,hpu]
 ·simp only[bZ,V.e,↓xo,ot (lC h.lt),zdH,zdI,h.c,zdF,h1,h2,al,h.O,hpu]
end
section
variable {v:V}
theorem Tp {r:II}{er E7:Int}{L':List tn}{xn:IG}{rF:List Lt}{b c}
  (h1:cj WX (((),r,()),v.s)=some (.inl (((),er,()),(v.cfg,E7,(),v.ph,v.mp,(),v.bp,v.lp,()),(v.tr,()),(v.op,v.ps,()),[],v.M,L',v.B,())))
  (h2:gy WX (((),r,()),(v.lg,()))=some (b,(xn,()))) (h3:aR WX (((),1,1,()),((v.mt,()),()))=some (c,((rF,()),()))):
  bR WX (((),r,()),v.e)=some ((er,()),{v with now:=E7,L:=L',lg:=xn,mt:=rF}.e):=by
 have hl: ∀X,ag (bS WX) (((),er,[],0,0,()),X)=some ((er,()),X):=λX=>by
  have e0: ¬(0:Int)<0:=by omega
  rw[aq];simp only[bS,↓xo,aV e0,zdG]
 simp only[V.s] at h1;simp only[bR,V.e,h1,h2,h3,zdF,↓xl,zdR,zfe,hl]
def Tq (v:V)(n:Nat)(x:pv):Prop:= ∀i,i<16->∃f o s fr ou,nz v i f o s fr ou/\(s.1=3->∃(m:Nat) (y:pv),s.2.1=(m:Int)/\m≠n/\Tr v m y/\y.1≠x.1)
theorem Z3 {n p:Nat}{x:pv}{k:xm}(h:Tr v n x)(hk:Lk v n p k)(hl:oK k v.now=false)(nJ:x.2.2.2.2.1=false)(ha:Tq v n x)(hq:1<=v.cfg.2.2.2.2.2.2.2.1):eY WX (((),(n:Int),()),v.e)=some ((0,()),v.e):=by
 have h1:=E5 h;have h2:=Hd hk;have h3:=BT h;simp only[V.s] at h2;have key: ∀m i:Nat,i+m=16->ag (bA WX) (((),(n:Int),(),0,v.c,(i:Int),()),v.e)=some (.inr (((),0,()),v.e)):=by
  intro m;induction m with
  |zero=>
   intro i hi;rw[aq];simp only[bA,↓xo,aV (show¬(i:Int)<16 by omega),zdG]
  |succ m ih=>
   intro i hi;obtain⟨f,o,s,fr,ou,hc,hf⟩:=ha i (by omega)
   rw[aq];have e1:i64.wrap ((i:Int)+1)=((i+1:Nat):Int):=by rw[nL (by omega) (by omega)];omega
   have qV:=ih (i+1) (by omega)
   simp only[V.e] at qV;by_cases h0:s.1=3
   ·obtain⟨m',y,g1,g2,g3,g4⟩:=hf h0
    have e2: ¬s.1=2:=by omega
    have e3: ¬(m':Int)=(n:Int):=by omega
    have h4:=BT g3;simp only[bA,V.e,↓xo,xw,ot (show(i:Int)<16 by omega),ot (lC hc.lt),zdH,zdF,zdI,hc.c,al,hc.S,ai,ot h0,zdJ,zdG,aE hc.S,e1,ay,aV e2,g1,aV e3,h3,h4,aV g4,qV]
   ·simp only[bA,V.e,↓xo,xw,ot (show(i:Int)<16 by omega),ot (lC hc.lt),zdH,zdF,zdI,hc.c,al,hc.S,ai,aV h0,zdK,aE hc.S,e1,qV]
 have Kx:=key 16 0 (by omega)
 simp only[V.e] at Kx;change ag (bA WX) (((),(n:Int),(),0,v.c,0,()),_)=_ at Kx;simp only[eY,V.e,da,zdF,h1,zdJ,zdG,h2,hl,h3,nJ,↓xl,Kx,dY,↓xo,aV (show¬(0:Int)>=v.cfg.2.2.2.2.2.2.2.1 by omega)]
variable {i f o:Nat}{s:xy}{fr:(List Int)×Bool×Unit}{ou:(List Int)×Bool×Unit}{ob:List Int}
def s0:xy:=(0,0,hY,0,0,())
theorem Z4 (h:nz v i f o s fr ou)(hm:v.mt.length=4):
  ∃rF,bH WX (((),(i:Int),()),v.e)=some ((),{v with c:=v.c.set i (i+1,v.F.length+1,o+1,()),mt:=rF,S:=v.S.set i (s0,()),F:=v.F++ [(([],false,()),())]}.e)/\rF.length=4:=by
 obtain⟨rF,r,h3,h4⟩:=tX hm (i:=3) (by omega)
 change aR WX (((),3,1,()),_)=_ at h3;refine⟨rF,?_,h4⟩;simp only[bH,V.e,↓xo,ot (lC h.lt),zdH,zdI,h.c,zdF,al,h.S,cD,ir,h3,s0]
end
def Ts (key rG tag:List Int):Prop:= ∃r1 r2,ny WX ((key,()),())=some r1/\ed WX (((),rG,()),r1.2)=some r2/\r2.1=(tag,())
noncomputable def zb0 (key rG:List Int):Option Bool:=(ny WX ((key,()),())).bind λr1=>(ed WX (((),rG,()),r1.2)).map λr2=>Nat.beq r2.1.1.length 32
theorem zc8: ∀f g:Nat->Int,zb0 ((List.range 32).map f) ((List.range 32).map g)=some true:=λf g=>by kernel_rfl
theorem M9 {key rG:List Int}(hk:key.length=32)(hn:rG.length=32): ∃tag,Ts key rG tag/\tag.length=32:=by
 obtain⟨f,rfl⟩:=mL key hk;obtain⟨g,rfl⟩:=mL rG hn;have h:=zc8 f g;unfold zb0 at h;cases e1:ny WX (((List.range 32).map f,()),()) with
 |none=>rw[e1] at h;cases h
 |some r1=>
  rw[e1,zdF] at h;cases e2:ed WX (((),(List.range 32).map g,()),r1.2) with
  |none=>rw[e2] at h;cases h
  |some r2=>
   rw[e2,zdV,zdM] at h;exact⟨r2.1.1,⟨r1,r2,e1,e2,rfl⟩,zff h⟩
def bv (x:Int):BitVec 8:=BitVec.ofInt 8 x
theorem wu8 (p:BitVec 8):IntKind.wrap .u8 (p.toNat:Int)=(p.toNat:Int):=by
 have:=p.isLt;rw[IntKind.wrap_u8];omega
theorem Na (p:BitVec 8):bv (p.toNat:Int)=p:=by
 unfold bv;apply BitVec.eq_of_toNat_eq;have:=p.isLt;rw[BitVec.toNat_ofInt];omega
theorem Tt (x y:Int):WX.pJ .u8 x y=(((bv x^^^bv y).toNat:Nat):Int):=wu8 _
theorem zb1 (p q:BitVec 8):WX.A7 .u8 (p.toNat:Int) (q.toNat:Int)=(((p|||q).toNat:Nat):Int):=by
 show IntKind.wrap .u8 ((((bv (p.toNat:Int))|||(bv (q.toNat:Int))).toNat:Nat):Int)=_
 rw[Na,Na,wu8]
theorem zM (a b:List Int)(ha:a.length=32)(hb:b.length=32): ∀n i:Nat,i+n=32->∀acc:BitVec 8,∃Dk:BitVec 8,ag (ib WX) (((),(),(acc.toNat:Int),(i:Int),()),a,b,())=some ((((Dk.toNat:Nat):Int),()),a,b,())/\(acc≠0#8->Dk≠0#8)/\
  (acc=0#8->(∀j,i<=j->a[j]?=b[j]?)->Dk=0#8)/\(∀x y,i<32->a[i]?=some x->b[i]?=some y->bv x^^^bv y≠0#8->Dk≠0#8):=by
 intro n;induction n with
 |zero=>
  intro i hi acc;refine⟨acc,?_,λh=>h,λh _=>h,λx y h=>by omega⟩
  rw[aq];simp only[ib,↓xo,aV (show¬(i:Int)<32 by omega),zdG]
 |succ n ih=>
  intro i hi acc;have hx:=zdL (l:=a) (i:=i) (by omega)
  have hy:=zdL (l:=b) (i:=i) (by omega)
  generalize a[i]=x at hx;generalize b[i]=y at hy;obtain⟨Dk,h1,h2,h3,h4⟩:=ih (i+1) (by omega) (acc|||(bv x^^^bv y))
  have e1:i64.wrap ((i:Int)+1)=((i+1:Nat):Int):=by rw[nL (by omega) (by omega)];omega
  refine⟨Dk,?_,λh=>h2 λe=>h (BitVec.or_eq_zero_iff.1 e).1,λh hj=>?_,λx' y' _ Cf hy' mb=>?_⟩
  ·rw[aq]
   simp only[ib,↓xo,xw,ot (show(i:Int)<32 by omega),ot (qX (show i<32 by omega)),zdH,zdI,hx,hy,zdF,Tt,zb1,e1]
   exact h1
  ·have:x=y:=by have:=hj i (zd2 _);rw[hx,hy] at this;simpa using this
   subst this;rw[h,BitVec.xor_self] at h3;exact h3 (by rfl) λj Ch=>hj j (by omega)
  ·rw[hx] at Cf;rw[hy] at hy'
   cases Cf;cases hy';exact h2 λe=>mb (BitVec.or_eq_zero_iff.1 e).2
theorem Nb {t:List Int}(h:t.length=32):kn WX ((t,t,()),())=some ((true,()),()):=by
 obtain⟨Dk,h1,_,h3,_⟩:=zM t t h h 32 0 (by omega) 0#8
 have:=h3 rfl λ_ _=>rfl;subst this;change ag (ib WX) (((),(),0,0,()),t,t,())=some ((0,()),t,t,()) at h1;simp only[kn,↓xl,h1,zdF,↓xo,eq_self,iX]
theorem Nd {t:List Int}{x:Int}(h:t.length=32)(hx:t[0]?=some x):kn WX ((t.set 0 (WX.pJ .u8 x 1),t,()),())=some ((false,()),()):=by
 obtain⟨Dk,h1,_,_,h4⟩:=zM (t.set 0 (WX.pJ .u8 x 1)) t (by rw[zej];exact h) h 32 0 (by omega) 0#8
 have:=h4 (WX.pJ .u8 x 1) x (by omega) (by rw[zfc];simp[h]) hx (by
  rw[Tt,Na];have:bv 1=1#8:=by decide
  rw[this,BitVec.xor_comm (bv x) 1#8,BitVec.xor_assoc,BitVec.xor_self,BitVec.xor_zero];decide)
 change ag (ib WX) (((),(),0,0,()),_,_,())=_ at h1;have mb: ¬(((Dk.toNat:Nat):Int))=0:=λe=>this (BitVec.eq_of_toNat_eq (by
  have:Dk.toNat=0:=by omega
  rw[this];rfl))
 simp only[kn,↓xl,h1,zdF,↓xo,aV mb]
theorem pG {l:List Int}(h:l.length=32):(l.drop 0).take ((((32:Nat):Int)-(0:Int)).toNat)=l:=by
 rw[zfg,zeg];rw[h];decide
theorem Tu {key rG tag Gt:List Int}{b:Bool}(hk:key.length=32)(hn:rG.length=32)(hm:Ts key rG tag)(he:kn WX ((Gt,tag,()),())=some ((b,()),()))(tr nx sn now:Int):
  eB WX (((),key,Gt,now,()),((2,tr,rG,nx,sn,()),()))=some ((b,()),((if b then(3,tr,hY,1,now,()) else s0),())):=by
 obtain⟨r1,r2,h1,h2,h3⟩:=hm;have e0:(0:Int)<=0/\(0:Int)<=((32:Nat):Int)/\((32:Nat):Int)<=(32:Nat):=by omega
 cases b with
 |true=>simp only[eB,↓xo,eq_self,iX,zdJ,zdG,ot e0,zdH,pG hk,pG hn,h1,h2,h3,he,zdF,if_true]
 |false=>simp only[eB,↓xo,eq_self,iX,zdJ,zdK,zdG,ot e0,zdH,pG hk,pG hn,h1,h2,h3,he,zdF,cD,zdN,if_false,s0]
section
variable {v:V}{i f o:Nat}{s:xy}{fr ou:(List Int)×Bool×Unit}
theorem He (h:nz v i f o s fr ou)(hs:s.1≠0){bs x:List Int}{wU:(List Int)×Bool×Unit}(hf:cf WX (((),bs,()),(fr,()))=some (.inr (([x],()),(wU,()))))(hm:v.mt.length=4)
  {Q:V->Prop} (hb: ∀rF,rF.length=4->∃v2,db WX (((),(i:Int),x,()),{v with F:=v.F.set f (wU,()),mt:=rF}.e)=some ((),v2.e)/\Fit v2/\(∃f2 o2 s2 Vd Ws,nz v2 i f2 o2 s2 Vd Ws/\Vd.2.1=false)/\Q v2):
  ∃v2,cQ WX (((),(i:Int),bs,()),v.e)=some ((),v2.e)/\Q v2:=by
 obtain⟨rF,r,h3,h4⟩:=tX hm (i:=0) (by omega)
 change aR WX (((),0,1,()),_)=_ at h3;obtain⟨v2,b1,b2,⟨f2,o2,s2,Vd,Ws,b3,b4⟩,b5⟩:=hb rF h4;refine⟨v2,?_,b5⟩;have I0:nz {v with F:=v.F.set f (wU,())} i f o s wU ou:=⟨h.lt,h.c,h.S,by
  have:=(List.getElem?_eq_some_iff.1 h.F).1;show(v.F.set f (wU,()))[f]?=_
  rw[zfc];simp[this],h.O⟩
 have hA:=M3 I0;have hS:=QJ b2;have e0:(0:Int)<1:=by omega
 have e1:(0:Int)<=0:=by omega
 have e2:i64.wrap (0+1)=1:=by rw[nL (by omega) (by omega)];rfl
 have e3: ¬(1:Int)<1:=by omega
 have e4:([x]:List (List Int))[(0:Int).toNat]?=some x:=rfl;simp only[V.e] at hA b1 hS h3;have hl:ag (bM WX) (((),(i:Int),[x],1,0,()),{v with F:=v.F.set f (wU,())}.e)=some (((),(i:Int),()),v2.e):=by
  rw[aq];simp only[bM,V.e,↓xo,xw,ot e0,ot e1,zdH,e4,zdF,hA,aV hs,zdG,h3,b1,hS,e2];rw[aq];simp only[bM,↓xo,aV e3,zdG]
 simp only[V.e] at hl;simp only[cQ,V.e,↓xo,ot (lC h.lt),zdH,zdI,h.c,zdF,al,h.F,hf,zdQ,zdR,zev,Int.natCast_one,↓xl,hl,b3.c,b3.F,eL,b4,zdG,aE b3.F]
theorem Ky (h:nz v i f o s fr ou)(hs:s.1≠0){bs:List Int}{Q:V->Prop}(hb: ∃v2,cQ WX (((),(i:Int),bs,()),v.e)=some ((),v2.e)/\Q v2):
  ∃v2,aB WX (((),(2,(i:Int),0,hY,bs,()),()),v.e)=some ((true,()),v2.e)/\Q v2:=by
 obtain⟨v2,b1,b2⟩:=hb;refine⟨v2,?_,b2⟩;have hl:=h.lt;have e1: ¬(2:Int)=4:=by omega
 have e2: ¬(2:Int)=1:=by omega
 simp only[V.e] at b1;simp only[aB,fF,V.e,↓xo,aV e1,aV e2,zdG,ot (show(i:Int)>=0 by omega),ot (show(i:Int)<16 by omega),ot (lC hl),zdH,zdF,zdJ,eq_self,iX,zdI,h.c,al,h.S,ai,aV hs,aE h.S,b1]
theorem E8 (h:nz v i f o s fr ou)(hs:s.1=0)(nc:List Int):
  aB WX (((),(1,(i:Int),0,nc,[],()),()),v.e)=some ((true,()),{v with c:=v.c.set i (i+1,v.F.length+1,v.O.length+1,()),S:=v.S.set i ((1,0,nc,0,v.now,()),()),F:=v.F++ [(([],false,()),())],O:=v.O++ [(([],false,()),())]}.e):=by
 have hl:=h.lt;have e1: ¬(1:Int)=4:=by omega
 have hc:i<v.c.length:=(List.getElem?_eq_some_iff.1 h.c).1;have e3:(v.c.set i (i+1,v.F.length+1,o+1,()))[i]?=some (i+1,v.F.length+1,o+1,()):=by rw[zfc];simp[hc]
 simp only[aB,fF,V.e,↓xo,aV e1,zdG,ot (show(i:Int)>=0 by omega),ot (show(i:Int)<16 by omega),ot (lC hl),zdH,zdF,zdJ,eq_self,iX,zdI,h.c,al,h.S,aQ,dZ,ot hs,ir,mu,e3,zfh]
theorem nz.other {j f' o':Nat}{s':xy}{wU I1:(List Int)×Bool×Unit}(h:nz v j f' o' s' wU I1)(hij:j≠i)(c':Nat×Nat×Nat×Unit)(s2:zG)(F':List wR):nz {v with c:=v.c.set i c',S:=v.S.set i s2,F:=v.F++F'} j f' o' s' wU I1:=by
 refine⟨h.lt,?_,?_,?_,h.O⟩
 ·show(v.c.set i c')[j]?=_
  rw[zek (Ne.symm hij)];exact h.c
 ·show(v.S.set i s2)[j]?=_
  rw[zek (Ne.symm hij)];exact h.S
 ·show(v.F++F')[f']?=_
  rw[zew (List.getElem?_eq_some_iff.1 h.F).1];exact h.F
end
section
variable {v:V}{i f o:Nat}{s:xy}{fr ou:(List Int)×Bool×Unit}
theorem AW {v':V}(hc:v'.c=v.c)(hS:v'.S=v.S)(hF:v'.F=v.F)(hO:v'.O=v.O)(h:Fit v):Fit v':=λi hi=>by
 obtain⟨f,o,s,fr,ou,h1,h2⟩:=h i hi;exact⟨f,o,s,fr,ou,⟨h1.lt,by rw[hc];exact h1.c,by rw[hS];exact h1.S,by rw[hF];exact h1.F,by rw[hO];exact h1.O⟩,h2⟩
theorem kW {β:Type}{l:List β}{n:Nat}{x y:β}(h:l[n]?=some x):(l.set n y)[n]?=some y:=by
 have:=(List.getElem?_eq_some_iff.1 h).1;rw[zfc];simp[this]
theorem kR {β:Type}{l:List β}{n m:Nat}{y:β}(h:m≠n):(l.set n y)[m]?=l[m]?:=zek (Ne.symm h)
theorem nz.out (h:nz v i f o s fr ou)(I1:(List Int)×Bool×Unit):nz {v with O:=v.O.set o (I1,())} i f o s fr I1:=⟨h.lt,h.c,h.S,h.F,kW h.O⟩
theorem nz.gU (h:nz v i f o s fr ou)(s':xy):nz {v with S:=v.S.set i (s',())} i f o s' fr ou:=⟨h.lt,h.c,kW h.S,h.F,h.O⟩
theorem OR (h:Fit v)(x:List Int)(o:Nat):Fit {v with O:=v.O.set o ((x,false,()),())}:=λj hj=>by
 obtain⟨f,o',s,fr,ou,h1,h2⟩:=h j hj;by_cases e:o'=o
 ·subst e
  exact⟨f,o',s,fr,_,⟨h1.lt,h1.c,h1.S,h1.F,kW h1.O⟩,λ_=>rfl⟩
 ·exact⟨f,o',s,fr,ou,⟨h1.lt,h1.c,h1.S,h1.F,by show(v.O.set o _)[o']?=_;rw[kR e];exact h1.O⟩,h2⟩
theorem Hf (h:Fit v)(x:wR)(f:Nat):Fit {v with F:=v.F.set f x}:=λj hj=>by
 obtain⟨f',o,s,fr,ou,h1,h2⟩:=h j hj;by_cases e:f'=f
 ·subst e
  exact⟨f',o,s,x.1,ou,⟨h1.lt,h1.c,h1.S,kW h1.F,h1.O⟩,h2⟩
 ·exact⟨f',o,s,fr,ou,⟨h1.lt,h1.c,h1.S,by show(v.F.set f _)[f']?=_;rw[kR e];exact h1.F,h1.O⟩,h2⟩
theorem OS (h:Fit v)(hc:nz v i f o s fr ou)(s':xy)(hs:s'.1≠0->ou.2.1=false):Fit {v with S:=v.S.set i (s',())}:=λj hj=>by
 by_cases e:j=i
 ·subst e
  exact⟨f,o,s',fr,ou,hc.gU s',hs⟩
 ·obtain⟨f',o',s2,wU,I1,h1,h2⟩:=h j hj
  exact⟨f',o',s2,wU,I1,⟨h1.lt,h1.c,by show(v.S.set i _)[j]?=_;rw[kR e];exact h1.S,h1.F,h1.O⟩,h2⟩
theorem Tv (h:Fit v)(hc:nz v i f o s fr ou){F':List wR}{O':List AK}{f' o':Nat}{wU I1:(List Int)×Bool×Unit}{s':xy}(hF:(v.F++F')[f']?=some (wU,()))(hO:(v.O++O')[o']?=some (I1,()))(hs:s'.1≠0->I1.2.1=false):
  Fit {v with c:=v.c.set i (i+1,f'+1,o'+1,()),S:=v.S.set i (s',()),F:=v.F++F',O:=v.O++O'}:=λj hj=>by
 by_cases e:j=i
 ·subst e
  exact⟨f',o',s',wU,I1,⟨hc.lt,kW hc.c,kW hc.S,hF,hO⟩,hs⟩
 ·obtain⟨f2,o2,s2,Vd,Ws,h1,h2⟩:=h j hj
  refine⟨f2,o2,s2,Vd,Ws,⟨h1.lt,?_,?_,?_,?_⟩,h2⟩
  ·show(v.c.set i _)[j]?=_;rw[kR e];exact h1.c
  ·show(v.S.set i _)[j]?=_;rw[kR e];exact h1.S
  ·show(v.F++F')[f2]?=_;rw[zew (List.getElem?_eq_some_iff.1 h1.F).1];exact h1.F
  ·show(v.O++O')[o2]?=_;rw[zew (List.getElem?_eq_some_iff.1 h1.O).1];exact h1.O
theorem Wt {ob:List Int}{tr nx sn n:Int}{nc x:List Int}(h:nz v i f o (1,tr,nc,nx,sn,()) fr (ob,false,()))(hn:nc.length=32)(hl:ob.length+35<=4096)(hg:fD WX ((x,()),())=some ((vw n,true,()),())):
  ∃bs,db WX (((),(i:Int),x,()),v.e)=some ((),{v with S:=v.S.set i ((2,n,nc,nx,v.now,()),()),O:=v.O.set o ((ob++bs,false,()),())}.e)/\bs.length=35:=by
 obtain⟨bs,h1,h2⟩:=AU hn;refine⟨bs,?_,h2⟩;have h3:=To (h.gU (2,n,nc,nx,v.now,())) h1 (by intro e;rw[e] at h2;cases h2) (by omega)
 simp only[V.e] at h3;have e1: ¬(2:Int)=1:=by omega
 have hs:=kW (y:=((2,n,nc,nx,v.now,()),())) h.S;have hk:vw n=(1,0,n,0,0,0,0,0,0,0,0,0,0,0,hY,()):=rfl;rw[hk] at hg;simp only[db,V.e,↓xo,ot (lC h.lt),zdH,zdI,h.c,zdF,hg,zdJ,zdG,eq_self,iX,aQ,al,h.S,eT,hs,fB,aV e1,zfh,h3]
theorem Kz {ob:List Int}{nx sn:Int}{n p m:Nat}{nc tag:List Int}{x:pv}{k:xm}(h:nz v i f o (2,(n:Int),nc,nx,sn,()) fr (ob,false,()))(ht:Tr v n x)(hk:Lk v n p k)(hlk:oK k v.now=false)(nJ:x.2.2.2.2.1=false)(yU:x.2.2.2.2.2.1.length=32)(hn:nc.length=32)(ha:Tq v n x)(hq:1<=v.cfg.2.2.2.2.2.2.2.1)
  (Z5:Ts x.2.2.2.2.2.1 nc tag) (Js:tag.length=32) (hm:v.mt.length=4) (hl:ob.length+8<=4096) (hlg:zj v.lg m) (hmm:m<=100000000000):
  ∃bs rF xn,cM WX (((),(i:Int),tag,()),v.e)=some ((),{v with mt:=rF,S:=v.S.set i ((3,(n:Int),hY,1,v.now,()),()),O:=v.O.set o ((ob++bs,false,()),()),L:=v.L.set p ((k.1,k.2.1,0,0,()),()),lg:=xn}.e)/\rF.length=4/\bs.length=3/\zj xn (m+46):=by
 have l8:=Z3 ht hk hlk nJ ha hq;have Yf:=BT ht;have KA:=Tu yU hn Z5 (Nb Js) (n:Int) nx sn v.now;have hdo:=Tn ht hk hlk;obtain⟨xn,g1,g2⟩:=IZ hlg hmm (OQ (k:=4) (n:=(n:Int)) (.inr (.inl rfl)) (by omega) (by have:=ht.lt;omega))
 obtain⟨mt1,r1,g3,g4⟩:=tX hm (i:=1) (by omega)
 change aR WX (((),1,1,()),_)=_ at g3;have zb2:=Tp (v:={v with S:=v.S.set i ((3,(n:Int),hY,1,v.now,()),())}) (r:=(4,0,(n:Int),C0,())) hdo g1 g3;obtain⟨bs,h1,h2⟩:=E6;have h3:=To (v:={v with S:=v.S.set i ((3,(n:Int),hY,1,v.now,()),()),L:=v.L.set p ((k.1,k.2.1,0,0,()),()),lg:=xn,mt:=mt1}) (i:=i) (f:=f) (o:=o) (s:=(3,(n:Int),hY,1,v.now,())) (fr:=fr) (ob:=ob) ⟨h.lt,h.c,kW h.S,h.F,h.O⟩ h1 (by intro e;rw[e] at h2;cases h2) (by omega)
 refine⟨bs,mt1,xn,?_,g4,h2,g2⟩;simp only[V.e] at l8 h3 zb2;simp only[if_true] at KA;simp only[cM,V.e,↓xo,ot (lC h.lt),zdH,zdI,h.c,zdF,al,h.S,ay,ai,eq_self,iX,aE h.S,zdJ,zdG,l8,da,Yf,aQ,KA,zb2,h3]
end
theorem KB (j:Int): ∃nc:List Int,iu WX ((j,()),())=some ((nc,()),())/\nc.length=32:=E4 (by kernel_rfl)
structure Q (v:V)(m:Nat):Prop where
 fit:Fit v
 mt:v.mt.length=4
 lg:zj v.lg m
 le:m<=10000000000
 lp: ∀n,n<32->v.lp[n]?=some (n+1)
 CJ:1<=v.cfg.2.2.2.2.2.2.2.1
def OT (n:Int):Prop:= ∃fb x r,ia WX ((vw n,()),())=some r/\gA WX (r.2,())=some (((),()),(fb,()))/\cf WX (((),fb,()),(([],false,()),()))=some (.inr (([x],()),(([],false,()),())))/\fD WX ((x,()),())=some ((vw n,true,()),())
theorem Z6:OT 2:=by
 obtain⟨r,h1,h2⟩:=Option.bind_eq_some_iff.1 IX;exact⟨_,_,r,h1,h2,Kv,M5⟩
theorem Z7:OT 4:=by
 obtain⟨r,h1,h2⟩:=Option.bind_eq_some_iff.1 IY;exact⟨_,_,r,h1,h2,Kw,M6⟩
theorem QO {tag:List Int}(h:tag.length=32): ∃fb x r,ia WX ((sy tag,()),())=some r/\gA WX (r.2,())=some (((),()),(fb,()))/\cf WX (((),fb,()),(([],false,()),()))=some (.inr (([x],()),(([],false,()),())))/\fD WX ((x,()),())=some ((sy tag,true,()),()):=by
 obtain⟨f,rfl⟩:=mL tag h;obtain⟨r,h1,h2⟩:=Option.bind_eq_some_iff.1 (M7 f);exact⟨_,_,r,h1,h2,QK f,Tm f⟩
section
variable {v:V}{i f o:Nat}{s:xy}{fr ou:(List Int)×Bool×Unit}
theorem OU {c:mZ}{r:_}{fb:List Int}(h1:ia WX ((c,()),())=some r)(h2:gA WX (r.2,())=some (((),()),(fb,()))){P:V->Prop}(h3: ∃v2,aB WX (((),(2,(i:Int),0,hY,fb,()),()),v.e)=some ((true,()),v2.e)/\P v2):
  ∃v2,ee WX (((),(i:Int),c,()),v.e)=some ((true,()),v2.e)/\P v2:=by
 obtain⟨v2,h4,h5⟩:=h3;exact⟨v2,by simp only[ee,h1,zdF,h2,h4],h5⟩
structure OV (v v2:V)(i:Nat)(n:Int)(nc:List Int):Prop where
 eq: ∃rF ob,v2={v with c:=v.c.set i (i+1,v.F.length+1,v.O.length+1,()),S:=v.S.set i ((2,n,nc,0,v.now,()),()),mt:=rF,F:=v.F++ [(([],false,()),())],O:=v.O++ [((ob,false,()),())]}/\ob.length=35/\nz v2 i v.F.length v.O.length (2,n,nc,0,v.now,()) ([],false,()) (ob,false,())
 fit:Fit v2
 mt:v2.mt.length=4
theorem DG {β:Type}(l:List β)(a b:β):(l++ [a]).set l.length b=l++ [b]:=by simp
theorem Tw (h:nz v i f o s fr ou)(hs:s.1=0)(hf:Fit v)(hm:v.mt.length=4){n:Int}(hh:OT n){nc:List Int}(hn:nc.length=32):
  ∃v1 v2:V,aB WX (((),(1,(i:Int),0,nc,[],()),()),v.e)=some ((true,()),v1.e)/\ee WX (((),(i:Int),vw n,()),v1.e)=some ((true,()),v2.e)/\OV v v2 i n nc:=by
 obtain⟨fb,x,r,g1,g2,g3,g4⟩:=hh;have h1:=E8 h hs nc;have hF:(v.F++ [((([]:List Int),false,()),())])[v.F.length]?=some (([],false,()),()):=by simp
 have hO:(v.O++ [((([]:List Int),false,()),())])[v.O.length]?=some (([],false,()),()):=by simp
 generalize hv1:({v with c:=v.c.set i (i+1,v.F.length+1,v.O.length+1,()),S:=v.S.set i ((1,0,nc,0,v.now,()),()),F:=v.F++ [(([],false,()),())],O:=v.O++ [(([],false,()),())]}:V)=v1 at h1;have c1:nz v1 i v.F.length v.O.length (1,0,nc,0,v.now,()) ([],false,()) ([],false,()):=by
  subst hv1;exact⟨h.lt,kW h.c,kW h.S,hF,hO⟩
 have f1:Fit v1:=by subst hv1;exact Tv hf h hF hO λ_=>rfl
 have m1:v1.mt.length=4:=by subst hv1;exact hm
 obtain⟨v2,h2,h3⟩:=OU (v:=v1) (i:=i) (P:=λv2=>OV v v2 i n nc) g1 g2 (Ky c1 (show(1:Int)≠0 by omega) (He c1 (show(1:Int)≠0 by omega) g3 m1 λrF Tx=>by
  subst hv1;have cb:=(⟨c1.lt,c1.c,c1.S,kW c1.F,c1.O⟩:nz {c:=v.c.set i (i+1,v.F.length+1,v.O.length+1,()),cfg:=v.cfg,now:=v.now,ph:=v.ph,mp:=v.mp,bp:=v.bp,lp:=v.lp,tr:=v.tr,op:=v.op,ps:=v.ps,lg:=v.lg,mt:=rF,M:=v.M,L:=v.L,S:=v.S.set i ((1,0,nc,0,v.now,()),()),F:=(v.F++ [(([],false,()),())]).set v.F.length (([],false,()),()),O:=v.O++ [(([],false,()),())],B:=v.B} i v.F.length v.O.length (1,0,nc,0,v.now,()) ([],false,()) ([],false,()));obtain⟨bs,b1,b2⟩:=Wt cb hn (by simp) g4
  have cb2:=(cb.gU (2,n,nc,0,v.now,())).out ([]++bs,false,());have fb1:=AW (v':={c:=v.c.set i (i+1,v.F.length+1,v.O.length+1,()),cfg:=v.cfg,now:=v.now,ph:=v.ph,mp:=v.mp,bp:=v.bp,lp:=v.lp,tr:=v.tr,op:=v.op,ps:=v.ps,lg:=v.lg,mt:=rF,M:=v.M,L:=v.L,S:=v.S.set i ((1,0,nc,0,v.now,()),()),F:=(v.F++ [(([],false,()),())]).set v.F.length (([],false,()),()),O:=v.O++ [(([],false,()),())],B:=v.B}) (by rfl) (by rfl) (by rfl) (by rfl) (Hf f1 (([],false,()),()) v.F.length)
  have fb2:=OR (OS fb1 cb (2,n,nc,0,v.now,()) λ_=>rfl) ([]++bs) v.O.length;exact⟨_,b1,fb2,⟨v.F.length,v.O.length,_,_,_,cb2,rfl⟩,⟨⟨rF,[]++bs,by rw[zfh,DG,DG],by simpa using b2,cb2⟩,fb2,Tx⟩⟩))
 exact⟨v1,v2,h1,h2,h3⟩
end
section
variable {v:V}{i f o:Nat}{s:xy}{fr ou:(List Int)×Bool×Unit}
theorem Nf (h:nz v i f o s fr ou){x tag:List Int}(hg:fD WX ((x,()),())=some ((sy tag,true,()),())){v2:V}(ha:cM WX (((),(i:Int),tag,()),v.e)=some ((),v2.e)):
  db WX (((),(i:Int),x,()),v.e)=some ((),v2.e):=by
 have hk:sy tag=(2,0,0,0,0,0,0,0,0,0,0,0,0,0,tag,()):=rfl;rw[hk] at hg;have e1: ¬(2:Int)=1:=by omega
 simp only[V.e] at ha;simp only[db,V.e,↓xo,ot (lC h.lt),zdH,zdI,h.c,zdF,hg,zdJ,zdG,aV e1,eq_self,iX,ha]
structure Z8 (v v3:V)(i:Nat)(sf:xy)(L':List tn)(m':Nat):Prop where
 eq: ∃c' rF F' O' xn,v3={v with c:=c',S:=v.S.set i (sf,()),mt:=rF,F:=F',O:=O',L:=L',lg:=xn}
 ex:sf.1=3->∃rF xn ob,v3={v with c:=v.c.set i (i+1,v.F.length+1,v.O.length+1,()),S:=v.S.set i (sf,()),mt:=rF,F:=v.F++ [(([],false,()),())],O:=v.O++ [((ob,false,()),())],L:=L',lg:=xn}/\ob.length=38
 conn: ∃f o ob,nz v3 i f o sf ([],false,()) (ob,false,())/\ob.length<=50
 q:Q v3 m'
theorem Tz {v2:V}{ob:List Int}{tag:List Int}(ht:tag.length=32)(hc:nz v2 i f o s ([],false,()) (ob,false,()))(hs:s.1≠0)(hm:v2.mt.length=4){P:V->Prop}
  (hb: ∀rF,rF.length=4->nz {v2 with F:=v2.F.set f (([],false,()),()),mt:=rF} i f o s ([],false,()) (ob,false,())->∃v3,cM WX (((),(i:Int),tag,()),{v2 with F:=v2.F.set f (([],false,()),()),mt:=rF}.e)=some ((),v3.e)/\Fit v3/\(∃f2 o2 s2 Vd Ws,nz v3 i f2 o2 s2 Vd Ws/\Vd.2.1=false)/\P v3):
  ∃v3,ee WX (((),(i:Int),sy tag,()),v2.e)=some ((true,()),v3.e)/\P v3:=by
 obtain⟨fb,x,r,g1,g2,g3,g4⟩:=QO ht;exact OU g1 g2 (Ky hc hs (He hc hs g3 hm λrF Tx=>by
  have c1:nz {v2 with F:=v2.F.set f (([],false,()),()),mt:=rF} i f o s ([],false,()) (ob,false,()):=⟨hc.lt,hc.c,hc.S,kW hc.F,hc.O⟩;obtain⟨v3,h1,h2,h3,h4⟩:=hb rF Tx c1;exact⟨v3,Nf c1 g4 h1,h2,h3,h4⟩))
end
def Al (S:List zG)(tr:List pv)(n:Nat)(x:pv):Prop:= ∀(j:Nat) (s:xy),S[j]?=some (s,())->s.1=3->∃(m:Nat) (y:pv),s.2.1=(m:Int)/\m≠n/\m<32/\tr[m]?=some y/\y.2.2.1≠0/\y.1≠x.1
theorem TA {v:V}{n:Nat}{x:pv}(hf:Fit v)(h:Al v.S v.tr n x):Tq v n x:=λi hi=>by
 obtain⟨f,o,s,fr,ou,h1,h2⟩:=hf i hi;refine⟨f,o,s,fr,ou,h1,λh3=>?_⟩;obtain⟨m,y,g1,g2,g3,g4,g5,g6⟩:=h i s h1.S h3;exact⟨m,y,g1,g2,⟨g3,g4,g5⟩,g6⟩
theorem Z9 {S:List zG}{tr:List pv}{n i:Nat}{x:pv}(h:Al S tr n x)(s':xy)(hs:s'.1≠3):Al (S.set i (s',())) tr n x:=λj s h1 h3=>by
 by_cases e:j=i
 ·subst e
  rw[zfc] at h1;simp only[if_true] at h1;split at h1
  ·cases h1;exact absurd h3 hs
  ·cases h1
 ·rw[kR e] at h1;exact h j s h1 h3
section
variable {v:V}{i:Nat}
theorem E9 {v2:V}{m n p:Nat}{nc tag:List Int}{x:pv}{k:xm}(hq:Q v m)(hm0:m+46<=10000000000)(ha:OV v v2 i (n:Int) nc)(ht:Tr v n x)(hk:Lk v n p k)(hl:oK k v.now=false)(nJ:x.2.2.2.2.1=false)(yU:x.2.2.2.2.2.1.length=32)(hn:nc.length=32)(hal:Al v.S v.tr n x)
  (Z5:Ts x.2.2.2.2.2.1 nc tag) (Js:tag.length=32):
  ∃v3,ee WX (((),(i:Int),sy tag,()),v2.e)=some ((true,()),v3.e)/\Z8 v v3 i (3,(n:Int),hY,1,v.now,()) (v.L.set p ((k.1,k.2.1,0,0,()),())) (m+46):=by
 obtain⟨⟨mt2,ob,rfl,hob,hc⟩,lB,hmt⟩:=ha;have hFF: ∀bs:List Int,(v.F++ [((([]:List Int),false,()),())]).set v.F.length (([],false,()),())=v.F++ [(([],false,()),())]/\(v.O++ [((ob,false,()),())]).set v.O.length ((ob++bs,false,()),())=v.O++ [((ob++bs,false,()),())]:=λbs=>⟨DG _ _ _,DG _ _ _⟩;generalize LQ:v.c.set i (i+1,v.F.length+1,v.O.length+1,())=c' at*;generalize hF':v.F++ [((([]:List Int),false,()),())]=F' at*;generalize hO':v.O++ [((ob,false,()),())]=O' at*;generalize vP:v.F.length=f at*;generalize YI:v.O.length=o at*;refine Tz Js hc (show(2:Int)≠0 by omega) hmt λrF Tx c1=>?_
 have f1:=Hf lB (([],false,()),()) f;have zc9:Al (v.S.set i ((2,(n:Int),nc,0,v.now,()),())) v.tr n x:=Z9 hal _ (show(2:Int)≠3 by omega)
 have f1':Fit {c:=c',cfg:=v.cfg,now:=v.now,ph:=v.ph,mp:=v.mp,bp:=v.bp,lp:=v.lp,tr:=v.tr,op:=v.op,ps:=v.ps,lg:=v.lg,mt:=rF,M:=v.M,L:=v.L,S:=v.S.set i ((2,(n:Int),nc,0,v.now,()),()),F:=F'.set f (([],false,()),()),O:=O',B:=v.B}:=AW (by rfl) (by rfl) (by rfl) (by rfl) f1
 obtain⟨bs,mt3,xn,h1,h2,h3,h4⟩:=Kz (tag:=tag) (p:=p) (x:=x) (k:=k) (m:=m) c1 ⟨ht.lt,ht.tr,ht.Ye⟩ ⟨hk.lt,hk.lp,hk.L⟩ hl nJ yU hn (TA f1' zc9) hq.CJ Z5 Js Tx (by omega) hq.lg (by have:=hq.le;omega)
 have f2:=OR f1' (ob++bs) o;have c2:=c1.out (ob++bs,false,());have f3:=OS f2 c2 (3,(n:Int),hY,1,v.now,()) λ_=>rfl;have c4:=c2.gU (3,(n:Int),hY,1,v.now,());refine⟨_,h1,AW (by rfl) (by rfl) (by rfl) (by rfl) f3,⟨_,_,_,_,_,⟨c4.lt,c4.c,c4.S,c4.F,c4.O⟩,rfl⟩,⟨⟨c',mt3,_,_,xn,by rw[zfh]⟩,λ_=>⟨mt3,xn,ob++bs,by rw[zfh,(hFF bs).1,(hFF bs).2];subst vP YI LQ hF';rfl,by rw[zdP];omega⟩,⟨_,_,ob++bs,⟨c4.lt,c4.c,c4.S,c4.F,c4.O⟩,by rw[zdP];omega⟩,⟨AW (by rfl) (by rfl) (by rfl) (by rfl) f3,h2,h4,hm0,hq.lp,hq.CJ⟩⟩⟩
theorem KC {f o:Nat}{s:xy}{fr ou:(List Int)×Bool×Unit}{m n:Nat}{j:Int}{x:pv}{sf:xy}{L':List tn}{m':Nat}(right:Bool)(h:nz v i f o s fr ou)(hs:s.1=0)(hq:Q v m)(hh:OT (n:Int))(yU:gP WX (((n:Int),()),())=some ((x.2.2.2.2.2.1,()),()))(Wu:x.2.2.2.2.2.1.length=32)
  (hw: ∀nc tag Gt:List Int,nc.length=32->tag.length=32->Gt.length=32->Ts x.2.2.2.2.2.1 nc tag->(right=true->Gt=tag)->(right=false->kn WX ((Gt,tag,()),())=some ((false,()),()))->∀v2,OV v v2 i (n:Int) nc->∃v3,ee WX (((),(i:Int),sy Gt,()),v2.e)=some ((true,()),v3.e)/\Z8 v v3 i sf L' m'):
  ∃v3,fC WX (((),(i:Int),(n:Int),j,right,()),v.e)=some ((decide (sf.1=3),()),v3.e)/\Z8 v v3 i sf L' m':=by
 obtain⟨nc,h1,h2⟩:=KB j;obtain⟨v1,v2,h3,h4,h5⟩:=Tw h hs hq.fit hq.mt hh h2;obtain⟨tag,⟨r1,r2,g1,g2,g3⟩,g4⟩:=M9 Wu h2;have e0:(0:Int)<=0/\(0:Int)<=((32:Nat):Int)/\((32:Nat):Int)<=(32:Nat):=by omega
 have e1:(0:Int)<=0/\(0:Int)<(32:Nat):=by omega
 have hk:vw (n:Int)=(1,0,(n:Int),0,0,0,0,0,0,0,0,0,0,0,hY,()):=rfl;rw[hk] at h4;have hx:=zdL (l:=tag) (i:=0) (by omega)
 generalize tag[0]=y at hx;have ha: ∀t,sy t=(2,0,0,0,0,0,0,0,0,0,0,0,0,0,t,()):=λ_=>rfl;cases right with
 |true=>
  obtain⟨v3,h6,h7⟩:=hw nc tag tag h2 g4 g4 ⟨r1,r2,g1,g2,g3⟩ (λ_=>rfl) (λe=>by cases e) v2 h5
  obtain⟨f3,o3,ob3,hc3,_⟩:=h7.conn;have hA:=M3 hc3;rw[ha] at h6;refine⟨v3,?_,h7⟩;simp only[fC,h1,zdF,h3,zdJ,zdG,h4,yU,↓xo,ot e0,zdH,pG Wu,pG h2,g1,g2,g3,h6,hA];rw[k0]
 |false=>
  obtain⟨v3,h6,h7⟩:=hw nc tag (tag.set 0 (WX.pJ .u8 y 1)) h2 g4 (by rw[zej];exact g4) ⟨r1,r2,g1,g2,g3⟩ (λe=>by cases e) (λ_=>Nd g4 hx) v2 h5
  obtain⟨f3,o3,ob3,hc3,_⟩:=h7.conn;have hA:=M3 hc3;rw[ha] at h6;refine⟨v3,?_,h7⟩;have hz:(0:Int).toNat=0:=rfl;simp only[fC,h1,zdF,h3,zdJ,zdK,zdG,h4,yU,↓xo,ot e0,ot e1,zdH,pG Wu,pG h2,g1,g2,g3,hz,hx,h6,hA];rw[k0]
end
section
variable {v:V}
theorem Wv: ∀f g:Nat->Int,CG (jB WX (((List.range 32).map f,(List.range 18).map g,()),()))=true:=λf g=>by kernel_rfl
end
theorem jZ {v lo hi:Int}(hv: -9223372036854775808<=v/\v<=9223372036854775807)(h0: -1000000<=lo)(h1:lo<=hi)(h2:hi<=1000000): ∃r:Int,lo<=r/\r<=hi/\aL WX ((v,lo,hi,()),())=some ((r,()),()):=by
 obtain⟨r,h3,h4,h5⟩:=Ql hv (lo:=lo) (hi:=hi) (by omega) h1 (by omega) (by omega)
 refine⟨r,h3,h4,?_⟩;rw[<-h5,<-Ke];rfl
noncomputable abbrev kk (n:Int):List Int:=List.replicate 32 (WX.wr .u8 (WX.wr .i64 (n+1)))
theorem I2 (n:Int):gP WX ((n,()),())=some ((kk n,()),()):=by kernel_rfl
abbrev Fa (c:List Int):Prop:= ∀x∈c,-9223372036854775808<=x/\x<=9223372036854775807
theorem xp {c:List Int}(hc:Fa c)(i:Nat){lo hi:Int}(h0: -1000000<=lo)(h1:lo<=hi)(h2:hi<=1000000): ∃r:Int,lo<=r/\r<=hi/\aD WX (((i:Int),lo,hi,(),()),c,())=some ((r,()),c,()):=by
 by_cases h:i<c.length
 ·have hx:=zdL h
  have hm:=hc _ (zeT h);obtain⟨r,h3,h4,h5⟩:=jZ hm h0 h1 h2;refine⟨r,h3,h4,?_⟩;simp only[aD,↓xo,ot (show(i:Int)<(c.length:Int) by omega),ot (show(0:Int)<=(i:Int) by omega),zdH,zdI,hx,zdF,h5]
 ·refine⟨hi,h1,zeL _,?_⟩
  simp only[aD,↓xo,aV (show¬(i:Int)<(c.length:Int) by omega),zdG]
abbrev zT:pv:=(0,0,0,0,false,hY,())
abbrev lmt:xm:=(1048576,1099511627776,1099511627776,1099511627776,())
noncomputable def tt (a0:Int)(i:Nat):pv:=(WX.wr .i64 (Int.tdiv (i:Int) 2),WX.wr .i64 ((Int.tmod (i:Int) 2)*a0),1,7,false,kk (i:Int),())
noncomputable def fT (a0:Int):Nat->Nat->List pv->List pv
 |0,_,T=>T
 |n+1,i,T=>fT a0 n (i+1) (T.set i (tt a0 i))
def fL:Nat->Nat->List xm->List xm
 |0,_,T=>T
 |n+1,i,T=>fL n (i+1) (T.set i lmt)
theorem TB (a0:Int): ∀(n i:Nat) (T:List pv),(fT a0 n i T).length=T.length
 |0,_,_=>rfl
 |n+1,i,T=>by simp only[fT];rw[TB a0 n];simp
theorem Ng: ∀(n i:Nat) (T:List xm),(fL n i T).length=T.length
 |0,_,_=>rfl
 |n+1,i,T=>by simp only[fL];rw[Ng n];simp
theorem TC {c:List Int}{a0:Int}(h:aD WX ((0,0,1,(),()),c,())=some ((a0,()),c,()))(g:u9)(rest:Int×Int×Int×Int×Int×Int×Unit):
  ∀(n i:Nat) (T:List pv) (Lm:List xm),i+n=6->T.length=32->Lm.length=32->ag (cT WX) (((),((),()),(),(i:Int),()),g,c,(T,Lm,rest),())=some (((),((),()),(),()),g,c,(fT a0 n i T,fL n i Lm,rest),()):=by
 intro n;have e2: ¬(2:Int)=0:=by omega
 induction n with
 |zero=>
  intro i T Lm hi hT hL;rw[aq];simp only[cT,↓xo,aV (show¬(i:Int)<6 by omega),zdG,fT,fL]
 |succ n ih=>
  intro i T Lm hi hT hL;have hx:=zdL (l:=T) (i:=i) (by omega)
  have hy:=zdL (l:=Lm) (i:=i) (by omega)
  have e1:i64.wrap ((i:Int)+1)=((i+1:Nat):Int):=by rw[nL (by omega) (by omega)];omega
  have hk:=I2 (i:Int);rw[aq];have qV:=ih (i+1) (T.set i (tt a0 i)) (Lm.set i lmt) (by omega) (by rw[zej];exact hT) (by rw[zej];exact hL)
  have hs:cT WX (((),((),()),(),(i:Int),()),g,c,(T,Lm,rest),())=some (.inl (((),((),()),(),((i+1:Nat):Int),()),g,c,(T.set i (tt a0 i),Lm.set i lmt,rest),())):=by
   simp only[cT,↓xo,ot (show(i:Int)<6 by omega),aV e2,zdH,zdG,h,zdF,hk,ot (qX (show i<32 by omega)),zdI,hx,hy,tt]
   rw[xw,e1]
  rw[hs];simp only[fT,fL];exact qV
noncomputable def T6 (a0:Int):List pv:=fT a0 6 0 (List.replicate 32 zT)
def L6:List xm:=fL 6 0 (List.replicate 32 (0,0,0,0,()))
noncomputable def uu (a0 a1:Int):List pv:=
 let x7:=(T6 a0).getD 0 zT
 let T7:=(T6 a0).set 0 (x7.1,x7.2.1,WX.A7 .i64 1 a1,x7.2.2.2)
 let x8:=T7.getD 2 zT
 let T8:=T7.set 2 (x8.1,x8.2.1,7,x8.2.2.2)
 let x9:=T8.getD 4 zT
 T8.set 4 (x9.1,x9.2.1,9,x9.2.2.2)
structure TD (c:List Int)(g:u9):Prop where
 ex: ∃a0 a1 a2 a3 a4 a5 b r t l d q:Int,(a0=0\/a0=1)/\0<=a1/\a1<=7/\(0<=a2/\a2<=20)/\(0<=a3/\a3<=3000)/\(0<=a4/\a4<=40)/\(0<=a5/\a5<=40)/\(1<=b/\b<=60)/\(1<=r/\r<=20)/\(1<=t/\t<=3)/\(1<=l/\l<=50)/\(1<=d/\d<=200)/\(1<=q/\q<=4)/\g=(uu a0 a1,L6.set 1 (a2,a3,a4,a5,()),b,r,t,l,d,q,())
theorem AX {β:Type}{l:List β}{n:Nat}(h:n<l.length)(z:β):l[n]?=some (l.getD n z):=by
 rw[zdL h,zdW,zdL h];rfl
theorem QP {c:List Int}(hc:Fa c): ∃g,eg WX ((c,()),())=some ((g,()),())/\TD c g:=by
 obtain⟨a0,p0,q0,h0⟩:=xp hc 0 (lo:=0) (hi:=1) (by omega) (by omega) (by omega)
 obtain⟨a1,p1,q1,h1⟩:=xp hc 1 (lo:=0) (hi:=7) (by omega) (by omega) (by omega)
 obtain⟨a2,p2,q2,h2⟩:=xp hc 2 (lo:=0) (hi:=20) (by omega) (by omega) (by omega)
 obtain⟨a3,p3,q3,h3⟩:=xp hc 3 (lo:=0) (hi:=3000) (by omega) (by omega) (by omega)
 obtain⟨a4,p4,q4,h4⟩:=xp hc 4 (lo:=0) (hi:=40) (by omega) (by omega) (by omega)
 obtain⟨a5,p5,q5,h5⟩:=xp hc 5 (lo:=0) (hi:=40) (by omega) (by omega) (by omega)
 obtain⟨b,p6,q6,h6⟩:=xp hc 6 (lo:=1) (hi:=60) (by omega) (by omega) (by omega)
 obtain⟨r,p7,q7,h7⟩:=xp hc 7 (lo:=1) (hi:=20) (by omega) (by omega) (by omega)
 obtain⟨t,p8,q8,h8⟩:=xp hc 8 (lo:=1) (hi:=3) (by omega) (by omega) (by omega)
 obtain⟨l,p9,q9,h9⟩:=xp hc 9 (lo:=1) (hi:=50) (by omega) (by omega) (by omega)
 obtain⟨d,p10,q10,GH⟩:=xp hc 10 (lo:=1) (hi:=200) (by omega) (by omega) (by omega)
 obtain⟨q,p11,q11,N8⟩:=xp hc 11 (lo:=1) (hi:=4) (by omega) (by omega) (by omega)
 change aD WX ((0,0,1,(),()),c,())=_ at h0;change aD WX ((1,0,7,(),()),c,())=_ at h1;change aD WX ((2,0,20,(),()),c,())=_ at h2;change aD WX ((3,0,3000,(),()),c,())=_ at h3;change aD WX ((4,0,40,(),()),c,())=_ at h4;change aD WX ((5,0,40,(),()),c,())=_ at h5;change aD WX ((6,1,60,(),()),c,())=_ at h6;change aD WX ((7,1,20,(),()),c,())=_ at h7;change aD WX ((8,1,3,(),()),c,())=_ at h8;change aD WX ((9,1,50,(),()),c,())=_ at h9;change aD WX ((10,1,200,(),()),c,())=_ at GH;change aD WX ((11,1,4,(),()),c,())=_ at N8;refine⟨(uu a0 a1,L6.set 1 (a2,a3,a4,a5,()),b,r,t,l,d,q,()),?_,⟨a0,a1,a2,a3,a4,a5,b,r,t,l,d,q,by omega,p1,q1,⟨p2,q2⟩,⟨p3,q3⟩,⟨p4,q4⟩,⟨p5,q5⟩,⟨p6,q6⟩,⟨p7,q7⟩,⟨p8,q8⟩,⟨p9,q9⟩,⟨p10,q10⟩,⟨p11,q11⟩,rfl⟩⟩
 have hl:=TC h0 (List.replicate 32 zT,List.replicate 32 (0,0,0,0,()),0,0,0,0,0,0,()) (0,0,0,0,0,0,()) 6 0 (List.replicate 32 zT) (List.replicate 32 (0,0,0,0,())) (by omega) (by simp) (by simp)
 change ag (cT WX) (((),((),()),(),0,()),_,c,_,())=some (((),((),()),(),()),_,c,(T6 a0,L6,_),()) at hl;have hT:(T6 a0).length=32:=by unfold T6;rw[TB];simp
 have hL:L6.length=32:=by unfold L6;rw[Ng];simp
 have z0:(0:Int).toNat=0:=rfl;have z1:(1:Int).toNat=1:=rfl;have z2:(2:Int).toNat=2:=rfl;have z4:(4:Int).toNat=4:=rfl;have i0:(0:Int)<=0/\(0:Int)<(32:Nat):=by omega
 have i1:(0:Int)<=1/\(1:Int)<(32:Nat):=by omega
 have i2:(0:Int)<=2/\(2:Int)<(32:Nat):=by omega
 have i4:(0:Int)<=4/\(4:Int)<(32:Nat):=by omega
 have g0:=AX (l:=T6 a0) (n:=0) (by omega) zT
 have g1:L6[1]?=some (L6.getD 1 (0,0,0,0,())):=AX (by omega) _
 have g2: ∀y,((T6 a0).set 0 y)[2]?=some (((T6 a0).set 0 y).getD 2 zT):=λy=>AX (by rw[zej];omega) zT
 have g4: ∀y z,(((T6 a0).set 0 y).set 2 z)[4]?=some ((((T6 a0).set 0 y).set 2 z).getD 4 zT):=λy z=>AX (by rw[zej,zej];omega) zT
 simp only[eg,↓xl,hl,zdF,h1,↓xo,ot i0,ot i1,ot i2,ot i4,zdH,z0,z1,z2,z4,g0,g2,g4,h2,h3,h4,h5,h6,h7,h8,h9,GH,N8,g1,uu]
theorem OW {a0 a1:Int}(h0:a0=0\/a0=1)(h1:0<=a1)(h2:a1<=7):nT WX ((uu a0 a1,()),())=some (.inr (((),(-1),()),((uu a0 a1,()),())))/\(uu a0 a1)[2]?=some (1,0,7,7,false,kk 2,())/\(uu a0 a1)[4]?=some (2,0,9,7,false,kk 4,()):=by
 have:a1=0\/a1=1\/a1=2\/a1=3\/a1=4\/a1=5\/a1=6\/a1=7:=by omega
 rcases h0 with rfl|rfl<;>rcases this with rfl|rfl|rfl|rfl|rfl|rfl|rfl|rfl<;>exact⟨by kernel_rfl,by kernel_rfl,by kernel_rfl⟩
def LmR (y:xm):Prop:=0<=y.1/\y.1<=1048576/\0<=y.2.1/\0<=y.2.2.1/\y.2.2.1<=1099511627776/\0<=y.2.2.2.1/\y.2.2.2.1<=1099511627776
instance (y:xm):Decidable (LmR y):=by unfold LmR;infer_instance
theorem Ww {y:xm}(h:LmR y):mm WX ((y,()),())=some ((true,()),()):=by
 obtain⟨h1,h2,h3,h4,h5,h6,h7⟩:=h;simp only[mm,↓xo,ot (show y.1>=0 from h1),ot h2,ot (show y.2.1>=0 from h3),ot (show y.2.2.1>=0 from h4),ot h5,ot (show y.2.2.2.1>=0 from h6),ot h7,zdH]
theorem Nh {l:List xm}(hl:l.length=32)(h: ∀y∈l,LmR y):ag (gj WX) ((true,l,0,()),())=some ((true,()),()):=by
 have key: ∀n i:Nat,i+n=32->ag (gj WX) ((true,l,(i:Int),()),())=some ((true,()),()):=by
  intro n;induction n with
  |zero=>
   intro i hi;rw[aq];simp only[gj,↓xo,aV (show¬(i:Int)<32 by omega),zdG]
  |succ n ih=>
   intro i hi;have hx:=zdL (l:=l) (i:=i) (by omega)
   have hr:=Ww (h _ (zeT (l:=l) (n:=i) (by omega)))
   generalize l[i]=y at hx hr;have e1:i64.wrap ((i:Int)+1)=((i+1:Nat):Int):=by rw[nL (by omega) (by omega)];omega
   have qV:=ih (i+1) (by omega)
   rw[aq];simp only[gj,↓xo,xw,ot (show(i:Int)<32 by omega),ot (qX (show i<32 by omega)),zdH,zdI,hx,zdF,hr,e1,qV]
 exact key 32 0 (by omega)
theorem Hg {b r:Int}(hb:1<=b/\b<=60)(hr:1<=r/\r<=20):jy WX ((b,r,()),())=some (.inr (((),0,()),((b,r,b,0,()),()))):=by
 simp only[jy,↓xo,aV (show¬b<1 by omega),aV (show¬b>1048576 by omega),aV (show¬r<1 by omega),aV (show¬r>1099511627776 by omega),zdG]
theorem OX {t l:Int}(ht:1<=t/\t<=3)(hl:1<=l/\l<=50):kM WX ((t,l,()),())=some (.inr (((),0,()),((t,l,0,0,()),()))):=by
 simp only[kM,↓xo,aV (show¬t<1 by omega),aV (show¬t>1048576 by omega),aV (show¬l<1 by omega),aV (show¬l>1099511627776 by omega),zdG]
theorem QQ {a2 a3 a4 a5:Int}(h2:0<=a2/\a2<=20)(h3:0<=a3/\a3<=3000)(h4:0<=a4/\a4<=40)(h5:0<=a5/\a5<=40): ∀y∈L6.set 1 (a2,a3,a4,a5,()),LmR y:=by
 intro y hy;rcases zeS hy with h|h
 ·have: ∀y∈L6,LmR y:=by
   have h0:(L6.all λy=>decide (LmR y))=true:=by kernel_rfl
   intro y hy;exact of_decide_eq_true (List.all_eq_true.1 h0 y hy)
  exact this y h
 ·subst h
  refine⟨h2.1,?_,h3.1,h4.1,?_,h5.1,?_⟩
  ·show a2<=_;omega
  ·show a4<=_;omega
  ·show a5<=_;omega
theorem TE {x:xm}:(L6.set 1 x).length=32:=by rw[zej];unfold L6;rw[Ng];simp
def Wx:Nat->Nat->List Nat->List Nat
 |0,_,l=>l
 |n+1,i,l=>Wx n (i+1) (l.set i (i+1))
theorem Wy {b r t lk:Int}(hb:1<=b/\b<=60)(hr:1<=r/\r<=20)(ht:1<=t/\t<=3)(hl:1<=lk/\lk<=50)(g:u9)(hg:g.2.2.1=b/\g.2.2.2.1=r/\g.2.2.2.2.1=t/\g.2.2.2.2.2.1=lk)(cfg:u9)(now:Int)(ph:Jt)(mp:List Nat)(tr:(List pv)×Unit)(ac:(List (List Int))×(List (List Int))×Unit)(M:List tk):
  ∀(n i:Nat) (bp lp:List Nat) (L:List tn) (B:List vm),i+n=32->bp.length=32->lp.length=32->L.length=i->B.length=i->ag (cq WX) (((),(),(i:Int),()),g,(cfg,now,(),ph,mp,(),bp,lp,()),tr,ac,M,L,B,())=
   some (((),()),g,(cfg,now,(),ph,mp,(),Wx n i bp,Wx n i lp,()),tr,ac,M,L++List.replicate n ((t,lk,0,0,()),()),B++List.replicate n ((b,r,b,0,()),()),()):=by
 have h1:=Hg hb hr;have h2:=OX ht hl;obtain⟨g1,g2,g3,g4⟩:=hg;intro n;induction n with
 |zero=>
  intro i bp lp L B hi h3 h4 h5 h6;rw[aq];simp only[cq,↓xo,aV (show¬(i:Int)<32 by omega),zdG,Wx,zeU,ze7]
 |succ n ih=>
  intro i bp lp L B hi h3 h4 h5 h6;have hx:=zdL (l:=bp) (i:=i) (by omega)
  have hy:=zdL (l:=lp) (i:=i) (by omega)
  have e1:i64.wrap ((i:Int)+1)=((i+1:Nat):Int):=by rw[nL (by omega) (by omega)];omega
  have qV:=ih (i+1) (bp.set i (i+1)) (lp.set i (i+1)) (L++ [((t,lk,0,0,()),())]) (B++ [((b,r,b,0,()),())]) (by omega) (by rw[zej];exact h3) (by rw[zej];exact h4) (by rw[zdP,h5];rfl) (by rw[zdP,h6];rfl)
  rw[aq];simp only[cq,↓xo,xw,ot (show(i:Int)<32 by omega),ot (qX (show i<32 by omega)),zdH,g1,g2,g3,g4,h1,h2,zdF,zdI,hx,hy,e1,h5,h6,qV,Wx,List.append_assoc,zfi,<-zes]
abbrev ph0:Jt:=(List.replicate 8 false,List.replicate 8 false,List.replicate 8 (0:Int),())
abbrev oo:List (List Int):=List.replicate 32 (List.replicate 8 (0:Int))
abbrev e0:tk:=(((),(),()),(((),(),()),0,0,()),[],[],[],[],())
abbrev p8:List Nat:=(List.range 8).map (·+1)
abbrev c16:List MD:=(List.range 16).map λi=>(i+1,i+1,i+1,())
theorem zaa (g:u9)(T:List pv):WX.ag (dQ WX) (((),(),0,()),g,(g,0,(),ph0,List.replicate 8 0,(),List.replicate 32 0,List.replicate 32 0,()),(T,()),(oo,oo,()),[],[],[],())=
  some (((),(),()),g,(g,0,(),ph0,p8,(),List.replicate 32 0,List.replicate 32 0,()),(T,()),(oo,oo,()),List.replicate 8 e0,[],[],()):=by kernel_rfl
theorem zab (s:u9×Int×Unit×Jt×(List Nat)×Unit×(List Nat)×(List Nat)×Unit)(tr:(List pv)×Unit)(ac:(List (List Int))×(List (List Int))×Unit)(lg:IG)(mt:(List Lt)×Unit)(M:List tk)(L:List tn)(B:List vm):
  WX.ag (dR WX) (((),0,()),((),List.replicate 16 (0,0,0,()),(),(),()),s,tr,ac,lg,mt,M,L,[],[],[],B,())=some (((),()),((),c16,(),(),()),s,tr,ac,lg,mt,M,L,List.replicate 16 (s0,()),List.replicate 16 (([],false,()),()),List.replicate 16 (([],false,()),()),B,()):=by kernel_rfl
def v0 (g:u9):V:={c:=c16,cfg:=g,now:=0,ph:=ph0,mp:=p8,bp:=Wx 32 0 (List.replicate 32 0),lp:=Wx 32 0 (List.replicate 32 0),tr:=g.1,op:=oo,ps:=oo,lg:=([],hY,0,()),mt:=List.replicate 4 ((),(),0,()),M:=List.replicate 8 e0,L:=List.replicate 32 ((g.2.2.2.2.1,g.2.2.2.2.2.1,0,0,()),()),S:=List.replicate 16 (s0,()),F:=List.replicate 16 (([],false,()),()),O:=List.replicate 16 (([],false,()),()),B:=List.replicate 32 ((g.2.2.1,g.2.2.2.1,g.2.2.1,0,()),())}
theorem TF {c:List Int}{g:u9}(h:TD c g):mh WX ((g,()),())=some (.inr (((),0,()),(v0 g).e)):=by
 obtain⟨a0,a1,a2,a3,a4,a5,b,r,t,l,d,q,h0,h1,Iw,h2,h3,h4,h5,hb,hr,ht,hl,hd,hq,rfl⟩:=h;have ht1:=(OW h0 h1 Iw).1;have hb1:=Hg hb hr;have hl1:=OX ht hl;have hrt:=Nh TE (QQ h2 h3 h4 h5);generalize uu a0 a1=T at ht1;generalize L6.set 1 (a2,a3,a4,a5,())=Lm at hrt;have hR:jL WX (((T,Lm,b,r,t,l,d,q,()),()),())=some ((true,()),()):=by
  simp only[jL,ht1,zdF,hb1,hl1,↓xo,eq_self,iX,zdH,ot (show d>=1 by omega),ot (show d<=1099511627776 by omega),ot (show q>=1 by omega),ot (show q<=16 by omega),↓xl,hrt]
 have N8:=Wy hb hr ht hl (T,Lm,b,r,t,l,d,q,()) ⟨rfl,rfl,rfl,rfl⟩ (T,Lm,b,r,t,l,d,q,()) 0 ph0 p8 (T,()) (oo,oo,()) (List.replicate 8 e0) 32 0 (List.replicate 32 0) (List.replicate 32 0) [] [] (by omega) (by simp) (by simp) rfl rfl
 change ag (cq WX) (((),(),0,()),_,_,_,_,_,_,_,())=_ at N8;simp only[zeG] at N8;have h6:=zaa (T,Lm,b,r,t,l,d,q,()) T;rw[xl] at h6;simp only[mh,mg,hR,zdF,zdJ,zdG,pE,ht1,h6,↓xl,N8,↓xo,eq_self,iX,nU,nV];have hv:=zab;simp only[↓xl] at hv;simp only[hv,zdF];rfl
structure Sc (g:u9)(v:V)(k:xm)(m:Nat):Prop where
 cfg:v.cfg=g
 now:v.now=0
 tr:v.tr=g.1
 ph:v.ph=ph0
 bp:v.bp=(v0 g).bp
 B:v.B=(v0 g).B
 S:v.S=List.replicate 16 (s0,())
 L:v.L=(v0 g).L.set 2 (k,())
 q:Q v m
theorem Wz: ∀n,n<32->(Wx 32 0 (List.replicate 32 0))[n]?=some (n+1):=by decide
theorem pc {β:Type}{n i:Nat}(h:i<n)(a:β):(List.replicate n a)[i]?=some a:=by rw[zeA,if_pos h]
theorem DH (g:u9): ∀i,i<16->nz (v0 g) i i i s0 ([],false,()) ([],false,()):=λi hi=>by
 refine⟨hi,?_,?_,?_,?_⟩
 ·show c16[i]?=_
  simp[hi]
 ·exact pc hi _
 ·exact pc hi _
 ·exact pc hi _
theorem zb3 {c:List Int}{g:u9}(h:TD c g):Sc g (v0 g) (g.2.2.2.2.1,g.2.2.2.2.2.1,0,0,()) 0:=by
 refine⟨rfl,rfl,rfl,rfl,rfl,rfl,rfl,?_,⟨λi hi=>⟨_,_,_,_,_,DH g i hi,λ_=>rfl⟩,rfl,⟨rfl,by simp[v0]⟩,by omega,Wz,?_⟩⟩
 ·exact(aE (by simp[v0])).symm
 ·obtain⟨a0,a1,a2,a3,a4,a5,b,r,t,l,d,q,_,_,_,_,_,_,_,_,_,_,_,_,hq,rfl⟩:=h
  exact hq.1
theorem zb4 {g:u9}{v:V}{k:xm}{m:Nat}(h:Sc g v k m)(n:Nat)(x:pv):Al v.S v.tr n x:=λj s h1 h3=>by
 rw[h.S,zeA] at h1;split at h1
 ·cases h1;exact absurd h3 (by show¬(0:Int)=3;omega)
 ·cases h1
noncomputable abbrev x2:pv:=(1,0,7,7,false,kk 2,())
noncomputable abbrev x4:pv:=(2,0,9,7,false,kk 4,())
theorem Ni {c:List Int}{g:u9}(h:TD c g):g.1[2]?=some x2/\g.1[4]?=some x4:=by
 obtain⟨a0,a1,a2,a3,a4,a5,b,r,t,l,d,q,h0,h1,Iw,_,_,_,_,_,_,_,_,_,_,rfl⟩:=h;exact(OW h0 h1 Iw).2
theorem zac {c:List Int}{g:u9}(hc:TD c g){v:V}{k:xm}{m:Nat}(h:Sc g v k m):Tr v 2 x2:=⟨by omega,by rw[h.tr];exact(Ni hc).1,by show¬(7:Int)=0;omega⟩
theorem I3 (n:Int):(kk n).length=32:=by simp
noncomputable def g0:u9:=(uu 1 7,L6.set 1 (20,3000,40,40,()),60,20,3,50,200,4,())
theorem Nj:eg WX ((([]:List Int),()),())=some ((g0,()),()):=by kernel_rfl
theorem AY:TD [] g0:=⟨⟨1,7,20,3000,40,40,60,20,3,50,200,4, .inr rfl,by omega,by omega,by omega,by omega,by omega,by omega,by omega,by omega,by omega,by omega,by omega,by omega,rfl⟩⟩
noncomputable def zad (vt:VT):Option dG.R:=(((ee WX) (((),0,(3,1,0,0,1,2,1,100,5,0,0,0,0,0,(List.replicate 32 (0:Int)),()),()),vt)).bind λr6=>(((ee WX) (((),1,(3,1,0,0,1,1,1,100,3,0,0,0,0,0,(List.replicate 32 (0:Int)),()),()),r6.2)).bind λr7=>(((aW WX) (((),()),r7.2)).bind λr8=>(bif r6.1.1 then(bif r7.1.1 then(((cA WX) (((),()),r8.2.2.1,r8.2.2.2.1,r8.2.2.2.2.1,r8.2.2.2.2.2.2.2.1,r8.2.2.2.2.2.2.2.2.1,r8.2.2.2.2.2.2.2.2.2.2.2.2)).bind λr9=>(((cA WX) r9).bind λm7=>(((fJ WX) (((),4,0,()),m7.2.2.2.1,())).bind λnK=>(bif (WX.af (nK.1.1=3)) then(((cA WX) (((),()),m7.2.1,m7.2.2.1,nK.2.1,m7.2.2.2.2)).bind λnZ=>(((fJ WX) (((),2,0,()),nZ.2.2.2.1,())).bind λng=>some ((((WX.af (ng.1.1=(-3))),()),())))) else some (((false,()),())))))) else some (((false,()),()))) else some (((false,()),()))))))
def okT:Option dG.R->Bool|some ((b,_),_)=>b|none=>false
theorem zae {r:Option dG.R}(h:okT r=true):r=some (((true,()),())):=by
 match r with
 |none=>cases h
 |some ((b,()),())=>cases b;cases h;rfl
noncomputable def lkd:tn:=((3,50,0,0,()),())
noncomputable def vv (mt:List Lt)(lg:IG)(o1 o2:List Int):V:={v0 g0 with c:=(c16.set 0 (1,17,17,())).set 1 (2,18,18,()),S:=((List.replicate 16 (s0,())).set 0 ((3,2,hY,1,0,()),())).set 1 ((3,4,hY,1,0,()),()),mt:=mt,F:=(List.replicate 16 (([],false,()),())++ [(([],false,()),())])++ [(([],false,()),())],O:=(List.replicate 16 (([],false,()),())++ [((o1,false,()),())])++ [((o2,false,()),())],L:=((v0 g0).L.set 2 lkd).set 4 lkd,lg:=lg}
theorem QR: ∀(f g h h':Nat->Int) (m0 m1 m2 m3 n:Int),okT (zad (vv [((),(),m0,()),((),(),m1,()),((),(),m2,()),((),(),m3,())] ((List.range 92).map f,(List.range 32).map g,n,()) ((List.range 38).map h) ((List.range 38).map h')).e)=true:=λf g h h' m0 m1 m2 m3 n=>by kernel_rfl
theorem mt4 {mt:List Lt}(h:mt.length=4): ∃m0 m1 m2 m3,mt=[((),(),m0,()),((),(),m1,()),((),(),m2,()),((),(),m3,())]:=by
 match mt,h with
 | [((),(),a,()),((),(),b,()),((),(),c,()),((),(),d,())],_=>exact⟨a,b,c,d,rfl⟩
theorem TG {p:Unit×(List Int)×Unit}{y1 y2 y3:VT}{r:_}(hN:fj WX ((([]:List Int),()),())=some (.inr (((),()),p,y1)))(h1:fC WX (((),0,2,5,true,()),y1)=some ((true,()),y2))(h2:fC WX (((),1,4,6,true,()),y2)=some ((true,()),y3))(h3:zad y3=some r):dG WX ((),())=some r:=by
 rw[<-h3];simp only[dG,hN,zdF,h1,h2,zdJ,zdG,zad]
theorem wV:dG WX ((),())=some (((true,()),())):=by
 have rn:=TF AY;have hN:fj WX ((([]:List Int),()),())=some (.inr (((),()),((),List.replicate 16 (0:Int),()),(v0 g0).e)):=by
  simp only[fj,Nj,zdF,rn,↓xo,eq_self,iX,zdJ,zdG]
 have hs:=zb3 AY;have l2:Lk (v0 g0) 2 2 (3,50,0,0,()):=⟨by omega,hs.q.lp 2 (by omega),pc (by omega) _⟩
 obtain⟨v1,h1,w1⟩:=KC (x:=x2) (n:=2) (j:=5) (sf:=(3,2,hY,1,(v0 g0).now,())) (L':=(v0 g0).L.set 2 ((3,50,0,0,()),())) (m':=0+46) true (DH g0 0 (by omega)) rfl hs.q Z6 (I2 2) (I3 2) (λnc tag Gt b1 b2 b3 b4 b5 _ w b7=>by
  rw[b5 rfl];exact E9 (k:=(3,50,0,0,())) hs.q (by omega) b7 (zac AY hs) l2 (by decide) rfl (I3 2) b1 (zb4 hs 2 x2) b4 b2)
 obtain⟨mt1,lg1,ob1,e1,zda⟩:=w1.ex rfl;have hq1:=w1.q;have hS1:v1.S=(List.replicate 16 ((s0,()):zG)).set 0 ((3,2,hY,1,0,()),()):=by rw[e1];rfl
 have zb5:v1.tr=g0.1:=by rw[e1];rfl
 obtain⟨f,o,s,fr,ou,I0,_⟩:=hq1.fit 1 (by omega)
 have Lw:s=s0:=by
  have:=I0.S;rw[hS1,kR (by omega),pc (by omega)] at this
  cases this;rfl
 subst Lw;have l4:Lk v1 4 4 (3,50,0,0,()):=⟨by omega,hq1.lp 4 (by omega),by rw[e1];show((v0 g0).L.set 2 _)[4]?=_;rw[kR (by omega)];exact pc (by omega) _⟩
 have al4:Al v1.S v1.tr 4 x4:=λj s h1 h3=>by
  rw[hS1] at h1;by_cases e:j=0
  ·subst e
   rw[kW (pc (by omega) _)] at h1
   cases h1;exact⟨2,x2,rfl,by omega,by omega,by rw[zb5];exact(Ni AY).1,by show¬(7:Int)=0;omega,by show¬(1:Int)=2;omega⟩
  ·rw[kR e,zeA] at h1
   split at h1
   ·cases h1;exact absurd h3 (by show¬(0:Int)=3;omega)
   ·cases h1
 have H5:v1.now=0:=by rw[e1];rfl
 obtain⟨v2,h2,w2⟩:=KC (x:=x4) (n:=4) (j:=6) (sf:=(3,4,hY,1,v1.now,())) (L':=v1.L.set 4 ((3,50,0,0,()),())) (m':=0+46+46) true I0 rfl hq1 Z7 (I2 4) (I3 4) (λnc tag Gt b1 b2 b3 b4 b5 _ w b7=>by
  rw[b5 rfl];exact E9 (k:=(3,50,0,0,())) hq1 (by omega) b7 ⟨by decide,by rw[zb5];exact(Ni AY).2,by show¬(9:Int)=0;omega⟩ l4 (decide_eq_false (λq=>by have:=q.1;change (0:Int)>=3 at this;omega)) rfl (I3 4) b1 al4 b4 b2)
 obtain⟨mt2,lg2,ob2,e2,zdb⟩:=w2.ex rfl;have hlg:=w2.q.lg;have hmt:=w2.q.mt;have zdc:v2.lg=lg2:=by rw[e2]
 have zdd:v2.mt=mt2:=by rw[e2]
 rw[zdc] at hlg;rw[zdd] at hmt;have ev:v2=vv mt2 lg2 ob1 ob2:=by
  rw[e2,H5,e1];rfl
 obtain⟨b,c,n,u⟩:=lg2;obtain⟨hl1,hl2⟩:=hlg;obtain⟨f',YT⟩:=mL b (n:=92) hl1;obtain⟨g',C9⟩:=mL c (n:=32) hl2;obtain⟨k1,hk1⟩:=mL ob1 (n:=38) zda;obtain⟨k2,PM⟩:=mL ob2 (n:=38) zdb;obtain⟨m0,m1,m2,m3,rfl⟩:=mt4 hmt;have key:=zae (QR f' g' k1 k2 m0 m1 m2 m3 n);rw[<-YT,<-C9,<-hk1,<-PM] at key;rw[ev] at h2;change fC WX (((),0,2,5,true,()),_)=some ((true,()),_) at h1;change fC WX (((),1,4,6,true,()),_)=some ((true,()),_) at h2;exact TG hN h1 h2 key
abbrev oL:=dP×Int×Unit
abbrev Od.eD (o:dP):Int:=o.2.2.2.2.2.2.1
abbrev Od.show (o:dP):Int:=o.2.2.2.2.2.2.2.1
def Od.bP (o:dP)(q:Int):dP:=(o.1,o.2.1,o.2.2.1,o.2.2.2.1,o.2.2.2.2.1,o.2.2.2.2.2.1,q,o.2.2.2.2.2.2.2)
def Od.is (t i:Int)(o:dP):Bool:=decide (o.1=t/\o.2.1=i)
def mr (o:dP):Int:=if Od.show o>0 then min (Od.show o) (Od.eD o) else Od.eD o
theorem zaf (o:dP):mJ WX ((o,()),())=some ((mr o,()),()):=by
 unfold mr;by_cases h:Od.show o>0
 ·simp only[mJ,↓xo,ot h,zdH,vu,if_pos h]
 ·simp only[mJ,↓xo,aV h,zdG,if_neg h]
section
variable {es:List oL}{hd:Int×Unit×Unit}
theorem Fb (h:es.length<=1000000)(o:dP):bQ WX (((),o,()),(hd,es,()))=some ((),(hd,es++ [(o,mr o,())],())):=by
 simp only[bQ,zaf,zdF,↓xo,zdQ,zdR,ot (show(((es.length+(0+1):Nat):Int))*((80:Nat):Int)<=((room:Nat):Int) by unfold room;omega),zdH]
theorem Hh {i:Nat}(h:i<es.length)(hl:es.length<=1000000):aT WX (((),(i:Int),((i+1:Nat):Int),()),(es,()))=some (((),()),(es.eraseIdx i,())):=by
 have e0:((i:Int)-(0:Int)).toNat=i:=by omega
 have e1:(es.drop (i+1)).length=es.length-(i+1):=by rw[zeb]
 have e2:es.take (0+i)++es.drop (i+1)++es.drop (0+i+(es.length-(i+1)))=es.eraseIdx i++es.drop (es.length-1):=by
  rw[zev,zfj,show i+(es.length-(i+1))=es.length-1 by omega]
 have e3:(es.eraseIdx i).length=es.length-1:=zfk h;have e4:i+(es.length-(i+1))=es.length-1:=by omega
 have e5:(es.drop (es.length-1)).length=1:=by rw[zeb];omega
 simp only[aT,↓xo,ot (show 0<=(i:Int)/\(i:Int)<=((i+1:Nat):Int)/\((i+1:Nat):Int)<=(es.length:Int)/\(es.length:Int)<=(es.length:Int) by omega),zdH,aV (show¬(i:Int)=((i+1:Nat):Int) by omega),zdG,ot (show 0<=(0:Int)/\(0:Int)<=(i:Int)/\(i:Int)<=(es.length:Int) by omega),
  ot (show 0<=((i+1:Nat):Int)/\((i+1:Nat):Int)<=(es.length:Int) by omega),e0,zdI,e1,ot (show 0+i+(es.length-(i+1))<=es.length by omega),e2,e4]
 have e6: ∀X:List oL,(es.eraseIdx i++X).take (es.length-1)=es.eraseIdx i:=λX=>by rw[List.take_append_of_le_length (by omega),zeg (by omega)]
 simp only[e6,zfg,List.append_assoc,ot (show 0<=((es.length-1:Nat):Int)/\((es.length-1:Nat):Int)<=(es.length:Int)/\(es.length:Int)<=(((es.eraseIdx i++es.drop (es.length-1)).length-0:Nat):Int) by rw[zdP,e3,e5];omega),zdH]
def WA (t i:Int)(es:List oL):Int:=match es.findIdx? (λe=>Od.is t i e.1) with|some n=>(n:Int)|none=> -1
theorem OY (hl:es.length<=1000000)(t i:Int):gq WX (((),t,i,()),(hd,es,()))=some ((WA t i es,()),(hd,es,())):=by
 have key: ∀n k:Nat,k+n=es.length->(∀j,j<k->∀e,es[j]?=some e->Od.is t i e.1=false)->ag (ar WX) ((es,((),(),()),(es.length:Int),(k:Int),()),(t,i,()))=some (match es.findIdx? (λe=>Od.is t i e.1) with|some n=> .inl (((n:Int),()),(t,i,()))|none=> .inr ((),(t,i,()))):=by
  intro n;induction n with
  |zero=>
   intro k hk uH;have:es.findIdx? (λe=>Od.is t i e.1)=none:=by
    rw[zfl];intro e he;obtain⟨j,hj,rfl⟩:=zen he;exact uH j (by omega) _ (zdL hj)
   rw[aq,this];simp only[ar,↓xo,aV (show¬(k:Int)<(es.length:Int) by omega),zdG]
  |succ n ih=>
   intro k hk uH;have hx:=zdL (l:=es) (i:=k) (by omega)
   generalize hg:es[k]=x at hx;have e1:i64.wrap ((k:Int)+1)=((k+1:Nat):Int):=by rw[nL (by omega) (by omega)];omega
   have hp:fG WX ((x,(),(),()),(t,i,()))=some ((Od.is t i x.1,()),(t,i,())):=by
    unfold Od.is;by_cases h1:x.1.1=t
    ·by_cases h2:x.1.2.1=i
     ·simp only[fG,↓xo,ot h1,zdH,ot h2];rw[decide_eq_true ⟨h1,h2⟩]
     ·simp only[fG,↓xo,ot h1,zdH,aV h2];rw[decide_eq_false (λq=>h2 q.2)]
    ·simp only[fG,↓xo,aV h1,zdG];rw[decide_eq_false (λq=>h1 q.1)]
   rw[aq];cases hb:Od.is t i x.1 with
   |true=>
    have:es.findIdx? (λe=>Od.is t i e.1)=some k:=by
     rw[zfm];refine⟨by omega,by rw[hg];exact hb,λj hj=>?_⟩
     have:=uH j hj _ (zdL (by omega))
     simp[this]
    rw[this];simp only[ar,↓xo,ot (show(k:Int)<(es.length:Int) by omega),ot (show(0:Int)<=(k:Int) by omega),zdH,zdI,hx,zdF,hp,hb]
   |false=>
    have qV:=ih (k+1) (by omega) (λj hj e he=>by
     by_cases h:j=k
     ·subst h;rw[hx] at he;cases he;exact hb
     ·exact uH j (by omega) e he)
    simp only[ar,↓xo,xw,ot (show(k:Int)<(es.length:Int) by omega),ot (show(0:Int)<=(k:Int) by omega),zdH,zdI,hx,zdF,hp,hb,zdG,e1,qV]
 have Gd:=key es.length 0 (by omega) (λj hj=>by omega)
 change ag (ar WX) ((es,((),(),()),(es.length:Int),0,()),(t,i,()))=_ at Gd;unfold WA;cases hf:es.findIdx? (λe=>Od.is t i e.1) with
 |none=>
  rw[hf] at Gd;simp only[gq,bg,↓xl,Gd,zdF]
 |some n=>
  rw[hf] at Gd;simp only[gq,bg,↓xl,Gd,zdF]
theorem QS (hl:es.length<=1000000)(t i:Int):fa WX (((),t,i,()),(hd,es,()))=some (match es.findIdx? (λe=>Od.is t i e.1) with
  |some n=>(((es.getD n ((0,0,0,0,0,0,0,0,0,()),0,())).1,true,()),(hd,es.eraseIdx n,()))|none=>(((0,0,0,0,0,0,0,0,0,()),false,()),(hd,es,()))):=by
 have hf:=OY (hd:=hd) hl t i;unfold WA at hf;cases h:es.findIdx? (λe=>Od.is t i e.1) with
 |none=>
  rw[h] at hf;have e0:(-1:Int)<0:=by omega
  simp only[fa,hf,zdF,↓xo,ot e0,zdH]
 |some n=>
  rw[h] at hf;have hn:n<es.length:=(List.findIdx?_eq_some_iff_getElem.1 h).1;have hx:=zdL hn;have LN:=Hh hn hl;have e1:i64.wrap ((n:Int)+1)=((n+1:Nat):Int):=by rw[nL (by omega) (by omega)];omega
  simp only[fa,hf,zdF,↓xo,xw,aV (show¬(n:Int)<0 by omega),zdG,ot (show 0<=(n:Int)/\(n:Int)<(es.length:Int) by omega),zdH,zdI,hx,e1,LN,zdW,ze0]
end
section
variable {es:List oL}{hd:Int×Unit×Unit}
theorem yK (hl:es.length<=1000000):dE WX (((),()),(hd,es,()))=some ((es.map (·.1),()),(hd,es,())):=by
 have key: ∀n k:Nat,k+n=es.length->ag (cX WX) (((),(),(),(es.length:Int),(k:Int),()),hd,es,(es.map (·.1)).take k,())=some ((es.map (·.1),()),(hd,es,())):=by
  intro n;induction n with
  |zero=>
   intro k hk;have:k=es.length:=by omega
   subst this;rw[aq];simp only[cX,↓xo,aV (show¬(es.length:Int)<(es.length:Int) by omega),zdG]
   rw[zeg (by simp)]
  |succ n ih=>
   intro k hk;have hx:=zdL (l:=es) (i:=k) (by omega)
   generalize es[k]=x at hx;have e1:i64.wrap ((k:Int)+1)=((k+1:Nat):Int):=by rw[nL (by omega) (by omega)];omega
   have hm:(es.map (·.1))[k]?=some x.1:=by rw[zeM,hx];rfl
   have ht:(es.map (·.1)).take (k+1)=(es.map (·.1)).take k++ [x.1]:=by rw[zfd,hm];rfl
   have hlen:((es.map (·.1)).take k).length=k:=by rw[zea,zeQ];omega
   have qV:=ih (k+1) (by omega)
   rw[ht] at qV;rw[aq];simp only[cX,↓xo,xw,ot (show(k:Int)<(es.length:Int) by omega),zdH,ot (show 0<=(k:Int)/\(k:Int)<(es.length:Int) by omega),zdI,hx,zdF,hlen,zdQ,zdR,ot (show(((k+(0+1):Nat):Int))*((72:Nat):Int)<=((room:Nat):Int) by unfold room;omega),e1,qV]
 have:=key es.length 0 (by omega)
 change ag (cX WX) (((),(),(),(es.length:Int),0,()),hd,es,[],())=_ at this;simp only[dE,↓xl,this,zdF]
def oM (e:oL):Prop:=1<=e.2.1/\e.2.1<=Od.eD e.1/\Od.eD e.1<=1048576
def ik (l:List Int):Int:=l.foldr (·+·) 0
theorem kT (a b:List Int):ik (a++b)=ik a+ik b:=by
 induction a with
 |nil=>simp[ik]
 |cons x a ih=>simp only[ik,zel,zeB] at*;omega
theorem wW {l:List Int}{m:Int}(h: ∀x∈l,0<=x/\x<=m):0<=ik l/\ik l<=m*l.length:=by
 induction l with
 |nil=>simp[ik]
 |cons x l ih=>
  have h1:=h x (zdT ..);have h2:=ih λy hy=>h y (zdS _ hy);simp only[ik,zeB,zdQ] at*;rw[Int.natCast_add,Int.mul_add];omega
theorem TH (hl:es.length<=1000000)(he: ∀e∈es,oM e):gW WX (((),()),(hd,es,()))=some ((ik (es.map λe=>Od.eD e.1),()),(hd,es,())):=by
 have hb: ∀k,0<=ik ((es.map λe=>Od.eD e.1).take k)/\ik ((es.map λe=>Od.eD e.1).take k)<=1048576000000:=λk=>by
  have:=wW (l:=(es.map λe=>Od.eD e.1).take k) (m:=1048576) (λx hx=>by
   have:=zeI hx;obtain⟨e,h1,rfl⟩:=List.mem_map.1 this;have:=he e h1;unfold oM at this;omega)
  have hlen:((es.map λe=>Od.eD e.1).take k).length<=1000000:=by rw[zea,zeQ];omega
  refine⟨this.1,zfn this.2 ?_⟩;have:((((es.map λe=>Od.eD e.1).take k).length:Nat):Int)<=1000000:=by omega
  omega
 have key: ∀n k:Nat,k+n=es.length->ag (du WX) (((),ik ((es.map λe=>Od.eD e.1).take k),(),(es.length:Int),(k:Int),()),hd,es,())=some ((ik (es.map λe=>Od.eD e.1),()),(hd,es,())):=by
  intro n;induction n with
  |zero=>
   intro k hk;have:k=es.length:=by omega
   subst this;rw[aq];simp only[du,↓xo,aV (show¬(es.length:Int)<(es.length:Int) by omega),zdG]
   rw[zeg (by simp)]
  |succ n ih=>
   intro k hk;have hx:=zdL (l:=es) (i:=k) (by omega)
   generalize es[k]=x at hx;have e1:i64.wrap ((k:Int)+1)=((k+1:Nat):Int):=by rw[nL (by omega) (by omega)];omega
   have hm:(es.map λe=>Od.eD e.1)[k]?=some (Od.eD x.1):=by rw[zeM,hx];rfl
   have ht:(es.map λe=>Od.eD e.1).take (k+1)=(es.map λe=>Od.eD e.1).take k++ [Od.eD x.1]:=by rw[zfd,hm];rfl
   have hs:ik ((es.map λe=>Od.eD e.1).take (k+1))=ik ((es.map λe=>Od.eD e.1).take k)+Od.eD x.1:=by rw[ht,kT];simp[ik]
   have b1:=hb k;have b2:=hb (k+1);have qV:=ih (k+1) (by omega)
   rw[hs] at qV b2;rw[aq];have e2:i64.wrap (ik ((es.map λe=>Od.eD e.1).take k)+Od.eD x.1)=ik ((es.map λe=>Od.eD e.1).take k)+Od.eD x.1:=nL (by omega) (by omega)
   simp only[du,↓xo,xw,ot (show(k:Int)<(es.length:Int) by omega),zdH,ot (show 0<=(k:Int)/\(k:Int)<(es.length:Int) by omega),zdI,hx,zdF,e1,e2,qV]
 have:=key es.length 0 (by omega)
 change ag (du WX) (((),0,(),(es.length:Int),0,()),hd,es,())=_ at this;simp only[gW,↓xl,this,zdF]
def zk (e:oL)(r:List oL)(n:Int):List oL:=
 if e.2.1-n>0 then(Od.bP e.1 (Od.eD e.1-n),e.2.1-n,())::r
 else r++(if Od.eD e.1-n>0 then [(Od.bP e.1 (Od.eD e.1-n),mr (Od.bP e.1 (Od.eD e.1-n)),())] else [])
theorem WB {e:oL}{r:List oL}(hl:r.length<=100000)(he:oM e){n:Int}(h1:1<=n)(h2:n<=e.2.1):gF WX (((),n,()),(hd,e::r,()))=some ((),(hd,zk e r n,())):=by
 obtain⟨a1,a2,a3⟩:=he;have w1:i64.wrap (e.1.2.2.2.2.2.2.1-n)=Od.eD e.1-n:=by
  show i64.wrap (Od.eD e.1-n)=_
  exact nL (by omega) (by omega)
 have w2:i64.wrap (e.2.1-n)=e.2.1-n:=nL (by omega) (by omega)
 have z:(0:Int).toNat=0:=rfl;have i0:0<=(0:Int)/\(0:Int)<((e::r).length:Int):=by simp only[zdQ];omega
 unfold zk;by_cases h3:e.2.1-n>0
 ·simp only[gF,↓xo,xw,ot i0,zdH,z,zei,zdF,List.set_cons_zero,w1,w2,ot h3,if_pos h3,Od.bP]
 ·have LN:=Hh (es:=(Od.bP e.1 (Od.eD e.1-n),e.2.1-n,())::r) (i:=0) (by simp) (by simp only[zdQ];omega)
  change aT WX (((),0,1,()),_)=some (((),()),(r,())) at LN;simp only[Od.bP] at LN;by_cases h4:Od.eD e.1-n>0
  ·have ha:=Fb (es:=r) (hd:=hd) (by omega) (Od.bP e.1 (Od.eD e.1-n))
   simp only[Od.bP] at ha;simp only[gF,↓xo,xw,ot i0,zdH,z,zei,zdF,List.set_cons_zero,w1,w2,aV h3,zdG,LN,ot h4,ha,if_neg h3,if_pos h4,Od.bP]
  ·simp only[gF,↓xo,xw,ot i0,zdH,z,zei,zdF,List.set_cons_zero,w1,w2,aV h3,zdG,LN,aV h4,if_neg h3,if_neg h4,ze7]
end
section
variable {es:List oL}{hd:Int×Unit×Unit}
theorem OZ {o:dP}(h1:1<=Od.eD o):1<=mr o/\mr o<=Od.eD o:=by
 unfold mr;split<;>omega
theorem KD {e:oL}{r:List oL}{n:Int}(he:oM e)(hr: ∀x∈r,oM x)(h1:1<=n)(h2:n<=e.2.1):(∀x∈zk e r n,oM x)/\(zk e r n).length<=r.length+1:=by
 obtain⟨a1,a2,a3⟩:=he;unfold zk;have hq: ∀o q,Od.eD (Od.bP o q)=q:=λ_ _=>rfl;split
 ·rename_i h3
  refine⟨λx hx=>?_,zd2 _⟩;rcases List.mem_cons.1 hx with rfl|hx
  ·exact⟨by show 1<=e.2.1-n;omega,by show e.2.1-n<=Od.eD e.1-n;omega,by show Od.eD e.1-n<=_;omega⟩
  ·exact hr x hx
 ·split
  ·rename_i h4
   refine⟨λx hx=>?_,by simp⟩
   rcases List.mem_append.1 hx with hx|hx
   ·exact hr x hx
   ·rw[ze4] at hx
    subst hx;have:=OZ (o:=Od.bP e.1 (Od.eD e.1-n)) (by rw[hq];omega)
    exact⟨this.1,this.2,by show Od.eD e.1-n<=_;omega⟩
  ·refine⟨λx hx=>?_,by simp⟩
   rw[ze7] at hx;exact hr x hx
def fZ (kr:Int):Nat->Int->List oL->List oL->Bool×List oL×List oL×Int
 |0,q,es,out=>(false,out,es,q)
 |k+1,q,es,out=>if q>0 then
   (match es with
    | []=>(false,out,[],q)
    |e::r=>if e.1.2.2.1=kr then(true,out,e::r,q) else fZ kr k (q-min q e.2.1) (zk e r (min q e.2.1)) (out++ [(e.1,min q e.2.1,())]))
  else(false,out,es,q)
theorem QT (kr:Int): ∀(k:Nat) (q:Int) (es out:List oL),q<=k->q<=1048576->es.length<=100000->out.length+k<=1100000->(∀e∈es,oM e)->ag (cY WX) (((),kr,q,(),()),hd,es,out,())=
  some (if(fZ kr k q es out).1 then .inl (((),true,()),hd,(fZ kr k q es out).2.2.1,(fZ kr k q es out).2.1,()) else .inr (((fZ kr k q es out).2.1,()),hd,(fZ kr k q es out).2.2.1,())):=by
 intro k;have z:(0:Int).toNat=0:=rfl;induction k with
 |zero=>
  intro q es out hq _ _ _ _;rw[aq];simp only[cY,↓xo,aV (show¬q>0 by omega),zdG,fZ,zdN,if_false]
 |succ k ih=>
  intro q es out hq hq2 hl ho he;rw[aq];unfold fZ;by_cases h0:q>0
  ·rw[if_pos h0]
   cases es with
   |nil=>
    have e0: ¬((([]:List oL).length:Nat):Int)>0:=by simp
    simp only[cY,↓xo,ot h0,zdH,aV e0,zdG,zdN,if_false]
   |cons e r=>
    have i0:0<=(0:Int)/\(0:Int)<((e::r).length:Int):=by simp only[zdQ];omega
    have i1:((e::r).length:Int)>0:=i0.2;by_cases hf:e.1.2.2.1=kr
    ·simp only[cY,↓xo,ot h0,zdH,ot i1,ot i0,z,zei,zdF,ot hf,if_pos hf,if_true]
    ·have hee:=he e (zdT ..)
     have H5:1<=min q e.2.1:=by have:=hee.1;omega
     have Dv:min q e.2.1<=e.2.1:=by omega
     have hg:=WB (hd:=hd) (e:=e) (r:=r) (by simp only[zdQ] at hl;omega) hee H5 Dv
     have XA:=KD hee (λx hx=>he x (zdS _ hx)) H5 Dv;have w1:i64.wrap (q-min q e.2.1)=q-min q e.2.1:=nL (by omega) (by omega)
     have qV:=ih (q-min q e.2.1) (zk e r (min q e.2.1)) (out++ [(e.1,min q e.2.1,())]) (by omega) (by omega) (by simp only[zdQ] at hl;omega) (by rw[zdP];simp only[zdQ,zdR];omega) XA.1
     simp only[cY,↓xo,xw,vu,ot h0,zdH,ot i1,ot i0,z,zei,zdF,aV hf,zdG,ot (show(((out.length+([(e.1,min q e.2.1,())]:List oL).length:Nat):Int))*((80:Nat):Int)<=((room:Nat):Int) by unfold room;simp only[zdQ,zdR];omega),hg,w1,qV,if_neg hf]
  ·rw[if_neg h0]
   simp only[cY,↓xo,aV h0,zdG,zdN,if_false]
theorem O0 (kr:Int){q:Int}(h0:0<=q)(hq:q<=1048576)(hl:es.length<=100000)(he: ∀e∈es,oM e):gG WX (((),kr,q,()),(hd,es,()))=
  some (if(fZ kr q.toNat q es []).1 then .inl (((),true,()),hd,(fZ kr q.toNat q es []).2.2.1,(fZ kr q.toNat q es []).2.1,()) else .inr (((fZ kr q.toNat q es []).2.1,false,()),(hd,(fZ kr q.toNat q es []).2.2.1,()))):=by
 have Kx:=QT (hd:=hd) kr q.toNat q es [] (by omega) hq hl (by simp only[zdR];omega) he
 simp only[gG,↓xl,Kx,zdF];cases (fZ kr q.toNat q es []).1<;>rfl
end
section
variable {es:List oL}{hd:Int×Unit×Unit}
def mo (kr:Int)(es:List oL):Int×Bool:=match es.findIdx? (λe=>decide (e.1.2.2.1=kr)) with
 |some n=>(ik ((es.take n).map λe=>e.2.1),true)
 |none=>(ik (es.map λe=>Od.eD e.1),false)
theorem Fc (he: ∀e∈es,oM e)(hl:es.length<=1000000)(k:Nat):0<=ik ((es.take k).map λe=>e.2.1)/\ik ((es.take k).map λe=>e.2.1)<=1048576000000:=by
 have:=wW (l:=(es.take k).map λe=>e.2.1) (m:=1048576) (λx hx=>by
  obtain⟨e,h1,rfl⟩:=List.mem_map.1 hx;have:=he e (zeI h1);unfold oM at this;omega)
 have hlen:((es.take k).map λe=>e.2.1).length<=1000000:=by rw[zeQ,zea];omega
 refine⟨this.1,zfn this.2 ?_⟩;have:(((((es.take k).map λe=>e.2.1).length:Nat)):Int)<=1000000:=by omega
 omega
theorem KE (kr:Int)(hl:es.length<=1000000)(he: ∀e∈es,oM e):fM WX (((),kr,()),(hd,es,()))=some (((mo kr es).1,(mo kr es).2,()),(hd,es,())):=by
 have key: ∀n k:Nat,k+n=es.length->(∀j,j<k->∀e,es[j]?=some e->¬e.1.2.2.1=kr)->ag (cU WX) (((),kr,ik ((es.take k).map λe=>e.2.1),(),(es.length:Int),(k:Int),()),hd,es,())=
   some (match es.findIdx? (λe=>decide (e.1.2.2.1=kr)) with|some n=> .inl ((ik ((es.take n).map λe=>e.2.1),true,()),(hd,es,()))|none=> .inr (((),()),(hd,es,()))):=by
  intro n;induction n with
  |zero=>
   intro k hk uH;have:es.findIdx? (λe=>decide (e.1.2.2.1=kr))=none:=by
    rw[zfl];intro e he;obtain⟨j,hj,rfl⟩:=zen he;exact decide_eq_false (uH j (by omega) _ (zdL hj))
   rw[aq,this];simp only[cU,↓xo,aV (show¬(k:Int)<(es.length:Int) by omega),zdG]
  |succ n ih=>
   intro k hk uH;have hx:=zdL (l:=es) (i:=k) (by omega)
   have hem:=zeT (l:=es) (n:=k) (by omega)
   generalize hg:es[k]=x at hx hem;have e1:i64.wrap ((k:Int)+1)=((k+1:Nat):Int):=by rw[nL (by omega) (by omega)];omega
   rw[aq];by_cases hb:x.1.2.2.1=kr
   ·have:es.findIdx? (λe=>decide (e.1.2.2.1=kr))=some k:=by
     rw[zfm];refine⟨by omega,by rw[hg];exact decide_eq_true hb,λj hj=>?_⟩
     have:=uH j hj _ (zdL (by omega))
     simp[this]
    rw[this];simp only[cU,↓xo,ot (show(k:Int)<(es.length:Int) by omega),ot (show 0<=(k:Int)/\(k:Int)<(es.length:Int) by omega),zdH,zdI,hx,zdF,ot hb]
   ·have ht:(es.take (k+1)).map (λe=>e.2.1)=(es.take k).map (λe=>e.2.1)++ [x.2.1]:=by rw[zfd,hx,zfo];rfl
    have hs:ik ((es.take (k+1)).map λe=>e.2.1)=ik ((es.take k).map λe=>e.2.1)+x.2.1:=by rw[ht,kT];simp[ik]
    have b1:=Fc he hl k;have b2:=Fc he hl (k+1);rw[hs] at b2;have w1:i64.wrap (ik ((es.take k).map λe=>e.2.1)+x.2.1)=ik ((es.take k).map λe=>e.2.1)+x.2.1:=nL (by omega) (by omega)
    have qV:=ih (k+1) (by omega) (λj hj e he=>by
     by_cases h:j=k
     ·subst h;rw[hx] at he;cases he;exact hb
     ·exact uH j (by omega) e he)
    rw[hs] at qV;simp only[cU,↓xo,xw,ot (show(k:Int)<(es.length:Int) by omega),ot (show 0<=(k:Int)/\(k:Int)<(es.length:Int) by omega),zdH,zdI,hx,zdF,aV hb,zdG,e1,w1,qV]
 have h0:=key es.length 0 (by omega) (λj hj=>by omega)
 change ag (cU WX) (((),kr,0,(),(es.length:Int),0,()),hd,es,())=_ at h0;unfold mo;cases hf:es.findIdx? (λe=>decide (e.1.2.2.1=kr)) with
 |none=>
  rw[hf] at h0;simp only[fM,↓xl,h0,zdF,TH hl he]
 |some n=>
  rw[hf] at h0;simp only[fM,↓xl,h0,zdF]
def oh (t i q:Int)(es:List oL):Bool×List oL:=match es.findIdx? (λe=>Od.is t i e.1) with
 |none=>(false,es)
 |some n=>if q<1\/q>Od.eD (es.getD n ((0,0,0,0,0,0,0,0,0,()),0,())).1 then(false,es) else
   (true,es.set n (Od.bP (es.getD n ((0,0,0,0,0,0,0,0,0,()),0,())).1 q,min (es.getD n ((0,0,0,0,0,0,0,0,0,()),0,())).2.1 q,()))
theorem O3 (hl:es.length<=1000000)(t i q:Int):fV WX (((),t,i,q,()),(hd,es,()))=some (((oh t i q es).1,()),(hd,(oh t i q es).2,())):=by
 have hf:=OY (hd:=hd) hl t i;unfold WA at hf;unfold oh;cases h:es.findIdx? (λe=>Od.is t i e.1) with
 |none=>
  rw[h] at hf;have e0:(-1:Int)<0:=by omega
  simp only[fV,hf,zdF,↓xo,ot e0,zdH]
 |some n=>
  rw[h] at hf;have hn:n<es.length:=(List.findIdx?_eq_some_iff_getElem.1 h).1;have hx:=zdL hn;have hd:es.getD n ((0,0,0,0,0,0,0,0,0,()),0,())=es[n]:=by rw[zdW,hx];rfl
  simp only[hd];generalize es[n]=x at hx;have hs: ∀y,(es.set n y)[n]?=some y:=λy=>by rw[zfc];simp[hn]
  by_cases h1:q<1
  ·simp only[fV,hf,zdF,↓xo,aV (show¬(n:Int)<0 by omega),zdG,ot h1,zdH,if_pos (Or.inl h1:q<1\/q>Od.eD x.1)]
  ·by_cases h2:q>Od.eD x.1
   ·simp only[fV,hf,zdF,↓xo,aV (show¬(n:Int)<0 by omega),zdG,aV h1,ot (show 0<=(n:Int)/\(n:Int)<(es.length:Int) by omega),zdH,zdI,hx,ot h2,if_pos (Or.inr h2:q<1\/q>Od.eD x.1)]
   ·have h3: ¬(q<1\/q>Od.eD x.1):=by omega
    simp only[fV,hf,zdF,↓xo,vu,aV (show¬(n:Int)<0 by omega),zdG,aV h1,ot (show 0<=(n:Int)/\(n:Int)<(es.length:Int) by omega),zdH,zdI,hx,aV h2,hs,zfh,if_neg h3,Od.bP]
end
abbrev Od.side (o:dP):Int:=o.2.2.2.1
abbrev Od.kind (o:dP):Int:=o.2.2.2.2.1
abbrev Od.aZ (o:dP):Int:=o.2.2.2.2.2.1
abbrev Od.stop (o:dP):Int:=o.2.2.2.2.2.2.2.2.1
def F2 (n lo hi:Int):Bool:=decide (lo<=n)&&decide (n<=hi)
theorem TJ (n lo hi:Int):aI WX ((n,lo,hi,()),())=some ((F2 n lo hi,()),()):=by
 unfold F2;by_cases h:lo<=n
 ·simp only[aI,↓xo,ot (show n>=lo from h),zdH,decide_eq_true h,Bool.true_and,k0]
 ·simp only[aI,↓xo,aV (show¬n>=lo from h),zdG,decide_eq_false h,zfp]
def oy (o:dP):Bool:=
 (bif decide (Od.kind o=2) then decide (Od.aZ o=0) else F2 (Od.aZ o) 1 1048576)&& ((decide (Od.show o=0)||(decide (Od.kind o=1)||decide (Od.kind o=5)))&& ((F2 o.1 0 31&& (F2 o.2.2.1 0 7&&F2 o.2.1 0 1073741824))&& ((F2 (Od.side o) 1 2&& (F2 (Od.kind o) 1 5&&F2 (Od.eD o) 1 1048576))&& (F2 (Od.show o) 0 (Od.eD o)&&F2 (Od.stop o) 0 1048576))))
theorem AZ (o:dP):ft WX ((o,()),())=some (((bif oy o then 0 else 1),()),()):=by
 unfold oy;simp only[ft,TJ,zdF,↓xo,k0];generalize decide (Od.kind o=2)=b1;generalize decide (Od.aZ o=0)=b2;generalize F2 (Od.aZ o) 1 1048576=b3;generalize decide (Od.show o=0)=b4;generalize decide (Od.kind o=1)=b5;generalize decide (Od.kind o=5)=b6;generalize F2 o.1 0 31=b7;generalize F2 o.2.2.1 0 7=b8;generalize F2 o.2.1 0 1073741824=b9;generalize F2 (Od.side o) 1 2=b10;generalize F2 (Od.kind o) 1 5=b11;generalize F2 (Od.eD o) 1 1048576=b12;generalize F2 (Od.show o) 0 (Od.eD o)=b13;generalize F2 (Od.stop o) 0 1048576=b14;cases b1<;>cases b2<;>cases b3<;>cases b4<;>cases b5<;>cases b6<;>cases b7<;>first|rfl|(cases b8<;>cases b9<;>cases b10<;>cases b11<;>cases b12<;>first|rfl|(cases b13<;>cases b14<;>rfl))
def l9 (o:dP)(p:Int):Bool:=if Od.kind o=2 then true else if Od.side o=1 then decide (Od.aZ o>=p) else decide (Od.aZ o<=p)
theorem wc (o:dP)(p:Int):cP WX ((o,p,()),())=some ((l9 o p,()),()):=by
 unfold l9;by_cases h:Od.kind o=2
 ·simp only[cP,↓xo,ot h,zdH,if_pos h]
 ·by_cases h2:Od.side o=1
  ·simp only[cP,↓xo,aV h,zdG,ot h2,zdH,if_neg h,if_pos h2,k0]
  ·simp only[cP,↓xo,aV h,zdG,aV h2,if_neg h,if_neg h2,k0]
def jc (s a b:Int):Bool:=if s=1 then decide (a>b) else decide (a<b)
theorem QU (s a b:Int):jV WX ((s,a,b,()),())=some ((jc s a b,()),()):=by
 unfold jc;by_cases h:s=1
 ·simp only[jV,↓xo,ot h,zdH,if_pos h,k0]
 ·simp only[jV,↓xo,aV h,zdG,if_neg h,k0]
def BU (o:dP)(l:Int):Bool:=if Od.stop o<=0 then false else if l<=0 then false else if Od.side o=1 then decide (l>=Od.stop o) else decide (l<=Od.stop o)
theorem I4 (o:dP)(l:Int):jU WX ((o,l,()),())=some ((BU o l,()),()):=by
 unfold BU;by_cases h:Od.stop o<=0
 ·simp only[jU,↓xo,ot h,zdH,if_pos h]
 ·by_cases h1:l<=0
  ·simp only[jU,↓xo,aV h,ot h1,zdH,zdG,if_neg h,if_pos h1]
  ·by_cases h2:Od.side o=1
   ·simp only[jU,↓xo,aV h,aV h1,zdG,ot h2,zdH,if_neg h,if_neg h1,if_pos h2,k0]
   ·simp only[jU,↓xo,aV h,aV h1,zdG,aV h2,if_neg h,if_neg h1,if_neg h2,k0]
abbrev Nk:=(Unit×Unit×Unit)×Int×Int×Unit
abbrev o0:dP:=(0,0,0,0,0,0,0,0,0,())
def tM (st:List gR)(p:Nat)(pr:Int)(es:List oL):Prop:= ∃n,p=n+1/\st[n]?=some ((pr,(),()),es,())
def dO (st:List gR)(p:Nat):List oL:=match p with|0=> []|n+1=>(st.getD n ((0,(),()),[],())).2.1
def gb (st:List gR)(p:Nat):Int:=match p with|0=>0|n+1=>(st.getD n ((0,(),()),[],())).1.1
theorem tM.oW {st:List gR}{p:Nat}{pr:Int}{es:List oL}(h:tM st p pr es):dO st p=es/\gb st p=pr:=by
 obtain⟨n,rfl,h⟩:=h;simp only[dO,gb,zdW,h,ze0,and_self]
def CK (t i:Int)(st:List gR)(p:Nat):Option dP:=((dO st p).map (·.1)).find? (Od.is t i)
def CL (st:List gR)(l:List Nat):Prop:=l.length<=1000/\∀p∈l,∃pr es,tM st p pr es/\es.length<=100000
section
variable {hdr:Nk}{bs ss:List Nat}{st:List gR}{t i:Int}
theorem O4 (s idx a b c:Int)(os:List dP)(hl:os.length<=1000000)(hs:s=0\/s=1)(oz:dP):
  ag (cw WX) (((),t,i,(),s,idx,a,(),b,c,os,(os.length:Int),0,()),hdr,bs,ss,oz,st,())=
   some (match os.find? (Od.is t i) with|some o=>(if s=0 then .inl (((),idx,(),()),hdr,o,bs,ss,st,()) else .inr (.inl (((),idx,(),()),hdr,o,bs,ss,st,())))|none=> .inr (.inr (((),t,i,(),s,a,(),b,c,()),hdr,oz,bs,ss,st,()))):=by
 have key: ∀n k:Nat,k+n=os.length->(∀j,j<k->∀e,os[j]?=some e->Od.is t i e=false)->ag (cw WX) (((),t,i,(),s,idx,a,(),b,c,os,(os.length:Int),(k:Int),()),hdr,bs,ss,oz,st,())=
   some (match os.find? (Od.is t i) with|some o=>(if s=0 then .inl (((),idx,(),()),hdr,o,bs,ss,st,()) else .inr (.inl (((),idx,(),()),hdr,o,bs,ss,st,())))|none=> .inr (.inr (((),t,i,(),s,a,(),b,c,()),hdr,oz,bs,ss,st,()))):=by
  intro n;induction n with
  |zero=>
   intro k hk uH;have:os.find? (Od.is t i)=none:=by
    rw[List.find?_eq_none];intro e he;obtain⟨j,hj,rfl⟩:=zen he;rw[uH j (by omega) _ (zdL hj)]
    simp
   rw[aq,this];simp only[cw,↓xo,aV (show¬(k:Int)<(os.length:Int) by omega),zdG]
  |succ n ih=>
   intro k hk uH;have hx:=zdL (l:=os) (i:=k) (by omega)
   generalize hg:os[k]=x at hx;have e1:i64.wrap ((k:Int)+1)=((k+1:Nat):Int):=by rw[nL (by omega) (by omega)];omega
   have qV:Od.is t i x=false->_:=λhb=>ih (k+1) (by omega) (λj hj e he=>by
    by_cases h:j=k
    ·subst h;rw[hx] at he;cases he;exact hb
    ·exact uH j (by omega) e he)
   rw[aq];by_cases h1:x.1=t
   ·by_cases h2:x.2.1=i
    ·have hb:Od.is t i x=true:=decide_eq_true ⟨h1,h2⟩
     have:os.find? (Od.is t i)=some x:=by
      rw[List.find?_eq_some_iff_getElem];refine⟨hb,k,by omega,hg,λj hj=>?_⟩
      have:=uH j hj _ (zdL (by omega))
      simp[this]
     rw[this];rcases hs with rfl|rfl
     ·have z0:(0:Int)=((0:Nat):Int):=rfl
      simp only[cw,↓xo,ot (show(k:Int)<(os.length:Int) by omega),ot (show(0:Int)<=(k:Int) by omega),zdH,zdI,hx,zdF,ot h1,ot h2,ot z0,if_true]
     ·have z0: ¬(1:Int)=((0:Nat):Int):=by omega
      have z1:(1:Int)=((1:Nat):Int):=rfl;have z2: ¬(1:Int)=0:=by omega
      simp only[cw,↓xo,ot (show(k:Int)<(os.length:Int) by omega),ot (show(0:Int)<=(k:Int) by omega),zdH,zdI,hx,zdF,ot h1,ot h2,aV z0,zdG,ot z1,if_neg z2]
    ·have UZ:=qV (decide_eq_false (λq=>h2 q.2))
     simp only[cw,↓xo,xw,ot (show(k:Int)<(os.length:Int) by omega),ot (show(0:Int)<=(k:Int) by omega),zdH,zdI,hx,zdF,ot h1,aV h2,zdG,e1,UZ]
   ·have UZ:=qV (decide_eq_false (λq=>h1 q.1))
    simp only[cw,↓xo,xw,ot (show(k:Int)<(os.length:Int) by omega),ot (show(0:Int)<=(k:Int) by omega),zdH,zdI,hx,zdF,aV h1,zdG,e1,UZ]
 exact key os.length 0 (by omega) (λj hj=>by omega)
theorem CM:eZ WX=cw WX:=rfl
def kt (t i:Int)(st:List gR):List Nat->Option (Nat×dP)
 | []=>none
 |p::ps=>match CK t i st p with|some o=>some (0,o)|none=>(kt t i st ps).map λx=>(x.1+1,x.2)
theorem WC (h:CL st bs)(a:Int)(oz:dP):ag (eP WX) (((),t,i,(),0,a,(),(bs.length:Int),0,()),hdr,bs,ss,oz,st,())=
  some (match kt t i st bs with|some (m,o)=> .inl (((),(m:Int),(),()),hdr,o,bs,ss,st,())|none=> .inr (.inr (((),t,i,(),a,()),hdr,oz,bs,ss,st,()))):=by
 have key: ∀n k:Nat,k+n=bs.length->ag (eP WX) (((),t,i,(),0,a,(),(bs.length:Int),(k:Int),()),hdr,bs,ss,oz,st,())=
   some (match kt t i st (bs.drop k) with|some (m,o)=> .inl (((),((k+m:Nat):Int),(),()),hdr,o,bs,ss,st,())|none=> .inr (.inr (((),t,i,(),a,()),hdr,oz,bs,ss,st,()))):=by
  intro n;induction n with
  |zero=>
   intro k hk;have:bs.drop k=[]:=zfb (by omega)
   rw[aq,this];simp only[eP,↓xo,aV (show¬(k:Int)<(bs.length:Int) by omega),zdG,kt]
  |succ n ih=>
   intro k hk;have tC:k<bs.length:=by omega
   have hx:=zdL tC;obtain⟨pr,es,hp,O5⟩:=h.2 _ (zeT tC);have hd:bs.drop k=bs[k]::bs.drop (k+1):=zfq tC;generalize bs[k]=p at hx hp hd;have ld:=hp.oW;obtain⟨m,rfl,hm⟩:=hp;have e1:i64.wrap ((k:Int)+1)=((k+1:Nat):Int):=by rw[nL (by omega) (by have:=h.1;omega)];omega
   have ho:=yK (es:=es) (hd:=(pr,(),())) (by omega)
   have h8:=O4 (hdr:=hdr) (bs:=bs) (ss:=ss) (st:=st) (t:=t) (i:=i) 0 (k:Int) a (bs.length:Int) (k:Int) (es.map (·.1)) (by rw[zeQ];omega) (.inl rfl) oz
   have qV:=ih (k+1) (by omega)
   rw[aq,hd];simp only[kt,CK,ld.1];cases hf:(es.map (·.1)).find? (Od.is t i) with
   |some o=>
    rw[hf] at h8;simp only[if_true] at h8;simp only[eP,↓xo,ot (show(k:Int)<(bs.length:Int) by omega),ot (show 0<=(k:Int)/\(k:Int)<(bs.length:Int) by omega),zdH,zdI,hx,zdF,al,hm,ho,aE hm,↓xl,h8,zeF]
   |none=>
    rw[hf] at h8;simp only[eP,↓xo,xw,ot (show(k:Int)<(bs.length:Int) by omega),ot (show 0<=(k:Int)/\(k:Int)<(bs.length:Int) by omega),zdH,zdI,hx,zdF,al,hm,ho,aE hm,↓xl,h8,e1,qV]
    cases kt t i st (bs.drop (k+1)) with
    |none=>rfl
    |some x=>simp only[zdV];rw[show k+1+x.1=k+(x.1+1) by omega]
 have:=key bs.length 0 (by omega)
 simp only[zfg,zev] at this;exact this
theorem TK (h:CL st ss)(a:Int)(oz:dP):ag (dX WX) (((),t,i,(),1,a,(),(ss.length:Int),0,()),hdr,bs,ss,oz,st,())=
  some (match kt t i st ss with|some (m,o)=> .inr (.inl (((),(m:Int),(),()),hdr,o,bs,ss,st,()))|none=> .inr (.inr (((),t,i,(),a,()),hdr,oz,bs,ss,st,()))):=by
 have key: ∀n k:Nat,k+n=ss.length->ag (dX WX) (((),t,i,(),1,a,(),(ss.length:Int),(k:Int),()),hdr,bs,ss,oz,st,())=
   some (match kt t i st (ss.drop k) with|some (m,o)=> .inr (.inl (((),((k+m:Nat):Int),(),()),hdr,o,bs,ss,st,()))|none=> .inr (.inr (((),t,i,(),a,()),hdr,oz,bs,ss,st,()))):=by
  intro n;induction n with
  |zero=>
   intro k hk;have:ss.drop k=[]:=zfb (by omega)
   rw[aq,this];simp only[dX,↓xo,aV (show¬(k:Int)<(ss.length:Int) by omega),zdG,kt]
  |succ n ih=>
   intro k hk;have tC:k<ss.length:=by omega
   have hx:=zdL tC;obtain⟨pr,es,hp,O5⟩:=h.2 _ (zeT tC);have hd:ss.drop k=ss[k]::ss.drop (k+1):=zfq tC;generalize ss[k]=p at hx hp hd;have ld:=hp.oW;obtain⟨m,rfl,hm⟩:=hp;have e1:i64.wrap ((k:Int)+1)=((k+1:Nat):Int):=by rw[nL (by omega) (by have:=h.1;omega)];omega
   have ho:=yK (es:=es) (hd:=(pr,(),())) (by omega)
   have h8:=O4 (hdr:=hdr) (bs:=bs) (ss:=ss) (st:=st) (t:=t) (i:=i) 1 (k:Int) a (ss.length:Int) (k:Int) (es.map (·.1)) (by rw[zeQ];omega) (.inr rfl) oz
   have qV:=ih (k+1) (by omega)
   rw[aq,hd];simp only[kt,CK,ld.1];cases hf:(es.map (·.1)).find? (Od.is t i) with
   |some o=>
    rw[hf] at h8;simp only[if_neg (show¬(1:Int)=0 by omega)] at h8
    simp only[dX,↓xo,ot (show(k:Int)<(ss.length:Int) by omega),ot (show 0<=(k:Int)/\(k:Int)<(ss.length:Int) by omega),zdH,zdI,hx,zdF,al,hm,ho,aE hm,↓xl,CM,h8,zeF]
   |none=>
    rw[hf] at h8;simp only[dX,↓xo,xw,ot (show(k:Int)<(ss.length:Int) by omega),ot (show 0<=(k:Int)/\(k:Int)<(ss.length:Int) by omega),zdH,zdI,hx,zdF,al,hm,ho,aE hm,↓xl,CM,h8,e1,qV]
    cases kt t i st (ss.drop (k+1)) with
    |none=>rfl
    |some x=>simp only[zdV];rw[show k+1+x.1=k+(x.1+1) by omega]
 have:=key ss.length 0 (by omega)
 simp only[zfg,zev] at this;exact this
theorem Fe (hb:CL st bs)(hs:CL st ss):gk WX (((),t,i,()),(hdr,bs,ss,st,()))=some (match kt t i st bs with
  |some (m,o)=> .inl (((),(m:Int),o,()),(hdr,bs,ss,st,()))
  |none=>match kt t i st ss with
   |some (m,o)=> .inr (.inl (((),(m:Int),o,()),(hdr,bs,ss,st,())))
   |none=> .inr (.inr (((),0,o0,()),(hdr,bs,ss,st,())))):=by
 have h5:=WC (hdr:=hdr) (ss:=ss) (t:=t) (i:=i) hb 0 o0;have h5b:=TK (hdr:=hdr) (bs:=bs) (t:=t) (i:=i) hs 1 o0;have e0:(0:Int)<2:=by omega
 have e1:(1:Int)<2:=by omega
 have z0:(0:Int)=((0:Nat):Int):=rfl;have z1: ¬(1:Int)=((0:Nat):Int):=by omega
 have z2:(1:Int)=((1:Nat):Int):=rfl;have w1:i64.wrap (0+1)=1:=by rw[nL (by omega) (by omega)];rfl
 have w2:i64.wrap (1+1)=2:=by rw[nL (by omega) (by omega)];rfl
 have e2: ¬(2:Int)<2:=by omega
 have hl:ag (ek WX) (((),t,i,(),0,()),hdr,bs,ss,o0,st,())=some (match kt t i st bs with
   |some (m,o)=> .inl (((),(m:Int),(),()),hdr,o,bs,ss,st,())
   |none=>match kt t i st ss with
    |some (m,o)=> .inr (.inl (((),(m:Int),(),()),hdr,o,bs,ss,st,()))
    |none=> .inr (.inr (((),()),hdr,o0,bs,ss,st,()))):=by
  rw[aq];cases hf:kt t i st bs with
  |some x=>
   rw[hf] at h5;simp only[ek,↓xo,ot e0,zdH,ot z0,↓xl,h5,zdF]
  |none=>
   rw[hf] at h5;simp only[ek,↓xo,xw,ot e0,zdH,ot z0,↓xl,h5,zdF,w1];rw[aq];cases xX:kt t i st ss with
   |some x=>
    rw[xX] at h5b;simp only[ek,↓xo,ot e1,zdH,aV z1,zdG,ot z2,↓xl,h5b,zdF]
   |none=>
    rw[xX] at h5b;simp only[ek,↓xo,xw,ot e1,zdH,aV z1,zdG,ot z2,↓xl,h5b,zdF,w2];rw[aq];simp only[ek,↓xo,aV e2,zdG]
 cases hf:kt t i st bs with
 |some x=>
  rw[hf] at hl;simp only[gk,↓xl,hl,zdF]
 |none=>
  rw[hf] at hl;cases xX:kt t i st ss with
  |some x=>
   rw[xX] at hl;simp only[gk,↓xl,hl,zdF]
  |none=>
   rw[xX] at hl;simp only[gk,↓xl,hl,zdF]
end
theorem TL {l:List Nat}{st:List gR}{i:Nat}(h:i<l.length)(hl:l.length<=1000000):bc WX (((),(i:Int),((i+1:Nat):Int),()),(l,st,()))=some (((),()),(l.eraseIdx i,st,())):=by
 have e0:((i:Int)-(0:Int)).toNat=i:=by omega
 have e1:(l.drop (i+1)).length=l.length-(i+1):=by rw[zeb]
 have e2:l.take (0+i)++l.drop (i+1)++l.drop (0+i+(l.length-(i+1)))=l.eraseIdx i++l.drop (l.length-1):=by
  rw[zev,zfj,show i+(l.length-(i+1))=l.length-1 by omega]
 have e3:(l.eraseIdx i).length=l.length-1:=zfk h;have e4:i+(l.length-(i+1))=l.length-1:=by omega
 have e5:(l.drop (l.length-1)).length=1:=by rw[zeb];omega
 have e6: ∀X:List Nat,(l.eraseIdx i++X).take (l.length-1)=l.eraseIdx i:=λX=>by rw[List.take_append_of_le_length (by omega),zeg (by omega)]
 simp only[bc,↓xo,ot (show 0<=(i:Int)/\(i:Int)<=((i+1:Nat):Int)/\((i+1:Nat):Int)<=(l.length:Int)/\(l.length:Int)<=(l.length:Int) by omega),zdH,aV (show¬(i:Int)=((i+1:Nat):Int) by omega),zdG,ot (show 0<=(0:Int)/\(0:Int)<=(i:Int)/\(i:Int)<=(l.length:Int) by omega),
  ot (show 0<=((i+1:Nat):Int)/\((i+1:Nat):Int)<=(l.length:Int) by omega),e0,zdI,e1,ot (show 0+i+(l.length-(i+1))<=l.length by omega),e2,e4]
 simp only[e6,zfg,List.append_assoc,ot (show 0<=((l.length-1:Nat):Int)/\((l.length-1:Nat):Int)<=(l.length:Int)/\(l.length:Int)<=(((l.eraseIdx i++l.drop (l.length-1)).length-0:Nat):Int) by rw[zdP,e3,e5];omega),zdH]
section
variable {hdr:Nk}{bs ss:List Nat}{st:List gR}{t i:Int}
def mU (l:List Nat)(m:Nat)(es:List oL):List Nat:=if es=[] then l.eraseIdx m else l
theorem KF {m p:Nat}{pr:Int}{es:List oL}(h:bs[m]?=some p)(hp:tM st p pr es)(hl:bs.length<=1000):jz WX (((),(m:Int),()),(hdr,bs,ss,st,()))=some ((),(hdr,mU bs m es,ss,st,())):=by
 have hm:=(List.getElem?_eq_some_iff.1 h).1;obtain⟨n,rfl,hn⟩:=hp;have hd:=TL (st:=st) hm (by omega)
 have e1:i64.wrap ((m:Int)+1)=((m+1:Nat):Int):=by rw[nL (by omega) (by omega)];omega
 unfold mU;by_cases h0:es=[]
 ·subst h0
  have z:((([]:List oL).length:Nat):Int)=0:=rfl;simp only[jz,↓xo,xw,ot (show 0<=(m:Int)/\(m:Int)<(bs.length:Int) by omega),zdH,zdI,h,zdF,al,hn,dF,ot z,aE hn,e1,hd,if_true]
 ·have z: ¬((es.length:Nat):Int)=0:=λe=>h0 (zef (by omega))
  simp only[jz,↓xo,ot (show 0<=(m:Int)/\(m:Int)<(bs.length:Int) by omega),zdH,zdI,h,zdF,al,hn,dF,aV z,zdG,aE hn,if_neg h0]
theorem Hi {m p:Nat}{pr:Int}{es:List oL}(h:ss[m]?=some p)(hp:tM st p pr es)(hl:ss.length<=1000):gK WX (((),(m:Int),()),(hdr,bs,ss,st,()))=some ((),(hdr,bs,mU ss m es,st,())):=by
 have hm:=(List.getElem?_eq_some_iff.1 h).1;obtain⟨n,rfl,hn⟩:=hp;have hd:=TL (st:=st) hm (by omega)
 have e1:i64.wrap ((m:Int)+1)=((m+1:Nat):Int):=by rw[nL (by omega) (by omega)];omega
 unfold mU;by_cases h0:es=[]
 ·subst h0
  have z:((([]:List oL).length:Nat):Int)=0:=rfl;simp only[gK,↓xo,xw,ot (show 0<=(m:Int)/\(m:Int)<(ss.length:Int) by omega),zdH,zdI,h,zdF,al,hn,dF,ot z,aE hn,e1,hd,if_true]
 ·have z: ¬((es.length:Nat):Int)=0:=λe=>h0 (zef (by omega))
  simp only[gK,↓xo,ot (show 0<=(m:Int)/\(m:Int)<(ss.length:Int) by omega),zdH,zdI,h,zdF,al,hn,dF,aV z,zdG,aE hn,if_neg h0]
theorem uv: ∀{l:List Nat} {m:Nat} {o:dP},kt t i st l=some (m,o)->∃p,l[m]?=some p/\CK t i st p=some o
 | [],_,_,h=>by cases h
 |p::ps,m,o,h=>by
  simp only[kt] at h;cases e:CK t i st p with
  |some x=>rw[e] at h;cases h;exact⟨p,rfl,e⟩
  |none=>
   rw[e] at h;simp only at h;cases e2:kt t i st ps with
   |none=>rw[e2] at h;cases h
   |some y=>
    rw[e2] at h;obtain⟨m',o'⟩:=y;cases h;obtain⟨q,h1,h2⟩:=uv e2;exact⟨q,by simpa using h1,h2⟩
theorem KG (hb:CL st bs)(hs:CL st ss):fK WX (((),t,i,()),(hdr,bs,ss,st,()))=some ((match kt t i st bs with|some (_,o)=>(o,true,())|none=>match kt t i st ss with|some (_,o)=>(o,true,())|none=>(o0,false,())),(hdr,bs,ss,st,())):=by
 have h:=Fe (hdr:=hdr) (t:=t) (i:=i) hb hs;cases hf:kt t i st bs with
 |some x=>rw[hf] at h;simp only[fK,h,zdF]
 |none=>
  rw[hf] at h;cases xX:kt t i st ss with
  |some x=>rw[xX] at h;simp only[fK,h,zdF]
  |none=>rw[xX] at h;simp only[fK,h,zdF]
def qF (t i:Int)(es:List oL):List oL:=match es.findIdx? (λe=>Od.is t i e.1) with|some n=>es.eraseIdx n|none=>es
theorem Ff {es:List oL}{hd:Int×Unit×Unit}(hl:es.length<=1000000){o:dP}(h:(es.map (·.1)).find? (Od.is t i)=some o):fa WX (((),t,i,()),(hd,es,()))=some ((o,true,()),(hd,qF t i es,())):=by
 rw[QS hl];unfold qF;rw[List.find?_map] at h;simp only[zeC] at h;obtain⟨e,h1,rfl⟩:=h;have h2:=h1;rw[List.find?_eq_some_iff_getElem] at h2;obtain⟨h3,n,hn,h4,h5⟩:=h2;have:es.findIdx? (λe=>Od.is t i e.1)=some n:=by
  rw[zfm];refine⟨hn,by rw[h4];exact h3,λj hj=>?_⟩
  have:=h5 j hj;simpa using this
 rw[this];simp only[zdW,zdL hn,ze0,h4]
end
def kD (st:List gR)(p:Nat)(es:List oL):List gR:=st.set (p-1) ((gb st p,(),()),es,())
section
variable {hdr:Nk}{bs ss:List Nat}{st:List gR}{t i:Int}
theorem tM.put {p:Nat}{pr:Int}{es oA:List oL}(h:tM st p pr es):tM (kD st p oA) p pr oA:=by
 have he:=h.oW;obtain⟨n,rfl,hn⟩:=h;refine⟨n,rfl,?_⟩;unfold kD;rw[he.2];have:=(List.getElem?_eq_some_iff.1 hn).1;show(st.set n _)[n]?=_
 rw[zfc];simp[this]
theorem tM.tY {p q:Nat}{pr:Int}{es oA:List oL}(h:tM st q pr es)(mb:q≠p)(hp:p≠0):tM (kD st p oA) q pr es:=by
 obtain⟨n,rfl,hn⟩:=h;refine⟨n,rfl,?_⟩;unfold kD;rw[zek (by omega)];exact hn
def Fg (t i:Int)(bs ss:List Nat)(st:List gR):dP×Bool×List Nat×List Nat×List gR:=match kt t i st bs with
 |some (m,o)=>(o,true,mU bs m (qF t i (dO st (bs.getD m 0))),ss,kD st (bs.getD m 0) (qF t i (dO st (bs.getD m 0))))
 |none=>match kt t i st ss with
  |some (m,o)=>(o,true,bs,mU ss m (qF t i (dO st (ss.getD m 0))),kD st (ss.getD m 0) (qF t i (dO st (ss.getD m 0))))
  |none=>(o0,false,bs,ss,st)
theorem Nl (hb:CL st bs)(hs:CL st ss):gr WX (((),t,i,()),(hdr,bs,ss,st,()))=some (((Fg t i bs ss st).1,(Fg t i bs ss st).2.1,()),(hdr,(Fg t i bs ss st).2.2.1,(Fg t i bs ss st).2.2.2.1,(Fg t i bs ss st).2.2.2.2,())):=by
 have h:=Fe (hdr:=hdr) (t:=t) (i:=i) hb hs;unfold Fg;cases hf:kt t i st bs with
 |some x=>
  rw[hf] at h;obtain⟨m,o⟩:=x;obtain⟨p,h1,h2⟩:=uv hf;have hm:=(List.getElem?_eq_some_iff.1 h1).1;obtain⟨pr,es,h3,h4⟩:=hb.2 p (zeH h1);have h5:=h3.oW;have h6:=h3;obtain⟨n,rfl,hn⟩:=h6;simp only[CK,h5.1] at h2;have hr:=Ff (hd:=(pr,(),())) (by omega) h2
  have Fh:=KF (hdr:=hdr) (ss:=ss) (es:=qF t i es) h1 (h3.put (oA:=qF t i es)) hb.1;have hg:bs.getD m 0=n+1:=by rw[zdW,h1];rfl
  have Dl:kD st (n+1) (qF t i es)=st.set n ((pr,(),()),qF t i es,()):=by unfold kD;rw[h5.2];rfl
  rw[Dl] at Fh;simp only[gr,h,zdF,↓xo,ot (show 0<=(m:Int)/\(m:Int)<(bs.length:Int) by omega),zdH,zdI,h1,al,hn,hr,Fh,hg,h5.1,Dl]
 |none=>
  rw[hf] at h;cases xX:kt t i st ss with
  |some x=>
   rw[xX] at h;obtain⟨m,o⟩:=x;obtain⟨p,h1,h2⟩:=uv xX;have hm:=(List.getElem?_eq_some_iff.1 h1).1;obtain⟨pr,es,h3,h4⟩:=hs.2 p (zeH h1);have h5:=h3.oW;have h6:=h3;obtain⟨n,rfl,hn⟩:=h6;simp only[CK,h5.1] at h2;have hr:=Ff (hd:=(pr,(),())) (by omega) h2
   have Fh:=Hi (hdr:=hdr) (bs:=bs) (es:=qF t i es) h1 (h3.put (oA:=qF t i es)) hs.1;have hg:ss.getD m 0=n+1:=by rw[zdW,h1];rfl
   have Dl:kD st (n+1) (qF t i es)=st.set n ((pr,(),()),qF t i es,()):=by unfold kD;rw[h5.2];rfl
   rw[Dl] at Fh;simp only[gr,h,zdF,↓xo,ot (show 0<=(m:Int)/\(m:Int)<(ss.length:Int) by omega),zdH,zdI,h1,al,hn,hr,Fh,hg,h5.1,Dl]
  |none=>
   rw[xX] at h;simp only[gr,h,zdF]
def I5 (t i q:Int)(bs ss:List Nat)(st:List gR):Bool×List gR:=match kt t i st bs with
 |some (m,_)=>((oh t i q (dO st (bs.getD m 0))).1,kD st (bs.getD m 0) (oh t i q (dO st (bs.getD m 0))).2)
 |none=>match kt t i st ss with
  |some (m,_)=>((oh t i q (dO st (ss.getD m 0))).1,kD st (ss.getD m 0) (oh t i q (dO st (ss.getD m 0))).2)
  |none=>(false,st)
theorem TM (hb:CL st bs)(hs:CL st ss)(q:Int):hU WX (((),t,i,q,()),(hdr,bs,ss,st,()))=some (((I5 t i q bs ss st).1,()),(hdr,bs,ss,(I5 t i q bs ss st).2,())):=by
 have h:=Fe (hdr:=hdr) (t:=t) (i:=i) hb hs;unfold I5;cases hf:kt t i st bs with
 |some x=>
  rw[hf] at h;obtain⟨m,o⟩:=x;obtain⟨p,h1,h2⟩:=uv hf;have hm:=(List.getElem?_eq_some_iff.1 h1).1;obtain⟨pr,es,h3,h4⟩:=hb.2 p (zeH h1);have h5:=h3.oW;obtain⟨n,rfl,hn⟩:=h3;have hr:=O3 (hd:=(pr,(),())) (es:=es) (by omega) t i q
  have hg:bs.getD m 0=n+1:=by rw[zdW,h1];rfl
  have Dl:kD st (n+1) (oh t i q es).2=st.set n ((pr,(),()),(oh t i q es).2,()):=by unfold kD;rw[h5.2];rfl
  simp only[hU,h,zdF,↓xo,ot (show 0<=(m:Int)/\(m:Int)<(bs.length:Int) by omega),zdH,zdI,h1,al,hn,hr,hg,h5.1,Dl]
 |none=>
  rw[hf] at h;cases xX:kt t i st ss with
  |some x=>
   rw[xX] at h;obtain⟨m,o⟩:=x;obtain⟨p,h1,h2⟩:=uv xX;have hm:=(List.getElem?_eq_some_iff.1 h1).1;obtain⟨pr,es,h3,h4⟩:=hs.2 p (zeH h1);have h5:=h3.oW;obtain⟨n,rfl,hn⟩:=h3;have hr:=O3 (hd:=(pr,(),())) (es:=es) (by omega) t i q
   have hg:ss.getD m 0=n+1:=by rw[zdW,h1];rfl
   have Dl:kD st (n+1) (oh t i q es).2=st.set n ((pr,(),()),(oh t i q es).2,()):=by unfold kD;rw[h5.2];rfl
   simp only[hU,h,zdF,↓xo,ot (show 0<=(m:Int)/\(m:Int)<(ss.length:Int) by omega),zdH,zdI,h1,al,hn,hr,hg,h5.1,Dl]
  |none=>
   rw[xX] at h;simp only[hU,h,zdF]
def pH (st:List gR)(l:List Nat):Int:=ik (l.map λp=>((dO st p).length:Int))
theorem I6 (h:CL st bs)(k:Nat):0<=pH st (bs.take k)/\pH st (bs.take k)<=100000000:=by
 have:=wW (l:=(bs.take k).map λp=>((dO st p).length:Int)) (m:=100000) (λx hx=>by
  obtain⟨p,h1,rfl⟩:=List.mem_map.1 hx;obtain⟨pr,es,h2,h3⟩:=h.2 p (zeI h1);rw[h2.oW.1];omega)
 have hlen:((bs.take k).map λp=>((dO st p).length:Int)).length<=1000:=by rw[zeQ,zea];have:=h.1;omega
 refine⟨this.1,zfn this.2 ?_⟩;have:(((((bs.take k).map λp=>((dO st p).length:Int)).length:Nat)):Int)<=1000:=by omega
 omega
theorem zag (h:CL st bs)(c:Int)(hc:0<=c/\c<=1000000000)(z:Int):ag (fS WX) (((),c,((),(),()),z,(),(bs.length:Int),0,()),hdr,bs,ss,st,())=some (((),c+pH st bs,((),(),()),z,()),hdr,bs,ss,st,()):=by
 have key: ∀n k:Nat,k+n=bs.length->ag (fS WX) (((),c+pH st (bs.take k),((),(),()),z,(),(bs.length:Int),(k:Int),()),hdr,bs,ss,st,())=some (((),c+pH st bs,((),(),()),z,()),hdr,bs,ss,st,()):=by
  intro n;induction n with
  |zero=>
   intro k hk;have:bs.take k=bs:=zeg (by omega)
   rw[aq,this];simp only[fS,↓xo,aV (show¬(k:Int)<(bs.length:Int) by omega),zdG]
  |succ n ih=>
   intro k hk;have tC:k<bs.length:=by omega
   have hx:=zdL tC;obtain⟨pr,es,hp,O5⟩:=h.2 _ (zeT tC);generalize bs[k]=p at hx hp;have ld:=hp.oW;have ht:pH st (bs.take (k+1))=pH st (bs.take k)+(es.length:Int):=by
    unfold pH;rw[zfd,hx,zfo,kT];simp[ik,ld.1]
   obtain⟨m,rfl,hm⟩:=hp;have b1:=I6 h k;have e1:i64.wrap ((k:Int)+1)=((k+1:Nat):Int):=by rw[nL (by omega) (by have:=h.1;omega)];omega
   have e2:i64.wrap (c+pH st (bs.take k)+(es.length:Int))=c+pH st (bs.take (k+1)):=by rw[nL (by omega) (by omega),ht];omega
   have qV:=ih (k+1) (by omega)
   rw[aq];simp only[fS,↓xo,xw,ot (show(k:Int)<(bs.length:Int) by omega),ot (show 0<=(k:Int)/\(k:Int)<(bs.length:Int) by omega),zdH,zdI,hx,zdF,al,hm,dF,aE hm,e1,e2,qV]
 have:=key bs.length 0 (by omega)
 have e:c+pH st (bs.take 0)=c:=by simp[pH,ik]
 rw[e] at this;exact this
end
section
variable {hdr:Nk}{bs ss:List Nat}{st:List gR}{t i:Int}
theorem WD (h:CL st ss)(c:Int)(hc:0<=c/\c<=1000000000)(z:Int):ag (ff WX) (((),c,((),(),()),z,(),(ss.length:Int),0,()),hdr,bs,ss,st,())=some (((),c+pH st ss,((),(),()),z,()),hdr,bs,ss,st,()):=by
 have key: ∀n k:Nat,k+n=ss.length->ag (ff WX) (((),c+pH st (ss.take k),((),(),()),z,(),(ss.length:Int),(k:Int),()),hdr,bs,ss,st,())=some (((),c+pH st ss,((),(),()),z,()),hdr,bs,ss,st,()):=by
  intro n;induction n with
  |zero=>
   intro k hk;have:ss.take k=ss:=zeg (by omega)
   rw[aq,this];simp only[ff,↓xo,aV (show¬(k:Int)<(ss.length:Int) by omega),zdG]
  |succ n ih=>
   intro k hk;have tC:k<ss.length:=by omega
   have hx:=zdL tC;obtain⟨pr,es,hp,O5⟩:=h.2 _ (zeT tC);generalize ss[k]=p at hx hp;have ld:=hp.oW;have ht:pH st (ss.take (k+1))=pH st (ss.take k)+(es.length:Int):=by
    unfold pH;rw[zfd,hx,zfo,kT];simp[ik,ld.1]
   obtain⟨m,rfl,hm⟩:=hp;have b1:=I6 h k;have e1:i64.wrap ((k:Int)+1)=((k+1:Nat):Int):=by rw[nL (by omega) (by have:=h.1;omega)];omega
   have e2:i64.wrap (c+pH st (ss.take k)+(es.length:Int))=c+pH st (ss.take (k+1)):=by rw[nL (by omega) (by omega),ht];omega
   have qV:=ih (k+1) (by omega)
   rw[aq];simp only[ff,↓xo,xw,ot (show(k:Int)<(ss.length:Int) by omega),ot (show 0<=(k:Int)/\(k:Int)<(ss.length:Int) by omega),zdH,zdI,hx,zdF,al,hm,dF,aE hm,e1,e2,qV]
 have:=key ss.length 0 (by omega)
 have e:c+pH st (ss.take 0)=c:=by simp[pH,ik]
 rw[e] at this;exact this
theorem O6 (hb:CL st bs)(hs:CL st ss):iJ WX (((),()),(hdr,bs,ss,st,()))=some ((pH st bs+pH st ss,()),(hdr,bs,ss,st,())):=by
 have c1:=I6 hb bs.length;rw[zeX] at c1;have h1:=zag (hdr:=hdr) (ss:=ss) hb 0 (by omega) 0
 have h2:=WD (hdr:=hdr) (bs:=bs) hs (pH st bs) (by omega) 1
 have e0:(0:Int)<2:=by omega
 have e1:(1:Int)<2:=by omega
 have e2: ¬(2:Int)<2:=by omega
 have z0:(0:Int)=((0:Nat):Int):=rfl;have z1: ¬(1:Int)=((0:Nat):Int):=by omega
 have z2:(1:Int)=((1:Nat):Int):=rfl;have w1:i64.wrap (0+1)=1:=by rw[nL (by omega) (by omega)];rfl
 have w2:i64.wrap (1+1)=2:=by rw[nL (by omega) (by omega)];rfl
 rw[Int.zero_add] at h1;have hl:ag (fU WX) (((),0,((),(),()),0,()),hdr,bs,ss,st,())=some ((pH st bs+pH st ss,()),(hdr,bs,ss,st,())):=by
  rw[aq];simp only[fU,↓xo,xw,ot e0,zdH,ot z0,↓xl,h1,zdF,w1];rw[aq];simp only[fU,↓xo,xw,ot e1,zdH,aV z1,zdG,ot z2,↓xl,h2,zdF,w2];rw[aq];simp only[fU,↓xo,aV e2,zdG]
 simp only[iJ,↓xl,hl,zdF]
def qQ (st:List gR)(l:List Nat):List dP:=l.flatMap λp=>(dO st p).map (·.1)
theorem TN (l:List Nat):((qQ st l).length:Int)=pH st l:=by
 unfold qQ pH;induction l with
 |nil=>rfl
 |cons p l ih=>simp only[zet,zdP,zeQ,zeD,ik,zeB] at*;omega
theorem KH {l:List Nat}(h:CL st l)(k:Nat):(qQ st (l.take k)).length<=100000000:=by
 have h1:=TN (st:=st) (l.take k);have h2:=I6 h k;omega
theorem QV (h:CL st bs):ag (dS WX) (((),(),(),(bs.length:Int),0,()),hdr,bs,ss,[],st,())=some ((qQ st bs,()),hdr,bs,ss,st,()):=by
 have key: ∀n k:Nat,k+n=bs.length->ag (dS WX) (((),(),(),(bs.length:Int),(k:Int),()),hdr,bs,ss,qQ st (bs.take k),st,())=some ((qQ st bs,()),hdr,bs,ss,st,()):=by
  intro n;induction n with
  |zero=>
   intro k hk;have:bs.take k=bs:=zeg (by omega)
   rw[aq,this];simp only[dS,↓xo,aV (show¬(k:Int)<(bs.length:Int) by omega),zdG]
  |succ n ih=>
   intro k hk;have tC:k<bs.length:=by omega
   have hx:=zdL tC;obtain⟨pr,es,hp,O5⟩:=h.2 _ (zeT tC);generalize bs[k]=p at hx hp;have ld:=hp.oW;have ht:qQ st (bs.take (k+1))=qQ st (bs.take k)++es.map (·.1):=by
    unfold qQ;rw[zfd,hx,List.flatMap_append];simp[ld.1]
   have b1:=KH h k;obtain⟨m,rfl,hm⟩:=hp;have e1:i64.wrap ((k:Int)+1)=((k+1:Nat):Int):=by rw[nL (by omega) (by have:=h.1;omega)];omega
   have ho:=yK (es:=es) (hd:=(pr,(),())) (by omega)
   have qV:=ih (k+1) (by omega)
   rw[ht] at qV;rw[aq];simp only[dS,↓xo,xw,ot (show(k:Int)<(bs.length:Int) by omega),ot (show 0<=(k:Int)/\(k:Int)<(bs.length:Int) by omega),zdH,zdI,hx,zdF,al,hm,ho,aE hm,ot (show(((qQ st (bs.take k)).length+(es.map (·.1)).length:Nat):Int)*((72:Nat):Int)<=((room:Nat):Int) by rw[zeQ];unfold room;omega),e1,qV]
 have:=key bs.length 0 (by omega)
 exact this
theorem Nn (h:CL st ss):ag (dn WX) (((),(),(),(ss.length:Int),0,()),hdr,bs,ss,[],st,())=some ((qQ st ss,()),hdr,bs,ss,st,()):=by
 have key: ∀n k:Nat,k+n=ss.length->ag (dn WX) (((),(),(),(ss.length:Int),(k:Int),()),hdr,bs,ss,qQ st (ss.take k),st,())=some ((qQ st ss,()),hdr,bs,ss,st,()):=by
  intro n;induction n with
  |zero=>
   intro k hk;have:ss.take k=ss:=zeg (by omega)
   rw[aq,this];simp only[dn,↓xo,aV (show¬(k:Int)<(ss.length:Int) by omega),zdG]
  |succ n ih=>
   intro k hk;have tC:k<ss.length:=by omega
   have hx:=zdL tC;obtain⟨pr,es,hp,O5⟩:=h.2 _ (zeT tC);generalize ss[k]=p at hx hp;have ld:=hp.oW;have ht:qQ st (ss.take (k+1))=qQ st (ss.take k)++es.map (·.1):=by
    unfold qQ;rw[zfd,hx,List.flatMap_append];simp[ld.1]
   have b1:=KH h k;obtain⟨m,rfl,hm⟩:=hp;have e1:i64.wrap ((k:Int)+1)=((k+1:Nat):Int):=by rw[nL (by omega) (by have:=h.1;omega)];omega
   have ho:=yK (es:=es) (hd:=(pr,(),())) (by omega)
   have qV:=ih (k+1) (by omega)
   rw[ht] at qV;rw[aq];simp only[dn,↓xo,xw,ot (show(k:Int)<(ss.length:Int) by omega),ot (show 0<=(k:Int)/\(k:Int)<(ss.length:Int) by omega),zdH,zdI,hx,zdF,al,hm,ho,aE hm,ot (show(((qQ st (ss.take k)).length+(es.map (·.1)).length:Nat):Int)*((72:Nat):Int)<=((room:Nat):Int) by rw[zeQ];unfold room;omega),e1,qV]
 have:=key ss.length 0 (by omega)
 exact this
theorem DI (s:Int)(hs:s=1\/s=2)(x:Nk×List Nat×List Nat×List gR×Unit):eV WX (((),s,()),x)=some (if s=1 then .inr (.inl (((),()),x)) else .inr (.inr (((),()),x))):=by
 rcases hs with rfl|rfl
 ·have w:i64.wrap (1-1)=((0:Nat):Int):=by rw[nL (by omega) (by omega)];rfl
  simp only[eV,↓xo,xw,eq_self,iX,zdJ,zdG,w,zdH,if_true]
 ·have w:i64.wrap (2-1)=1:=by rw[nL (by omega) (by omega)];rfl
  have e1: ¬(2:Int)=1:=by omega
  have z1: ¬(1:Int)=((0:Nat):Int):=by omega
  have z2:(1:Int)=((1:Nat):Int):=rfl;simp only[eV,↓xo,xw,aV e1,zdK,zdH,eq_self,iX,zdJ,zdG,w,aV z1,ot z2,if_neg e1]
theorem zN (o:dP)(hs:Od.side o=1\/Od.side o=2)(x:Nk×List Nat×List Nat×List gR×Unit):ez WX (((),o,()),x)=some (if Od.side o=1 then .inr (.inr (((),()),x)) else .inr (.inl (((),()),x))):=by
 have w:i64.wrap (3-Od.side o)=3-Od.side o:=nL (by omega) (by omega)
 have h:=DI (3-Od.side o) (by omega) x
 rcases hs with h1|h1
 ·rw[if_neg (by omega)] at h
  simp only[ez,xw,w,h,zdF,if_pos h1]
 ·rw[if_pos (by omega)] at h
  have h2: ¬Od.side o=1:=by omega
  simp only[ez,xw,w,h,zdF,if_neg h2]
theorem No (hb:CL st bs)(hs:CL st ss)(s:Int)(h:s=1\/s=2):dM WX (((),s,()),(hdr,bs,ss,st,()))=some (.inr ((qQ st (if s=1 then bs else ss),()),(hdr,bs,ss,st,()))):=by
 have h0:=DI s h (hdr,bs,ss,st,());have h1:=QV (hdr:=hdr) (ss:=ss) hb;have h2:=Nn (hdr:=hdr) (bs:=bs) hs;by_cases e:s=1
 ·rw[if_pos e] at h0
  simp only[dM,h0,zdF,↓xl,h1,if_pos e]
 ·rw[if_neg e] at h0
  simp only[dM,h0,zdF,↓xl,h2,if_neg e]
end
def za (st:List gR)(l:List Nat):Prop:=CL st l/\∀p∈l,∀e∈dO st p,oM e
def qG (o:dP)(st:List gR):List Nat->Int->Bool
 | [],_=>false
 |p::ps,q=>if(!l9 o (gb st p))=true then false else if(mo o.2.2.1 (dO st p)).1>=q then true else if(mo o.2.2.1 (dO st p)).2=true then false else qG o st ps (q-(mo o.2.2.1 (dO st p)).1)
theorem CN (kr:Int){es:List oL}(hl:es.length<=1000000)(he: ∀e∈es,oM e):0<=(mo kr es).1/\(mo kr es).1<=1048576000000:=by
 unfold mo;split
 ·exact Fc he hl _
 ·have:=wW (l:=es.map λe=>Od.eD e.1) (m:=1048576) (λx hx=>by
   obtain⟨e,h1,rfl⟩:=List.mem_map.1 hx;have:=he e h1;unfold oM at this;omega)
  rw[zeQ] at this;refine⟨this.1,zfn this.2 ?_⟩;have:((es.length:Nat):Int)<=1000000:=by omega
  omega
def je (o:dP):Bool:=decide (Od.kind o=1)||decide (Od.kind o=5)
theorem jh (o:dP):kc WX ((o,()),())=some ((je o,()),()):=by
 unfold je;by_cases h:Od.kind o=1
 ·simp only[kc,↓xo,ot h,zdH,decide_eq_true h,Bool.true_or]
 ·simp only[kc,↓xo,aV h,zdG,decide_eq_false h,ze6,k0]
section
variable {hdr:Nk}{bs ss:List Nat}{st:List gR}{t i:Int}
theorem TO (h:za st bs)(o:dP): ∀(n k:Nat) (q:Int),k+n=bs.length->1<=q->q<=1048576->∃o',ag (df WX) (((),(),(),(bs.length:Int),(k:Int),()),hdr,bs,ss,Od.bP o q,st,())=some (if qG o st (bs.drop k) q then .inr ((true,()),hdr,o',bs,ss,st,()) else .inl ((),hdr,o',bs,ss,st,())):=by
 intro n;induction n with
 |zero=>
  intro k q hk h1 h2;have:bs.drop k=[]:=zfb (by omega)
  refine⟨Od.bP o q,?_⟩;rw[aq,this];simp only[df,↓xo,aV (show¬(k:Int)<(bs.length:Int) by omega),zdG,qG,zdN,if_false]
 |succ n ih=>
  intro k q hk h1 h2;have tC:k<bs.length:=by omega
  have hx:=zdL tC;have tJ:=zeT tC;obtain⟨pr,es,hp,O5⟩:=h.1.2 _ tJ;have mj:=h.2 _ tJ;have hd:bs.drop k=bs[k]::bs.drop (k+1):=zfq tC;generalize bs[k]=p at hx hp hd mj;have ld:=hp.oW;rw[ld.1] at mj;obtain⟨m,rfl,hm⟩:=hp;have e1:i64.wrap ((k:Int)+1)=((k+1:Nat):Int):=by rw[nL (by omega) (by have:=h.1.1;omega)];omega
  have hc:cP WX ((Od.bP o q,pr,()),())=some ((l9 o pr,()),()):=wc (Od.bP o q) pr;have hr:=KE (hd:=(pr,(),())) (es:=es) o.2.2.1 (by omega) mj
  rw[aq,hd];simp only[qG,ld.1,ld.2];cases Dm:l9 o pr with
  |false=>
   refine⟨Od.bP o q,?_⟩;rw[Dm] at hc;simp only[df,↓xo,ot (show(k:Int)<(bs.length:Int) by omega),ot (show 0<=(k:Int)/\(k:Int)<(bs.length:Int) by omega),zdH,zdI,hx,zdF,al,hm,ah,hc,zdK,zdN,if_false,if_true,aE hm,zdJ]
  |true=>
   rw[Dm] at hc;simp only[zdJ,zdN,if_false];have hq:(Od.bP o q).2.2.2.2.2.2.1=q:=rfl;have hf:(Od.bP o q).2.2.1=o.2.2.1:=rfl;have b0:=CN o.2.2.1 (es:=es) (by omega) mj
   by_cases rZ:(mo o.2.2.1 es).1>=q
   ·refine⟨Od.bP o q,?_⟩
    rw[if_pos rZ];simp only[df,↓xo,ot (show(k:Int)<(bs.length:Int) by omega),ot (show 0<=(k:Int)/\(k:Int)<(bs.length:Int) by omega),zdH,zdI,hx,zdF,al,hm,ah,hc,zdJ,zdG,aE hm,hf,hr,hq,ot rZ,if_true]
   ·rw[if_neg rZ]
    have w1:i64.wrap (q-(mo o.2.2.1 es).1)=q-(mo o.2.2.1 es).1:=nL (by omega) (by omega)
    cases tH:(mo o.2.2.1 es).2 with
    |true=>
     refine⟨Od.bP o (q-(mo o.2.2.1 es).1),?_⟩;simp only[df,↓xo,xw,ot (show(k:Int)<(bs.length:Int) by omega),ot (show 0<=(k:Int)/\(k:Int)<(bs.length:Int) by omega),zdH,zdI,hx,zdF,al,hm,ah,hc,zdJ,zdG,aE hm,hf,hr,hq,aV rZ,tH,w1,if_true,zdN,if_false]
     rfl
    |false=>
     obtain⟨o',qV⟩:=ih (k+1) (q-(mo o.2.2.1 es).1) (by omega) (by omega) (by omega)
     refine⟨o',?_⟩;simp only[Od.bP] at qV;simp only[df,↓xo,xw,ot (show(k:Int)<(bs.length:Int) by omega),ot (show 0<=(k:Int)/\(k:Int)<(bs.length:Int) by omega),zdH,zdI,hx,zdF,al,hm,ah,hc,zdJ,zdG,aE hm,hf,hr,hq,aV rZ,tH,w1,e1,zdN,if_false]
     simp only[Od.bP,qV]
theorem QW (h:za st ss)(o:dP): ∀(n k:Nat) (q:Int),k+n=ss.length->1<=q->q<=1048576->∃o',ag (cF WX) (((),(),(),(ss.length:Int),(k:Int),()),hdr,bs,ss,Od.bP o q,st,())=some (if qG o st (ss.drop k) q then .inr ((true,()),hdr,o',bs,ss,st,()) else .inl ((),hdr,o',bs,ss,st,())):=by
 intro n;induction n with
 |zero=>
  intro k q hk h1 h2;have:ss.drop k=[]:=zfb (by omega)
  refine⟨Od.bP o q,?_⟩;rw[aq,this];simp only[cF,↓xo,aV (show¬(k:Int)<(ss.length:Int) by omega),zdG,qG,zdN,if_false]
 |succ n ih=>
  intro k q hk h1 h2;have tC:k<ss.length:=by omega
  have hx:=zdL tC;have tJ:=zeT tC;obtain⟨pr,es,hp,O5⟩:=h.1.2 _ tJ;have mj:=h.2 _ tJ;have hd:ss.drop k=ss[k]::ss.drop (k+1):=zfq tC;generalize ss[k]=p at hx hp hd mj;have ld:=hp.oW;rw[ld.1] at mj;obtain⟨m,rfl,hm⟩:=hp;have e1:i64.wrap ((k:Int)+1)=((k+1:Nat):Int):=by rw[nL (by omega) (by have:=h.1.1;omega)];omega
  have hc:cP WX ((Od.bP o q,pr,()),())=some ((l9 o pr,()),()):=wc (Od.bP o q) pr;have hr:=KE (hd:=(pr,(),())) (es:=es) o.2.2.1 (by omega) mj
  rw[aq,hd];simp only[qG,ld.1,ld.2];cases Dm:l9 o pr with
  |false=>
   refine⟨Od.bP o q,?_⟩;rw[Dm] at hc;simp only[cF,↓xo,ot (show(k:Int)<(ss.length:Int) by omega),ot (show 0<=(k:Int)/\(k:Int)<(ss.length:Int) by omega),zdH,zdI,hx,zdF,al,hm,ah,hc,zdK,zdN,if_false,if_true,aE hm,zdJ]
  |true=>
   rw[Dm] at hc;simp only[zdJ,zdN,if_false];have hq:(Od.bP o q).2.2.2.2.2.2.1=q:=rfl;have hf:(Od.bP o q).2.2.1=o.2.2.1:=rfl;have b0:=CN o.2.2.1 (es:=es) (by omega) mj
   by_cases rZ:(mo o.2.2.1 es).1>=q
   ·refine⟨Od.bP o q,?_⟩
    rw[if_pos rZ];simp only[cF,↓xo,ot (show(k:Int)<(ss.length:Int) by omega),ot (show 0<=(k:Int)/\(k:Int)<(ss.length:Int) by omega),zdH,zdI,hx,zdF,al,hm,ah,hc,zdJ,zdG,aE hm,hf,hr,hq,ot rZ,if_true]
   ·rw[if_neg rZ]
    have w1:i64.wrap (q-(mo o.2.2.1 es).1)=q-(mo o.2.2.1 es).1:=nL (by omega) (by omega)
    cases tH:(mo o.2.2.1 es).2 with
    |true=>
     refine⟨Od.bP o (q-(mo o.2.2.1 es).1),?_⟩;simp only[cF,↓xo,xw,ot (show(k:Int)<(ss.length:Int) by omega),ot (show 0<=(k:Int)/\(k:Int)<(ss.length:Int) by omega),zdH,zdI,hx,zdF,al,hm,ah,hc,zdJ,zdG,aE hm,hf,hr,hq,aV rZ,tH,w1,if_true,zdN,if_false]
     rfl
    |false=>
     obtain⟨o',qV⟩:=ih (k+1) (q-(mo o.2.2.1 es).1) (by omega) (by omega) (by omega)
     refine⟨o',?_⟩;simp only[Od.bP] at qV;simp only[cF,↓xo,xw,ot (show(k:Int)<(ss.length:Int) by omega),ot (show 0<=(k:Int)/\(k:Int)<(ss.length:Int) by omega),zdH,zdI,hx,zdF,al,hm,ah,hc,zdJ,zdG,aE hm,hf,hr,hq,aV rZ,tH,w1,e1,zdN,if_false]
     simp only[Od.bP,qV]
theorem CO (o:dP):Od.bP o (Od.eD o)=o:=rfl
theorem QX (hb:za st bs)(hs:za st ss)(o:dP)(Md:Od.side o=1\/Od.side o=2)(hq:1<=Od.eD o/\Od.eD o<=1048576):eG WX (((),o,()),(hdr,bs,ss,st,()))=some ((qG o st (if Od.side o=1 then ss else bs) (Od.eD o),()),(hdr,bs,ss,st,())):=by
 have ha:=zN o Md (hdr,bs,ss,st,());by_cases h1:Od.side o=1
 ·obtain⟨o',h⟩:=QW (hdr:=hdr) (bs:=bs) hs o ss.length 0 (Od.eD o) (by omega) hq.1 hq.2
  change ag (cF WX) (((),(),(),(ss.length:Int),0,()),hdr,bs,ss,o,st,())=_ at h;rw[zfg] at h;rw[if_pos h1] at ha;rw[if_pos h1];simp only[eG,ha,zdF,↓xl,h];cases qG o st ss (Od.eD o)<;>rfl
 ·obtain⟨o',h⟩:=TO (hdr:=hdr) (ss:=ss) hb o bs.length 0 (Od.eD o) (by omega) hq.1 hq.2
  change ag (df WX) (((),(),(),(bs.length:Int),0,()),hdr,bs,ss,o,st,())=_ at h;rw[zfg] at h;rw[if_neg h1] at ha;rw[if_neg h1];simp only[eG,ha,zdF,↓xl,h];cases qG o st bs (Od.eD o)<;>rfl
end
def zO (hs:List oL):Prop:= ∀h∈hs,1<=h.2.1
def jH (hs:List oL):Int:=ik (hs.map λh=>h.2.1)
theorem Gu (a b:List oL):jH (a++b)=jH a+jH b:=by unfold jH;rw[zfo,kT]
theorem Fi (kr:Int): ∀(k:Nat) (q:Int) (es out:List oL),0<=q->q<=k->(∀e∈es,oM e)->zO out->
  zO (fZ kr k q es out).2.1/\jH (fZ kr k q es out).2.1+(fZ kr k q es out).2.2.2=jH out+q/\0<=(fZ kr k q es out).2.2.2/\(fZ kr k q es out).2.2.2<=q/\(∀e∈(fZ kr k q es out).2.2.1,oM e)/\(fZ kr k q es out).2.2.1.length<=es.length/\
   ((fZ kr k q es out).1=true->(fZ kr k q es out).2.2.1≠ [])/\((fZ kr k q es out).1=false->(fZ kr k q es out).2.2.2=0\/(fZ kr k q es out).2.2.1=[])/\(fZ kr k q es out).2.1.length<=out.length+k:=by
 intro k;induction k with
 |zero=>
  intro q es out h0 hq he ho;unfold fZ;exact⟨ho,rfl,h0,zeL _,he,zd2 _,λh=>(by cases h),λ_=> .inl (by show q=0;omega),zd2 _⟩
 |succ k ih=>
  intro q es out h0 hq he ho;unfold fZ;by_cases hq0:q>0
  ·rw[if_pos hq0]
   cases es with
   |nil=>exact⟨ho,rfl,h0,zeL _,he,zd2 _,λh=>(by cases h),λ_=> .inr rfl,by show out.length<=_;omega⟩
   |cons e r=>
    simp only;by_cases hf:e.1.2.2.1=kr
    ·rw[if_pos hf]
     exact⟨ho,rfl,h0,zeL _,he,zd2 _,λ_=>(λh=>by cases h),λh=>(by cases h),by show out.length<=_;omega⟩
    ·rw[if_neg hf]
     have hee:=he e (zdT ..);have H5:1<=min q e.2.1:=by have:=hee.1;omega
     have Dv:min q e.2.1<=e.2.1:=by omega
     have hg:=KD hee (λx hx=>he x (zdS _ hx)) H5 Dv;have na:zO (out++ [(e.1,min q e.2.1,())]):=λh hh=>by
      rcases List.mem_append.1 hh with hh|hh
      ·exact ho h hh
      ·rw[ze4] at hh;subst hh;exact H5
     obtain⟨i1,i2,i3,i4,i5,i6,i7,i8,i9⟩:=ih (q-min q e.2.1) (zk e r (min q e.2.1)) (out++ [(e.1,min q e.2.1,())]) (by omega) (by omega) hg.1 na
     have hs:jH (out++ [(e.1,min q e.2.1,())])=jH out+min q e.2.1:=by rw[Gu];simp[jH,ik]
     rw[hs] at i2;refine⟨i1,by omega,i3,by omega,i5,?_,i7,i8,?_⟩
     ·have:=hg.2;simp only[zdQ];omega
     ·rw[zdP] at i9;simp only[zdQ,zdR] at i9;omega
  ·rw[if_neg hq0]
   exact⟨ho,rfl,h0,zeL _,he,zd2 _,λh=>(by cases h),λ_=> .inl (by show q=0;omega),by show out.length<=_;omega⟩
def mV (aZ:Int):List oL->Int×dP×List mS->Int×dP×List mS
 | [],s=>s
 |h::r,(no,o,out)=>mV aZ r (i64.wrap (no+1),Od.bP o (Od.eD o-h.2.1),out++ [(h.1,o,aZ,h.2.1,i64.wrap (no+1),())])
def rO (aZ last:Int)(hs:List oL):Int:=if hs=[] then last else aZ
section
variable {bs ss:List Nat}{st:List gR}
theorem Yg (aZ:Int)(own:Bool): ∀(hs:List oL) (pre:List oL) (last no:Int) (o:dP) (out:List mS),zO hs->jH hs<=Od.eD o->Od.eD o<=1048576->(pre++hs).length<=2000000->out.length+hs.length<=100000000->
  ag (cK WX) (((),(),(),(),aZ,own,pre++hs,((pre++hs).length:Int),(pre.length:Int),()),(((),(),()),last,no,()),bs,ss,o,out,st,())=
   some (((),(),(),(),own,()),(((),(),()),rO aZ last hs,(mV aZ hs (no,o,out)).1,()),(mV aZ hs (no,o,out)).2.1,bs,ss,(mV aZ hs (no,o,out)).2.2,st,()):=by
 intro hs;induction hs with
 |nil=>
  intro pre last no o out _ _ _ _ _;rw[aq];simp only[cK,↓xo,ze7,aV (show¬(pre.length:Int)<(pre.length:Int) by omega),zdG,mV,rO,if_true]
 |cons h r ih=>
  intro pre last no o out hh hs hq hl ho;have h1:=hh h (zdT ..);have XN:jH (h::r)=h.2.1+jH r:=by simp[jH,ik]
  have hr0:0<=jH r:=by
   unfold jH;have: ∀l:List oL,zO l->0<=ik (l.map λh=>h.2.1):=by
    intro l;induction l with
    |nil=>intro _;simp[ik]
    |cons x l ihl=>
     intro hx;have a:=hx x (zdT ..);have b:=ihl λy hy=>hx y (zdS _ hy);simp only[zeD,ik,zeB] at*;omega
   exact this r λx hx=>hh x (zdS _ hx)
  rw[XN] at hs;have hx:(pre++h::r)[pre.length]?=some h:=by simp
  have hlen:(pre++h::r).length=pre.length+(r.length+1):=by simp
  have e1:i64.wrap ((pre.length:Int)+1)=(((pre++ [h]).length:Nat):Int):=by rw[nL (by omega) (by omega),zdP];simp
  have w1:i64.wrap (o.2.2.2.2.2.2.1-h.2.1)=Od.eD o-h.2.1:=by
   show i64.wrap (Od.eD o-h.2.1)=_
   exact nL (by omega) (by omega)
  have hpp:pre++h::r=(pre++ [h])++r:=by simp
  have hl1:rO aZ aZ r=aZ:=by unfold rO;split<;>rfl
  have hl2:rO aZ last (h::r)=aZ:=by unfold rO;rw[if_neg (by intro e;cases e)]
  have uL:Od.eD (Od.bP o (Od.eD o-h.2.1))=Od.eD o-h.2.1:=rfl;have qV:=ih (pre++ [h]) aZ (i64.wrap (no+1)) (Od.bP o (Od.eD o-h.2.1)) (out++ [(h.1,o,aZ,h.2.1,i64.wrap (no+1),())]) (λx hx=>hh x (zdS _ hx)) (by rw[uL];omega) (by rw[uL];omega) (by rw[<-hpp];exact hl) (by rw[zdP];simp only[zdQ,zdR] at*;omega)
  rw[<-hpp,hl1] at qV;simp only[Od.bP] at qV;have qj:(((out.length+([(h.1,o,aZ,h.2.1,i64.wrap (no+1),())]:List mS).length:Nat):Int))*((168:Nat):Int)<=((room:Nat):Int):=by
   unfold room;simp only[zdQ,zdR] at*;omega
  rw[aq];simp only[cK,↓xo,xw,ot (show(pre.length:Int)<((pre++h::r).length:Int) by omega),ot (show(0:Int)<=(pre.length:Int) by omega),zdH,zdI,hx,zdF,ot qj,e1,w1,qV,mV,hl2,Od.bP]
theorem Np:eJ WX=cK WX:=rfl
theorem BV (aZ:Int): ∀(hs:List oL) (no:Int) (o:dP) (out:List mS),∃q,(mV aZ hs (no,o,out)).2.1=Od.bP o q/\q=Od.eD o-jH hs
 | [],no,o,out=>⟨Od.eD o,rfl,by simp[jH,ik]⟩
 |h::r,no,o,out=>by
  obtain⟨q,h1,h2⟩:=BV aZ r (i64.wrap (no+1)) (Od.bP o (Od.eD o-h.2.1)) (out++ [(h.1,o,aZ,h.2.1,i64.wrap (no+1),())]);refine⟨q,h1,?_⟩;have:jH (h::r)=h.2.1+jH r:=by simp[jH,ik]
  rw[this,h2];show Od.eD o-h.2.1-jH r=_
  omega
end
def il (o:dP):List Nat->List gR->Int->Int->Int->List mS->Bool×Int×List Nat×List gR×Int×Int×List mS
 | [],st,q,last,no,out=>(false,q,[],st,last,no,out)
 |p::ps,st,q,last,no,out=>
  if q>0/\l9 o (gb st p)=true then
   (if(fZ o.2.2.1 q.toNat q (dO st p) []).1=true then(true,(fZ o.2.2.1 q.toNat q (dO st p) []).2.2.2,p::ps,kD st p (fZ o.2.2.1 q.toNat q (dO st p) []).2.2.1,rO (gb st p) last (fZ o.2.2.1 q.toNat q (dO st p) []).2.1,(mV (gb st p) (fZ o.2.2.1 q.toNat q (dO st p) []).2.1 (no,Od.bP o q,out)).1,(mV (gb st p) (fZ o.2.2.1 q.toNat q (dO st p) []).2.1 (no,Od.bP o q,out)).2.2)
   else if(fZ o.2.2.1 q.toNat q (dO st p) []).2.2.1=[] then il o ps (kD st p (fZ o.2.2.1 q.toNat q (dO st p) []).2.2.1) (fZ o.2.2.1 q.toNat q (dO st p) []).2.2.2 (rO (gb st p) last (fZ o.2.2.1 q.toNat q (dO st p) []).2.1) (mV (gb st p) (fZ o.2.2.1 q.toNat q (dO st p) []).2.1 (no,Od.bP o q,out)).1 (mV (gb st p) (fZ o.2.2.1 q.toNat q (dO st p) []).2.1 (no,Od.bP o q,out)).2.2
   else(false,(fZ o.2.2.1 q.toNat q (dO st p) []).2.2.2,p::ps,kD st p (fZ o.2.2.1 q.toNat q (dO st p) []).2.2.1,rO (gb st p) last (fZ o.2.2.1 q.toNat q (dO st p) []).2.1,(mV (gb st p) (fZ o.2.2.1 q.toNat q (dO st p) []).2.1 (no,Od.bP o q,out)).1,(mV (gb st p) (fZ o.2.2.1 q.toNat q (dO st p) []).2.1 (no,Od.bP o q,out)).2.2))
  else(false,q,p::ps,st,last,no,out)
theorem KI {hs:List oL}(h:zO hs):(hs.length:Int)<=jH hs:=by
 unfold jH;induction hs with
 |nil=>simp[ik]
 |cons x l ih=>
  have a:=h x (zdT ..);have b:=ih λy hy=>h y (zdS _ hy);simp only[zeD,ik,zeB,zdQ] at*;omega
theorem BW (aZ:Int): ∀(hs:List oL) (no:Int) (o:dP) (out:List mS),(mV aZ hs (no,o,out)).2.2.length=out.length+hs.length
 | [],_,_,_=>rfl
 |h::r,no,o,out=>by
  simp only[mV];rw[BW aZ r];simp only[zdP,zdQ,zdR];omega
theorem Fj {st:List gR}{p q:Nat}{oA:List oL}(mb:q≠p)(hp:p≠0):dO (kD st p oA) q=dO st q:=by
 cases q with
 |zero=>rfl
 |succ n=>
  unfold kD dO;simp only[zdW];rw[zek (by omega)]
theorem Hj {st:List gR}{p:Nat}{ps:List Nat}{oA:List oL}(hk:za st (p::ps))(hn:(p::ps).Nodup):za (kD st p oA) ps:=by
 have hnp:=(List.nodup_cons.1 hn).1;obtain⟨pr,es,hp,_⟩:=hk.1.2 p (zdT ..);have hp0:p≠0:=by obtain⟨n,rfl,_⟩:=hp;omega
 refine⟨⟨by have:=hk.1.1;simp only[zdQ] at this;omega,λq hq=>?_⟩,λq hq e he=>?_⟩
 ·obtain⟨WE,TP,h1,h2⟩:=hk.1.2 q (zdS _ hq)
  exact⟨WE,TP,h1.tY (by rintro rfl;exact hnp hq) hp0,h2⟩
 ·rw[Fj (by rintro rfl;exact hnp hq) hp0] at he
  exact hk.2 q (zdS _ hq) e he
section
variable {bs ss:List Nat}
theorem zah {hdr:Nk}{bs ss:List Nat}{st:List gR}{m p:Nat}{pr:Int}{es:List oL}(l0:bs[m]?=some p)(hp:tM st p pr es)(hl:bs.length<=1000):jz WX (((),(m:Int),()),(hdr,bs,ss,st,()))=some ((),(hdr,mU bs m es,ss,st,())):=KF l0 hp hl
theorem zai {hdr:Nk}{bs ss:List Nat}{st:List gR}{m p:Nat}{pr:Int}{es:List oL}(l0:ss[m]?=some p)(hp:tM st p pr es)(hl:ss.length<=1000):gK WX (((),(m:Int),()),(hdr,bs,ss,st,()))=some ((),(hdr,bs,mU ss m es,st,())):=Hi l0 hp hl
theorem TQ (o:dP): ∀(l:List Nat) (st:List gR) (q last no:Int) (out:List mS),0<=q->q<=1048576->(out.length:Int)+q<=50000000->za st l->l.Nodup->
  ag (bX WX) (((),(),(),(),()),(((),(),()),last,no,()),l,ss,Od.bP o q,out,st,())=
   some (if(il o l st q last no out).1=true then .inl (((),(il o l st q last no out).2.1,true,()),(((),(),()),(il o l st q last no out).2.2.2.2.1,(il o l st q last no out).2.2.2.2.2.1,()),Od.bP o (il o l st q last no out).2.1,(il o l st q last no out).2.2.1,ss,(il o l st q last no out).2.2.2.2.2.2,(il o l st q last no out).2.2.2.1,())
    else .inr (((),(il o l st q last no out).2.2.2.2.2.2,()),(((),(),()),(il o l st q last no out).2.2.2.2.1,(il o l st q last no out).2.2.2.2.2.1,()),Od.bP o (il o l st q last no out).2.1,(il o l st q last no out).2.2.1,ss,(il o l st q last no out).2.2.2.1,())):=by
 intro l;have z:(0:Int).toNat=0:=rfl;induction l with
 |nil=>
  intro st q last no out h0 h1 ho hk hn;rw[aq];have hz: ¬((([]:List Nat).length:Nat):Int)>0:=by simp
  by_cases hq:q>0
  ·have uL:(Od.bP o q).2.2.2.2.2.2.1>0:=hq
   simp only[bX,↓xo,ot uL,zdH,aV hz,zdG,il,zdN,if_false]
  ·have uL: ¬(Od.bP o q).2.2.2.2.2.2.1>0:=hq
   simp only[bX,↓xo,aV uL,zdG,il,zdN,if_false]
 |cons p ps ih=>
  intro st q last no out h0 h1 ho hk hn;have i0:0<=(0:Int)/\(0:Int)<(((p::ps).length:Nat):Int):=by simp only[zdQ];omega
  have i1:(((p::ps).length:Nat):Int)>0:=i0.2;rw[aq];by_cases hq:q>0
  ·have uL:(Od.bP o q).2.2.2.2.2.2.1>0:=hq
   obtain⟨pr,es,hp,O5⟩:=hk.1.2 p (zdT ..);have mj:=hk.2 p (zdT ..);have ld:=hp.oW;rw[ld.1] at mj;have hc:cP WX ((Od.bP o q,pr,()),())=some ((l9 o pr,()),()):=wc (Od.bP o q) pr;have zaj: ∀oA,tM (kD st p oA) p pr oA:=λoA=>hp.put;have Yh:=hp;obtain⟨m,rfl,hm⟩:=Yh;have Dl: ∀oA,kD st (m+1) oA=st.set m ((pr,(),()),oA,()):=λoA=>by unfold kD;rw[ld.2];rfl
   cases Dm:l9 o pr with
   |false=>
    rw[Dm] at hc;simp only[bX,↓xo,ot uL,ot i1,ot i0,z,zei,zdH,zdF,al,hm,ah,hc,zdG,aE hm,il,ld.2,Dm,zdN,and_false,if_false]
   |true=>
    rw[Dm] at hc;have ht:=O0 (hd:=(pr,(),())) (es:=es) o.2.2.1 h0 h1 (by have:=hk.1.1;have:=O5;omega) mj
    obtain⟨t1,t2,t3,t4,t5,t6,t7,t8,t9⟩:=Fi o.2.2.1 q.toNat q es [] h0 (by omega) mj (λh hh=>by cases hh)
    have hf:(Od.bP o q).2.2.1=o.2.2.1:=rfl;have hqq:(Od.bP o q).2.2.2.2.2.2.1=q:=rfl;simp only[il,ld.1,ld.2,Dm,and_true,if_pos hq];generalize fZ o.2.2.1 q.toNat q es []=T at*;obtain⟨own,rH,oA,q'⟩:=T;simp only at*;have Vn:jH rH=q-q':=by have:jH ([]:List oL)=0:=rfl;omega
    have hlen:=KI t1;have h7:=Yg (bs:=(m+1)::ps) (ss:=ss) (st:=st.set m ((pr,(),()),oA,())) pr own rH [] last no (Od.bP o q) out t1 (by show jH rH<=q;omega) (by show q<=1048576;omega) (by simp only[zeG];omega) (by omega)
    obtain⟨q2,e1,e2⟩:=BV pr rH no (Od.bP o q) out;have e3:q2=q':=by rw[e2];show q-jH rH=q';omega
    rw[e3] at e1;have YI:=BW pr rH no (Od.bP o q) out;generalize mV pr rH (no,Od.bP o q,out)=H at*;obtain⟨Ve,oo,xB⟩:=H;simp only at*;subst e1;rw[zeG] at h7;change ag (cK WX) (((),(),(),(),pr,own,rH,(rH.length:Int),0,()),_,_,_,_,_,_,())=_ at h7;have Fh:=zah (hdr:=(((),(),()),rO pr last rH,Ve,())) (ss:=ss) (bs:=(m+1)::ps) (m:=0) (p:=m+1) (es:=oA) (l0:=rfl) (zaj oA) hk.1.1;rw[Dl] at Fh;change jz WX (((),0,()),_)=_ at Fh;cases own with
    |true=>
     have mb:=t7 rfl;have TR:mU ((m+1)::ps) 0 oA=(m+1)::ps:=by unfold mU;rw[if_neg mb]
     rw[TR] at Fh;simp only[if_true] at ht;simp only[bX,↓xo,ot uL,ot i1,ot i0,z,zei,zdH,zdF,al,hm,ah,hc,aE hm,hf,hqq,ot hq,ht,↓xl,h7,Fh,if_true,Dl];rfl
    |false=>
     simp only[zdN,if_false] at ht⊢;by_cases mb:oA=[]
     ·subst mb
      have TR:mU ((m+1)::ps) 0 []=ps:=by unfold mU;rw[if_pos rfl];rfl
      rw[TR] at Fh;have PM:=Hj (oA:=[]) hk hn;rw[Dl] at PM;have qV:=ih (st.set m ((pr,(),()),[],())) q' (rO pr last rH) Ve xB t3 (by omega) (by omega) PM (List.nodup_cons.1 hn).2
      simp only[bX,↓xo,ot uL,ot i1,ot i0,z,zei,zdH,zdF,al,hm,ah,hc,aE hm,hf,hqq,ot hq,ht,↓xl,h7,Fh,zdG,Dl,if_true];exact qV
     ·have TR:mU ((m+1)::ps) 0 oA=(m+1)::ps:=by unfold mU;rw[if_neg mb]
      rw[TR] at Fh;have hq0:q'=0:=(t8 rfl).resolve_right mb;subst hq0;simp only[bX,↓xo,ot uL,ot i1,ot i0,z,zei,zdH,zdF,al,hm,ah,hc,aE hm,hf,hqq,ot hq,ht,↓xl,h7,Fh,zdG,Dl,if_neg mb];rw[aq];have hz: ¬(Od.bP o 0).2.2.2.2.2.2.1>0:=by show¬(0:Int)>0;omega
      simp only[bX,↓xo,Od.bP] at hz⊢;simp only[aV hz,zdG,zdN,if_false]
  ·have uL: ¬(Od.bP o q).2.2.2.2.2.2.1>0:=hq
   have: ¬(q>0/\l9 o (gb st p)=true):=λh=>hq h.1;simp only[bX,↓xo,aV uL,zdG,il,if_neg this,zdN,if_false]
end
section
variable {bs ss:List Nat}
theorem QY (o:dP): ∀(l:List Nat) (st:List gR) (q last no:Int) (out:List mS),0<=q->q<=1048576->(out.length:Int)+q<=50000000->za st l->l.Nodup->
  ag (bN WX) (((),(),(),(),()),(((),(),()),last,no,()),bs,l,Od.bP o q,out,st,())=
   some (if(il o l st q last no out).1=true then .inl (((),(il o l st q last no out).2.1,true,()),(((),(),()),(il o l st q last no out).2.2.2.2.1,(il o l st q last no out).2.2.2.2.2.1,()),Od.bP o (il o l st q last no out).2.1,bs,(il o l st q last no out).2.2.1,(il o l st q last no out).2.2.2.2.2.2,(il o l st q last no out).2.2.2.1,())
    else .inr (((),(il o l st q last no out).2.2.2.2.2.2,()),(((),(),()),(il o l st q last no out).2.2.2.2.1,(il o l st q last no out).2.2.2.2.2.1,()),Od.bP o (il o l st q last no out).2.1,bs,(il o l st q last no out).2.2.1,(il o l st q last no out).2.2.2.1,())):=by
 intro l;have z:(0:Int).toNat=0:=rfl;induction l with
 |nil=>
  intro st q last no out h0 h1 ho hk hn;rw[aq];have hz: ¬((([]:List Nat).length:Nat):Int)>0:=by simp
  by_cases hq:q>0
  ·have uL:(Od.bP o q).2.2.2.2.2.2.1>0:=hq
   simp only[bN,↓xo,ot uL,zdH,aV hz,zdG,il,zdN,if_false]
  ·have uL: ¬(Od.bP o q).2.2.2.2.2.2.1>0:=hq
   simp only[bN,↓xo,aV uL,zdG,il,zdN,if_false]
 |cons p ps ih=>
  intro st q last no out h0 h1 ho hk hn;have i0:0<=(0:Int)/\(0:Int)<(((p::ps).length:Nat):Int):=by simp only[zdQ];omega
  have i1:(((p::ps).length:Nat):Int)>0:=i0.2;rw[aq];by_cases hq:q>0
  ·have uL:(Od.bP o q).2.2.2.2.2.2.1>0:=hq
   obtain⟨pr,es,hp,O5⟩:=hk.1.2 p (zdT ..);have mj:=hk.2 p (zdT ..);have ld:=hp.oW;rw[ld.1] at mj;have hc:cP WX ((Od.bP o q,pr,()),())=some ((l9 o pr,()),()):=wc (Od.bP o q) pr;have zaj: ∀oA,tM (kD st p oA) p pr oA:=λoA=>hp.put;have Yh:=hp;obtain⟨m,rfl,hm⟩:=Yh;have Dl: ∀oA,kD st (m+1) oA=st.set m ((pr,(),()),oA,()):=λoA=>by unfold kD;rw[ld.2];rfl
   cases Dm:l9 o pr with
   |false=>
    rw[Dm] at hc;simp only[bN,↓xo,ot uL,ot i1,ot i0,z,zei,zdH,zdF,al,hm,ah,hc,zdG,aE hm,il,ld.2,Dm,zdN,and_false,if_false]
   |true=>
    rw[Dm] at hc;have ht:=O0 (hd:=(pr,(),())) (es:=es) o.2.2.1 h0 h1 (by have:=hk.1.1;have:=O5;omega) mj
    obtain⟨t1,t2,t3,t4,t5,t6,t7,t8,t9⟩:=Fi o.2.2.1 q.toNat q es [] h0 (by omega) mj (λh hh=>by cases hh)
    have hf:(Od.bP o q).2.2.1=o.2.2.1:=rfl;have hqq:(Od.bP o q).2.2.2.2.2.2.1=q:=rfl;simp only[il,ld.1,ld.2,Dm,and_true,if_pos hq];generalize fZ o.2.2.1 q.toNat q es []=T at*;obtain⟨own,rH,oA,q'⟩:=T;simp only at*;have Vn:jH rH=q-q':=by have:jH ([]:List oL)=0:=rfl;omega
    have hlen:=KI t1;have h7:=Yg (bs:=bs) (ss:=(m+1)::ps) (st:=st.set m ((pr,(),()),oA,())) pr own rH [] last no (Od.bP o q) out t1 (by show jH rH<=q;omega) (by show q<=1048576;omega) (by simp only[zeG];omega) (by omega)
    obtain⟨q2,e1,e2⟩:=BV pr rH no (Od.bP o q) out;have e3:q2=q':=by rw[e2];show q-jH rH=q';omega
    rw[e3] at e1;have YI:=BW pr rH no (Od.bP o q) out;generalize mV pr rH (no,Od.bP o q,out)=H at*;obtain⟨Ve,oo,xB⟩:=H;simp only at*;subst e1;rw[zeG] at h7;change ag (cK WX) (((),(),(),(),pr,own,rH,(rH.length:Int),0,()),_,_,_,_,_,_,())=_ at h7;have Fh:=zai (hdr:=(((),(),()),rO pr last rH,Ve,())) (bs:=bs) (ss:=(m+1)::ps) (m:=0) (p:=m+1) (es:=oA) (l0:=rfl) (zaj oA) hk.1.1;rw[Dl] at Fh;change gK WX (((),0,()),_)=_ at Fh;cases own with
    |true=>
     have mb:=t7 rfl;have TR:mU ((m+1)::ps) 0 oA=(m+1)::ps:=by unfold mU;rw[if_neg mb]
     rw[TR] at Fh;simp only[if_true] at ht;simp only[bN,↓xo,ot uL,ot i1,ot i0,z,zei,zdH,zdF,al,hm,ah,hc,aE hm,hf,hqq,ot hq,ht,↓xl,Np,h7,Fh,if_true,Dl];rfl
    |false=>
     simp only[zdN,if_false] at ht⊢;by_cases mb:oA=[]
     ·subst mb
      have TR:mU ((m+1)::ps) 0 []=ps:=by unfold mU;rw[if_pos rfl];rfl
      rw[TR] at Fh;have PM:=Hj (oA:=[]) hk hn;rw[Dl] at PM;have qV:=ih (st.set m ((pr,(),()),[],())) q' (rO pr last rH) Ve xB t3 (by omega) (by omega) PM (List.nodup_cons.1 hn).2
      simp only[bN,↓xo,ot uL,ot i1,ot i0,z,zei,zdH,zdF,al,hm,ah,hc,aE hm,hf,hqq,ot hq,ht,↓xl,Np,h7,Fh,zdG,Dl,if_true];exact qV
     ·have TR:mU ((m+1)::ps) 0 oA=(m+1)::ps:=by unfold mU;rw[if_neg mb]
      rw[TR] at Fh;have hq0:q'=0:=(t8 rfl).resolve_right mb;subst hq0;simp only[bN,↓xo,ot uL,ot i1,ot i0,z,zei,zdH,zdF,al,hm,ah,hc,aE hm,hf,hqq,ot hq,ht,↓xl,Np,h7,Fh,zdG,Dl,if_neg mb];rw[aq];have hz: ¬(Od.bP o 0).2.2.2.2.2.2.1>0:=by show¬(0:Int)>0;omega
      simp only[bN,↓xo,Od.bP] at hz⊢;simp only[aV hz,zdG,zdN,if_false]
  ·have uL: ¬(Od.bP o q).2.2.2.2.2.2.1>0:=hq
   have: ¬(q>0/\l9 o (gb st p)=true):=λh=>hq h.1;simp only[bN,↓xo,aV uL,zdG,il,if_neg this,zdN,if_false]
theorem QZ {st:List gR}(hb:za st bs)(hs:za st ss)(hnb:bs.Nodup)(vi:ss.Nodup)(o:dP)(last no:Int)(Md:Od.side o=1\/Od.side o=2)(hq:0<=Od.eD o/\Od.eD o<=1048576):
  ∃M,M=il o (if Od.side o=1 then ss else bs) st (Od.eD o) last no []/\iw WX (((),o,()),((((),(),()),last,no,()),bs,ss,st,()))=
   some (if M.1=true then .inl (((),M.2.1,true,()),(((),(),()),M.2.2.2.2.1,M.2.2.2.2.2.1,()),(if Od.side o=1 then bs else M.2.2.1),(if Od.side o=1 then M.2.2.1 else ss),M.2.2.2.2.2.2,M.2.2.2.1,())
    else .inr ((M.2.2.2.2.2.2,M.2.1,false,()),((((),(),()),M.2.2.2.2.1,M.2.2.2.2.2.1,()),(if Od.side o=1 then bs else M.2.2.1),(if Od.side o=1 then M.2.2.1 else ss),M.2.2.2.1,()))):=by
 refine⟨_,rfl,?_⟩;have ha:=zN o Md ((((),(),()),last,no,()),bs,ss,st,());by_cases h1:Od.side o=1
 ·have h:=QY (bs:=bs) o ss st (Od.eD o) last no [] hq.1 hq.2 (by simp only[zdR];omega) hs vi
  rw[CO] at h;simp only[if_pos h1] at ha⊢;simp only[iw,ha,zdF,↓xl,h];cases (il o ss st (Od.eD o) last no []).1<;>rfl
 ·have h:=TQ (ss:=ss) o bs st (Od.eD o) last no [] hq.1 hq.2 (by simp only[zdR];omega) hb hnb
  rw[CO] at h;simp only[if_neg h1] at ha⊢;simp only[iw,ha,zdF,↓xl,h];cases (il o bs st (Od.eD o) last no []).1<;>rfl
end
theorem uw {n lo hi:Int}(h:F2 n lo hi=true):lo<=n/\n<=hi:=by
 unfold F2 at h;simp only[zdO,zdU] at h;exact h
structure Hk (o:dP):Prop where
 side:Od.side o=1\/Od.side o=2
 kind:1<=Od.kind o/\Od.kind o<=5
 eD:1<=Od.eD o/\Od.eD o<=1048576
 zds:0<=Od.show o/\Od.show o<=Od.eD o
 qH:0<=o.1/\o.1<=31
 kr:0<=o.2.2.1/\o.2.2.1<=7
 aZ:(Od.kind o=2/\Od.aZ o=0)\/(¬Od.kind o=2/\1<=Od.aZ o/\Od.aZ o<=1048576)
theorem qR {o:dP}(h:oy o=true):Hk o:=by
 unfold oy at h;simp only[zdO] at h;obtain⟨h1,h2,⟨h3,h4,h5⟩,⟨h6,h7,h8⟩,h9,GH⟩:=h;have a:=uw h6;refine⟨by omega,uw h7,uw h8,uw h9,uw h3,uw h4,?_⟩
 by_cases hk:Od.kind o=2
 ·rw[decide_eq_true hk,zdH] at h1
  exact .inl ⟨hk,of_decide_eq_true h1⟩
 ·rw[decide_eq_false hk,zdG] at h1
  exact .inr ⟨hk,uw h1⟩
section
variable {hdr:Nk}{bs ss:List Nat}{st:List gR}
def tF (o:dP)(st:List gR)(l:List Nat):Int:=
 if(decide (Od.kind o=5)&&match l with| []=>false|p::_=>l9 o (gb st p))=true then 11
 else if(decide (Od.kind o=4)&&!qG o st l (Od.eD o))=true then 12 else 0
def WG (o:dP)(bs ss:List Nat)(st:List gR):Int:=
 if(!oy o)=true then 1 else if¬Od.stop o=0 then 1 else if(kt o.1 o.2.1 st bs).isSome=true\/(kt o.1 o.2.1 st ss).isSome=true then 5
 else if je o=true/\pH st bs+pH st ss>=64 then 4 else tF o st (if Od.side o=1 then ss else bs)
theorem KJ (hb:za st bs)(hs:za st ss)(o:dP):az WX (((),o,()),(hdr,bs,ss,st,()))=some ((WG o bs ss st,()),(hdr,bs,ss,st,())):=by
 unfold WG;have WH: ¬(1:Int)=0:=by omega
 have hR:=AZ o;cases hr:oy o with
 |false=>
  rw[hr] at hR;simp only[az,hR,zdF,zdG,↓xo,aV WH,zdK,zdH,if_true]
 |true=>
  rw[hr] at hR;have mj:=qR hr;have e0:(0:Int)=0:=rfl;by_cases kf:Od.stop o=0
  ·have hF:=KG (hdr:=hdr) (t:=o.1) (i:=o.2.1) hb.1 hs.1
   have hlen:=O6 (hdr:=hdr) hb.1 hs.1;have ha:=zN o mj.side (hdr,bs,ss,st,());have vP:=QX (hdr:=hdr) hb hs o mj.side mj.eD;have TS: ∀x:Nat×dP,(kt o.1 o.2.1 st bs=some x\/(kt o.1 o.2.1 st bs=none/\kt o.1 o.2.1 st ss=some x))->az WX (((),o,()),(hdr,bs,ss,st,()))=some ((5,()),(hdr,bs,ss,st,())):=by
    intro x hx;rcases hx with hx|⟨HU,hx⟩
    ·rw[hx] at hF
     simp only[az,hR,zdF,zdH,↓xo,iX,zdJ,zdG,ot kf,hF]
    ·rw[HU,hx] at hF
     simp only[az,hR,zdF,zdH,↓xo,iX,zdJ,zdG,ot kf,hF]
   cases hsb:kt o.1 o.2.1 st bs with
   |some x=>
    rw[TS x (.inl hsb)];simp only[zdJ,zdN,if_false,kf,not_true_eq_false,zfr,true_or,if_true]
   |none=>
    cases O7:kt o.1 o.2.1 st ss with
    |some x=>
     rw[TS x (.inr ⟨hsb,O7⟩)];simp only[zdJ,zdN,if_false,kf,not_true_eq_false,zfr,or_true,if_true]
    |none=>
     rw[hsb,O7] at hF;have uH: ¬((none:Option (Nat×dP)).isSome=true\/(none:Option (Nat×dP)).isSome=true):=by simp
     simp only[zdJ,zdN,if_false,kf,not_true_eq_false,if_neg uH];by_cases h4:je o=true/\pH st bs+pH st ss>=64
     ·rw[if_pos h4]
      simp only[az,hR,zdF,zdH,↓xo,iX,zdJ,zdG,ot kf,hF,jh,h4.1,hlen,ot h4.2]
     ·rw[if_neg h4]
      have key: ∀(g:Int),g=tF o st (if Od.side o=1 then ss else bs)->az WX (((),o,()),(hdr,bs,ss,st,()))=some ((g,()),(hdr,bs,ss,st,())):=by
       intro g hg;have hcr: ∀(p:Nat) (ps l:List Nat),za st l->l=p::ps->∃n pr es,p=n+1/\st[n]?=some ((pr,(),()),es,())/\gb st p=pr:=by
        intro p ps l hl he;subst he;obtain⟨pr,es,h1,_⟩:=hl.1.2 p (zdT ..);have:=h1.oW.2;obtain⟨n,rfl,h2⟩:=h1;exact⟨n,pr,es,rfl,h2,this⟩
       have z:(0:Int).toNat=0:=rfl;by_cases h1:Od.side o=1
       ·rw[if_pos h1] at hg ha vP
        by_cases k5:Od.kind o=5
        ·have k4: ¬Od.kind o=4:=by omega
         cases Gd:ss with
         |nil=>
          subst Gd;have hz: ¬((([]:List Nat).length:Nat):Int)>0:=by simp
          have A0:g=0:=by rw[hg];unfold tF;simp only[zee,zdN,if_false,decide_eq_false k4,zfp]
          subst A0;cases ux:je o with
          |true=>
           have Fk:=λq=>h4 ⟨ux,q⟩;simp only[az,hR,zdF,zdH,↓xo,iX,zdJ,zdG,ot kf,hF,jh,ux,hlen,aV Fk,ha,ot k5,aV hz,aV k4]
          |false=>simp only[az,hR,zdF,zdH,↓xo,iX,zdJ,zdG,ot kf,hF,jh,ux,ha,ot k5,aV hz,aV k4]
         |cons p ps=>
          obtain⟨n,pr,es,rfl,hn,BX⟩:=hcr p ps ss hs Gd;subst Gd;have hz:((((n+1)::ps).length:Nat):Int)>0:=by simp only[zdQ];omega
          have i0:0<=(0:Int)/\(0:Int)<((((n+1)::ps).length:Nat):Int):=⟨by omega,hz⟩
          have hc:=wc o pr;cases Dm:l9 o pr with
          |true=>
           rw[Dm] at hc;have A0:g=11:=by rw[hg];unfold tF;simp only[BX,Dm,decide_eq_true k5,decide_eq_false k4,ze2,zee,zfp,zdN,if_true,if_false]
           subst A0;cases ux:je o with
           |true=>
            have Fk:=λq=>h4 ⟨ux,q⟩;simp only[az,hR,zdF,zdH,↓xo,iX,zdJ,zdG,ot kf,hF,jh,ux,hlen,aV Fk,ha,ot k5,ot hz,ot i0,z,zei,al,hn,ah,hc,aE hn]
           |false=>simp only[az,hR,zdF,zdH,↓xo,iX,zdJ,zdG,ot kf,hF,jh,ux,ha,ot k5,ot hz,ot i0,z,zei,al,hn,ah,hc,aE hn]
          |false=>
           rw[Dm] at hc;have A0:g=0:=by rw[hg];unfold tF;simp only[BX,Dm,decide_eq_true k5,decide_eq_false k4,ze2,zee,zfp,zdN,if_true,if_false]
           subst A0;cases ux:je o with
           |true=>
            have Fk:=λq=>h4 ⟨ux,q⟩;simp only[az,hR,zdF,zdH,↓xo,iX,zdJ,zdG,ot kf,hF,jh,ux,hlen,aV Fk,ha,ot k5,ot hz,ot i0,z,zei,al,hn,ah,hc,aE hn,aV k4]
           |false=>simp only[az,hR,zdF,zdH,↓xo,iX,zdJ,zdG,ot kf,hF,jh,ux,ha,ot k5,ot hz,ot i0,z,zei,al,hn,ah,hc,aE hn,aV k4]
        ·by_cases k4:Od.kind o=4
         ·cases WI:qG o st ss (Od.eD o) with
          |true=>
           rw[WI] at vP;have A0:g=0:=by rw[hg];unfold tF;simp only[WI,decide_eq_false k5,decide_eq_true k4,zfp,Bool.true_and,zdJ,zdK,zdN,if_true,if_false]
           subst A0;cases ux:je o with
           |true=>
            have Fk:=λq=>h4 ⟨ux,q⟩;simp only[az,hR,zdF,zdH,↓xo,iX,zdJ,zdG,ot kf,hF,jh,ux,hlen,aV Fk,ha,aV k5,ot k4,vP,zdK]
           |false=>simp only[az,hR,zdF,zdH,↓xo,iX,zdJ,zdG,ot kf,hF,jh,ux,ha,aV k5,ot k4,vP,zdK]
          |false=>
           rw[WI] at vP;have A0:g=12:=by rw[hg];unfold tF;simp only[WI,decide_eq_false k5,decide_eq_true k4,zfp,Bool.true_and,zdJ,zdK,zdN,if_true,if_false]
           subst A0;cases ux:je o with
           |true=>
            have Fk:=λq=>h4 ⟨ux,q⟩;simp only[az,hR,zdF,zdH,↓xo,iX,zdJ,zdG,ot kf,hF,jh,ux,hlen,aV Fk,ha,aV k5,ot k4,vP,zdK]
           |false=>simp only[az,hR,zdF,zdH,↓xo,iX,zdJ,zdG,ot kf,hF,jh,ux,ha,aV k5,ot k4,vP,zdK]
         ·have A0:g=0:=by rw[hg];unfold tF;simp only[decide_eq_false k5,decide_eq_false k4,zfp,zdN,if_false]
          subst A0;cases ux:je o with
          |true=>
           have Fk:=λq=>h4 ⟨ux,q⟩;simp only[az,hR,zdF,zdH,↓xo,iX,zdJ,zdG,ot kf,hF,jh,ux,hlen,aV Fk,ha,aV k5,aV k4]
          |false=>simp only[az,hR,zdF,zdH,↓xo,iX,zdJ,zdG,ot kf,hF,jh,ux,ha,aV k5,aV k4]
       ·rw[if_neg h1] at hg ha vP
        by_cases k5:Od.kind o=5
        ·have k4: ¬Od.kind o=4:=by omega
         cases Gd:bs with
         |nil=>
          subst Gd;have hz: ¬((([]:List Nat).length:Nat):Int)>0:=by simp
          have A0:g=0:=by rw[hg];unfold tF;simp only[zee,zdN,if_false,decide_eq_false k4,zfp]
          subst A0;cases ux:je o with
          |true=>
           have Fk:=λq=>h4 ⟨ux,q⟩;simp only[az,hR,zdF,zdH,↓xo,iX,zdJ,zdG,ot kf,hF,jh,ux,hlen,aV Fk,ha,ot k5,aV hz,aV k4]
          |false=>simp only[az,hR,zdF,zdH,↓xo,iX,zdJ,zdG,ot kf,hF,jh,ux,ha,ot k5,aV hz,aV k4]
         |cons p ps=>
          obtain⟨n,pr,es,rfl,hn,BX⟩:=hcr p ps bs hb Gd;subst Gd;have hz:((((n+1)::ps).length:Nat):Int)>0:=by simp only[zdQ];omega
          have i0:0<=(0:Int)/\(0:Int)<((((n+1)::ps).length:Nat):Int):=⟨by omega,hz⟩
          have hc:=wc o pr;cases Dm:l9 o pr with
          |true=>
           rw[Dm] at hc;have A0:g=11:=by rw[hg];unfold tF;simp only[BX,Dm,decide_eq_true k5,decide_eq_false k4,ze2,zee,zfp,zdN,if_true,if_false]
           subst A0;cases ux:je o with
           |true=>
            have Fk:=λq=>h4 ⟨ux,q⟩;simp only[az,hR,zdF,zdH,↓xo,iX,zdJ,zdG,ot kf,hF,jh,ux,hlen,aV Fk,ha,ot k5,ot hz,ot i0,z,zei,al,hn,ah,hc,aE hn]
           |false=>simp only[az,hR,zdF,zdH,↓xo,iX,zdJ,zdG,ot kf,hF,jh,ux,ha,ot k5,ot hz,ot i0,z,zei,al,hn,ah,hc,aE hn]
          |false=>
           rw[Dm] at hc;have A0:g=0:=by rw[hg];unfold tF;simp only[BX,Dm,decide_eq_true k5,decide_eq_false k4,ze2,zee,zfp,zdN,if_true,if_false]
           subst A0;cases ux:je o with
           |true=>
            have Fk:=λq=>h4 ⟨ux,q⟩;simp only[az,hR,zdF,zdH,↓xo,iX,zdJ,zdG,ot kf,hF,jh,ux,hlen,aV Fk,ha,ot k5,ot hz,ot i0,z,zei,al,hn,ah,hc,aE hn,aV k4]
           |false=>simp only[az,hR,zdF,zdH,↓xo,iX,zdJ,zdG,ot kf,hF,jh,ux,ha,ot k5,ot hz,ot i0,z,zei,al,hn,ah,hc,aE hn,aV k4]
        ·by_cases k4:Od.kind o=4
         ·cases WI:qG o st bs (Od.eD o) with
          |true=>
           rw[WI] at vP;have A0:g=0:=by rw[hg];unfold tF;simp only[WI,decide_eq_false k5,decide_eq_true k4,zfp,Bool.true_and,zdJ,zdK,zdN,if_true,if_false]
           subst A0;cases ux:je o with
           |true=>
            have Fk:=λq=>h4 ⟨ux,q⟩;simp only[az,hR,zdF,zdH,↓xo,iX,zdJ,zdG,ot kf,hF,jh,ux,hlen,aV Fk,ha,aV k5,ot k4,vP,zdK]
           |false=>simp only[az,hR,zdF,zdH,↓xo,iX,zdJ,zdG,ot kf,hF,jh,ux,ha,aV k5,ot k4,vP,zdK]
          |false=>
           rw[WI] at vP;have A0:g=12:=by rw[hg];unfold tF;simp only[WI,decide_eq_false k5,decide_eq_true k4,zfp,Bool.true_and,zdJ,zdK,zdN,if_true,if_false]
           subst A0;cases ux:je o with
           |true=>
            have Fk:=λq=>h4 ⟨ux,q⟩;simp only[az,hR,zdF,zdH,↓xo,iX,zdJ,zdG,ot kf,hF,jh,ux,hlen,aV Fk,ha,aV k5,ot k4,vP,zdK]
           |false=>simp only[az,hR,zdF,zdH,↓xo,iX,zdJ,zdG,ot kf,hF,jh,ux,ha,aV k5,ot k4,vP,zdK]
         ·have A0:g=0:=by rw[hg];unfold tF;simp only[decide_eq_false k5,decide_eq_false k4,zfp,zdN,if_false]
          subst A0;cases ux:je o with
          |true=>
           have Fk:=λq=>h4 ⟨ux,q⟩;simp only[az,hR,zdF,zdH,↓xo,iX,zdJ,zdG,ot kf,hF,jh,ux,hlen,aV Fk,ha,aV k5,aV k4]
          |false=>simp only[az,hR,zdF,zdH,↓xo,iX,zdJ,zdG,ot kf,hF,jh,ux,ha,aV k5,aV k4]
      exact key _ rfl
  ·rw[if_neg (show¬((!true)=true) by decide),if_pos kf]
   simp only[az,hR,zdF,zdH,↓xo,iX,zdJ,zdG,aV kf,zdK]
end
def O8 (o:dP)(st:List gR)(l:List Nat):Int:=match l.findIdx? (λp=>!jc (Od.side o) (gb st p) (Od.aZ o)) with|some n=>(n:Int)|none=> -1
theorem KK (o:dP){st:List gR}{l:List Nat}(h:CL st l):aA WX ((l,((),()),()),(o,st,()))=some ((O8 o st l,()),(o,st,())):=by
 have key: ∀n k:Nat,k+n=l.length->(∀j,j<k->∀p,l[j]?=some p->(!jc (Od.side o) (gb st p) (Od.aZ o))=false)->ag (au WX) ((l,((),()),(l.length:Int),(k:Int),()),(o,st,()))=
   some (match l.findIdx? (λp=>!jc (Od.side o) (gb st p) (Od.aZ o)) with|some n=> .inl (((n:Int),()),(o,st,()))|none=> .inr ((),(o,st,()))):=by
  intro n;induction n with
  |zero=>
   intro k hk uH;have:l.findIdx? (λp=>!jc (Od.side o) (gb st p) (Od.aZ o))=none:=by
    rw[zfl];intro e he;obtain⟨j,hj,rfl⟩:=zen he;exact uH j (by omega) _ (zdL hj)
   rw[aq,this];simp only[au,↓xo,aV (show¬(k:Int)<(l.length:Int) by omega),zdG]
  |succ n ih=>
   intro k hk uH;have tC:k<l.length:=by omega
   have hx:=zdL tC;obtain⟨pr,es,hp,O5⟩:=h.2 _ (zeT tC);generalize hg:l[k]=p at hx hp;have BX:=hp.oW.2;have e1:i64.wrap ((k:Int)+1)=((k+1:Nat):Int):=by rw[nL (by omega) (by have:=h.1;omega)];omega
   have hb:=QU (Od.side o) pr (Od.aZ o);have hc:iy WX (((),(),()),((pr,(),()),es,o,()))=some ((!jc (Od.side o) pr (Od.aZ o),()),((pr,(),()),o,es,())):=by
    simp only[iy,ah,zdF,hb]
   rw[aq];cases hbb:(!jc (Od.side o) pr (Od.aZ o)) with
   |true=>
    have:l.findIdx? (λp=>!jc (Od.side o) (gb st p) (Od.aZ o))=some k:=by
     rw[zfm];refine⟨tC,by rw[hg,BX];exact hbb,λj hj=>?_⟩
     have:=uH j hj _ (zdL (by omega))
     rw[this];simp
    rw[this];rw[hbb] at hc;obtain⟨m,rfl,hm⟩:=hp;simp only[au,↓xo,ot (show(k:Int)<(l.length:Int) by omega),ot (show(0:Int)<=(k:Int) by omega),zdH,zdI,hx,zdF,al,hm,hc,aE hm]
   |false=>
    rw[hbb] at hc;have qV:=ih (k+1) (by omega) (λj hj q hq=>by
     by_cases e:j=k
     ·subst e;rw[hx] at hq;cases hq;rw[BX];exact hbb
     ·exact uH j (by omega) q hq)
    obtain⟨m,rfl,hm⟩:=hp;simp only[au,↓xo,xw,ot (show(k:Int)<(l.length:Int) by omega),ot (show(0:Int)<=(k:Int) by omega),zdH,zdI,hx,zdF,al,hm,hc,zdG,aE hm,e1,qV]
 have h0:=key l.length 0 (by omega) (λj hj=>by omega)
 change ag (au WX) ((l,((),()),(l.length:Int),0,()),(o,st,()))=_ at h0;unfold O8;cases hf:l.findIdx? (λp=>!jc (Od.side o) (gb st p) (Od.aZ o)) with
 |none=>rw[hf] at h0;simp only[aA,↓xl,h0,zdF]
 |some n=>rw[hf] at h0;simp only[aA,↓xl,h0,zdF]
def va (o:dP)(l:List Nat)(st:List gR):List Nat×List gR:=match l.findIdx? (λp=>!jc (Od.side o) (gb st p) (Od.aZ o)) with
 |none=>(l.take l.length++([st.length+1]++l.drop l.length),st++ [((Od.aZ o,(),()),[(o,mr o,())],())])
 |some n=>if gb st (l.getD n 0)=Od.aZ o then(l,kD st (l.getD n 0) (dO st (l.getD n 0)++ [(o,mr o,())])) else(l.take n++([st.length+1]++l.drop n),st++ [((Od.aZ o,(),()),[(o,mr o,())],())])
section
variable {hdr:Nk}{bs ss:List Nat}{st:List gR}
theorem TT (o:dP)(Md:Od.side o=1){l:List Nat}(hl:CL st l):bD WX (((),o,()),(hdr,(l,ss,st,())))=some ((),(hdr,(va o l st).1,ss,(va o l st).2,())):=by
 have hs:=DI (Od.side o) (by omega) (hdr,(l,ss,st,()))
 have hi:=KK o hl;have rn:ji WX ((Od.aZ o,()),())=some (((),()),((Od.aZ o,(),()),[],())):=rfl;have Qm:bQ WX (((),o,()),((Od.aZ o,(),()),[],()))=some ((),((Od.aZ o,(),()),[(o,mr o,())],())):=Fb (by simp) o
 have Bm: ∀k:Nat,k<=l.length->iK WX (((),(k:Int),(),()),(l,[st.length+1],st++ [((Od.aZ o,(),()),[],())],()))=some (((),()),(l.take k++([st.length+1]++l.drop k),st++ [((Od.aZ o,(),()),[],())],())):=λk hk=>by
  have:=hl.1;have hc:0<=(k:Int)/\(k:Int)<=(l.length:Int)/\0<([st.length+1]:List Nat).length/\(((l.length+([st.length+1]:List Nat).length:Nat):Int)*8<=((room:Nat):Int)):=by
   unfold room;simp only[zdQ,zdR];omega
  simp only[iK,↓xo,ot hc,zdH,zdI]
 have qU: ∀k:Nat,k<=l.length->(l.take k++([st.length+1]++l.drop k))[k]?=some (st.length+1):=λk hk=>by
  rw[zex (by rw[zea];omega),zea,zeJ hk,Nat.sub_self];rfl
 have hlen: ∀k:Nat,k<=l.length->(l.take k++([st.length+1]++l.drop k)).length=l.length+1:=λk hk=>by simp only[zdP,zea,zeb,zdQ,zdR];omega
 have A0:(st++ [((Od.aZ o,(),()),([]:List oL),())])[st.length]?=some ((Od.aZ o,(),()),[],()):=by simp
 have uK:(st++ [((Od.aZ o,(),()),([]:List oL),())]).set st.length ((Od.aZ o,(),()),[(o,mr o,())],())=st++ [((Od.aZ o,(),()),[(o,mr o,())],())]:=by simp
 unfold va;unfold O8 at hi;rw[if_pos Md] at hs;cases hf:l.findIdx? (λp=>!jc (Od.side o) (gb st p) (Od.aZ o)) with
 |none=>
  rw[hf] at hi;have e0:(-1:Int)<0:=by omega
  have hg:=qU l.length (zd2 _);have hL:=hlen l.length (zd2 _);have hI:=Bm l.length (zd2 _);simp only[bD,hs,zdF,hi,↓xo,ot e0,zdH,iX,rn,hI,ot (show 0<=(l.length:Int)/\(l.length:Int)<((l.take l.length++([st.length+1]++l.drop l.length)).length:Int) by rw[hL];omega),zdI,hg,al,A0,Qm,uK]
 |some n=>
  rw[hf] at hi;have hn:n<l.length:=(List.findIdx?_eq_some_iff_getElem.1 hf).1;have hx:=zdL hn;obtain⟨pr,es,hp,O5⟩:=hl.2 _ (zeT hn);have YX:l.getD n 0=l[n]:=by rw[zdW,hx];rfl
  simp only[YX];generalize l[n]=p at hx hp;have ld:=hp.oW;obtain⟨m,rfl,hm⟩:=hp;simp only[ld.1,ld.2];by_cases BX:pr=Od.aZ o
  ·have TU:=Fb (es:=es) (hd:=(pr,(),())) (by omega) o
   have Dl:kD st (m+1) (es++ [(o,mr o,())])=st.set m ((pr,(),()),es++ [(o,mr o,())],()):=by unfold kD;rw[ld.2];rfl
   simp only[bD,hs,zdF,hi,↓xo,aV (show¬(n:Int)<0 by omega),zdG,aV (show¬(n:Int)=(l.length:Int) by omega),ot (show 0<=(n:Int)/\(n:Int)<(l.length:Int) by omega),zdH,zdI,hx,al,hm,ah,ot BX,zdJ,aE hm,TU,if_pos BX,Dl]
  ·have hg:=qU n (by omega)
   have hL:=hlen n (by omega)
   have hI:=Bm n (by omega)
   simp only[bD,hs,zdF,hi,↓xo,aV (show¬(n:Int)<0 by omega),zdG,aV (show¬(n:Int)=(l.length:Int) by omega),ot (show 0<=(n:Int)/\(n:Int)<(l.length:Int) by omega),zdH,zdI,hx,al,hm,ah,aV BX,zdK,aE hm,rn,hI,ot (show 0<=(n:Int)/\(n:Int)<((l.take n++([st.length+1]++l.drop n)).length:Int) by rw[hL];omega),hg,A0,Qm,uK,if_neg BX]
theorem Q0 (o:dP)(Md:Od.side o=2){l:List Nat}(hl:CL st l):bD WX (((),o,()),(hdr,(bs,l,st,())))=some ((),(hdr,bs,(va o l st).1,(va o l st).2,())):=by
 have hs:=DI (Od.side o) (by omega) (hdr,(bs,l,st,()))
 have hi:=KK o hl;have rn:ji WX ((Od.aZ o,()),())=some (((),()),((Od.aZ o,(),()),[],())):=rfl;have Qm:bQ WX (((),o,()),((Od.aZ o,(),()),[],()))=some ((),((Od.aZ o,(),()),[(o,mr o,())],())):=Fb (by simp) o
 have Bm: ∀k:Nat,k<=l.length->iK WX (((),(k:Int),(),()),(l,[st.length+1],st++ [((Od.aZ o,(),()),[],())],()))=some (((),()),(l.take k++([st.length+1]++l.drop k),st++ [((Od.aZ o,(),()),[],())],())):=λk hk=>by
  have:=hl.1;have hc:0<=(k:Int)/\(k:Int)<=(l.length:Int)/\0<([st.length+1]:List Nat).length/\(((l.length+([st.length+1]:List Nat).length:Nat):Int)*8<=((room:Nat):Int)):=by
   unfold room;simp only[zdQ,zdR];omega
  simp only[iK,↓xo,ot hc,zdH,zdI]
 have qU: ∀k:Nat,k<=l.length->(l.take k++([st.length+1]++l.drop k))[k]?=some (st.length+1):=λk hk=>by
  rw[zex (by rw[zea];omega),zea,zeJ hk,Nat.sub_self];rfl
 have hlen: ∀k:Nat,k<=l.length->(l.take k++([st.length+1]++l.drop k)).length=l.length+1:=λk hk=>by simp only[zdP,zea,zeb,zdQ,zdR];omega
 have A0:(st++ [((Od.aZ o,(),()),([]:List oL),())])[st.length]?=some ((Od.aZ o,(),()),[],()):=by simp
 have uK:(st++ [((Od.aZ o,(),()),([]:List oL),())]).set st.length ((Od.aZ o,(),()),[(o,mr o,())],())=st++ [((Od.aZ o,(),()),[(o,mr o,())],())]:=by simp
 unfold va;unfold O8 at hi;rw[if_neg (show¬Od.side o=1 by omega)] at hs
 cases hf:l.findIdx? (λp=>!jc (Od.side o) (gb st p) (Od.aZ o)) with
 |none=>
  rw[hf] at hi;have e0:(-1:Int)<0:=by omega
  have hg:=qU l.length (zd2 _);have hL:=hlen l.length (zd2 _);have hI:=Bm l.length (zd2 _);simp only[bD,hs,zdF,hi,↓xo,ot e0,zdH,iX,rn,hI,ot (show 0<=(l.length:Int)/\(l.length:Int)<((l.take l.length++([st.length+1]++l.drop l.length)).length:Int) by rw[hL];omega),zdI,hg,al,A0,Qm,uK]
 |some n=>
  rw[hf] at hi;have hn:n<l.length:=(List.findIdx?_eq_some_iff_getElem.1 hf).1;have hx:=zdL hn;obtain⟨pr,es,hp,O5⟩:=hl.2 _ (zeT hn);have YX:l.getD n 0=l[n]:=by rw[zdW,hx];rfl
  simp only[YX];generalize l[n]=p at hx hp;have ld:=hp.oW;obtain⟨m,rfl,hm⟩:=hp;simp only[ld.1,ld.2];by_cases BX:pr=Od.aZ o
  ·have TU:=Fb (es:=es) (hd:=(pr,(),())) (by omega) o
   have Dl:kD st (m+1) (es++ [(o,mr o,())])=st.set m ((pr,(),()),es++ [(o,mr o,())],()):=by unfold kD;rw[ld.2];rfl
   simp only[bD,hs,zdF,hi,↓xo,aV (show¬(n:Int)<0 by omega),zdG,aV (show¬(n:Int)=(l.length:Int) by omega),ot (show 0<=(n:Int)/\(n:Int)<(l.length:Int) by omega),zdH,zdI,hx,al,hm,ah,ot BX,zdJ,aE hm,TU,if_pos BX,Dl]
  ·have hg:=qU n (by omega)
   have hL:=hlen n (by omega)
   have hI:=Bm n (by omega)
   simp only[bD,hs,zdF,hi,↓xo,aV (show¬(n:Int)<0 by omega),zdG,aV (show¬(n:Int)=(l.length:Int) by omega),ot (show 0<=(n:Int)/\(n:Int)<(l.length:Int) by omega),zdH,zdI,hx,al,hm,ah,aV BX,zdK,aE hm,rn,hI,ot (show 0<=(n:Int)/\(n:Int)<((l.take n++([st.length+1]++l.drop n)).length:Int) by rw[hL];omega),hg,A0,Qm,uK,if_neg BX]
end
abbrev nI:=Int×List oL
def jN (st:List gR)(l:List Nat):List nI:=l.map λp=>(gb st p,dO st p)
def KL (st:List gR)(l:List Nat):Prop:= ∀p∈l,∃pr es,tM st p pr es
def Q1 (t i:Int)(a:nI):Option dP:=(a.2.map (·.1)).find? (Od.is t i)
def nb (t i:Int):List nI->Option (Nat×dP)
 | []=>none
 |a::A=>match Q1 t i a with|some o=>some (0,o)|none=>(nb t i A).map λx=>(x.1+1,x.2)
theorem pS (t i:Int)(st:List gR): ∀l,kt t i st l=nb t i (jN st l)
 | []=>rfl
 |p::l=>by
  have ih:=pS t i st l;simp only[kt,jN,zeD,nb,CK,Q1] at*;rw[ih];all_goals (cases ((dO st p).map (·.1)).find? (Od.is t i)<;>rfl)
def iY (A:List nI):Int:=ik (A.map λa=>(a.2.length:Int))
theorem A1 (st:List gR)(l:List Nat):pH st l=iY (jN st l):=by
 simp only[pH,iY,jN,List.map_map];rfl
def rI (A:List nI):List dP:=A.flatMap λa=>a.2.map (·.1)
theorem Q2 (st:List gR)(l:List Nat):qQ st l=rI (jN st l):=by
 simp only[qQ,rI,jN,List.flatMap_map]
def I7 (o:dP):List nI->Int->Bool
 | [],_=>false
 |a::A,q=>if(!l9 o a.1)=true then false else if(mo o.2.2.1 a.2).1>=q then true else if(mo o.2.2.1 a.2).2=true then false else I7 o A (q-(mo o.2.2.1 a.2).1)
theorem Fm (o:dP)(st:List gR): ∀l q,qG o st l q=I7 o (jN st l) q
 | [],_=>rfl
 |p::l,q=>by
  have ih:=Fm o st l (q-(mo o.2.2.1 (dO st p)).1);simp only[qG,jN,zeD,I7] at*;rw[ih]
def TV (o:dP)(A:List nI):Int:=
 if(decide (Od.kind o=5)&&match A with| []=>false|a::_=>l9 o a.1)=true then 11
 else if(decide (Od.kind o=4)&&!I7 o A (Od.eD o))=true then 12 else 0
def Gv (o:dP)(A B:List nI):Int:=
 if(!oy o)=true then 1 else if¬Od.stop o=0 then 1 else if(nb o.1 o.2.1 A).isSome=true\/(nb o.1 o.2.1 B).isSome=true then 5
 else if je o=true/\iY A+iY B>=64 then 4 else TV o (if Od.side o=1 then B else A)
theorem TW (o:dP)(st:List gR)(bs ss:List Nat):WG o bs ss st=Gv o (jN st bs) (jN st ss):=by
 have h: ∀l,tF o st l=TV o (jN st l):=λl=>by
  unfold tF TV;rw[Fm];cases l<;>rfl
 unfold WG Gv;rw[h,pS,pS,A1,A1];by_cases e:Od.side o=1
 ·simp only[if_pos e]
 ·simp only[if_neg e]
def uy (o:dP):List nI->Int->Int->Int->List mS->Bool×Int×List nI×Int×Int×List mS
 | [],q,last,no,out=>(false,q,[],last,no,out)
 |a::A,q,last,no,out=>
  if q>0/\l9 o a.1=true then
   (if(fZ o.2.2.1 q.toNat q a.2 []).1=true then(true,(fZ o.2.2.1 q.toNat q a.2 []).2.2.2,(a.1,(fZ o.2.2.1 q.toNat q a.2 []).2.2.1)::A,rO a.1 last (fZ o.2.2.1 q.toNat q a.2 []).2.1,(mV a.1 (fZ o.2.2.1 q.toNat q a.2 []).2.1 (no,Od.bP o q,out)).1,(mV a.1 (fZ o.2.2.1 q.toNat q a.2 []).2.1 (no,Od.bP o q,out)).2.2)
   else if(fZ o.2.2.1 q.toNat q a.2 []).2.2.1=[] then uy o A (fZ o.2.2.1 q.toNat q a.2 []).2.2.2 (rO a.1 last (fZ o.2.2.1 q.toNat q a.2 []).2.1) (mV a.1 (fZ o.2.2.1 q.toNat q a.2 []).2.1 (no,Od.bP o q,out)).1 (mV a.1 (fZ o.2.2.1 q.toNat q a.2 []).2.1 (no,Od.bP o q,out)).2.2
   else(false,(fZ o.2.2.1 q.toNat q a.2 []).2.2.2,(a.1,(fZ o.2.2.1 q.toNat q a.2 []).2.2.1)::A,rO a.1 last (fZ o.2.2.1 q.toNat q a.2 []).2.1,(mV a.1 (fZ o.2.2.1 q.toNat q a.2 []).2.1 (no,Od.bP o q,out)).1,(mV a.1 (fZ o.2.2.1 q.toNat q a.2 []).2.1 (no,Od.bP o q,out)).2.2))
  else(false,q,a::A,last,no,out)
def Fo (st fy:List gR)(l:List Nat):Prop:= ∀p pr es,p∉l->tM st p pr es->tM fy p pr es
theorem nX {st fy:List gR}{l m:List Nat}(h:Fo st fy l)(hm:KL st m)(hd: ∀p∈m,p∉l):jN fy m=jN st m/\KL fy m:=by
 constructor
 ·apply List.map_congr_left
  intro p hp;obtain⟨pr,es,h1⟩:=hm p hp;have h2:=(h p pr es (hd p hp) h1).oW;rw[h2.1,h2.2,h1.oW.1,h1.oW.2]
 ·intro p hp
  obtain⟨pr,es,h1⟩:=hm p hp;exact⟨pr,es,h p pr es (hd p hp) h1⟩
theorem tM.ne0 {st:List gR}{p:Nat}{pr:Int}{es:List oL}(h:tM st p pr es):p≠0:=by obtain⟨n,rfl,_⟩:=h;omega
theorem sT {st:List gR}{p:Nat}{pr:Int}{es:List oL}(h:tM st p pr es)(oA:List oL)(l:List Nat)(hl:p∈l):Fo st (kD st p oA) l:=λq WE TP hq h'=>h'.tY (λe=>hq (e▸hl)) h.ne0
theorem WJ {st:List gR}{p:Nat}{l:List Nat}(hl:KL st (p::l))(hn:(p::l).Nodup)(oA:List oL):jN (kD st p oA) (p::l)=(gb st p,oA)::jN st l/\KL (kD st p oA) (p::l):=by
 obtain⟨pr,es,h⟩:=hl p (zdT ..);have hnp:=(List.nodup_cons.1 hn).1;have h1:=nX (sT h oA [p] (List.mem_singleton.2 rfl)) (λq hq=>hl q (zdS _ hq)) (λq hq e=>hnp (List.mem_singleton.1 e▸hq));have h2:=(h.put (oA:=oA)).oW;have h3:=h.oW;refine⟨?_,λq hq=>?_⟩
 ·show(_,_)::jN _ l=_
  rw[h1.1,h2.1,h2.2,h3.2]
 ·rcases List.mem_cons.1 hq with rfl|hq
  ·exact⟨pr,oA,h.put⟩
  ·exact h1.2 q hq
theorem Fq (o:dP): ∀(l:List Nat) (st:List gR) (q last no:Int) (out:List mS),KL st l->l.Nodup->∃l' fy,il o l st q last no out=((uy o (jN st l) q last no out).1,(uy o (jN st l) q last no out).2.1,l',fy,(uy o (jN st l) q last no out).2.2.2)/\
  jN fy l'=(uy o (jN st l) q last no out).2.2.1/\l'<:+l/\Fo st fy l/\KL fy l'
 | [],st,q,last,no,out,_,_=>⟨[],st,rfl,rfl,zfs _,λ_ _ _ _ h=>h,λp hp=>by cases hp⟩
 |p::l,st,q,last,no,out,hl,hn=>by
  simp only[il,jN,zeD,uy];obtain⟨pr,es,hp⟩:=hl p (zdT ..);by_cases h1:q>0/\l9 o (gb st p)=true
  ·rw[if_pos h1,if_pos h1]
   have hpa:=WJ hl hn (fZ o.2.2.1 q.toNat q (dO st p) []).2.2.1;have Y3:=sT hp (fZ o.2.2.1 q.toNat q (dO st p) []).2.2.1 (p::l) (zdT ..);by_cases h2:(fZ o.2.2.1 q.toNat q (dO st p) []).1=true
   ·rw[if_pos h2,if_pos h2]
    exact⟨_,_,rfl,hpa.1,zfs _,Y3,hpa.2⟩
   ·rw[if_neg h2,if_neg h2]
    by_cases h3:(fZ o.2.2.1 q.toNat q (dO st p) []).2.2.1=[]
    ·rw[if_pos h3,if_pos h3]
     have hnp:=(List.nodup_cons.1 hn).1;have ha:=nX (sT hp (fZ o.2.2.1 q.toNat q (dO st p) []).2.2.1 [p] (List.mem_singleton.2 rfl)) (λq hq=>hl q (zdS _ hq)) (λq hq e=>hnp (List.mem_singleton.1 e▸hq));obtain⟨l',fy,i1,i2,i3,i4,i5⟩:=Fq o l (kD st p (fZ o.2.2.1 q.toNat q (dO st p) []).2.2.1) (fZ o.2.2.1 q.toNat q (dO st p) []).2.2.2 (rO (gb st p) last (fZ o.2.2.1 q.toNat q (dO st p) []).2.1) (mV (gb st p) (fZ o.2.2.1 q.toNat q (dO st p) []).2.1 (no,Od.bP o q,out)).1 (mV (gb st p) (fZ o.2.2.1 q.toNat q (dO st p) []).2.1 (no,Od.bP o q,out)).2.2 ha.2 (List.nodup_cons.1 hn).2;rw[ha.1] at i1 i2;exact⟨l',fy,i1,i2,i3.trans (List.suffix_cons ..),λp' WE oA wy h'=>i4 _ _ _ (λe=>wy (zdS _ e)) (Y3 _ _ _ wy h'),i5⟩
    ·rw[if_neg h3,if_neg h3]
     exact⟨_,_,rfl,hpa.1,zfs _,Y3,hpa.2⟩
  ·rw[if_neg h1,if_neg h1]
   exact⟨_,_,rfl,rfl,zfs _,λ_ _ _ _ h=>h,hl⟩
def KM (o:dP)(A:List nI):List nI:=match A.findIdx? (λa=>!jc (Od.side o) a.1 (Od.aZ o)) with
 |none=>A++ [(Od.aZ o,[(o,mr o,())])]
 |some n=>match A[n]? with
  |none=>A
  |some a=>if a.1=Od.aZ o then A.set n (a.1,a.2++ [(o,mr o,())]) else A.take n++((Od.aZ o,[(o,mr o,())])::A.drop n)
theorem Hl (o:dP){l:List Nat}{st:List gR}(hl:KL st l)(hn:l.Nodup):jN (va o l st).2 (va o l st).1=KM o (jN st l)/\KL (va o l st).2 (va o l st).1/\Fo st (va o l st).2 l/\(∀p∈(va o l st).1,p∈l\/p=st.length+1)/\(va o l st).1.Nodup:=by
 have lj: ∀p∈l,p<=st.length:=λp hp=>by
  obtain⟨pr,es,n,rfl,h⟩:=hl p hp;have:=(List.getElem?_eq_some_iff.1 h).1;omega
 have Y8: ∀(y:gR) p pr es,tM st p pr es->tM (st++ [y]) p pr es:=λy p pr es ⟨n,e,h⟩=>by
  have:=(List.getElem?_eq_some_iff.1 h).1;exact⟨n,e,by rw[zew this];exact h⟩
 have rn: ∀(pr:Int) es,tM (st++ [((pr,(),()),es,())]) (st.length+1) pr es:=λpr es=>⟨st.length,rfl,by simp⟩
 have zde:(jN st l).findIdx? (λa=>!jc (Od.side o) a.1 (Od.aZ o))=l.findIdx? (λp=>!jc (Od.side o) (gb st p) (Od.aZ o)):=by
  unfold jN;rw[List.findIdx?_map];rfl
 have Bm: ∀k,k<=l.length->jN (st++ [((Od.aZ o,(),()),[(o,mr o,())],())]) (l.take k++([st.length+1]++l.drop k))=(jN st l).take k++((Od.aZ o,[(o,mr o,())])::(jN st l).drop k)/\KL (st++ [((Od.aZ o,(),()),[(o,mr o,())],())]) (l.take k++([st.length+1]++l.drop k))/\Fo st (st++ [((Od.aZ o,(),()),[(o,mr o,())],())]) l/\(∀p∈l.take k++([st.length+1]++l.drop k),p∈l\/p=st.length+1)/\(l.take k++([st.length+1]++l.drop k)).Nodup:=by
  intro k hk;have vR:Fo st (st++ [((Od.aZ o,(),()),[(o,mr o,())],())]) []:=λp pr es _ h=>Y8 _ p pr es h;have h1:=nX vR hl (λp _=>by simp)
  have h2:=(rn (Od.aZ o) [(o,mr o,())]).oW;have tJ: ∀p∈l.take k++([st.length+1]++l.drop k),p∈l\/p=st.length+1:=λp hp=>by
   simp only[ze3,ze4] at hp;rcases hp with hp|rfl|hp
   ·exact .inl (zeI hp)
   ·exact .inr rfl
   ·exact .inl (zfa hp)
  refine⟨?_,?_,λp pr es _ h=>Y8 _ p pr es h,tJ,?_⟩
  ·have h3: ∀x y:List Nat,jN (st++ [((Od.aZ o,(),()),[(o,mr o,())],())]) (x++y)=jN (st++ [((Od.aZ o,(),()),[(o,mr o,())],())]) x++jN (st++ [((Od.aZ o,(),()),[(o,mr o,())],())]) y:=λx y=>zfo
   have h4: ∀x:List Nat,jN (st++ [((Od.aZ o,(),()),[(o,mr o,())],())]) (x.take k)=(jN (st++ [((Od.aZ o,(),()),[(o,mr o,())],())]) x).take k:=λx=>List.map_take;have h5: ∀x:List Nat,jN (st++ [((Od.aZ o,(),()),[(o,mr o,())],())]) (x.drop k)=(jN (st++ [((Od.aZ o,(),()),[(o,mr o,())],())]) x).drop k:=λx=>List.map_drop;have h6:jN (st++ [((Od.aZ o,(),()),[(o,mr o,())],())]) [st.length+1]=[(Od.aZ o,[(o,mr o,())])]:=by
    show [(_,_)]=_
    rw[h2.1,h2.2]
   rw[h3,h3,h4,h5,h6,h1.1];rfl
  ·intro p hp
   rcases tJ p hp with hp|rfl
   ·exact h1.2 p hp
   ·exact⟨_,_,rn _ _⟩
  ·have VB: ∀p,p∈l->p≠st.length+1:=λp hp e=>by have:=lj p hp;omega
   rw[show l.take k++([st.length+1]++l.drop k)=l.take k++(st.length+1)::l.drop k from rfl,List.nodup_append]
   have Dv:=hn;rw[<-zeY k l,List.nodup_append] at Dv;refine⟨Dv.1,List.nodup_cons.2 ⟨λh=>VB _ (zfa h) rfl,Dv.2.1⟩,λa ha b hb=>?_⟩;rcases List.mem_cons.1 hb with rfl|hb
   ·exact VB a (zeI ha)
   ·exact Dv.2.2 a ha b hb
 unfold va KM;rw[zde];have hlen:(jN st l).length=l.length:=zeQ ..;cases hf:l.findIdx? (λp=>!jc (Od.side o) (gb st p) (Od.aZ o)) with
 |none=>
  have:=Bm l.length (zd2 _);rw[<-hlen,zeg (zd2 _),List.drop_of_length_le (zd2 _),hlen] at this;exact this
 |some n=>
  have PE:n<l.length:=(List.findIdx?_eq_some_iff_getElem.1 hf).1;have hx:=zdL PE;have tJ:=zeT PE;have YX:l.getD n 0=l[n]:=by rw[zdW,hx];rfl
  have hax:(jN st l)[n]?=some (gb st l[n],dO st l[n]):=by unfold jN;rw[zeM,hx];rfl
  obtain⟨pr,es,hp⟩:=hl _ tJ;simp only[YX,hax];by_cases BX:gb st l[n]=Od.aZ o
  ·simp only[if_pos BX]
   refine⟨?_,λp wy=>?_,sT hp _ l tJ,λp hp=> .inl hp,hn⟩
   ·apply List.ext_getElem?
    intro j;unfold jN;rw[zfc,zeM];by_cases hj:n=j
    ·subst hj
     rw[if_pos rfl,hx,if_pos (by rw[zeQ];exact PE)]
     simp only[zdV];have:=(hp.put (oA:=dO st l[n]++ [(o,mr o,())])).oW;rw[this.1,this.2,hp.oW.2]
    ·rw[if_neg hj,zeM]
     cases hlj:l[j]? with
     |none=>rfl
     |some p=>
      simp only[zdV];have hpj:p≠l[n]:=λe=>by
       have Ch:=(List.getElem?_eq_some_iff.1 hlj);obtain⟨hj1,YA⟩:=Ch;have:=(List.getElem_inj hn).1 (YA.trans e);exact hj this.symm
      obtain⟨WE,oA,wy⟩:=hl p (zeH hlj);have h1:=(wy.tY (oA:=dO st l[n]++ [(o,mr o,())]) hpj hp.ne0).oW;rw[h1.1,h1.2,wy.oW.1,wy.oW.2]
   ·by_cases e:p=l[n]
    ·subst e;exact⟨pr,_,hp.put⟩
    ·obtain⟨WE,oA,h'⟩:=hl p wy
     exact⟨WE,oA,h'.tY e hp.ne0⟩
  ·simp only[if_neg BX]
   exact Bm n (by omega)
structure Fs (s pr:Int)(o:dP):Prop where
 side:Od.side o=s
 aZ:Od.aZ o=pr
 qH:0<=o.1/\o.1<=31
 kr:0<=o.2.2.1/\o.2.2.1<=7
 kind:Od.kind o=1\/Od.kind o=5
structure ma (s:Int)(A:List nI):Prop where
 ne: ∀a∈A,a.2≠ []
 O9: ∀a∈A,∀e∈a.2,oM e/\Fs s a.1 e.1
 sorted:(A.map (·.1)).Pairwise λa b=>jc s a b=true
structure BI (A B:List nI):Prop where
 yu:ma 1 A
 sU:ma 2 B
 yW:iY A+iY B<=64
 TX: ∀a∈A,∀b∈B,a.1<b.1
structure Bk (bs ss:List Nat)(st:List gR)(A B:List nI):Prop where
 lb:KL st bs
 ls:KL st ss
 nd:(bs++ss).Nodup
 ea:jN st bs=A
 eb:jN st ss=B
theorem mi (a:nI)(A:List nI):iY (a::A)=a.2.length+iY A:=rfl
theorem qS (A B:List nI):iY (A++B)=iY A+iY B:=by unfold iY;rw[zfo,kT]
theorem tN (A:List nI):0<=iY A:=by
 induction A with
 |nil=>exact zeL _
 |cons a A ih=>rw[mi];omega
theorem TY {A:List nI}{a:nI}(h:a∈A):(a.2.length:Int)<=iY A:=by
 induction A with
 |nil=>cases h
 |cons b A ih=>
  rw[mi];have:=tN A;rcases List.mem_cons.1 h with rfl|h
  ·omega
  ·have:=ih h;omega
theorem TZ {A:List nI}(h: ∀a∈A,a.2≠ []):(A.length:Int)<=iY A:=by
 induction A with
 |nil=>exact zeL _
 |cons a A ih=>
  rw[mi];have h1:=ih λx hx=>h x (zdS _ hx);have h2:=List.length_pos_iff.2 (h a (zdT ..));simp only[zdQ];omega
theorem WK {s:Int}{st:List gR}{l:List Nat}(hl:KL st l)(h:ma s (jN st l))(hc:iY (jN st l)<=64):za st l:=by
 have h1:=TZ h.ne;unfold jN at h1;rw[zeQ] at h1;have hm: ∀p∈l,(gb st p,dO st p)∈jN st l:=λp hp=>List.mem_map.2 ⟨p,hp,rfl⟩;refine⟨⟨by unfold jN at hc;omega,λp hp=>?_⟩,λp hp e he=>(h.O9 _ (hm p hp) e he).1⟩
 obtain⟨pr,es,Yh⟩:=hl p hp;refine⟨pr,es,Yh,?_⟩;have:=TY (hm p hp);rw[show(gb st p,dO st p).2=dO st p from rfl,Yh.oW.1] at this
 omega
section
variable {bs ss:List Nat}{st:List gR}{A B:List nI}{last no:Int}
theorem Bk.yu (h:Bk bs ss st A B)(hi:BI A B):za st bs:=WK h.lb (h.ea▸hi.yu) (by rw[h.ea];have:=hi.yW;have:=tN B;omega)
theorem Bk.sU (h:Bk bs ss st A B)(hi:BI A B):za st ss:=WK h.ls (h.eb▸hi.sU) (by rw[h.eb];have:=hi.yW;have:=tN A;omega)
abbrev kF (last no:Int):Nk:=(((),(),()),last,no,())
def Od.we (o:dP)(q:Int):dP:=(o.1,o.2.1,o.2.2.1,o.2.2.2.1,o.2.2.2.2.1,o.2.2.2.2.2.1,q,min (Od.show o) q,o.2.2.2.2.2.2.2.2)
def rK (o:dP)(A B:List nI)(last no:Int):=uy o (if Od.side o=1 then B else A) (Od.eD o) last no []
def ju (o:dP)(A B:List nI)(last no:Int):lU×List nI×List nI×Int×Int:=
 if¬Gv o A B=0 then((o,[],Od.eD o,false,false,false,Gv o A B,()),A,B,last,no)
 else if(rK o A B last no).2.1>0/\(rK o A B last no).1=false/\je o=true then
  ((o,(rK o A B last no).2.2.2.2.2,(rK o A B last no).2.1,true,false,false,0,()),(if Od.side o=1 then KM (Od.we o (rK o A B last no).2.1) A else(rK o A B last no).2.2.1),(if Od.side o=1 then(rK o A B last no).2.2.1 else KM (Od.we o (rK o A B last no).2.1) B),(rK o A B last no).2.2.2.1,(rK o A B last no).2.2.2.2.1)
 else((o,(rK o A B last no).2.2.2.2.2,(rK o A B last no).2.1,false,false,(rK o A B last no).1,0,()),(if Od.side o=1 then A else(rK o A B last no).2.2.1),(if Od.side o=1 then(rK o A B last no).2.2.1 else B),(rK o A B last no).2.2.2.1,(rK o A B last no).2.2.2.2.1)
theorem zP {o:dP}(h:Gv o A B=0):oy o=true:=by
 unfold Gv at h;cases hr:oy o with
 |true=>rfl
 |false=>rw[hr] at h;simp at h
theorem Pb {m:List Nat}(h:KL st m): ∀p∈m,p≠st.length+1:=λp hp e=>by
 obtain⟨pr,es,n,rfl,h⟩:=h p hp;have:=(List.getElem?_eq_some_iff.1 h).1;omega
theorem zak (h:Bk bs ss st A B)(hi:BI A B)(o:dP): ∃pq pt fy,eF WX (((),o,()),(kF last no,bs,ss,st,()))=some (((ju o A B last no).1,()),(kF (ju o A B last no).2.2.2.1 (ju o A B last no).2.2.2.2,pq,pt,fy,()))/\Bk pq pt fy (ju o A B last no).2.1 (ju o A B last no).2.2.1:=by
 have kb:=h.yu hi;have ks:=h.sU hi;have hr:=KJ (hdr:=kF last no) kb ks o;rw[TW,h.ea,h.eb] at hr;unfold ju;by_cases h0:Gv o A B=0
 ·rw[if_neg (λe=>e h0)]
  have mj:=qR (zP h0);have hnd:=List.nodup_append.1 h.nd;obtain⟨M,hM,hm⟩:=QZ kb ks hnd.1 hnd.2.1 o last no mj.side ⟨by have:=mj.eD;omega,mj.eD.2⟩
  have Ol:=jh o;rw[h0] at hr;have Vf:(0:Int)=0:=rfl;have Yh:KL st (if Od.side o=1 then ss else bs):=by split;exact h.ls;exact h.lb
  have hnl:(if Od.side o=1 then ss else bs).Nodup:=by split;exact hnd.2.1;exact hnd.1
  obtain⟨l',fy,m1,m2,m3,m4,m5⟩:=Fq o _ st (Od.eD o) last no [] Yh hnl;have Vx:jN st (if Od.side o=1 then ss else bs)=(if Od.side o=1 then B else A):=by split;exact h.eb;exact h.ea
  rw[Vx] at m1 m2;change il o _ st _ last no []=((rK o A B last no).1,(rK o A B last no).2.1,l',fy,(rK o A B last no).2.2.2) at m1;change jN fy l'=(rK o A B last no).2.2.1 at m2;rw[m1] at hM;generalize rK o A B last no=N at*;obtain⟨own,q,L,Pc,Ve,out⟩:=N;simp only at*;subst hM;simp only at hm;have tH:Fo st fy (if Od.side o=1 then ss else bs):=m4
  by_cases Lw:Od.side o=1
  ·simp only[if_pos Lw] at*
   have hA:=nX m4 h.lb (λp hp wy=>hnd.2.2 p hp p wy rfl);rw[h.ea] at hA;have Af: ∀p∈l',p∈ss:=λp hp=>m3.subset hp;have hb0:Bk bs l' fy A L:=⟨hA.2,m5,List.nodup_append.2 ⟨hnd.1,m3.sublist.nodup hnd.2.1,λa ha b hb=>hnd.2.2 a ha b (Af b hb)⟩,hA.1,m2⟩;by_cases hc:q>0/\own=false/\je o=true
   ·rw[if_pos hc]
    obtain⟨c1,c2,c3⟩:=hc;subst c2;simp only[zdN,if_false] at hm;have Mk:=Hl (Od.we o q) hA.2 hnd.1;have tC:CL fy bs:=by
     have PM:=WK (s:=1) hA.2 (hA.1▸hi.yu) (by rw[hA.1];have:=hi.yW;have:=tN B;omega)
     exact PM.1
    have hrb:=TT (hdr:=kF Pc Ve) (ss:=l') (Od.we o q) (show Od.side (Od.we o q)=1 from Lw) tC
    have zal:bD WX (((),(o.1,o.2.1,o.2.2.1,o.2.2.2.1,o.2.2.2.2.1,o.2.2.2.2.2.1,q,min o.2.2.2.2.2.2.2.1 q,o.2.2.2.2.2.2.2.2),()),(kF Pc Ve,bs,l',fy,()))=_:=hrb;refine⟨_,_,_,by simp only[eF,hr,zdF,↓xo,ot Vf,zdJ,zdG,hm,ot c1,zdH,zdK,Ol,c3,vu,zal];rfl,?_⟩
    rw[hA.1] at Mk;have hl': ∀p∈l',p∉bs:=λp hp wy=>hnd.2.2 p wy p (Af p hp) rfl;have hL:=nX Mk.2.2.1 m5 hl';refine⟨Mk.2.1,hL.2,List.nodup_append.2 ⟨Mk.2.2.2.2,m3.sublist.nodup hnd.2.1,λa ha b hb e=>?_⟩,Mk.1,hL.1.trans m2⟩;subst e;rcases Mk.2.2.2.1 a ha with h1|h1
    ·exact hl' a hb h1
    ·exact Pb m5 a hb h1
   ·rw[if_neg hc]
    refine⟨bs,l',fy,?_,hb0⟩;cases own with
    |true=>
     simp only[if_true] at hm;by_cases c1:q>0
     ·simp only[eF,hr,zdF,↓xo,ot Vf,zdJ,zdG,hm,ot c1,zdH]
     ·simp only[eF,hr,zdF,↓xo,ot Vf,zdJ,zdG,hm,aV c1]
    |false=>
     simp only[zdN,if_false] at hm;by_cases c1:q>0
     ·have c3:je o=false:=by cases hx:je o with|false=>rfl|true=>exact absurd ⟨c1,rfl,hx⟩ hc
      simp only[eF,hr,zdF,↓xo,ot Vf,zdJ,zdG,hm,ot c1,zdH,zdK,Ol,c3]
     ·simp only[eF,hr,zdF,↓xo,ot Vf,zdJ,zdG,hm,aV c1]
  ·have Rz:Od.side o=2:=mj.side.resolve_left Lw
   simp only[if_neg Lw] at*;have hA:=nX m4 h.ls (λp hp wy=>hnd.2.2 p wy p hp rfl);rw[h.eb] at hA;have Af: ∀p∈l',p∈bs:=λp hp=>m3.subset hp;have hb0:Bk l' ss fy L B:=⟨m5,hA.2,List.nodup_append.2 ⟨m3.sublist.nodup hnd.1,hnd.2.1,λa ha b hb=>hnd.2.2 a (Af a ha) b hb⟩,m2,hA.1⟩;by_cases hc:q>0/\own=false/\je o=true
   ·rw[if_pos hc]
    obtain⟨c1,c2,c3⟩:=hc;subst c2;simp only[zdN,if_false] at hm;have Mk:=Hl (Od.we o q) hA.2 hnd.2.1;have tC:CL fy ss:=by
     have PM:=WK (s:=2) hA.2 (hA.1▸hi.sU) (by rw[hA.1];have:=hi.yW;have:=tN A;omega)
     exact PM.1
    have hrb:=Q0 (hdr:=kF Pc Ve) (bs:=l') (Od.we o q) (show Od.side (Od.we o q)=2 from Rz) tC
    have zal:bD WX (((),(o.1,o.2.1,o.2.2.1,o.2.2.2.1,o.2.2.2.2.1,o.2.2.2.2.2.1,q,min o.2.2.2.2.2.2.2.1 q,o.2.2.2.2.2.2.2.2),()),(kF Pc Ve,l',ss,fy,()))=_:=hrb;refine⟨_,_,_,by simp only[eF,hr,zdF,↓xo,ot Vf,zdJ,zdG,hm,ot c1,zdH,zdK,Ol,c3,vu,zal];rfl,?_⟩
    rw[hA.1] at Mk;have hl': ∀p∈l',p∉ss:=λp hp wy=>hnd.2.2 p (Af p hp) p wy rfl;have hL:=nX Mk.2.2.1 m5 hl';refine⟨hL.2,Mk.2.1,List.nodup_append.2 ⟨m3.sublist.nodup hnd.1,Mk.2.2.2.2,λa ha b hb e=>?_⟩,hL.1.trans m2,Mk.1⟩;subst e;rcases Mk.2.2.2.1 a hb with h1|h1
    ·exact hl' a ha h1
    ·exact Pb m5 a ha h1
   ·rw[if_neg hc]
    refine⟨l',ss,fy,?_,hb0⟩;cases own with
    |true=>
     simp only[if_true] at hm;by_cases c1:q>0
     ·simp only[eF,hr,zdF,↓xo,ot Vf,zdJ,zdG,hm,ot c1,zdH]
     ·simp only[eF,hr,zdF,↓xo,ot Vf,zdJ,zdG,hm,aV c1]
    |false=>
     simp only[zdN,if_false] at hm;by_cases c1:q>0
     ·have c3:je o=false:=by cases hx:je o with|false=>rfl|true=>exact absurd ⟨c1,rfl,hx⟩ hc
      simp only[eF,hr,zdF,↓xo,ot Vf,zdJ,zdG,hm,ot c1,zdH,zdK,Ol,c3]
     ·simp only[eF,hr,zdF,↓xo,ot Vf,zdJ,zdG,hm,aV c1]
 ·rw[if_pos h0]
  refine⟨bs,ss,st,?_,h⟩;simp only[eF,hr,zdF,↓xo,aV h0,zdK,zdH]
end
def BY (P:dP->Prop):Prop:= ∀o q,P o->P (Od.bP o q)
theorem Nq {P:dP->Prop}(hP:BY P){e:oL}{r:List oL}{n:Int}(he:P e.1)(hr: ∀x∈r,P x.1): ∀x∈zk e r n,P x.1:=by
 unfold zk;intro x hx;split at hx
 ·rcases List.mem_cons.1 hx with rfl|hx
  ·exact hP _ _ he
  ·exact hr x hx
 ·rcases List.mem_append.1 hx with hx|hx
  ·exact hr x hx
  ·split at hx
   ·rw[ze4] at hx;subst hx;exact hP _ _ he
   ·cases hx
theorem Ft {P:dP->Prop}(hP:BY P)(kr:Int): ∀(k:Nat) (q:Int) (es out:List oL),(∀e∈es,P e.1)->(∀e∈out,P e.1)->(∀e∈(fZ kr k q es out).2.1,P e.1)/\∀e∈(fZ kr k q es out).2.2.1,P e.1
 |0,q,es,out,h1,h2=>⟨h2,h1⟩
 |k+1,q,es,out,h1,h2=>by
  unfold fZ;split
  ·cases es with
   |nil=>exact⟨h2,h1⟩
   |cons e r=>
    simp only;have he:=h1 e (zdT ..);split
    ·exact⟨h2,h1⟩
    ·refine Ft hP kr k _ _ _ (Nq hP he λx hx=>h1 x (zdS _ hx)) (λx hx=>?_)
     rcases List.mem_append.1 hx with hx|hx
     ·exact h2 x hx
     ·rw[ze4] at hx;subst hx;exact he
  ·exact⟨h2,h1⟩
abbrev Fl.eD (f:mS):Int:=f.2.2.2.1
structure BZ (s pr:Int)(o:dP)(f:mS):Prop where
 Yi:Fs s pr f.1
 zb6: ∃q,f.2.1=Od.bP o q
 aZ:f.2.2.1=pr
 eD:1<=Fl.eD f
def jF (l:List mS):Int:=ik (l.map λf=>Fl.eD f)
theorem uz (a b:List mS):jF (a++b)=jF a+jF b:=by unfold jF;rw[zfo,kT]
theorem CP (s pr:Int)(o:dP): ∀(hs:List oL) (no q:Int) (out:List mS),zO hs->(∀h∈hs,Fs s pr h.1)->∃fs,(mV pr hs (no,Od.bP o q,out)).2.2=out++fs/\(∀f∈fs,BZ s pr o f)/\jF fs=jH hs
 | [],no,q,out,_,_=>⟨[],by simp[mV],λf hf=>(by cases hf),rfl⟩
 |h::r,no,q,out,h1,h2=>by
  obtain⟨fs,i1,i2,i3⟩:=CP s pr o r (i64.wrap (no+1)) (q-h.2.1) (out++ [(h.1,Od.bP o q,pr,h.2.1,i64.wrap (no+1),())]) (λx hx=>h1 x (zdS _ hx)) (λx hx=>h2 x (zdS _ hx));refine⟨(h.1,Od.bP o q,pr,h.2.1,i64.wrap (no+1),())::fs,?_,?_,?_⟩
  ·show(mV pr r (i64.wrap (no+1),Od.bP o (q-h.2.1),_)).2.2=_
   rw[i1];simp
  ·intro f hf
   rcases List.mem_cons.1 hf with rfl|hf
   ·exact⟨h2 h (zdT ..),⟨q,rfl⟩,rfl,h1 h (zdT ..)⟩
   ·exact i2 f hf
  ·have:jH (h::r)=h.2.1+jH r:=by simp[jH,ik]
   rw[this,<-i3];rfl
theorem CQ (s pr:Int):BY (Fs s pr):=λ_ _ h=>⟨h.side,h.aZ,h.qH,h.kr,h.kind⟩
structure I8 (s:Int)(o:dP)(A:List nI)(q:Int)(out:List mS)(M:Bool×Int×List nI×Int×Int×List mS):Prop where
 side:ma s M.2.2.1
 T2:M.2.2.1.map (·.1)<:+A.map (·.1)
 yW:iY M.2.2.1<=iY A
 left:0<=M.2.1/\M.2.1<=q
 stop:M.1=false->M.2.1>0->M.2.2.1=[]\/∃a L,M.2.2.1=a::L/\l9 o a.1=false
 zl: ∃fs,M.2.2.2.2.2=out++fs/\(∀f∈fs,∃pr,BZ s pr o f)/\jF fs=q-M.2.1
theorem ma.tail {s:Int}{a:nI}{A:List nI}(h:ma s (a::A)):ma s A:=
 ⟨λx hx=>h.ne x (zdS _ hx),λx hx=>h.O9 x (zdS _ hx),by have:=h.sorted;simp only[zeD,zft] at this;exact this.2⟩
theorem ma.head {s:Int}{a:nI}{A:List nI}(h:ma s (a::A)){es:List oL}(mb:es≠ [])(he: ∀e∈es,oM e/\Fs s a.1 e.1):ma s ((a.1,es)::A):=by
 refine⟨λx hx=>?_,λx hx=>?_,h.sorted⟩
 ·rcases List.mem_cons.1 hx with rfl|hx
  ·exact mb
  ·exact h.ne x (zdS _ hx)
 ·rcases List.mem_cons.1 hx with rfl|hx
  ·exact he
  ·exact h.O9 x (zdS _ hx)
theorem B0 (s:Int)(o:dP): ∀(A:List nI) (q last no:Int) (out:List mS),ma s A->0<=q->I8 s o A q out (uy o A q last no out)
 | [],q,last,no,out,h,h0=>⟨h,zfs _,zeL _,⟨h0,zeL _⟩,λ_ _=> .inl rfl,[],by simp[uy],λf hf=>(by cases hf),by simp[jF,ik,uy]⟩
 |a::A,q,last,no,out,h,h0=>by
  unfold uy;by_cases hc:q>0/\l9 o a.1=true
  ·rw[if_pos hc]
   have WL:=h.O9 a (zdT ..);obtain⟨t1,t2,t3,t4,t5,t6,t7,t8,t9⟩:=Fi o.2.2.1 q.toNat q a.2 [] h0 (by omega) (λe he=>(WL e he).1) (λx hx=>by cases hx)
   obtain⟨p1,p2⟩:=Ft (CQ s a.1) o.2.2.1 q.toNat q a.2 [] (λe he=>(WL e he).2) (λx hx=>by cases hx)
   generalize fZ o.2.2.1 q.toNat q a.2 []=T at*;obtain⟨own,rH,oA,q'⟩:=T;simp only at*;obtain⟨fs,f1,f2,f3⟩:=CP s a.1 o rH no q out t1 p1;have hz:jH ([]:List oL)=0:=rfl;have C7:iY ((a.1,oA)::A)<=iY (a::A):=by rw[mi,mi];simp only;omega
   have hf: ∃gs,(mV a.1 rH (no,Od.bP o q,out)).2.2=out++gs/\(∀f∈gs,∃pr,BZ s pr o f)/\jF gs=q-q':=⟨fs,f1,λf hf=>⟨_,f2 f hf⟩,by omega⟩
   cases own with
   |true=>
    rw[if_pos rfl];exact⟨h.head (t7 rfl) λe he=>⟨t5 e he,p2 e he⟩,zfs _,C7,⟨t3,t4⟩,λe=>(by cases e),hf⟩
   |false=>
    rw[if_neg (by simp)]
    by_cases he:oA=[]
    ·rw[if_pos he]
     have ih:=B0 s o A q' (rO a.1 last rH) (mV a.1 rH (no,Od.bP o q,out)).1 (mV a.1 rH (no,Od.bP o q,out)).2.2 h.tail t3;obtain⟨i1,i2,i3,i4,i5,gs,i6,i7,i8⟩:=ih;refine⟨i1,i2.trans (List.suffix_cons ..),?_,⟨i4.1,by omega⟩,i5,fs++gs,?_,λf hf=>?_,?_⟩
     ·rw[mi];omega
     ·rw[i6,f1];simp
     ·rcases List.mem_append.1 hf with hf|hf
      ·exact⟨_,f2 f hf⟩
      ·exact i7 f hf
     ·rw[uz];omega
    ·rw[if_neg he]
     exact⟨h.head he λe he=>⟨t5 e he,p2 e he⟩,zfs _,C7,⟨t3,t4⟩,λ_ hq=>absurd ((t8 rfl).resolve_right he) (by simp only at hq;omega),hf⟩
  ·rw[if_neg hc]
   refine⟨h,zfs _,zeL _,⟨h0,zeL _⟩,λ_ hq=> .inr ⟨a,A,rfl,?_⟩,[],by simp,λf hf=>(by cases hf),by simp[jF,ik]⟩
   cases hx:l9 o a.1 with
   |false=>rfl
   |true=>exact absurd ⟨hq,hx⟩ hc
theorem Gw {s a b c:Int}(h1:jc s a b=true)(h2:jc s b c=true):jc s a c=true:=by
 unfold jc at*;split at h1<;>simp_all<;>omega
theorem I9 {s a b:Int}(h1:jc s a b=false)(h2:a≠b):jc s b a=true:=by
 unfold jc at*;split at h1<;>simp_all<;>omega
theorem Pd {s:Int}{o:dP}{A:List nI}(h:ma s A)(he:oM (o,mr o,())/\Fs s (Od.aZ o) o):ma s (KM o A)/\iY (KM o A)=iY A+1/\∀a∈KM o A,a.1=Od.aZ o\/∃b∈A,b.1=a.1:=by
 have hs:=he.2.side;have rn: ∀x:nI,x=(Od.aZ o,[(o,mr o,())])->x.2≠ []/\∀e∈x.2,oM e/\Fs s x.1 e.1:=λx hx=>by
  subst hx;refine⟨by simp,λe h=>?_⟩
  rw[ze4] at h;subst h;exact he
 have Bm: ∀P S:List nI,A=P++S->(∀a∈P,jc s a.1 (Od.aZ o)=true)->(∀a∈S,jc s (Od.aZ o) a.1=true)->ma s (P++((Od.aZ o,[(o,mr o,())])::S))/\iY (P++((Od.aZ o,[(o,mr o,())])::S))=iY A+1/\∀a∈P++((Od.aZ o,[(o,mr o,())])::S),a.1=Od.aZ o\/∃b∈A,b.1=a.1:=by
  intro P S hA hP hS;subst hA;refine⟨⟨λa ha=>?_,λa ha=>?_,?_⟩,?_,λa ha=>?_⟩
  ·rcases List.mem_append.1 ha with ha|ha
   ·exact h.ne a (zdX _ ha)
   ·rcases List.mem_cons.1 ha with ha|ha
    ·exact(rn a ha).1
    ·exact h.ne a (zdY _ ha)
  ·rcases List.mem_append.1 ha with ha|ha
   ·exact h.O9 a (zdX _ ha)
   ·rcases List.mem_cons.1 ha with ha|ha
    ·exact(rn a ha).2
    ·exact h.O9 a (zdY _ ha)
  ·have:=h.sorted
   rw[zfo,List.pairwise_append] at this;rw[zfo,List.pairwise_append,zeD,zft];refine⟨this.1,⟨λx hx=>?_,this.2.1⟩,λx hx y hy=>?_⟩
   ·obtain⟨a,ha,rfl⟩:=List.mem_map.1 hx;exact hS a ha
   ·rcases List.mem_cons.1 hy with rfl|hy
    ·obtain⟨a,ha,rfl⟩:=List.mem_map.1 hx;exact hP a ha
    ·exact this.2.2 x hx y hy
  ·rw[qS,qS,mi];simp only[zdQ,zdR];omega
  ·rcases List.mem_append.1 ha with ha|ha
   ·exact .inr ⟨a,zdX _ ha,rfl⟩
   ·rcases List.mem_cons.1 ha with rfl|ha
    ·exact .inl rfl
    ·exact .inr ⟨a,zdY _ ha,rfl⟩
 unfold KM;cases hf:A.findIdx? (λa=>!jc (Od.side o) a.1 (Od.aZ o)) with
 |none=>
  rw[zfl] at hf;refine Bm A [] (by simp) (λa ha=>?_) (λa ha=>by cases ha)
  have:=hf a ha;rw[hs] at this;simpa using this
 |some n=>
  rw[zfm] at hf;obtain⟨hn,h1,h2⟩:=hf;rw[hs] at h1;simp only[zdL hn];have FZ:A=A.take n++A.drop n:=(zeY n A).symm;have hdr:A.drop n=A[n]::A.drop (n+1):=zfq hn;have PW: ∀a∈A.take n,jc s a.1 (Od.aZ o)=true:=λa ha=>by
   obtain⟨j,hj,rfl⟩:=zen ha;rw[zea] at hj;have:=h2 j (by omega)
   rw[hs] at this;rw[List.getElem_take];simpa using this
  have zb7:=h.sorted;rw[FZ,hdr,zfo,List.pairwise_append,zeD,zft] at zb7;by_cases BX:A[n].1=Od.aZ o
  ·rw[if_pos BX]
   have uK:A.set n (A[n].1,A[n].2++ [(o,mr o,())])=A.take n++((A[n].1,A[n].2++ [(o,mr o,())])::A.drop (n+1)):=by rw[zfu,if_pos hn]
   have tJ:=zeT hn;refine⟨⟨λa ha=>?_,λa ha=>?_,?_⟩,?_,λa ha=>?_⟩
   ·rcases zeS ha with ha|rfl
    ·exact h.ne a ha
    ·simp
   ·rcases zeS ha with ha|rfl
    ·exact h.O9 a ha
    ·intro e hx
     rcases List.mem_append.1 hx with hx|hx
     ·exact h.O9 _ tJ e hx
     ·rw[ze4] at hx;subst hx
      exact⟨he.1,by rw[show((A[n].1,A[n].2++ [(o,mr o,())]):nI).1=A[n].1 from rfl,BX];exact he.2⟩
   ·have:(A.set n (A[n].1,A[n].2++ [(o,mr o,())])).map (·.1)=A.map (·.1):=by
     rw[List.map_set];have h3:(A.map (·.1))[n]?=some A[n].1:=by rw[zeM,zdL hn];rfl
     exact aE h3
    rw[this];exact h.sorted
   ·rw[uK,qS,mi]
    have:iY A=iY (A.take n)+(A[n].2.length+iY (A.drop (n+1))):=by rw[<-mi,<-hdr,<-qS,<-FZ]
    rw[this];simp only[zdP,zdQ,zdR];omega
   ·rcases zeS ha with ha|rfl
    ·exact .inr ⟨a,ha,rfl⟩
    ·exact .inl BX
  ·rw[if_neg BX]
   refine Bm (A.take n) (A.drop n) FZ PW (λa ha=>?_);have hb:jc s (Od.aZ o) A[n].1=true:=I9 (by simpa using h1) BX
   rw[hdr] at ha;rcases List.mem_cons.1 ha with rfl|ha
   ·exact hb
   ·exact Gw hb (zb7.2.1.1 a.1 (List.mem_map.2 ⟨a,ha,rfl⟩))
structure Yj (o:dP)(x:lU):Prop where
 ord:x.1=o
 zl:x.2.1=[]\/(Hk o/\(∀f∈x.2.1,∃pr,BZ (3-Od.side o) pr o f)/\jF x.2.1=Od.eD o-x.2.2.1)
 left:0<=Od.eD o->0<=x.2.2.1/\x.2.2.1<=Od.eD o
theorem Fu {L B:List nI}(h:L.map (·.1)<:+B.map (·.1)){a:nI}(ha:a∈L): ∃b∈B,b.1=a.1:=by
 have:a.1∈B.map (·.1):=h.subset (List.mem_map.2 ⟨a,ha,rfl⟩)
 obtain⟨b,hb,e⟩:=List.mem_map.1 this;exact⟨b,hb,e⟩
theorem sV {o:dP}(h:je o=true):Od.kind o=1\/Od.kind o=5:=by
 unfold je at h;simpa only[zeR,zdU] using h
theorem KN {o:dP}(h:Hk o)(hk:je o=true){q:Int}(h0:0<q)(h1:q<=Od.eD o):oM (Od.we o q,mr (Od.we o q),())/\Fs (Od.side o) (Od.aZ o) (Od.we o q):=by
 have hq:Od.eD (Od.we o q)=q:=rfl;have ht:=OZ (o:=Od.we o q) (by rw[hq];omega)
 exact⟨⟨ht.1,ht.2,by show q<=_;have:=h.eD;omega⟩,⟨rfl,rfl,h.qH,h.kr,sV hk⟩⟩
theorem DJ {A B:List nI}{last no:Int}(hi:BI A B)(o:dP):BI (ju o A B last no).2.1 (ju o A B last no).2.2.1/\iY (ju o A B last no).2.1+iY (ju o A B last no).2.2.1<=iY A+iY B+(if je o=true then 1 else 0)/\Yj o (ju o A B last no).1:=by
 have hz:(0:Int)<=(if je o=true then 1 else 0):=by split<;>omega
 unfold ju;by_cases h0:Gv o A B=0
 ·rw[if_neg (λe=>e h0)]
  have mj:=qR (zP h0);have hq:=mj.eD;have CR:je o=true->iY A+iY B+1<=64:=λhr=>by
   unfold Gv at h0;rw[zP (A:=A) (B:=B) (by unfold Gv;exact h0)] at h0
   simp only[zdJ,zdN,if_false,hr,true_and] at h0;split at h0
   ·cases h0
   ·split at h0
    ·cases h0
    ·split at h0
     ·cases h0
     ·omega
  by_cases Lw:Od.side o=1
  ·have hm:I8 2 o B (Od.eD o) [] (rK o A B last no):=by unfold rK;rw[if_pos Lw];exact B0 2 o B _ last no [] hi.sU (by omega)
   generalize rK o A B last no=M at*;simp only[if_pos Lw];have jD: ∃fs,M.2.2.2.2.2=fs/\(∀f∈fs,∃pr,BZ (3-Od.side o) pr o f)/\jF fs=Od.eD o-M.2.1:=by
    obtain⟨fs,f1,f2,f3⟩:=hm.zl;exact⟨fs,f1,by rw[Lw];exact f2,f3⟩
   obtain⟨fs,f1,f2,f3⟩:=jD;have T3: ∀a∈A,∀b∈M.2.2.1,a.1<b.1:=λa ha b hb=>by
    obtain⟨c,hc,e⟩:=Fu hm.T2 hb;rw[<-e];exact hi.TX a ha c hc
   have C7:=hm.yW;have zdf:=hi.yW;by_cases hc:M.2.1>0/\M.1=false/\je o=true
   ·rw[if_pos hc]
    obtain⟨c1,c2,c3⟩:=hc;have uK:=KN mj c3 c1 hm.left.2;rw[Lw] at uK;obtain⟨i1,i2,i3⟩:=Pd (s:=1) (A:=A) hi.yu uK;have:=CR c3;refine⟨⟨i1,hm.side,by simp only[i2];omega,λa ha b hb=>?_⟩,by simp only[i2,c3,if_true];omega,rfl, .inr ⟨mj,by simp only[f1];exact f2,by simp only[f1];exact f3⟩,λ_=>hm.left⟩
    rcases i3 a ha with h1|⟨c,hc,h1⟩
    ·rcases hm.stop c2 c1 with h2|⟨x,L,h2,h3⟩
     ·simp only at hb;rw[h2] at hb;cases hb
     ·have hk:=sV c3
      have hp:Od.aZ o<x.1:=by
       unfold l9 at h3;rw[if_neg (by omega),if_pos Lw] at h3
       have:=of_decide_eq_false h3;omega
      have Iw:a.1=Od.aZ o:=h1;simp only at hb;rw[h2] at hb;rcases List.mem_cons.1 hb with rfl|hb
      ·omega
      ·have Md:=hm.side.sorted
       rw[h2,zeD,zft] at Md;have:=Md.1 b.1 (List.mem_map.2 ⟨b,hb,rfl⟩);unfold jc at this;rw[if_neg (by omega)] at this
       have:=of_decide_eq_true this;omega
    ·rw[<-h1];exact T3 c hc b hb
   ·rw[if_neg hc]
    exact⟨⟨hi.yu,hm.side,by simp only;omega,T3⟩,by simp only;omega,rfl, .inr ⟨mj,by simp only[f1];exact f2,by simp only[f1];exact f3⟩,λ_=>hm.left⟩
  ·have Rz:Od.side o=2:=mj.side.resolve_left Lw
   have hm:I8 1 o A (Od.eD o) [] (rK o A B last no):=by unfold rK;rw[if_neg Lw];exact B0 1 o A _ last no [] hi.yu (by omega)
   generalize rK o A B last no=M at*;simp only[if_neg Lw];have jD: ∃fs,M.2.2.2.2.2=fs/\(∀f∈fs,∃pr,BZ (3-Od.side o) pr o f)/\jF fs=Od.eD o-M.2.1:=by
    obtain⟨fs,f1,f2,f3⟩:=hm.zl;exact⟨fs,f1,by rw[Rz];exact f2,f3⟩
   obtain⟨fs,f1,f2,f3⟩:=jD;have T3: ∀a∈M.2.2.1,∀b∈B,a.1<b.1:=λa ha b hb=>by
    obtain⟨c,hc,e⟩:=Fu hm.T2 ha;rw[<-e];exact hi.TX c hc b hb
   have C7:=hm.yW;have zdf:=hi.yW;by_cases hc:M.2.1>0/\M.1=false/\je o=true
   ·rw[if_pos hc]
    obtain⟨c1,c2,c3⟩:=hc;have uK:=KN mj c3 c1 hm.left.2;rw[Rz] at uK;obtain⟨i1,i2,i3⟩:=Pd (s:=2) (A:=B) hi.sU uK;have:=CR c3;refine⟨⟨hm.side,i1,by simp only[i2];omega,λb hb a ha=>?_⟩,by simp only[i2,c3,if_true];omega,rfl, .inr ⟨mj,by simp only[f1];exact f2,by simp only[f1];exact f3⟩,λ_=>hm.left⟩
    rcases i3 a ha with h1|⟨c,hc,h1⟩
    ·rcases hm.stop c2 c1 with h2|⟨x,L,h2,h3⟩
     ·simp only at hb;rw[h2] at hb;cases hb
     ·have hk:=sV c3
      have hp:x.1<Od.aZ o:=by
       unfold l9 at h3;rw[if_neg (by omega),if_neg Lw] at h3
       have:=of_decide_eq_false h3;omega
      have Iw:a.1=Od.aZ o:=h1;simp only at hb;rw[h2] at hb;rcases List.mem_cons.1 hb with rfl|hb
      ·omega
      ·have Md:=hm.side.sorted
       rw[h2,zeD,zft] at Md;have:=Md.1 b.1 (List.mem_map.2 ⟨b,hb,rfl⟩);unfold jc at this;rw[if_pos rfl] at this;have:=of_decide_eq_true this;omega
    ·rw[<-h1];exact T3 b hb c hc
   ·rw[if_neg hc]
    exact⟨⟨hm.side,hi.sU,by simp only;omega,T3⟩,by simp only;omega,rfl, .inr ⟨mj,by simp only[f1];exact f2,by simp only[f1];exact f3⟩,λ_=>hm.left⟩
 ·rw[if_pos h0]
  exact⟨hi,by simp only;omega,rfl, .inl rfl,λh=>⟨h,zeL _⟩⟩
def vz (t i:Int)(A B:List nI):dP×Bool×List nI×List nI:=match nb t i A with
 |some (m,o)=>(o,true,(match A[m]? with|some a=>if qF t i a.2=[] then A.eraseIdx m else A.set m (a.1,qF t i a.2)|none=>A),B)
 |none=>match nb t i B with
  |some (m,o)=>(o,true,A,(match B[m]? with|some a=>if qF t i a.2=[] then B.eraseIdx m else B.set m (a.1,qF t i a.2)|none=>B))
  |none=>(o0,false,A,B)
section
variable {bs ss:List Nat}{st:List gR}{A B:List nI}{last no:Int}
theorem yv {l:List Nat}(hl:KL st l)(hn:l.Nodup){m:Nat}(hm:m<l.length)(oA:List oL):jN (kD st l[m] oA) l=(jN st l).set m (gb st l[m],oA)/\KL (kD st l[m] oA) l:=by
 obtain⟨pr,es,hp⟩:=hl _ (zeT hm);constructor
 ·apply List.ext_getElem?
  intro j;unfold jN;rw[zfc,zeM];by_cases hj:m=j
  ·subst hj
   rw[if_pos rfl,zdL hm,if_pos (by rw[zeQ];exact hm)]
   simp only[zdV];have:=(hp.put (oA:=oA)).oW;rw[this.1,this.2,hp.oW.2]
  ·rw[if_neg hj,zeM]
   cases hlj:l[j]? with
   |none=>rfl
   |some p=>
    simp only[zdV];have hpj:p≠l[m]:=λe=>by
     obtain⟨hj1,YA⟩:=List.getElem?_eq_some_iff.1 hlj;exact hj ((List.getElem_inj hn).1 (YA.trans e)).symm
    obtain⟨WE,TP,wy⟩:=hl p (zeH hlj);have h1:=(wy.tY (oA:=oA) hpj hp.ne0).oW;rw[h1.1,h1.2,wy.oW.1,wy.oW.2]
 ·intro p wy
  by_cases e:p=l[m]
  ·subst e;exact⟨pr,_,hp.put⟩
  ·obtain⟨WE,TP,h'⟩:=hl p wy
   exact⟨WE,TP,h'.tY e hp.ne0⟩
theorem oB {t i:Int}: ∀{A:List nI} {m:Nat} {o:dP},nb t i A=some (m,o)->∃a,A[m]?=some a/\Q1 t i a=some o
 | [],_,_,h=>by cases h
 |a::A,m,o,h=>by
  simp only[nb] at h;cases e:Q1 t i a with
  |some x=>rw[e] at h;cases h;exact⟨a,rfl,e⟩
  |none=>
   rw[e] at h;simp only at h;cases e2:nb t i A with
   |none=>rw[e2] at h;cases h
   |some y=>
    rw[e2] at h;obtain⟨m',o'⟩:=y;cases h;obtain⟨q,h1,h2⟩:=oB e2;exact⟨q,by simpa using h1,h2⟩
theorem Hm {l:List Nat}(hl:KL st l)(hn:l.Nodup){m:Nat}(hm:m<l.length)(oA:List oL):jN (kD st l[m] oA) (mU l m oA)=(if oA=[] then(jN st l).eraseIdx m else(jN st l).set m (gb st l[m],oA))/\(mU l m oA).Sublist l:=by
 have h:=yv hl hn hm oA;unfold mU;by_cases e:oA=[]
 ·rw[if_pos e,if_pos e]
  refine⟨?_,zfv ..⟩;have h1:jN (kD st l[m] oA) (l.eraseIdx m)=(jN (kD st l[m] oA) l).eraseIdx m:=by unfold jN;rw[zfj,zfo,List.map_take,List.map_drop,<-zfj]
  rw[h1,h.1,List.eraseIdx_set_eq]
 ·rw[if_neg e,if_neg e]
  exact⟨h.1,List.Sublist.refl _⟩
theorem zam (h:Bk bs ss st A B)(hi:BI A B)(t i:Int): ∃pq pt fy,gr WX (((),t,i,()),(kF last no,bs,ss,st,()))=some (((vz t i A B).1,(vz t i A B).2.1,()),(kF last no,pq,pt,fy,()))/\Bk pq pt fy (vz t i A B).2.2.1 (vz t i A B).2.2.2:=by
 have hr:=Nl (hdr:=kF last no) (t:=t) (i:=i) (h.yu hi).1 (h.sU hi).1;have hnd:=List.nodup_append.1 h.nd;obtain⟨lb,ls,nd,rfl,rfl⟩:=h;unfold Fg at hr;unfold vz;rw[pS,pS] at hr;cases hf:nb t i (jN st bs) with
 |some x=>
  obtain⟨m,o⟩:=x;obtain⟨a,h1,h2⟩:=oB hf;have hm:m<bs.length:=by have:=(List.getElem?_eq_some_iff.1 h1).1;unfold jN at this;rw[zeQ] at this;exact this
  have hx:=zdL hm;have hg:bs.getD m 0=bs[m]:=by rw[zdW,hx];rfl
  have ha:a=(gb st bs[m],dO st bs[m]):=by
   unfold jN at h1;rw[zeM,hx] at h1;cases h1;rfl
  subst ha;rw[hf] at hr;simp only[hg] at hr;obtain⟨s1,s2⟩:=Hm lb hnd.1 hm (qF t i (dO st bs[m]));have O7:=nX (sT (lb _ (zeT hm)).choose_spec.choose_spec (qF t i (dO st bs[m])) bs (zeT hm)) ls (λp hp wy=>hnd.2.2 p wy p hp rfl);refine⟨_,_,_,hr,⟨λp hp=>(yv lb hnd.1 hm _).2 p (s2.subset hp),O7.2,List.nodup_append.2 ⟨s2.nodup hnd.1,hnd.2.1,λa ha b hb=>hnd.2.2 a (s2.subset ha) b hb⟩,?_,O7.1⟩⟩;simp only[h1];exact s1
 |none=>
  rw[hf] at hr;cases xX:nb t i (jN st ss) with
  |some x=>
   obtain⟨m,o⟩:=x;obtain⟨a,h1,h2⟩:=oB xX;have hm:m<ss.length:=by have:=(List.getElem?_eq_some_iff.1 h1).1;unfold jN at this;rw[zeQ] at this;exact this
   have hx:=zdL hm;have hg:ss.getD m 0=ss[m]:=by rw[zdW,hx];rfl
   have ha:a=(gb st ss[m],dO st ss[m]):=by
    unfold jN at h1;rw[zeM,hx] at h1;cases h1;rfl
   subst ha;rw[xX] at hr;simp only[hg] at hr;obtain⟨s1,s2⟩:=Hm ls hnd.2.1 hm (qF t i (dO st ss[m]));have O7:=nX (sT (ls _ (zeT hm)).choose_spec.choose_spec (qF t i (dO st ss[m])) ss (zeT hm)) lb (λp hp wy=>hnd.2.2 p hp p wy rfl);refine⟨_,_,_,hr,⟨O7.2,λp hp=>(yv ls hnd.2.1 hm _).2 p (s2.subset hp),List.nodup_append.2 ⟨hnd.1,s2.nodup hnd.2.1,λa ha b hb=>hnd.2.2 a ha b (s2.subset hb)⟩,O7.1,?_⟩⟩;simp only[h1];exact s1
  |none=>
   rw[xX] at hr;exact⟨_,_,_,hr,⟨lb,ls,nd,rfl,rfl⟩⟩
end
theorem T4 {A B:List nI}(h:A.Sublist B):iY A<=iY B:=by
 induction h with
 |slnil=>exact zeL _
 |cons a h ih=>rw[mi];omega
 |cons_cons a h ih=>rw[mi,mi];omega
theorem T5 {s:Int}{A B:List nI}(h:ma s B)(hs:A.Sublist B):ma s A:=
 ⟨λa ha=>h.ne a (hs.subset ha),λa ha=>h.O9 a (hs.subset ha),h.sorted.sublist (hs.map _)⟩
theorem KO {s:Int}{A:List nI}(h:ma s A){m:Nat}{a:nI}(ha:A[m]?=some a){es:List oL}(mb:es≠ [])(he: ∀e∈es,oM e/\Fs s a.1 e.1)(hl:es.length<=a.2.length):ma s (A.set m (a.1,es))/\iY (A.set m (a.1,es))<=iY A/\(A.set m (a.1,es)).map (·.1)=A.map (·.1):=by
 have hp:(A.set m (a.1,es)).map (·.1)=A.map (·.1):=by
  rw[List.map_set];have h3:(A.map (·.1))[m]?=some a.1:=by rw[zeM,ha];rfl
  exact aE h3
 have hm:=(List.getElem?_eq_some_iff.1 ha).1;refine⟨⟨λx hx=>?_,λx hx=>?_,by rw[hp];exact h.sorted⟩,?_,hp⟩
 ·rcases zeS hx with hx|rfl
  ·exact h.ne x hx
  ·exact mb
 ·rcases zeS hx with hx|rfl
  ·exact h.O9 x hx
  ·exact he
 ·have hdr:A.drop m=a::A.drop (m+1):=by
   rw[zfq hm,(List.getElem?_eq_some_iff.1 ha).2]
  have h1:iY A=iY (A.take m)+(a.2.length+iY (A.drop (m+1))):=by rw[<-mi,<-hdr,<-qS,zeY]
  rw[zfu,if_pos hm,qS,mi,h1];simp only;omega
theorem T9 {A A' B:List nI}(h:BI A B)(h1:ma 1 A')(h2:iY A'<=iY A)(h3: ∀a∈A',∃b∈A,b.1=a.1):BI A' B:=
 ⟨h1,h.sU,by have:=h.yW;omega,λa ha b hb=>by obtain⟨c,hc,e⟩:=h3 a ha;rw[<-e];exact h.TX c hc b hb⟩
theorem Pe {A B B':List nI}(h:BI A B)(h1:ma 2 B')(h2:iY B'<=iY B)(h3: ∀b∈B',∃c∈B,c.1=b.1):BI A B':=
 ⟨h.yu,h1,by have:=h.yW;omega,λa ha b hb=>by obtain⟨c,hc,e⟩:=h3 b hb;rw[<-e];exact h.TX a ha c hc⟩
theorem CS {A A':List nI}(h:A'.map (·.1)=A.map (·.1)): ∀a∈A',∃b∈A,b.1=a.1:=λa ha=>by
 have:a.1∈A.map (·.1):=h▸List.mem_map.2 ⟨a,ha,rfl⟩
 obtain⟨b,hb,e⟩:=List.mem_map.1 this;exact⟨b,hb,e⟩
theorem Ua (t i:Int)(es:List oL):(qF t i es).Sublist es:=by
 unfold qF;split
 ·exact zfv ..
 ·exact List.Sublist.refl _
theorem KP {s:Int}{A:List nI}(h:ma s A){m:Nat}{a:nI}(ha:A[m]?=some a)(t i:Int):ma s (if qF t i a.2=[] then A.eraseIdx m else A.set m (a.1,qF t i a.2))/\iY (if qF t i a.2=[] then A.eraseIdx m else A.set m (a.1,qF t i a.2))<=iY A/\∀x∈(if qF t i a.2=[] then A.eraseIdx m else A.set m (a.1,qF t i a.2)),∃b∈A,b.1=x.1:=by
 by_cases e:qF t i a.2=[]
 ·simp only[if_pos e]
  have hs:(A.eraseIdx m).Sublist A:=zfv ..;exact⟨T5 h hs,T4 hs,λx hx=>⟨x,hs.subset hx,rfl⟩⟩
 ·simp only[if_neg e]
  have hs:=Ua t i a.2;have:=KO h ha e (λx hx=>h.O9 a (zeH ha) x (hs.subset hx)) hs.length_le;exact⟨this.1,this.2.1,CS this.2.2⟩
theorem WM {A B:List nI}(h:BI A B)(t i:Int):BI (vz t i A B).2.2.1 (vz t i A B).2.2.2/\iY (vz t i A B).2.2.1+iY (vz t i A B).2.2.2<=iY A+iY B:=by
 unfold vz;cases hf:nb t i A with
 |some x=>
  obtain⟨m,o⟩:=x;obtain⟨a,h1,h2⟩:=oB hf;simp only[h1];obtain⟨a1,a2,a3⟩:=KP h.yu h1 t i;exact⟨T9 h a1 a2 a3,by omega⟩
 |none=>
  cases xX:nb t i B with
  |some x=>
   obtain⟨m,o⟩:=x;obtain⟨a,h1,h2⟩:=oB xX;simp only[h1];obtain⟨a1,a2,a3⟩:=KP h.sU h1 t i;exact⟨Pe h a1 a2 a3,by omega⟩
  |none=>exact⟨h,zeL _⟩
def yw (t i q:Int)(A B:List nI):Bool×List nI×List nI:=match nb t i A with
 |some (m,_)=>(match A[m]? with|some a=>((oh t i q a.2).1,A.set m (a.1,(oh t i q a.2).2),B)|none=>(false,A,B))
 |none=>match nb t i B with
  |some (m,_)=>(match B[m]? with|some a=>((oh t i q a.2).1,A,B.set m (a.1,(oh t i q a.2).2))|none=>(false,A,B))
  |none=>(false,A,B)
theorem Ub (t i q:Int){s pr:Int}{es:List oL}(h: ∀e∈es,oM e/\Fs s pr e.1):(∀e∈(oh t i q es).2,oM e/\Fs s pr e.1)/\(oh t i q es).2.length=es.length:=by
 unfold oh;cases hf:es.findIdx? (λe=>Od.is t i e.1) with
 |none=>exact⟨h,rfl⟩
 |some n=>
  have hn:n<es.length:=(List.findIdx?_eq_some_iff_getElem.1 hf).1;have hd:es.getD n ((0,0,0,0,0,0,0,0,0,()),0,())=es[n]:=by rw[zdW,zdL hn];rfl
  have hm:=h _ (zeT hn);simp only[hd];split
  ·exact⟨h,rfl⟩
  ·rename_i hq
   refine⟨λe he=>?_,zej⟩;rcases zeS he with he|rfl
   ·exact h e he
   ·obtain⟨⟨a1,a2,a3⟩,a4⟩:=hm
    exact⟨⟨by show 1<=min _ _;omega,by show min _ _<=q;omega,by show q<=_;omega⟩,CQ _ _ _ _ a4⟩
theorem Hn (t i q:Int){s:Int}{A:List nI}(h:ma s A){m:Nat}{a:nI}(ha:A[m]?=some a):ma s (A.set m (a.1,(oh t i q a.2).2))/\iY (A.set m (a.1,(oh t i q a.2).2))<=iY A/\∀x∈A.set m (a.1,(oh t i q a.2).2),∃b∈A,b.1=x.1:=by
 have hm:=zeH ha;have hl:=Ub t i q (h.O9 a hm);have mb:(oh t i q a.2).2≠ []:=λe=>h.ne a hm (zef (by rw[<-hl.2,e];rfl))
 have:=KO h ha mb hl.1 (by omega)
 exact⟨this.1,this.2.1,CS this.2.2⟩
theorem Uc {A B:List nI}(h:BI A B)(t i q:Int):BI (yw t i q A B).2.1 (yw t i q A B).2.2/\iY (yw t i q A B).2.1+iY (yw t i q A B).2.2<=iY A+iY B:=by
 unfold yw;cases hf:nb t i A with
 |some x=>
  obtain⟨m,o⟩:=x;obtain⟨a,h1,h2⟩:=oB hf;simp only[h1];obtain⟨a1,a2,a3⟩:=Hn t i q h.yu h1;exact⟨T9 h a1 a2 a3,by omega⟩
 |none=>
  cases xX:nb t i B with
  |some x=>
   obtain⟨m,o⟩:=x;obtain⟨a,h1,h2⟩:=oB xX;simp only[h1];obtain⟨a1,a2,a3⟩:=Hn t i q h.sU h1;exact⟨Pe h a1 a2 a3,by omega⟩
  |none=>exact⟨h,zeL _⟩
def vA (t i:Int)(A B:List nI):Option dP:=match nb t i A with|some x=>some x.2|none=>match nb t i B with|some x=>some x.2|none=>none
section
variable {bs ss:List Nat}{st:List gR}{A B:List nI}{last no:Int}
theorem Pf (h:Bk bs ss st A B)(hi:BI A B)(t i:Int):fK WX (((),t,i,()),(kF last no,bs,ss,st,()))=some (((vA t i A B).getD o0,(vA t i A B).isSome,()),(kF last no,bs,ss,st,())):=by
 have hr:=KG (hdr:=kF last no) (t:=t) (i:=i) (h.yu hi).1 (h.sU hi).1;rw[pS,pS,h.ea,h.eb] at hr;unfold vA;rw[hr];cases nb t i A with
 |some x=>rfl
 |none=>cases nb t i B<;>rfl
theorem zan (h:Bk bs ss st A B)(hi:BI A B):iJ WX (((),()),(kF last no,bs,ss,st,()))=some ((iY A+iY B,()),(kF last no,bs,ss,st,())):=by
 have:=O6 (hdr:=kF last no) (h.yu hi).1 (h.sU hi).1;rw[A1,A1,h.ea,h.eb] at this;exact this
theorem yL (h:Bk bs ss st A B)(hi:BI A B)(s:Int)(hs:s=1\/s=2):dM WX (((),s,()),(kF last no,bs,ss,st,()))=some (.inr ((rI (if s=1 then A else B),()),(kF last no,bs,ss,st,()))):=by
 have:=No (hdr:=kF last no) (h.yu hi).1 (h.sU hi).1 s hs;rw[Q2] at this;rw[this];split
 ·rw[h.ea]
 ·rw[h.eb]
theorem WN (h:Bk bs ss st A B)(hi:BI A B)(t i q:Int): ∃fy,hU WX (((),t,i,q,()),(kF last no,bs,ss,st,()))=some (((yw t i q A B).1,()),(kF last no,bs,ss,fy,()))/\Bk bs ss fy (yw t i q A B).2.1 (yw t i q A B).2.2:=by
 have hr:=TM (hdr:=kF last no) (t:=t) (i:=i) (h.yu hi).1 (h.sU hi).1 q;have hnd:=List.nodup_append.1 h.nd;obtain⟨lb,ls,nd,rfl,rfl⟩:=h;unfold I5 at hr;unfold yw;rw[pS,pS] at hr;cases hf:nb t i (jN st bs) with
 |some x=>
  obtain⟨m,o⟩:=x;obtain⟨a,h1,h2⟩:=oB hf;have hm:m<bs.length:=by have:=(List.getElem?_eq_some_iff.1 h1).1;unfold jN at this;rw[zeQ] at this;exact this
  have hx:=zdL hm;have hg:bs.getD m 0=bs[m]:=by rw[zdW,hx];rfl
  have ha:a=(gb st bs[m],dO st bs[m]):=by
   unfold jN at h1;rw[zeM,hx] at h1;cases h1;rfl
  subst ha;rw[hf] at hr;simp only[hg] at hr;have hp:=yv lb hnd.1 hm (oh t i q (dO st bs[m])).2;have O7:=nX (sT (lb _ (zeT hm)).choose_spec.choose_spec (oh t i q (dO st bs[m])).2 bs (zeT hm)) ls (λp hp wy=>hnd.2.2 p wy p hp rfl);simp only[h1];exact⟨_,hr,hp.2,O7.2,nd,hp.1,O7.1⟩
 |none=>
  rw[hf] at hr;cases xX:nb t i (jN st ss) with
  |some x=>
   obtain⟨m,o⟩:=x;obtain⟨a,h1,h2⟩:=oB xX;have hm:m<ss.length:=by have:=(List.getElem?_eq_some_iff.1 h1).1;unfold jN at this;rw[zeQ] at this;exact this
   have hx:=zdL hm;have hg:ss.getD m 0=ss[m]:=by rw[zdW,hx];rfl
   have ha:a=(gb st ss[m],dO st ss[m]):=by
    unfold jN at h1;rw[zeM,hx] at h1;cases h1;rfl
   subst ha;rw[xX] at hr;simp only[hg] at hr;have hp:=yv ls hnd.2.1 hm (oh t i q (dO st ss[m])).2;have O7:=nX (sT (ls _ (zeT hm)).choose_spec.choose_spec (oh t i q (dO st ss[m])).2 ss (zeT hm)) lb (λp hp wy=>hnd.2.2 p hp p wy rfl);simp only[h1];exact⟨_,hr,O7.2,hp.2,nd,O7.1,hp.1⟩
  |none=>
   rw[xX] at hr;exact⟨_,hr,lb,ls,nd,rfl,rfl⟩
end
theorem CT {L:List (List dP)}{i:Nat}{x:List dP}(h:L[i]?=some x):(L.take (i+1)).flatten=(L.take i).flatten++x:=by
 have hi:i<L.length:=(List.getElem?_eq_some_iff.1 h).1;rw[zfd,h];simp
theorem Ho {L:List (List dP)}(i:Nat):(L.take i).flatten.length<=L.flatten.length:=by
 conv=>rhs;rw[<-zeY i L,List.flatten_append,zdP]
 omega
theorem CU (L:List (List dP))(h:L.flatten.length<=1000000000)(hn:L.length<=1000000):ag (aO WX) ((L,0,L,(L.length:Int),0,()),())=some ((L,(L.flatten.length:Int),()),()):=by
 have key: ∀m i:Nat,i+m=L.length->ag (aO WX) ((L,((L.take i).flatten.length:Int),L,(L.length:Int),(i:Int),()),())=some ((L,(L.flatten.length:Int),()),()):=by
  intro m;induction m with
  |zero=>
   intro i hi;rw[aq];have:i=L.length:=by omega
   subst this;simp only[aO,↓xo,aV (show¬(L.length:Int)<(L.length:Int) by omega),zdG,zeX]
  |succ m ih=>
   intro i hi;have nM:i<L.length:=by omega
   have hx:=zdL nM;generalize L[i]=x at hx;have hf:=CT hx;have hle:=Ho (L:=L) (i+1);rw[hf,zdP] at hle;rw[aq];have e1:IntKind.wrap .i64 (((L.take i).flatten.length:Int)+(x.length:Int))=((L.take (i+1)).flatten.length:Int):=by
    rw[nL (by omega) (by omega),hf,zdP];omega
   simp only[aO,↓xo,xw,ot (show(i:Int)<(L.length:Int) by omega),ot (show(0:Int)<=(i:Int) by omega),zdH,zdI,hx,zdF,e1,aV (show¬((L.take (i+1)).flatten.length:Int)<0 by omega),zdG,jY nM hn]
   exact ih (i+1) (by omega)
 exact key L.length 0 (by omega)
theorem Ja (L:List (List dP))(hn:L.length<=1000000):ag (aK WX) ((0,L,(L.length:Int),0,()),(List.replicate L.flatten.length ((0:Int),(0:Int),(0:Int),(0:Int),(0:Int),(0:Int),(0:Int),(0:Int),(0:Int),()),()))=some ((L.flatten.length,()),(L.flatten,())):=by
 have key: ∀m i:Nat,i+m=L.length->ag (aK WX) (((L.take i).flatten.length,L,(L.length:Int),(i:Int),()),((L.take i).flatten++List.replicate (L.flatten.length-(L.take i).flatten.length) ((0:Int),(0:Int),(0:Int),(0:Int),(0:Int),(0:Int),(0:Int),(0:Int),(0:Int),()),()))=some ((L.flatten.length,()),(L.flatten,())):=by
  intro m;induction m with
  |zero=>
   intro i hi;rw[aq];have:i=L.length:=by omega
   subst this;simp only[aK,↓xo,aV (show¬(L.length:Int)<(L.length:Int) by omega),zdG,zeX,Nat.sub_self,zeU,ze7]
  |succ m ih=>
   intro i hi;have nM:i<L.length:=by omega
   have hx:=zdL nM;generalize L[i]=x at hx;have hf:=CT hx;have hle:=Ho (L:=L) (i+1);rw[hf,zdP] at hle;rw[aq];have e2:((L.take i).flatten++List.replicate (L.flatten.length-(L.take i).flatten.length) ((0:Int),(0:Int),(0:Int),(0:Int),(0:Int),(0:Int),(0:Int),(0:Int),(0:Int),())).take (0+(L.take i).flatten.length)++x++((L.take i).flatten++List.replicate (L.flatten.length-(L.take i).flatten.length) ((0:Int),(0:Int),(0:Int),(0:Int),(0:Int),(0:Int),(0:Int),(0:Int),(0:Int),())).drop (0+(L.take i).flatten.length+x.length)=(L.take (i+1)).flatten++List.replicate (L.flatten.length-(L.take (i+1)).flatten.length) ((0:Int),(0:Int),(0:Int),(0:Int),(0:Int),(0:Int),(0:Int),(0:Int),(0:Int),()):=by
    rw[zev,List.take_left,List.drop_append,zfb (by omega),zeG,List.drop_replicate,hf,zdP]
    congr 2
    omega
   simp only[aK,↓xo,xw,ot (show(i:Int)<(L.length:Int) by omega),ot (show(0:Int)<=(i:Int) by omega),zdH,zdI,hx,zdF,
    ot (show 0+(L.take i).flatten.length+x.length<=((L.take i).flatten++List.replicate (L.flatten.length-(L.take i).flatten.length) ((0:Int),(0:Int),(0:Int),(0:Int),(0:Int),(0:Int),(0:Int),(0:Int),(0:Int),())).length by rw[zdP,zez];omega),e2,jY nM hn]
   have:=ih (i+1) (by omega)
   rw[hf,zdP] at this⊢;exact this
 have:=key L.length 0 (by omega)
 simpa using this
theorem Gx (L:List (List dP))(hf:L.flatten=[])(hn:L.length<=1000000):ag (aJ WX) (((),L,(L.length:Int),0,()),(([]:List dP),()))=some (((),()),([],())):=by
 have key: ∀m i:Nat,i+m=L.length->ag (aJ WX) (((),L,(L.length:Int),(i:Int),()),(([]:List dP),()))=some (((),()),([],())):=by
  intro m;induction m with
  |zero=>
   intro i hi;rw[aq];have:i=L.length:=by omega
   subst this;simp only[aJ,↓xo,aV (show¬(L.length:Int)<(L.length:Int) by omega),zdG]
  |succ m ih=>
   intro i hi;have nM:i<L.length:=by omega
   have hx:=zdL nM;have hm:=zeT nM;have h0:L[i]=[]:=List.flatten_eq_nil_iff.1 hf _ hm;rw[h0] at hx;rw[aq];simp only[aJ,↓xo,xw,ot (show(i:Int)<(L.length:Int) by omega),ot (show(0:Int)<=(i:Int) by omega),zdH,zdI,hx,zdF,ze7,zdR,jY nM hn,
    ot (show(((0+0:Nat):Int))*((72:Nat):Int)<=((room:Nat):Int) by unfold room;omega)]
   exact ih (i+1) (by omega)
 exact key L.length 0 (by omega)
theorem Jb (L:List (List dP))(hf:L.flatten=[])(hn:L.length<=1000000):aH WX ((L,()),())=some (.inr (((),()),([],()))):=by
 have h3:=CU L (by rw[hf];simp) hn
 have hb:=Gx L hf hn;rw[hf] at h3;change _=some ((L,0,()),()) at h3;have hg:ca WX (((),0,()),())=some (.inr (((),()),[],())):=by kernel_rfl
 simp only[aH,xl,h3,zdF,hg,hb]
theorem KQ (L:List (List dP))(hf:L.flatten≠ [])(h:L.flatten.length<=1000000000)(hn:L.length<=1000000):aH WX ((L,()),())=some (.inl ((L.flatten.length,()),(L.flatten,()))):=by
 have h3:=CU L h hn;have hb:=Ja L hn;have hp:0<L.flatten.length:=List.length_pos_iff.2 hf;generalize hN:L.flatten.length=n at*;have e0:IntKind.wrap .i64 ((n:Int)-IntKind.wrap .i64 (0-0))=(n:Int):=by
  rw[nL (n:=0-0) (by omega) (by omega),nL (by omega) (by omega)];omega
 simp only[aH,xl,h3,zdF,ca,↓xo,xw,e0,aV (show¬(n:Int)<0 by omega),zdG,ot (show(n:Int)>0 by omega),zdH,zdR,zfe,zeG,zez,zdI,and_self,iX]
 have e1:af ((0:Int)=0/\(0:Int)=0)=true:=ot (by decide)
 have e2:af ((0:Int)<=(n:Int)/\(0+(n:Int))*((72:Nat):Int)<=((room:Nat):Int))=true:=ot (by unfold room;omega)
 have e3:af ((0:Int)<=0/\(0:Int)<=0/\(0:Int)<=(n:Int))=true:=ot (by omega)
 have e4:((0:Int)-(0:Int)).toNat=0:=rfl;simp only[e1,e2,e3,zdH,zdF,e4,hb]
theorem Dn (L:List (List dP))(h:L.flatten.length<=1000000000)(hn:L.length<=1000000):aH WX ((L,()),())=some (.inr (((),()),([],())))/\L.flatten=[]\/aH WX ((L,()),())=some (.inl ((L.flatten.length,()),(L.flatten,()))):=by
 by_cases hf:L.flatten=[]
 ·exact .inl ⟨Jb L hf hn,hf⟩
 ·exact .inr (KQ L hf h hn)
theorem CV {L:List (List mq)}{i:Nat}{x:List mq}(h:L[i]?=some x):(L.take (i+1)).flatten=(L.take i).flatten++x:=by
 have hi:i<L.length:=(List.getElem?_eq_some_iff.1 h).1;rw[zfd,h];simp
theorem Hp {L:List (List mq)}(i:Nat):(L.take i).flatten.length<=L.flatten.length:=by
 conv=>rhs;rw[<-zeY i L,List.flatten_append,zdP]
 omega
theorem CW (L:List (List mq))(h:L.flatten.length<=1000000000)(hn:L.length<=1000000):ag (aY WX) ((L,0,L,(L.length:Int),0,()),())=some ((L,(L.flatten.length:Int),()),()):=by
 have key: ∀m i:Nat,i+m=L.length->ag (aY WX) ((L,((L.take i).flatten.length:Int),L,(L.length:Int),(i:Int),()),())=some ((L,(L.flatten.length:Int),()),()):=by
  intro m;induction m with
  |zero=>
   intro i hi;rw[aq];have:i=L.length:=by omega
   subst this;simp only[aY,↓xo,aV (show¬(L.length:Int)<(L.length:Int) by omega),zdG,zeX]
  |succ m ih=>
   intro i hi;have nM:i<L.length:=by omega
   have hx:=zdL nM;generalize L[i]=x at hx;have hf:=CV hx;have hle:=Hp (L:=L) (i+1);rw[hf,zdP] at hle;rw[aq];have e1:IntKind.wrap .i64 (((L.take i).flatten.length:Int)+(x.length:Int))=((L.take (i+1)).flatten.length:Int):=by
    rw[nL (by omega) (by omega),hf,zdP];omega
   simp only[aY,↓xo,xw,ot (show(i:Int)<(L.length:Int) by omega),ot (show(0:Int)<=(i:Int) by omega),zdH,zdI,hx,zdF,e1,aV (show¬((L.take (i+1)).flatten.length:Int)<0 by omega),zdG,jY nM hn]
   exact ih (i+1) (by omega)
 exact key L.length 0 (by omega)
theorem Jc (L:List (List mq))(hn:L.length<=1000000):ag (aS WX) ((0,L,(L.length:Int),0,()),(List.replicate L.flatten.length ((0:Int),(0:Int),(0:Int),(0:Int),(0:Int),(0:Int),(0:Int),(0:Int),(0:Int),(0:Int),(List.replicate 32 (0:Int)),()),()))=some ((L.flatten.length,()),(L.flatten,())):=by
 have key: ∀m i:Nat,i+m=L.length->ag (aS WX) (((L.take i).flatten.length,L,(L.length:Int),(i:Int),()),((L.take i).flatten++List.replicate (L.flatten.length-(L.take i).flatten.length) ((0:Int),(0:Int),(0:Int),(0:Int),(0:Int),(0:Int),(0:Int),(0:Int),(0:Int),(0:Int),(List.replicate 32 (0:Int)),()),()))=some ((L.flatten.length,()),(L.flatten,())):=by
  intro m;induction m with
  |zero=>
   intro i hi;rw[aq];have:i=L.length:=by omega
   subst this;simp only[aS,↓xo,aV (show¬(L.length:Int)<(L.length:Int) by omega),zdG,zeX,Nat.sub_self,zeU,ze7]
  |succ m ih=>
   intro i hi;have nM:i<L.length:=by omega
   have hx:=zdL nM;generalize L[i]=x at hx;have hf:=CV hx;have hle:=Hp (L:=L) (i+1);rw[hf,zdP] at hle;rw[aq];have e2:((L.take i).flatten++List.replicate (L.flatten.length-(L.take i).flatten.length) ((0:Int),(0:Int),(0:Int),(0:Int),(0:Int),(0:Int),(0:Int),(0:Int),(0:Int),(0:Int),(List.replicate 32 (0:Int)),())).take (0+(L.take i).flatten.length)++x++((L.take i).flatten++List.replicate (L.flatten.length-(L.take i).flatten.length) ((0:Int),(0:Int),(0:Int),(0:Int),(0:Int),(0:Int),(0:Int),(0:Int),(0:Int),(0:Int),(List.replicate 32 (0:Int)),())).drop (0+(L.take i).flatten.length+x.length)=(L.take (i+1)).flatten++List.replicate (L.flatten.length-(L.take (i+1)).flatten.length) ((0:Int),(0:Int),(0:Int),(0:Int),(0:Int),(0:Int),(0:Int),(0:Int),(0:Int),(0:Int),(List.replicate 32 (0:Int)),()):=by
    rw[zev,List.take_left,List.drop_append,zfb (by omega),zeG,List.drop_replicate,hf,zdP]
    congr 2
    omega
   simp only[aS,↓xo,xw,ot (show(i:Int)<(L.length:Int) by omega),ot (show(0:Int)<=(i:Int) by omega),zdH,zdI,hx,zdF,
    ot (show 0+(L.take i).flatten.length+x.length<=((L.take i).flatten++List.replicate (L.flatten.length-(L.take i).flatten.length) ((0:Int),(0:Int),(0:Int),(0:Int),(0:Int),(0:Int),(0:Int),(0:Int),(0:Int),(0:Int),(List.replicate 32 (0:Int)),())).length by rw[zdP,zez];omega),e2,jY nM hn]
   have:=ih (i+1) (by omega)
   rw[hf,zdP] at this⊢;exact this
 have:=key L.length 0 (by omega)
 simpa using this
theorem Gy (L:List (List mq))(hf:L.flatten=[])(hn:L.length<=1000000):ag (aP WX) (((),L,(L.length:Int),0,()),(([]:List mq),()))=some (((),()),([],())):=by
 have key: ∀m i:Nat,i+m=L.length->ag (aP WX) (((),L,(L.length:Int),(i:Int),()),(([]:List mq),()))=some (((),()),([],())):=by
  intro m;induction m with
  |zero=>
   intro i hi;rw[aq];have:i=L.length:=by omega
   subst this;simp only[aP,↓xo,aV (show¬(L.length:Int)<(L.length:Int) by omega),zdG]
  |succ m ih=>
   intro i hi;have nM:i<L.length:=by omega
   have hx:=zdL nM;have hm:=zeT nM;have h0:L[i]=[]:=List.flatten_eq_nil_iff.1 hf _ hm;rw[h0] at hx;rw[aq];simp only[aP,↓xo,xw,ot (show(i:Int)<(L.length:Int) by omega),ot (show(0:Int)<=(i:Int) by omega),zdH,zdI,hx,zdF,ze7,zdR,jY nM hn,
    ot (show(((0+0:Nat):Int))*((112:Nat):Int)<=((room:Nat):Int) by unfold room;omega)]
   exact ih (i+1) (by omega)
 exact key L.length 0 (by omega)
theorem Jd (L:List (List mq))(hf:L.flatten=[])(hn:L.length<=1000000):bh WX ((L,()),())=some (.inr (((),()),([],()))):=by
 have h3:=CW L (by rw[hf];simp) hn
 have hb:=Gy L hf hn;rw[hf] at h3;change _=some ((L,0,()),()) at h3;have hg:cr WX (((),0,()),())=some (.inr (((),()),[],())):=by kernel_rfl
 simp only[bh,xl,h3,zdF,hg,hb]
theorem KR (L:List (List mq))(hf:L.flatten≠ [])(h:L.flatten.length<=1000000000)(hn:L.length<=1000000):bh WX ((L,()),())=some (.inl ((L.flatten.length,()),(L.flatten,()))):=by
 have h3:=CW L h hn;have hb:=Jc L hn;have hp:0<L.flatten.length:=List.length_pos_iff.2 hf;generalize hN:L.flatten.length=n at*;have e0:IntKind.wrap .i64 ((n:Int)-IntKind.wrap .i64 (0-0))=(n:Int):=by
  rw[nL (n:=0-0) (by omega) (by omega),nL (by omega) (by omega)];omega
 simp only[bh,xl,h3,zdF,cr,↓xo,xw,e0,aV (show¬(n:Int)<0 by omega),zdG,ot (show(n:Int)>0 by omega),zdH,zdR,zfe,zeG,zez,zdI,and_self,iX]
 have e1:af ((0:Int)=0/\(0:Int)=0)=true:=ot (by decide)
 have e2:af ((0:Int)<=(n:Int)/\(0+(n:Int))*((112:Nat):Int)<=((room:Nat):Int))=true:=ot (by unfold room;omega)
 have e3:af ((0:Int)<=0/\(0:Int)<=0/\(0:Int)<=(n:Int))=true:=ot (by omega)
 have e4:((0:Int)-(0:Int)).toNat=0:=rfl;simp only[e1,e2,e3,zdH,zdF,e4,hb]
theorem Dp (L:List (List mq))(h:L.flatten.length<=1000000000)(hn:L.length<=1000000):bh WX ((L,()),())=some (.inr (((),()),([],())))/\L.flatten=[]\/bh WX ((L,()),())=some (.inl ((L.flatten.length,()),(L.flatten,()))):=by
 by_cases hf:L.flatten=[]
 ·exact .inl ⟨Jd L hf hn,hf⟩
 ·exact .inr (KR L hf h hn)
theorem tO {L R:Type}{b:L->Option (L⊕R)}(mk:Nat->L)(fin:R)(n:Nat)(hs: ∀i,i<n->b (mk i)=some (.inl (mk (i+1))))(he:b (mk n)=some (.inr fin)): ∀i,i<=n->ag b (mk i)=some fin:=by
 have key: ∀m i,i+m=n->ag b (mk i)=some fin:=by
  intro m;induction m with
  |zero=>intro i hi;rw[aq,show i=n by omega,he]
  |succ m ih=>intro i hi;rw[aq,hs i (by omega)];exact ih (i+1) (by omega)
 exact λi hi=>key (n-i) i (by omega)
theorem Hq {L R α:Type}{b:L->Option (L⊕R)}(l:List α)(p:α->Bool)(mk:Nat->L)(res:Nat->R)(fin:R)(hs: ∀i (h:i<l.length),b (mk i)=some (if p l[i]=true then .inr (res i) else .inl (mk (i+1))))(he:b (mk l.length)=some (.inr fin)):
  ag b (mk 0)=some (match l.findIdx? p with|some n=>res n|none=>fin):=by
 have key: ∀m i,i+m=l.length->(∀j (h:j<l.length),j<i->p l[j]=false)->ag b (mk i)=some (match l.findIdx? p with|some n=>res n|none=>fin):=by
  intro m;induction m with
  |zero=>
   intro i hi uH;have:l.findIdx? p=none:=by
    rw[zfl];intro x hx;obtain⟨j,hj,rfl⟩:=zen hx;exact uH j hj (by omega)
   rw[aq,show i=l.length by omega,he,this]
  |succ m ih=>
   intro i hi uH;rw[aq,hs i (by omega)]
   cases hp:p (l[i]'(by omega)) with
   |true=>
    have:l.findIdx? p=some i:=by
     rw[zfm];exact⟨by omega,hp,λj hj=>by rw[uH j (by omega) hj];simp⟩
    rw[this];rfl
   |false=>
    rw[if_neg (by simp)]
    exact ih (i+1) (by omega) (λj h hj=>by
     by_cases e:j=i
     ·subst e;exact hp
     ·exact uH j h (by omega))
 exact key l.length 0 (by omega) (λj _ h=>by omega)
theorem pI {L R:Type}{b:L->Option (L⊕R)}(I:Nat->L->Prop)(Q:R->Prop)(hs: ∀k l,I k l->(∃l',b l=some (.inl l')/\∃k',k'<k/\I k' l')\/∃r,b l=some (.inr r)/\Q r): ∀k l,I k l->∃r,ag b l=some r/\Q r:=by
 intro k;induction k using Nat.strongRecOn with
 |_ k ih=>
  intro l hl;rcases hs k l hl with⟨l',h1,k',h2,h3⟩|⟨r,h1,h2⟩
  ·obtain⟨r,h4,h5⟩:=ih k' h2 l' h3
   exact⟨r,by rw[aq,h1];exact h4,h5⟩
  ·exact⟨r,by rw[aq,h1],h2⟩
def KS {α:Type}(p:α->Bool)(l:List α):Int:=match l.findIdx? p with|some n=>(n:Int)|none=> -1
theorem Hr (t i:Int)(ws:List dP)(hl:ws.length<=1000000):bw WX ((ws,((),(),()),()),(t,i,()))=some ((KS (Od.is t i) ws,()),(t,i,())):=by
 have h:=Hq (b:=aC WX) ws (Od.is t i) (λk=>((ws,((),(),()),(ws.length:Int),(k:Int),()),(t,i,()))) (λn=> .inl (((n:Int),()),(t,i,()))) (.inr ((),(t,i,()))) (λk hk=>by
  have hx:=zdL hk;generalize ws[k]=x at hx;have e1:=jY hk hl;have hp:eQ WX ((x,(),(),()),(t,i,()))=some ((Od.is t i x,()),(t,i,())):=by
   unfold Od.is;by_cases h1:x.1=t
   ·by_cases h2:x.2.1=i
    ·simp only[eQ,↓xo,ot h1,zdH,ot h2];rw[decide_eq_true ⟨h1,h2⟩]
    ·simp only[eQ,↓xo,ot h1,zdH,aV h2];rw[decide_eq_false (λq=>h2 q.2)]
   ·simp only[eQ,↓xo,aV h1,zdG];rw[decide_eq_false (λq=>h1 q.1)]
  cases hb:Od.is t i x with
  |true=>simp only[aC,↓xo,ot (show(k:Int)<(ws.length:Int) by omega),ot (show(0:Int)<=(k:Int) by omega),zdH,zdI,hx,zdF,hp,hb,if_true]
  |false=>simp only[aC,↓xo,xw,ot (show(k:Int)<(ws.length:Int) by omega),ot (show(0:Int)<=(k:Int) by omega),zdH,zdI,hx,zdF,hp,hb,zdG,e1,zdN,if_false])
  (by simp only[aC,↓xo,aV (show¬(ws.length:Int)<(ws.length:Int) by omega),zdG])
 change ag (aC WX) ((ws,((),(),()),(ws.length:Int),0,()),(t,i,()))=_ at h;unfold KS;simp only[bw,↓xl,h,zdF];cases ws.findIdx? (Od.is t i)<;>rfl
abbrev Je (last:Int)(o:dP):Bool:=BU o last
theorem KT (last no:Int)(bs ss:List Nat)(st:List gR)(ws:List dP)(hl:ws.length<=1000000):bn WX ((ws,(((),(),()),()),()),(kF last no,bs,ss,st,()))=some ((KS (Je last) ws,()),(kF last no,bs,ss,st,())):=by
 have h:=Hq (b:=ax WX) ws (Je last) (λk=>((ws,(((),(),()),()),(ws.length:Int),(k:Int),()),(kF last no,bs,ss,st,()))) (λn=> .inl (((n:Int),()),(kF last no,bs,ss,st,()))) (.inr ((),(kF last no,bs,ss,st,()))) (λk hk=>by
  have hx:=zdL hk;generalize ws[k]=x at hx;have e1:=jY hk hl;have hh:=I4 x last;have hp:ef WX ((x,((),(),()),()),(kF last no,bs,ss,st,()))=some ((Je last x,()),(kF last no,bs,ss,st,())):=by
   simp only[ef,gm,zdF,hh]
  cases hb:Je last x with
  |true=>simp only[ax,↓xo,ot (show(k:Int)<(ws.length:Int) by omega),ot (show(0:Int)<=(k:Int) by omega),zdH,zdI,hx,zdF,hp,hb,if_true]
  |false=>simp only[ax,↓xo,xw,ot (show(k:Int)<(ws.length:Int) by omega),ot (show(0:Int)<=(k:Int) by omega),zdH,zdI,hx,zdF,hp,hb,zdG,e1,zdN,if_false])
  (by simp only[ax,↓xo,aV (show¬(ws.length:Int)<(ws.length:Int) by omega),zdG])
 change ag (ax WX) ((ws,(((),(),()),()),(ws.length:Int),0,()),(kF last no,bs,ss,st,()))=_ at h;unfold KS;simp only[bn,↓xl,h,zdF];cases ws.findIdx? (Je last)<;>rfl
theorem Pg {es:List dP}{i:Nat}(h:i<es.length)(hl:es.length<=1000000):bo WX (((),(i:Int),((i+1:Nat):Int),()),(es,()))=some (((),()),(es.eraseIdx i,())):=by
 have e0:((i:Int)-(0:Int)).toNat=i:=by omega
 have e1:(es.drop (i+1)).length=es.length-(i+1):=by rw[zeb]
 have e2:es.take (0+i)++es.drop (i+1)++es.drop (0+i+(es.length-(i+1)))=es.eraseIdx i++es.drop (es.length-1):=by
  rw[zev,zfj,show i+(es.length-(i+1))=es.length-1 by omega]
 have e3:(es.eraseIdx i).length=es.length-1:=zfk h;have e4:i+(es.length-(i+1))=es.length-1:=by omega
 have e5:(es.drop (es.length-1)).length=1:=by rw[zeb];omega
 simp only[bo,↓xo,ot (show 0<=(i:Int)/\(i:Int)<=((i+1:Nat):Int)/\((i+1:Nat):Int)<=(es.length:Int)/\(es.length:Int)<=(es.length:Int) by omega),zdH,aV (show¬(i:Int)=((i+1:Nat):Int) by omega),zdG,ot (show 0<=(0:Int)/\(0:Int)<=(i:Int)/\(i:Int)<=(es.length:Int) by omega),
  ot (show 0<=((i+1:Nat):Int)/\((i+1:Nat):Int)<=(es.length:Int) by omega),e0,zdI,e1,ot (show 0+i+(es.length-(i+1))<=es.length by omega),e2,e4]
 have e6: ∀X:List dP,(es.eraseIdx i++X).take (es.length-1)=es.eraseIdx i:=λX=>by rw[List.take_append_of_le_length (by omega),zeg (by omega)]
 simp only[e6,zfg,List.append_assoc,ot (show 0<=((es.length-1:Nat):Int)/\((es.length-1:Nat):Int)<=(es.length:Int)/\(es.length:Int)<=(((es.eraseIdx i++es.drop (es.length-1)).length-0:Nat):Int) by rw[zdP,e3,e5];omega),zdH]
structure xC (A B:List nI)(ws:List dP):Prop where
 bi:BI A B
 wo: ∀o∈ws,Hk o/\0<Od.stop o
 yW:iY A+iY B+ws.length<=64
theorem xC.len {A B:List nI}{ws:List dP}(h:xC A B ws):ws.length<=64:=by have:=h.yW;have:=tN A;have:=tN B;omega
def tq (t i:Int)(A B:List nI)(ws:List dP):Option dP:=match vA t i A B with|some o=>some o|none=>match ws.findIdx? (Od.is t i) with|some n=>some (ws.getD n o0)|none=>none
def mW (t i:Int)(A B:List nI)(ws:List dP):dP×Bool×List nI×List nI×List dP:=
 if(vz t i A B).2.1=true then((vz t i A B).1,true,(vz t i A B).2.2.1,(vz t i A B).2.2.2,ws)
 else match ws.findIdx? (Od.is t i) with
  |some n=>(ws.getD n o0,true,(vz t i A B).2.2.1,(vz t i A B).2.2.2,ws.eraseIdx n)
  |none=>(o0,false,(vz t i A B).2.2.1,(vz t i A B).2.2.2,ws)
abbrev CX (last no:Int)(bs ss:List Nat)(ws:List dP)(st:List gR):(Unit×Unit×Unit)×Nk×List Nat×List Nat×List dP×List gR×Unit:=(((),(),()),kF last no,bs,ss,ws,st,())
abbrev Gz (last no:Int)(bs ss:List Nat)(ws:List dP)(st:List gR):(Unit×Unit×Unit)×Nk×List dP×List Nat×List Nat×List gR×Unit:=(((),(),()),kF last no,ws,bs,ss,st,())
section
variable {bs ss:List Nat}{st:List gR}{A B:List nI}{ws:List dP}{last no:Int}
theorem Jf (h:Bk bs ss st A B)(hi:xC A B ws)(t i:Int):eu WX (((),t,i,()),CX last no bs ss ws st)=some (((tq t i A B ws).getD o0,(tq t i A B ws).isSome,()),Gz last no bs ss ws st):=by
 have hf:=Pf (last:=last) (no:=no) h hi.bi t i;have hp:=Hr t i ws (by have:=hi.len;omega)
 unfold KS at hp;unfold tq;cases hr:vA t i A B with
 |some o=>
  rw[hr] at hf;simp only[ze0,zfr] at hf;simp only[eu,hf,zdF,zdH,ze0,zfr]
 |none=>
  rw[hr] at hf;simp only[Option.getD_none,zeW] at hf;cases hw:ws.findIdx? (Od.is t i) with
  |none=>
   rw[hw] at hp;have e: ¬(-1:Int)>=0:=by omega
   simp only[eu,hf,zdF,zdG,eH,hp,↓xo,aV e,Option.getD_none,zeW]
  |some n=>
   rw[hw] at hp;have hn:=(List.findIdx?_eq_some_iff_getElem.1 hw).1;have hx:=zdL hn;have hg:ws.getD n o0=ws[n]:=by rw[zdW,hx];rfl
   simp only[eu,hf,zdF,zdG,eH,hp,↓xo,ot (show(n:Int)>=0 by omega),zdH,ot (show 0<=(n:Int)/\(n:Int)<(ws.length:Int) by omega),zdI,hx,ze0,zfr,hg]
theorem Nr (h:Bk bs ss st A B)(hi:xC A B ws)(t i:Int): ∃pq pt fy,cE WX (((),t,i,()),CX last no bs ss ws st)=some (((mW t i A B ws).1,(mW t i A B ws).2.1,()),Gz last no pq pt (mW t i A B ws).2.2.2.2 fy)/\Bk pq pt fy (mW t i A B ws).2.2.1 (mW t i A B ws).2.2.2.1:=by
 obtain⟨pq,pt,fy,hr,hb⟩:=zam (last:=last) (no:=no) h hi.bi t i;have hp:=Hr t i ws (by have:=hi.len;omega)
 unfold KS at hp;unfold mW;refine⟨pq,pt,fy,?_⟩;cases he:(vz t i A B).2.1 with
 |true=>
  rw[he] at hr;rw[if_pos rfl];exact⟨by simp only[cE,hr,zdF,zdH],hb⟩
 |false=>
  rw[he] at hr;rw[if_neg (by simp)]
  cases hw:ws.findIdx? (Od.is t i) with
  |none=>
   rw[hw] at hp;have e:(-1:Int)<0:=by omega
   exact⟨by simp only[cE,hr,zdF,zdG,eH,hp,↓xo,ot e,zdH],hb⟩
  |some n=>
   rw[hw] at hp;have hn:=(List.findIdx?_eq_some_iff_getElem.1 hw).1;have hx:=zdL hn;have hg:ws.getD n o0=ws[n]:=by rw[zdW,hx];rfl
   have hd:=Pg hn (by have:=hi.len;omega)
   have e1:=jY hn (by have:=hi.len;omega)
   exact⟨by simp only[cE,hr,zdF,zdG,eH,hp,↓xo,xw,aV (show¬(n:Int)<0 by omega),ot (show 0<=(n:Int)/\(n:Int)<(ws.length:Int) by omega),zdH,zdI,hx,e1,hd,hg],hb⟩
theorem Fv (hi:xC A B ws)(t i:Int):xC (mW t i A B ws).2.2.1 (mW t i A B ws).2.2.2.1 (mW t i A B ws).2.2.2.2/\(mW t i A B ws).2.2.2.2.Sublist ws:=by
 have h:=WM hi.bi t i;have hc:=hi.yW;unfold mW;split
 ·exact⟨⟨h.1,hi.wo,by simp only;omega⟩,List.Sublist.refl _⟩
 ·split
  ·rename_i n hn
   have hs:(ws.eraseIdx n).Sublist ws:=zfv ..;have:=hs.length_le;exact⟨⟨h.1,λo ho=>hi.wo o (hs.subset ho),by simp only;omega⟩,hs⟩
  ·exact⟨⟨h.1,hi.wo,by simp only;omega⟩,List.Sublist.refl _⟩
theorem Ud (h:Bk bs ss st A B)(hi:xC A B ws):gE WX (((),()),CX last no bs ss ws st)=some ((iY A+iY B+ws.length,()),Gz last no bs ss ws st):=by
 have hl:=zan (last:=last) (no:=no) h hi.bi;have hc:=hi.yW;have:=tN A;have:=tN B;have e:i64.wrap (iY A+iY B+(ws.length:Int))=iY A+iY B+ws.length:=nL (by omega) (by omega)
 simp only[gE,hl,zdF,↓xo,xw,e]
def xD (A B:List nI)(ws:List dP):List dP:=rI A++(rI B++ws)
theorem Hs (A:List nI):((rI A).length:Int)=iY A:=by
 unfold rI iY;induction A with
 |nil=>rfl
 |cons p l ih=>simp only[zet,zdP,zeQ,zeD,ik,zeB] at*;omega
theorem yx (hi:xC A B ws):(xD A B ws).length<=64:=by
 have:=Hs A;have:=Hs B;have:=hi.yW;unfold xD;rw[zdP,zdP];omega
theorem all_mk (h:Bk bs ss st A B)(hi:xC A B ws):fk WX (((),()),CX last no bs ss ws st)=some ((xD A B ws,()),Gz last no bs ss ws st):=by
 have h1:=yL (last:=last) (no:=no) h hi.bi 1 (.inl rfl);have h2:=yL (last:=last) (no:=no) h hi.bi 2 (.inr rfl);rw[if_pos rfl] at h1;rw[if_neg (by omega)] at h2
 have hf: [rI A,rI B,ws].flatten=xD A B ws:=by simp[xD]
 have hc:=Dn [rI A,rI B,ws] (by rw[hf];have:=yx hi;omega) (by simp)
 rw[hf] at hc;rcases hc with⟨hc,h0⟩|hc
 ·rw[h0]
  simp only[fk,h1,zdF,h2,hc]
 ·simp only[fk,h1,zdF,h2,hc,zeX]
end
def wg (o:dP)(A B:List nI)(ws:List dP):Int:=
 if(!oy o)=true then 1 else if(tq o.1 o.2.1 A B ws).isSome=true then 5
 else if iY A+iY B+ws.length>=64/\(Od.stop o>0\/Od.kind o=1\/Od.kind o=5) then 4 else 0
def gv (o:dP):dP:=(o.1,o.2.1,o.2.2.1,o.2.2.2.1,o.2.2.2.2.1,o.2.2.2.2.2.1,o.2.2.2.2.2.2.1,o.2.2.2.2.2.2.2.1,0,())
abbrev MS:=List nI×List nI×List dP×Int×Int
def ku:Nat->MS->List lU->MS×List lU
 |0,m,out=>(m,out)
 |k+1,(A,B,ws,last,no),out=>match ws.findIdx? (Je last) with
  |none=>((A,B,ws,last,no),out)
  |some n=>ku k ((ju (gv (ws.getD n o0)) A B last no).2.1,(ju (gv (ws.getD n o0)) A B last no).2.2.1,ws.eraseIdx n,(ju (gv (ws.getD n o0)) A B last no).2.2.2.1,(ju (gv (ws.getD n o0)) A B last no).2.2.2.2) (out++ [(ws.getD n o0,(ju (gv (ws.getD n o0)) A B last no).1.2)])
def kY (o:dP)(m:MS):MS×List lU:=
 if¬wg o m.1 m.2.1 m.2.2.1=0 then((ku m.2.2.1.length m []).1,(o,[],Od.eD o,false,false,false,wg o m.1 m.2.1 m.2.2.1,())::(ku m.2.2.1.length m []).2)
 else if Od.stop o>0/\BU o m.2.2.2.1=false then((ku (m.2.2.1.length+1) (m.1,m.2.1,m.2.2.1++ [o],m.2.2.2) []).1,(o,[],Od.eD o,false,true,false,0,())::(ku (m.2.2.1.length+1) (m.1,m.2.1,m.2.2.1++ [o],m.2.2.2) []).2)
 else((ku m.2.2.1.length ((ju (gv o) m.1 m.2.1 m.2.2.2.1 m.2.2.2.2).2.1,(ju (gv o) m.1 m.2.1 m.2.2.2.1 m.2.2.2.2).2.2.1,m.2.2.1,(ju (gv o) m.1 m.2.1 m.2.2.2.1 m.2.2.2.2).2.2.2) []).1,(o,(ju (gv o) m.1 m.2.1 m.2.2.2.1 m.2.2.2.2).1.2)::(ku m.2.2.1.length ((ju (gv o) m.1 m.2.1 m.2.2.2.1 m.2.2.2.2).2.1,(ju (gv o) m.1 m.2.1 m.2.2.2.1 m.2.2.2.2).2.2.1,m.2.2.1,(ju (gv o) m.1 m.2.1 m.2.2.2.1 m.2.2.2.2).2.2.2) []).2)
section
variable {bs ss:List Nat}{st:List gR}{A B:List nI}{ws:List dP}{last no:Int}
theorem Ns (h:Bk bs ss st A B)(hi:xC A B ws)(o:dP):cB WX (((),o,()),CX last no bs ss ws st)=some ((wg o A B ws,()),Gz last no bs ss ws st):=by
 have hR:=AZ o;have hF:=Jf (last:=last) (no:=no) h hi o.1 o.2.1;have hL:=Ud (last:=last) (no:=no) h hi;have WH: ¬(1:Int)=0:=by omega
 unfold wg;cases hr:oy o with
 |false=>
  rw[hr] at hR;simp only[cB,hR,zdF,zdG,↓xo,aV WH,zdK,zdH,if_true]
 |true=>
  rw[hr] at hR;cases hf:(tq o.1 o.2.1 A B ws).isSome with
  |true=>
   rw[hf] at hF;simp only[cB,hR,zdF,zdH,↓xo,iX,zdJ,zdG,hF,if_true,zdN,if_false]
  |false=>
   rw[hf] at hF;simp only[zdJ,zdN,if_false];by_cases h1:iY A+iY B+ws.length>=64
   ·by_cases h2:Od.stop o>0
    ·rw[if_pos ⟨h1, .inl h2⟩]
     simp only[cB,hR,zdF,zdH,↓xo,iX,zdJ,zdG,hF,hL,ot h1,ot h2]
    ·by_cases h3:Od.kind o=1
     ·rw[if_pos ⟨h1, .inr (.inl h3)⟩]
      simp only[cB,hR,zdF,zdH,↓xo,iX,zdJ,zdG,hF,hL,ot h1,aV h2,ot h3]
     ·by_cases h4:Od.kind o=5
      ·rw[if_pos ⟨h1, .inr (.inr h4)⟩]
       simp only[cB,hR,zdF,zdH,↓xo,iX,zdJ,zdG,hF,hL,ot h1,aV h2,aV h3,ot h4]
      ·rw[if_neg (by rintro⟨_,h|h|h⟩;exact h2 h;exact h3 h;exact h4 h)]
       simp only[cB,hR,zdF,zdH,↓xo,iX,zdJ,zdG,hF,hL,ot h1,aV h2,aV h3,aV h4]
   ·rw[if_neg (λh=>h1 h.1)]
    simp only[cB,hR,zdF,zdH,↓xo,iX,zdJ,zdG,hF,hL,aV h1]
theorem KU (h:Bk bs ss st A B)(hi:BI A B)(o:dP)(ws:List dP): ∃pq pt fy,fc WX (((),o,()),CX last no bs ss ws st)=some (((o,(ju (gv o) A B last no).1.2),()),Gz (ju (gv o) A B last no).2.2.2.1 (ju (gv o) A B last no).2.2.2.2 pq pt ws fy)/\Bk pq pt fy (ju (gv o) A B last no).2.1 (ju (gv o) A B last no).2.2.1:=by
 obtain⟨pq,pt,fy,h1,h2⟩:=zak (last:=last) (no:=no) h hi (gv o);refine⟨pq,pt,fy,?_,h2⟩;unfold gv at h1;simp only[fc,h1,zdF];rfl
theorem Fw (o:dP):je (gv o)=je o:=rfl
theorem one_le {p:Prop} [Decidable p]:(if p then(1:Int) else 0)<=1:=by split<;>omega
theorem WO: ∀(k:Nat) (bs ss:List Nat) (st:List gR) (A B:List nI) (ws:List dP) (last no:Int) (out:List lU),Bk bs ss st A B->xC A B ws->ws.length<=k->out.length+ws.length<=1000->∃pq pt fy,ag (bU WX) (((),(),()),(),((),(),()),kF last no,bs,ss,ws,out,st,())=
  some (((),()),(),((),(),()),kF (ku k (A,B,ws,last,no) out).1.2.2.2.1 (ku k (A,B,ws,last,no) out).1.2.2.2.2,(ku k (A,B,ws,last,no) out).1.2.2.1,pq,pt,(ku k (A,B,ws,last,no) out).2,fy,())/\Bk pq pt fy (ku k (A,B,ws,last,no) out).1.1 (ku k (A,B,ws,last,no) out).1.2.1/\
  xC (ku k (A,B,ws,last,no) out).1.1 (ku k (A,B,ws,last,no) out).1.2.1 (ku k (A,B,ws,last,no) out).1.2.2.1/\(∀o∈(ku k (A,B,ws,last,no) out).1.2.2.1,BU o (ku k (A,B,ws,last,no) out).1.2.2.2.1=false):=by
 intro k;have vU: ∀(bs ss:List Nat) (st:List gR) (A B:List nI) (ws:List dP) (last no:Int) (out:List lU),xC A B ws->ws.findIdx? (Je last)=none->ag (bU WX) (((),(),()),(),((),(),()),kF last no,bs,ss,ws,out,st,())=some (((),()),(),((),(),()),kF last no,ws,bs,ss,out,st,())/\∀o∈ws,BU o last=false:=by
  intro bs ss st A B ws last no out hi hn;have hp:=KT last no bs ss st ws (by have:=hi.len;omega)
  unfold KS at hp;rw[hn] at hp;have e:(-1:Int)<0:=by omega
  refine⟨by rw[aq];simp only[bU,hp,zdF,↓xo,ot e,zdH],λo ho=>?_⟩
  rw[zfl] at hn;exact hn o ho
 induction k with
 |zero=>
  intro bs ss st A B ws last no out h hi hk ho;have:ws=[]:=zef (by omega)
  subst this;have:=vU bs ss st A B [] last no out hi rfl;exact⟨bs,ss,st,this.1,h,hi,this.2⟩
 |succ k ih=>
  intro bs ss st A B ws last no out h hi hk ho;unfold ku;cases hw:ws.findIdx? (Je last) with
  |none=>
   have:=vU bs ss st A B ws last no out hi hw;exact⟨bs,ss,st,this.1,h,hi,this.2⟩
  |some n=>
   simp only;have hn:=(List.findIdx?_eq_some_iff_getElem.1 hw).1;have hx:=zdL hn;have hg:ws.getD n o0=ws[n]:=by rw[zdW,hx];rfl
   rw[hg];have hl:=hi.len;have hd:=Pg hn (by omega)
   have e1:=jY hn (by omega)
   have hp:=KT last no bs ss st ws (by omega)
   unfold KS at hp;rw[hw] at hp;obtain⟨bs1,ss1,xi,h1,h2⟩:=KU (last:=last) (no:=no) h hi.bi ws[n] (ws.eraseIdx n);have hs:(ws.eraseIdx n).Sublist ws:=zfv ..;have hlen:=zfk hn;obtain⟨a1,a2,a3⟩:=DJ (last:=last) (no:=no) hi.bi (gv ws[n]);have hle:=one_le (p:=je (gv ws[n])=true);have nM:xC (ju (gv ws[n]) A B last no).2.1 (ju (gv ws[n]) A B last no).2.2.1 (ws.eraseIdx n):=⟨a1,λo ho=>hi.wo o (hs.subset ho),by rw[hlen];have:=hi.yW;omega⟩
   obtain⟨pq,pt,fy,i1,i2⟩:=ih bs1 ss1 xi _ _ (ws.eraseIdx n) (ju (gv ws[n]) A B last no).2.2.2.1 (ju (gv ws[n]) A B last no).2.2.2.2 (out++ [(ws[n],(ju (gv ws[n]) A B last no).1.2)]) h2 nM (by omega) (by rw[hlen,zdP,zfw];omega)
   refine⟨pq,pt,fy,?_,i2⟩;rw[aq];simp only[bU,hp,zdF,↓xo,xw,aV (show¬(n:Int)<0 by omega),zdG,ot (show 0<=(n:Int)/\(n:Int)<(ws.length:Int) by omega),zdH,zdI,hx,e1,hd,h1,ot (show(((out.length+([(ws[n],(ju (gv ws[n]) A B last no).1.2)]:List lU).length:Nat):Int))*((120:Nat):Int)<=((room:Nat):Int) by unfold room;simp only[zdQ,zdR];omega)]
   exact i1
theorem yM: ∀(k:Nat) (m:MS) (out:List lU),(ku k m out).2.length<=out.length+k
 |0,m,out=>zd2 _
 |k+1,(A,B,ws,last,no),out=>by
  unfold ku;split
  ·show out.length<=_;omega
  ·rename_i n _
   have:=yM k ((ju (gv (ws.getD n o0)) A B last no).2.1,(ju (gv (ws.getD n o0)) A B last no).2.2.1,ws.eraseIdx n,(ju (gv (ws.getD n o0)) A B last no).2.2.2.1,(ju (gv (ws.getD n o0)) A B last no).2.2.2.2) (out++ [(ws.getD n o0,(ju (gv (ws.getD n o0)) A B last no).1.2)]);rw[zdP,zfw] at this;omega
theorem wX (h:Bk bs ss st A B)(hi:xC A B ws)(k:Nat)(hk:ws.length<=k): ∃pq pt fy,dg WX (((),()),CX last no bs ss ws st)=
  some (((),()),((),(),()),kF (ku k (A,B,ws,last,no) []).1.2.2.2.1 (ku k (A,B,ws,last,no) []).1.2.2.2.2,(ku k (A,B,ws,last,no) []).1.2.2.1,pq,pt,(ku k (A,B,ws,last,no) []).2,fy,())/\Bk pq pt fy (ku k (A,B,ws,last,no) []).1.1 (ku k (A,B,ws,last,no) []).1.2.1/\
  xC (ku k (A,B,ws,last,no) []).1.1 (ku k (A,B,ws,last,no) []).1.2.1 (ku k (A,B,ws,last,no) []).1.2.2.1/\(∀o∈(ku k (A,B,ws,last,no) []).1.2.2.1,BU o (ku k (A,B,ws,last,no) []).1.2.2.2.1=false):=by
 obtain⟨pq,pt,fy,h1,h2⟩:=WO k bs ss st A B ws last no [] h hi hk (by have:=hi.len;simp only[zdR];omega)
 exact⟨pq,pt,fy,by simp only[dg,↓xl,h1,zdF],h2⟩
theorem Nt (h:Bk bs ss st A B)(hi:xC A B ws)(o:dP): ∃pq pt fy,dN WX (((),o,()),CX last no bs ss ws st)=
  some (((),()),((),(),()),kF (kY o (A,B,ws,last,no)).1.2.2.2.1 (kY o (A,B,ws,last,no)).1.2.2.2.2,(kY o (A,B,ws,last,no)).1.2.2.1,pq,pt,(kY o (A,B,ws,last,no)).2,fy,())/\Bk pq pt fy (kY o (A,B,ws,last,no)).1.1 (kY o (A,B,ws,last,no)).1.2.1/\
  xC (kY o (A,B,ws,last,no)).1.1 (kY o (A,B,ws,last,no)).1.2.1 (kY o (A,B,ws,last,no)).1.2.2.1/\(∀o'∈(kY o (A,B,ws,last,no)).1.2.2.1,BU o' (kY o (A,B,ws,last,no)).1.2.2.2.1=false)/\(kY o (A,B,ws,last,no)).2.length<=70:=by
 have hr:=Ns (last:=last) (no:=no) h hi o;have hl:=hi.len;have qj: ∀(x:lU) (l:List lU),l.length<=69->af (((([x].length+l.length:Nat):Int))*((120:Nat):Int)<=((room:Nat):Int))=true:=λx l hl=>ot (by unfold room;simp only[zdQ,zdR];omega)
 unfold kY;by_cases h0:wg o A B ws=0
 ·rw[h0] at hr
  rw[if_neg (λe=>e h0)];have Jg:oy o=true:=by
   unfold wg at h0;cases hx:oy o with
   |true=>rfl
   |false=>rw[hx] at h0;simp at h0
  have CR:je o=true\/Od.stop o>0->iY A+iY B+ws.length+1<=64:=λhx=>by
   unfold wg at h0;rw[Jg] at h0;simp only[zdJ,zdN,if_false] at h0;split at h0
   ·cases h0
   ·split at h0
    ·cases h0
    ·rename_i hy
     have hz: ¬(iY A+iY B+ws.length>=64):=λq=>hy ⟨q,by
      rcases hx with hx|hx
      ·exact .inr (sV hx)
      ·exact .inl hx⟩
     omega
  obtain⟨bs2,ss2,Im,n1,n2⟩:=KU (last:=last) (no:=no) h hi.bi o ws;obtain⟨a1,a2,a3⟩:=DJ (last:=last) (no:=no) hi.bi (gv o);have YG:xC (ju (gv o) A B last no).2.1 (ju (gv o) A B last no).2.2.1 ws:=⟨a1,hi.wo,by
   rw[Fw] at a2;have:=hi.yW;by_cases hx:je o=true
   ·have:=CR (.inl hx);rw[if_pos hx] at a2;omega
   ·rw[if_neg hx] at a2;omega⟩
  obtain⟨bs3,ss3,st3,t1,t2⟩:=wX (last:=(ju (gv o) A B last no).2.2.2.1) (no:=(ju (gv o) A B last no).2.2.2.2) n2 YG ws.length (zd2 _);have tl:=yM ws.length ((ju (gv o) A B last no).2.1,(ju (gv o) A B last no).2.2.1,ws,(ju (gv o) A B last no).2.2.2.1,(ju (gv o) A B last no).2.2.2.2) [];rw[zdR,zev] at tl;change (ku ws.length ((ju (gv o) A B last no).2.1,(ju (gv o) A B last no).2.2.1,ws,(ju (gv o) A B last no).2.2.2) []).2.length<=_ at tl;have WL: ¬(Od.stop o>0/\BU o last=false)->∃pq pt fy,dN WX (((),o,()),CX last no bs ss ws st)=some (((),()),((),(),()),kF (ku ws.length ((ju (gv o) A B last no).2.1,(ju (gv o) A B last no).2.2.1,ws,(ju (gv o) A B last no).2.2.2) []).1.2.2.2.1 (ku ws.length ((ju (gv o) A B last no).2.1,(ju (gv o) A B last no).2.2.1,ws,(ju (gv o) A B last no).2.2.2) []).1.2.2.2.2,(ku ws.length ((ju (gv o) A B last no).2.1,(ju (gv o) A B last no).2.2.1,ws,(ju (gv o) A B last no).2.2.2) []).1.2.2.1,pq,pt,(o,(ju (gv o) A B last no).1.2)::(ku ws.length ((ju (gv o) A B last no).2.1,(ju (gv o) A B last no).2.2.1,ws,(ju (gv o) A B last no).2.2.2) []).2,fy,())/\Bk pq pt fy (ku ws.length ((ju (gv o) A B last no).2.1,(ju (gv o) A B last no).2.2.1,ws,(ju (gv o) A B last no).2.2.2) []).1.1 (ku ws.length ((ju (gv o) A B last no).2.1,(ju (gv o) A B last no).2.2.1,ws,(ju (gv o) A B last no).2.2.2) []).1.2.1:=λvi=>by
   refine⟨bs3,ss3,st3,?_,t2.1⟩;by_cases kf:Od.stop o>0
   ·have hh:=I4 o last
    have hb:BU o last=true:=by cases hx:BU o last with|true=>rfl|false=>exact absurd ⟨kf,hx⟩ vi
    rw[hb] at hh;simp only[dN,hr,zdF,↓xo,iX,zdJ,zdG,ot kf,zdH,gm,hh,n1,t1,qj (o,(ju (gv o) A B last no).1.2) _ (zd3 tl (by omega)),zfi]
   ·simp only[dN,hr,zdF,↓xo,iX,zdJ,zdG,aV kf,n1,t1,zdH,qj (o,(ju (gv o) A B last no).1.2) _ (zd3 tl (by omega)),zfi]
  by_cases hc:Od.stop o>0/\BU o last=false
  ·rw[if_pos hc]
   have hh:=I4 o last;rw[hc.2] at hh;have:=CR (.inr hc.1);have hi4:xC A B (ws++ [o]):=⟨hi.bi,λo' na=>by
    rcases List.mem_append.1 na with na|na
    ·exact hi.wo o' na
    ·rw[ze4] at na;subst na;exact⟨qR Jg,hc.1⟩,by rw[zdP,zfw];omega⟩
   obtain⟨bs4,ss4,st4,u1,u2,u3,u4⟩:=wX (last:=last) (no:=no) h hi4 (ws.length+1) (by rw[zdP,zfw];omega)
   have ul:=yM (ws.length+1) (A,B,ws++ [o],last,no) [];rw[zdR,zev] at ul;refine⟨bs4,ss4,st4,?_,u2,u3,u4,by simp only[zdQ];omega⟩
   simp only[dN,hr,zdF,↓xo,iX,zdJ,zdG,ot hc.1,zdH,gm,hh,zdK,ot (show(((ws.length+([o]:List dP).length:Nat):Int))*((72:Nat):Int)<=((room:Nat):Int) by unfold room;simp only[zdQ,zdR];omega),u1,qj (o,[],Od.eD o,false,true,false,0,()) _ (zd3 ul (by omega)),zfi]
  ·rw[if_neg hc]
   obtain⟨pq,pt,fy,x1,x2⟩:=WL hc;exact⟨pq,pt,fy,x1,x2,t2.2.1,t2.2.2,by simp only[zdQ];omega⟩
 ·rw[if_pos h0]
  obtain⟨pq,pt,fy,t1,t2,t3,t4⟩:=wX (last:=last) (no:=no) h hi ws.length (zd2 _);have tl:=yM ws.length (A,B,ws,last,no) [];rw[zdR,zev] at tl;refine⟨pq,pt,fy,?_,t2,t3,t4,by simp only[zdQ];omega⟩
  simp only[dN,hr,zdF,↓xo,aV h0,zdK,zdH,t1,qj (o,[],Od.eD o,false,false,false,wg o A B ws,()) _ (zd3 tl (by omega)),zfi]
end
structure pY (x:lU):Prop where
 zl: ∀f∈x.2.1,(0<=f.1.1/\f.1.1<=31)/\(0<=f.2.1.1/\f.2.1.1<=31)/\((Od.side f.1=1/\Od.side f.2.1=2)\/(Od.side f.1=2/\Od.side f.2.1=1))/\1<=Fl.eD f
 sum:0<=jF x.2.1/\jF x.2.1<=1048576
theorem uA {l:List mS}(h: ∀f∈l,1<=Fl.eD f):(l.length:Int)<=jF l:=by
 unfold jF;induction l with
 |nil=>exact zeL _
 |cons x l ih=>
  have a:=h x (zdT ..);have b:=ih λy hy=>h y (zdS _ hy);simp only[zeD,ik,zeB,zdQ] at*;omega
theorem pY.len {x:lU}(h:pY x):x.2.1.length<=1048576:=by
 have:=uA (l:=x.2.1) λf hf=>(h.zl f hf).2.2.2;have:=h.sum;omega
theorem KV (o:dP)(r:Int×Bool×Bool×Bool×Int×Unit):pY (o,[],r):=⟨λf hf=>(by cases hf),by simp[jF,ik]⟩
theorem Fx {o o':dP}{x:lU}(h:Yj o x):pY (o',x.2):=by
 rcases h.zl with h0|⟨h1,h2,h3⟩
 ·refine⟨λf hf=>?_,?_⟩
  ·simp only[h0] at hf;cases hf
  ·simp only[h0];simp[jF,ik]
 ·have hl:=h.left (by have:=h1.eD;omega)
  have hq:=h1.eD;have hn:=uA (l:=x.2.1) λf hf=>by obtain⟨pr,hp⟩:=h2 f hf;exact hp.eD
  refine⟨λf hf=>?_,by show 0<=jF x.2.1/\jF x.2.1<=_;omega⟩
  obtain⟨pr,hp⟩:=h2 f hf;obtain⟨q,hq⟩:=hp.zb6;have hs:=hp.Yi.side;refine⟨hp.Yi.qH,by rw[hq];exact h1.qH,?_,hp.eD⟩
  rw[hq];show(_/\Od.side o=2)\/(_/\Od.side o=1)
  have:=h1.side;omega
theorem wY: ∀(k:Nat) (m:MS) (out:List lU),xC m.1 m.2.1 m.2.2.1->(∀x∈out,pY x)->∀x∈(ku k m out).2,pY x
 |0,m,out,_,h=>h
 |k+1,(A,B,ws,last,no),out,hi,h=>by
  unfold ku;split
  ·exact h
  ·rename_i n hw
   have hn:=(List.findIdx?_eq_some_iff_getElem.1 hw).1;obtain⟨a1,a2,a3⟩:=DJ (last:=last) (no:=no) hi.bi (gv (ws.getD n o0));have hs:(ws.eraseIdx n).Sublist ws:=zfv ..;have hlen:=zfk hn;have hle:=one_le (p:=je (gv (ws.getD n o0))=true);have nM:xC (ju (gv (ws.getD n o0)) A B last no).2.1 (ju (gv (ws.getD n o0)) A B last no).2.2.1 (ws.eraseIdx n):=⟨a1,λo ho=>hi.wo o (hs.subset ho),by rw[hlen];have:=hi.yW;simp only at*;omega⟩
   refine wY k _ _ nM λx hx=>?_;rcases List.mem_append.1 hx with hx|hx
   ·exact h x hx
   ·rw[ze4] at hx;subst hx;exact Fx a3
theorem zQ (o:dP)(m:MS)(hi:xC m.1 m.2.1 m.2.2.1): ∀x∈(kY o m).2,pY x:=by
 obtain⟨A,B,ws,last,no⟩:=m;simp only at hi;have Ph:wg o A B ws=0->oy o=true:=λh0=>by
  unfold wg at h0;cases hx:oy o with
  |true=>rfl
  |false=>rw[hx] at h0;simp at h0
 have CR:wg o A B ws=0->je o=true\/Od.stop o>0->iY A+iY B+ws.length+1<=64:=λh0 hx=>by
  have Jg:=Ph h0;unfold wg at h0;rw[Jg] at h0;simp only[zdJ,zdN,if_false] at h0;split at h0
  ·cases h0
  ·split at h0
   ·cases h0
   ·rename_i hy
    have hz: ¬(iY A+iY B+ws.length>=64):=λq=>hy ⟨q,by
     rcases hx with hx|hx
     ·exact .inr (sV hx)
     ·exact .inl hx⟩
    omega
 unfold kY;simp only;split
 ·intro x hx
  rcases List.mem_cons.1 hx with rfl|hx
  ·exact KV ..
  ·exact wY _ (A,B,ws,last,no) [] hi (λx hx=>by cases hx) x hx
 ·rename_i h0
  have h0:wg o A B ws=0:=Decidable.not_not.1 h0;split
  ·rename_i hc
   have:=CR h0 (.inr hc.1);have hi4:xC A B (ws++ [o]):=⟨hi.bi,λo' na=>by
    rcases List.mem_append.1 na with na|na
    ·exact hi.wo o' na
    ·rw[ze4] at na;subst na;exact⟨qR (Ph h0),hc.1⟩,by rw[zdP,zfw];omega⟩
   intro x hx;rcases List.mem_cons.1 hx with rfl|hx
   ·exact KV ..
   ·exact wY _ (A,B,ws++ [o],last,no) [] hi4 (λx hx=>by cases hx) x hx
  ·obtain⟨a1,a2,a3⟩:=DJ (last:=last) (no:=no) hi.bi (gv o)
   have YG:xC (ju (gv o) A B last no).2.1 (ju (gv o) A B last no).2.2.1 ws:=⟨a1,hi.wo,by
    rw[Fw] at a2;have:=hi.yW;by_cases hx:je o=true
    ·have:=CR h0 (.inl hx);rw[if_pos hx] at a2;omega
    ·rw[if_neg hx] at a2;omega⟩
   intro x hx;rcases List.mem_cons.1 hx with rfl|hx
   ·exact Fx a3
   ·exact wY _ (_,_,ws,_) [] YG (λx hx=>by cases hx) x hx
def amO (lS:dP)(aZ eD:Int):dP:=(lS.1,lS.2.1,lS.2.2.1,lS.2.2.2.1,lS.2.2.2.2.1,aZ,eD,min (Od.show lS) (max eD 0),lS.2.2.2.2.2.2.2.2)
def ga (t i aZ eD:Int)(m:MS):Int×MS×List lU:=match tq t i m.1 m.2.1 m.2.2.1 with
 |none=>(6,m,[])
 |some lS=>if(!oy (amO lS aZ eD))=true then(1,m,[])
  else if aZ=Od.aZ lS/\eD<=Od.eD lS/\(vA t i m.1 m.2.1).isSome=true then(0,((yw t i eD m.1 m.2.1).2.1,(yw t i eD m.1 m.2.1).2.2,m.2.2),[])
  else(0,kY (amO lS aZ eD) ((mW t i m.1 m.2.1 m.2.2.1).2.2.1,(mW t i m.1 m.2.1 m.2.2.1).2.2.2.1,(mW t i m.1 m.2.1 m.2.2.1).2.2.2.2,m.2.2.2))
abbrev Ue (last no:Int)(bs ss:List Nat)(ws:List dP)(outs:List lU)(st:List gR):(Unit×Unit×Unit)×Nk×List dP×List Nat×List Nat×List lU×List gR×Unit:=(((),(),()),kF last no,ws,bs,ss,outs,st,())
section
variable {bs ss:List Nat}{st:List gR}{A B:List nI}{ws:List dP}{last no:Int}
def yy (m:MS):Prop:= ∀o∈m.2.2.1,BU o m.2.2.2.1=false
theorem KW (h:Bk bs ss st A B)(hi:xC A B ws)(hh:yy (A,B,ws,last,no))(t i aZ eD:Int): ∃pq pt fy,gw WX (((),t,i,aZ,eD,()),CX last no bs ss ws st)=
  some (((),(ga t i aZ eD (A,B,ws,last,no)).1,()),Ue (ga t i aZ eD (A,B,ws,last,no)).2.1.2.2.2.1 (ga t i aZ eD (A,B,ws,last,no)).2.1.2.2.2.2 pq pt (ga t i aZ eD (A,B,ws,last,no)).2.1.2.2.1 (ga t i aZ eD (A,B,ws,last,no)).2.2 fy)/\
  Bk pq pt fy (ga t i aZ eD (A,B,ws,last,no)).2.1.1 (ga t i aZ eD (A,B,ws,last,no)).2.1.2.1/\xC (ga t i aZ eD (A,B,ws,last,no)).2.1.1 (ga t i aZ eD (A,B,ws,last,no)).2.1.2.1 (ga t i aZ eD (A,B,ws,last,no)).2.1.2.2.1/\yy (ga t i aZ eD (A,B,ws,last,no)).2.1/\
  (∀x∈(ga t i aZ eD (A,B,ws,last,no)).2.2,pY x)/\(ga t i aZ eD (A,B,ws,last,no)).2.2.length<=70:=by
 have hf:=Jf (last:=last) (no:=no) h hi t i;unfold ga;cases hw:tq t i A B ws with
 |none=>
  rw[hw] at hf;exact⟨bs,ss,st,by simp only[gw,hf,zdF,zeW,zdK,zdH],h,hi,hh,λx hx=>(by cases hx),zeN _⟩
 |some lS=>
  rw[hw] at hf;simp only[ze0,zfr] at hf;have hRx:ft WX (((lS.1,lS.2.1,lS.2.2.1,lS.2.2.2.1,lS.2.2.2.2.1,aZ,eD,min lS.2.2.2.2.2.2.2.1 (max eD 0),lS.2.2.2.2.2.2.2.2),()),())=some (((bif oy (amO lS aZ eD) then 0 else 1),()),()):=AZ (amO lS aZ eD);have WH: ¬(1:Int)=0:=by omega
  simp only;cases hr:oy (amO lS aZ eD) with
  |false=>
   rw[hr] at hRx;simp only[zdK,if_true];exact⟨bs,ss,st,by simp only[gw,hf,zdF,zdJ,zdG,↓xo,vu,QH,hRx,aV WH,zdK,zdH,if_true],h,hi,hh,λx hx=>(by cases hx),zeN _⟩
  |true=>
   rw[hr] at hRx;simp only[zdJ,zdN,if_false];have hbf:=Pf (last:=last) (no:=no) h hi.bi t i;by_cases hc:aZ=Od.aZ lS/\eD<=Od.eD lS/\(vA t i A B).isSome=true
   ·simp only[if_pos hc]
    obtain⟨c1,c2,c3⟩:=hc;rw[c3] at hbf;obtain⟨fy,l1,l2⟩:=WN (last:=last) (no:=no) h hi.bi t i eD;have l3:=Uc hi.bi t i eD;refine⟨bs,ss,fy,?_,l2,⟨l3.1,hi.wo,by have:=hi.yW;omega⟩,hh,λx hx=>(by cases hx),zeN _⟩
    simp only[gw,hf,zdF,zdJ,zdG,↓xo,vu,QH,hRx,zdH,iX,ot (show aZ=lS.2.2.2.2.2.1 from c1),ot (show eD<=lS.2.2.2.2.2.2.1 from c2),ky,bW,hbf,zdK,l1]
   ·simp only[if_neg hc]
    obtain⟨bs1,ss1,xi,r1,r2⟩:=Nr (last:=last) (no:=no) h hi t i;have r3:=(Fv hi t i).1;obtain⟨pq,pt,fy,a1,a2,a3,a4,a5⟩:=Nt (last:=last) (no:=no) r2 r3 (amO lS aZ eD);refine⟨pq,pt,fy,?_,a2,a3,a4,zQ _ _ r3,a5⟩;unfold amO at a1⊢;by_cases c1:aZ=Od.aZ lS
    ·by_cases c2:eD<=Od.eD lS
     ·have c3:(vA t i A B).isSome=false:=by cases hx:(vA t i A B).isSome with|false=>rfl|true=>exact absurd ⟨c1,c2,hx⟩ hc
      rw[c3] at hbf;simp only[gw,hf,zdF,zdJ,zdG,↓xo,vu,QH,hRx,zdH,iX,ot (show aZ=lS.2.2.2.2.2.1 from c1),ot (show eD<=lS.2.2.2.2.2.2.1 from c2),ky,bW,hbf,zdK,r1,a1]
     ·simp only[gw,hf,zdF,zdJ,zdG,↓xo,vu,QH,hRx,zdH,iX,ot (show aZ=lS.2.2.2.2.2.1 from c1),aV (show¬eD<=lS.2.2.2.2.2.2.1 from c2),r1,a1]
    ·simp only[gw,hf,zdF,zdJ,zdG,↓xo,vu,QH,hRx,zdH,iX,aV (show¬aZ=lS.2.2.2.2.2.1 from c1),r1,a1]
noncomputable def WQ (x:Int)(o:dP):Bool:=af (WX.s6 .u64 (WX.shr .u64 x (IntKind.u64.wrap o.1)) 1=1)
noncomputable def tG (x:Int):List dP->MS->List dP->MS×List dP
 | [],m,out=>(m,out)
 |o::l,m,out=>if WQ x o=true then tG x l ((mW o.1 o.2.1 m.1 m.2.1 m.2.2.1).2.2.1,(mW o.1 o.2.1 m.1 m.2.1 m.2.2.1).2.2.2.1,(mW o.1 o.2.1 m.1 m.2.1 m.2.2.1).2.2.2.2,m.2.2.2) (out++ [o]) else tG x l m out
theorem tu (n:Int): ¬IntKind.u64.wrap n<0:=by rw[IntKind.wrap_u64];omega
theorem Q3 (x:Int)(last no:Int)(all:List dP)(hal:all.length<=1000): ∀(l pre:List dP) (bs ss:List Nat) (st:List gR) (A B:List nI) (ws:List dP) (out:List dP),pre++l=all->out.length+l.length<=1000->Bk bs ss st A B->xC A B ws->yy (A,B,ws,last,no)->∃pq pt fy,ag (gB WX) (((),x,(),all,(all.length:Int),(pre.length:Int),()),((),(),()),kF last no,bs,ss,ws,out,st,())=
  some (((tG x l (A,B,ws,last,no) out).2,()),Gz last no pq pt (tG x l (A,B,ws,last,no) out).1.2.2.1 fy)/\(tG x l (A,B,ws,last,no) out).1.2.2.2=(last,no)/\Bk pq pt fy (tG x l (A,B,ws,last,no) out).1.1 (tG x l (A,B,ws,last,no) out).1.2.1/\xC (tG x l (A,B,ws,last,no) out).1.1 (tG x l (A,B,ws,last,no) out).1.2.1 (tG x l (A,B,ws,last,no) out).1.2.2.1/\yy (tG x l (A,B,ws,last,no) out).1:=by
 intro l;induction l with
 |nil=>
  intro pre bs ss st A B ws out hp ho h hi hh;rw[ze7] at hp;subst hp;refine⟨bs,ss,st,?_,rfl,h,hi,hh⟩;rw[aq];simp only[gB,↓xo,aV (show¬(pre.length:Int)<(pre.length:Int) by omega),zdG,tG]
 |cons o l ih=>
  intro pre bs ss st A B ws out hp ho h hi hh;have hx:all[pre.length]?=some o:=by rw[<-hp];simp
  have lj:pre.length<all.length:=(List.getElem?_eq_some_iff.1 hx).1;have e1:i64.wrap ((pre.length:Int)+1)=(((pre++ [o]).length:Nat):Int):=by rw[jY lj (by omega),zdP];rfl
  have wy:(pre++ [o])++l=all:=by rw[<-hp];simp
  simp only[zdQ] at ho;unfold tG;rw[aq];cases hb:WQ x o with
  |true=>
   rw[if_pos rfl];have vC:=hb;unfold WQ at vC;obtain⟨bs1,ss1,xi,r1,r2⟩:=Nr (last:=last) (no:=no) h hi o.1 o.2.1;obtain⟨r3,r4⟩:=Fv hi o.1 o.2.1;obtain⟨pq,pt,fy,i1,i2⟩:=ih (pre++ [o]) bs1 ss1 xi _ _ _ (out++ [o]) wy (by rw[zdP,zfw];omega) r2 r3 (λo' na=>hh o' (r4.subset na))
   refine⟨pq,pt,fy,?_,i2⟩;simp only[gB,↓xo,xw,ot (show(pre.length:Int)<(all.length:Int) by omega),ot (show(0:Int)<=(pre.length:Int) by omega),zdH,zdI,hx,zdF,aV (tu o.1),zdG,vC,r1,ot (show(((out.length+([o]:List dP).length:Nat):Int))*((72:Nat):Int)<=((room:Nat):Int) by unfold room;simp only[zdQ,zdR];omega),e1]
   exact i1
  |false=>
   rw[if_neg (by simp)]
   have vC:=hb;unfold WQ at vC;obtain⟨pq,pt,fy,i1,i2⟩:=ih (pre++ [o]) bs ss st A B ws out wy (by omega) h hi hh
   refine⟨pq,pt,fy,?_,i2⟩;simp only[gB,↓xo,xw,ot (show(pre.length:Int)<(all.length:Int) by omega),ot (show(0:Int)<=(pre.length:Int) by omega),zdH,zdI,hx,zdF,aV (tu o.1),zdG,vC,e1]
   exact i1
theorem B1 (x:Int): ∀(l:List dP) (m:MS) (out:List dP),(tG x l m out).2.length<=out.length+l.length
 | [],_,_=>zd2 _
 |o::l,m,out=>by
  unfold tG;split
  ·have:=B1 x l ((mW o.1 o.2.1 m.1 m.2.1 m.2.2.1).2.2.1,(mW o.1 o.2.1 m.1 m.2.1 m.2.2.1).2.2.2.1,(mW o.1 o.2.1 m.1 m.2.1 m.2.2.1).2.2.2.2,m.2.2.2) (out++ [o])
   rw[zdP,zfw] at this;simp only[zdQ];omega
  ·have:=B1 x l m out
   simp only[zdQ];omega
noncomputable def mX (x:Int)(m:MS):MS×List dP:=tG x (xD m.1 m.2.1 m.2.2.1) m []
theorem WR (h:Bk bs ss st A B)(hi:xC A B ws)(hh:yy (A,B,ws,last,no))(x:Int): ∃pq pt fy,kP WX (((),x,()),CX last no bs ss ws st)=
  some (((mX x (A,B,ws,last,no)).2,()),Gz last no pq pt (mX x (A,B,ws,last,no)).1.2.2.1 fy)/\(mX x (A,B,ws,last,no)).1.2.2.2=(last,no)/\Bk pq pt fy (mX x (A,B,ws,last,no)).1.1 (mX x (A,B,ws,last,no)).1.2.1/\xC (mX x (A,B,ws,last,no)).1.1 (mX x (A,B,ws,last,no)).1.2.1 (mX x (A,B,ws,last,no)).1.2.2.1/\yy (mX x (A,B,ws,last,no)).1/\(mX x (A,B,ws,last,no)).2.length<=64:=by
 have ha:=all_mk (last:=last) (no:=no) h hi;have hl:=yx hi;obtain⟨pq,pt,fy,i1,i2,i3,i4,i5⟩:=Q3 x last no (xD A B ws) (by omega) (xD A B ws) [] bs ss st A B ws [] rfl (by simp only[zdR];omega) h hi hh
 change ag (gB WX) (((),x,(),xD A B ws,((xD A B ws).length:Int),0,()),_)=_ at i1;have hln:=B1 x (xD A B ws) (A,B,ws,last,no) [];refine⟨pq,pt,fy,?_,i2,i3,i4,i5,by rw[zdR,zev] at hln;exact zd3 hln hl⟩
 simp only[kP,ha,zdF,↓xl,i1];rfl
def rP (t:Int)(l:List dP):Int:=ik (l.map λo=>if o.1=t then Od.eD o else 0)
def wi (t:Int)(m:MS):Int:=rP t (xD m.1 m.2.1 m.2.2.1)
theorem KX {s:Int}{A:List nI}(h:ma s A): ∀o∈rI A,1<=Od.eD o/\Od.eD o<=1048576:=by
 intro o ho;unfold rI at ho;obtain⟨a,ha,ho⟩:=List.mem_flatMap.1 ho;obtain⟨e,he,rfl⟩:=List.mem_map.1 ho;have:=(h.O9 a ha e he).1;unfold oM at this;omega
theorem yz (hi:xC A B ws): ∀o∈xD A B ws,1<=Od.eD o/\Od.eD o<=1048576:=by
 intro o ho;unfold xD at ho;rcases List.mem_append.1 ho with ho|ho
 ·exact KX hi.bi.yu o ho
 ·rcases List.mem_append.1 ho with ho|ho
  ·exact KX hi.bi.sU o ho
  ·exact(hi.wo o ho).1.eD
theorem CY (t:Int){l:List dP}(h: ∀o∈l,1<=Od.eD o/\Od.eD o<=1048576)(hl:l.length<=64):0<=rP t l/\rP t l<=67108864:=by
 have:=wW (l:=l.map λo=>if o.1=t then Od.eD o else 0) (m:=1048576) (λx hx=>by
  obtain⟨o,ho,rfl⟩:=List.mem_map.1 hx;have:=h o ho;split<;>omega)
 rw[zeQ] at this;unfold rP;omega
theorem Ht (t:Int)(all:List dP)(h: ∀o∈all,1<=Od.eD o/\Od.eD o<=1048576)(hl:all.length<=64):ag (gl WX) ((t,0,all,(all.length:Int),0,()),())=some ((rP t all,()),()):=by
 have hb: ∀k,0<=rP t (all.take k)/\rP t (all.take k)<=67108864:=λk=>CY t (λo ho=>h o (zeI ho)) (by rw[zea];omega)
 have:=tO (b:=gl WX) (λk=>((t,rP t (all.take k),all,(all.length:Int),(k:Int),()),())) ((rP t all,()),()) all.length (λk hk=>by
  have hx:=zdL hk;generalize all[k]=o at hx;have e1:=jY hk (by omega)
  have ht:rP t (all.take (k+1))=rP t (all.take k)+(if o.1=t then Od.eD o else 0):=by
   unfold rP;rw[zfd,hx,zfo,kT];simp[ik]
  have b1:=hb (k+1);rw[ht] at b1;simp only[ht];by_cases hc:o.1=t
  ·rw[if_pos hc] at b1⊢
   have e2:i64.wrap (rP t (all.take k)+o.2.2.2.2.2.2.1)=rP t (all.take k)+Od.eD o:=by
    show i64.wrap (rP t (all.take k)+Od.eD o)=_
    exact nL (by omega) (by omega)
   simp only[gl,↓xo,xw,ot (show(k:Int)<(all.length:Int) by omega),ot (show(0:Int)<=(k:Int) by omega),zdH,zdI,hx,zdF,ot hc,e1,e2]
  ·rw[if_neg hc] at b1⊢
   simp only[gl,↓xo,xw,ot (show(k:Int)<(all.length:Int) by omega),ot (show(0:Int)<=(k:Int) by omega),zdH,zdI,hx,zdF,aV hc,zdG,e1,Int.add_zero])
  (by simp only[gl,↓xo,aV (show¬(all.length:Int)<(all.length:Int) by omega),zdG,zeX]) 0 (zeN _)
 exact this
theorem WS (h:Bk bs ss st A B)(hi:xC A B ws)(t:Int):lq WX (((),t,()),CX last no bs ss ws st)=some ((wi t (A,B,ws,last,no),()),Gz last no bs ss ws st):=by
 have ha:=all_mk (last:=last) (no:=no) h hi;have hl:=Ht t (xD A B ws) (yz hi) (yx hi);simp only[lq,ha,zdF,↓xl,hl];rfl
theorem KY (hi:xC A B ws)(t:Int):0<=wi t (A,B,ws,last,no)/\wi t (A,B,ws,last,no)<=67108864:=CY t (yz hi) (yx hi)
end
def tb (l:List (List Int))(n i:Nat):Int:=(l.getD n []).getD i 0
def Fy (l:List (List Int))(n i:Nat)(x:Int):List (List Int):=l.set n ((l.getD n []).set i x)
structure wZ (l:List (List Int)):Prop where
 len:l.length=32
 row: ∀r∈l,r.length=8
theorem wj {l:List (List Int)}(h:wZ l){n i:Nat}(hn:n<32)(hi:i<8): ∃r,l[n]?=some r/\r[i]?=some (tb l n i)/\l.getD n []=r:=by
 have h1:=zdL (l:=l) (i:=n) (by rw[h.len];omega)
 have h2:=h.row _ (zeH h1);have h3:=zdL (l:=l[n]'(by rw[h.len];omega)) (i:=i) (by omega)
 have h4:l.getD n []=l[n]'(by rw[h.len];omega):=by rw[zdW,h1];rfl
 refine⟨_,h1,?_,h4⟩;rw[h3];unfold tb;rw[h4,zdW,h3];rfl
theorem wk {l:List (List Int)}(h:wZ l)(n i:Nat)(x:Int)(hn:n<32):wZ (Fy l n i x):=by
 refine⟨by unfold Fy;rw[zej];exact h.len,λr hr=>?_⟩
 rcases zeS hr with hr|rfl
 ·exact h.row r hr
 ·obtain⟨r,h1,_,h3⟩:=wj h hn (show 0<8 by omega)
  rw[zej,h3];exact h.row r (zeH h1)
theorem tv {l:List (List Int)}(h:wZ l){n i:Nat}(hn:n<32)(hi:i<8)(x:Int)(m j:Nat):tb (Fy l n i x) m j=if m=n/\j=i then x else tb l m j:=by
 obtain⟨r,h1,h2,h3⟩:=wj h hn hi;have hl:=(List.getElem?_eq_some_iff.1 h1).1;have hj:=(List.getElem?_eq_some_iff.1 h2).1;unfold tb Fy;simp only[zdW,h1,ze0,zfc];by_cases hm:n=m
 ·subst hm
  rw[if_pos rfl,if_pos hl,h1];simp only[ze0,zfc,true_and];by_cases e:i=j
  ·subst e;simp[hj]
  ·rw[if_neg e,if_neg (λq=>e q.symm)]
 ·rw[if_neg hm,if_neg (λq=>hm q.1.symm)]
theorem zU {i:Nat}(h:i<8):0<=(i:Int)/\(i:Int)<(8:Nat):=by omega
abbrev Jh (op ps:List (List Int)):((List (List Int))×(List (List Int))×Unit)×Unit:=((op,ps,()),())
section
variable {op ps:List (List Int)}{n i:Nat}
theorem sj (hn:n<32)(hi:i<8):jA WX (((n:Int),(i:Int),()),())=some ((true,()),()):=by
 simp only[jA,↓xo,ot (show(n:Int)>=0 by omega),ot (show(n:Int)<32 by omega),ot (show(i:Int)>=0 by omega),ot (show(i:Int)<8 by omega),zdH]
theorem yN (h:wZ op)(hn:n<32)(hi:i<8):et WX (((),(n:Int),(i:Int),()),Jh op ps)=some ((tb op n i,()),Jh op ps):=by
 obtain⟨r,h1,h2,_⟩:=wj h hn hi;simp only[et,sj hn hi,zdF,zdJ,zdG,↓xo,ot (qX hn),ot (zU hi),zdH,zdI,h1,h2]
theorem Uf (h:wZ ps)(hn:n<32)(hi:i<8):fJ WX (((),(n:Int),(i:Int),()),Jh op ps)=some ((tb ps n i,()),Jh op ps):=by
 obtain⟨r,h1,h2,_⟩:=wj h hn hi;simp only[fJ,sj hn hi,zdF,zdJ,zdG,↓xo,ot (qX hn),ot (zU hi),zdH,zdI,h1,h2]
def Ug (x lo hi:Int):Bool:=decide (lo<=x/\x<=hi)
def KZ (l:List (List Int))(n i:Nat)(x lo hi:Int):List (List Int):=if Ug x lo hi=true then Fy l n i x else l
theorem Fz (h:wZ op)(hn:n<32)(hi:i<8){q:Int}(hq: -1048576<=q/\q<=1048576)(hb:0<=tb op n i/\tb op n i<=1099511627776):
  fq WX (((),(n:Int),(i:Int),q,()),Jh op ps)=some ((Ug (tb op n i+q) 0 1099511627776,()),Jh (KZ op n i (tb op n i+q) 0 1099511627776) ps):=by
 obtain⟨r,h1,h2,h3⟩:=wj h hn hi;have e:i64.wrap (tb op n i+q)=tb op n i+q:=nL (by omega) (by omega)
 unfold KZ Ug Fy;by_cases a:tb op n i+q<0
 ·rw[decide_eq_false (by omega)]
  simp only[fq,sj hn hi,zdF,↓xo,xw,ot hq.1,ot (show q>= -1048576 from hq.1),ot hq.2,ot (qX hn),ot (zU hi),zdH,zdI,mI,h1,h2,e,ot a,zdN,if_false]
 ·by_cases b:tb op n i+q>1099511627776
  ·rw[decide_eq_false (by omega)]
   simp only[fq,sj hn hi,zdF,↓xo,xw,ot (show q>= -1048576 from hq.1),ot hq.2,ot (qX hn),ot (zU hi),zdH,zdI,mI,h1,h2,e,aV a,ot b,zdG,zdN,if_false]
  ·rw[decide_eq_true (by omega)]
   simp only[fq,sj hn hi,zdF,↓xo,xw,ot (show q>= -1048576 from hq.1),ot hq.2,ot (qX hn),ot (zU hi),zdH,zdI,mI,h1,h2,e,aV a,aV b,zdG,if_true,h3]
def xa (side q:Int):Int:=if side=2 then-q else q
theorem Hu (h:wZ ps)(hn:n<32)(hi:i<8){q s:Int}(hs:s=1\/s=2)(hq:1<=q/\q<=1048576)(hb: -1099511627776<=tb ps n i/\tb ps n i<=1099511627776):
  fN WX (((),(n:Int),(i:Int),s,q,()),Jh op ps)=some ((Ug (tb ps n i+xa s q) (-1099511627776) 1099511627776,()),Jh op (KZ ps n i (tb ps n i+xa s q) (-1099511627776) 1099511627776)):=by
 obtain⟨r,h1,h2,h3⟩:=wj h hn hi;have Yb: ¬(2:Int)=1:=by omega
 have Oc: ¬(1:Int)=2:=by omega
 have e0:i64.wrap (0-q)= -q:=by rw[nL (by omega) (by omega)];omega
 have hsg: -1048576<=xa s q/\xa s q<=1048576:=by unfold xa;split<;>omega
 have e:i64.wrap (tb ps n i+xa s q)=tb ps n i+xa s q:=nL (by omega) (by omega)
 have mv:jm WX (((n,i,()),xa s q,(-1099511627776),1099511627776,()),Jh op ps)=some ((Ug (tb ps n i+xa s q) (-1099511627776) 1099511627776,()),Jh op (KZ ps n i (tb ps n i+xa s q) (-1099511627776) 1099511627776)):=by
  unfold KZ Ug Fy;by_cases a:tb ps n i+xa s q< -1099511627776
  ·rw[decide_eq_false (by omega)]
   simp only[zdF,↓xo,xw,jm,h1,h2,e,ot a,zdH,zdN,if_false]
  ·by_cases b:tb ps n i+xa s q>1099511627776
   ·rw[decide_eq_false (by omega)]
    simp only[zdF,↓xo,xw,jm,h1,h2,e,aV a,ot b,zdH,zdG,zdN,if_false]
   ·rw[decide_eq_true (by omega)]
    simp only[zdF,↓xo,xw,jm,h1,h2,e,aV a,aV b,zdG,if_true,h3]
 rcases hs with rfl|rfl
 ·have es:xa 1 q=q:=rfl
  rw[es] at mv⊢;simp only[fN,sj hn hi,zdF,zdJ,zdG,↓xo,xw,aV (show¬q<1 by omega),aV (show¬q>1048576 by omega),eq_self,iX,aV Oc,ot (qX hn),ot (zU hi),zdH,zdI,mv]
 ·have es:xa 2 q= -q:=rfl
  rw[es] at mv⊢;simp only[fN,sj hn hi,zdF,zdJ,zdK,zdG,↓xo,xw,aV (show¬q<1 by omega),aV (show¬q>1048576 by omega),eq_self,iX,aV Yb,e0,ot (qX hn),ot (zU hi),zdH,zdI,mv]
def yA (op:List (List Int))(n:Nat):Int:=ik ((List.range 8).map (tb op n))
theorem Uh (h:wZ op)(hn:n<32)(hb: ∀i,i<8->0<=tb op n i/\tb op n i<=1099511627776):iP WX (((),(n:Int),()),Jh op ps)=some ((yA op n,()),Jh op ps):=by
 have hs: ∀k,k<=8->0<=ik ((List.range k).map (tb op n))/\ik ((List.range k).map (tb op n))<=8796093022208:=λk hk=>by
  have:=wW (l:=(List.range k).map (tb op n)) (m:=1099511627776) (λx hx=>by
   obtain⟨j,hj,rfl⟩:=List.mem_map.1 hx;exact hb j (by have:=List.mem_range.1 hj;omega))
  rw[zeQ,zfx] at this;omega
 have hl:=tO (b:=eI WX) (λk=>(((),(n:Int),ik ((List.range k).map (tb op n)),(k:Int),()),Jh op ps)) ((yA op n,()),Jh op ps) 8 (λk hk=>by
  have e1:=jY hk (by omega)
  have b1:=hs k (by omega)
  have b2:=hs (k+1) (by omega)
  have e3:ik ((List.range (k+1)).map (tb op n))=ik ((List.range k).map (tb op n))+tb op n k:=by
   rw[zfy,zfo,kT];simp[ik]
  have e2:i64.wrap (ik ((List.range k).map (tb op n))+tb op n k)=ik ((List.range (k+1)).map (tb op n)):=by
   rw[e3] at b2⊢;exact nL (by omega) (by omega)
  simp only[eI,↓xo,xw,ot (show(k:Int)<8 by omega),zdH,yN h hn hk,zdF,e1,e2])
  (by simp only[eI,↓xo,aV (show¬((8:Nat):Int)<8 by omega),zdG];rfl) 0 (by omega)
 change ag (eI WX) (((),(n:Int),0,0,()),Jh op ps)=_ at hl;simp only[iP,↓xl,hl,zdF]
theorem Ui {o:dP}(h:Hk o):lr WX ((o,()),())=some ((Od.aZ o*Od.eD o,0,()),()):=by
 have hq:=h.eD;have hp:0<=Od.aZ o/\Od.aZ o<=1048576:=by have:=h.aZ;omega
 have b0:0<=Od.aZ o*Od.eD o:=Int.mul_nonneg hp.1 (by omega)
 have b1:Od.aZ o*Od.eD o<=1048576*1048576:=Int.mul_le_mul hp.2 hq.2 (by omega) (by omega)
 have e1:i64.wrap (Od.aZ o*Od.eD o)=Od.aZ o*Od.eD o:=nL (by omega) (by omega)
 have d0:1048576<=Int.tdiv 9223372036854775807 (Od.eD o):=by
  rw[Int.tdiv_eq_ediv_of_nonneg (by omega)]
  exact(Int.le_ediv_iff_mul_le (by omega)).2 (by omega)
 have d1:Int.tdiv 9223372036854775807 (Od.eD o)<=9223372036854775807:=Int.tdiv_le_self _ (by omega)
 have e2:i64.wrap (Int.tdiv 9223372036854775807 (Od.eD o))=Int.tdiv 9223372036854775807 (Od.eD o):=nL (by omega) (by omega)
 have key: ∀p q:Int,p=Od.aZ o->q=Od.eD o->lN WX ((p,q,()),())=some ((p*q,0,()),()):=by
  intro p q wy uL;subst wy uL;simp only[lN,↓xo,xw,aV (show¬Od.aZ o<0 by omega),aV (show¬Od.eD o<0 by omega),ot (show Od.eD o>0 by omega),aV (show¬Od.eD o=0 by omega),e2,aV (show¬Od.aZ o>Int.tdiv 9223372036854775807 (Od.eD o) by omega),e1,zdH,zdG]
 simp only[lr,key _ _ rfl rfl,zdF]
structure B2 (op ps:List (List Int))(l:xm)(o:dP)(i:Nat):Prop where
 ord:Hk o
 eD:Od.eD o<=l.1
 value:Od.aZ o*Od.eD o<=l.2.1
 opn:yA op o.1.toNat+Od.eD o<=l.2.2.1
 buy:Od.side o=1->tb ps o.1.toNat i+(tb op o.1.toNat i+Od.eD o)<=l.2.2.2.1
 zdB:Od.side o=2->tb op o.1.toNat i+Od.eD o-tb ps o.1.toNat i<=l.2.2.2.1
theorem K0 (h:wZ op)(h':wZ ps)(hi:i<8)(l:xm)(o:dP)(hb: ∀n i,n<32->i<8->0<=tb op n i/\tb op n i<=1099511627776)(hp: ∀n i,n<32->i<8-> -1099511627776<=tb ps n i/\tb ps n i<=1099511627776):
  ∃e,gS WX (((),l,o,(i:Int),()),Jh op ps)=some ((e,()),Jh op ps)/\(e=0->B2 op ps l o i):=by
 have hR:=AZ o;have i1: ¬(i:Int)<0:=by omega
 have i2: ¬(i:Int)>=8:=by omega
 have xE: ¬(1:Int)=0:=by omega
 cases hr:oy o with
 |false=>
  rw[hr] at hR;exact⟨1,by simp only[gS,hR,zdF,zdG,↓xo,aV xE,zdK,zdH],λq=>by omega⟩
 |true=>
  rw[hr] at hR;have ho:=qR hr;have hv:=Ui ho;have ht:=ho.qH;have hq:=ho.eD;obtain⟨n,hn⟩:=zfz ht.1;have Nu:n<32:=by omega
  have ha:=Uh (ps:=ps) h Nu (λi hi=>hb n i Nu hi);have hpo:=Uf (op:=op) h' Nu hi;have vD:=yN (ps:=ps) h Nu hi;have b1:=hb n i Nu hi;have b2:=hp n i Nu hi;have bs:0<=yA op n/\yA op n<=8796093022208:=by
   have:=wW (l:=(List.range 8).map (tb op n)) (m:=1099511627776) (λx hx=>by
    obtain⟨j,hj,rfl⟩:=List.mem_map.1 hx;exact hb n j Nu (List.mem_range.1 hj))
   rw[zeQ,zfx] at this;unfold yA;omega
  have q0:o.2.2.2.2.2.2.1=Od.eD o:=rfl;have s0:o.2.2.2.1=Od.side o:=rfl;have w1:i64.wrap (yA op n+Od.eD o)=yA op n+Od.eD o:=nL (by omega) (by omega)
  have w2:i64.wrap (tb op n i+Od.eD o)=tb op n i+Od.eD o:=nL (by omega) (by omega)
  have w3:i64.wrap (tb ps n i+(tb op n i+Od.eD o))=tb ps n i+(tb op n i+Od.eD o):=nL (by omega) (by omega)
  have w4:i64.wrap (tb op n i+Od.eD o-tb ps n i)=tb op n i+Od.eD o-tb ps n i:=nL (by omega) (by omega)
  have Yb: ¬(2:Int)=1:=by omega
  have Oc: ¬(1:Int)=2:=by omega
  have e8:(8:Int)=0->B2 op ps l o i:=λq=>by omega
  by_cases c1:Od.eD o>l.1
  ·exact⟨8,by simp only[gS,hR,hv,zdF,zdH,↓xo,eq_self,iX,zdJ,zdG,aV i1,aV i2,q0,ot c1],e8⟩
  by_cases c2:Od.aZ o*Od.eD o>l.2.1
  ·exact⟨8,by simp only[gS,hR,hv,zdF,zdH,↓xo,eq_self,iX,zdJ,zdG,aV i1,aV i2,q0,aV c1,ot c2],e8⟩
  by_cases c3:yA op n+Od.eD o>l.2.2.1
  ·exact⟨8,by simp only[gS,hR,hv,zdF,zdH,↓xo,xw,eq_self,iX,zdJ,zdG,aV i1,aV i2,q0,aV c1,aV c2,hn,ha,w1,ot c3],e8⟩
  rcases ho.side with hs|hs
  ·by_cases c4:tb ps n i+(tb op n i+Od.eD o)>l.2.2.2.1
   ·exact⟨8,by simp only[gS,hR,hv,zdF,zdH,↓xo,xw,eq_self,iX,zdJ,zdG,aV i1,aV i2,q0,aV c1,aV c2,hn,ha,w1,aV c3,hpo,vD,s0,hs,w2,w3,ot c4],e8⟩
   ·refine⟨0,by simp only[gS,hR,hv,zdF,zdH,↓xo,xw,eq_self,iX,zdJ,zdG,aV i1,aV i2,q0,aV c1,aV c2,hn,ha,w1,aV c3,hpo,vD,s0,hs,w2,w3,aV c4,aV Oc],λ_=>⟨ho,by omega,by omega,?_,λ_=>?_,λq=>by omega⟩⟩
    ·rw[hn];exact(by omega:yA op n+Od.eD o<=l.2.2.1)
    ·rw[hn];exact(by omega:tb ps n i+(tb op n i+Od.eD o)<=l.2.2.2.1)
  ·by_cases c4:tb op n i+Od.eD o-tb ps n i>l.2.2.2.1
   ·exact⟨8,by simp only[gS,hR,hv,zdF,zdH,↓xo,xw,eq_self,iX,zdJ,zdG,aV i1,aV i2,q0,aV c1,aV c2,hn,ha,w1,aV c3,hpo,vD,s0,hs,w2,w4,ot c4,aV Yb],e8⟩
   ·refine⟨0,by simp only[gS,hR,hv,zdF,zdH,↓xo,xw,eq_self,iX,zdJ,zdG,aV i1,aV i2,q0,aV c1,aV c2,hn,ha,w1,aV c3,hpo,vD,s0,hs,w2,w4,aV c4,aV Yb],λ_=>⟨ho,by omega,by omega,?_,λq=>by omega,λ_=>?_⟩⟩
    ·rw[hn];exact(by omega:yA op n+Od.eD o<=l.2.2.1)
    ·rw[hn];exact(by omega:tb op n i+Od.eD o-tb ps n i<=l.2.2.2.1)
end
theorem oC {L R S:Type}{b:L->Option (L⊕R)}(n:Nat)(mk:Nat->S->L)(fin:S->R)(I:Nat->S->Prop)(hs: ∀k s,k<n->I k s->∃s',b (mk k s)=some (.inl (mk (k+1) s'))/\I (k+1) s')(he: ∀s,I n s->b (mk n s)=some (.inr (fin s))): ∀s,I 0 s->∃s',ag b (mk 0 s)=some (fin s')/\I n s':=by
 have key: ∀m k s,k+m=n->I k s->∃s',ag b (mk k s)=some (fin s')/\I n s':=by
  intro m;induction m with
  |zero=>
   intro k s hk hi;obtain rfl:k=n:=by omega
   exact⟨s,by rw[aq,he s hi],hi⟩
  |succ m ih=>
   intro k s hk hi;obtain⟨s',h1,h2⟩:=hs k s (by omega) hi
   obtain⟨s'',h3,h4⟩:=ih (k+1) s' (by omega) h2
   exact⟨s'',by rw[aq,h1];exact h3,h4⟩
 exact λs hi=>key n 0 s (by omega) hi
theorem Uj {i n:Nat}(h:i<n)(hn:n<=1000000000000):IntKind.wrap .i64 ((i:Int)+1)=((i+1:Nat):Int):=by rw[nL (by omega) (by omega)];omega
def zb8 (v:V)(i:Nat)(m:MS):Prop:= ∃bs ss st,v.M[i]?=some (CX m.2.2.2.1 m.2.2.2.2 bs ss m.2.2.1 st)/\Bk bs ss st m.1 m.2.1/\xC m.1 m.2.1 m.2.2.1/\yy m
structure A2 (v:V)(μ:Nat->MS):Prop where
 mp: ∀i,i<8->v.mp[i]?=some (i+1)
 at_: ∀i,i<8->zb8 v i (μ i)
structure Lx (op:List (List Int)):Prop where
 qo:wZ op
 xr: ∀n i,n<32->i<8->0<=tb op n i/\tb op n i<=1099511627776
structure Q4 (ps:List (List Int)):Prop where
 qo:wZ ps
 xr: ∀n i,n<32->i<8-> -1099511627776<=tb ps n i/\tb ps n i<=1099511627776
section
variable {v:V}{μ:Nat->MS}{i n:Nat}
theorem K1 (hm:A2 v μ)(hi:i<8)(hn:n<32)(ho:Lx v.op): ∃m8,ag (dq WX) (((),(i:Int),(n:Int),(n:Int),()),v.s)=some (((),(i:Int),(n:Int),()),{v with op:=m8}.s)/\Lx m8/\∀m j,tb m8 m j=if m=n/\j=i then wi n (μ i) else tb v.op m j:=by
 obtain⟨bs,ss,st,hM,hB,hI,hH⟩:=hm.at_ i hi;have hO:=WS (last:=(μ i).2.2.2.1) (no:=(μ i).2.2.2.2) hB hI (n:Int);have ob:=KY (last:=(μ i).2.2.2.1) (no:=(μ i).2.2.2.2) hI (n:Int);have hp:=hm.mp i hi;generalize hX:wi (n:Int) ((μ i).1,(μ i).2.1,(μ i).2.2.1,(μ i).2.2.2.1,(μ i).2.2.2.2)=X at hO ob;have key:=pI (b:=dq WX) (λk l=> ∃m8,l=(((),(i:Int),(n:Int),(n:Int),()),{v with op:=m8}.s)/\Lx m8/\(∀m j,¬(m=n/\j=i)->tb m8 m j=tb v.op m j)/\k=(X-tb m8 n i).natAbs)
  (λr=> ∃m8,r=(((),(i:Int),(n:Int),()),{v with op:=m8}.s)/\Lx m8/\∀m j,tb m8 m j=if m=n/\j=i then X else tb v.op m j) (λk l hl=>by
   obtain⟨m8,rfl,h1,h2,h3⟩:=hl;have b1:=h1.xr n i hn hi;have hA:=yN (ps:=v.ps) h1.qo hn hi;have e1:i64.wrap (X-tb m8 n i)=X-tb m8 n i:=nL (by omega) (by omega)
   by_cases h0:X-tb m8 n i=0
   ·refine .inr ⟨_,?_,m8,rfl,h1,λm j=>?_⟩
    ·simp only[dq,V.s,↓xo,xw,ot (zU hi),zdH,zdI,hp,zdF,al,hM,hO,hA,e1,ot h0,aE hM]
    ·split
     ·rename_i e;rw[e.1,e.2];omega
     ·rename_i e;exact h2 m j e
   ·have hq: -1048576<=max (-1048576) (min (X-tb m8 n i) 1048576)/\max (-1048576) (min (X-tb m8 n i) 1048576)<=1048576:=by omega
    generalize hQ:max (-1048576) (min (X-tb m8 n i) 1048576)=q at hq;have hS:=Fz (ps:=v.ps) h1.qo hn hi hq b1;have hv:Ug (tb m8 n i+q) 0 1099511627776=true:=decide_eq_true (by omega)
    rw[hv] at hS;unfold KZ at hS;rw[if_pos hv] at hS;refine .inl ⟨_,?_,(X-(tb m8 n i+q)).natAbs,by omega,Fy m8 n i (tb m8 n i+q),rfl,⟨wk h1.qo n i _ hn,λm j hm' hj=>?_⟩,λm j e=>?_,?_⟩
    ·simp only[dq,V.s,↓xo,xw,vu,QH,ot (zU hi),zdH,zdI,hp,zdF,al,hM,hO,hA,e1,aV h0,zdG,aE hM,hQ,hS,zdJ]
    ·rw[tv h1.qo hn hi]
     split
     ·omega
     ·exact h1.xr m j hm' hj
    ·rw[tv h1.qo hn hi,if_neg e];exact h2 m j e
    ·rw[tv h1.qo hn hi,if_pos ⟨rfl,rfl⟩])
 obtain⟨r,h1,m8,rfl,h2,h3⟩:=key _ _ ⟨v.op,rfl,ho,λ_ _ _=>rfl,rfl⟩;exact⟨m8,h1,h2,h3⟩
theorem K2 (hm:A2 v μ)(hi:i<8)(ho:Lx v.op): ∃m8,gn WX (((),(i:Int),()),v.s)=some ((),{v with op:=m8}.s)/\Lx m8/\∀m j,m<32->tb m8 m j=if j=i then wi m (μ i) else tb v.op m j:=by
 obtain⟨m8,h1,h2,h3⟩:=oC (b:=dr WX) 32 (λk (m8:List (List Int))=>(((),(i:Int),(k:Int),()),{v with op:=m8}.s)) (λm8=>((),{v with op:=m8}.s)) (λk m8=>Lx m8/\∀m j,tb m8 m j=if m<k/\j=i then wi m (μ i) else tb v.op m j)
  (λk op1 hk hI=>by
   have hm':A2 {v with op:=op1} μ:=⟨hm.mp,hm.at_⟩;obtain⟨Uk,h1,h2,h3⟩:=K1 hm' hi hk hI.1;have e1:=jY hk (by omega)
   refine⟨Uk,by simp only[dr,↓xo,xw,↓xl,ot (show(k:Int)<32 by omega),zdH,h1,zdF,e1],h2,λm j=>?_⟩
   rw[h3 m j];by_cases hc:m=k/\j=i
   ·rw[if_pos hc,if_pos (by omega),hc.1]
   ·rw[if_neg hc]
    show tb op1 m j=_
    rw[hI.2 m j];by_cases hd:m<k/\j=i
    ·rw[if_pos hd,if_pos (by omega)]
    ·rw[if_neg hd,if_neg (by omega)])
  (λm8 _=>by simp only[dr,↓xo,aV (show¬((32:Nat):Int)<32 by omega),zdG]) v.op ⟨ho,λm j=>by rw[if_neg (by omega)]⟩
 change ag (dr WX) (((),(i:Int),0,()),v.s)=_ at h1;refine⟨m8,by simp only[gn,↓xl,h1,zdF],h2,λm j hm'=>?_⟩
 rw[h3 m j];by_cases hc:j=i
 ·rw[if_pos ⟨hm',hc⟩,if_pos hc]
 ·rw[if_neg (λq=>hc q.2),if_neg hc]
def A3 (i:Nat)(ps:List (List Int))(f:mS):List (List Int):=
 let Hv:=KZ ps f.1.1.toNat i (tb ps f.1.1.toNat i+xa (Od.side f.1) (Fl.eD f)) (-1099511627776) 1099511627776
 KZ Hv f.2.1.1.toNat i (tb Hv f.2.1.1.toNat i+xa (Od.side f.2.1) (Fl.eD f)) (-1099511627776) 1099511627776
def xb (i:Nat)(ps:List (List Int))(fs:List mS):List (List Int):=fs.foldl (A3 i) ps
def sW (i:Nat)(ps:List (List Int))(l:List lU):List (List Int):=l.foldl (λps x=>xb i ps x.2.1) ps
theorem Yk {ps:List (List Int)}(h:Q4 ps){n i:Nat}(hn:n<32)(hi:i<8)(x:Int):Q4 (KZ ps n i x (-1099511627776) 1099511627776):=by
 unfold KZ;split
 ·rename_i hv
  have:=of_decide_eq_true hv;refine⟨wk h.qo n i _ hn,λm j hm hj=>?_⟩;rw[tv h.qo hn hi];split
  ·exact this
  ·exact h.xr m j hm hj
 ·exact h
theorem FA {α β:Type}(f:β->α->β)(b:β){l:List α}{k:Nat}{x:α}(h:l[k]?=some x):(l.take (k+1)).foldl f b=f ((l.take k).foldl f b) x:=by
 rw[zfd,h,List.foldl_append];rfl
abbrev sX (v:V)(x:lU)(out:List hZ):=((v.cfg,v.now,(),v.ph,v.mp,(),v.bp,v.lp,()),(v.tr,()),(v.op,v.ps,()),x,out,v.M,v.L,v.B,())
abbrev sE (v:V)(out:List hZ):=((v.cfg,v.now,(),v.ph,v.mp,(),v.bp,v.lp,()),(v.tr,()),(v.op,v.ps,()),out,v.M,v.L,v.B,())
theorem Nv (hi:i<8)(hp:Q4 v.ps)(x:lU)(hx:pY x)(l:List lU)(a b:Int)(out:List hZ)(hl:out.length<=1000000000): ∃xB,ag (dU WX) (((),(i:Int),(),(),l,a,b,x.2.1,(x.2.1.length:Int),0,()),sX v x out)=some (((),(i:Int),(),(),l,a,b,()),sX {v with ps:=xb i v.ps x.2.1} x xB)/\Q4 (xb i v.ps x.2.1)/\xB.length=out.length+x.2.1.length:=by
 have hlen:=hx.len;obtain⟨⟨Xr,xB⟩,h1,h2,h3,h4⟩:=oC (b:=dU WX) x.2.1.length (λk (s:List (List Int)×List hZ)=>(((),(i:Int),(),(),l,a,b,x.2.1,(x.2.1.length:Int),(k:Int),()),sX {v with ps:=s.1} x s.2)) (λs=>(((),(i:Int),(),(),l,a,b,()),sX {v with ps:=s.1} x s.2))
  (λk s=>s.1=xb i v.ps (x.2.1.take k)/\Q4 s.1/\s.2.length=out.length+k)
  (λk s hk hI=>by
   obtain⟨Hv,Ji⟩:=s;obtain⟨i1,i2,i3⟩:=hI;simp only at i1 i2 i3;have Cf:=zdL hk;obtain⟨f1,f2,f3,f4⟩:=hx.zl _ (zeT hk);have f5:Fl.eD x.2.1[k]<=1048576:=by
    have s1:=hx.sum;have hd:x.2.1=x.2.1.take k++ [x.2.1[k]]++x.2.1.drop (k+1):=by simp
    have s2:=s1.2;rw[hd,uz,uz] at s2;have g1:=uA (l:=x.2.1.take k) λf hf=>(hx.zl f (zeI hf)).2.2.2;have g2:=uA (l:=x.2.1.drop (k+1)) λf hf=>(hx.zl f (zfa hf)).2.2.2;have g3:jF [x.2.1[k]]=Fl.eD x.2.1[k]:=by simp[jF,ik]
    omega
   have e1:=Uj hk (by omega)
   have ht:=FA (A3 i) v.ps Cf;generalize x.2.1[k]=f at*;obtain⟨n1,H5⟩:=zfz f1.1;obtain⟨n2,Dv⟩:=zfz f2.1;have t1:=Hu (op:=v.op) i2.qo (n:=n1) (by omega) hi (s:=Od.side f.1) (by omega) ⟨f4,f5⟩ (i2.xr n1 i (by omega) hi)
   have i4:=Yk i2 (n:=n1) (by omega) hi (tb Hv n1 i+xa (Od.side f.1) (Fl.eD f))
   have t2:=Hu (op:=v.op) i4.qo (n:=n2) (by omega) hi (s:=Od.side f.2.1) (by omega) ⟨f4,f5⟩ (i4.xr n2 i (by omega) hi)
   have i5:=Yk i4 (n:=n2) (by omega) hi (tb (KZ Hv n1 i (tb Hv n1 i+xa (Od.side f.1) (Fl.eD f)) (-1099511627776) 1099511627776) n2 i+xa (Od.side f.2.1) (Fl.eD f))
   have hf:A3 i Hv f=KZ (KZ Hv n1 i (tb Hv n1 i+xa (Od.side f.1) (Fl.eD f)) (-1099511627776) 1099511627776) n2 i (tb (KZ Hv n1 i (tb Hv n1 i+xa (Od.side f.1) (Fl.eD f)) (-1099511627776) 1099511627776) n2 i+xa (Od.side f.2.1) (Fl.eD f)) (-1099511627776) 1099511627776:=by
    unfold A3;rw[H5,Dv];rfl
   rw[<-hf] at t2 i5;refine⟨(A3 i Hv f,Ji++ [(1,(i:Int),f,(0,0,0,0,0,0,0,0,0,()),())]),?_,?_,i5,by rw[zdP,i3];simp only[zdQ,zdR];omega⟩
   ·have a1:f.1.1=(n1:Int):=H5
    have a2:f.2.1.1=(n2:Int):=Dv;have a3:f.1.2.2.2.1=Od.side f.1:=rfl;have a4:f.2.1.2.2.2.1=Od.side f.2.1:=rfl;have a5:f.2.2.2.1=Fl.eD f:=rfl;simp only[dU,↓xo,xw,ot (show(k:Int)<(x.2.1.length:Int) by omega),ot (show(0:Int)<=(k:Int) by omega),zdH,zdI,Cf,zdF,a1,a2,a3,a4,a5,t1,t2,ot (show(((Ji.length+([(1,(i:Int),f,(0,0,0,0,0,0,0,0,0,()),())]:List hZ).length:Nat):Int))*((256:Nat):Int)<=((room:Nat):Int) by unfold room;simp only[zdQ,zdR];omega),e1]
   ·show A3 i Hv f=_
    rw[i1];exact ht.symm)
  (λs _=>by simp only[dU,↓xo,aV (show¬(x.2.1.length:Int)<(x.2.1.length:Int) by omega),zdG]) (v.ps,out) ⟨rfl,hp,rfl⟩
 simp only at h1 h2 h3 h4;rw[zeX] at h2;subst h2;exact⟨xB,h1,h3,h4⟩
end
structure SI (v:V)(μ:Nat->MS):Prop where
 pK:A2 v μ
 op:Lx v.op
 Ly: ∀n i,n<32->i<8->tb v.op n i=wi n (μ i)
 ps:Q4 v.ps
section
variable {v:V}{μ:Nat->MS}{i n:Nat}
theorem Q5 (hi:i<8)(hp:Q4 v.ps)(l:List lU)(hl:l.length<=70)(hx: ∀x∈l,pY x): ∃xB,ag (bx WX) (((),(i:Int),(),l,(l.length:Int),0,()),sE v [])=some (((),(i:Int),xB,()),{v with ps:=sW i v.ps l}.s)/\Q4 (sW i v.ps l)/\xB.length<=80000000:=by
 obtain⟨⟨Xr,xB⟩,h1,h2,h3,h4⟩:=oC (b:=bx WX) l.length (λk (s:List (List Int)×List hZ)=>(((),(i:Int),(),l,(l.length:Int),(k:Int),()),sE {v with ps:=s.1} s.2)) (λs=>(((),(i:Int),s.2,()),{v with ps:=s.1}.s))
  (λk s=>s.1=sW i v.ps (l.take k)/\Q4 s.1/\s.2.length<=k*1048577)
  (λk s hk hI=>by
   obtain⟨Hv,Ji⟩:=s;obtain⟨i1,i2,i3⟩:=hI;simp only at i1 i2 i3;have Cf:=zdL hk;have hc:=hx _ (zeT hk);have e1:=jY hk (by omega)
   have ht:=FA (λps (x:lU)=>xb i ps x.2.1) v.ps Cf;generalize l[k]=x at*;obtain⟨Jj,f1,f2,f3⟩:=Nv (v:={v with ps:=Hv}) hi i2 x hc l (l.length:Int) (k:Int) Ji (by omega)
   have hl2:=hc.len;have hcm:xb i Hv x.2.1=sW i v.ps (l.take (k+1)):=by rw[i1];exact ht.symm
   have hr: ∀e:hZ,(((Jj.length+([e]:List hZ).length:Nat):Int))*((256:Nat):Int)<=((room:Nat):Int):=λe=>by
    unfold room;simp only[zdQ,zdR];omega
   have fin: ∀WT:List hZ,WT.length<=Jj.length+1->bx WX (((),(i:Int),(),l,(l.length:Int),(k:Int),()),sE {v with ps:=Hv} Ji)=some (.inl (((),(i:Int),(),l,(l.length:Int),((k+1:Nat):Int),()),sE {v with ps:=xb i Hv x.2.1} WT))->∃s':List (List Int)×List hZ,bx WX (((),(i:Int),(),l,(l.length:Int),(k:Int),()),sE {v with ps:=Hv} Ji)=some (.inl (((),(i:Int),(),l,(l.length:Int),((k+1:Nat):Int),()),sE {v with ps:=s'.1} s'.2))/\s'.1=sW i v.ps (l.take (k+1))/\Q4 s'.1/\s'.2.length<=(k+1)*1048577:=λWT ho he=>
     ⟨(xb i Hv x.2.1,WT),he,hcm,f2,by simp only;omega⟩
   by_cases hq:x.2.2.1>0
   ·cases Ph:x.2.2.2.1 with
    |true=>
     refine fin (Jj++ [(3,(i:Int),((0,0,0,0,0,0,0,0,0,()),(0,0,0,0,0,0,0,0,0,()),0,0,0,()),(x.1.1,x.1.2.1,x.1.2.2.1,x.1.2.2.2.1,x.1.2.2.2.2.1,x.1.2.2.2.2.2.1,x.2.2.1,x.1.2.2.2.2.2.2.2),())]) (by rw[zdP];exact zd2 _) ?_
     simp only[bx,↓xo,xw,↓xl,ot (show(k:Int)<(l.length:Int) by omega),ot (show(0:Int)<=(k:Int) by omega),zdH,zdI,Cf,zdF,f1,Ph,ot hq,ot (hr _),e1]
    |false=>
     cases Lr:x.2.2.2.2.1 with
     |true=>
      refine fin (Jj++ [(3,(i:Int),((0,0,0,0,0,0,0,0,0,()),(0,0,0,0,0,0,0,0,0,()),0,0,0,()),(x.1.1,x.1.2.1,x.1.2.2.1,x.1.2.2.2.1,x.1.2.2.2.2.1,x.1.2.2.2.2.2.1,x.2.2.1,x.1.2.2.2.2.2.2.2),())]) (by rw[zdP];exact zd2 _) ?_
      simp only[bx,↓xo,xw,↓xl,ot (show(k:Int)<(l.length:Int) by omega),ot (show(0:Int)<=(k:Int) by omega),zdH,zdG,zdI,Cf,zdF,f1,Ph,Lr,ot hq,ot (hr _),e1]
     |false=>
      refine fin (Jj++ [(2,(i:Int),((0,0,0,0,0,0,0,0,0,()),(0,0,0,0,0,0,0,0,0,()),0,0,0,()),(x.1.1,x.1.2.1,x.1.2.2.1,x.1.2.2.2.1,x.1.2.2.2.2.1,x.1.2.2.2.2.2.1,x.2.2.1,x.1.2.2.2.2.2.2.2),())]) (by rw[zdP];exact zd2 _) ?_
      simp only[bx,↓xo,xw,↓xl,ot (show(k:Int)<(l.length:Int) by omega),ot (show(0:Int)<=(k:Int) by omega),zdH,zdG,zdI,Cf,zdF,f1,Ph,Lr,ot hq,ot (hr _),e1]
   ·refine fin Jj (by omega) ?_
    cases Ph:x.2.2.2.1 with
    |true=>simp only[bx,↓xo,xw,↓xl,ot (show(k:Int)<(l.length:Int) by omega),ot (show(0:Int)<=(k:Int) by omega),zdH,zdG,zdI,Cf,zdF,f1,Ph,aV hq,e1]
    |false=>
     cases Lr:x.2.2.2.2.1 with
     |true=>simp only[bx,↓xo,xw,↓xl,ot (show(k:Int)<(l.length:Int) by omega),ot (show(0:Int)<=(k:Int) by omega),zdH,zdG,zdI,Cf,zdF,f1,Ph,Lr,aV hq,e1]
     |false=>simp only[bx,↓xo,xw,↓xl,ot (show(k:Int)<(l.length:Int) by omega),ot (show(0:Int)<=(k:Int) by omega),zdH,zdG,zdI,Cf,zdF,f1,Ph,Lr,aV hq,e1])
  (λs _=>by simp only[bx,↓xo,aV (show¬(l.length:Int)<(l.length:Int) by omega),zdG,V.s]) (v.ps,[]) ⟨rfl,hp,zeN _⟩
 simp only at h1 h2 h3 h4;rw[zeX] at h2;subst h2;exact⟨xB,h1,h3,by omega⟩
theorem WU (hm:A2 v μ)(ho:Lx v.op)(hp:Q4 v.ps)(hi:i<8)(l:List lU)(hl:l.length<=70)(hx: ∀x∈l,pY x): ∃out m8,fu WX (((),(i:Int),l,()),v.s)=some ((out,()),{v with ps:=sW i v.ps l,op:=m8}.s)/\Q4 (sW i v.ps l)/\Lx m8/\(∀m j,m<32->tb m8 m j=if j=i then wi m (μ i) else tb v.op m j)/\out.length<=80000000:=by
 obtain⟨out,h1,h2,h3⟩:=Q5 hi hp l hl hx;obtain⟨m8,g1,g2,g3⟩:=K2 (v:={v with ps:=sW i v.ps l}) (μ:=μ) ⟨hm.mp,hm.at_⟩ hi ho;refine⟨out,m8,?_,h2,g2,g3,h3⟩;simp only[fu,V.s,↓xl] at g1 h1⊢;simp only[h1,zdF,g1]
theorem Pj (hm:A2 v μ)(ho:Lx v.op)(hi:i<8)(l:List dP)(hl:l.length<=1000): ∃out m8,gD WX (((),(i:Int),l,()),v.s)=some ((out,()),{v with op:=m8}.s)/\Lx m8/\(∀m j,m<32->tb m8 m j=if j=i then wi m (μ i) else tb v.op m j)/\out.length=l.length:=by
 obtain⟨out,h1,h2⟩:=oC (b:=dT WX) l.length (λk (s:List hZ)=>(((),(i:Int),(),l,(l.length:Int),(k:Int),()),sE v s)) (λs=>(((),(i:Int),s,()),v.s))
  (λk s=>s.length=k)
  (λk s hk hI=>by
   have Cf:=zdL hk;have e1:=jY hk (by omega)
   generalize l[k]=x at*;exact⟨s++ [(2,(i:Int),((0,0,0,0,0,0,0,0,0,()),(0,0,0,0,0,0,0,0,0,()),0,0,0,()),x,())],by simp only[dT,↓xo,xw,ot (show(k:Int)<(l.length:Int) by omega),ot (show(0:Int)<=(k:Int) by omega),zdH,zdI,Cf,zdF,ot (show(((s.length+([(2,(i:Int),((0,0,0,0,0,0,0,0,0,()),(0,0,0,0,0,0,0,0,0,()),0,0,0,()),x,())]:List hZ).length:Nat):Int))*((256:Nat):Int)<=((room:Nat):Int) by unfold room;simp only[zdQ,zdR];omega),e1],by rw[zdP,hI];rfl⟩)
  (λs _=>by simp only[dT,↓xo,aV (show¬(l.length:Int)<(l.length:Int) by omega),zdG,V.s]) [] rfl
 change ag (dT WX) (((),(i:Int),(),l,(l.length:Int),0,()),sE v [])=_ at h1;obtain⟨m8,g1,g2,g3⟩:=K2 hm hi ho;refine⟨out,m8,?_,g2,g3,h2⟩;simp only[gD,V.s,↓xl] at g1 h1⊢;simp only[h1,zdF,g1]
def xc (μ:Nat->MS)(i:Nat)(m:MS):Nat->MS:=λj=>if j=i then m else μ j
theorem DK (hm:A2 v μ)(hi:i<8){m:MS}{bs ss:List Nat}{st:List gR}(hB:Bk bs ss st m.1 m.2.1)(hI:xC m.1 m.2.1 m.2.2.1)(hH:yy m):A2 {v with M:=v.M.set i (CX m.2.2.2.1 m.2.2.2.2 bs ss m.2.2.1 st)} (xc μ i m):=by
 refine⟨hm.mp,λj hj=>?_⟩;obtain⟨bs0,ss0,st0,h0,_⟩:=hm.at_ i hi;unfold xc;by_cases e:j=i
 ·subst e
  rw[if_pos rfl];exact⟨bs,ss,st,kW h0,hB,hI,hH⟩
 ·rw[if_neg e]
  obtain⟨bs1,ss1,xi,h1,h2⟩:=hm.at_ j hj;exact⟨bs1,ss1,xi,by show(v.M.set i _)[j]?=_;rw[kR e];exact h1,h2⟩
theorem Q6 (h:SI v μ)(hi:i<8)(x:Int)(a:Int)(out:List hZ)(hl:out.length<=1000)(ha:(i:Int)=a\/a=8): ∃xB m8 M',bT WX (((),a,x,(),v.mp,(i:Int),()),sE v out)=some (.inl (((),a,x,(),v.mp,((i+1:Nat):Int),()),sE {v with op:=m8,M:=M'} xB))/\SI {v with op:=m8,M:=M'} (xc μ i (mX x (μ i)).1)/\xB.length<=out.length+64:=by
 obtain⟨bs,ss,st,hM,hB,hI,hH⟩:=h.pK.at_ i hi;obtain⟨pq,pt,fy,m1,m2,m3,m4,m5,m6⟩:=WR (last:=(μ i).2.2.2.1) (no:=(μ i).2.2.2.2) hB hI hH x;change kP WX (((),x,()),_)=some (((mX x (μ i)).2,()),Gz (μ i).2.2.2.1 (μ i).2.2.2.2 pq pt (mX x (μ i)).1.2.2.1 fy) at m1;change (mX x (μ i)).1.2.2.2=((μ i).2.2.2.1,(μ i).2.2.2.2) at m2;change Bk pq pt fy (mX x (μ i)).1.1 (mX x (μ i)).1.2.1 at m3;change xC (mX x (μ i)).1.1 (mX x (μ i)).1.2.1 (mX x (μ i)).1.2.2.1 at m4;change yy (mX x (μ i)).1 at m5;change (mX x (μ i)).2.length<=64 at m6;have s1:=DK h.pK hi m3 m4 m5;have e2:(mX x (μ i)).1.2.2.2.1=(μ i).2.2.2.1:=by rw[m2]
 have e3:(mX x (μ i)).1.2.2.2.2=(μ i).2.2.2.2:=by rw[m2]
 rw[e2,e3] at s1;obtain⟨Jj,m8,g1,g2,g3,g4⟩:=Pj (v:={v with M:=v.M.set i (CX (μ i).2.2.2.1 (μ i).2.2.2.2 pq pt (mX x (μ i)).1.2.2.1 fy)}) s1 h.op hi (mX x (μ i)).2 (by omega)
 have hp:=h.pK.mp i hi;have e1:=jY hi (by omega)
 have hr:(((out.length+Jj.length:Nat):Int))*((256:Nat):Int)<=((room:Nat):Int):=by unfold room;omega
 refine⟨out++Jj,m8,_,?_,⟨⟨s1.mp,s1.at_⟩,g2,λn j hn hj=>?_,h.ps⟩,by rw[zdP];omega⟩
 ·simp only[V.s] at g1
  by_cases e:(i:Int)=a
  ·simp only[bT,V.s,↓xo,xw,ot (show(i:Int)<8 by omega),ot (zU hi),zdH,zdI,hp,zdF,ot e,al,hM,m1,g1,ot hr,e1]
  ·have e8:a=8:=by omega
   simp only[bT,V.s,↓xo,xw,ot (show(i:Int)<8 by omega),ot (zU hi),zdH,zdG,zdI,hp,zdF,aV e,ot e8,al,hM,m1,g1,ot hr,e1]
 ·show tb m8 n j=_
  rw[g3 n j hn];unfold xc;by_cases e:j=i
  ·subst e;rw[if_pos rfl]
  ·rw[if_neg e,if_neg e];exact h.Ly n j hn hj
theorem K3 (h:SI v μ)(x a:Int)(ha:0<=a/\a<=8): ∃out m8 M' μ',di WX (((),a,x,()),v.s)=some ((out,()),{v with op:=m8,M:=M'}.s)/\SI {v with op:=m8,M:=M'} μ'/\out.length<=512/\(∀i,μ' i=μ i\/μ' i=(mX x (μ i)).1):=by
 obtain⟨⟨m8,M',out,μ'⟩,h1,h2,h3,h4,_⟩:=oC (b:=bT WX) 8 (λk (s:List (List Int)×List tk×List hZ×(Nat->MS))=>(((),a,x,(),v.mp,(k:Int),()),sE {v with op:=s.1,M:=s.2.1} s.2.2.1)) (λs=>((s.2.2.1,()),{v with op:=s.1,M:=s.2.1}.s))
  (λk s=>SI {v with op:=s.1,M:=s.2.1} s.2.2.2/\s.2.2.1.length<=64*k/\(∀i,s.2.2.2 i=μ i\/s.2.2.2 i=(mX x (μ i)).1)/\∀i,k<=i->s.2.2.2 i=μ i)
  (λk s hk hI=>by
   obtain⟨op1,M1,Ji,μ1⟩:=s;obtain⟨i1,i2,i3,i4⟩:=hI;simp only at i1 i2 i3 i4;have e1:=jY hk (by omega)
   have hp:=i1.pK.mp k hk;change v.mp[k]?=_ at hp;by_cases e:(k:Int)=a\/a=8
   ·obtain⟨xB,m8,M',g1,g2,g3⟩:=Q6 i1 hk x a Ji (by omega) e
    refine⟨(m8,M',xB,xc μ1 k (mX x (μ1 k)).1),g1,g2,by simp only;omega,λi=>?_,λi hi=>?_⟩
    ·simp only[xc]
     by_cases q:i=k
     ·subst q;rw[if_pos rfl,i4 i (zd2 _)];exact .inr rfl
     ·rw[if_neg q];exact i3 i
    ·simp only[xc]
     rw[if_neg (by omega)];exact i4 i (by omega)
   ·refine⟨(op1,M1,Ji,μ1),?_,i1,by simp only;omega,i3,λi hi=>i4 i (by omega)⟩
    simp only[bT,V.s,↓xo,xw,ot (show(k:Int)<8 by omega),ot (zU hk),zdH,zdG,zdI,hp,zdF,aV (λq=>e (.inl q)),aV (λq=>e (.inr q)),e1])
  (λs _=>by simp only[bT,↓xo,aV (show¬((8:Nat):Int)<8 by omega),zdG,V.s]) (v.op,v.M,[],μ) ⟨h,zeN _,λi=> .inl rfl,λi _=>rfl⟩
 refine⟨out,m8,M',μ',?_,h2,by simp only at h3;omega,h4⟩
 change ag (bT WX) (((),a,x,(),v.mp,0,()),sE v [])=_ at h1;simp only[di,V.s,↓xl] at h1⊢;simp only[h1,zdF]
end
end AM
