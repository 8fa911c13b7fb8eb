/- The engine and the venue, in plain Lean: what the printed functions keep. Conditions: none. -/
import Derived.Test.YtepopigkpnoflaaGreatTwPrn2
set_option linter.unusedVariables false
set_option linter.unusedSimpArgs false
set_option maxRecDepth 100000
namespace AM
open Go Go.Proofs IntKind
theorem xo (p:Prop){i:Decidable p}: @W.af WX p i=af p:=(@kJ p i).symm
theorem xw (k:IntKind)(n:Int):WX.wr k n=k.wrap n:=by
 have h:WX.wr k n=wr k n:=(pE k n).symm;rw[h,pE]
theorem xq (a b:Int):WX.aj a b=af (a=b):=(kJ _).symm
theorem xl {L R:Type}(b:L->Option (L⊕R))(l:L):WX.ag b l=ag b l:=Ej _ b l
theorem uS (a b:Int):WX.qF a b=min a b:=by
 show(bif decide (b<a) then b else a)=_
 by_cases h:b<a
 ·rw[decide_eq_true h,zde];omega
 ·rw[decide_eq_false h,zdd];omega
theorem Mo (a b:Int):WX.imax a b=max a b:=by
 show(bif decide (b>a) then b else a)=_
 by_cases h:b>a
 ·rw[decide_eq_true h,zde];omega
 ·rw[decide_eq_false h,zdd];omega
theorem nQ {n:Int}(h0: -9223372036854775808<=n)(h1:n<=9223372036854775807):IntKind.wrap .i64 n=n:=by rw[IntKind.wrap_i64];omega
theorem al {α:Type}(k:Nat)(f:Nat->Option α):me (k+1) f=f k:=rfl
structure V where
 c:List NW
 cfg:wR
 now:Int
 ph:Ih
 mp:List Nat
 bp:List Nat
 lp:List Nat
 tr:List oS
 op:List (List Int)
 ps:List (List Int)
 lg:GJ
 mt:List U5
 M:List uq
 L:List ti
 S:List Ao
 F:List wT
 O:List Bi
 B:List vz
abbrev VT:=((Unit×(List NW)×Unit×Unit×Unit)×(wR×Int×Unit×Ih×(List Nat)×Unit×(List Nat)×(List Nat)×Unit)×((List oS)×Unit)×((List (List Int))×(List (List Int))×Unit)×GJ×((List U5)×Unit)×(List uq)×(List ti)×(List Ao)×(List wT)×(List Bi)×(List vz)×Unit)
abbrev ST:=((wR×Int×Unit×Ih×(List Nat)×Unit×(List Nat)×(List Nat)×Unit)×((List oS)×Unit)×((List (List Int))×(List (List Int))×Unit)×(List uq)×(List ti)×(List vz)×Unit)
def V.e (v:V):VT:=(((),v.c,(),(),()),(v.cfg,v.now,(),v.ph,v.mp,(),v.bp,v.lp,()),(v.tr,()),(v.op,v.ps,()),v.lg,(v.mt,()),v.M,v.L,v.S,v.F,v.O,v.B,())
def V.s (v:V):ST:=((v.cfg,v.now,(),v.ph,v.mp,(),v.bp,v.lp,()),(v.tr,()),(v.op,v.ps,()),v.M,v.L,v.B,())
abbrev gN:List Int:=List.replicate 32 (0:Int)
abbrev C0:mP:=(0,0,0,0,0,0,0,0,0,0,0,0,0,0,gN,())
theorem aI {β:Type}{l:List β}{n:Nat}{x:β}(h:l[n]?=some x):l.set n x=l:=by
 apply List.ext_getElem?;intro j;rw[zeJ];split
 ·rename_i e;subst e
  have:=(List.getElem?_eq_some_iff.1 h).1;rw[if_pos this,h]
 ·rfl
structure nb (v:V)(i f o:Nat)(s:wS)(fr ou:(List Int)×Bool×Unit):Prop where
 lt:i<16
 c:v.c[i]?=some (i+1,f+1,o+1,())
 S:v.S[i]?=some (s,())
 F:v.F[f]?=some (fr,())
 O:v.O[o]?=some (ou,())
section
variable {v:V}{i f o:Nat}{s:wS}{fr ou:(List Int)×Bool×Unit}
theorem lh (h:i<16):0<=(i:Int)/\(i:Int)<(16:Nat):=by omega
theorem PZ (h:nb v i f o s fr ou):eW WX (((),(i:Int),()),v.e)=some ((s.1,()),v.e):=by
 have hl:=h.lt;simp only[eW,fg,V.e,↓xo,ot (show(i:Int)>=0 by omega),ot (show(i:Int)<16 by omega),ot (lh hl),zde,zdc,zdg,zdd,zdf,h.c,al,h.S,ai,aI h.S]
def Fit (v:V):Prop:= ∀i,i<16->∃f o s fr ou,nb v i f o s fr ou/\(s.1≠0->ou.2.1=false)
theorem Sz (h:Fit v):eV WX (((),()),v.e)=some (((-1),()),v.e):=by
 have key: ∀n i:Nat,i+n=16->ag (bV WX) ((v.c,(i:Int),()),v.S,v.F,v.O,())=some (.inr ((),v.S,v.F,v.O,())):=by
  intro n;induction n with
  |zero=>
   intro i hi;rw[aq];simp only[bV,↓xo,bc (show¬(i:Int)<16 by omega),zdd]
  |succ n ih=>
   intro i hi;obtain⟨f,o,s,fr,ou,hc,hf⟩:=h i (by omega)
   rw[aq];have e1:i64.wrap ((i:Int)+1)=((i+1:Nat):Int):=by rw[nQ (by omega) (by omega)];omega
   by_cases h0:s.1=0
   ·simp only[bV,↓xo,xw,ot (show(i:Int)<16 by omega),ot (lh hc.lt),zde,zdc,zdf,hc.c,al,hc.S,ai,ot h0,zdg,zdd,aI hc.S,e1]
    exact ih (i+1) (by omega)
   ·simp only[bV,↓xo,xw,ot (show(i:Int)<16 by omega),ot (lh hc.lt),zde,zdc,zdf,hc.c,al,hc.S,ai,bc h0,zdh,aI hc.S,e1,hc.O,jL,hf h0,zdd,aI hc.O]
    exact ih (i+1) (by omega)
 have:=key 16 0 (by omega)
 simp only[eV,V.e,xl];change ag (bV WX) ((v.c,0,()),v.S,v.F,v.O,())=_ at this;simp only[this,zdc]
theorem P0 (h:Fit v):cd WX (((),()),v.e)=some ((),v.e):=by
 have h1:=Sz h;have h2:ag (cT WX) (((),(-1),()),v.e)=some ((),v.e):=by
  rw[aq];simp only[cT,↓xo,bc (show¬(-1:Int)>=0 by omega),zdd]
 simp only[cd,h1,zdc,xl,h2]
end
theorem lx {i n:Nat}(h:i<n)(hn:n<=1000000):IntKind.wrap .i64 ((i:Int)+1)=((i+1:Nat):Int):=by rw[nQ (by omega) (by omega)];omega
theorem GL {L:List (List Int)}{i:Nat}{x:List Int}(h:L[i]?=some x):(L.take (i+1)).flatten=(L.take i).flatten++x:=by
 have hi:i<L.length:=(List.getElem?_eq_some_iff.1 h).1;rw[zeK,h];simp
theorem N3 {L:List (List Int)}(i:Nat):(L.take i).flatten.length<=L.flatten.length:=by
 conv=>rhs;rw[<-zev i L,List.flatten_append,zdm]
 omega
theorem GM (L:List (List Int))(h:L.flatten.length<=1000000000000)(hn:L.length<=1000000):ag (bN WX) ((L,0,L,(L.length:Int),0,()),())=some ((L,(L.flatten.length:Int),()),()):=by
 have key: ∀m i:Nat,i+m=L.length->ag (bN WX) ((L,((L.take i).flatten.length:Int),L,(L.length:Int),(i:Int),()),())=some ((L,(L.flatten.length:Int),()),()):=by
  intro m;induction m with
  |zero=>
   intro i hi;rw[aq];have:i=L.length:=by omega
   subst this;simp only[bN,↓xo,bc (show¬(L.length:Int)<(L.length:Int) by omega),zdd,zeu]
  |succ m ih=>
   intro i hi;have nA:i<L.length:=by omega
   have hx:=zdi nA;generalize L[i]=x at hx;have hf:=GL hx;have hle:=N3 (L:=L) (i+1);rw[hf,zdm] at hle;rw[aq];have e1:IntKind.wrap .i64 (((L.take i).flatten.length:Int)+(x.length:Int))=((L.take (i+1)).flatten.length:Int):=by
    rw[nQ (by omega) (by omega),hf,zdm];omega
   simp only[bN,↓xo,xw,ot (show(i:Int)<(L.length:Int) by omega),ot (show(0:Int)<=(i:Int) by omega),zde,zdf,hx,zdc,e1,bc (show¬((L.take (i+1)).flatten.length:Int)<0 by omega),zdd,lx nA hn]
   exact ih (i+1) (by omega)
 exact key L.length 0 (by omega)
theorem Mp (L:List (List Int))(hn:L.length<=1000000):ag (bC WX) ((0,L,(L.length:Int),0,()),(List.replicate L.flatten.length (0:Int),()))=some ((L.flatten.length,()),(L.flatten,())):=by
 have key: ∀m i:Nat,i+m=L.length->ag (bC WX) (((L.take i).flatten.length,L,(L.length:Int),(i:Int),()),((L.take i).flatten++List.replicate (L.flatten.length-(L.take i).flatten.length) (0:Int),()))=some ((L.flatten.length,()),(L.flatten,())):=by
  intro m;induction m with
  |zero=>
   intro i hi;rw[aq];have:i=L.length:=by omega
   subst this;simp only[bC,↓xo,bc (show¬(L.length:Int)<(L.length:Int) by omega),zdd,zeu,Nat.sub_self,zer,zeE]
  |succ m ih=>
   intro i hi;have nA:i<L.length:=by omega
   have hx:=zdi nA;generalize L[i]=x at hx;have hf:=GL hx;have hle:=N3 (L:=L) (i+1);rw[hf,zdm] at hle;rw[aq];have e2:((L.take i).flatten++List.replicate (L.flatten.length-(L.take i).flatten.length) (0:Int)).take (0+(L.take i).flatten.length)++x++((L.take i).flatten++List.replicate (L.flatten.length-(L.take i).flatten.length) (0:Int)).drop (0+(L.take i).flatten.length+x.length)=(L.take (i+1)).flatten++List.replicate (L.flatten.length-(L.take (i+1)).flatten.length) (0:Int):=by
    rw[zd2,List.take_left,List.drop_append,zeI (by omega),zed,List.drop_replicate,hf,zdm]
    congr 2
    omega
   simp only[bC,↓xo,xw,ot (show(i:Int)<(L.length:Int) by omega),ot (show(0:Int)<=(i:Int) by omega),zde,zdf,hx,zdc,
    ot (show 0+(L.take i).flatten.length+x.length<=((L.take i).flatten++List.replicate (L.flatten.length-(L.take i).flatten.length) (0:Int)).length by rw[zdm,zd6];omega),e2,lx nA hn]
   have:=ih (i+1) (by omega)
   rw[hf,zdm] at this⊢;exact this
 have:=key L.length 0 (by omega)
 simpa using this
theorem J1 (L:List (List Int))(hf:L.flatten=[])(hn:L.length<=1000000):ag (bx WX) (((),L,(L.length:Int),0,()),(([]:List Int),()))=some (((),()),([],())):=by
 have key: ∀m i:Nat,i+m=L.length->ag (bx WX) (((),L,(L.length:Int),(i:Int),()),(([]:List Int),()))=some (((),()),([],())):=by
  intro m;induction m with
  |zero=>
   intro i hi;rw[aq];have:i=L.length:=by omega
   subst this;simp only[bx,↓xo,bc (show¬(L.length:Int)<(L.length:Int) by omega),zdd]
  |succ m ih=>
   intro i hi;have nA:i<L.length:=by omega
   have hx:=zdi nA;have hm:=zeq nA;have h0:L[i]=[]:=List.flatten_eq_nil_iff.1 hf _ hm;rw[h0] at hx;rw[aq];simp only[bx,↓xo,xw,ot (show(i:Int)<(L.length:Int) by omega),ot (show(0:Int)<=(i:Int) by omega),zde,zdf,hx,zdc,zeE,zdo,lx nA hn,
    ot (show(((0+0:Nat):Int))*((1:Nat):Int)<=((room:Nat):Int) by unfold room;omega)]
   exact ih (i+1) (by omega)
 exact key L.length 0 (by omega)
theorem concat_nil (L:List (List Int))(hf:L.flatten=[])(hn:L.length<=1000000):aw WX ((L,()),())=some (.inr (((),()),([],()))):=by
 have h3:=GM L (by rw[hf];simp) hn
 have hb:=J1 L hf hn;rw[hf] at h3;change _=some ((L,0,()),()) at h3;have hg:eZ WX (((),0,()),())=some (.inr (((),()),[],())):=by kernel_rfl
 simp only[aw,xl,h3,zdc,hg,hb]
theorem vE (L:List (List Int))(hf:L.flatten≠ [])(h:L.flatten.length<=1000000000000)(hn:L.length<=1000000):aw WX ((L,()),())=some (.inl ((L.flatten.length,()),(L.flatten,()))):=by
 have h3:=GM L h hn;have hb:=Mp L hn;have hp:0<L.flatten.length:=List.length_pos_iff.2 hf;generalize hN:L.flatten.length=n at*;have e0:IntKind.wrap .i64 ((n:Int)-IntKind.wrap .i64 (0-0))=(n:Int):=by
  rw[nQ (n:=0-0) (by omega) (by omega),nQ (by omega) (by omega)];omega
 simp only[aw,xl,h3,zdc,eZ,↓xo,xw,e0,bc (show¬(n:Int)<0 by omega),zdd,ot (show(n:Int)>0 by omega),zde,zdo,zeL,zed,zd6,zdf,and_self,iD]
 have e1:af ((0:Int)=0/\(0:Int)=0)=true:=ot (by decide)
 have e2:af ((0:Int)<=(n:Int)/\(0+(n:Int))*((1:Nat):Int)<=((room:Nat):Int))=true:=ot (by unfold room;omega)
 have e3:af ((0:Int)<=0/\(0:Int)<=0/\(0:Int)<=(n:Int))=true:=ot (by omega)
 have e4:((0:Int)-(0:Int)).toNat=0:=rfl;simp only[e1,e2,e3,zde,zdc,e4,hb]
theorem FZ (L:List (List Int))(h:L.flatten.length<=1000000000000)(hn:L.length<=1000000):aw WX ((L,()),())=some (.inr (((),()),([],())))/\L.flatten=[]\/aw WX ((L,()),())=some (.inl ((L.flatten.length,()),(L.flatten,()))):=by
 by_cases hf:L.flatten=[]
 ·exact .inl ⟨concat_nil L hf hn,hf⟩
 ·exact .inr (vE L hf h hn)
theorem vF (b:List Int)(h:b.length<=1000000000000):bd WX ((b,()),())=some (((),()),(b,())):=by
 have hr:af ((((([]:List Int).length+b.length:Nat):Int))*((1:Nat):Int)<=((room:Nat):Int))=true:=ot (by unfold room;simp only[zdo];omega)
 by_cases h0:b=[]
 ·subst h0
  show some (((),()),([],()))=_
  rfl
 ·have: ¬(b.length:Int)=0:=λe=>h0 (zdM (by omega))
  simp only[bd,↓xo,bc this,zdd,hr,zde,zed]
def Ce:Option (((List Int)×Unit)×Unit)->Bool|some ((l,_),_)=>Nat.beq l.length 32|none=>false
theorem mC (xs:List Int){n:Nat}(h:xs.length=n): ∃f:Nat->Int,xs=(List.range n).map f:=by
 refine⟨λi=>xs.getD i 0,?_⟩;apply List.ext_getElem?;intro i;by_cases hi:i<n
 ·have hx:i<xs.length:=by omega
  simp[hi,zdi hx]
 ·rw[List.getElem?_eq_none (by omega),List.getElem?_eq_none (by simp;omega)]
theorem Ex {r:Option (((List Int)×Unit)×Unit)}(h:Ce r=true): ∃ys:List Int,r=some ((ys,()),())/\ys.length=32:=by
 match r with
 |none=>cases h
 |some ((l,()),())=>exact⟨l,rfl,zeM h⟩
def uT (t:Int):mP:=(1,0,t,0,0,0,0,0,0,0,0,0,0,0,gN,())
def rU (tag:List Int):mP:=(2,0,0,0,0,0,0,0,0,0,0,0,0,0,tag,())
theorem It:((gP WX ((uT 2,()),())).bind λr1=>gi WX (r1.2,()))=some (((),()),([0,2,1,2],())):=by kernel_rfl
theorem Iu:((gP WX ((uT 4,()),())).bind λr1=>gi WX (r1.2,()))=some (((),()),([0,2,1,4],())):=by kernel_rfl
theorem J2:cf WX (((),[0,2,1,2],()),(([],false,()),()))=some (.inr (([[1,2]],()),(([],false,()),()))):=by kernel_rfl
theorem J3:cf WX (((),[0,2,1,4],()),(([],false,()),()))=some (.inr (([[1,4]],()),(([],false,()),()))):=by kernel_rfl
theorem Mq:fe WX (([1,2],()),())=some ((uT 2,true,()),()):=by kernel_rfl
theorem Mr:fe WX (([1,4],()),())=some ((uT 4,true,()),()):=by kernel_rfl
theorem Ms: ∀f:Nat->Int,((gP WX ((rU ((List.range 32).map f),()),())).bind λr1=>gi WX (r1.2,()))=some (((),()),([0,33,2]++(List.range 32).map f,())):=λf=>by kernel_rfl
theorem P1: ∀f:Nat->Int,cf WX (((),[0,33,2]++(List.range 32).map f,()),(([],false,()),()))=some (.inr (([[2]++(List.range 32).map f],()),(([],false,()),()))):=λf=>by kernel_rfl
theorem SA: ∀f:Nat->Int,fe WX (([2]++(List.range 32).map f,()),())=some ((rU ((List.range 32).map f),true,()),()):=λf=>by kernel_rfl
theorem Mt:(((List.replicate 32 (0:Int)).zip (List.replicate 32 (0:Int))).all λp=>WX.yS (.int .u8) p.1 p.2)=true:=by kernel_rfl
theorem qk (a:Int):WX.aj a a=true:=decide_eq_true rfl
section
variable {v:V}
structure Tr (v:V)(n:Nat)(x:oS):Prop where
 lt:n<32
 tr:v.tr[n]?=some x
 Xs:x.2.2.1≠0
theorem qK {n:Nat}(h:n<32):0<=(n:Int)/\(n:Int)<(32:Nat):=by omega
theorem Ey {n:Nat}{x:oS}(h:Tr v n x):bJ WX (((),(n:Int),()),((v.tr,()),()))=some ((true,()),((v.tr,()),())):=by
 have hl:=h.lt;simp only[bJ,ib,↓xo,ot (show(n:Int)>=0 by omega),ot (show(n:Int)<=31 by omega),ot (qK hl),zde,zdc,zdf,h.tr,bc h.Xs,zdh]
theorem Bt {n:Nat}{x:oS}(h:Tr v n x):bF WX (((),(n:Int),()),((v.tr,()),()))=some ((x,()),((v.tr,()),())):=by
 simp only[bF,Ey h,zdc,zdg,zdd,↓xo,ot (qK h.lt),zde,zdf,h.tr]
structure Lk (v:V)(n p:Nat)(k:vL):Prop where
 lt:n<32
 lp:v.lp[n]?=some (p+1)
 L:v.L[p]?=some (k,())
def oD (k:vL)(now:Int):Bool:=decide (k.2.2.1>=k.1/\now<k.2.2.2.1)
theorem qA (k:vL)(now:Int):fx WX (((),now,()),(k,()))=some ((oD k now,()),(k,())):=by
 unfold oD;by_cases h:k.2.2.1>=k.1
 ·by_cases h2:now<k.2.2.2.1
  ·simp only[fx,↓xo,ot h,zde,ot h2]
   rw[decide_eq_true ⟨h,h2⟩]
  ·simp only[fx,↓xo,ot h,zde,bc h2]
   rw[decide_eq_false (λq=>h2 q.2)]
 ·simp only[fx,↓xo,bc h,zdd]
  rw[decide_eq_false (λq=>h q.1)]
theorem GN {n p:Nat}{k:vL}(h:Lk v n p k):du WX (((),(n:Int),()),v.s)=some ((oD k v.now,()),v.s):=by
 have hl:=h.lt;simp only[du,kC,V.s,↓xo,ot (show(n:Int)>=0 by omega),ot (show(n:Int)<32 by omega),ot (qK hl),zde,zdc,zdf,h.lp,al,h.L,qA,aI h.L]
def failed (k:vL)(now:Int):vL:=if oD k now then k else
 let w:=if k.2.2.1>=k.1 then 1 else i64.wrap (k.2.2.1+1)
 (k.1,k.2.1,w,(if w=k.1 then i64.wrap (now+k.2.1) else k.2.2.2.1),())
theorem P2 (k:vL)(now:Int):fy WX (((),now,()),(k,()))=some ((),(failed k now,())):=by
 obtain⟨t,l,w,u,_⟩:=k;have e1:i64.wrap (0+1)=1:=by rw[nQ (by omega) (by omega)];rfl
 unfold failed;cases hk:oD (t,l,w,u,()) now with
 |true=>simp only[fy,qA,hk,zdc,zde,if_true]
 |false=>
  by_cases h:w>=t
  ·by_cases h2:(1:Int)=t
   ·simp only[fy,qA,hk,zdc,zdd,↓xo,xw,ot h,zde,e1,ot h2,zdk,if_false,if_pos h,if_pos h2]
   ·simp only[fy,qA,hk,zdc,zdd,↓xo,xw,ot h,zde,e1,bc h2,zdk,if_false,if_pos h,if_neg h2]
  ·by_cases h2:i64.wrap (w+1)=t
   ·simp only[fy,qA,hk,zdc,zdd,↓xo,xw,bc h,zde,ot h2,zdk,if_false,if_neg h,if_pos h2]
   ·simp only[fy,qA,hk,zdc,zdd,↓xo,xw,bc h,bc h2,zdk,if_false,if_neg h,if_neg h2]
theorem VJ {n:Nat}{x:oS}(h:Tr v n x)(k:Int)(hk:k=3\/k=4\/k=5):dE WX (((),(k,0,(n:Int),C0,()),()),v.s)=some ((true,()),v.s):=by
 have e1: ¬k=1:=by omega
 have e2: ¬k=2:=by omega
 simp only[dE,V.s,↓xo,bc e1,zdd,eq_self,iD,zdg,Ey h,zdc,bc e2,ot (show k>=1 by omega),ot (show k<=5 by omega),zde,qk,Mt,zez]
theorem P3 (n:Int)(h1:1<=n)(h2:n<=1099511627776-v.now)(h3:0<=v.now)(h4:v.now<=1099511627776):dE WX (((),(1,n,0,C0,()),()),v.s)=some ((true,()),v.s):=by
 have e:i64.wrap (1099511627776-v.now)=1099511627776-v.now:=nQ (by omega) (by omega)
 simp only[dE,V.s,↓xo,xw,eq_self,iD,zde,ot (show n>=1 by omega),e,ot h2,qk,Mt,zez]
theorem SC {n p:Nat}{x:oS}{k:vL}(h:Tr v n x)(hk:Lk v n p k)(hn:oD k v.now=false):ck WX (((),(4,0,(n:Int),C0,()),()),v.s)=some (.inl (((),0,()),(v.cfg,v.now,(),v.ph,v.mp,(),v.bp,v.lp,()),(v.tr,()),(v.op,v.ps,()),[],v.M,v.L.set p ((k.1,k.2.1,0,0,()),()),v.B,())):=by
 have hf:=VJ h 4 (.inr (.inl rfl));have hl:=GN hk;have e1: ¬(4:Int)=1:=by omega
 have e2: ¬(4:Int)=3:=by omega
 simp only[ck,hf,zdc,zdg,zdd,↓xo,bc e1,bc e2,eq_self,iD,zde,hl,hn,ot (qK h.lt)];simp only[V.s,zdf,hk.lp,zdc,al,hk.L,gz]
theorem VK (n:Int)(h1:1<=n)(h2:n<=1099511627776-v.now)(h3:0<=v.now)(h4:v.now<=1099511627776):ck WX (((),(1,n,0,C0,()),()),v.s)=some (.inl (((),0,()),(v.cfg,v.now+n,(),v.ph,v.mp,(),v.bp,v.lp,()),(v.tr,()),(v.op,v.ps,()),[],v.M,v.L,v.B,())):=by
 have hf:=P3 n h1 h2 h3 h4;have e:i64.wrap (v.now+n)=v.now+n:=nQ (by omega) (by omega)
 simp only[ck,hf,zdc,zdg,zdd,↓xo,xw,eq_self,iD,zde];simp only[V.s,e]
end
theorem N4 {k n:Int}(hk:k=3\/k=4\/k=5)(h0:0<=n)(h1:n<32):gA WX (((k,0,n,C0,()),()),())=some ((true,()),()):=by
 have e1: ¬k=1:=by omega
 have e2: ¬k=2:=by omega
 rcases hk with rfl|rfl|rfl
 ·simp only[gA,↓xo,ot (show n>=0 by omega),bc e1,bc e2,eq_self,iD,ot h1,zde,zdd,qk,Mt,zez]
 ·have e3: ¬(4:Int)=3:=by omega
  simp only[gA,↓xo,ot (show n>=0 by omega),bc e1,bc e2,bc e3,eq_self,iD,ot h1,zde,zdd,qk,Mt,zez]
 ·have e3: ¬(5:Int)=3:=by omega
  have e4: ¬(5:Int)=4:=by omega
  simp only[gA,↓xo,ot (show n>=0 by omega),bc e1,bc e2,bc e3,bc e4,eq_self,iD,ot h1,zde,zdd,qk,Mt,zez]
theorem VL {n:Int}(h0:1<=n)(h1:n<=1099511627776):gA WX (((1,n,0,C0,()),()),())=some ((true,()),()):=by
 have e0:((0:Int)>=0):=by omega
 simp only[gA,↓xo,ot e0,ot (show n>0 by omega),ot h1,eq_self,iD,zde,qk,Mt,zez]
theorem VM (k N n:Int): ∃bs:List Int,hU WX (((k,N,n,C0,()),()),())=some (((),()),(bs,()))/\bs.length=10:=by
 have h:(match hU WX (((k,N,n,C0,()),()),()) with|some (_,(bs,_))=>Nat.beq bs.length 10|none=>false)=true:=by kernel_rfl
 revert h;match hU WX (((k,N,n,C0,()),()),()) with
 |none=>intro h;cases h
 |some (((),()),(bs,()))=>intro h;exact⟨bs,rfl,zeM h⟩
theorem zbz: ∀f g:Nat->Int,Ce (jq WX (((List.range 32).map f,(List.range 10).map g,()),()))=true:=λf g=>by kernel_rfl
theorem VN {a b:List Int}(ha:a.length=32)(hb:b.length=10): ∃c:List Int,jq WX ((a,b,()),())=some ((c,()),())/\c.length=32:=by
 obtain⟨f,rfl⟩:=mC a ha;obtain⟨g,rfl⟩:=mC b hb;exact Ex (zbz f g)
theorem Zp: ∃u:List Int,lv WX (([],WX.wr .u32 10,()),())=some (((),()),(u,()))/\u.length=4:=by
 have h:(match lv WX (([],WX.wr .u32 10,()),()) with|some (_,(bs,_))=>Nat.beq bs.length 4|none=>false)=true:=by kernel_rfl
 revert h;match lv WX (([],WX.wr .u32 10,()),()) with
 |none=>intro h;cases h
 |some (((),()),(bs,()))=>intro h;exact⟨bs,rfl,zeM h⟩
def yQ (lg:GJ)(n:Nat):Prop:=lg.1.length=n/\lg.2.1.length=32
theorem Iv {lg:GJ}{m:Nat}{k N n:Int}(h:yQ lg m)(hm:m<=100000000000)(hr:gA WX (((k,N,n,C0,()),()),())=some ((true,()),())):
  ∃wK,gh WX (((),(k,N,n,C0,()),()),(lg,()))=some ((true,()),(wK,()))/\yQ wK (m+46):=by
 obtain⟨b,c,ct,u⟩:=lg;obtain⟨hb,hc⟩:=h;simp only at hb hc;obtain⟨bs,h1,h2⟩:=VM k N n;obtain⟨c',h3,h4⟩:=VN hc h2;obtain⟨w,h5,h6⟩:=Zp;have e0:(0:Int)<=0/\(0:Int)<=((32:Nat):Int)/\((32:Nat):Int)<=(32:Nat):=by omega
 have e1:((bs.length:Nat):Int)=10:=by omega
 have e2:(c'.drop 0).take ((((32:Nat):Int)-(0:Int)).toNat)=c':=by
  rw[zeN,zdN];rw[h4];decide
 have hf: [b,w,bs,c'].flatten.length=b.length+46:=by simp;omega
 have hc:=vE [b,w,bs,c'] (λe=>by rw[e] at hf;simp at hf) (by omega) (by simp)
 simp only[gh,hr,zdc,zdg,zdd,h1,h3,e1,h5,↓xo,ot e0,zde,e2,hc,zeu];exact⟨_,rfl,by rw[hf];omega,h4⟩
theorem tC {mt:List U5}(h:mt.length=4){i:Nat}(hi:i<4): ∃rl r,aR WX (((),(i:Int),1,()),((mt,()),()))=some ((r,()),((rl,()),()))/\rl.length=4:=by
 have hx:=zdi (l:=mt) (i:=i) (by omega)
 have e1: ¬(1:Int)<0:=by omega
 have e2: ¬(1:Int)>4294967296:=by omega
 simp only[aR,↓xo,bc (show¬(i:Int)<0 by omega),bc (show¬(i:Int)>=4 by omega),bc e1,bc e2,zdd,ot (show 0<=(i:Int)/\(i:Int)<(4:Nat) by omega),zde,zdf,hx,zdc]
 exact⟨_,_,rfl,by rw[zdQ];exact h⟩
def NB (n:ma)(bs:List Int):Prop:=(∃x,mI WX ((n,()),())=some (.inl x)/\gi WX (x.2,())=some (((),()),(bs,())))\/(∃x,mI WX ((n,()),())=some (.inr x)/\gi WX x=some (((),()),(bs,())))
noncomputable def nbF (n:ma):Option (List Int):=(mI WX ((n,()),())).bind λr=>match r with| .inl x=>(gi WX (x.2,())).map (·.2.1)| .inr x=>(gi WX x).map (·.2.1)
theorem Cf {n:ma}{k:Nat}(h:((nbF n).map λl=>Nat.beq l.length k)=some true): ∃bs,NB n bs/\bs.length=k:=by
 unfold nbF at h;cases e:mI WX ((n,()),()) with
 |none=>rw[e] at h;cases h
 |some r=>
  rw[e] at h;cases r with
  |inl x=>
   simp only[zdc] at h;cases e2:gi WX (x.2,()) with
   |none=>rw[e2] at h;cases h
   |some y=>
    rw[e2] at h;obtain⟨⟨⟨⟩,⟨⟩⟩,bs,⟨⟩⟩:=y;simp only[zds,zdj] at h;exact⟨bs, .inl ⟨x,e,e2⟩,zeM h⟩
  |inr x=>
   simp only[zdc] at h;cases e2:gi WX x with
   |none=>rw[e2] at h;cases h
   |some y=>
    rw[e2] at h;obtain⟨⟨⟨⟩,⟨⟩⟩,bs,⟨⟩⟩:=y;simp only[zds,zdj] at h;exact⟨bs, .inr ⟨x,e,e2⟩,zeM h⟩
theorem Ax {nc:List Int}(h:nc.length=32): ∃bs,NB (1,0,0,0,0,0,0,0,0,0,nc,()) bs/\bs.length=35:=by
 obtain⟨f,rfl⟩:=mC nc h;have: ∀f:Nat->Int,((nbF (1,0,0,0,0,0,0,0,0,0,(List.range 32).map f,())).map λl=>Nat.beq l.length 35)=some true:=λf=>by kernel_rfl
 exact Cf (this f)
theorem P4 (er sq:Int): ∃bs,NB (4,er,sq,0,0,0,0,0,0,0,gN,()) bs/\bs.length=8:=Cf (by kernel_rfl)
theorem Ez: ∃bs,NB (2,0,0,0,0,0,0,0,0,0,gN,()) bs/\bs.length=3:=Cf (by kernel_rfl)
theorem Zq (sq:Int): ∃bs,NB (3,0,sq,0,0,0,0,0,0,0,gN,()) bs/\bs.length=7:=Cf (by kernel_rfl)
section
variable {v:V}{i f o:Nat}{s:wS}{fr:(List Int)×Bool×Unit}{ob:List Int}
theorem VO {bs:List Int}(hp:bs≠ [])(h:ob.length+bs.length<=4096):gE WX (((),bs,()),((ob,false,()),()))=some ((true,()),((ob++bs,false,()),())):=by
 have e:i64.wrap (4096-(ob.length:Int))=4096-(ob.length:Int):=nQ (by omega) (by omega)
 have vl: [ob,bs].flatten=ob++bs:=by simp
 have hc:=vE [ob,bs] (by rw[vl];simp[hp]) (by rw[vl,zdm];omega) (by simp)
 simp only[gE,zdd,↓xo,xw,e,bc (show¬(bs.length:Int)>4096-(ob.length:Int) by omega),hc,zdc,vl,zeu]
theorem SD (h:nb v i f o s fr (ob,false,())){n:ma}{bs:List Int}(hb:NB n bs)(hp:bs≠ [])(hl:ob.length+bs.length<=4096):
  bY WX (((),(i:Int),n,()),v.e)=some ((),{v with O:=v.O.set o ((ob++bs,false,()),())}.e):=by
 have hpu:=VO hp hl;rcases hb with⟨x,h1,h2⟩|⟨x,h1,h2⟩
 ·simp only[bY,V.e,↓xo,ot (lh h.lt),zde,zdf,h.c,zdc,h1,h2,al,h.O,hpu]
 ·simp only[bY,V.e,↓xo,ot (lh h.lt),zde,zdf,h.c,zdc,h1,h2,al,h.O,hpu]
end
section
variable {v:V}
theorem SE {r:Ii}{er Zr:Int}{L':List ti}{wK:GJ}{rl:List U5}{b c}
  (h1:ck WX (((),r,()),v.s)=some (.inl (((),er,()),(v.cfg,Zr,(),v.ph,v.mp,(),v.bp,v.lp,()),(v.tr,()),(v.op,v.ps,()),[],v.M,L',v.B,())))
  (h2:gh WX (((),r,()),(v.lg,()))=some (b,(wK,()))) (h3:aR WX (((),1,1,()),((v.mt,()),()))=some (c,((rl,()),()))):
  bR WX (((),r,()),v.e)=some ((er,()),{v with now:=Zr,L:=L',lg:=wK,mt:=rl}.e):=by
 have hl: ∀X,ag (bS WX) (((),er,[],0,0,()),X)=some ((er,()),X):=λX=>by
  have e0: ¬(0:Int)<0:=by omega
  rw[aq];simp only[bS,↓xo,bc e0,zdd]
 simp only[V.s] at h1;simp only[bR,V.e,h1,h2,h3,zdc,↓xl,zdo,zeL,hl]
def SF (v:V)(n:Nat)(x:oS):Prop:= ∀i,i<16->∃f o s fr ou,nb v i f o s fr ou/\(s.1=3->∃(m:Nat) (y:oS),s.2.1=(m:Int)/\m≠n/\Tr v m y/\y.1≠x.1)
theorem Zs {n p:Nat}{x:oS}{k:vL}(h:Tr v n x)(hk:Lk v n p k)(hl:oD k v.now=false)(nv:x.2.2.2.2.1=false)(ha:SF v n x)(hq:1<=v.cfg.2.2.2.2.2.2.2.1):eK WX (((),(n:Int),()),v.e)=some ((0,()),v.e):=by
 have h1:=Ey h;have h2:=GN hk;have h3:=Bt h;simp only[V.s] at h2;have key: ∀m i:Nat,i+m=16->ag (bz WX) (((),(n:Int),(),0,v.c,(i:Int),()),v.e)=some (.inr (((),0,()),v.e)):=by
  intro m;induction m with
  |zero=>
   intro i hi;rw[aq];simp only[bz,↓xo,bc (show¬(i:Int)<16 by omega),zdd]
  |succ m ih=>
   intro i hi;obtain⟨f,o,s,fr,ou,hc,hf⟩:=ha i (by omega)
   rw[aq];have e1:i64.wrap ((i:Int)+1)=((i+1:Nat):Int):=by rw[nQ (by omega) (by omega)];omega
   have qI:=ih (i+1) (by omega)
   simp only[V.e] at qI;by_cases h0:s.1=3
   ·obtain⟨m',y,g1,g2,g3,g4⟩:=hf h0
    have e2: ¬s.1=2:=by omega
    have e3: ¬(m':Int)=(n:Int):=by omega
    have h4:=Bt g3;simp only[bz,V.e,↓xo,xw,ot (show(i:Int)<16 by omega),ot (lh hc.lt),zde,zdc,zdf,hc.c,al,hc.S,ai,ot h0,zdg,zdd,aI hc.S,e1,ay,bc e2,g1,bc e3,h3,h4,bc g4,qI]
   ·simp only[bz,V.e,↓xo,xw,ot (show(i:Int)<16 by omega),ot (lh hc.lt),zde,zdc,zdf,hc.c,al,hc.S,ai,bc h0,zdh,aI hc.S,e1,qI]
 have J4:=key 16 0 (by omega)
 simp only[V.e] at J4;change ag (bz WX) (((),(n:Int),(),0,v.c,0,()),_)=_ at J4;simp only[eK,V.e,cW,zdc,h1,zdg,zdd,h2,hl,h3,nv,↓xl,J4,dP,↓xo,bc (show¬(0:Int)>=v.cfg.2.2.2.2.2.2.2.1 by omega)]
variable {i f o:Nat}{s:wS}{fr:(List Int)×Bool×Unit}{ou:(List Int)×Bool×Unit}{ob:List Int}
def s0:wS:=(0,0,gN,0,0,())
theorem Zt (h:nb v i f o s fr ou)(hm:v.mt.length=4):
  ∃rl,bG WX (((),(i:Int),()),v.e)=some ((),{v with c:=v.c.set i (i+1,v.F.length+1,o+1,()),mt:=rl,S:=v.S.set i (s0,()),F:=v.F++ [(([],false,()),())]}.e)/\rl.length=4:=by
 obtain⟨rl,r,h3,h4⟩:=tC hm (i:=3) (by omega)
 change aR WX (((),3,1,()),_)=_ at h3;refine⟨rl,?_,h4⟩;simp only[bG,V.e,↓xo,ot (lh h.lt),zde,zdf,h.c,zdc,al,h.S,cD,gW,h3,s0]
end
def SG (key rn tag:List Int):Prop:= ∃r1 r2,na WX ((key,()),())=some r1/\dR WX (((),rn,()),r1.2)=some r2/\r2.1=(tag,())
noncomputable def zbA (key rn:List Int):Option Bool:=(na WX ((key,()),())).bind λr1=>(dR WX (((),rn,()),r1.2)).map λr2=>Nat.beq r2.1.1.length 32
theorem zcF: ∀f g:Nat->Int,zbA ((List.range 32).map f) ((List.range 32).map g)=some true:=λf g=>by kernel_rfl
theorem Mu {key rn:List Int}(hk:key.length=32)(hn:rn.length=32): ∃tag,SG key rn tag/\tag.length=32:=by
 obtain⟨f,rfl⟩:=mC key hk;obtain⟨g,rfl⟩:=mC rn hn;have h:=zcF f g;unfold zbA at h;cases e1:na WX (((List.range 32).map f,()),()) with
 |none=>rw[e1] at h;cases h
 |some r1=>
  rw[e1,zdc] at h;cases e2:dR WX (((),(List.range 32).map g,()),r1.2) with
  |none=>rw[e2] at h;cases h
  |some r2=>
   rw[e2,zds,zdj] at h;exact⟨r2.1.1,⟨r1,r2,e1,e2,rfl⟩,zeM h⟩
def bv (x:Int):BitVec 8:=BitVec.ofInt 8 x
theorem wu8 (p:BitVec 8):IntKind.wrap .u8 (p.toNat:Int)=(p.toNat:Int):=by
 have:=p.isLt;rw[IntKind.wrap_u8];omega
theorem Mv (p:BitVec 8):bv (p.toNat:Int)=p:=by
 unfold bv;apply BitVec.eq_of_toNat_eq;have:=p.isLt;rw[BitVec.toNat_ofInt];omega
theorem SH (x y:Int):WX.pt .u8 x y=(((bv x^^^bv y).toNat:Nat):Int):=wu8 _
theorem zbB (p q:BitVec 8):WX.AL .u8 (p.toNat:Int) (q.toNat:Int)=(((p|||q).toNat:Nat):Int):=by
 show IntKind.wrap .u8 ((((bv (p.toNat:Int))|||(bv (q.toNat:Int))).toNat:Nat):Int)=_
 rw[Mv,Mv,wu8]
theorem zo (a b:List Int)(ha:a.length=32)(hb:b.length=32): ∀n i:Nat,i+n=32->∀acc:BitVec 8,∃CQ:BitVec 8,ag (gQ WX) (((),(),(acc.toNat:Int),(i:Int),()),a,b,())=some ((((CQ.toNat:Nat):Int),()),a,b,())/\(acc≠0#8->CQ≠0#8)/\
  (acc=0#8->(∀j,i<=j->a[j]?=b[j]?)->CQ=0#8)/\(∀x y,i<32->a[i]?=some x->b[i]?=some y->bv x^^^bv y≠0#8->CQ≠0#8):=by
 intro n;induction n with
 |zero=>
  intro i hi acc;refine⟨acc,?_,λh=>h,λh _=>h,λx y h=>by omega⟩
  rw[aq];simp only[gQ,↓xo,bc (show¬(i:Int)<32 by omega),zdd]
 |succ n ih=>
  intro i hi acc;have hx:=zdi (l:=a) (i:=i) (by omega)
  have hy:=zdi (l:=b) (i:=i) (by omega)
  generalize a[i]=x at hx;generalize b[i]=y at hy;obtain⟨CQ,h1,h2,h3,h4⟩:=ih (i+1) (by omega) (acc|||(bv x^^^bv y))
  have e1:i64.wrap ((i:Int)+1)=((i+1:Nat):Int):=by rw[nQ (by omega) (by omega)];omega
  refine⟨CQ,?_,λh=>h2 λe=>h (BitVec.or_eq_zero_iff.1 e).1,λh hj=>?_,λx' y' _ BP Z8 lR=>?_⟩
  ·rw[aq]
   simp only[gQ,↓xo,xw,ot (show(i:Int)<32 by omega),ot (qK (show i<32 by omega)),zde,zdf,hx,hy,zdc,SH,zbB,e1]
   exact h1
  ·have:x=y:=by have:=hj i (zdz _);rw[hx,hy] at this;simpa using this
   subst this;rw[h,BitVec.xor_self] at h3;exact h3 (by rfl) λj BR=>hj j (by omega)
  ·rw[hx] at BP;rw[hy] at Z8
   cases BP;cases Z8;exact h2 λe=>lR (BitVec.or_eq_zero_iff.1 e).2
theorem Mw {t:List Int}(h:t.length=32):jT WX ((t,t,()),())=some ((true,()),()):=by
 obtain⟨CQ,h1,_,h3,_⟩:=zo t t h h 32 0 (by omega) 0#8
 have:=h3 rfl λ_ _=>rfl;subst this;change ag (gQ WX) (((),(),0,0,()),t,t,())=some ((0,()),t,t,()) at h1;simp only[jT,↓xl,h1,zdc,↓xo,eq_self,iD]
theorem Mx {t:List Int}{x:Int}(h:t.length=32)(hx:t[0]?=some x):jT WX ((t.set 0 (WX.pt .u8 x 1),t,()),())=some ((false,()),()):=by
 obtain⟨CQ,h1,_,_,h4⟩:=zo (t.set 0 (WX.pt .u8 x 1)) t (by rw[zdQ];exact h) h 32 0 (by omega) 0#8
 have:=h4 (WX.pt .u8 x 1) x (by omega) (by rw[zeJ];simp[h]) hx (by
  rw[SH,Mv];have:bv 1=1#8:=by decide
  rw[this,BitVec.xor_comm (bv x) 1#8,BitVec.xor_assoc,BitVec.xor_self,BitVec.xor_zero];decide)
 change ag (gQ WX) (((),(),0,0,()),_,_,())=_ at h1;have lR: ¬(((CQ.toNat:Nat):Int))=0:=λe=>this (BitVec.eq_of_toNat_eq (by
  have:CQ.toNat=0:=by omega
  rw[this];rfl))
 simp only[jT,↓xl,h1,zdc,↓xo,bc lR]
theorem po {l:List Int}(h:l.length=32):(l.drop 0).take ((((32:Nat):Int)-(0:Int)).toNat)=l:=by
 rw[zeN,zdN];rw[h];decide
theorem SJ {key rn tag F1:List Int}{b:Bool}(hk:key.length=32)(hn:rn.length=32)(hm:SG key rn tag)(he:jT WX ((F1,tag,()),())=some ((b,()),()))(tr nx sn now:Int):
  dZ WX (((),key,F1,now,()),((2,tr,rn,nx,sn,()),()))=some ((b,()),((if b then(3,tr,gN,1,now,()) else s0),())):=by
 obtain⟨r1,r2,h1,h2,h3⟩:=hm;have e0:(0:Int)<=0/\(0:Int)<=((32:Nat):Int)/\((32:Nat):Int)<=(32:Nat):=by omega
 cases b with
 |true=>simp only[dZ,↓xo,eq_self,iD,zdg,zdd,ot e0,zde,po hk,po hn,h1,h2,h3,he,zdc,if_true]
 |false=>simp only[dZ,↓xo,eq_self,iD,zdg,zdh,zdd,ot e0,zde,po hk,po hn,h1,h2,h3,he,zdc,cD,zdk,if_false,s0]
section
variable {v:V}{i f o:Nat}{s:wS}{fr ou:(List Int)×Bool×Unit}
theorem GO (h:nb v i f o s fr ou)(hs:s.1≠0){bs x:List Int}{wm:(List Int)×Bool×Unit}(hf:cf WX (((),bs,()),(fr,()))=some (.inr (([x],()),(wm,()))))(hm:v.mt.length=4)
  {Q:V->Prop} (hb: ∀rl,rl.length=4->∃v2,cX WX (((),(i:Int),x,()),{v with F:=v.F.set f (wm,()),mt:=rl}.e)=some ((),v2.e)/\Fit v2/\(∃f2 o2 s2 Uo VP,nb v2 i f2 o2 s2 Uo VP/\Uo.2.1=false)/\Q v2):
  ∃v2,cN WX (((),(i:Int),bs,()),v.e)=some ((),v2.e)/\Q v2:=by
 obtain⟨rl,r,h3,h4⟩:=tC hm (i:=0) (by omega)
 change aR WX (((),0,1,()),_)=_ at h3;obtain⟨v2,b1,b2,⟨f2,o2,s2,Uo,VP,b3,b4⟩,b5⟩:=hb rl h4;refine⟨v2,?_,b5⟩;have Iw:nb {v with F:=v.F.set f (wm,())} i f o s wm ou:=⟨h.lt,h.c,h.S,by
  have:=(List.getElem?_eq_some_iff.1 h.F).1;show(v.F.set f (wm,()))[f]?=_
  rw[zeJ];simp[this],h.O⟩
 have hA:=PZ Iw;have hS:=P0 b2;have e0:(0:Int)<1:=by omega
 have e1:(0:Int)<=0:=by omega
 have e2:i64.wrap (0+1)=1:=by rw[nQ (by omega) (by omega)];rfl
 have e3: ¬(1:Int)<1:=by omega
 have e4:([x]:List (List Int))[(0:Int).toNat]?=some x:=rfl;simp only[V.e] at hA b1 hS h3;have hl:ag (bL WX) (((),(i:Int),[x],1,0,()),{v with F:=v.F.set f (wm,())}.e)=some (((),(i:Int),()),v2.e):=by
  rw[aq];simp only[bL,V.e,↓xo,xw,ot e0,ot e1,zde,e4,zdc,hA,bc hs,zdd,h3,b1,hS,e2];rw[aq];simp only[bL,↓xo,bc e3,zdd]
 simp only[V.e] at hl;simp only[cN,V.e,↓xo,ot (lh h.lt),zde,zdf,h.c,zdc,al,h.F,hf,zdn,zdo,zd2,Int.natCast_one,↓xl,hl,b3.c,b3.F,eB,b4,zdd,aI b3.F]
theorem J5 (h:nb v i f o s fr ou)(hs:s.1≠0){bs:List Int}{Q:V->Prop}(hb: ∃v2,cN WX (((),(i:Int),bs,()),v.e)=some ((),v2.e)/\Q v2):
  ∃v2,aD WX (((),(2,(i:Int),0,gN,bs,()),()),v.e)=some ((true,()),v2.e)/\Q v2:=by
 obtain⟨v2,b1,b2⟩:=hb;refine⟨v2,?_,b2⟩;have hl:=h.lt;have e1: ¬(2:Int)=4:=by omega
 have e2: ¬(2:Int)=1:=by omega
 simp only[V.e] at b1;simp only[aD,fg,V.e,↓xo,bc e1,bc e2,zdd,ot (show(i:Int)>=0 by omega),ot (show(i:Int)<16 by omega),ot (lh hl),zde,zdc,zdg,eq_self,iD,zdf,h.c,al,h.S,ai,bc hs,aI h.S,b1]
theorem EA (h:nb v i f o s fr ou)(hs:s.1=0)(nc:List Int):
  aD WX (((),(1,(i:Int),0,nc,[],()),()),v.e)=some ((true,()),{v with c:=v.c.set i (i+1,v.F.length+1,v.O.length+1,()),S:=v.S.set i ((1,0,nc,0,v.now,()),()),F:=v.F++ [(([],false,()),())],O:=v.O++ [(([],false,()),())]}.e):=by
 have hl:=h.lt;have e1: ¬(1:Int)=4:=by omega
 have hc:i<v.c.length:=(List.getElem?_eq_some_iff.1 h.c).1;have e3:(v.c.set i (i+1,v.F.length+1,o+1,()))[i]?=some (i+1,v.F.length+1,o+1,()):=by rw[zeJ];simp[hc]
 simp only[aD,fg,V.e,↓xo,bc e1,zdd,ot (show(i:Int)>=0 by omega),ot (show(i:Int)<16 by omega),ot (lh hl),zde,zdc,zdg,eq_self,iD,zdf,h.c,al,h.S,aX,dQ,ot hs,gW,mg,e3,zeO]
theorem nb.other {j f' o':Nat}{s':wS}{wm Ix:(List Int)×Bool×Unit}(h:nb v j f' o' s' wm Ix)(hij:j≠i)(c':Nat×Nat×Nat×Unit)(s2:Ao)(F':List wT):nb {v with c:=v.c.set i c',S:=v.S.set i s2,F:=v.F++F'} j f' o' s' wm Ix:=by
 refine⟨h.lt,?_,?_,?_,h.O⟩
 ·show(v.c.set i c')[j]?=_
  rw[zdR (Ne.symm hij)];exact h.c
 ·show(v.S.set i s2)[j]?=_
  rw[zdR (Ne.symm hij)];exact h.S
 ·show(v.F++F')[f']?=_
  rw[zd3 (List.getElem?_eq_some_iff.1 h.F).1];exact h.F
end
section
variable {v:V}{i f o:Nat}{s:wS}{fr ou:(List Int)×Bool×Unit}
theorem Ay {v':V}(hc:v'.c=v.c)(hS:v'.S=v.S)(hF:v'.F=v.F)(hO:v'.O=v.O)(h:Fit v):Fit v':=λi hi=>by
 obtain⟨f,o,s,fr,ou,h1,h2⟩:=h i hi;exact⟨f,o,s,fr,ou,⟨h1.lt,by rw[hc];exact h1.c,by rw[hS];exact h1.S,by rw[hF];exact h1.F,by rw[hO];exact h1.O⟩,h2⟩
theorem kL {β:Type}{l:List β}{n:Nat}{x y:β}(h:l[n]?=some x):(l.set n y)[n]?=some y:=by
 have:=(List.getElem?_eq_some_iff.1 h).1;rw[zeJ];simp[this]
theorem kH {β:Type}{l:List β}{n m:Nat}{y:β}(h:m≠n):(l.set n y)[m]?=l[m]?:=zdR (Ne.symm h)
theorem nb.out (h:nb v i f o s fr ou)(Ix:(List Int)×Bool×Unit):nb {v with O:=v.O.set o (Ix,())} i f o s fr Ix:=⟨h.lt,h.c,h.S,h.F,kL h.O⟩
theorem nb.jg (h:nb v i f o s fr ou)(s':wS):nb {v with S:=v.S.set i (s',())} i f o s' fr ou:=⟨h.lt,h.c,kL h.S,h.F,h.O⟩
theorem N5 (h:Fit v)(x:List Int)(o:Nat):Fit {v with O:=v.O.set o ((x,false,()),())}:=λj hj=>by
 obtain⟨f,o',s,fr,ou,h1,h2⟩:=h j hj;by_cases e:o'=o
 ·subst e
  exact⟨f,o',s,fr,_,⟨h1.lt,h1.c,h1.S,h1.F,kL h1.O⟩,λ_=>rfl⟩
 ·exact⟨f,o',s,fr,ou,⟨h1.lt,h1.c,h1.S,h1.F,by show(v.O.set o _)[o']?=_;rw[kH e];exact h1.O⟩,h2⟩
theorem GP (h:Fit v)(x:wT)(f:Nat):Fit {v with F:=v.F.set f x}:=λj hj=>by
 obtain⟨f',o,s,fr,ou,h1,h2⟩:=h j hj;by_cases e:f'=f
 ·subst e
  exact⟨f',o,s,x.1,ou,⟨h1.lt,h1.c,h1.S,kL h1.F,h1.O⟩,h2⟩
 ·exact⟨f',o,s,fr,ou,⟨h1.lt,h1.c,h1.S,by show(v.F.set f _)[f']?=_;rw[kH e];exact h1.F,h1.O⟩,h2⟩
theorem N6 (h:Fit v)(hc:nb v i f o s fr ou)(s':wS)(hs:s'.1≠0->ou.2.1=false):Fit {v with S:=v.S.set i (s',())}:=λj hj=>by
 by_cases e:j=i
 ·subst e
  exact⟨f,o,s',fr,ou,hc.jg s',hs⟩
 ·obtain⟨f',o',s2,wm,Ix,h1,h2⟩:=h j hj
  exact⟨f',o',s2,wm,Ix,⟨h1.lt,h1.c,by show(v.S.set i _)[j]?=_;rw[kH e];exact h1.S,h1.F,h1.O⟩,h2⟩
theorem SK (h:Fit v)(hc:nb v i f o s fr ou){F':List wT}{O':List Bi}{f' o':Nat}{wm Ix:(List Int)×Bool×Unit}{s':wS}(hF:(v.F++F')[f']?=some (wm,()))(hO:(v.O++O')[o']?=some (Ix,()))(hs:s'.1≠0->Ix.2.1=false):
  Fit {v with c:=v.c.set i (i+1,f'+1,o'+1,()),S:=v.S.set i (s',()),F:=v.F++F',O:=v.O++O'}:=λj hj=>by
 by_cases e:j=i
 ·subst e
  exact⟨f',o',s',wm,Ix,⟨hc.lt,kL hc.c,kL hc.S,hF,hO⟩,hs⟩
 ·obtain⟨f2,o2,s2,Uo,VP,h1,h2⟩:=h j hj
  refine⟨f2,o2,s2,Uo,VP,⟨h1.lt,?_,?_,?_,?_⟩,h2⟩
  ·show(v.c.set i _)[j]?=_;rw[kH e];exact h1.c
  ·show(v.S.set i _)[j]?=_;rw[kH e];exact h1.S
  ·show(v.F++F')[f2]?=_;rw[zd3 (List.getElem?_eq_some_iff.1 h1.F).1];exact h1.F
  ·show(v.O++O')[o2]?=_;rw[zd3 (List.getElem?_eq_some_iff.1 h1.O).1];exact h1.O
theorem VQ {ob:List Int}{tr nx sn n:Int}{nc x:List Int}(h:nb v i f o (1,tr,nc,nx,sn,()) fr (ob,false,()))(hn:nc.length=32)(hl:ob.length+35<=4096)(hg:fe WX ((x,()),())=some ((uT n,true,()),())):
  ∃bs,cX WX (((),(i:Int),x,()),v.e)=some ((),{v with S:=v.S.set i ((2,n,nc,nx,v.now,()),()),O:=v.O.set o ((ob++bs,false,()),())}.e)/\bs.length=35:=by
 obtain⟨bs,h1,h2⟩:=Ax hn;refine⟨bs,?_,h2⟩;have h3:=SD (h.jg (2,n,nc,nx,v.now,())) h1 (by intro e;rw[e] at h2;cases h2) (by omega)
 simp only[V.e] at h3;have e1: ¬(2:Int)=1:=by omega
 have hs:=kL (y:=((2,n,nc,nx,v.now,()),())) h.S;have hk:uT n=(1,0,n,0,0,0,0,0,0,0,0,0,0,0,gN,()):=rfl;rw[hk] at hg;simp only[cX,V.e,↓xo,ot (lh h.lt),zde,zdf,h.c,zdc,hg,zdg,zdd,eq_self,iD,aX,al,h.S,eG,hs,fa,bc e1,zeO,h3]
theorem J6 {ob:List Int}{nx sn:Int}{n p m:Nat}{nc tag:List Int}{x:oS}{k:vL}(h:nb v i f o (2,(n:Int),nc,nx,sn,()) fr (ob,false,()))(ht:Tr v n x)(hk:Lk v n p k)(hlk:oD k v.now=false)(nv:x.2.2.2.2.1=false)(yx:x.2.2.2.2.2.1.length=32)(hn:nc.length=32)(ha:SF v n x)(hq:1<=v.cfg.2.2.2.2.2.2.2.1)
  (Zu:SG x.2.2.2.2.2.1 nc tag) (I2:tag.length=32) (hm:v.mt.length=4) (hl:ob.length+8<=4096) (hlg:yQ v.lg m) (hmm:m<=100000000000):
  ∃bs rl wK,cK WX (((),(i:Int),tag,()),v.e)=some ((),{v with mt:=rl,S:=v.S.set i ((3,(n:Int),gN,1,v.now,()),()),O:=v.O.set o ((ob++bs,false,()),()),L:=v.L.set p ((k.1,k.2.1,0,0,()),()),lg:=wK}.e)/\rl.length=4/\bs.length=3/\yQ wK (m+46):=by
 have lP:=Zs ht hk hlk nv ha hq;have htr:=Bt ht;have J7:=SJ yx hn Zu (Mw I2) (n:Int) nx sn v.now;have hdo:=SC ht hk hlk;obtain⟨wK,g1,g2⟩:=Iv hlg hmm (N4 (k:=4) (n:=(n:Int)) (.inr (.inl rfl)) (by omega) (by have:=ht.lt;omega))
 obtain⟨mt1,r1,g3,g4⟩:=tC hm (i:=1) (by omega)
 change aR WX (((),1,1,()),_)=_ at g3;have zbC:=SE (v:={v with S:=v.S.set i ((3,(n:Int),gN,1,v.now,()),())}) (r:=(4,0,(n:Int),C0,())) hdo g1 g3;obtain⟨bs,h1,h2⟩:=Ez;have h3:=SD (v:={v with S:=v.S.set i ((3,(n:Int),gN,1,v.now,()),()),L:=v.L.set p ((k.1,k.2.1,0,0,()),()),lg:=wK,mt:=mt1}) (i:=i) (f:=f) (o:=o) (s:=(3,(n:Int),gN,1,v.now,())) (fr:=fr) (ob:=ob) ⟨h.lt,h.c,kL h.S,h.F,h.O⟩ h1 (by intro e;rw[e] at h2;cases h2) (by omega)
 refine⟨bs,mt1,wK,?_,g4,h2,g2⟩;simp only[V.e] at lP h3 zbC;simp only[if_true] at J7;simp only[cK,V.e,↓xo,ot (lh h.lt),zde,zdf,h.c,zdc,al,h.S,ay,ai,eq_self,iD,aI h.S,zdg,zdd,lP,cW,htr,aX,J7,zbC,h3]
end
theorem J8 (j:Int): ∃nc:List Int,gX WX ((j,()),())=some ((nc,()),())/\nc.length=32:=Ex (by kernel_rfl)
structure Q (v:V)(m:Nat):Prop where
 fit:Fit v
 mt:v.mt.length=4
 lg:yQ v.lg m
 le:m<=10000000000
 lp: ∀n,n<32->v.lp[n]?=some (n+1)
 J9:1<=v.cfg.2.2.2.2.2.2.2.1
def N7 (n:Int):Prop:= ∃fb x r,gP WX ((uT n,()),())=some r/\gi WX (r.2,())=some (((),()),(fb,()))/\cf WX (((),fb,()),(([],false,()),()))=some (.inr (([x],()),(([],false,()),())))/\fe WX ((x,()),())=some ((uT n,true,()),())
theorem Zv:N7 2:=by
 obtain⟨r,h1,h2⟩:=Option.bind_eq_some_iff.1 It;exact⟨_,_,r,h1,h2,J2,Mq⟩
theorem Zw:N7 4:=by
 obtain⟨r,h1,h2⟩:=Option.bind_eq_some_iff.1 Iu;exact⟨_,_,r,h1,h2,J3,Mr⟩
theorem P5 {tag:List Int}(h:tag.length=32): ∃fb x r,gP WX ((rU tag,()),())=some r/\gi WX (r.2,())=some (((),()),(fb,()))/\cf WX (((),fb,()),(([],false,()),()))=some (.inr (([x],()),(([],false,()),())))/\fe WX ((x,()),())=some ((rU tag,true,()),()):=by
 obtain⟨f,rfl⟩:=mC tag h;obtain⟨r,h1,h2⟩:=Option.bind_eq_some_iff.1 (Ms f);exact⟨_,_,r,h1,h2,P1 f,SA f⟩
section
variable {v:V}{i f o:Nat}{s:wS}{fr ou:(List Int)×Bool×Unit}
theorem N8 {c:mP}{r:_}{fb:List Int}(h1:gP WX ((c,()),())=some r)(h2:gi WX (r.2,())=some (((),()),(fb,()))){P:V->Prop}(h3: ∃v2,aD WX (((),(2,(i:Int),0,gN,fb,()),()),v.e)=some ((true,()),v2.e)/\P v2):
  ∃v2,dS WX (((),(i:Int),c,()),v.e)=some ((true,()),v2.e)/\P v2:=by
 obtain⟨v2,h4,h5⟩:=h3;exact⟨v2,by simp only[dS,h1,zdc,h2,h4],h5⟩
structure N9 (v v2:V)(i:Nat)(n:Int)(nc:List Int):Prop where
 eq: ∃rl ob,v2={v with c:=v.c.set i (i+1,v.F.length+1,v.O.length+1,()),S:=v.S.set i ((2,n,nc,0,v.now,()),()),mt:=rl,F:=v.F++ [(([],false,()),())],O:=v.O++ [((ob,false,()),())]}/\ob.length=35/\nb v2 i v.F.length v.O.length (2,n,nc,0,v.now,()) ([],false,()) (ob,false,())
 fit:Fit v2
 mt:v2.mt.length=4
theorem Db {β:Type}(l:List β)(a b:β):(l++ [a]).set l.length b=l++ [b]:=by simp
theorem SL (h:nb v i f o s fr ou)(hs:s.1=0)(hf:Fit v)(hm:v.mt.length=4){n:Int}(hh:N7 n){nc:List Int}(hn:nc.length=32):
  ∃v1 v2:V,aD WX (((),(1,(i:Int),0,nc,[],()),()),v.e)=some ((true,()),v1.e)/\dS WX (((),(i:Int),uT n,()),v1.e)=some ((true,()),v2.e)/\N9 v v2 i n nc:=by
 obtain⟨fb,x,r,g1,g2,g3,g4⟩:=hh;have h1:=EA h hs nc;have hF:(v.F++ [((([]:List Int),false,()),())])[v.F.length]?=some (([],false,()),()):=by simp
 have hO:(v.O++ [((([]:List Int),false,()),())])[v.O.length]?=some (([],false,()),()):=by simp
 generalize hv1:({v with c:=v.c.set i (i+1,v.F.length+1,v.O.length+1,()),S:=v.S.set i ((1,0,nc,0,v.now,()),()),F:=v.F++ [(([],false,()),())],O:=v.O++ [(([],false,()),())]}:V)=v1 at h1;have c1:nb v1 i v.F.length v.O.length (1,0,nc,0,v.now,()) ([],false,()) ([],false,()):=by
  subst hv1;exact⟨h.lt,kL h.c,kL h.S,hF,hO⟩
 have f1:Fit v1:=by subst hv1;exact SK hf h hF hO λ_=>rfl
 have m1:v1.mt.length=4:=by subst hv1;exact hm
 obtain⟨v2,h2,h3⟩:=N8 (v:=v1) (i:=i) (P:=λv2=>N9 v v2 i n nc) g1 g2 (J5 c1 (show(1:Int)≠0 by omega) (GO c1 (show(1:Int)≠0 by omega) g3 m1 λrl SM=>by
  subst hv1;have cb:=(⟨c1.lt,c1.c,c1.S,kL c1.F,c1.O⟩:nb {c:=v.c.set i (i+1,v.F.length+1,v.O.length+1,()),cfg:=v.cfg,now:=v.now,ph:=v.ph,mp:=v.mp,bp:=v.bp,lp:=v.lp,tr:=v.tr,op:=v.op,ps:=v.ps,lg:=v.lg,mt:=rl,M:=v.M,L:=v.L,S:=v.S.set i ((1,0,nc,0,v.now,()),()),F:=(v.F++ [(([],false,()),())]).set v.F.length (([],false,()),()),O:=v.O++ [(([],false,()),())],B:=v.B} i v.F.length v.O.length (1,0,nc,0,v.now,()) ([],false,()) ([],false,()));obtain⟨bs,b1,b2⟩:=VQ cb hn (by simp) g4
  have cb2:=(cb.jg (2,n,nc,0,v.now,())).out ([]++bs,false,());have fb1:=Ay (v':={c:=v.c.set i (i+1,v.F.length+1,v.O.length+1,()),cfg:=v.cfg,now:=v.now,ph:=v.ph,mp:=v.mp,bp:=v.bp,lp:=v.lp,tr:=v.tr,op:=v.op,ps:=v.ps,lg:=v.lg,mt:=rl,M:=v.M,L:=v.L,S:=v.S.set i ((1,0,nc,0,v.now,()),()),F:=(v.F++ [(([],false,()),())]).set v.F.length (([],false,()),()),O:=v.O++ [(([],false,()),())],B:=v.B}) (by rfl) (by rfl) (by rfl) (by rfl) (GP f1 (([],false,()),()) v.F.length)
  have fb2:=N5 (N6 fb1 cb (2,n,nc,0,v.now,()) λ_=>rfl) ([]++bs) v.O.length;exact⟨_,b1,fb2,⟨v.F.length,v.O.length,_,_,_,cb2,rfl⟩,⟨⟨rl,[]++bs,by rw[zeO,Db,Db],by simpa using b2,cb2⟩,fb2,SM⟩⟩))
 exact⟨v1,v2,h1,h2,h3⟩
end
section
variable {v:V}{i f o:Nat}{s:wS}{fr ou:(List Int)×Bool×Unit}
theorem My (h:nb v i f o s fr ou){x tag:List Int}(hg:fe WX ((x,()),())=some ((rU tag,true,()),())){v2:V}(ha:cK WX (((),(i:Int),tag,()),v.e)=some ((),v2.e)):
  cX WX (((),(i:Int),x,()),v.e)=some ((),v2.e):=by
 have hk:rU tag=(2,0,0,0,0,0,0,0,0,0,0,0,0,0,tag,()):=rfl;rw[hk] at hg;have e1: ¬(2:Int)=1:=by omega
 simp only[V.e] at ha;simp only[cX,V.e,↓xo,ot (lh h.lt),zde,zdf,h.c,zdc,hg,zdg,zdd,bc e1,eq_self,iD,ha]
structure Zx (v v3:V)(i:Nat)(sf:wS)(L':List ti)(m':Nat):Prop where
 eq: ∃c' rl F' O' wK,v3={v with c:=c',S:=v.S.set i (sf,()),mt:=rl,F:=F',O:=O',L:=L',lg:=wK}
 ex:sf.1=3->∃rl wK ob,v3={v with c:=v.c.set i (i+1,v.F.length+1,v.O.length+1,()),S:=v.S.set i (sf,()),mt:=rl,F:=v.F++ [(([],false,()),())],O:=v.O++ [((ob,false,()),())],L:=L',lg:=wK}/\ob.length=38
 conn: ∃f o ob,nb v3 i f o sf ([],false,()) (ob,false,())/\ob.length<=50
 q:Q v3 m'
theorem SN {v2:V}{ob:List Int}{tag:List Int}(ht:tag.length=32)(hc:nb v2 i f o s ([],false,()) (ob,false,()))(hs:s.1≠0)(hm:v2.mt.length=4){P:V->Prop}
  (hb: ∀rl,rl.length=4->nb {v2 with F:=v2.F.set f (([],false,()),()),mt:=rl} i f o s ([],false,()) (ob,false,())->∃v3,cK WX (((),(i:Int),tag,()),{v2 with F:=v2.F.set f (([],false,()),()),mt:=rl}.e)=some ((),v3.e)/\Fit v3/\(∃f2 o2 s2 Uo VP,nb v3 i f2 o2 s2 Uo VP/\Uo.2.1=false)/\P v3):
  ∃v3,dS WX (((),(i:Int),rU tag,()),v2.e)=some ((true,()),v3.e)/\P v3:=by
 obtain⟨fb,x,r,g1,g2,g3,g4⟩:=P5 ht;exact N8 g1 g2 (J5 hc hs (GO hc hs g3 hm λrl SM=>by
  have c1:nb {v2 with F:=v2.F.set f (([],false,()),()),mt:=rl} i f o s ([],false,()) (ob,false,()):=⟨hc.lt,hc.c,hc.S,kL hc.F,hc.O⟩;obtain⟨v3,h1,h2,h3,h4⟩:=hb rl SM c1;exact⟨v3,My c1 g4 h1,h2,h3,h4⟩))
end
def Al (S:List Ao)(tr:List oS)(n:Nat)(x:oS):Prop:= ∀(j:Nat) (s:wS),S[j]?=some (s,())->s.1=3->∃(m:Nat) (y:oS),s.2.1=(m:Int)/\m≠n/\m<32/\tr[m]?=some y/\y.2.2.1≠0/\y.1≠x.1
theorem SO {v:V}{n:Nat}{x:oS}(hf:Fit v)(h:Al v.S v.tr n x):SF v n x:=λi hi=>by
 obtain⟨f,o,s,fr,ou,h1,h2⟩:=hf i hi;refine⟨f,o,s,fr,ou,h1,λh3=>?_⟩;obtain⟨m,y,g1,g2,g3,g4,g5,g6⟩:=h i s h1.S h3;exact⟨m,y,g1,g2,⟨g3,g4,g5⟩,g6⟩
theorem Zy {S:List Ao}{tr:List oS}{n i:Nat}{x:oS}(h:Al S tr n x)(s':wS)(hs:s'.1≠3):Al (S.set i (s',())) tr n x:=λj s h1 h3=>by
 by_cases e:j=i
 ·subst e
  rw[zeJ] at h1;simp only[if_true] at h1;split at h1
  ·cases h1;exact absurd h3 hs
  ·cases h1
 ·rw[kH e] at h1;exact h j s h1 h3
section
variable {v:V}{i:Nat}
theorem EB {v2:V}{m n p:Nat}{nc tag:List Int}{x:oS}{k:vL}(hq:Q v m)(hm0:m+46<=10000000000)(ha:N9 v v2 i (n:Int) nc)(ht:Tr v n x)(hk:Lk v n p k)(hl:oD k v.now=false)(nv:x.2.2.2.2.1=false)(yx:x.2.2.2.2.2.1.length=32)(hn:nc.length=32)(hal:Al v.S v.tr n x)
  (Zu:SG x.2.2.2.2.2.1 nc tag) (I2:tag.length=32):
  ∃v3,dS WX (((),(i:Int),rU tag,()),v2.e)=some ((true,()),v3.e)/\Zx v v3 i (3,(n:Int),gN,1,v.now,()) (v.L.set p ((k.1,k.2.1,0,0,()),())) (m+46):=by
 obtain⟨⟨mt2,ob,rfl,hob,hc⟩,lf,hmt⟩:=ha;have hFF: ∀bs:List Int,(v.F++ [((([]:List Int),false,()),())]).set v.F.length (([],false,()),())=v.F++ [(([],false,()),())]/\(v.O++ [((ob,false,()),())]).set v.O.length ((ob++bs,false,()),())=v.O++ [((ob++bs,false,()),())]:=λbs=>⟨Db _ _ _,Db _ _ _⟩;generalize La:v.c.set i (i+1,v.F.length+1,v.O.length+1,())=c' at*;generalize hF':v.F++ [((([]:List Int),false,()),())]=F' at*;generalize hO':v.O++ [((ob,false,()),())]=O' at*;generalize vl:v.F.length=f at*;generalize X6:v.O.length=o at*;refine SN I2 hc (show(2:Int)≠0 by omega) hmt λrl SM c1=>?_
 have f1:=GP lf (([],false,()),()) f;have zcG:Al (v.S.set i ((2,(n:Int),nc,0,v.now,()),())) v.tr n x:=Zy hal _ (show(2:Int)≠3 by omega)
 have f1':Fit {c:=c',cfg:=v.cfg,now:=v.now,ph:=v.ph,mp:=v.mp,bp:=v.bp,lp:=v.lp,tr:=v.tr,op:=v.op,ps:=v.ps,lg:=v.lg,mt:=rl,M:=v.M,L:=v.L,S:=v.S.set i ((2,(n:Int),nc,0,v.now,()),()),F:=F'.set f (([],false,()),()),O:=O',B:=v.B}:=Ay (by rfl) (by rfl) (by rfl) (by rfl) f1
 obtain⟨bs,mt3,wK,h1,h2,h3,h4⟩:=J6 (tag:=tag) (p:=p) (x:=x) (k:=k) (m:=m) c1 ⟨ht.lt,ht.tr,ht.Xs⟩ ⟨hk.lt,hk.lp,hk.L⟩ hl nv yx hn (SO f1' zcG) hq.J9 Zu I2 SM (by omega) hq.lg (by have:=hq.le;omega)
 have f2:=N5 f1' (ob++bs) o;have c2:=c1.out (ob++bs,false,());have f3:=N6 f2 c2 (3,(n:Int),gN,1,v.now,()) λ_=>rfl;have c4:=c2.jg (3,(n:Int),gN,1,v.now,());refine⟨_,h1,Ay (by rfl) (by rfl) (by rfl) (by rfl) f3,⟨_,_,_,_,_,⟨c4.lt,c4.c,c4.S,c4.F,c4.O⟩,rfl⟩,⟨⟨c',mt3,_,_,wK,by rw[zeO]⟩,λ_=>⟨mt3,wK,ob++bs,by rw[zeO,(hFF bs).1,(hFF bs).2];subst vl X6 La hF';rfl,by rw[zdm];omega⟩,⟨_,_,ob++bs,⟨c4.lt,c4.c,c4.S,c4.F,c4.O⟩,by rw[zdm];omega⟩,⟨Ay (by rfl) (by rfl) (by rfl) (by rfl) f3,h2,h4,hm0,hq.lp,hq.J9⟩⟩⟩
theorem Ka {f o:Nat}{s:wS}{fr ou:(List Int)×Bool×Unit}{m n:Nat}{j:Int}{x:oS}{sf:wS}{L':List ti}{m':Nat}(right:Bool)(h:nb v i f o s fr ou)(hs:s.1=0)(hq:Q v m)(hh:N7 (n:Int))(yx:gC WX (((n:Int),()),())=some ((x.2.2.2.2.2.1,()),()))(VR:x.2.2.2.2.2.1.length=32)
  (hw: ∀nc tag F1:List Int,nc.length=32->tag.length=32->F1.length=32->SG x.2.2.2.2.2.1 nc tag->(right=true->F1=tag)->(right=false->jT WX ((F1,tag,()),())=some ((false,()),()))->∀v2,N9 v v2 i (n:Int) nc->∃v3,dS WX (((),(i:Int),rU F1,()),v2.e)=some ((true,()),v3.e)/\Zx v v3 i sf L' m'):
  ∃v3,fc WX (((),(i:Int),(n:Int),j,right,()),v.e)=some ((decide (sf.1=3),()),v3.e)/\Zx v v3 i sf L' m':=by
 obtain⟨nc,h1,h2⟩:=J8 j;obtain⟨v1,v2,h3,h4,h5⟩:=SL h hs hq.fit hq.mt hh h2;obtain⟨tag,⟨r1,r2,g1,g2,g3⟩,g4⟩:=Mu VR h2;have e0:(0:Int)<=0/\(0:Int)<=((32:Nat):Int)/\((32:Nat):Int)<=(32:Nat):=by omega
 have e1:(0:Int)<=0/\(0:Int)<(32:Nat):=by omega
 have hk:uT (n:Int)=(1,0,(n:Int),0,0,0,0,0,0,0,0,0,0,0,gN,()):=rfl;rw[hk] at h4;have hx:=zdi (l:=tag) (i:=0) (by omega)
 generalize tag[0]=y at hx;have ha: ∀t,rU t=(2,0,0,0,0,0,0,0,0,0,0,0,0,0,t,()):=λ_=>rfl;cases right with
 |true=>
  obtain⟨v3,h6,h7⟩:=hw nc tag tag h2 g4 g4 ⟨r1,r2,g1,g2,g3⟩ (λ_=>rfl) (λe=>by cases e) v2 h5
  obtain⟨f3,o3,ob3,hc3,_⟩:=h7.conn;have hA:=PZ hc3;rw[ha] at h6;refine⟨v3,?_,h7⟩;simp only[fc,h1,zdc,h3,zdg,zdd,h4,yx,↓xo,ot e0,zde,po VR,po h2,g1,g2,g3,h6,hA];rw[kJ]
 |false=>
  obtain⟨v3,h6,h7⟩:=hw nc tag (tag.set 0 (WX.pt .u8 y 1)) h2 g4 (by rw[zdQ];exact g4) ⟨r1,r2,g1,g2,g3⟩ (λe=>by cases e) (λ_=>Mx g4 hx) v2 h5
  obtain⟨f3,o3,ob3,hc3,_⟩:=h7.conn;have hA:=PZ hc3;rw[ha] at h6;refine⟨v3,?_,h7⟩;have hz:(0:Int).toNat=0:=rfl;simp only[fc,h1,zdc,h3,zdg,zdh,zdd,h4,yx,↓xo,ot e0,ot e1,zde,po VR,po h2,g1,g2,g3,hz,hx,h6,hA];rw[kJ]
end
section
variable {v:V}
theorem VS: ∀f g:Nat->Int,Ce (jq WX (((List.range 32).map f,(List.range 18).map g,()),()))=true:=λf g=>by kernel_rfl
end
theorem jN {v lo hi:Int}(hv: -9223372036854775808<=v/\v<=9223372036854775807)(h0: -1000000<=lo)(h1:lo<=hi)(h2:hi<=1000000): ∃r:Int,lo<=r/\r<=hi/\aN WX ((v,lo,hi,()),())=some ((r,()),()):=by
 obtain⟨r,h3,h4,h5⟩:=Px hv (lo:=lo) (hi:=hi) (by omega) h1 (by omega) (by omega)
 refine⟨r,h3,h4,?_⟩;rw[<-h5,<-Xj];rfl
noncomputable abbrev kk (n:Int):List Int:=List.replicate 32 (WX.wr .u8 (WX.wr .i64 (n+1)))
theorem Iy (n:Int):gC WX ((n,()),())=some ((kk n,()),()):=by kernel_rfl
abbrev SP (c:List Int):Prop:= ∀x∈c,-9223372036854775808<=x/\x<=9223372036854775807
theorem wL {c:List Int}(hc:SP c)(i:Nat){lo hi:Int}(h0: -1000000<=lo)(h1:lo<=hi)(h2:hi<=1000000): ∃r:Int,lo<=r/\r<=hi/\aC WX (((i:Int),lo,hi,(),()),c,())=some ((r,()),c,()):=by
 by_cases h:i<c.length
 ·have hx:=zdi h
  have hm:=hc _ (zeq h);obtain⟨r,h3,h4,h5⟩:=jN hm h0 h1 h2;refine⟨r,h3,h4,?_⟩;simp only[aC,↓xo,ot (show(i:Int)<(c.length:Int) by omega),ot (show(0:Int)<=(i:Int) by omega),zde,zdf,hx,zdc,h5]
 ·refine⟨hi,h1,zei _,?_⟩
  simp only[aC,↓xo,bc (show¬(i:Int)<(c.length:Int) by omega),zdd]
abbrev zT:oS:=(0,0,0,0,false,gN,())
abbrev lmt:vL:=(1048576,1099511627776,1099511627776,1099511627776,())
noncomputable def tt (a0:Int)(i:Nat):oS:=(WX.wr .i64 (Int.tdiv (i:Int) 2),WX.wr .i64 ((Int.tmod (i:Int) 2)*a0),1,7,false,kk (i:Int),())
noncomputable def fT (a0:Int):Nat->Nat->List oS->List oS
 |0,_,T=>T
 |n+1,i,T=>fT a0 n (i+1) (T.set i (tt a0 i))
def fL:Nat->Nat->List vL->List vL
 |0,_,T=>T
 |n+1,i,T=>fL n (i+1) (T.set i lmt)
theorem SQ (a0:Int): ∀(n i:Nat) (T:List oS),(fT a0 n i T).length=T.length
 |0,_,_=>rfl
 |n+1,i,T=>by simp only[fT];rw[SQ a0 n];simp
theorem Mz: ∀(n i:Nat) (T:List vL),(fL n i T).length=T.length
 |0,_,_=>rfl
 |n+1,i,T=>by simp only[fL];rw[Mz n];simp
theorem SR {c:List Int}{a0:Int}(h:aC WX ((0,0,1,(),()),c,())=some ((a0,()),c,()))(g:wR)(rest:Int×Int×Int×Int×Int×Int×Unit):
  ∀(n i:Nat) (T:List oS) (Lm:List vL),i+n=6->T.length=32->Lm.length=32->ag (cQ WX) (((),((),()),(),(i:Int),()),g,c,(T,Lm,rest),())=some (((),((),()),(),()),g,c,(fT a0 n i T,fL n i Lm,rest),()):=by
 intro n;have e2: ¬(2:Int)=0:=by omega
 induction n with
 |zero=>
  intro i T Lm hi hT hL;rw[aq];simp only[cQ,↓xo,bc (show¬(i:Int)<6 by omega),zdd,fT,fL]
 |succ n ih=>
  intro i T Lm hi hT hL;have hx:=zdi (l:=T) (i:=i) (by omega)
  have hy:=zdi (l:=Lm) (i:=i) (by omega)
  have e1:i64.wrap ((i:Int)+1)=((i+1:Nat):Int):=by rw[nQ (by omega) (by omega)];omega
  have hk:=Iy (i:Int);rw[aq];have qI:=ih (i+1) (T.set i (tt a0 i)) (Lm.set i lmt) (by omega) (by rw[zdQ];exact hT) (by rw[zdQ];exact hL)
  have hs:cQ WX (((),((),()),(),(i:Int),()),g,c,(T,Lm,rest),())=some (.inl (((),((),()),(),((i+1:Nat):Int),()),g,c,(T.set i (tt a0 i),Lm.set i lmt,rest),())):=by
   simp only[cQ,↓xo,ot (show(i:Int)<6 by omega),bc e2,zde,zdd,h,zdc,hk,ot (qK (show i<32 by omega)),zdf,hx,hy,tt]
   rw[xw,e1]
  rw[hs];simp only[fT,fL];exact qI
noncomputable def T6 (a0:Int):List oS:=fT a0 6 0 (List.replicate 32 zT)
def L6:List vL:=fL 6 0 (List.replicate 32 (0,0,0,0,()))
noncomputable def yD (a0 a1:Int):List oS:=
 let x7:=(T6 a0).getD 0 zT
 let T7:=(T6 a0).set 0 (x7.1,x7.2.1,WX.AL .i64 1 a1,x7.2.2.2)
 let x8:=T7.getD 2 zT
 let T8:=T7.set 2 (x8.1,x8.2.1,7,x8.2.2.2)
 let x9:=T8.getD 4 zT
 T8.set 4 (x9.1,x9.2.1,9,x9.2.2.2)
structure Up (c:List Int)(g:wR):Prop where
 ex: ∃a0 a1 a2 a3 a4 a5 b r t l d q:Int,(a0=0\/a0=1)/\0<=a1/\a1<=7/\(0<=a2/\a2<=20)/\(0<=a3/\a3<=3000)/\(0<=a4/\a4<=40)/\(0<=a5/\a5<=40)/\(1<=b/\b<=60)/\(1<=r/\r<=20)/\(1<=t/\t<=3)/\(1<=l/\l<=50)/\(1<=d/\d<=200)/\(1<=q/\q<=4)/\g=(yD a0 a1,L6.set 1 (a2,a3,a4,a5,()),b,r,t,l,d,q,())
theorem Dc {β:Type}{l:List β}{n:Nat}(h:n<l.length)(z:β):l[n]?=some (l.getD n z):=by
 rw[zdi h,zdt,zdi h];rfl
theorem P6 {c:List Int}(hc:SP c): ∃g,da WX ((c,()),())=some ((g,()),())/\Up c g:=by
 obtain⟨a0,p0,q0,h0⟩:=wL hc 0 (lo:=0) (hi:=1) (by omega) (by omega) (by omega)
 obtain⟨a1,p1,q1,h1⟩:=wL hc 1 (lo:=0) (hi:=7) (by omega) (by omega) (by omega)
 obtain⟨a2,p2,q2,h2⟩:=wL hc 2 (lo:=0) (hi:=20) (by omega) (by omega) (by omega)
 obtain⟨a3,p3,q3,h3⟩:=wL hc 3 (lo:=0) (hi:=3000) (by omega) (by omega) (by omega)
 obtain⟨a4,p4,q4,h4⟩:=wL hc 4 (lo:=0) (hi:=40) (by omega) (by omega) (by omega)
 obtain⟨a5,p5,q5,h5⟩:=wL hc 5 (lo:=0) (hi:=40) (by omega) (by omega) (by omega)
 obtain⟨b,p6,q6,h6⟩:=wL hc 6 (lo:=1) (hi:=60) (by omega) (by omega) (by omega)
 obtain⟨r,p7,q7,h7⟩:=wL hc 7 (lo:=1) (hi:=20) (by omega) (by omega) (by omega)
 obtain⟨t,p8,q8,h8⟩:=wL hc 8 (lo:=1) (hi:=3) (by omega) (by omega) (by omega)
 obtain⟨l,p9,q9,h9⟩:=wL hc 9 (lo:=1) (hi:=50) (by omega) (by omega) (by omega)
 obtain⟨d,p10,q10,Ge⟩:=wL hc 10 (lo:=1) (hi:=200) (by omega) (by omega) (by omega)
 obtain⟨q,p11,q11,Nj⟩:=wL hc 11 (lo:=1) (hi:=4) (by omega) (by omega) (by omega)
 change aC WX ((0,0,1,(),()),c,())=_ at h0;change aC WX ((1,0,7,(),()),c,())=_ at h1;change aC WX ((2,0,20,(),()),c,())=_ at h2;change aC WX ((3,0,3000,(),()),c,())=_ at h3;change aC WX ((4,0,40,(),()),c,())=_ at h4;change aC WX ((5,0,40,(),()),c,())=_ at h5;change aC WX ((6,1,60,(),()),c,())=_ at h6;change aC WX ((7,1,20,(),()),c,())=_ at h7;change aC WX ((8,1,3,(),()),c,())=_ at h8;change aC WX ((9,1,50,(),()),c,())=_ at h9;change aC WX ((10,1,200,(),()),c,())=_ at Ge;change aC WX ((11,1,4,(),()),c,())=_ at Nj;refine⟨(yD a0 a1,L6.set 1 (a2,a3,a4,a5,()),b,r,t,l,d,q,()),?_,⟨a0,a1,a2,a3,a4,a5,b,r,t,l,d,q,by omega,p1,q1,⟨p2,q2⟩,⟨p3,q3⟩,⟨p4,q4⟩,⟨p5,q5⟩,⟨p6,q6⟩,⟨p7,q7⟩,⟨p8,q8⟩,⟨p9,q9⟩,⟨p10,q10⟩,⟨p11,q11⟩,rfl⟩⟩
 have hl:=SR h0 (List.replicate 32 zT,List.replicate 32 (0,0,0,0,()),0,0,0,0,0,0,()) (0,0,0,0,0,0,()) 6 0 (List.replicate 32 zT) (List.replicate 32 (0,0,0,0,())) (by omega) (by simp) (by simp)
 change ag (cQ WX) (((),((),()),(),0,()),_,c,_,())=some (((),((),()),(),()),_,c,(T6 a0,L6,_),()) at hl;have hT:(T6 a0).length=32:=by unfold T6;rw[SQ];simp
 have hL:L6.length=32:=by unfold L6;rw[Mz];simp
 have z0:(0:Int).toNat=0:=rfl;have z1:(1:Int).toNat=1:=rfl;have z2:(2:Int).toNat=2:=rfl;have z4:(4:Int).toNat=4:=rfl;have i0:(0:Int)<=0/\(0:Int)<(32:Nat):=by omega
 have i1:(0:Int)<=1/\(1:Int)<(32:Nat):=by omega
 have i2:(0:Int)<=2/\(2:Int)<(32:Nat):=by omega
 have i4:(0:Int)<=4/\(4:Int)<(32:Nat):=by omega
 have g0:=Dc (l:=T6 a0) (n:=0) (by omega) zT
 have g1:L6[1]?=some (L6.getD 1 (0,0,0,0,())):=Dc (by omega) _
 have g2: ∀y,((T6 a0).set 0 y)[2]?=some (((T6 a0).set 0 y).getD 2 zT):=λy=>Dc (by rw[zdQ];omega) zT
 have g4: ∀y z,(((T6 a0).set 0 y).set 2 z)[4]?=some ((((T6 a0).set 0 y).set 2 z).getD 4 zT):=λy z=>Dc (by rw[zdQ,zdQ];omega) zT
 simp only[da,↓xl,hl,zdc,h1,↓xo,ot i0,ot i1,ot i2,ot i4,zde,z0,z1,z2,z4,g0,g2,g4,h2,h3,h4,h5,h6,h7,h8,h9,Ge,Nj,g1,yD]
theorem Oa {a0 a1:Int}(h0:a0=0\/a0=1)(h1:0<=a1)(h2:a1<=7):nG WX ((yD a0 a1,()),())=some (.inr (((),(-1),()),((yD a0 a1,()),())))/\(yD a0 a1)[2]?=some (1,0,7,7,false,kk 2,())/\(yD a0 a1)[4]?=some (2,0,9,7,false,kk 4,()):=by
 have:a1=0\/a1=1\/a1=2\/a1=3\/a1=4\/a1=5\/a1=6\/a1=7:=by omega
 rcases h0 with rfl|rfl<;>rcases this with rfl|rfl|rfl|rfl|rfl|rfl|rfl|rfl<;>exact⟨by kernel_rfl,by kernel_rfl,by kernel_rfl⟩
def Zz (y:vL):Prop:=0<=y.1/\y.1<=1048576/\0<=y.2.1/\0<=y.2.2.1/\y.2.2.1<=1099511627776/\0<=y.2.2.2.1/\y.2.2.2.1<=1099511627776
instance (y:vL):Decidable (Zz y):=by unfold Zz;infer_instance
theorem VU {y:vL}(h:Zz y):lY WX ((y,()),())=some ((true,()),()):=by
 obtain⟨h1,h2,h3,h4,h5,h6,h7⟩:=h;simp only[lY,↓xo,ot (show y.1>=0 from h1),ot h2,ot (show y.2.1>=0 from h3),ot (show y.2.2.1>=0 from h4),ot h5,ot (show y.2.2.2.1>=0 from h6),ot h7,zde]
theorem MA {l:List vL}(hl:l.length=32)(h: ∀y∈l,Zz y):ag (fQ WX) ((true,l,0,()),())=some ((true,()),()):=by
 have key: ∀n i:Nat,i+n=32->ag (fQ WX) ((true,l,(i:Int),()),())=some ((true,()),()):=by
  intro n;induction n with
  |zero=>
   intro i hi;rw[aq];simp only[fQ,↓xo,bc (show¬(i:Int)<32 by omega),zdd]
  |succ n ih=>
   intro i hi;have hx:=zdi (l:=l) (i:=i) (by omega)
   have hr:=VU (h _ (zeq (l:=l) (n:=i) (by omega)))
   generalize l[i]=y at hx hr;have e1:i64.wrap ((i:Int)+1)=((i+1:Nat):Int):=by rw[nQ (by omega) (by omega)];omega
   have qI:=ih (i+1) (by omega)
   rw[aq];simp only[fQ,↓xo,xw,ot (show(i:Int)<32 by omega),ot (qK (show i<32 by omega)),zde,zdf,hx,zdc,hr,e1,qI]
 exact key 32 0 (by omega)
theorem GQ {b r:Int}(hb:1<=b/\b<=60)(hr:1<=r/\r<=20):jm WX ((b,r,()),())=some (.inr (((),0,()),((b,r,b,0,()),()))):=by
 simp only[jm,↓xo,bc (show¬b<1 by omega),bc (show¬b>1048576 by omega),bc (show¬r<1 by omega),bc (show¬r>1099511627776 by omega),zdd]
theorem Ob {t l:Int}(ht:1<=t/\t<=3)(hl:1<=l/\l<=50):ky WX ((t,l,()),())=some (.inr (((),0,()),((t,l,0,0,()),()))):=by
 simp only[ky,↓xo,bc (show¬t<1 by omega),bc (show¬t>1048576 by omega),bc (show¬l<1 by omega),bc (show¬l>1099511627776 by omega),zdd]
theorem P7 {a2 a3 a4 a5:Int}(h2:0<=a2/\a2<=20)(h3:0<=a3/\a3<=3000)(h4:0<=a4/\a4<=40)(h5:0<=a5/\a5<=40): ∀y∈L6.set 1 (a2,a3,a4,a5,()),Zz y:=by
 intro y hy;rcases zep hy with h|h
 ·have: ∀y∈L6,Zz y:=by
   have h0:(L6.all λy=>decide (Zz y))=true:=by kernel_rfl
   intro y hy;exact of_decide_eq_true (List.all_eq_true.1 h0 y hy)
  exact this y h
 ·subst h
  refine⟨h2.1,?_,h3.1,h4.1,?_,h5.1,?_⟩
  ·show a2<=_;omega
  ·show a4<=_;omega
  ·show a5<=_;omega
theorem SU {x:vL}:(L6.set 1 x).length=32:=by rw[zdQ];unfold L6;rw[Mz];simp
def VV:Nat->Nat->List Nat->List Nat
 |0,_,l=>l
 |n+1,i,l=>VV n (i+1) (l.set i (i+1))
theorem VW {b r t lk:Int}(hb:1<=b/\b<=60)(hr:1<=r/\r<=20)(ht:1<=t/\t<=3)(hl:1<=lk/\lk<=50)(g:wR)(hg:g.2.2.1=b/\g.2.2.2.1=r/\g.2.2.2.2.1=t/\g.2.2.2.2.2.1=lk)(cfg:wR)(now:Int)(ph:Ih)(mp:List Nat)(tr:(List oS)×Unit)(ac:(List (List Int))×(List (List Int))×Unit)(M:List uq):
  ∀(n i:Nat) (bp lp:List Nat) (L:List ti) (B:List vz),i+n=32->bp.length=32->lp.length=32->L.length=i->B.length=i->ag (cr WX) (((),(),(i:Int),()),g,(cfg,now,(),ph,mp,(),bp,lp,()),tr,ac,M,L,B,())=
   some (((),()),g,(cfg,now,(),ph,mp,(),VV n i bp,VV n i lp,()),tr,ac,M,L++List.replicate n ((t,lk,0,0,()),()),B++List.replicate n ((b,r,b,0,()),()),()):=by
 have h1:=GQ hb hr;have h2:=Ob ht hl;obtain⟨g1,g2,g3,g4⟩:=hg;intro n;induction n with
 |zero=>
  intro i bp lp L B hi h3 h4 h5 h6;rw[aq];simp only[cr,↓xo,bc (show¬(i:Int)<32 by omega),zdd,VV,zer,zeE]
 |succ n ih=>
  intro i bp lp L B hi h3 h4 h5 h6;have hx:=zdi (l:=bp) (i:=i) (by omega)
  have hy:=zdi (l:=lp) (i:=i) (by omega)
  have e1:i64.wrap ((i:Int)+1)=((i+1:Nat):Int):=by rw[nQ (by omega) (by omega)];omega
  have qI:=ih (i+1) (bp.set i (i+1)) (lp.set i (i+1)) (L++ [((t,lk,0,0,()),())]) (B++ [((b,r,b,0,()),())]) (by omega) (by rw[zdQ];exact h3) (by rw[zdQ];exact h4) (by rw[zdm,h5];rfl) (by rw[zdm,h6];rfl)
  rw[aq];simp only[cr,↓xo,xw,ot (show(i:Int)<32 by omega),ot (qK (show i<32 by omega)),zde,g1,g2,g3,g4,h1,h2,zdc,zdf,hx,hy,e1,h5,h6,qI,VV,List.append_assoc,zeP,<-zdZ]
abbrev ph0:Ih:=(List.replicate 8 false,List.replicate 8 false,List.replicate 8 (0:Int),())
abbrev oo:List (List Int):=List.replicate 32 (List.replicate 8 (0:Int))
abbrev e0:uq:=(((),(),()),(((),(),()),0,0,()),[],[],[],[],())
abbrev p8:List Nat:=(List.range 8).map (·+1)
abbrev c16:List NW:=(List.range 16).map λi=>(i+1,i+1,i+1,())
theorem ZA (g:wR)(T:List oS):WX.ag (dH WX) (((),(),0,()),g,(g,0,(),ph0,List.replicate 8 0,(),List.replicate 32 0,List.replicate 32 0,()),(T,()),(oo,oo,()),[],[],[],())=
  some (((),(),()),g,(g,0,(),ph0,p8,(),List.replicate 32 0,List.replicate 32 0,()),(T,()),(oo,oo,()),List.replicate 8 e0,[],[],()):=by kernel_rfl
theorem ZB (s:wR×Int×Unit×Ih×(List Nat)×Unit×(List Nat)×(List Nat)×Unit)(tr:(List oS)×Unit)(ac:(List (List Int))×(List (List Int))×Unit)(lg:GJ)(mt:(List U5)×Unit)(M:List uq)(L:List ti)(B:List vz):
  WX.ag (dI WX) (((),0,()),((),List.replicate 16 (0,0,0,()),(),(),()),s,tr,ac,lg,mt,M,L,[],[],[],B,())=some (((),()),((),c16,(),(),()),s,tr,ac,lg,mt,M,L,List.replicate 16 (s0,()),List.replicate 16 (([],false,()),()),List.replicate 16 (([],false,()),()),B,()):=by kernel_rfl
def v0 (g:wR):V:={c:=c16,cfg:=g,now:=0,ph:=ph0,mp:=p8,bp:=VV 32 0 (List.replicate 32 0),lp:=VV 32 0 (List.replicate 32 0),tr:=g.1,op:=oo,ps:=oo,lg:=([],gN,0,()),mt:=List.replicate 4 ((),(),0,()),M:=List.replicate 8 e0,L:=List.replicate 32 ((g.2.2.2.2.1,g.2.2.2.2.2.1,0,0,()),()),S:=List.replicate 16 (s0,()),F:=List.replicate 16 (([],false,()),()),O:=List.replicate 16 (([],false,()),()),B:=List.replicate 32 ((g.2.2.1,g.2.2.2.1,g.2.2.1,0,()),())}
theorem MB {c:List Int}{g:wR}(h:Up c g):jJ WX ((g,()),())=some (.inr (((),0,()),(v0 g).e)):=by
 obtain⟨a0,a1,a2,a3,a4,a5,b,r,t,l,d,q,h0,h1,H5,h2,h3,h4,h5,hb,hr,ht,hl,hd,hq,rfl⟩:=h;have ht1:=(Oa h0 h1 H5).1;have hb1:=GQ hb hr;have hl1:=Ob ht hl;have hrt:=MA SU (P7 h2 h3 h4 h5);generalize yD a0 a1=T at ht1;generalize L6.set 1 (a2,a3,a4,a5,())=Lm at hrt;have hR:jx WX (((T,Lm,b,r,t,l,d,q,()),()),())=some ((true,()),()):=by
  simp only[jx,ht1,zdc,hb1,hl1,↓xo,eq_self,iD,zde,ot (show d>=1 by omega),ot (show d<=1099511627776 by omega),ot (show q>=1 by omega),ot (show q<=16 by omega),↓xl,hrt]
 have Nj:=VW hb hr ht hl (T,Lm,b,r,t,l,d,q,()) ⟨rfl,rfl,rfl,rfl⟩ (T,Lm,b,r,t,l,d,q,()) 0 ph0 p8 (T,()) (oo,oo,()) (List.replicate 8 e0) 32 0 (List.replicate 32 0) (List.replicate 32 0) [] [] (by omega) (by simp) (by simp) rfl rfl
 change ag (cr WX) (((),(),0,()),_,_,_,_,_,_,_,())=_ at Nj;simp only[zed] at Nj;have h6:=ZA (T,Lm,b,r,t,l,d,q,()) T;rw[xl] at h6;simp only[jJ,lT,hR,zdc,zdg,zdd,pg,ht1,h6,↓xl,Nj,↓xo,eq_self,iD,nH,nI];have hv:=ZB;simp only[↓xl] at hv;simp only[hv,zdc];rfl
structure Sc (g:wR)(v:V)(k:vL)(m:Nat):Prop where
 cfg:v.cfg=g
 now:v.now=0
 tr:v.tr=g.1
 ph:v.ph=ph0
 bp:v.bp=(v0 g).bp
 B:v.B=(v0 g).B
 S:v.S=List.replicate 16 (s0,())
 L:v.L=(v0 g).L.set 2 (k,())
 q:Q v m
theorem VX: ∀n,n<32->(VV 32 0 (List.replicate 32 0))[n]?=some (n+1):=by decide
theorem qf {β:Type}{n i:Nat}(h:i<n)(a:β):(List.replicate n a)[i]?=some a:=by rw[zd7,if_pos h]
theorem Df (g:wR): ∀i,i<16->nb (v0 g) i i i s0 ([],false,()) ([],false,()):=λi hi=>by
 refine⟨hi,?_,?_,?_,?_⟩
 ·show c16[i]?=_
  simp[hi]
 ·exact qf hi _
 ·exact qf hi _
 ·exact qf hi _
theorem zbD {c:List Int}{g:wR}(h:Up c g):Sc g (v0 g) (g.2.2.2.2.1,g.2.2.2.2.2.1,0,0,()) 0:=by
 refine⟨rfl,rfl,rfl,rfl,rfl,rfl,rfl,?_,⟨λi hi=>⟨_,_,_,_,_,Df g i hi,λ_=>rfl⟩,rfl,⟨rfl,by simp[v0]⟩,by omega,VX,?_⟩⟩
 ·exact(aI (by simp[v0])).symm
 ·obtain⟨a0,a1,a2,a3,a4,a5,b,r,t,l,d,q,_,_,_,_,_,_,_,_,_,_,_,_,hq,rfl⟩:=h
  exact hq.1
theorem zbE {g:wR}{v:V}{k:vL}{m:Nat}(h:Sc g v k m)(n:Nat)(x:oS):Al v.S v.tr n x:=λj s h1 h3=>by
 rw[h.S,zd7] at h1;split at h1
 ·cases h1;exact absurd h3 (by show¬(0:Int)=3;omega)
 ·cases h1
noncomputable abbrev x2:oS:=(1,0,7,7,false,kk 2,())
noncomputable abbrev x4:oS:=(2,0,9,7,false,kk 4,())
theorem MC {c:List Int}{g:wR}(h:Up c g):g.1[2]?=some x2/\g.1[4]?=some x4:=by
 obtain⟨a0,a1,a2,a3,a4,a5,b,r,t,l,d,q,h0,h1,H5,_,_,_,_,_,_,_,_,_,_,rfl⟩:=h;exact(Oa h0 h1 H5).2
theorem ZC {c:List Int}{g:wR}(hc:Up c g){v:V}{k:vL}{m:Nat}(h:Sc g v k m):Tr v 2 x2:=⟨by omega,by rw[h.tr];exact(MC hc).1,by show¬(7:Int)=0;omega⟩
theorem Iz (n:Int):(kk n).length=32:=by simp
noncomputable def g0:wR:=(yD 1 7,L6.set 1 (20,3000,40,40,()),60,20,3,50,200,4,())
theorem MD:da WX ((([]:List Int),()),())=some ((g0,()),()):=by kernel_rfl
theorem Az:Up [] g0:=⟨⟨1,7,20,3000,40,40,60,20,3,50,200,4, .inr rfl,by omega,by omega,by omega,by omega,by omega,by omega,by omega,by omega,by omega,by omega,by omega,by omega,rfl⟩⟩
noncomputable def ZD (vt:VT):Option gb.R:=(((dS WX) (((),0,(3,1,0,0,1,2,1,100,5,0,0,0,0,0,(List.replicate 32 (0:Int)),()),()),vt)).bind λr6=>(((dS WX) (((),1,(3,1,0,0,1,1,1,100,3,0,0,0,0,0,(List.replicate 32 (0:Int)),()),()),r6.2)).bind λr7=>(((ij WX) (((),()),r7.2)).bind λr8=>(bif r6.1.1 then(bif r7.1.1 then(((fw WX) (((),()),r8.2.2.1,r8.2.2.2.1,r8.2.2.2.2.1,r8.2.2.2.2.2.2.2.1,r8.2.2.2.2.2.2.2.2.1,r8.2.2.2.2.2.2.2.2.2.2.2.2)).bind λr9=>(((fw WX) r9).bind λnj=>(((gl WX) (((),4,0,()),nj.2.2.2.1,())).bind λog=>(bif (WX.af (og.1.1=3)) then(((fw WX) (((),()),nj.2.1,nj.2.2.1,og.2.1,nj.2.2.2.2)).bind λoR=>(((gl WX) (((),2,0,()),oR.2.2.2.1,())).bind λoh=>some ((((WX.af (oh.1.1=(-3))),()),())))) else some (((false,()),())))))) else some (((false,()),()))) else some (((false,()),()))))))
def okT:Option gb.R->Bool|some ((b,_),_)=>b|none=>false
theorem ZE {r:Option gb.R}(h:okT r=true):r=some (((true,()),())):=by
 match r with
 |none=>cases h
 |some ((b,()),())=>cases b;cases h;rfl
noncomputable def lkd:ti:=((3,50,0,0,()),())
noncomputable def vv (mt:List U5)(lg:GJ)(o1 o2:List Int):V:={v0 g0 with c:=(c16.set 0 (1,17,17,())).set 1 (2,18,18,()),S:=((List.replicate 16 (s0,())).set 0 ((3,2,gN,1,0,()),())).set 1 ((3,4,gN,1,0,()),()),mt:=mt,F:=(List.replicate 16 (([],false,()),())++ [(([],false,()),())])++ [(([],false,()),())],O:=(List.replicate 16 (([],false,()),())++ [((o1,false,()),())])++ [((o2,false,()),())],L:=((v0 g0).L.set 2 lkd).set 4 lkd,lg:=lg}
theorem P8: ∀(f g h h':Nat->Int) (m0 m1 m2 m3 n:Int),okT (ZD (vv [((),(),m0,()),((),(),m1,()),((),(),m2,()),((),(),m3,())] ((List.range 92).map f,(List.range 32).map g,n,()) ((List.range 38).map h) ((List.range 38).map h')).e)=true:=λf g h h' m0 m1 m2 m3 n=>by kernel_rfl
theorem mt4 {mt:List U5}(h:mt.length=4): ∃m0 m1 m2 m3,mt=[((),(),m0,()),((),(),m1,()),((),(),m2,()),((),(),m3,())]:=by
 match mt,h with
 | [((),(),a,()),((),(),b,()),((),(),c,()),((),(),d,())],_=>exact⟨a,b,c,d,rfl⟩
theorem SV {p:Unit×(List Int)×Unit}{y1 y2 y3:VT}{r:_}(hN:ir WX ((([]:List Int),()),())=some (.inr (((),()),p,y1)))(h1:fc WX (((),0,2,5,true,()),y1)=some ((true,()),y2))(h2:fc WX (((),1,4,6,true,()),y2)=some ((true,()),y3))(h3:ZD y3=some r):gb WX ((),())=some r:=by
 rw[<-h3];simp only[gb,hN,zdc,h1,h2,zdg,zdd,ZD]
theorem ME:gb WX ((),())=some (((true,()),())):=by
 have qS:=MB Az;have hN:ir WX ((([]:List Int),()),())=some (.inr (((),()),((),List.replicate 16 (0:Int),()),(v0 g0).e)):=by
  simp only[ir,MD,zdc,qS,↓xo,eq_self,iD,zdg,zdd]
 have hs:=zbD Az;have l2:Lk (v0 g0) 2 2 (3,50,0,0,()):=⟨by omega,hs.q.lp 2 (by omega),qf (by omega) _⟩
 obtain⟨v1,h1,w1⟩:=Ka (x:=x2) (n:=2) (j:=5) (sf:=(3,2,gN,1,(v0 g0).now,())) (L':=(v0 g0).L.set 2 ((3,50,0,0,()),())) (m':=0+46) true (Df g0 0 (by omega)) rfl hs.q Zv (Iy 2) (Iz 2) (λnc tag F1 b1 b2 b3 b4 b5 _ w b7=>by
  rw[b5 rfl];exact EB (k:=(3,50,0,0,())) hs.q (by omega) b7 (ZC Az hs) l2 (by decide) rfl (Iz 2) b1 (zbE hs 2 x2) b4 b2)
 obtain⟨mt1,lg1,ob1,e1,zcH⟩:=w1.ex rfl;have hq1:=w1.q;have hS1:v1.S=(List.replicate 16 ((s0,()):Ao)).set 0 ((3,2,gN,1,0,()),()):=by rw[e1];rfl
 have zbF:v1.tr=g0.1:=by rw[e1];rfl
 obtain⟨f,o,s,fr,ou,Iw,_⟩:=hq1.fit 1 (by omega)
 have KT:s=s0:=by
  have:=Iw.S;rw[hS1,kH (by omega),qf (by omega)] at this
  cases this;rfl
 subst KT;have l4:Lk v1 4 4 (3,50,0,0,()):=⟨by omega,hq1.lp 4 (by omega),by rw[e1];show((v0 g0).L.set 2 _)[4]?=_;rw[kH (by omega)];exact qf (by omega) _⟩
 have al4:Al v1.S v1.tr 4 x4:=λj s h1 h3=>by
  rw[hS1] at h1;by_cases e:j=0
  ·subst e
   rw[kL (qf (by omega) _)] at h1
   cases h1;exact⟨2,x2,rfl,by omega,by omega,by rw[zbF];exact(MC Az).1,by show¬(7:Int)=0;omega,by show¬(1:Int)=2;omega⟩
  ·rw[kH e,zd7] at h1
   split at h1
   ·cases h1;exact absurd h3 (by show¬(0:Int)=3;omega)
   ·cases h1
 have OX:v1.now=0:=by rw[e1];rfl
 obtain⟨v2,h2,w2⟩:=Ka (x:=x4) (n:=4) (j:=6) (sf:=(3,4,gN,1,v1.now,())) (L':=v1.L.set 4 ((3,50,0,0,()),())) (m':=0+46+46) true Iw rfl hq1 Zw (Iy 4) (Iz 4) (λnc tag F1 b1 b2 b3 b4 b5 _ w b7=>by
  rw[b5 rfl];exact EB (k:=(3,50,0,0,())) hq1 (by omega) b7 ⟨by decide,by rw[zbF];exact(MC Az).2,by show¬(9:Int)=0;omega⟩ l4 (decide_eq_false (λq=>by have:=q.1;change (0:Int)>=3 at this;omega)) rfl (Iz 4) b1 al4 b4 b2)
 obtain⟨mt2,lg2,ob2,e2,zcI⟩:=w2.ex rfl;have hlg:=w2.q.lg;have hmt:=w2.q.mt;have zcJ:v2.lg=lg2:=by rw[e2]
 have zcK:v2.mt=mt2:=by rw[e2]
 rw[zcJ] at hlg;rw[zcK] at hmt;have ev:v2=vv mt2 lg2 ob1 ob2:=by
  rw[e2,OX,e1];rfl
 obtain⟨b,c,n,u⟩:=lg2;obtain⟨hl1,hl2⟩:=hlg;obtain⟨f',Yh⟩:=mC b (n:=92) hl1;obtain⟨g',CC⟩:=mC c (n:=32) hl2;obtain⟨k1,hk1⟩:=mC ob1 (n:=38) zcH;obtain⟨k2,OW⟩:=mC ob2 (n:=38) zcI;obtain⟨m0,m1,m2,m3,rfl⟩:=mt4 hmt;have key:=ZE (P8 f' g' k1 k2 m0 m1 m2 m3 n);rw[<-Yh,<-CC,<-hk1,<-OW] at key;rw[ev] at h2;change fc WX (((),0,2,5,true,()),_)=some ((true,()),_) at h1;change fc WX (((),1,4,6,true,()),_)=some ((true,()),_) at h2;exact SV hN h1 h2 key
abbrev oE:=ek×Int×Unit
abbrev Od.eX (o:ek):Int:=o.2.2.2.2.2.2.1
abbrev Od.show (o:ek):Int:=o.2.2.2.2.2.2.2.1
def Od.bP (o:ek)(q:Int):ek:=(o.1,o.2.1,o.2.2.1,o.2.2.2.1,o.2.2.2.2.1,o.2.2.2.2.2.1,q,o.2.2.2.2.2.2.2)
def Od.is (t i:Int)(o:ek):Bool:=decide (o.1=t/\o.2.1=i)
def mb (o:ek):Int:=if Od.show o>0 then min (Od.show o) (Od.eX o) else Od.eX o
theorem ZF (o:ek):mA WX ((o,()),())=some ((mb o,()),()):=by
 unfold mb;by_cases h:Od.show o>0
 ·simp only[mA,↓xo,ot h,zde,uS,if_pos h]
 ·simp only[mA,↓xo,bc h,zdd,if_neg h]
section
variable {es:List oE}{hd:Int×Unit×Unit}
theorem EC (h:es.length<=1000000)(o:ek):bQ WX (((),o,()),(hd,es,()))=some ((),(hd,es++ [(o,mb o,())],())):=by
 simp only[bQ,ZF,zdc,↓xo,zdn,zdo,ot (show(((es.length+(0+1):Nat):Int))*((80:Nat):Int)<=((room:Nat):Int) by unfold room;omega),zde]
theorem GR {i:Nat}(h:i<es.length)(hl:es.length<=1000000):aT WX (((),(i:Int),((i+1:Nat):Int),()),(es,()))=some (((),()),(es.eraseIdx i,())):=by
 have e0:((i:Int)-(0:Int)).toNat=i:=by omega
 have e1:(es.drop (i+1)).length=es.length-(i+1):=by rw[zdI]
 have e2:es.take (0+i)++es.drop (i+1)++es.drop (0+i+(es.length-(i+1)))=es.eraseIdx i++es.drop (es.length-1):=by
  rw[zd2,zeQ,show i+(es.length-(i+1))=es.length-1 by omega]
 have e3:(es.eraseIdx i).length=es.length-1:=zeR h;have e4:i+(es.length-(i+1))=es.length-1:=by omega
 have e5:(es.drop (es.length-1)).length=1:=by rw[zdI];omega
 simp only[aT,↓xo,ot (show 0<=(i:Int)/\(i:Int)<=((i+1:Nat):Int)/\((i+1:Nat):Int)<=(es.length:Int)/\(es.length:Int)<=(es.length:Int) by omega),zde,bc (show¬(i:Int)=((i+1:Nat):Int) by omega),zdd,ot (show 0<=(0:Int)/\(0:Int)<=(i:Int)/\(i:Int)<=(es.length:Int) by omega),
  ot (show 0<=((i+1:Nat):Int)/\((i+1:Nat):Int)<=(es.length:Int) by omega),e0,zdf,e1,ot (show 0+i+(es.length-(i+1))<=es.length by omega),e2,e4]
 have e6: ∀X:List oE,(es.eraseIdx i++X).take (es.length-1)=es.eraseIdx i:=λX=>by rw[List.take_append_of_le_length (by omega),zdN (by omega)]
 simp only[e6,zeN,List.append_assoc,ot (show 0<=((es.length-1:Nat):Int)/\((es.length-1:Nat):Int)<=(es.length:Int)/\(es.length:Int)<=(((es.eraseIdx i++es.drop (es.length-1)).length-0:Nat):Int) by rw[zdm,e3,e5];omega),zde]
def VY (t i:Int)(es:List oE):Int:=match es.findIdx? (λe=>Od.is t i e.1) with|some n=>(n:Int)|none=> -1
theorem Oc (hl:es.length<=1000000)(t i:Int):fX WX (((),t,i,()),(hd,es,()))=some ((VY t i es,()),(hd,es,())):=by
 have key: ∀n k:Nat,k+n=es.length->(∀j,j<k->∀e,es[j]?=some e->Od.is t i e.1=false)->ag (ar WX) ((es,((),(),()),(es.length:Int),(k:Int),()),(t,i,()))=some (match es.findIdx? (λe=>Od.is t i e.1) with|some n=> .inl (((n:Int),()),(t,i,()))|none=> .inr ((),(t,i,()))):=by
  intro n;induction n with
  |zero=>
   intro k hk vS;have:es.findIdx? (λe=>Od.is t i e.1)=none:=by
    rw[zeS];intro e he;obtain⟨j,hj,rfl⟩:=zdU he;exact vS j (by omega) _ (zdi hj)
   rw[aq,this];simp only[ar,↓xo,bc (show¬(k:Int)<(es.length:Int) by omega),zdd]
  |succ n ih=>
   intro k hk vS;have hx:=zdi (l:=es) (i:=k) (by omega)
   generalize hg:es[k]=x at hx;have e1:i64.wrap ((k:Int)+1)=((k+1:Nat):Int):=by rw[nQ (by omega) (by omega)];omega
   have hp:fh WX ((x,(),(),()),(t,i,()))=some ((Od.is t i x.1,()),(t,i,())):=by
    unfold Od.is;by_cases h1:x.1.1=t
    ·by_cases h2:x.1.2.1=i
     ·simp only[fh,↓xo,ot h1,zde,ot h2];rw[decide_eq_true ⟨h1,h2⟩]
     ·simp only[fh,↓xo,ot h1,zde,bc h2];rw[decide_eq_false (λq=>h2 q.2)]
    ·simp only[fh,↓xo,bc h1,zdd];rw[decide_eq_false (λq=>h1 q.1)]
   rw[aq];cases hb:Od.is t i x.1 with
   |true=>
    have:es.findIdx? (λe=>Od.is t i e.1)=some k:=by
     rw[zeT];refine⟨by omega,by rw[hg];exact hb,λj hj=>?_⟩
     have:=vS j hj _ (zdi (by omega))
     simp[this]
    rw[this];simp only[ar,↓xo,ot (show(k:Int)<(es.length:Int) by omega),ot (show(0:Int)<=(k:Int) by omega),zde,zdf,hx,zdc,hp,hb]
   |false=>
    have qI:=ih (k+1) (by omega) (λj hj e he=>by
     by_cases h:j=k
     ·subst h;rw[hx] at he;cases he;exact hb
     ·exact vS j (by omega) e he)
    simp only[ar,↓xo,xw,ot (show(k:Int)<(es.length:Int) by omega),ot (show(0:Int)<=(k:Int) by omega),zde,zdf,hx,zdc,hp,hb,zdd,e1,qI]
 have FF:=key es.length 0 (by omega) (λj hj=>by omega)
 change ag (ar WX) ((es,((),(),()),(es.length:Int),0,()),(t,i,()))=_ at FF;unfold VY;cases hf:es.findIdx? (λe=>Od.is t i e.1) with
 |none=>
  rw[hf] at FF;simp only[fX,bg,↓xl,FF,zdc]
 |some n=>
  rw[hf] at FF;simp only[fX,bg,↓xl,FF,zdc]
theorem P9 (hl:es.length<=1000000)(t i:Int):eM WX (((),t,i,()),(hd,es,()))=some (match es.findIdx? (λe=>Od.is t i e.1) with
  |some n=>(((es.getD n ((0,0,0,0,0,0,0,0,0,()),0,())).1,true,()),(hd,es.eraseIdx n,()))|none=>(((0,0,0,0,0,0,0,0,0,()),false,()),(hd,es,()))):=by
 have hf:=Oc (hd:=hd) hl t i;unfold VY at hf;cases h:es.findIdx? (λe=>Od.is t i e.1) with
 |none=>
  rw[h] at hf;have e0:(-1:Int)<0:=by omega
  simp only[eM,hf,zdc,↓xo,ot e0,zde]
 |some n=>
  rw[h] at hf;have hn:n<es.length:=(List.findIdx?_eq_some_iff_getElem.1 h).1;have hx:=zdi hn;have K8:=GR hn hl;have e1:i64.wrap ((n:Int)+1)=((n+1:Nat):Int):=by rw[nQ (by omega) (by omega)];omega
  simp only[eM,hf,zdc,↓xo,xw,bc (show¬(n:Int)<0 by omega),zdd,ot (show 0<=(n:Int)/\(n:Int)<(es.length:Int) by omega),zde,zdf,hx,e1,K8,zdt,zex]
end
section
variable {es:List oE}{hd:Int×Unit×Unit}
theorem yq (hl:es.length<=1000000):dx WX (((),()),(hd,es,()))=some ((es.map (·.1),()),(hd,es,())):=by
 have key: ∀n k:Nat,k+n=es.length->ag (cU WX) (((),(),(),(es.length:Int),(k:Int),()),hd,es,(es.map (·.1)).take k,())=some ((es.map (·.1),()),(hd,es,())):=by
  intro n;induction n with
  |zero=>
   intro k hk;have:k=es.length:=by omega
   subst this;rw[aq];simp only[cU,↓xo,bc (show¬(es.length:Int)<(es.length:Int) by omega),zdd]
   rw[zdN (by simp)]
  |succ n ih=>
   intro k hk;have hx:=zdi (l:=es) (i:=k) (by omega)
   generalize es[k]=x at hx;have e1:i64.wrap ((k:Int)+1)=((k+1:Nat):Int):=by rw[nQ (by omega) (by omega)];omega
   have hm:(es.map (·.1))[k]?=some x.1:=by rw[zej,hx];rfl
   have ht:(es.map (·.1)).take (k+1)=(es.map (·.1)).take k++ [x.1]:=by rw[zeK,hm];rfl
   have hlen:((es.map (·.1)).take k).length=k:=by rw[zdH,zen];omega
   have qI:=ih (k+1) (by omega)
   rw[ht] at qI;rw[aq];simp only[cU,↓xo,xw,ot (show(k:Int)<(es.length:Int) by omega),zde,ot (show 0<=(k:Int)/\(k:Int)<(es.length:Int) by omega),zdf,hx,zdc,hlen,zdn,zdo,ot (show(((k+(0+1):Nat):Int))*((72:Nat):Int)<=((room:Nat):Int) by unfold room;omega),e1,qI]
 have:=key es.length 0 (by omega)
 change ag (cU WX) (((),(),(),(es.length:Int),0,()),hd,es,[],())=_ at this;simp only[dx,↓xl,this,zdc]
def oF (e:oE):Prop:=1<=e.2.1/\e.2.1<=Od.eX e.1/\Od.eX e.1<=1048576
def jH (l:List Int):Int:=l.foldr (·+·) 0
theorem nf (a b:List Int):jH (a++b)=jH a+jH b:=by
 induction a with
 |nil=>simp[jH]
 |cons x a ih=>simp only[jH,zdS,zd8] at*;omega
theorem wu {l:List Int}{m:Int}(h: ∀x∈l,0<=x/\x<=m):0<=jH l/\jH l<=m*l.length:=by
 induction l with
 |nil=>simp[jH]
 |cons x l ih=>
  have h1:=h x (zdq ..);have h2:=ih λy hy=>h y (zdp _ hy);simp only[jH,zd8,zdn] at*;rw[Int.natCast_add,Int.mul_add];omega
theorem SW (hl:es.length<=1000000)(he: ∀e∈es,oF e):gH WX (((),()),(hd,es,()))=some ((jH (es.map λe=>Od.eX e.1),()),(hd,es,())):=by
 have hb: ∀k,0<=jH ((es.map λe=>Od.eX e.1).take k)/\jH ((es.map λe=>Od.eX e.1).take k)<=1048576000000:=λk=>by
  have:=wu (l:=(es.map λe=>Od.eX e.1).take k) (m:=1048576) (λx hx=>by
   have:=zef hx;obtain⟨e,h1,rfl⟩:=List.mem_map.1 this;have:=he e h1;unfold oF at this;omega)
  have hlen:((es.map λe=>Od.eX e.1).take k).length<=1000000:=by rw[zdH,zen];omega
  refine⟨this.1,zeU this.2 ?_⟩;have:((((es.map λe=>Od.eX e.1).take k).length:Nat):Int)<=1000000:=by omega
  omega
 have key: ∀n k:Nat,k+n=es.length->ag (dm WX) (((),jH ((es.map λe=>Od.eX e.1).take k),(),(es.length:Int),(k:Int),()),hd,es,())=some ((jH (es.map λe=>Od.eX e.1),()),(hd,es,())):=by
  intro n;induction n with
  |zero=>
   intro k hk;have:k=es.length:=by omega
   subst this;rw[aq];simp only[dm,↓xo,bc (show¬(es.length:Int)<(es.length:Int) by omega),zdd]
   rw[zdN (by simp)]
  |succ n ih=>
   intro k hk;have hx:=zdi (l:=es) (i:=k) (by omega)
   generalize es[k]=x at hx;have e1:i64.wrap ((k:Int)+1)=((k+1:Nat):Int):=by rw[nQ (by omega) (by omega)];omega
   have hm:(es.map λe=>Od.eX e.1)[k]?=some (Od.eX x.1):=by rw[zej,hx];rfl
   have ht:(es.map λe=>Od.eX e.1).take (k+1)=(es.map λe=>Od.eX e.1).take k++ [Od.eX x.1]:=by rw[zeK,hm];rfl
   have hs:jH ((es.map λe=>Od.eX e.1).take (k+1))=jH ((es.map λe=>Od.eX e.1).take k)+Od.eX x.1:=by rw[ht,nf];simp[jH]
   have b1:=hb k;have b2:=hb (k+1);have qI:=ih (k+1) (by omega)
   rw[hs] at qI b2;rw[aq];have e2:i64.wrap (jH ((es.map λe=>Od.eX e.1).take k)+Od.eX x.1)=jH ((es.map λe=>Od.eX e.1).take k)+Od.eX x.1:=nQ (by omega) (by omega)
   simp only[dm,↓xo,xw,ot (show(k:Int)<(es.length:Int) by omega),zde,ot (show 0<=(k:Int)/\(k:Int)<(es.length:Int) by omega),zdf,hx,zdc,e1,e2,qI]
 have:=key es.length 0 (by omega)
 change ag (dm WX) (((),0,(),(es.length:Int),0,()),hd,es,())=_ at this;simp only[gH,↓xl,this,zdc]
def yR (e:oE)(r:List oE)(n:Int):List oE:=
 if e.2.1-n>0 then(Od.bP e.1 (Od.eX e.1-n),e.2.1-n,())::r
 else r++(if Od.eX e.1-n>0 then [(Od.bP e.1 (Od.eX e.1-n),mb (Od.bP e.1 (Od.eX e.1-n)),())] else [])
theorem VZ {e:oE}{r:List oE}(hl:r.length<=100000)(he:oF e){n:Int}(h1:1<=n)(h2:n<=e.2.1):gp WX (((),n,()),(hd,e::r,()))=some ((),(hd,yR e r n,())):=by
 obtain⟨a1,a2,a3⟩:=he;have w1:i64.wrap (e.1.2.2.2.2.2.2.1-n)=Od.eX e.1-n:=by
  show i64.wrap (Od.eX e.1-n)=_
  exact nQ (by omega) (by omega)
 have w2:i64.wrap (e.2.1-n)=e.2.1-n:=nQ (by omega) (by omega)
 have z:(0:Int).toNat=0:=rfl;have i0:0<=(0:Int)/\(0:Int)<((e::r).length:Int):=by simp only[zdn];omega
 unfold yR;by_cases h3:e.2.1-n>0
 ·simp only[gp,↓xo,xw,ot i0,zde,z,zdP,zdc,List.set_cons_zero,w1,w2,ot h3,if_pos h3,Od.bP]
 ·have K8:=GR (es:=(Od.bP e.1 (Od.eX e.1-n),e.2.1-n,())::r) (i:=0) (by simp) (by simp only[zdn];omega)
  change aT WX (((),0,1,()),_)=some (((),()),(r,())) at K8;simp only[Od.bP] at K8;by_cases h4:Od.eX e.1-n>0
  ·have ha:=EC (es:=r) (hd:=hd) (by omega) (Od.bP e.1 (Od.eX e.1-n))
   simp only[Od.bP] at ha;simp only[gp,↓xo,xw,ot i0,zde,z,zdP,zdc,List.set_cons_zero,w1,w2,bc h3,zdd,K8,ot h4,ha,if_neg h3,if_pos h4,Od.bP]
  ·simp only[gp,↓xo,xw,ot i0,zde,z,zdP,zdc,List.set_cons_zero,w1,w2,bc h3,zdd,K8,bc h4,if_neg h3,if_neg h4,zeE]
end
section
variable {es:List oE}{hd:Int×Unit×Unit}
theorem Oe {o:ek}(h1:1<=Od.eX o):1<=mb o/\mb o<=Od.eX o:=by
 unfold mb;split<;>omega
theorem Kb {e:oE}{r:List oE}{n:Int}(he:oF e)(hr: ∀x∈r,oF x)(h1:1<=n)(h2:n<=e.2.1):(∀x∈yR e r n,oF x)/\(yR e r n).length<=r.length+1:=by
 obtain⟨a1,a2,a3⟩:=he;unfold yR;have hq: ∀o q,Od.eX (Od.bP o q)=q:=λ_ _=>rfl;split
 ·rename_i h3
  refine⟨λx hx=>?_,zdz _⟩;rcases List.mem_cons.1 hx with rfl|hx
  ·exact⟨by show 1<=e.2.1-n;omega,by show e.2.1-n<=Od.eX e.1-n;omega,by show Od.eX e.1-n<=_;omega⟩
  ·exact hr x hx
 ·split
  ·rename_i h4
   refine⟨λx hx=>?_,by simp⟩
   rcases List.mem_append.1 hx with hx|hx
   ·exact hr x hx
   ·rw[zeB] at hx
    subst hx;have:=Oe (o:=Od.bP e.1 (Od.eX e.1-n)) (by rw[hq];omega)
    exact⟨this.1,this.2,by show Od.eX e.1-n<=_;omega⟩
  ·refine⟨λx hx=>?_,by simp⟩
   rw[zeE] at hx;exact hr x hx
def fI (kj:Int):Nat->Int->List oE->List oE->Bool×List oE×List oE×Int
 |0,q,es,out=>(false,out,es,q)
 |k+1,q,es,out=>if q>0 then
   (match es with
    | []=>(false,out,[],q)
    |e::r=>if e.1.2.2.1=kj then(true,out,e::r,q) else fI kj k (q-min q e.2.1) (yR e r (min q e.2.1)) (out++ [(e.1,min q e.2.1,())]))
  else(false,out,es,q)
theorem Qa (kj:Int): ∀(k:Nat) (q:Int) (es out:List oE),q<=k->q<=1048576->es.length<=100000->out.length+k<=1100000->(∀e∈es,oF e)->ag (cV WX) (((),kj,q,(),()),hd,es,out,())=
  some (if(fI kj k q es out).1 then .inl (((),true,()),hd,(fI kj k q es out).2.2.1,(fI kj k q es out).2.1,()) else .inr (((fI kj k q es out).2.1,()),hd,(fI kj k q es out).2.2.1,())):=by
 intro k;have z:(0:Int).toNat=0:=rfl;induction k with
 |zero=>
  intro q es out hq _ _ _ _;rw[aq];simp only[cV,↓xo,bc (show¬q>0 by omega),zdd,fI,zdk,if_false]
 |succ k ih=>
  intro q es out hq hq2 hl ho he;rw[aq];unfold fI;by_cases h0:q>0
  ·rw[if_pos h0]
   cases es with
   |nil=>
    have e0: ¬((([]:List oE).length:Nat):Int)>0:=by simp
    simp only[cV,↓xo,ot h0,zde,bc e0,zdd,zdk,if_false]
   |cons e r=>
    have i0:0<=(0:Int)/\(0:Int)<((e::r).length:Int):=by simp only[zdn];omega
    have i1:((e::r).length:Int)>0:=i0.2;by_cases hf:e.1.2.2.1=kj
    ·simp only[cV,↓xo,ot h0,zde,ot i1,ot i0,z,zdP,zdc,ot hf,if_pos hf,if_true]
    ·have hee:=he e (zdq ..)
     have OX:1<=min q e.2.1:=by have:=hee.1;omega
     have I1:min q e.2.1<=e.2.1:=by omega
     have hg:=VZ (hd:=hd) (e:=e) (r:=r) (by simp only[zdn] at hl;omega) hee OX I1
     have WS:=Kb hee (λx hx=>he x (zdp _ hx)) OX I1;have w1:i64.wrap (q-min q e.2.1)=q-min q e.2.1:=nQ (by omega) (by omega)
     have qI:=ih (q-min q e.2.1) (yR e r (min q e.2.1)) (out++ [(e.1,min q e.2.1,())]) (by omega) (by omega) (by simp only[zdn] at hl;omega) (by rw[zdm];simp only[zdn,zdo];omega) WS.1
     simp only[cV,↓xo,xw,uS,ot h0,zde,ot i1,ot i0,z,zdP,zdc,bc hf,zdd,ot (show(((out.length+([(e.1,min q e.2.1,())]:List oE).length:Nat):Int))*((80:Nat):Int)<=((room:Nat):Int) by unfold room;simp only[zdn,zdo];omega),hg,w1,qI,if_neg hf]
  ·rw[if_neg h0]
   simp only[cV,↓xo,bc h0,zdd,zdk,if_false]
theorem Of (kj:Int){q:Int}(h0:0<=q)(hq:q<=1048576)(hl:es.length<=100000)(he: ∀e∈es,oF e):gq WX (((),kj,q,()),(hd,es,()))=
  some (if(fI kj q.toNat q es []).1 then .inl (((),true,()),hd,(fI kj q.toNat q es []).2.2.1,(fI kj q.toNat q es []).2.1,()) else .inr (((fI kj q.toNat q es []).2.1,false,()),(hd,(fI kj q.toNat q es []).2.2.1,()))):=by
 have J4:=Qa (hd:=hd) kj q.toNat q es [] (by omega) hq hl (by simp only[zdo];omega) he
 simp only[gq,↓xl,J4,zdc];cases (fI kj q.toNat q es []).1<;>rfl
end
section
variable {es:List oE}{hd:Int×Unit×Unit}
def l7 (kj:Int)(es:List oE):Int×Bool:=match es.findIdx? (λe=>decide (e.1.2.2.1=kj)) with
 |some n=>(jH ((es.take n).map λe=>e.2.1),true)
 |none=>(jH (es.map λe=>Od.eX e.1),false)
theorem ED (he: ∀e∈es,oF e)(hl:es.length<=1000000)(k:Nat):0<=jH ((es.take k).map λe=>e.2.1)/\jH ((es.take k).map λe=>e.2.1)<=1048576000000:=by
 have:=wu (l:=(es.take k).map λe=>e.2.1) (m:=1048576) (λx hx=>by
  obtain⟨e,h1,rfl⟩:=List.mem_map.1 hx;have:=he e (zef h1);unfold oF at this;omega)
 have hlen:((es.take k).map λe=>e.2.1).length<=1000000:=by rw[zen,zdH];omega
 refine⟨this.1,zeU this.2 ?_⟩;have:(((((es.take k).map λe=>e.2.1).length:Nat)):Int)<=1000000:=by omega
 omega
theorem Kc (kj:Int)(hl:es.length<=1000000)(he: ∀e∈es,oF e):fq WX (((),kj,()),(hd,es,()))=some (((l7 kj es).1,(l7 kj es).2,()),(hd,es,())):=by
 have key: ∀n k:Nat,k+n=es.length->(∀j,j<k->∀e,es[j]?=some e->¬e.1.2.2.1=kj)->ag (cR WX) (((),kj,jH ((es.take k).map λe=>e.2.1),(),(es.length:Int),(k:Int),()),hd,es,())=
   some (match es.findIdx? (λe=>decide (e.1.2.2.1=kj)) with|some n=> .inl ((jH ((es.take n).map λe=>e.2.1),true,()),(hd,es,()))|none=> .inr (((),()),(hd,es,()))):=by
  intro n;induction n with
  |zero=>
   intro k hk vS;have:es.findIdx? (λe=>decide (e.1.2.2.1=kj))=none:=by
    rw[zeS];intro e he;obtain⟨j,hj,rfl⟩:=zdU he;exact decide_eq_false (vS j (by omega) _ (zdi hj))
   rw[aq,this];simp only[cR,↓xo,bc (show¬(k:Int)<(es.length:Int) by omega),zdd]
  |succ n ih=>
   intro k hk vS;have hx:=zdi (l:=es) (i:=k) (by omega)
   have hem:=zeq (l:=es) (n:=k) (by omega)
   generalize hg:es[k]=x at hx hem;have e1:i64.wrap ((k:Int)+1)=((k+1:Nat):Int):=by rw[nQ (by omega) (by omega)];omega
   rw[aq];by_cases hb:x.1.2.2.1=kj
   ·have:es.findIdx? (λe=>decide (e.1.2.2.1=kj))=some k:=by
     rw[zeT];refine⟨by omega,by rw[hg];exact decide_eq_true hb,λj hj=>?_⟩
     have:=vS j hj _ (zdi (by omega))
     simp[this]
    rw[this];simp only[cR,↓xo,ot (show(k:Int)<(es.length:Int) by omega),ot (show 0<=(k:Int)/\(k:Int)<(es.length:Int) by omega),zde,zdf,hx,zdc,ot hb]
   ·have ht:(es.take (k+1)).map (λe=>e.2.1)=(es.take k).map (λe=>e.2.1)++ [x.2.1]:=by rw[zeK,hx,zeV];rfl
    have hs:jH ((es.take (k+1)).map λe=>e.2.1)=jH ((es.take k).map λe=>e.2.1)+x.2.1:=by rw[ht,nf];simp[jH]
    have b1:=ED he hl k;have b2:=ED he hl (k+1);rw[hs] at b2;have w1:i64.wrap (jH ((es.take k).map λe=>e.2.1)+x.2.1)=jH ((es.take k).map λe=>e.2.1)+x.2.1:=nQ (by omega) (by omega)
    have qI:=ih (k+1) (by omega) (λj hj e he=>by
     by_cases h:j=k
     ·subst h;rw[hx] at he;cases he;exact hb
     ·exact vS j (by omega) e he)
    rw[hs] at qI;simp only[cR,↓xo,xw,ot (show(k:Int)<(es.length:Int) by omega),ot (show 0<=(k:Int)/\(k:Int)<(es.length:Int) by omega),zde,zdf,hx,zdc,bc hb,zdd,e1,w1,qI]
 have h0:=key es.length 0 (by omega) (λj hj=>by omega)
 change ag (cR WX) (((),kj,0,(),(es.length:Int),0,()),hd,es,())=_ at h0;unfold l7;cases hf:es.findIdx? (λe=>decide (e.1.2.2.1=kj)) with
 |none=>
  rw[hf] at h0;simp only[fq,↓xl,h0,zdc,SW hl he]
 |some n=>
  rw[hf] at h0;simp only[fq,↓xl,h0,zdc]
def nR (t i q:Int)(es:List oE):Bool×List oE:=match es.findIdx? (λe=>Od.is t i e.1) with
 |none=>(false,es)
 |some n=>if q<1\/q>Od.eX (es.getD n ((0,0,0,0,0,0,0,0,0,()),0,())).1 then(false,es) else
   (true,es.set n (Od.bP (es.getD n ((0,0,0,0,0,0,0,0,0,()),0,())).1 q,min (es.getD n ((0,0,0,0,0,0,0,0,0,()),0,())).2.1 q,()))
theorem Og (hl:es.length<=1000000)(t i q:Int):fD WX (((),t,i,q,()),(hd,es,()))=some (((nR t i q es).1,()),(hd,(nR t i q es).2,())):=by
 have hf:=Oc (hd:=hd) hl t i;unfold VY at hf;unfold nR;cases h:es.findIdx? (λe=>Od.is t i e.1) with
 |none=>
  rw[h] at hf;have e0:(-1:Int)<0:=by omega
  simp only[fD,hf,zdc,↓xo,ot e0,zde]
 |some n=>
  rw[h] at hf;have hn:n<es.length:=(List.findIdx?_eq_some_iff_getElem.1 h).1;have hx:=zdi hn;have hd:es.getD n ((0,0,0,0,0,0,0,0,0,()),0,())=es[n]:=by rw[zdt,hx];rfl
  simp only[hd];generalize es[n]=x at hx;have hs: ∀y,(es.set n y)[n]?=some y:=λy=>by rw[zeJ];simp[hn]
  by_cases h1:q<1
  ·simp only[fD,hf,zdc,↓xo,bc (show¬(n:Int)<0 by omega),zdd,ot h1,zde,if_pos (Or.inl h1:q<1\/q>Od.eX x.1)]
  ·by_cases h2:q>Od.eX x.1
   ·simp only[fD,hf,zdc,↓xo,bc (show¬(n:Int)<0 by omega),zdd,bc h1,ot (show 0<=(n:Int)/\(n:Int)<(es.length:Int) by omega),zde,zdf,hx,ot h2,if_pos (Or.inr h2:q<1\/q>Od.eX x.1)]
   ·have h3: ¬(q<1\/q>Od.eX x.1):=by omega
    simp only[fD,hf,zdc,↓xo,uS,bc (show¬(n:Int)<0 by omega),zdd,bc h1,ot (show 0<=(n:Int)/\(n:Int)<(es.length:Int) by omega),zde,zdf,hx,bc h2,hs,zeO,if_neg h3,Od.bP]
end
abbrev Od.side (o:ek):Int:=o.2.2.2.1
abbrev Od.kind (o:ek):Int:=o.2.2.2.2.1
abbrev Od.aY (o:ek):Int:=o.2.2.2.2.2.1
abbrev Od.stop (o:ek):Int:=o.2.2.2.2.2.2.2.2.1
def Ft (n lo hi:Int):Bool:=decide (lo<=n)&&decide (n<=hi)
theorem SX (n lo hi:Int):aK WX ((n,lo,hi,()),())=some ((Ft n lo hi,()),()):=by
 unfold Ft;by_cases h:lo<=n
 ·simp only[aK,↓xo,ot (show n>=lo from h),zde,decide_eq_true h,Bool.true_and,kJ]
 ·simp only[aK,↓xo,bc (show¬n>=lo from h),zdd,decide_eq_false h,zeW]
def nZ (o:ek):Bool:=
 (bif decide (Od.kind o=2) then decide (Od.aY o=0) else Ft (Od.aY o) 1 1048576)&& ((decide (Od.show o=0)||(decide (Od.kind o=1)||decide (Od.kind o=5)))&& ((Ft o.1 0 31&& (Ft o.2.2.1 0 7&&Ft o.2.1 0 1073741824))&& ((Ft (Od.side o) 1 2&& (Ft (Od.kind o) 1 5&&Ft (Od.eX o) 1 1048576))&& (Ft (Od.show o) 0 (Od.eX o)&&Ft (Od.stop o) 0 1048576))))
theorem AA (o:ek):eT WX ((o,()),())=some (((bif nZ o then 0 else 1),()),()):=by
 unfold nZ;simp only[eT,SX,zdc,↓xo,kJ];generalize decide (Od.kind o=2)=b1;generalize decide (Od.aY o=0)=b2;generalize Ft (Od.aY o) 1 1048576=b3;generalize decide (Od.show o=0)=b4;generalize decide (Od.kind o=1)=b5;generalize decide (Od.kind o=5)=b6;generalize Ft o.1 0 31=b7;generalize Ft o.2.2.1 0 7=b8;generalize Ft o.2.1 0 1073741824=b9;generalize Ft (Od.side o) 1 2=b10;generalize Ft (Od.kind o) 1 5=b11;generalize Ft (Od.eX o) 1 1048576=b12;generalize Ft (Od.show o) 0 (Od.eX o)=b13;generalize Ft (Od.stop o) 0 1048576=b14;cases b1<;>cases b2<;>cases b3<;>cases b4<;>cases b5<;>cases b6<;>cases b7<;>first|rfl|(cases b8<;>cases b9<;>cases b10<;>cases b11<;>cases b12<;>first|rfl|(cases b13<;>cases b14<;>rfl))
def lQ (o:ek)(p:Int):Bool:=if Od.kind o=2 then true else if Od.side o=1 then decide (Od.aY o>=p) else decide (Od.aY o<=p)
theorem vG (o:ek)(p:Int):cM WX ((o,p,()),())=some ((lQ o p,()),()):=by
 unfold lQ;by_cases h:Od.kind o=2
 ·simp only[cM,↓xo,ot h,zde,if_pos h]
 ·by_cases h2:Od.side o=1
  ·simp only[cM,↓xo,bc h,zdd,ot h2,zde,if_neg h,if_pos h2,kJ]
  ·simp only[cM,↓xo,bc h,zdd,bc h2,if_neg h,if_neg h2,kJ]
def iP (s a b:Int):Bool:=if s=1 then decide (a>b) else decide (a<b)
theorem Qb (s a b:Int):jK WX ((s,a,b,()),())=some ((iP s a b,()),()):=by
 unfold iP;by_cases h:s=1
 ·simp only[jK,↓xo,ot h,zde,if_pos h,kJ]
 ·simp only[jK,↓xo,bc h,zdd,if_neg h,kJ]
def Bu (o:ek)(l:Int):Bool:=if Od.stop o<=0 then false else if l<=0 then false else if Od.side o=1 then decide (l>=Od.stop o) else decide (l<=Od.stop o)
theorem MF (o:ek)(l:Int):kF WX ((o,l,()),())=some ((Bu o l,()),()):=by
 unfold Bu;by_cases h:Od.stop o<=0
 ·simp only[kF,↓xo,ot h,zde,if_pos h]
 ·by_cases h1:l<=0
  ·simp only[kF,↓xo,bc h,ot h1,zde,zdd,if_neg h,if_pos h1]
  ·by_cases h2:Od.side o=1
   ·simp only[kF,↓xo,bc h,bc h1,zdd,ot h2,zde,if_neg h,if_neg h1,if_pos h2,kJ]
   ·simp only[kF,↓xo,bc h,bc h1,zdd,bc h2,if_neg h,if_neg h1,if_neg h2,kJ]
abbrev MG:=(Unit×Unit×Unit)×Int×Int×Unit
abbrev o0:ek:=(0,0,0,0,0,0,0,0,0,())
def tj (st:List gF)(p:Nat)(pr:Int)(es:List oE):Prop:= ∃n,p=n+1/\st[n]?=some ((pr,(),()),es,())
def dG (st:List gF)(p:Nat):List oE:=match p with|0=> []|n+1=>(st.getD n ((0,(),()),[],())).2.1
def fK (st:List gF)(p:Nat):Int:=match p with|0=>0|n+1=>(st.getD n ((0,(),()),[],())).1.1
theorem tj.oM {st:List gF}{p:Nat}{pr:Int}{es:List oE}(h:tj st p pr es):dG st p=es/\fK st p=pr:=by
 obtain⟨n,rfl,h⟩:=h;simp only[dG,fK,zdt,h,zex,and_self]
def Cg (t i:Int)(st:List gF)(p:Nat):Option ek:=((dG st p).map (·.1)).find? (Od.is t i)
def Ch (st:List gF)(l:List Nat):Prop:=l.length<=1000/\∀p∈l,∃pr es,tj st p pr es/\es.length<=100000
section
variable {hdr:MG}{bs ss:List Nat}{st:List gF}{t i:Int}
theorem Oh (s idx a b c:Int)(os:List ek)(hl:os.length<=1000000)(hs:s=0\/s=1)(oz:ek):
  ag (cz WX) (((),t,i,(),s,idx,a,(),b,c,os,(os.length:Int),0,()),hdr,bs,ss,oz,st,())=
   some (match os.find? (Od.is t i) with|some o=>(if s=0 then .inl (((),idx,(),()),hdr,o,bs,ss,st,()) else .inr (.inl (((),idx,(),()),hdr,o,bs,ss,st,())))|none=> .inr (.inr (((),t,i,(),s,a,(),b,c,()),hdr,oz,bs,ss,st,()))):=by
 have key: ∀n k:Nat,k+n=os.length->(∀j,j<k->∀e,os[j]?=some e->Od.is t i e=false)->ag (cz WX) (((),t,i,(),s,idx,a,(),b,c,os,(os.length:Int),(k:Int),()),hdr,bs,ss,oz,st,())=
   some (match os.find? (Od.is t i) with|some o=>(if s=0 then .inl (((),idx,(),()),hdr,o,bs,ss,st,()) else .inr (.inl (((),idx,(),()),hdr,o,bs,ss,st,())))|none=> .inr (.inr (((),t,i,(),s,a,(),b,c,()),hdr,oz,bs,ss,st,()))):=by
  intro n;induction n with
  |zero=>
   intro k hk vS;have:os.find? (Od.is t i)=none:=by
    rw[List.find?_eq_none];intro e he;obtain⟨j,hj,rfl⟩:=zdU he;rw[vS j (by omega) _ (zdi hj)]
    simp
   rw[aq,this];simp only[cz,↓xo,bc (show¬(k:Int)<(os.length:Int) by omega),zdd]
  |succ n ih=>
   intro k hk vS;have hx:=zdi (l:=os) (i:=k) (by omega)
   generalize hg:os[k]=x at hx;have e1:i64.wrap ((k:Int)+1)=((k+1:Nat):Int):=by rw[nQ (by omega) (by omega)];omega
   have qI:Od.is t i x=false->_:=λhb=>ih (k+1) (by omega) (λj hj e he=>by
    by_cases h:j=k
    ·subst h;rw[hx] at he;cases he;exact hb
    ·exact vS j (by omega) e he)
   rw[aq];by_cases h1:x.1=t
   ·by_cases h2:x.2.1=i
    ·have hb:Od.is t i x=true:=decide_eq_true ⟨h1,h2⟩
     have:os.find? (Od.is t i)=some x:=by
      rw[List.find?_eq_some_iff_getElem];refine⟨hb,k,by omega,hg,λj hj=>?_⟩
      have:=vS j hj _ (zdi (by omega))
      simp[this]
     rw[this];rcases hs with rfl|rfl
     ·have z0:(0:Int)=((0:Nat):Int):=rfl
      simp only[cz,↓xo,ot (show(k:Int)<(os.length:Int) by omega),ot (show(0:Int)<=(k:Int) by omega),zde,zdf,hx,zdc,ot h1,ot h2,ot z0,if_true]
     ·have z0: ¬(1:Int)=((0:Nat):Int):=by omega
      have z1:(1:Int)=((1:Nat):Int):=rfl;have z2: ¬(1:Int)=0:=by omega
      simp only[cz,↓xo,ot (show(k:Int)<(os.length:Int) by omega),ot (show(0:Int)<=(k:Int) by omega),zde,zdf,hx,zdc,ot h1,ot h2,bc z0,zdd,ot z1,if_neg z2]
    ·have Ud:=qI (decide_eq_false (λq=>h2 q.2))
     simp only[cz,↓xo,xw,ot (show(k:Int)<(os.length:Int) by omega),ot (show(0:Int)<=(k:Int) by omega),zde,zdf,hx,zdc,ot h1,bc h2,zdd,e1,Ud]
   ·have Ud:=qI (decide_eq_false (λq=>h1 q.1))
    simp only[cz,↓xo,xw,ot (show(k:Int)<(os.length:Int) by omega),ot (show(0:Int)<=(k:Int) by omega),zde,zdf,hx,zdc,bc h1,zdd,e1,Ud]
 exact key os.length 0 (by omega) (λj hj=>by omega)
theorem Ci:eL WX=cz WX:=rfl
def jX (t i:Int)(st:List gF):List Nat->Option (Nat×ek)
 | []=>none
 |p::ps=>match Cg t i st p with|some o=>some (0,o)|none=>(jX t i st ps).map λx=>(x.1+1,x.2)
theorem V0 (h:Ch st bs)(a:Int)(oz:ek):ag (eC WX) (((),t,i,(),0,a,(),(bs.length:Int),0,()),hdr,bs,ss,oz,st,())=
  some (match jX t i st bs with|some (m,o)=> .inl (((),(m:Int),(),()),hdr,o,bs,ss,st,())|none=> .inr (.inr (((),t,i,(),a,()),hdr,oz,bs,ss,st,()))):=by
 have key: ∀n k:Nat,k+n=bs.length->ag (eC WX) (((),t,i,(),0,a,(),(bs.length:Int),(k:Int),()),hdr,bs,ss,oz,st,())=
   some (match jX t i st (bs.drop k) with|some (m,o)=> .inl (((),((k+m:Nat):Int),(),()),hdr,o,bs,ss,st,())|none=> .inr (.inr (((),t,i,(),a,()),hdr,oz,bs,ss,st,()))):=by
  intro n;induction n with
  |zero=>
   intro k hk;have:bs.drop k=[]:=zeI (by omega)
   rw[aq,this];simp only[eC,↓xo,bc (show¬(k:Int)<(bs.length:Int) by omega),zdd,jX]
  |succ n ih=>
   intro k hk;have sZ:k<bs.length:=by omega
   have hx:=zdi sZ;obtain⟨pr,es,hp,Oi⟩:=h.2 _ (zeq sZ);have hd:bs.drop k=bs[k]::bs.drop (k+1):=zeX sZ;generalize bs[k]=p at hx hp hd;have kP:=hp.oM;obtain⟨m,rfl,hm⟩:=hp;have e1:i64.wrap ((k:Int)+1)=((k+1:Nat):Int):=by rw[nQ (by omega) (by have:=h.1;omega)];omega
   have ho:=yq (es:=es) (hd:=(pr,(),())) (by omega)
   have h8:=Oh (hdr:=hdr) (bs:=bs) (ss:=ss) (st:=st) (t:=t) (i:=i) 0 (k:Int) a (bs.length:Int) (k:Int) (es.map (·.1)) (by rw[zen];omega) (.inl rfl) oz
   have qI:=ih (k+1) (by omega)
   rw[aq,hd];simp only[jX,Cg,kP.1];cases hf:(es.map (·.1)).find? (Od.is t i) with
   |some o=>
    rw[hf] at h8;simp only[if_true] at h8;simp only[eC,↓xo,ot (show(k:Int)<(bs.length:Int) by omega),ot (show 0<=(k:Int)/\(k:Int)<(bs.length:Int) by omega),zde,zdf,hx,zdc,al,hm,ho,aI hm,↓xl,h8,zec]
   |none=>
    rw[hf] at h8;simp only[eC,↓xo,xw,ot (show(k:Int)<(bs.length:Int) by omega),ot (show 0<=(k:Int)/\(k:Int)<(bs.length:Int) by omega),zde,zdf,hx,zdc,al,hm,ho,aI hm,↓xl,h8,e1,qI]
    cases jX t i st (bs.drop (k+1)) with
    |none=>rfl
    |some x=>simp only[zds];rw[show k+1+x.1=k+(x.1+1) by omega]
 have:=key bs.length 0 (by omega)
 simp only[zeN,zd2] at this;exact this
theorem SY (h:Ch st ss)(a:Int)(oz:ek):ag (dO WX) (((),t,i,(),1,a,(),(ss.length:Int),0,()),hdr,bs,ss,oz,st,())=
  some (match jX t i st ss with|some (m,o)=> .inr (.inl (((),(m:Int),(),()),hdr,o,bs,ss,st,()))|none=> .inr (.inr (((),t,i,(),a,()),hdr,oz,bs,ss,st,()))):=by
 have key: ∀n k:Nat,k+n=ss.length->ag (dO WX) (((),t,i,(),1,a,(),(ss.length:Int),(k:Int),()),hdr,bs,ss,oz,st,())=
   some (match jX t i st (ss.drop k) with|some (m,o)=> .inr (.inl (((),((k+m:Nat):Int),(),()),hdr,o,bs,ss,st,()))|none=> .inr (.inr (((),t,i,(),a,()),hdr,oz,bs,ss,st,()))):=by
  intro n;induction n with
  |zero=>
   intro k hk;have:ss.drop k=[]:=zeI (by omega)
   rw[aq,this];simp only[dO,↓xo,bc (show¬(k:Int)<(ss.length:Int) by omega),zdd,jX]
  |succ n ih=>
   intro k hk;have sZ:k<ss.length:=by omega
   have hx:=zdi sZ;obtain⟨pr,es,hp,Oi⟩:=h.2 _ (zeq sZ);have hd:ss.drop k=ss[k]::ss.drop (k+1):=zeX sZ;generalize ss[k]=p at hx hp hd;have kP:=hp.oM;obtain⟨m,rfl,hm⟩:=hp;have e1:i64.wrap ((k:Int)+1)=((k+1:Nat):Int):=by rw[nQ (by omega) (by have:=h.1;omega)];omega
   have ho:=yq (es:=es) (hd:=(pr,(),())) (by omega)
   have h8:=Oh (hdr:=hdr) (bs:=bs) (ss:=ss) (st:=st) (t:=t) (i:=i) 1 (k:Int) a (ss.length:Int) (k:Int) (es.map (·.1)) (by rw[zen];omega) (.inr rfl) oz
   have qI:=ih (k+1) (by omega)
   rw[aq,hd];simp only[jX,Cg,kP.1];cases hf:(es.map (·.1)).find? (Od.is t i) with
   |some o=>
    rw[hf] at h8;simp only[if_neg (show¬(1:Int)=0 by omega)] at h8
    simp only[dO,↓xo,ot (show(k:Int)<(ss.length:Int) by omega),ot (show 0<=(k:Int)/\(k:Int)<(ss.length:Int) by omega),zde,zdf,hx,zdc,al,hm,ho,aI hm,↓xl,Ci,h8,zec]
   |none=>
    rw[hf] at h8;simp only[dO,↓xo,xw,ot (show(k:Int)<(ss.length:Int) by omega),ot (show 0<=(k:Int)/\(k:Int)<(ss.length:Int) by omega),zde,zdf,hx,zdc,al,hm,ho,aI hm,↓xl,Ci,h8,e1,qI]
    cases jX t i st (ss.drop (k+1)) with
    |none=>rfl
    |some x=>simp only[zds];rw[show k+1+x.1=k+(x.1+1) by omega]
 have:=key ss.length 0 (by omega)
 simp only[zeN,zd2] at this;exact this
theorem EE (hb:Ch st bs)(hs:Ch st ss):fR WX (((),t,i,()),(hdr,bs,ss,st,()))=some (match jX t i st bs with
  |some (m,o)=> .inl (((),(m:Int),o,()),(hdr,bs,ss,st,()))
  |none=>match jX t i st ss with
   |some (m,o)=> .inr (.inl (((),(m:Int),o,()),(hdr,bs,ss,st,())))
   |none=> .inr (.inr (((),0,o0,()),(hdr,bs,ss,st,())))):=by
 have h5:=V0 (hdr:=hdr) (ss:=ss) (t:=t) (i:=i) hb 0 o0;have h5b:=SY (hdr:=hdr) (bs:=bs) (t:=t) (i:=i) hs 1 o0;have e0:(0:Int)<2:=by omega
 have e1:(1:Int)<2:=by omega
 have z0:(0:Int)=((0:Nat):Int):=rfl;have z1: ¬(1:Int)=((0:Nat):Int):=by omega
 have z2:(1:Int)=((1:Nat):Int):=rfl;have w1:i64.wrap (0+1)=1:=by rw[nQ (by omega) (by omega)];rfl
 have w2:i64.wrap (1+1)=2:=by rw[nQ (by omega) (by omega)];rfl
 have e2: ¬(2:Int)<2:=by omega
 have hl:ag (dV WX) (((),t,i,(),0,()),hdr,bs,ss,o0,st,())=some (match jX t i st bs with
   |some (m,o)=> .inl (((),(m:Int),(),()),hdr,o,bs,ss,st,())
   |none=>match jX t i st ss with
    |some (m,o)=> .inr (.inl (((),(m:Int),(),()),hdr,o,bs,ss,st,()))
    |none=> .inr (.inr (((),()),hdr,o0,bs,ss,st,()))):=by
  rw[aq];cases hf:jX t i st bs with
  |some x=>
   rw[hf] at h5;simp only[dV,↓xo,ot e0,zde,ot z0,↓xl,h5,zdc]
  |none=>
   rw[hf] at h5;simp only[dV,↓xo,xw,ot e0,zde,ot z0,↓xl,h5,zdc,w1];rw[aq];cases xy:jX t i st ss with
   |some x=>
    rw[xy] at h5b;simp only[dV,↓xo,ot e1,zde,bc z1,zdd,ot z2,↓xl,h5b,zdc]
   |none=>
    rw[xy] at h5b;simp only[dV,↓xo,xw,ot e1,zde,bc z1,zdd,ot z2,↓xl,h5b,zdc,w2];rw[aq];simp only[dV,↓xo,bc e2,zdd]
 cases hf:jX t i st bs with
 |some x=>
  rw[hf] at hl;simp only[fR,↓xl,hl,zdc]
 |none=>
  rw[hf] at hl;cases xy:jX t i st ss with
  |some x=>
   rw[xy] at hl;simp only[fR,↓xl,hl,zdc]
  |none=>
   rw[xy] at hl;simp only[fR,↓xl,hl,zdc]
end
theorem SZ {l:List Nat}{st:List gF}{i:Nat}(h:i<l.length)(hl:l.length<=1000000):aZ WX (((),(i:Int),((i+1:Nat):Int),()),(l,st,()))=some (((),()),(l.eraseIdx i,st,())):=by
 have e0:((i:Int)-(0:Int)).toNat=i:=by omega
 have e1:(l.drop (i+1)).length=l.length-(i+1):=by rw[zdI]
 have e2:l.take (0+i)++l.drop (i+1)++l.drop (0+i+(l.length-(i+1)))=l.eraseIdx i++l.drop (l.length-1):=by
  rw[zd2,zeQ,show i+(l.length-(i+1))=l.length-1 by omega]
 have e3:(l.eraseIdx i).length=l.length-1:=zeR h;have e4:i+(l.length-(i+1))=l.length-1:=by omega
 have e5:(l.drop (l.length-1)).length=1:=by rw[zdI];omega
 have e6: ∀X:List Nat,(l.eraseIdx i++X).take (l.length-1)=l.eraseIdx i:=λX=>by rw[List.take_append_of_le_length (by omega),zdN (by omega)]
 simp only[aZ,↓xo,ot (show 0<=(i:Int)/\(i:Int)<=((i+1:Nat):Int)/\((i+1:Nat):Int)<=(l.length:Int)/\(l.length:Int)<=(l.length:Int) by omega),zde,bc (show¬(i:Int)=((i+1:Nat):Int) by omega),zdd,ot (show 0<=(0:Int)/\(0:Int)<=(i:Int)/\(i:Int)<=(l.length:Int) by omega),
  ot (show 0<=((i+1:Nat):Int)/\((i+1:Nat):Int)<=(l.length:Int) by omega),e0,zdf,e1,ot (show 0+i+(l.length-(i+1))<=l.length by omega),e2,e4]
 simp only[e6,zeN,List.append_assoc,ot (show 0<=((l.length-1:Nat):Int)/\((l.length-1:Nat):Int)<=(l.length:Int)/\(l.length:Int)<=(((l.eraseIdx i++l.drop (l.length-1)).length-0:Nat):Int) by rw[zdm,e3,e5];omega),zde]
section
variable {hdr:MG}{bs ss:List Nat}{st:List gF}{t i:Int}
def mJ (l:List Nat)(m:Nat)(es:List oE):List Nat:=if es=[] then l.eraseIdx m else l
theorem Kd {m p:Nat}{pr:Int}{es:List oE}(h:bs[m]?=some p)(hp:tj st p pr es)(hl:bs.length<=1000):jn WX (((),(m:Int),()),(hdr,bs,ss,st,()))=some ((),(hdr,mJ bs m es,ss,st,())):=by
 have hm:=(List.getElem?_eq_some_iff.1 h).1;obtain⟨n,rfl,hn⟩:=hp;have hd:=SZ (st:=st) hm (by omega)
 have e1:i64.wrap ((m:Int)+1)=((m+1:Nat):Int):=by rw[nQ (by omega) (by omega)];omega
 unfold mJ;by_cases h0:es=[]
 ·subst h0
  have z:((([]:List oE).length:Nat):Int)=0:=rfl;simp only[jn,↓xo,xw,ot (show 0<=(m:Int)/\(m:Int)<(bs.length:Int) by omega),zde,zdf,h,zdc,al,hn,dz,ot z,aI hn,e1,hd,if_true]
 ·have z: ¬((es.length:Nat):Int)=0:=λe=>h0 (zdM (by omega))
  simp only[jn,↓xo,ot (show 0<=(m:Int)/\(m:Int)<(bs.length:Int) by omega),zde,zdf,h,zdc,al,hn,dz,bc z,zdd,aI hn,if_neg h0]
theorem GS {m p:Nat}{pr:Int}{es:List oE}(h:ss[m]?=some p)(hp:tj st p pr es)(hl:ss.length<=1000):gx WX (((),(m:Int),()),(hdr,bs,ss,st,()))=some ((),(hdr,bs,mJ ss m es,st,())):=by
 have hm:=(List.getElem?_eq_some_iff.1 h).1;obtain⟨n,rfl,hn⟩:=hp;have hd:=SZ (st:=st) hm (by omega)
 have e1:i64.wrap ((m:Int)+1)=((m+1:Nat):Int):=by rw[nQ (by omega) (by omega)];omega
 unfold mJ;by_cases h0:es=[]
 ·subst h0
  have z:((([]:List oE).length:Nat):Int)=0:=rfl;simp only[gx,↓xo,xw,ot (show 0<=(m:Int)/\(m:Int)<(ss.length:Int) by omega),zde,zdf,h,zdc,al,hn,dz,ot z,aI hn,e1,hd,if_true]
 ·have z: ¬((es.length:Nat):Int)=0:=λe=>h0 (zdM (by omega))
  simp only[gx,↓xo,ot (show 0<=(m:Int)/\(m:Int)<(ss.length:Int) by omega),zde,zdf,h,zdc,al,hn,dz,bc z,zdd,aI hn,if_neg h0]
theorem tU: ∀{l:List Nat} {m:Nat} {o:ek},jX t i st l=some (m,o)->∃p,l[m]?=some p/\Cg t i st p=some o
 | [],_,_,h=>by cases h
 |p::ps,m,o,h=>by
  simp only[jX] at h;cases e:Cg t i st p with
  |some x=>rw[e] at h;cases h;exact⟨p,rfl,e⟩
  |none=>
   rw[e] at h;simp only at h;cases e2:jX t i st ps with
   |none=>rw[e2] at h;cases h
   |some y=>
    rw[e2] at h;obtain⟨m',o'⟩:=y;cases h;obtain⟨q,h1,h2⟩:=tU e2;exact⟨q,by simpa using h1,h2⟩
theorem Ke (hb:Ch st bs)(hs:Ch st ss):fk WX (((),t,i,()),(hdr,bs,ss,st,()))=some ((match jX t i st bs with|some (_,o)=>(o,true,())|none=>match jX t i st ss with|some (_,o)=>(o,true,())|none=>(o0,false,())),(hdr,bs,ss,st,())):=by
 have h:=EE (hdr:=hdr) (t:=t) (i:=i) hb hs;cases hf:jX t i st bs with
 |some x=>rw[hf] at h;simp only[fk,h,zdc]
 |none=>
  rw[hf] at h;cases xy:jX t i st ss with
  |some x=>rw[xy] at h;simp only[fk,h,zdc]
  |none=>rw[xy] at h;simp only[fk,h,zdc]
def ql (t i:Int)(es:List oE):List oE:=match es.findIdx? (λe=>Od.is t i e.1) with|some n=>es.eraseIdx n|none=>es
theorem EF {es:List oE}{hd:Int×Unit×Unit}(hl:es.length<=1000000){o:ek}(h:(es.map (·.1)).find? (Od.is t i)=some o):eM WX (((),t,i,()),(hd,es,()))=some ((o,true,()),(hd,ql t i es,())):=by
 rw[P9 hl];unfold ql;rw[List.find?_map] at h;simp only[zd9] at h;obtain⟨e,h1,rfl⟩:=h;have h2:=h1;rw[List.find?_eq_some_iff_getElem] at h2;obtain⟨h3,n,hn,h4,h5⟩:=h2;have:es.findIdx? (λe=>Od.is t i e.1)=some n:=by
  rw[zeT];refine⟨hn,by rw[h4];exact h3,λj hj=>?_⟩
  have:=h5 j hj;simpa using this
 rw[this];simp only[zdt,zdi hn,zex,h4]
end
def ko (st:List gF)(p:Nat)(es:List oE):List gF:=st.set (p-1) ((fK st p,(),()),es,())
section
variable {hdr:MG}{bs ss:List Nat}{st:List gF}{t i:Int}
theorem tj.put {p:Nat}{pr:Int}{es oa:List oE}(h:tj st p pr es):tj (ko st p oa) p pr oa:=by
 have he:=h.oM;obtain⟨n,rfl,hn⟩:=h;refine⟨n,rfl,?_⟩;unfold ko;rw[he.2];have:=(List.getElem?_eq_some_iff.1 hn).1;show(st.set n _)[n]?=_
 rw[zeJ];simp[this]
theorem tj.tD {p q:Nat}{pr:Int}{es oa:List oE}(h:tj st q pr es)(lR:q≠p)(hp:p≠0):tj (ko st p oa) q pr es:=by
 obtain⟨n,rfl,hn⟩:=h;refine⟨n,rfl,?_⟩;unfold ko;rw[zdR (by omega)];exact hn
def EG (t i:Int)(bs ss:List Nat)(st:List gF):ek×Bool×List Nat×List Nat×List gF:=match jX t i st bs with
 |some (m,o)=>(o,true,mJ bs m (ql t i (dG st (bs.getD m 0))),ss,ko st (bs.getD m 0) (ql t i (dG st (bs.getD m 0))))
 |none=>match jX t i st ss with
  |some (m,o)=>(o,true,bs,mJ ss m (ql t i (dG st (ss.getD m 0))),ko st (ss.getD m 0) (ql t i (dG st (ss.getD m 0))))
  |none=>(o0,false,bs,ss,st)
theorem MH (hb:Ch st bs)(hs:Ch st ss):fY WX (((),t,i,()),(hdr,bs,ss,st,()))=some (((EG t i bs ss st).1,(EG t i bs ss st).2.1,()),(hdr,(EG t i bs ss st).2.2.1,(EG t i bs ss st).2.2.2.1,(EG t i bs ss st).2.2.2.2,())):=by
 have h:=EE (hdr:=hdr) (t:=t) (i:=i) hb hs;unfold EG;cases hf:jX t i st bs with
 |some x=>
  rw[hf] at h;obtain⟨m,o⟩:=x;obtain⟨p,h1,h2⟩:=tU hf;have hm:=(List.getElem?_eq_some_iff.1 h1).1;obtain⟨pr,es,h3,h4⟩:=hb.2 p (zee h1);have h5:=h3.oM;have h6:=h3;obtain⟨n,rfl,hn⟩:=h6;simp only[Cg,h5.1] at h2;have hr:=EF (hd:=(pr,(),())) (by omega) h2
  have EH:=Kd (hdr:=hdr) (ss:=ss) (es:=ql t i es) h1 (h3.put (oa:=ql t i es)) hb.1;have hg:bs.getD m 0=n+1:=by rw[zdt,h1];rfl
  have CR:ko st (n+1) (ql t i es)=st.set n ((pr,(),()),ql t i es,()):=by unfold ko;rw[h5.2];rfl
  rw[CR] at EH;simp only[fY,h,zdc,↓xo,ot (show 0<=(m:Int)/\(m:Int)<(bs.length:Int) by omega),zde,zdf,h1,al,hn,hr,EH,hg,h5.1,CR]
 |none=>
  rw[hf] at h;cases xy:jX t i st ss with
  |some x=>
   rw[xy] at h;obtain⟨m,o⟩:=x;obtain⟨p,h1,h2⟩:=tU xy;have hm:=(List.getElem?_eq_some_iff.1 h1).1;obtain⟨pr,es,h3,h4⟩:=hs.2 p (zee h1);have h5:=h3.oM;have h6:=h3;obtain⟨n,rfl,hn⟩:=h6;simp only[Cg,h5.1] at h2;have hr:=EF (hd:=(pr,(),())) (by omega) h2
   have EH:=GS (hdr:=hdr) (bs:=bs) (es:=ql t i es) h1 (h3.put (oa:=ql t i es)) hs.1;have hg:ss.getD m 0=n+1:=by rw[zdt,h1];rfl
   have CR:ko st (n+1) (ql t i es)=st.set n ((pr,(),()),ql t i es,()):=by unfold ko;rw[h5.2];rfl
   rw[CR] at EH;simp only[fY,h,zdc,↓xo,ot (show 0<=(m:Int)/\(m:Int)<(ss.length:Int) by omega),zde,zdf,h1,al,hn,hr,EH,hg,h5.1,CR]
  |none=>
   rw[xy] at h;simp only[fY,h,zdc]
def IA (t i q:Int)(bs ss:List Nat)(st:List gF):Bool×List gF:=match jX t i st bs with
 |some (m,_)=>((nR t i q (dG st (bs.getD m 0))).1,ko st (bs.getD m 0) (nR t i q (dG st (bs.getD m 0))).2)
 |none=>match jX t i st ss with
  |some (m,_)=>((nR t i q (dG st (ss.getD m 0))).1,ko st (ss.getD m 0) (nR t i q (dG st (ss.getD m 0))).2)
  |none=>(false,st)
theorem S2 (hb:Ch st bs)(hs:Ch st ss)(q:Int):gM WX (((),t,i,q,()),(hdr,bs,ss,st,()))=some (((IA t i q bs ss st).1,()),(hdr,bs,ss,(IA t i q bs ss st).2,())):=by
 have h:=EE (hdr:=hdr) (t:=t) (i:=i) hb hs;unfold IA;cases hf:jX t i st bs with
 |some x=>
  rw[hf] at h;obtain⟨m,o⟩:=x;obtain⟨p,h1,h2⟩:=tU hf;have hm:=(List.getElem?_eq_some_iff.1 h1).1;obtain⟨pr,es,h3,h4⟩:=hb.2 p (zee h1);have h5:=h3.oM;obtain⟨n,rfl,hn⟩:=h3;have hr:=Og (hd:=(pr,(),())) (es:=es) (by omega) t i q
  have hg:bs.getD m 0=n+1:=by rw[zdt,h1];rfl
  have CR:ko st (n+1) (nR t i q es).2=st.set n ((pr,(),()),(nR t i q es).2,()):=by unfold ko;rw[h5.2];rfl
  simp only[gM,h,zdc,↓xo,ot (show 0<=(m:Int)/\(m:Int)<(bs.length:Int) by omega),zde,zdf,h1,al,hn,hr,hg,h5.1,CR]
 |none=>
  rw[hf] at h;cases xy:jX t i st ss with
  |some x=>
   rw[xy] at h;obtain⟨m,o⟩:=x;obtain⟨p,h1,h2⟩:=tU xy;have hm:=(List.getElem?_eq_some_iff.1 h1).1;obtain⟨pr,es,h3,h4⟩:=hs.2 p (zee h1);have h5:=h3.oM;obtain⟨n,rfl,hn⟩:=h3;have hr:=Og (hd:=(pr,(),())) (es:=es) (by omega) t i q
   have hg:ss.getD m 0=n+1:=by rw[zdt,h1];rfl
   have CR:ko st (n+1) (nR t i q es).2=st.set n ((pr,(),()),(nR t i q es).2,()):=by unfold ko;rw[h5.2];rfl
   simp only[gM,h,zdc,↓xo,ot (show 0<=(m:Int)/\(m:Int)<(ss.length:Int) by omega),zde,zdf,h1,al,hn,hr,hg,h5.1,CR]
  |none=>
   rw[xy] at h;simp only[gM,h,zdc]
def pq (st:List gF)(l:List Nat):Int:=jH (l.map λp=>((dG st p).length:Int))
theorem IB (h:Ch st bs)(k:Nat):0<=pq st (bs.take k)/\pq st (bs.take k)<=100000000:=by
 have:=wu (l:=(bs.take k).map λp=>((dG st p).length:Int)) (m:=100000) (λx hx=>by
  obtain⟨p,h1,rfl⟩:=List.mem_map.1 hx;obtain⟨pr,es,h2,h3⟩:=h.2 p (zef h1);rw[h2.oM.1];omega)
 have hlen:((bs.take k).map λp=>((dG st p).length:Int)).length<=1000:=by rw[zen,zdH];have:=h.1;omega
 refine⟨this.1,zeU this.2 ?_⟩;have:(((((bs.take k).map λp=>((dG st p).length:Int)).length:Nat)):Int)<=1000:=by omega
 omega
theorem ZG (h:Ch st bs)(c:Int)(hc:0<=c/\c<=1000000000)(z:Int):ag (fB WX) (((),c,((),(),()),z,(),(bs.length:Int),0,()),hdr,bs,ss,st,())=some (((),c+pq st bs,((),(),()),z,()),hdr,bs,ss,st,()):=by
 have key: ∀n k:Nat,k+n=bs.length->ag (fB WX) (((),c+pq st (bs.take k),((),(),()),z,(),(bs.length:Int),(k:Int),()),hdr,bs,ss,st,())=some (((),c+pq st bs,((),(),()),z,()),hdr,bs,ss,st,()):=by
  intro n;induction n with
  |zero=>
   intro k hk;have:bs.take k=bs:=zdN (by omega)
   rw[aq,this];simp only[fB,↓xo,bc (show¬(k:Int)<(bs.length:Int) by omega),zdd]
  |succ n ih=>
   intro k hk;have sZ:k<bs.length:=by omega
   have hx:=zdi sZ;obtain⟨pr,es,hp,Oi⟩:=h.2 _ (zeq sZ);generalize bs[k]=p at hx hp;have kP:=hp.oM;have ht:pq st (bs.take (k+1))=pq st (bs.take k)+(es.length:Int):=by
    unfold pq;rw[zeK,hx,zeV,nf];simp[jH,kP.1]
   obtain⟨m,rfl,hm⟩:=hp;have b1:=IB h k;have e1:i64.wrap ((k:Int)+1)=((k+1:Nat):Int):=by rw[nQ (by omega) (by have:=h.1;omega)];omega
   have e2:i64.wrap (c+pq st (bs.take k)+(es.length:Int))=c+pq st (bs.take (k+1)):=by rw[nQ (by omega) (by omega),ht];omega
   have qI:=ih (k+1) (by omega)
   rw[aq];simp only[fB,↓xo,xw,ot (show(k:Int)<(bs.length:Int) by omega),ot (show 0<=(k:Int)/\(k:Int)<(bs.length:Int) by omega),zde,zdf,hx,zdc,al,hm,dz,aI hm,e1,e2,qI]
 have:=key bs.length 0 (by omega)
 have e:c+pq st (bs.take 0)=c:=by simp[pq,jH]
 rw[e] at this;exact this
end
section
variable {hdr:MG}{bs ss:List Nat}{st:List gF}{t i:Int}
theorem V1 (h:Ch st ss)(c:Int)(hc:0<=c/\c<=1000000000)(z:Int):ag (eQ WX) (((),c,((),(),()),z,(),(ss.length:Int),0,()),hdr,bs,ss,st,())=some (((),c+pq st ss,((),(),()),z,()),hdr,bs,ss,st,()):=by
 have key: ∀n k:Nat,k+n=ss.length->ag (eQ WX) (((),c+pq st (ss.take k),((),(),()),z,(),(ss.length:Int),(k:Int),()),hdr,bs,ss,st,())=some (((),c+pq st ss,((),(),()),z,()),hdr,bs,ss,st,()):=by
  intro n;induction n with
  |zero=>
   intro k hk;have:ss.take k=ss:=zdN (by omega)
   rw[aq,this];simp only[eQ,↓xo,bc (show¬(k:Int)<(ss.length:Int) by omega),zdd]
  |succ n ih=>
   intro k hk;have sZ:k<ss.length:=by omega
   have hx:=zdi sZ;obtain⟨pr,es,hp,Oi⟩:=h.2 _ (zeq sZ);generalize ss[k]=p at hx hp;have kP:=hp.oM;have ht:pq st (ss.take (k+1))=pq st (ss.take k)+(es.length:Int):=by
    unfold pq;rw[zeK,hx,zeV,nf];simp[jH,kP.1]
   obtain⟨m,rfl,hm⟩:=hp;have b1:=IB h k;have e1:i64.wrap ((k:Int)+1)=((k+1:Nat):Int):=by rw[nQ (by omega) (by have:=h.1;omega)];omega
   have e2:i64.wrap (c+pq st (ss.take k)+(es.length:Int))=c+pq st (ss.take (k+1)):=by rw[nQ (by omega) (by omega),ht];omega
   have qI:=ih (k+1) (by omega)
   rw[aq];simp only[eQ,↓xo,xw,ot (show(k:Int)<(ss.length:Int) by omega),ot (show 0<=(k:Int)/\(k:Int)<(ss.length:Int) by omega),zde,zdf,hx,zdc,al,hm,dz,aI hm,e1,e2,qI]
 have:=key ss.length 0 (by omega)
 have e:c+pq st (ss.take 0)=c:=by simp[pq,jH]
 rw[e] at this;exact this
theorem Oj (hb:Ch st bs)(hs:Ch st ss):iu WX (((),()),(hdr,bs,ss,st,()))=some ((pq st bs+pq st ss,()),(hdr,bs,ss,st,())):=by
 have c1:=IB hb bs.length;rw[zeu] at c1;have h1:=ZG (hdr:=hdr) (ss:=ss) hb 0 (by omega) 0
 have h2:=V1 (hdr:=hdr) (bs:=bs) hs (pq st bs) (by omega) 1
 have e0:(0:Int)<2:=by omega
 have e1:(1:Int)<2:=by omega
 have e2: ¬(2:Int)<2:=by omega
 have z0:(0:Int)=((0:Nat):Int):=rfl;have z1: ¬(1:Int)=((0:Nat):Int):=by omega
 have z2:(1:Int)=((1:Nat):Int):=rfl;have w1:i64.wrap (0+1)=1:=by rw[nQ (by omega) (by omega)];rfl
 have w2:i64.wrap (1+1)=2:=by rw[nQ (by omega) (by omega)];rfl
 rw[Int.zero_add] at h1;have hl:ag (fC WX) (((),0,((),(),()),0,()),hdr,bs,ss,st,())=some ((pq st bs+pq st ss,()),(hdr,bs,ss,st,())):=by
  rw[aq];simp only[fC,↓xo,xw,ot e0,zde,ot z0,↓xl,h1,zdc,w1];rw[aq];simp only[fC,↓xo,xw,ot e1,zde,bc z1,zdd,ot z2,↓xl,h2,zdc,w2];rw[aq];simp only[fC,↓xo,bc e2,zdd]
 simp only[iu,↓xl,hl,zdc]
def qB (st:List gF)(l:List Nat):List ek:=l.flatMap λp=>(dG st p).map (·.1)
theorem S5 (l:List Nat):((qB st l).length:Int)=pq st l:=by
 unfold qB pq;induction l with
 |nil=>rfl
 |cons p l ih=>simp only[zd0,zdm,zen,zea,jH,zd8] at*;omega
theorem Kf {l:List Nat}(h:Ch st l)(k:Nat):(qB st (l.take k)).length<=100000000:=by
 have h1:=S5 (st:=st) (l.take k);have h2:=IB h k;omega
theorem Qc (h:Ch st bs):ag (dJ WX) (((),(),(),(bs.length:Int),0,()),hdr,bs,ss,[],st,())=some ((qB st bs,()),hdr,bs,ss,st,()):=by
 have key: ∀n k:Nat,k+n=bs.length->ag (dJ WX) (((),(),(),(bs.length:Int),(k:Int),()),hdr,bs,ss,qB st (bs.take k),st,())=some ((qB st bs,()),hdr,bs,ss,st,()):=by
  intro n;induction n with
  |zero=>
   intro k hk;have:bs.take k=bs:=zdN (by omega)
   rw[aq,this];simp only[dJ,↓xo,bc (show¬(k:Int)<(bs.length:Int) by omega),zdd]
  |succ n ih=>
   intro k hk;have sZ:k<bs.length:=by omega
   have hx:=zdi sZ;obtain⟨pr,es,hp,Oi⟩:=h.2 _ (zeq sZ);generalize bs[k]=p at hx hp;have kP:=hp.oM;have ht:qB st (bs.take (k+1))=qB st (bs.take k)++es.map (·.1):=by
    unfold qB;rw[zeK,hx,List.flatMap_append];simp[kP.1]
   have b1:=Kf h k;obtain⟨m,rfl,hm⟩:=hp;have e1:i64.wrap ((k:Int)+1)=((k+1:Nat):Int):=by rw[nQ (by omega) (by have:=h.1;omega)];omega
   have ho:=yq (es:=es) (hd:=(pr,(),())) (by omega)
   have qI:=ih (k+1) (by omega)
   rw[ht] at qI;rw[aq];simp only[dJ,↓xo,xw,ot (show(k:Int)<(bs.length:Int) by omega),ot (show 0<=(k:Int)/\(k:Int)<(bs.length:Int) by omega),zde,zdf,hx,zdc,al,hm,ho,aI hm,ot (show(((qB st (bs.take k)).length+(es.map (·.1)).length:Nat):Int)*((72:Nat):Int)<=((room:Nat):Int) by rw[zen];unfold room;omega),e1,qI]
 have:=key bs.length 0 (by omega)
 exact this
theorem MI (h:Ch st ss):ag (dg WX) (((),(),(),(ss.length:Int),0,()),hdr,bs,ss,[],st,())=some ((qB st ss,()),hdr,bs,ss,st,()):=by
 have key: ∀n k:Nat,k+n=ss.length->ag (dg WX) (((),(),(),(ss.length:Int),(k:Int),()),hdr,bs,ss,qB st (ss.take k),st,())=some ((qB st ss,()),hdr,bs,ss,st,()):=by
  intro n;induction n with
  |zero=>
   intro k hk;have:ss.take k=ss:=zdN (by omega)
   rw[aq,this];simp only[dg,↓xo,bc (show¬(k:Int)<(ss.length:Int) by omega),zdd]
  |succ n ih=>
   intro k hk;have sZ:k<ss.length:=by omega
   have hx:=zdi sZ;obtain⟨pr,es,hp,Oi⟩:=h.2 _ (zeq sZ);generalize ss[k]=p at hx hp;have kP:=hp.oM;have ht:qB st (ss.take (k+1))=qB st (ss.take k)++es.map (·.1):=by
    unfold qB;rw[zeK,hx,List.flatMap_append];simp[kP.1]
   have b1:=Kf h k;obtain⟨m,rfl,hm⟩:=hp;have e1:i64.wrap ((k:Int)+1)=((k+1:Nat):Int):=by rw[nQ (by omega) (by have:=h.1;omega)];omega
   have ho:=yq (es:=es) (hd:=(pr,(),())) (by omega)
   have qI:=ih (k+1) (by omega)
   rw[ht] at qI;rw[aq];simp only[dg,↓xo,xw,ot (show(k:Int)<(ss.length:Int) by omega),ot (show 0<=(k:Int)/\(k:Int)<(ss.length:Int) by omega),zde,zdf,hx,zdc,al,hm,ho,aI hm,ot (show(((qB st (ss.take k)).length+(es.map (·.1)).length:Nat):Int)*((72:Nat):Int)<=((room:Nat):Int) by rw[zen];unfold room;omega),e1,qI]
 have:=key ss.length 0 (by omega)
 exact this
theorem Dg (s:Int)(hs:s=1\/s=2)(x:MG×List Nat×List Nat×List gF×Unit):eI WX (((),s,()),x)=some (if s=1 then .inr (.inl (((),()),x)) else .inr (.inr (((),()),x))):=by
 rcases hs with rfl|rfl
 ·have w:i64.wrap (1-1)=((0:Nat):Int):=by rw[nQ (by omega) (by omega)];rfl
  simp only[eI,↓xo,xw,eq_self,iD,zdg,zdd,w,zde,if_true]
 ·have w:i64.wrap (2-1)=1:=by rw[nQ (by omega) (by omega)];rfl
  have e1: ¬(2:Int)=1:=by omega
  have z1: ¬(1:Int)=((0:Nat):Int):=by omega
  have z2:(1:Int)=((1:Nat):Int):=rfl;simp only[eI,↓xo,xw,bc e1,zdh,zde,eq_self,iD,zdg,zdd,w,bc z1,ot z2,if_neg e1]
theorem zp (o:ek)(hs:Od.side o=1\/Od.side o=2)(x:MG×List Nat×List Nat×List gF×Unit):dX WX (((),o,()),x)=some (if Od.side o=1 then .inr (.inr (((),()),x)) else .inr (.inl (((),()),x))):=by
 have w:i64.wrap (3-Od.side o)=3-Od.side o:=nQ (by omega) (by omega)
 have h:=Dg (3-Od.side o) (by omega) x
 rcases hs with h1|h1
 ·rw[if_neg (by omega)] at h
  simp only[dX,xw,w,h,zdc,if_pos h1]
 ·rw[if_pos (by omega)] at h
  have h2: ¬Od.side o=1:=by omega
  simp only[dX,xw,w,h,zdc,if_neg h2]
theorem MJ (hb:Ch st bs)(hs:Ch st ss)(s:Int)(h:s=1\/s=2):fA WX (((),s,()),(hdr,bs,ss,st,()))=some (.inr ((qB st (if s=1 then bs else ss),()),(hdr,bs,ss,st,()))):=by
 have h0:=Dg s h (hdr,bs,ss,st,());have h1:=Qc (hdr:=hdr) (ss:=ss) hb;have h2:=MI (hdr:=hdr) (bs:=bs) hs;by_cases e:s=1
 ·rw[if_pos e] at h0
  simp only[fA,h0,zdc,↓xl,h1,if_pos e]
 ·rw[if_neg e] at h0
  simp only[fA,h0,zdc,↓xl,h2,if_neg e]
end
def yE (st:List gF)(l:List Nat):Prop:=Ch st l/\∀p∈l,∀e∈dG st p,oF e
def qm (o:ek)(st:List gF):List Nat->Int->Bool
 | [],_=>false
 |p::ps,q=>if(!lQ o (fK st p))=true then false else if(l7 o.2.2.1 (dG st p)).1>=q then true else if(l7 o.2.2.1 (dG st p)).2=true then false else qm o st ps (q-(l7 o.2.2.1 (dG st p)).1)
theorem Cj (kj:Int){es:List oE}(hl:es.length<=1000000)(he: ∀e∈es,oF e):0<=(l7 kj es).1/\(l7 kj es).1<=1048576000000:=by
 unfold l7;split
 ·exact ED he hl _
 ·have:=wu (l:=es.map λe=>Od.eX e.1) (m:=1048576) (λx hx=>by
   obtain⟨e,h1,rfl⟩:=List.mem_map.1 hx;have:=he e h1;unfold oF at this;omega)
  rw[zen] at this;refine⟨this.1,zeU this.2 ?_⟩;have:((es.length:Nat):Int)<=1000000:=by omega
  omega
def iR (o:ek):Bool:=decide (Od.kind o=1)||decide (Od.kind o=5)
theorem iU (o:ek):jO WX ((o,()),())=some ((iR o,()),()):=by
 unfold iR;by_cases h:Od.kind o=1
 ·simp only[jO,↓xo,ot h,zde,decide_eq_true h,Bool.true_or]
 ·simp only[jO,↓xo,bc h,zdd,decide_eq_false h,zeD,kJ]
section
variable {hdr:MG}{bs ss:List Nat}{st:List gF}{t i:Int}
theorem S6 (h:yE st bs)(o:ek): ∀(n k:Nat) (q:Int),k+n=bs.length->1<=q->q<=1048576->∃o',ag (c8 WX) (((),(),(),(bs.length:Int),(k:Int),()),hdr,bs,ss,Od.bP o q,st,())=some (if qm o st (bs.drop k) q then .inr ((true,()),hdr,o',bs,ss,st,()) else .inl ((),hdr,o',bs,ss,st,())):=by
 intro n;induction n with
 |zero=>
  intro k q hk h1 h2;have:bs.drop k=[]:=zeI (by omega)
  refine⟨Od.bP o q,?_⟩;rw[aq,this];simp only[c8,↓xo,bc (show¬(k:Int)<(bs.length:Int) by omega),zdd,qm,zdk,if_false]
 |succ n ih=>
  intro k q hk h1 h2;have sZ:k<bs.length:=by omega
  have hx:=zdi sZ;have tf:=zeq sZ;obtain⟨pr,es,hp,Oi⟩:=h.1.2 _ tf;have mc:=h.2 _ tf;have hd:bs.drop k=bs[k]::bs.drop (k+1):=zeX sZ;generalize bs[k]=p at hx hp hd mc;have kP:=hp.oM;rw[kP.1] at mc;obtain⟨m,rfl,hm⟩:=hp;have e1:i64.wrap ((k:Int)+1)=((k+1:Nat):Int):=by rw[nQ (by omega) (by have:=h.1.1;omega)];omega
  have hc:cM WX ((Od.bP o q,pr,()),())=some ((lQ o pr,()),()):=vG (Od.bP o q) pr;have hr:=Kc (hd:=(pr,(),())) (es:=es) o.2.2.1 (by omega) mc
  rw[aq,hd];simp only[qm,kP.1,kP.2];cases CS:lQ o pr with
  |false=>
   refine⟨Od.bP o q,?_⟩;rw[CS] at hc;simp only[c8,↓xo,ot (show(k:Int)<(bs.length:Int) by omega),ot (show 0<=(k:Int)/\(k:Int)<(bs.length:Int) by omega),zde,zdf,hx,zdc,al,hm,ah,hc,zdh,zdk,if_false,if_true,aI hm,zdg]
  |true=>
   rw[CS] at hc;simp only[zdg,zdk,if_false];have hq:(Od.bP o q).2.2.2.2.2.2.1=q:=rfl;have hf:(Od.bP o q).2.2.1=o.2.2.1:=rfl;have b0:=Cj o.2.2.1 (es:=es) (by omega) mc
   by_cases so:(l7 o.2.2.1 es).1>=q
   ·refine⟨Od.bP o q,?_⟩
    rw[if_pos so];simp only[c8,↓xo,ot (show(k:Int)<(bs.length:Int) by omega),ot (show 0<=(k:Int)/\(k:Int)<(bs.length:Int) by omega),zde,zdf,hx,zdc,al,hm,ah,hc,zdg,zdd,aI hm,hf,hr,hq,ot so,if_true]
   ·rw[if_neg so]
    have w1:i64.wrap (q-(l7 o.2.2.1 es).1)=q-(l7 o.2.2.1 es).1:=nQ (by omega) (by omega)
    cases ta:(l7 o.2.2.1 es).2 with
    |true=>
     refine⟨Od.bP o (q-(l7 o.2.2.1 es).1),?_⟩;simp only[c8,↓xo,xw,ot (show(k:Int)<(bs.length:Int) by omega),ot (show 0<=(k:Int)/\(k:Int)<(bs.length:Int) by omega),zde,zdf,hx,zdc,al,hm,ah,hc,zdg,zdd,aI hm,hf,hr,hq,bc so,ta,w1,if_true,zdk,if_false]
     rfl
    |false=>
     obtain⟨o',qI⟩:=ih (k+1) (q-(l7 o.2.2.1 es).1) (by omega) (by omega) (by omega)
     refine⟨o',?_⟩;simp only[Od.bP] at qI;simp only[c8,↓xo,xw,ot (show(k:Int)<(bs.length:Int) by omega),ot (show 0<=(k:Int)/\(k:Int)<(bs.length:Int) by omega),zde,zdf,hx,zdc,al,hm,ah,hc,zdg,zdd,aI hm,hf,hr,hq,bc so,ta,w1,e1,zdk,if_false]
     simp only[Od.bP,qI]
theorem Qd (h:yE st ss)(o:ek): ∀(n k:Nat) (q:Int),k+n=ss.length->1<=q->q<=1048576->∃o',ag (cF WX) (((),(),(),(ss.length:Int),(k:Int),()),hdr,bs,ss,Od.bP o q,st,())=some (if qm o st (ss.drop k) q then .inr ((true,()),hdr,o',bs,ss,st,()) else .inl ((),hdr,o',bs,ss,st,())):=by
 intro n;induction n with
 |zero=>
  intro k q hk h1 h2;have:ss.drop k=[]:=zeI (by omega)
  refine⟨Od.bP o q,?_⟩;rw[aq,this];simp only[cF,↓xo,bc (show¬(k:Int)<(ss.length:Int) by omega),zdd,qm,zdk,if_false]
 |succ n ih=>
  intro k q hk h1 h2;have sZ:k<ss.length:=by omega
  have hx:=zdi sZ;have tf:=zeq sZ;obtain⟨pr,es,hp,Oi⟩:=h.1.2 _ tf;have mc:=h.2 _ tf;have hd:ss.drop k=ss[k]::ss.drop (k+1):=zeX sZ;generalize ss[k]=p at hx hp hd mc;have kP:=hp.oM;rw[kP.1] at mc;obtain⟨m,rfl,hm⟩:=hp;have e1:i64.wrap ((k:Int)+1)=((k+1:Nat):Int):=by rw[nQ (by omega) (by have:=h.1.1;omega)];omega
  have hc:cM WX ((Od.bP o q,pr,()),())=some ((lQ o pr,()),()):=vG (Od.bP o q) pr;have hr:=Kc (hd:=(pr,(),())) (es:=es) o.2.2.1 (by omega) mc
  rw[aq,hd];simp only[qm,kP.1,kP.2];cases CS:lQ o pr with
  |false=>
   refine⟨Od.bP o q,?_⟩;rw[CS] at hc;simp only[cF,↓xo,ot (show(k:Int)<(ss.length:Int) by omega),ot (show 0<=(k:Int)/\(k:Int)<(ss.length:Int) by omega),zde,zdf,hx,zdc,al,hm,ah,hc,zdh,zdk,if_false,if_true,aI hm,zdg]
  |true=>
   rw[CS] at hc;simp only[zdg,zdk,if_false];have hq:(Od.bP o q).2.2.2.2.2.2.1=q:=rfl;have hf:(Od.bP o q).2.2.1=o.2.2.1:=rfl;have b0:=Cj o.2.2.1 (es:=es) (by omega) mc
   by_cases so:(l7 o.2.2.1 es).1>=q
   ·refine⟨Od.bP o q,?_⟩
    rw[if_pos so];simp only[cF,↓xo,ot (show(k:Int)<(ss.length:Int) by omega),ot (show 0<=(k:Int)/\(k:Int)<(ss.length:Int) by omega),zde,zdf,hx,zdc,al,hm,ah,hc,zdg,zdd,aI hm,hf,hr,hq,ot so,if_true]
   ·rw[if_neg so]
    have w1:i64.wrap (q-(l7 o.2.2.1 es).1)=q-(l7 o.2.2.1 es).1:=nQ (by omega) (by omega)
    cases ta:(l7 o.2.2.1 es).2 with
    |true=>
     refine⟨Od.bP o (q-(l7 o.2.2.1 es).1),?_⟩;simp only[cF,↓xo,xw,ot (show(k:Int)<(ss.length:Int) by omega),ot (show 0<=(k:Int)/\(k:Int)<(ss.length:Int) by omega),zde,zdf,hx,zdc,al,hm,ah,hc,zdg,zdd,aI hm,hf,hr,hq,bc so,ta,w1,if_true,zdk,if_false]
     rfl
    |false=>
     obtain⟨o',qI⟩:=ih (k+1) (q-(l7 o.2.2.1 es).1) (by omega) (by omega) (by omega)
     refine⟨o',?_⟩;simp only[Od.bP] at qI;simp only[cF,↓xo,xw,ot (show(k:Int)<(ss.length:Int) by omega),ot (show 0<=(k:Int)/\(k:Int)<(ss.length:Int) by omega),zde,zdf,hx,zdc,al,hm,ah,hc,zdg,zdd,aI hm,hf,hr,hq,bc so,ta,w1,e1,zdk,if_false]
     simp only[Od.bP,qI]
theorem Ck (o:ek):Od.bP o (Od.eX o)=o:=rfl
theorem Qe (hb:yE st bs)(hs:yE st ss)(o:ek)(Lx:Od.side o=1\/Od.side o=2)(hq:1<=Od.eX o/\Od.eX o<=1048576):eg WX (((),o,()),(hdr,bs,ss,st,()))=some ((qm o st (if Od.side o=1 then ss else bs) (Od.eX o),()),(hdr,bs,ss,st,())):=by
 have ha:=zp o Lx (hdr,bs,ss,st,());by_cases h1:Od.side o=1
 ·obtain⟨o',h⟩:=Qd (hdr:=hdr) (bs:=bs) hs o ss.length 0 (Od.eX o) (by omega) hq.1 hq.2
  change ag (cF WX) (((),(),(),(ss.length:Int),0,()),hdr,bs,ss,o,st,())=_ at h;rw[zeN] at h;rw[if_pos h1] at ha;rw[if_pos h1];simp only[eg,ha,zdc,↓xl,h];cases qm o st ss (Od.eX o)<;>rfl
 ·obtain⟨o',h⟩:=S6 (hdr:=hdr) (ss:=ss) hb o bs.length 0 (Od.eX o) (by omega) hq.1 hq.2
  change ag (c8 WX) (((),(),(),(bs.length:Int),0,()),hdr,bs,ss,o,st,())=_ at h;rw[zeN] at h;rw[if_neg h1] at ha;rw[if_neg h1];simp only[eg,ha,zdc,↓xl,h];cases qm o st bs (Od.eX o)<;>rfl
end
def zq (hs:List oE):Prop:= ∀h∈hs,1<=h.2.1
def ju (hs:List oE):Int:=jH (hs.map λh=>h.2.1)
theorem F2 (a b:List oE):ju (a++b)=ju a+ju b:=by unfold ju;rw[zeV,nf]
theorem EI (kj:Int): ∀(k:Nat) (q:Int) (es out:List oE),0<=q->q<=k->(∀e∈es,oF e)->zq out->
  zq (fI kj k q es out).2.1/\ju (fI kj k q es out).2.1+(fI kj k q es out).2.2.2=ju out+q/\0<=(fI kj k q es out).2.2.2/\(fI kj k q es out).2.2.2<=q/\(∀e∈(fI kj k q es out).2.2.1,oF e)/\(fI kj k q es out).2.2.1.length<=es.length/\
   ((fI kj k q es out).1=true->(fI kj k q es out).2.2.1≠ [])/\((fI kj k q es out).1=false->(fI kj k q es out).2.2.2=0\/(fI kj k q es out).2.2.1=[])/\(fI kj k q es out).2.1.length<=out.length+k:=by
 intro k;induction k with
 |zero=>
  intro q es out h0 hq he ho;unfold fI;exact⟨ho,rfl,h0,zei _,he,zdz _,λh=>(by cases h),λ_=> .inl (by show q=0;omega),zdz _⟩
 |succ k ih=>
  intro q es out h0 hq he ho;unfold fI;by_cases hq0:q>0
  ·rw[if_pos hq0]
   cases es with
   |nil=>exact⟨ho,rfl,h0,zei _,he,zdz _,λh=>(by cases h),λ_=> .inr rfl,by show out.length<=_;omega⟩
   |cons e r=>
    simp only;by_cases hf:e.1.2.2.1=kj
    ·rw[if_pos hf]
     exact⟨ho,rfl,h0,zei _,he,zdz _,λ_=>(λh=>by cases h),λh=>(by cases h),by show out.length<=_;omega⟩
    ·rw[if_neg hf]
     have hee:=he e (zdq ..);have OX:1<=min q e.2.1:=by have:=hee.1;omega
     have I1:min q e.2.1<=e.2.1:=by omega
     have hg:=Kb hee (λx hx=>he x (zdp _ hx)) OX I1;have mS:zq (out++ [(e.1,min q e.2.1,())]):=λh hh=>by
      rcases List.mem_append.1 hh with hh|hh
      ·exact ho h hh
      ·rw[zeB] at hh;subst hh;exact OX
     obtain⟨i1,i2,i3,i4,i5,i6,i7,i8,i9⟩:=ih (q-min q e.2.1) (yR e r (min q e.2.1)) (out++ [(e.1,min q e.2.1,())]) (by omega) (by omega) hg.1 mS
     have hs:ju (out++ [(e.1,min q e.2.1,())])=ju out+min q e.2.1:=by rw[F2];simp[ju,jH]
     rw[hs] at i2;refine⟨i1,by omega,i3,by omega,i5,?_,i7,i8,?_⟩
     ·have:=hg.2;simp only[zdn];omega
     ·rw[zdm] at i9;simp only[zdn,zdo] at i9;omega
  ·rw[if_neg hq0]
   exact⟨ho,rfl,h0,zei _,he,zdz _,λh=>(by cases h),λ_=> .inl (by show q=0;omega),by show out.length<=_;omega⟩
def mK (aY:Int):List oE->Int×ek×List ni->Int×ek×List ni
 | [],s=>s
 |h::r,(no,o,out)=>mK aY r (i64.wrap (no+1),Od.bP o (Od.eX o-h.2.1),out++ [(h.1,o,aY,h.2.1,i64.wrap (no+1),())])
def rB (aY last:Int)(hs:List oE):Int:=if hs=[] then last else aY
section
variable {bs ss:List Nat}{st:List gF}
theorem Xt (aY:Int)(own:Bool): ∀(hs:List oE) (pre:List oE) (last no:Int) (o:ek) (out:List ni),zq hs->ju hs<=Od.eX o->Od.eX o<=1048576->(pre++hs).length<=2000000->out.length+hs.length<=100000000->
  ag (cI WX) (((),(),(),(),aY,own,pre++hs,((pre++hs).length:Int),(pre.length:Int),()),(((),(),()),last,no,()),bs,ss,o,out,st,())=
   some (((),(),(),(),own,()),(((),(),()),rB aY last hs,(mK aY hs (no,o,out)).1,()),(mK aY hs (no,o,out)).2.1,bs,ss,(mK aY hs (no,o,out)).2.2,st,()):=by
 intro hs;induction hs with
 |nil=>
  intro pre last no o out _ _ _ _ _;rw[aq];simp only[cI,↓xo,zeE,bc (show¬(pre.length:Int)<(pre.length:Int) by omega),zdd,mK,rB,if_true]
 |cons h r ih=>
  intro pre last no o out hh hs hq hl ho;have h1:=hh h (zdq ..);have Xa:ju (h::r)=h.2.1+ju r:=by simp[ju,jH]
  have hr0:0<=ju r:=by
   unfold ju;have: ∀l:List oE,zq l->0<=jH (l.map λh=>h.2.1):=by
    intro l;induction l with
    |nil=>intro _;simp[jH]
    |cons x l ihl=>
     intro hx;have a:=hx x (zdq ..);have b:=ihl λy hy=>hx y (zdp _ hy);simp only[zea,jH,zd8] at*;omega
   exact this r λx hx=>hh x (zdp _ hx)
  rw[Xa] at hs;have hx:(pre++h::r)[pre.length]?=some h:=by simp
  have hlen:(pre++h::r).length=pre.length+(r.length+1):=by simp
  have e1:i64.wrap ((pre.length:Int)+1)=(((pre++ [h]).length:Nat):Int):=by rw[nQ (by omega) (by omega),zdm];simp
  have w1:i64.wrap (o.2.2.2.2.2.2.1-h.2.1)=Od.eX o-h.2.1:=by
   show i64.wrap (Od.eX o-h.2.1)=_
   exact nQ (by omega) (by omega)
  have hpp:pre++h::r=(pre++ [h])++r:=by simp
  have hl1:rB aY aY r=aY:=by unfold rB;split<;>rfl
  have hl2:rB aY last (h::r)=aY:=by unfold rB;rw[if_neg (by intro e;cases e)]
  have uo:Od.eX (Od.bP o (Od.eX o-h.2.1))=Od.eX o-h.2.1:=rfl;have qI:=ih (pre++ [h]) aY (i64.wrap (no+1)) (Od.bP o (Od.eX o-h.2.1)) (out++ [(h.1,o,aY,h.2.1,i64.wrap (no+1),())]) (λx hx=>hh x (zdp _ hx)) (by rw[uo];omega) (by rw[uo];omega) (by rw[<-hpp];exact hl) (by rw[zdm];simp only[zdn,zdo] at*;omega)
  rw[<-hpp,hl1] at qI;simp only[Od.bP] at qI;have pP:(((out.length+([(h.1,o,aY,h.2.1,i64.wrap (no+1),())]:List ni).length:Nat):Int))*((168:Nat):Int)<=((room:Nat):Int):=by
   unfold room;simp only[zdn,zdo] at*;omega
  rw[aq];simp only[cI,↓xo,xw,ot (show(pre.length:Int)<((pre++h::r).length:Int) by omega),ot (show(0:Int)<=(pre.length:Int) by omega),zde,zdf,hx,zdc,ot pP,e1,w1,qI,mK,hl2,Od.bP]
theorem MK:ez WX=cI WX:=rfl
theorem Bv (aY:Int): ∀(hs:List oE) (no:Int) (o:ek) (out:List ni),∃q,(mK aY hs (no,o,out)).2.1=Od.bP o q/\q=Od.eX o-ju hs
 | [],no,o,out=>⟨Od.eX o,rfl,by simp[ju,jH]⟩
 |h::r,no,o,out=>by
  obtain⟨q,h1,h2⟩:=Bv aY r (i64.wrap (no+1)) (Od.bP o (Od.eX o-h.2.1)) (out++ [(h.1,o,aY,h.2.1,i64.wrap (no+1),())]);refine⟨q,h1,?_⟩;have:ju (h::r)=h.2.1+ju r:=by simp[ju,jH]
  rw[this,h2];show Od.eX o-h.2.1-ju r=_
  omega
end
def gU (o:ek):List Nat->List gF->Int->Int->Int->List ni->Bool×Int×List Nat×List gF×Int×Int×List ni
 | [],st,q,last,no,out=>(false,q,[],st,last,no,out)
 |p::ps,st,q,last,no,out=>
  if q>0/\lQ o (fK st p)=true then
   (if(fI o.2.2.1 q.toNat q (dG st p) []).1=true then(true,(fI o.2.2.1 q.toNat q (dG st p) []).2.2.2,p::ps,ko st p (fI o.2.2.1 q.toNat q (dG st p) []).2.2.1,rB (fK st p) last (fI o.2.2.1 q.toNat q (dG st p) []).2.1,(mK (fK st p) (fI o.2.2.1 q.toNat q (dG st p) []).2.1 (no,Od.bP o q,out)).1,(mK (fK st p) (fI o.2.2.1 q.toNat q (dG st p) []).2.1 (no,Od.bP o q,out)).2.2)
   else if(fI o.2.2.1 q.toNat q (dG st p) []).2.2.1=[] then gU o ps (ko st p (fI o.2.2.1 q.toNat q (dG st p) []).2.2.1) (fI o.2.2.1 q.toNat q (dG st p) []).2.2.2 (rB (fK st p) last (fI o.2.2.1 q.toNat q (dG st p) []).2.1) (mK (fK st p) (fI o.2.2.1 q.toNat q (dG st p) []).2.1 (no,Od.bP o q,out)).1 (mK (fK st p) (fI o.2.2.1 q.toNat q (dG st p) []).2.1 (no,Od.bP o q,out)).2.2
   else(false,(fI o.2.2.1 q.toNat q (dG st p) []).2.2.2,p::ps,ko st p (fI o.2.2.1 q.toNat q (dG st p) []).2.2.1,rB (fK st p) last (fI o.2.2.1 q.toNat q (dG st p) []).2.1,(mK (fK st p) (fI o.2.2.1 q.toNat q (dG st p) []).2.1 (no,Od.bP o q,out)).1,(mK (fK st p) (fI o.2.2.1 q.toNat q (dG st p) []).2.1 (no,Od.bP o q,out)).2.2))
  else(false,q,p::ps,st,last,no,out)
theorem Kg {hs:List oE}(h:zq hs):(hs.length:Int)<=ju hs:=by
 unfold ju;induction hs with
 |nil=>simp[jH]
 |cons x l ih=>
  have a:=h x (zdq ..);have b:=ih λy hy=>h y (zdp _ hy);simp only[zea,jH,zd8,zdn] at*;omega
theorem Bw (aY:Int): ∀(hs:List oE) (no:Int) (o:ek) (out:List ni),(mK aY hs (no,o,out)).2.2.length=out.length+hs.length
 | [],_,_,_=>rfl
 |h::r,no,o,out=>by
  simp only[mK];rw[Bw aY r];simp only[zdm,zdn,zdo];omega
theorem EJ {st:List gF}{p q:Nat}{oa:List oE}(lR:q≠p)(hp:p≠0):dG (ko st p oa) q=dG st q:=by
 cases q with
 |zero=>rfl
 |succ n=>
  unfold ko dG;simp only[zdt];rw[zdR (by omega)]
theorem GU {st:List gF}{p:Nat}{ps:List Nat}{oa:List oE}(hk:yE st (p::ps))(hn:(p::ps).Nodup):yE (ko st p oa) ps:=by
 have hnp:=(List.nodup_cons.1 hn).1;obtain⟨pr,es,hp,_⟩:=hk.1.2 p (zdq ..);have hp0:p≠0:=by obtain⟨n,rfl,_⟩:=hp;omega
 refine⟨⟨by have:=hk.1.1;simp only[zdn] at this;omega,λq hq=>?_⟩,λq hq e he=>?_⟩
 ·obtain⟨V2,S7,h1,h2⟩:=hk.1.2 q (zdp _ hq)
  exact⟨V2,S7,h1.tD (by rintro rfl;exact hnp hq) hp0,h2⟩
 ·rw[EJ (by rintro rfl;exact hnp hq) hp0] at he
  exact hk.2 q (zdp _ hq) e he
section
variable {bs ss:List Nat}
theorem ZH {hdr:MG}{bs ss:List Nat}{st:List gF}{m p:Nat}{pr:Int}{es:List oE}(l0:bs[m]?=some p)(hp:tj st p pr es)(hl:bs.length<=1000):jn WX (((),(m:Int),()),(hdr,bs,ss,st,()))=some ((),(hdr,mJ bs m es,ss,st,())):=Kd l0 hp hl
theorem ZI {hdr:MG}{bs ss:List Nat}{st:List gF}{m p:Nat}{pr:Int}{es:List oE}(l0:ss[m]?=some p)(hp:tj st p pr es)(hl:ss.length<=1000):gx WX (((),(m:Int),()),(hdr,bs,ss,st,()))=some ((),(hdr,bs,mJ ss m es,st,())):=GS l0 hp hl
theorem S8 (o:ek): ∀(l:List Nat) (st:List gF) (q last no:Int) (out:List ni),0<=q->q<=1048576->(out.length:Int)+q<=50000000->yE st l->l.Nodup->
  ag (bX WX) (((),(),(),(),()),(((),(),()),last,no,()),l,ss,Od.bP o q,out,st,())=
   some (if(gU o l st q last no out).1=true then .inl (((),(gU o l st q last no out).2.1,true,()),(((),(),()),(gU o l st q last no out).2.2.2.2.1,(gU o l st q last no out).2.2.2.2.2.1,()),Od.bP o (gU o l st q last no out).2.1,(gU o l st q last no out).2.2.1,ss,(gU o l st q last no out).2.2.2.2.2.2,(gU o l st q last no out).2.2.2.1,())
    else .inr (((),(gU o l st q last no out).2.2.2.2.2.2,()),(((),(),()),(gU o l st q last no out).2.2.2.2.1,(gU o l st q last no out).2.2.2.2.2.1,()),Od.bP o (gU o l st q last no out).2.1,(gU o l st q last no out).2.2.1,ss,(gU o l st q last no out).2.2.2.1,())):=by
 intro l;have z:(0:Int).toNat=0:=rfl;induction l with
 |nil=>
  intro st q last no out h0 h1 ho hk hn;rw[aq];have hz: ¬((([]:List Nat).length:Nat):Int)>0:=by simp
  by_cases hq:q>0
  ·have uo:(Od.bP o q).2.2.2.2.2.2.1>0:=hq
   simp only[bX,↓xo,ot uo,zde,bc hz,zdd,gU,zdk,if_false]
  ·have uo: ¬(Od.bP o q).2.2.2.2.2.2.1>0:=hq
   simp only[bX,↓xo,bc uo,zdd,gU,zdk,if_false]
 |cons p ps ih=>
  intro st q last no out h0 h1 ho hk hn;have i0:0<=(0:Int)/\(0:Int)<(((p::ps).length:Nat):Int):=by simp only[zdn];omega
  have i1:(((p::ps).length:Nat):Int)>0:=i0.2;rw[aq];by_cases hq:q>0
  ·have uo:(Od.bP o q).2.2.2.2.2.2.1>0:=hq
   obtain⟨pr,es,hp,Oi⟩:=hk.1.2 p (zdq ..);have mc:=hk.2 p (zdq ..);have kP:=hp.oM;rw[kP.1] at mc;have hc:cM WX ((Od.bP o q,pr,()),())=some ((lQ o pr,()),()):=vG (Od.bP o q) pr;have ZJ: ∀oa,tj (ko st p oa) p pr oa:=λoa=>hp.put;have Xu:=hp;obtain⟨m,rfl,hm⟩:=Xu;have CR: ∀oa,ko st (m+1) oa=st.set m ((pr,(),()),oa,()):=λoa=>by unfold ko;rw[kP.2];rfl
   cases CS:lQ o pr with
   |false=>
    rw[CS] at hc;simp only[bX,↓xo,ot uo,ot i1,ot i0,z,zdP,zde,zdc,al,hm,ah,hc,zdd,aI hm,gU,kP.2,CS,zdk,and_false,if_false]
   |true=>
    rw[CS] at hc;have ht:=Of (hd:=(pr,(),())) (es:=es) o.2.2.1 h0 h1 (by have:=hk.1.1;have:=Oi;omega) mc
    obtain⟨t1,t2,t3,t4,t5,t6,t7,t8,t9⟩:=EI o.2.2.1 q.toNat q es [] h0 (by omega) mc (λh hh=>by cases hh)
    have hf:(Od.bP o q).2.2.1=o.2.2.1:=rfl;have ZK:(Od.bP o q).2.2.2.2.2.2.1=q:=rfl;simp only[gU,kP.1,kP.2,CS,and_true,if_pos hq];generalize fI o.2.2.1 q.toNat q es []=T at*;obtain⟨own,rp,oa,q'⟩:=T;simp only at*;have X5:ju rp=q-q':=by have:ju ([]:List oE)=0:=rfl;omega
    have hlen:=Kg t1;have h7:=Xt (bs:=(m+1)::ps) (ss:=ss) (st:=st.set m ((pr,(),()),oa,())) pr own rp [] last no (Od.bP o q) out t1 (by show ju rp<=q;omega) (by show q<=1048576;omega) (by simp only[zed];omega) (by omega)
    obtain⟨q2,e1,e2⟩:=Bv pr rp no (Od.bP o q) out;have e3:q2=q':=by rw[e2];show q-ju rp=q';omega
    rw[e3] at e1;have X6:=Bw pr rp no (Od.bP o q) out;generalize mK pr rp (no,Od.bP o q,out)=H at*;obtain⟨Uq,oo,wY⟩:=H;simp only at*;subst e1;rw[zed] at h7;change ag (cI WX) (((),(),(),(),pr,own,rp,(rp.length:Int),0,()),_,_,_,_,_,_,())=_ at h7;have EH:=ZH (hdr:=(((),(),()),rB pr last rp,Uq,())) (ss:=ss) (bs:=(m+1)::ps) (m:=0) (p:=m+1) (es:=oa) (l0:=rfl) (ZJ oa) hk.1.1;rw[CR] at EH;change jn WX (((),0,()),_)=_ at EH;cases own with
    |true=>
     have lR:=t7 rfl;have S9:mJ ((m+1)::ps) 0 oa=(m+1)::ps:=by unfold mJ;rw[if_neg lR]
     rw[S9] at EH;simp only[if_true] at ht;simp only[bX,↓xo,ot uo,ot i1,ot i0,z,zdP,zde,zdc,al,hm,ah,hc,aI hm,hf,ZK,ot hq,ht,↓xl,h7,EH,if_true,CR];rfl
    |false=>
     simp only[zdk,if_false] at ht⊢;by_cases lR:oa=[]
     ·subst lR
      have S9:mJ ((m+1)::ps) 0 []=ps:=by unfold mJ;rw[if_pos rfl];rfl
      rw[S9] at EH;have OW:=GU (oa:=[]) hk hn;rw[CR] at OW;have qI:=ih (st.set m ((pr,(),()),[],())) q' (rB pr last rp) Uq wY t3 (by omega) (by omega) OW (List.nodup_cons.1 hn).2
      simp only[bX,↓xo,ot uo,ot i1,ot i0,z,zdP,zde,zdc,al,hm,ah,hc,aI hm,hf,ZK,ot hq,ht,↓xl,h7,EH,zdd,CR,if_true];exact qI
     ·have S9:mJ ((m+1)::ps) 0 oa=(m+1)::ps:=by unfold mJ;rw[if_neg lR]
      rw[S9] at EH;have hq0:q'=0:=(t8 rfl).resolve_right lR;subst hq0;simp only[bX,↓xo,ot uo,ot i1,ot i0,z,zdP,zde,zdc,al,hm,ah,hc,aI hm,hf,ZK,ot hq,ht,↓xl,h7,EH,zdd,CR,if_neg lR];rw[aq];have hz: ¬(Od.bP o 0).2.2.2.2.2.2.1>0:=by show¬(0:Int)>0;omega
      simp only[bX,↓xo,Od.bP] at hz⊢;simp only[bc hz,zdd,zdk,if_false]
  ·have uo: ¬(Od.bP o q).2.2.2.2.2.2.1>0:=hq
   have: ¬(q>0/\lQ o (fK st p)=true):=λh=>hq h.1;simp only[bX,↓xo,bc uo,zdd,gU,if_neg this,zdk,if_false]
end
section
variable {bs ss:List Nat}
theorem Qf (o:ek): ∀(l:List Nat) (st:List gF) (q last no:Int) (out:List ni),0<=q->q<=1048576->(out.length:Int)+q<=50000000->yE st l->l.Nodup->
  ag (bM WX) (((),(),(),(),()),(((),(),()),last,no,()),bs,l,Od.bP o q,out,st,())=
   some (if(gU o l st q last no out).1=true then .inl (((),(gU o l st q last no out).2.1,true,()),(((),(),()),(gU o l st q last no out).2.2.2.2.1,(gU o l st q last no out).2.2.2.2.2.1,()),Od.bP o (gU o l st q last no out).2.1,bs,(gU o l st q last no out).2.2.1,(gU o l st q last no out).2.2.2.2.2.2,(gU o l st q last no out).2.2.2.1,())
    else .inr (((),(gU o l st q last no out).2.2.2.2.2.2,()),(((),(),()),(gU o l st q last no out).2.2.2.2.1,(gU o l st q last no out).2.2.2.2.2.1,()),Od.bP o (gU o l st q last no out).2.1,bs,(gU o l st q last no out).2.2.1,(gU o l st q last no out).2.2.2.1,())):=by
 intro l;have z:(0:Int).toNat=0:=rfl;induction l with
 |nil=>
  intro st q last no out h0 h1 ho hk hn;rw[aq];have hz: ¬((([]:List Nat).length:Nat):Int)>0:=by simp
  by_cases hq:q>0
  ·have uo:(Od.bP o q).2.2.2.2.2.2.1>0:=hq
   simp only[bM,↓xo,ot uo,zde,bc hz,zdd,gU,zdk,if_false]
  ·have uo: ¬(Od.bP o q).2.2.2.2.2.2.1>0:=hq
   simp only[bM,↓xo,bc uo,zdd,gU,zdk,if_false]
 |cons p ps ih=>
  intro st q last no out h0 h1 ho hk hn;have i0:0<=(0:Int)/\(0:Int)<(((p::ps).length:Nat):Int):=by simp only[zdn];omega
  have i1:(((p::ps).length:Nat):Int)>0:=i0.2;rw[aq];by_cases hq:q>0
  ·have uo:(Od.bP o q).2.2.2.2.2.2.1>0:=hq
   obtain⟨pr,es,hp,Oi⟩:=hk.1.2 p (zdq ..);have mc:=hk.2 p (zdq ..);have kP:=hp.oM;rw[kP.1] at mc;have hc:cM WX ((Od.bP o q,pr,()),())=some ((lQ o pr,()),()):=vG (Od.bP o q) pr;have ZJ: ∀oa,tj (ko st p oa) p pr oa:=λoa=>hp.put;have Xu:=hp;obtain⟨m,rfl,hm⟩:=Xu;have CR: ∀oa,ko st (m+1) oa=st.set m ((pr,(),()),oa,()):=λoa=>by unfold ko;rw[kP.2];rfl
   cases CS:lQ o pr with
   |false=>
    rw[CS] at hc;simp only[bM,↓xo,ot uo,ot i1,ot i0,z,zdP,zde,zdc,al,hm,ah,hc,zdd,aI hm,gU,kP.2,CS,zdk,and_false,if_false]
   |true=>
    rw[CS] at hc;have ht:=Of (hd:=(pr,(),())) (es:=es) o.2.2.1 h0 h1 (by have:=hk.1.1;have:=Oi;omega) mc
    obtain⟨t1,t2,t3,t4,t5,t6,t7,t8,t9⟩:=EI o.2.2.1 q.toNat q es [] h0 (by omega) mc (λh hh=>by cases hh)
    have hf:(Od.bP o q).2.2.1=o.2.2.1:=rfl;have ZK:(Od.bP o q).2.2.2.2.2.2.1=q:=rfl;simp only[gU,kP.1,kP.2,CS,and_true,if_pos hq];generalize fI o.2.2.1 q.toNat q es []=T at*;obtain⟨own,rp,oa,q'⟩:=T;simp only at*;have X5:ju rp=q-q':=by have:ju ([]:List oE)=0:=rfl;omega
    have hlen:=Kg t1;have h7:=Xt (bs:=bs) (ss:=(m+1)::ps) (st:=st.set m ((pr,(),()),oa,())) pr own rp [] last no (Od.bP o q) out t1 (by show ju rp<=q;omega) (by show q<=1048576;omega) (by simp only[zed];omega) (by omega)
    obtain⟨q2,e1,e2⟩:=Bv pr rp no (Od.bP o q) out;have e3:q2=q':=by rw[e2];show q-ju rp=q';omega
    rw[e3] at e1;have X6:=Bw pr rp no (Od.bP o q) out;generalize mK pr rp (no,Od.bP o q,out)=H at*;obtain⟨Uq,oo,wY⟩:=H;simp only at*;subst e1;rw[zed] at h7;change ag (cI WX) (((),(),(),(),pr,own,rp,(rp.length:Int),0,()),_,_,_,_,_,_,())=_ at h7;have EH:=ZI (hdr:=(((),(),()),rB pr last rp,Uq,())) (bs:=bs) (ss:=(m+1)::ps) (m:=0) (p:=m+1) (es:=oa) (l0:=rfl) (ZJ oa) hk.1.1;rw[CR] at EH;change gx WX (((),0,()),_)=_ at EH;cases own with
    |true=>
     have lR:=t7 rfl;have S9:mJ ((m+1)::ps) 0 oa=(m+1)::ps:=by unfold mJ;rw[if_neg lR]
     rw[S9] at EH;simp only[if_true] at ht;simp only[bM,↓xo,ot uo,ot i1,ot i0,z,zdP,zde,zdc,al,hm,ah,hc,aI hm,hf,ZK,ot hq,ht,↓xl,MK,h7,EH,if_true,CR];rfl
    |false=>
     simp only[zdk,if_false] at ht⊢;by_cases lR:oa=[]
     ·subst lR
      have S9:mJ ((m+1)::ps) 0 []=ps:=by unfold mJ;rw[if_pos rfl];rfl
      rw[S9] at EH;have OW:=GU (oa:=[]) hk hn;rw[CR] at OW;have qI:=ih (st.set m ((pr,(),()),[],())) q' (rB pr last rp) Uq wY t3 (by omega) (by omega) OW (List.nodup_cons.1 hn).2
      simp only[bM,↓xo,ot uo,ot i1,ot i0,z,zdP,zde,zdc,al,hm,ah,hc,aI hm,hf,ZK,ot hq,ht,↓xl,MK,h7,EH,zdd,CR,if_true];exact qI
     ·have S9:mJ ((m+1)::ps) 0 oa=(m+1)::ps:=by unfold mJ;rw[if_neg lR]
      rw[S9] at EH;have hq0:q'=0:=(t8 rfl).resolve_right lR;subst hq0;simp only[bM,↓xo,ot uo,ot i1,ot i0,z,zdP,zde,zdc,al,hm,ah,hc,aI hm,hf,ZK,ot hq,ht,↓xl,MK,h7,EH,zdd,CR,if_neg lR];rw[aq];have hz: ¬(Od.bP o 0).2.2.2.2.2.2.1>0:=by show¬(0:Int)>0;omega
      simp only[bM,↓xo,Od.bP] at hz⊢;simp only[bc hz,zdd,zdk,if_false]
  ·have uo: ¬(Od.bP o q).2.2.2.2.2.2.1>0:=hq
   have: ¬(q>0/\lQ o (fK st p)=true):=λh=>hq h.1;simp only[bM,↓xo,bc uo,zdd,gU,if_neg this,zdk,if_false]
theorem Qg {st:List gF}(hb:yE st bs)(hs:yE st ss)(hnb:bs.Nodup)(uM:ss.Nodup)(o:ek)(last no:Int)(Lx:Od.side o=1\/Od.side o=2)(hq:0<=Od.eX o/\Od.eX o<=1048576):
  ∃M,M=gU o (if Od.side o=1 then ss else bs) st (Od.eX o) last no []/\gZ WX (((),o,()),((((),(),()),last,no,()),bs,ss,st,()))=
   some (if M.1=true then .inl (((),M.2.1,true,()),(((),(),()),M.2.2.2.2.1,M.2.2.2.2.2.1,()),(if Od.side o=1 then bs else M.2.2.1),(if Od.side o=1 then M.2.2.1 else ss),M.2.2.2.2.2.2,M.2.2.2.1,())
    else .inr ((M.2.2.2.2.2.2,M.2.1,false,()),((((),(),()),M.2.2.2.2.1,M.2.2.2.2.2.1,()),(if Od.side o=1 then bs else M.2.2.1),(if Od.side o=1 then M.2.2.1 else ss),M.2.2.2.1,()))):=by
 refine⟨_,rfl,?_⟩;have ha:=zp o Lx ((((),(),()),last,no,()),bs,ss,st,());by_cases h1:Od.side o=1
 ·have h:=Qf (bs:=bs) o ss st (Od.eX o) last no [] hq.1 hq.2 (by simp only[zdo];omega) hs uM
  rw[Ck] at h;simp only[if_pos h1] at ha⊢;simp only[gZ,ha,zdc,↓xl,h];cases (gU o ss st (Od.eX o) last no []).1<;>rfl
 ·have h:=S8 (ss:=ss) o bs st (Od.eX o) last no [] hq.1 hq.2 (by simp only[zdo];omega) hb hnb
  rw[Ck] at h;simp only[if_neg h1] at ha⊢;simp only[gZ,ha,zdc,↓xl,h];cases (gU o bs st (Od.eX o) last no []).1<;>rfl
end
theorem tV {n lo hi:Int}(h:Ft n lo hi=true):lo<=n/\n<=hi:=by
 unfold Ft at h;simp only[zdl,zdr] at h;exact h
structure GW (o:ek):Prop where
 side:Od.side o=1\/Od.side o=2
 kind:1<=Od.kind o/\Od.kind o<=5
 eX:1<=Od.eX o/\Od.eX o<=1048576
 zc1:0<=Od.show o/\Od.show o<=Od.eX o
 qn:0<=o.1/\o.1<=31
 kj:0<=o.2.2.1/\o.2.2.1<=7
 aY:(Od.kind o=2/\Od.aY o=0)\/(¬Od.kind o=2/\1<=Od.aY o/\Od.aY o<=1048576)
theorem qC {o:ek}(h:nZ o=true):GW o:=by
 unfold nZ at h;simp only[zdl] at h;obtain⟨h1,h2,⟨h3,h4,h5⟩,⟨h6,h7,h8⟩,h9,Ge⟩:=h;have a:=tV h6;refine⟨by omega,tV h7,tV h8,tV h9,tV h3,tV h4,?_⟩
 by_cases hk:Od.kind o=2
 ·rw[decide_eq_true hk,zde] at h1
  exact .inl ⟨hk,of_decide_eq_true h1⟩
 ·rw[decide_eq_false hk,zdd] at h1
  exact .inr ⟨hk,tV h1⟩
section
variable {hdr:MG}{bs ss:List Nat}{st:List gF}
def s7 (o:ek)(st:List gF)(l:List Nat):Int:=
 if(decide (Od.kind o=5)&&match l with| []=>false|p::_=>lQ o (fK st p))=true then 11
 else if(decide (Od.kind o=4)&&!qm o st l (Od.eX o))=true then 12 else 0
def V3 (o:ek)(bs ss:List Nat)(st:List gF):Int:=
 if(!nZ o)=true then 1 else if¬Od.stop o=0 then 1 else if(jX o.1 o.2.1 st bs).isSome=true\/(jX o.1 o.2.1 st ss).isSome=true then 5
 else if iR o=true/\pq st bs+pq st ss>=64 then 4 else s7 o st (if Od.side o=1 then ss else bs)
theorem Kh (hb:yE st bs)(hs:yE st ss)(o:ek):az WX (((),o,()),(hdr,bs,ss,st,()))=some ((V3 o bs ss st,()),(hdr,bs,ss,st,())):=by
 unfold V3;have V4: ¬(1:Int)=0:=by omega
 have hR:=AA o;cases hr:nZ o with
 |false=>
  rw[hr] at hR;simp only[az,hR,zdc,zdd,↓xo,bc V4,zdh,zde,if_true]
 |true=>
  rw[hr] at hR;have mc:=qC hr;have e0:(0:Int)=0:=rfl;by_cases jZ:Od.stop o=0
  ·have hF:=Ke (hdr:=hdr) (t:=o.1) (i:=o.2.1) hb.1 hs.1
   have hlen:=Oj (hdr:=hdr) hb.1 hs.1;have ha:=zp o mc.side (hdr,bs,ss,st,());have vl:=Qe (hdr:=hdr) hb hs o mc.side mc.eX;have Ta: ∀x:Nat×ek,(jX o.1 o.2.1 st bs=some x\/(jX o.1 o.2.1 st bs=none/\jX o.1 o.2.1 st ss=some x))->az WX (((),o,()),(hdr,bs,ss,st,()))=some ((5,()),(hdr,bs,ss,st,())):=by
    intro x hx;rcases hx with hx|⟨Hw,hx⟩
    ·rw[hx] at hF
     simp only[az,hR,zdc,zde,↓xo,iD,zdg,zdd,ot jZ,hF]
    ·rw[Hw,hx] at hF
     simp only[az,hR,zdc,zde,↓xo,iD,zdg,zdd,ot jZ,hF]
   cases hsb:jX o.1 o.2.1 st bs with
   |some x=>
    rw[Ta x (.inl hsb)];simp only[zdg,zdk,if_false,jZ,not_true_eq_false,zeY,true_or,if_true]
   |none=>
    cases Ok:jX o.1 o.2.1 st ss with
    |some x=>
     rw[Ta x (.inr ⟨hsb,Ok⟩)];simp only[zdg,zdk,if_false,jZ,not_true_eq_false,zeY,or_true,if_true]
    |none=>
     rw[hsb,Ok] at hF;have vS: ¬((none:Option (Nat×ek)).isSome=true\/(none:Option (Nat×ek)).isSome=true):=by simp
     simp only[zdg,zdk,if_false,jZ,not_true_eq_false,if_neg vS];by_cases h4:iR o=true/\pq st bs+pq st ss>=64
     ·rw[if_pos h4]
      simp only[az,hR,zdc,zde,↓xo,iD,zdg,zdd,ot jZ,hF,iU,h4.1,hlen,ot h4.2]
     ·rw[if_neg h4]
      have key: ∀(g:Int),g=s7 o st (if Od.side o=1 then ss else bs)->az WX (((),o,()),(hdr,bs,ss,st,()))=some ((g,()),(hdr,bs,ss,st,())):=by
       intro g hg;have hcr: ∀(p:Nat) (ps l:List Nat),yE st l->l=p::ps->∃n pr es,p=n+1/\st[n]?=some ((pr,(),()),es,())/\fK st p=pr:=by
        intro p ps l hl he;subst he;obtain⟨pr,es,h1,_⟩:=hl.1.2 p (zdq ..);have:=h1.oM.2;obtain⟨n,rfl,h2⟩:=h1;exact⟨n,pr,es,rfl,h2,this⟩
       have z:(0:Int).toNat=0:=rfl;by_cases h1:Od.side o=1
       ·rw[if_pos h1] at hg ha vl
        by_cases k5:Od.kind o=5
        ·have k4: ¬Od.kind o=4:=by omega
         cases FF:ss with
         |nil=>
          subst FF;have hz: ¬((([]:List Nat).length:Nat):Int)>0:=by simp
          have AB:g=0:=by rw[hg];unfold s7;simp only[zdL,zdk,if_false,decide_eq_false k4,zeW]
          subst AB;cases tW:iR o with
          |true=>
           have EK:=λq=>h4 ⟨tW,q⟩;simp only[az,hR,zdc,zde,↓xo,iD,zdg,zdd,ot jZ,hF,iU,tW,hlen,bc EK,ha,ot k5,bc hz,bc k4]
          |false=>simp only[az,hR,zdc,zde,↓xo,iD,zdg,zdd,ot jZ,hF,iU,tW,ha,ot k5,bc hz,bc k4]
         |cons p ps=>
          obtain⟨n,pr,es,rfl,hn,Bx⟩:=hcr p ps ss hs FF;subst FF;have hz:((((n+1)::ps).length:Nat):Int)>0:=by simp only[zdn];omega
          have i0:0<=(0:Int)/\(0:Int)<((((n+1)::ps).length:Nat):Int):=⟨by omega,hz⟩
          have hc:=vG o pr;cases CS:lQ o pr with
          |true=>
           rw[CS] at hc;have AB:g=11:=by rw[hg];unfold s7;simp only[Bx,CS,decide_eq_true k5,decide_eq_false k4,zez,zdL,zeW,zdk,if_true,if_false]
           subst AB;cases tW:iR o with
           |true=>
            have EK:=λq=>h4 ⟨tW,q⟩;simp only[az,hR,zdc,zde,↓xo,iD,zdg,zdd,ot jZ,hF,iU,tW,hlen,bc EK,ha,ot k5,ot hz,ot i0,z,zdP,al,hn,ah,hc,aI hn]
           |false=>simp only[az,hR,zdc,zde,↓xo,iD,zdg,zdd,ot jZ,hF,iU,tW,ha,ot k5,ot hz,ot i0,z,zdP,al,hn,ah,hc,aI hn]
          |false=>
           rw[CS] at hc;have AB:g=0:=by rw[hg];unfold s7;simp only[Bx,CS,decide_eq_true k5,decide_eq_false k4,zez,zdL,zeW,zdk,if_true,if_false]
           subst AB;cases tW:iR o with
           |true=>
            have EK:=λq=>h4 ⟨tW,q⟩;simp only[az,hR,zdc,zde,↓xo,iD,zdg,zdd,ot jZ,hF,iU,tW,hlen,bc EK,ha,ot k5,ot hz,ot i0,z,zdP,al,hn,ah,hc,aI hn,bc k4]
           |false=>simp only[az,hR,zdc,zde,↓xo,iD,zdg,zdd,ot jZ,hF,iU,tW,ha,ot k5,ot hz,ot i0,z,zdP,al,hn,ah,hc,aI hn,bc k4]
        ·by_cases k4:Od.kind o=4
         ·cases V5:qm o st ss (Od.eX o) with
          |true=>
           rw[V5] at vl;have AB:g=0:=by rw[hg];unfold s7;simp only[V5,decide_eq_false k5,decide_eq_true k4,zeW,Bool.true_and,zdg,zdh,zdk,if_true,if_false]
           subst AB;cases tW:iR o with
           |true=>
            have EK:=λq=>h4 ⟨tW,q⟩;simp only[az,hR,zdc,zde,↓xo,iD,zdg,zdd,ot jZ,hF,iU,tW,hlen,bc EK,ha,bc k5,ot k4,vl,zdh]
           |false=>simp only[az,hR,zdc,zde,↓xo,iD,zdg,zdd,ot jZ,hF,iU,tW,ha,bc k5,ot k4,vl,zdh]
          |false=>
           rw[V5] at vl;have AB:g=12:=by rw[hg];unfold s7;simp only[V5,decide_eq_false k5,decide_eq_true k4,zeW,Bool.true_and,zdg,zdh,zdk,if_true,if_false]
           subst AB;cases tW:iR o with
           |true=>
            have EK:=λq=>h4 ⟨tW,q⟩;simp only[az,hR,zdc,zde,↓xo,iD,zdg,zdd,ot jZ,hF,iU,tW,hlen,bc EK,ha,bc k5,ot k4,vl,zdh]
           |false=>simp only[az,hR,zdc,zde,↓xo,iD,zdg,zdd,ot jZ,hF,iU,tW,ha,bc k5,ot k4,vl,zdh]
         ·have AB:g=0:=by rw[hg];unfold s7;simp only[decide_eq_false k5,decide_eq_false k4,zeW,zdk,if_false]
          subst AB;cases tW:iR o with
          |true=>
           have EK:=λq=>h4 ⟨tW,q⟩;simp only[az,hR,zdc,zde,↓xo,iD,zdg,zdd,ot jZ,hF,iU,tW,hlen,bc EK,ha,bc k5,bc k4]
          |false=>simp only[az,hR,zdc,zde,↓xo,iD,zdg,zdd,ot jZ,hF,iU,tW,ha,bc k5,bc k4]
       ·rw[if_neg h1] at hg ha vl
        by_cases k5:Od.kind o=5
        ·have k4: ¬Od.kind o=4:=by omega
         cases FF:bs with
         |nil=>
          subst FF;have hz: ¬((([]:List Nat).length:Nat):Int)>0:=by simp
          have AB:g=0:=by rw[hg];unfold s7;simp only[zdL,zdk,if_false,decide_eq_false k4,zeW]
          subst AB;cases tW:iR o with
          |true=>
           have EK:=λq=>h4 ⟨tW,q⟩;simp only[az,hR,zdc,zde,↓xo,iD,zdg,zdd,ot jZ,hF,iU,tW,hlen,bc EK,ha,ot k5,bc hz,bc k4]
          |false=>simp only[az,hR,zdc,zde,↓xo,iD,zdg,zdd,ot jZ,hF,iU,tW,ha,ot k5,bc hz,bc k4]
         |cons p ps=>
          obtain⟨n,pr,es,rfl,hn,Bx⟩:=hcr p ps bs hb FF;subst FF;have hz:((((n+1)::ps).length:Nat):Int)>0:=by simp only[zdn];omega
          have i0:0<=(0:Int)/\(0:Int)<((((n+1)::ps).length:Nat):Int):=⟨by omega,hz⟩
          have hc:=vG o pr;cases CS:lQ o pr with
          |true=>
           rw[CS] at hc;have AB:g=11:=by rw[hg];unfold s7;simp only[Bx,CS,decide_eq_true k5,decide_eq_false k4,zez,zdL,zeW,zdk,if_true,if_false]
           subst AB;cases tW:iR o with
           |true=>
            have EK:=λq=>h4 ⟨tW,q⟩;simp only[az,hR,zdc,zde,↓xo,iD,zdg,zdd,ot jZ,hF,iU,tW,hlen,bc EK,ha,ot k5,ot hz,ot i0,z,zdP,al,hn,ah,hc,aI hn]
           |false=>simp only[az,hR,zdc,zde,↓xo,iD,zdg,zdd,ot jZ,hF,iU,tW,ha,ot k5,ot hz,ot i0,z,zdP,al,hn,ah,hc,aI hn]
          |false=>
           rw[CS] at hc;have AB:g=0:=by rw[hg];unfold s7;simp only[Bx,CS,decide_eq_true k5,decide_eq_false k4,zez,zdL,zeW,zdk,if_true,if_false]
           subst AB;cases tW:iR o with
           |true=>
            have EK:=λq=>h4 ⟨tW,q⟩;simp only[az,hR,zdc,zde,↓xo,iD,zdg,zdd,ot jZ,hF,iU,tW,hlen,bc EK,ha,ot k5,ot hz,ot i0,z,zdP,al,hn,ah,hc,aI hn,bc k4]
           |false=>simp only[az,hR,zdc,zde,↓xo,iD,zdg,zdd,ot jZ,hF,iU,tW,ha,ot k5,ot hz,ot i0,z,zdP,al,hn,ah,hc,aI hn,bc k4]
        ·by_cases k4:Od.kind o=4
         ·cases V5:qm o st bs (Od.eX o) with
          |true=>
           rw[V5] at vl;have AB:g=0:=by rw[hg];unfold s7;simp only[V5,decide_eq_false k5,decide_eq_true k4,zeW,Bool.true_and,zdg,zdh,zdk,if_true,if_false]
           subst AB;cases tW:iR o with
           |true=>
            have EK:=λq=>h4 ⟨tW,q⟩;simp only[az,hR,zdc,zde,↓xo,iD,zdg,zdd,ot jZ,hF,iU,tW,hlen,bc EK,ha,bc k5,ot k4,vl,zdh]
           |false=>simp only[az,hR,zdc,zde,↓xo,iD,zdg,zdd,ot jZ,hF,iU,tW,ha,bc k5,ot k4,vl,zdh]
          |false=>
           rw[V5] at vl;have AB:g=12:=by rw[hg];unfold s7;simp only[V5,decide_eq_false k5,decide_eq_true k4,zeW,Bool.true_and,zdg,zdh,zdk,if_true,if_false]
           subst AB;cases tW:iR o with
           |true=>
            have EK:=λq=>h4 ⟨tW,q⟩;simp only[az,hR,zdc,zde,↓xo,iD,zdg,zdd,ot jZ,hF,iU,tW,hlen,bc EK,ha,bc k5,ot k4,vl,zdh]
           |false=>simp only[az,hR,zdc,zde,↓xo,iD,zdg,zdd,ot jZ,hF,iU,tW,ha,bc k5,ot k4,vl,zdh]
         ·have AB:g=0:=by rw[hg];unfold s7;simp only[decide_eq_false k5,decide_eq_false k4,zeW,zdk,if_false]
          subst AB;cases tW:iR o with
          |true=>
           have EK:=λq=>h4 ⟨tW,q⟩;simp only[az,hR,zdc,zde,↓xo,iD,zdg,zdd,ot jZ,hF,iU,tW,hlen,bc EK,ha,bc k5,bc k4]
          |false=>simp only[az,hR,zdc,zde,↓xo,iD,zdg,zdd,ot jZ,hF,iU,tW,ha,bc k5,bc k4]
      exact key _ rfl
  ·rw[if_neg (show¬((!true)=true) by decide),if_pos jZ]
   simp only[az,hR,zdc,zde,↓xo,iD,zdg,zdd,bc jZ,zdh]
end
def Ol (o:ek)(st:List gF)(l:List Nat):Int:=match l.findIdx? (λp=>!iP (Od.side o) (fK st p) (Od.aY o)) with|some n=>(n:Int)|none=> -1
theorem Ki (o:ek){st:List gF}{l:List Nat}(h:Ch st l):aA WX ((l,((),()),()),(o,st,()))=some ((Ol o st l,()),(o,st,())):=by
 have key: ∀n k:Nat,k+n=l.length->(∀j,j<k->∀p,l[j]?=some p->(!iP (Od.side o) (fK st p) (Od.aY o))=false)->ag (au WX) ((l,((),()),(l.length:Int),(k:Int),()),(o,st,()))=
   some (match l.findIdx? (λp=>!iP (Od.side o) (fK st p) (Od.aY o)) with|some n=> .inl (((n:Int),()),(o,st,()))|none=> .inr ((),(o,st,()))):=by
  intro n;induction n with
  |zero=>
   intro k hk vS;have:l.findIdx? (λp=>!iP (Od.side o) (fK st p) (Od.aY o))=none:=by
    rw[zeS];intro e he;obtain⟨j,hj,rfl⟩:=zdU he;exact vS j (by omega) _ (zdi hj)
   rw[aq,this];simp only[au,↓xo,bc (show¬(k:Int)<(l.length:Int) by omega),zdd]
  |succ n ih=>
   intro k hk vS;have sZ:k<l.length:=by omega
   have hx:=zdi sZ;obtain⟨pr,es,hp,Oi⟩:=h.2 _ (zeq sZ);generalize hg:l[k]=p at hx hp;have Bx:=hp.oM.2;have e1:i64.wrap ((k:Int)+1)=((k+1:Nat):Int):=by rw[nQ (by omega) (by have:=h.1;omega)];omega
   have hb:=Qb (Od.side o) pr (Od.aY o);have hc:hJ WX (((),(),()),((pr,(),()),es,o,()))=some ((!iP (Od.side o) pr (Od.aY o),()),((pr,(),()),o,es,())):=by
    simp only[hJ,ah,zdc,hb]
   rw[aq];cases hbb:(!iP (Od.side o) pr (Od.aY o)) with
   |true=>
    have:l.findIdx? (λp=>!iP (Od.side o) (fK st p) (Od.aY o))=some k:=by
     rw[zeT];refine⟨sZ,by rw[hg,Bx];exact hbb,λj hj=>?_⟩
     have:=vS j hj _ (zdi (by omega))
     rw[this];simp
    rw[this];rw[hbb] at hc;obtain⟨m,rfl,hm⟩:=hp;simp only[au,↓xo,ot (show(k:Int)<(l.length:Int) by omega),ot (show(0:Int)<=(k:Int) by omega),zde,zdf,hx,zdc,al,hm,hc,aI hm]
   |false=>
    rw[hbb] at hc;have qI:=ih (k+1) (by omega) (λj hj q hq=>by
     by_cases e:j=k
     ·subst e;rw[hx] at hq;cases hq;rw[Bx];exact hbb
     ·exact vS j (by omega) q hq)
    obtain⟨m,rfl,hm⟩:=hp;simp only[au,↓xo,xw,ot (show(k:Int)<(l.length:Int) by omega),ot (show(0:Int)<=(k:Int) by omega),zde,zdf,hx,zdc,al,hm,hc,zdd,aI hm,e1,qI]
 have h0:=key l.length 0 (by omega) (λj hj=>by omega)
 change ag (au WX) ((l,((),()),(l.length:Int),0,()),(o,st,()))=_ at h0;unfold Ol;cases hf:l.findIdx? (λp=>!iP (Od.side o) (fK st p) (Od.aY o)) with
 |none=>rw[hf] at h0;simp only[aA,↓xl,h0,zdc]
 |some n=>rw[hf] at h0;simp only[aA,↓xl,h0,zdc]
def uG (o:ek)(l:List Nat)(st:List gF):List Nat×List gF:=match l.findIdx? (λp=>!iP (Od.side o) (fK st p) (Od.aY o)) with
 |none=>(l.take l.length++([st.length+1]++l.drop l.length),st++ [((Od.aY o,(),()),[(o,mb o,())],())])
 |some n=>if fK st (l.getD n 0)=Od.aY o then(l,ko st (l.getD n 0) (dG st (l.getD n 0)++ [(o,mb o,())])) else(l.take n++([st.length+1]++l.drop n),st++ [((Od.aY o,(),()),[(o,mb o,())],())])
section
variable {hdr:MG}{bs ss:List Nat}{st:List gF}
theorem Tb (o:ek)(Lx:Od.side o=1){l:List Nat}(hl:Ch st l):bB WX (((),o,()),(hdr,(l,ss,st,())))=some ((),(hdr,(uG o l st).1,ss,(uG o l st).2,())):=by
 have hs:=Dg (Od.side o) (by omega) (hdr,(l,ss,st,()))
 have hi:=Ki o hl;have qS:iW WX ((Od.aY o,()),())=some (((),()),((Od.aY o,(),()),[],())):=rfl;have Py:bQ WX (((),o,()),((Od.aY o,(),()),[],()))=some ((),((Od.aY o,(),()),[(o,mb o,())],())):=EC (by simp) o
 have A0: ∀k:Nat,k<=l.length->iw WX (((),(k:Int),(),()),(l,[st.length+1],st++ [((Od.aY o,(),()),[],())],()))=some (((),()),(l.take k++([st.length+1]++l.drop k),st++ [((Od.aY o,(),()),[],())],())):=λk hk=>by
  have:=hl.1;have hc:0<=(k:Int)/\(k:Int)<=(l.length:Int)/\0<([st.length+1]:List Nat).length/\(((l.length+([st.length+1]:List Nat).length:Nat):Int)*8<=((room:Nat):Int)):=by
   unfold room;simp only[zdn,zdo];omega
  simp only[iw,↓xo,ot hc,zde,zdf]
 have qH: ∀k:Nat,k<=l.length->(l.take k++([st.length+1]++l.drop k))[k]?=some (st.length+1):=λk hk=>by
  rw[zd4 (by rw[zdH];omega),zdH,zeg hk,Nat.sub_self];rfl
 have hlen: ∀k:Nat,k<=l.length->(l.take k++([st.length+1]++l.drop k)).length=l.length+1:=λk hk=>by simp only[zdm,zdH,zdI,zdn,zdo];omega
 have AB:(st++ [((Od.aY o,(),()),([]:List oE),())])[st.length]?=some ((Od.aY o,(),()),[],()):=by simp
 have um:(st++ [((Od.aY o,(),()),([]:List oE),())]).set st.length ((Od.aY o,(),()),[(o,mb o,())],())=st++ [((Od.aY o,(),()),[(o,mb o,())],())]:=by simp
 unfold uG;unfold Ol at hi;rw[if_pos Lx] at hs;cases hf:l.findIdx? (λp=>!iP (Od.side o) (fK st p) (Od.aY o)) with
 |none=>
  rw[hf] at hi;have e0:(-1:Int)<0:=by omega
  have hg:=qH l.length (zdz _);have hL:=hlen l.length (zdz _);have hI:=A0 l.length (zdz _);simp only[bB,hs,zdc,hi,↓xo,ot e0,zde,iD,qS,hI,ot (show 0<=(l.length:Int)/\(l.length:Int)<((l.take l.length++([st.length+1]++l.drop l.length)).length:Int) by rw[hL];omega),zdf,hg,al,AB,Py,um]
 |some n=>
  rw[hf] at hi;have hn:n<l.length:=(List.findIdx?_eq_some_iff_getElem.1 hf).1;have hx:=zdi hn;obtain⟨pr,es,hp,Oi⟩:=hl.2 _ (zeq hn);have Yl:l.getD n 0=l[n]:=by rw[zdt,hx];rfl
  simp only[Yl];generalize l[n]=p at hx hp;have kP:=hp.oM;obtain⟨m,rfl,hm⟩:=hp;simp only[kP.1,kP.2];by_cases Bx:pr=Od.aY o
  ·have Tc:=EC (es:=es) (hd:=(pr,(),())) (by omega) o
   have CR:ko st (m+1) (es++ [(o,mb o,())])=st.set m ((pr,(),()),es++ [(o,mb o,())],()):=by unfold ko;rw[kP.2];rfl
   simp only[bB,hs,zdc,hi,↓xo,bc (show¬(n:Int)<0 by omega),zdd,bc (show¬(n:Int)=(l.length:Int) by omega),ot (show 0<=(n:Int)/\(n:Int)<(l.length:Int) by omega),zde,zdf,hx,al,hm,ah,ot Bx,zdg,aI hm,Tc,if_pos Bx,CR]
  ·have hg:=qH n (by omega)
   have hL:=hlen n (by omega)
   have hI:=A0 n (by omega)
   simp only[bB,hs,zdc,hi,↓xo,bc (show¬(n:Int)<0 by omega),zdd,bc (show¬(n:Int)=(l.length:Int) by omega),ot (show 0<=(n:Int)/\(n:Int)<(l.length:Int) by omega),zde,zdf,hx,al,hm,ah,bc Bx,zdh,aI hm,qS,hI,ot (show 0<=(n:Int)/\(n:Int)<((l.take n++([st.length+1]++l.drop n)).length:Int) by rw[hL];omega),hg,AB,Py,um,if_neg Bx]
theorem Qh (o:ek)(Lx:Od.side o=2){l:List Nat}(hl:Ch st l):bB WX (((),o,()),(hdr,(bs,l,st,())))=some ((),(hdr,bs,(uG o l st).1,(uG o l st).2,())):=by
 have hs:=Dg (Od.side o) (by omega) (hdr,(bs,l,st,()))
 have hi:=Ki o hl;have qS:iW WX ((Od.aY o,()),())=some (((),()),((Od.aY o,(),()),[],())):=rfl;have Py:bQ WX (((),o,()),((Od.aY o,(),()),[],()))=some ((),((Od.aY o,(),()),[(o,mb o,())],())):=EC (by simp) o
 have A0: ∀k:Nat,k<=l.length->iw WX (((),(k:Int),(),()),(l,[st.length+1],st++ [((Od.aY o,(),()),[],())],()))=some (((),()),(l.take k++([st.length+1]++l.drop k),st++ [((Od.aY o,(),()),[],())],())):=λk hk=>by
  have:=hl.1;have hc:0<=(k:Int)/\(k:Int)<=(l.length:Int)/\0<([st.length+1]:List Nat).length/\(((l.length+([st.length+1]:List Nat).length:Nat):Int)*8<=((room:Nat):Int)):=by
   unfold room;simp only[zdn,zdo];omega
  simp only[iw,↓xo,ot hc,zde,zdf]
 have qH: ∀k:Nat,k<=l.length->(l.take k++([st.length+1]++l.drop k))[k]?=some (st.length+1):=λk hk=>by
  rw[zd4 (by rw[zdH];omega),zdH,zeg hk,Nat.sub_self];rfl
 have hlen: ∀k:Nat,k<=l.length->(l.take k++([st.length+1]++l.drop k)).length=l.length+1:=λk hk=>by simp only[zdm,zdH,zdI,zdn,zdo];omega
 have AB:(st++ [((Od.aY o,(),()),([]:List oE),())])[st.length]?=some ((Od.aY o,(),()),[],()):=by simp
 have um:(st++ [((Od.aY o,(),()),([]:List oE),())]).set st.length ((Od.aY o,(),()),[(o,mb o,())],())=st++ [((Od.aY o,(),()),[(o,mb o,())],())]:=by simp
 unfold uG;unfold Ol at hi;rw[if_neg (show¬Od.side o=1 by omega)] at hs
 cases hf:l.findIdx? (λp=>!iP (Od.side o) (fK st p) (Od.aY o)) with
 |none=>
  rw[hf] at hi;have e0:(-1:Int)<0:=by omega
  have hg:=qH l.length (zdz _);have hL:=hlen l.length (zdz _);have hI:=A0 l.length (zdz _);simp only[bB,hs,zdc,hi,↓xo,ot e0,zde,iD,qS,hI,ot (show 0<=(l.length:Int)/\(l.length:Int)<((l.take l.length++([st.length+1]++l.drop l.length)).length:Int) by rw[hL];omega),zdf,hg,al,AB,Py,um]
 |some n=>
  rw[hf] at hi;have hn:n<l.length:=(List.findIdx?_eq_some_iff_getElem.1 hf).1;have hx:=zdi hn;obtain⟨pr,es,hp,Oi⟩:=hl.2 _ (zeq hn);have Yl:l.getD n 0=l[n]:=by rw[zdt,hx];rfl
  simp only[Yl];generalize l[n]=p at hx hp;have kP:=hp.oM;obtain⟨m,rfl,hm⟩:=hp;simp only[kP.1,kP.2];by_cases Bx:pr=Od.aY o
  ·have Tc:=EC (es:=es) (hd:=(pr,(),())) (by omega) o
   have CR:ko st (m+1) (es++ [(o,mb o,())])=st.set m ((pr,(),()),es++ [(o,mb o,())],()):=by unfold ko;rw[kP.2];rfl
   simp only[bB,hs,zdc,hi,↓xo,bc (show¬(n:Int)<0 by omega),zdd,bc (show¬(n:Int)=(l.length:Int) by omega),ot (show 0<=(n:Int)/\(n:Int)<(l.length:Int) by omega),zde,zdf,hx,al,hm,ah,ot Bx,zdg,aI hm,Tc,if_pos Bx,CR]
  ·have hg:=qH n (by omega)
   have hL:=hlen n (by omega)
   have hI:=A0 n (by omega)
   simp only[bB,hs,zdc,hi,↓xo,bc (show¬(n:Int)<0 by omega),zdd,bc (show¬(n:Int)=(l.length:Int) by omega),ot (show 0<=(n:Int)/\(n:Int)<(l.length:Int) by omega),zde,zdf,hx,al,hm,ah,bc Bx,zdh,aI hm,qS,hI,ot (show 0<=(n:Int)/\(n:Int)<((l.take n++([st.length+1]++l.drop n)).length:Int) by rw[hL];omega),hg,AB,Py,um,if_neg Bx]
end
abbrev nw:=Int×List oE
def jz (st:List gF)(l:List Nat):List nw:=l.map λp=>(fK st p,dG st p)
def Kj (st:List gF)(l:List Nat):Prop:= ∀p∈l,∃pr es,tj st p pr es
def Qi (t i:Int)(a:nw):Option ek:=(a.2.map (·.1)).find? (Od.is t i)
def mT (t i:Int):List nw->Option (Nat×ek)
 | []=>none
 |a::A=>match Qi t i a with|some o=>some (0,o)|none=>(mT t i A).map λx=>(x.1+1,x.2)
theorem pD (t i:Int)(st:List gF): ∀l,jX t i st l=mT t i (jz st l)
 | []=>rfl
 |p::l=>by
  have ih:=pD t i st l;simp only[jX,jz,zea,mT,Cg,Qi] at*;rw[ih];all_goals (cases ((dG st p).map (·.1)).find? (Od.is t i)<;>rfl)
def iV (A:List nw):Int:=jH (A.map λa=>(a.2.length:Int))
theorem AD (st:List gF)(l:List Nat):pq st l=iV (jz st l):=by
 simp only[pq,iV,jz,List.map_map];rfl
def tX (A:List nw):List ek:=A.flatMap λa=>a.2.map (·.1)
theorem Qj (st:List gF)(l:List Nat):qB st l=tX (jz st l):=by
 simp only[qB,tX,jz,List.flatMap_map]
def IC (o:ek):List nw->Int->Bool
 | [],_=>false
 |a::A,q=>if(!lQ o a.1)=true then false else if(l7 o.2.2.1 a.2).1>=q then true else if(l7 o.2.2.1 a.2).2=true then false else IC o A (q-(l7 o.2.2.1 a.2).1)
theorem EL (o:ek)(st:List gF): ∀l q,qm o st l q=IC o (jz st l) q
 | [],_=>rfl
 |p::l,q=>by
  have ih:=EL o st l (q-(l7 o.2.2.1 (dG st p)).1);simp only[qm,jz,zea,IC] at*;rw[ih]
def Td (o:ek)(A:List nw):Int:=
 if(decide (Od.kind o=5)&&match A with| []=>false|a::_=>lQ o a.1)=true then 11
 else if(decide (Od.kind o=4)&&!IC o A (Od.eX o))=true then 12 else 0
def F3 (o:ek)(A B:List nw):Int:=
 if(!nZ o)=true then 1 else if¬Od.stop o=0 then 1 else if(mT o.1 o.2.1 A).isSome=true\/(mT o.1 o.2.1 B).isSome=true then 5
 else if iR o=true/\iV A+iV B>=64 then 4 else Td o (if Od.side o=1 then B else A)
theorem Te (o:ek)(st:List gF)(bs ss:List Nat):V3 o bs ss st=F3 o (jz st bs) (jz st ss):=by
 have h: ∀l,s7 o st l=Td o (jz st l):=λl=>by
  unfold s7 Td;rw[EL];cases l<;>rfl
 unfold V3 F3;rw[h,pD,pD,AD,AD];by_cases e:Od.side o=1
 ·simp only[if_pos e]
 ·simp only[if_neg e]
def tY (o:ek):List nw->Int->Int->Int->List ni->Bool×Int×List nw×Int×Int×List ni
 | [],q,last,no,out=>(false,q,[],last,no,out)
 |a::A,q,last,no,out=>
  if q>0/\lQ o a.1=true then
   (if(fI o.2.2.1 q.toNat q a.2 []).1=true then(true,(fI o.2.2.1 q.toNat q a.2 []).2.2.2,(a.1,(fI o.2.2.1 q.toNat q a.2 []).2.2.1)::A,rB a.1 last (fI o.2.2.1 q.toNat q a.2 []).2.1,(mK a.1 (fI o.2.2.1 q.toNat q a.2 []).2.1 (no,Od.bP o q,out)).1,(mK a.1 (fI o.2.2.1 q.toNat q a.2 []).2.1 (no,Od.bP o q,out)).2.2)
   else if(fI o.2.2.1 q.toNat q a.2 []).2.2.1=[] then tY o A (fI o.2.2.1 q.toNat q a.2 []).2.2.2 (rB a.1 last (fI o.2.2.1 q.toNat q a.2 []).2.1) (mK a.1 (fI o.2.2.1 q.toNat q a.2 []).2.1 (no,Od.bP o q,out)).1 (mK a.1 (fI o.2.2.1 q.toNat q a.2 []).2.1 (no,Od.bP o q,out)).2.2
   else(false,(fI o.2.2.1 q.toNat q a.2 []).2.2.2,(a.1,(fI o.2.2.1 q.toNat q a.2 []).2.2.1)::A,rB a.1 last (fI o.2.2.1 q.toNat q a.2 []).2.1,(mK a.1 (fI o.2.2.1 q.toNat q a.2 []).2.1 (no,Od.bP o q,out)).1,(mK a.1 (fI o.2.2.1 q.toNat q a.2 []).2.1 (no,Od.bP o q,out)).2.2))
  else(false,q,a::A,last,no,out)
def EM (st eY:List gF)(l:List Nat):Prop:= ∀p pr es,p∉l->tj st p pr es->tj eY p pr es
theorem nK {st eY:List gF}{l m:List Nat}(h:EM st eY l)(hm:Kj st m)(hd: ∀p∈m,p∉l):jz eY m=jz st m/\Kj eY m:=by
 constructor
 ·apply List.map_congr_left
  intro p hp;obtain⟨pr,es,h1⟩:=hm p hp;have h2:=(h p pr es (hd p hp) h1).oM;rw[h2.1,h2.2,h1.oM.1,h1.oM.2]
 ·intro p hp
  obtain⟨pr,es,h1⟩:=hm p hp;exact⟨pr,es,h p pr es (hd p hp) h1⟩
theorem tj.ne0 {st:List gF}{p:Nat}{pr:Int}{es:List oE}(h:tj st p pr es):p≠0:=by obtain⟨n,rfl,_⟩:=h;omega
theorem sA {st:List gF}{p:Nat}{pr:Int}{es:List oE}(h:tj st p pr es)(oa:List oE)(l:List Nat)(hl:p∈l):EM st (ko st p oa) l:=λq V2 S7 hq h'=>h'.tD (λe=>hq (e▸hl)) h.ne0
theorem V6 {st:List gF}{p:Nat}{l:List Nat}(hl:Kj st (p::l))(hn:(p::l).Nodup)(oa:List oE):jz (ko st p oa) (p::l)=(fK st p,oa)::jz st l/\Kj (ko st p oa) (p::l):=by
 obtain⟨pr,es,h⟩:=hl p (zdq ..);have hnp:=(List.nodup_cons.1 hn).1;have h1:=nK (sA h oa [p] (List.mem_singleton.2 rfl)) (λq hq=>hl q (zdp _ hq)) (λq hq e=>hnp (List.mem_singleton.1 e▸hq));have h2:=(h.put (oa:=oa)).oM;have h3:=h.oM;refine⟨?_,λq hq=>?_⟩
 ·show(_,_)::jz _ l=_
  rw[h1.1,h2.1,h2.2,h3.2]
 ·rcases List.mem_cons.1 hq with rfl|hq
  ·exact⟨pr,oa,h.put⟩
  ·exact h1.2 q hq
theorem EN (o:ek): ∀(l:List Nat) (st:List gF) (q last no:Int) (out:List ni),Kj st l->l.Nodup->∃l' eY,gU o l st q last no out=((tY o (jz st l) q last no out).1,(tY o (jz st l) q last no out).2.1,l',eY,(tY o (jz st l) q last no out).2.2.2)/\
  jz eY l'=(tY o (jz st l) q last no out).2.2.1/\l'<:+l/\EM st eY l/\Kj eY l'
 | [],st,q,last,no,out,_,_=>⟨[],st,rfl,rfl,zeZ _,λ_ _ _ _ h=>h,λp hp=>by cases hp⟩
 |p::l,st,q,last,no,out,hl,hn=>by
  simp only[gU,jz,zea,tY];obtain⟨pr,es,hp⟩:=hl p (zdq ..);by_cases h1:q>0/\lQ o (fK st p)=true
  ·rw[if_pos h1,if_pos h1]
   have hpa:=V6 hl hn (fI o.2.2.1 q.toNat q (dG st p) []).2.2.1;have UW:=sA hp (fI o.2.2.1 q.toNat q (dG st p) []).2.2.1 (p::l) (zdq ..);by_cases h2:(fI o.2.2.1 q.toNat q (dG st p) []).1=true
   ·rw[if_pos h2,if_pos h2]
    exact⟨_,_,rfl,hpa.1,zeZ _,UW,hpa.2⟩
   ·rw[if_neg h2,if_neg h2]
    by_cases h3:(fI o.2.2.1 q.toNat q (dG st p) []).2.2.1=[]
    ·rw[if_pos h3,if_pos h3]
     have hnp:=(List.nodup_cons.1 hn).1;have ha:=nK (sA hp (fI o.2.2.1 q.toNat q (dG st p) []).2.2.1 [p] (List.mem_singleton.2 rfl)) (λq hq=>hl q (zdp _ hq)) (λq hq e=>hnp (List.mem_singleton.1 e▸hq));obtain⟨l',eY,i1,i2,i3,i4,i5⟩:=EN o l (ko st p (fI o.2.2.1 q.toNat q (dG st p) []).2.2.1) (fI o.2.2.1 q.toNat q (dG st p) []).2.2.2 (rB (fK st p) last (fI o.2.2.1 q.toNat q (dG st p) []).2.1) (mK (fK st p) (fI o.2.2.1 q.toNat q (dG st p) []).2.1 (no,Od.bP o q,out)).1 (mK (fK st p) (fI o.2.2.1 q.toNat q (dG st p) []).2.1 (no,Od.bP o q,out)).2.2 ha.2 (List.nodup_cons.1 hn).2;rw[ha.1] at i1 i2;exact⟨l',eY,i1,i2,i3.trans (List.suffix_cons ..),λp' V2 oa xW h'=>i4 _ _ _ (λe=>xW (zdp _ e)) (UW _ _ _ xW h'),i5⟩
    ·rw[if_neg h3,if_neg h3]
     exact⟨_,_,rfl,hpa.1,zeZ _,UW,hpa.2⟩
  ·rw[if_neg h1,if_neg h1]
   exact⟨_,_,rfl,rfl,zeZ _,λ_ _ _ _ h=>h,hl⟩
def Kk (o:ek)(A:List nw):List nw:=match A.findIdx? (λa=>!iP (Od.side o) a.1 (Od.aY o)) with
 |none=>A++ [(Od.aY o,[(o,mb o,())])]
 |some n=>match A[n]? with
  |none=>A
  |some a=>if a.1=Od.aY o then A.set n (a.1,a.2++ [(o,mb o,())]) else A.take n++((Od.aY o,[(o,mb o,())])::A.drop n)
theorem GX (o:ek){l:List Nat}{st:List gF}(hl:Kj st l)(hn:l.Nodup):jz (uG o l st).2 (uG o l st).1=Kk o (jz st l)/\Kj (uG o l st).2 (uG o l st).1/\EM st (uG o l st).2 l/\(∀p∈(uG o l st).1,p∈l\/p=st.length+1)/\(uG o l st).1.Nodup:=by
 have kR: ∀p∈l,p<=st.length:=λp hp=>by
  obtain⟨pr,es,n,rfl,h⟩:=hl p hp;have:=(List.getElem?_eq_some_iff.1 h).1;omega
 have Yv: ∀(y:gF) p pr es,tj st p pr es->tj (st++ [y]) p pr es:=λy p pr es ⟨n,e,h⟩=>by
  have:=(List.getElem?_eq_some_iff.1 h).1;exact⟨n,e,by rw[zd3 this];exact h⟩
 have qS: ∀(pr:Int) es,tj (st++ [((pr,(),()),es,())]) (st.length+1) pr es:=λpr es=>⟨st.length,rfl,by simp⟩
 have zcL:(jz st l).findIdx? (λa=>!iP (Od.side o) a.1 (Od.aY o))=l.findIdx? (λp=>!iP (Od.side o) (fK st p) (Od.aY o)):=by
  unfold jz;rw[List.findIdx?_map];rfl
 have A0: ∀k,k<=l.length->jz (st++ [((Od.aY o,(),()),[(o,mb o,())],())]) (l.take k++([st.length+1]++l.drop k))=(jz st l).take k++((Od.aY o,[(o,mb o,())])::(jz st l).drop k)/\Kj (st++ [((Od.aY o,(),()),[(o,mb o,())],())]) (l.take k++([st.length+1]++l.drop k))/\EM st (st++ [((Od.aY o,(),()),[(o,mb o,())],())]) l/\(∀p∈l.take k++([st.length+1]++l.drop k),p∈l\/p=st.length+1)/\(l.take k++([st.length+1]++l.drop k)).Nodup:=by
  intro k hk;have vn:EM st (st++ [((Od.aY o,(),()),[(o,mb o,())],())]) []:=λp pr es _ h=>Yv _ p pr es h;have h1:=nK vn hl (λp _=>by simp)
  have h2:=(qS (Od.aY o) [(o,mb o,())]).oM;have tf: ∀p∈l.take k++([st.length+1]++l.drop k),p∈l\/p=st.length+1:=λp hp=>by
   simp only[zeA,zeB] at hp;rcases hp with hp|rfl|hp
   ·exact .inl (zef hp)
   ·exact .inr rfl
   ·exact .inl (zeH hp)
  refine⟨?_,?_,λp pr es _ h=>Yv _ p pr es h,tf,?_⟩
  ·have h3: ∀x y:List Nat,jz (st++ [((Od.aY o,(),()),[(o,mb o,())],())]) (x++y)=jz (st++ [((Od.aY o,(),()),[(o,mb o,())],())]) x++jz (st++ [((Od.aY o,(),()),[(o,mb o,())],())]) y:=λx y=>zeV
   have h4: ∀x:List Nat,jz (st++ [((Od.aY o,(),()),[(o,mb o,())],())]) (x.take k)=(jz (st++ [((Od.aY o,(),()),[(o,mb o,())],())]) x).take k:=λx=>List.map_take;have h5: ∀x:List Nat,jz (st++ [((Od.aY o,(),()),[(o,mb o,())],())]) (x.drop k)=(jz (st++ [((Od.aY o,(),()),[(o,mb o,())],())]) x).drop k:=λx=>List.map_drop;have h6:jz (st++ [((Od.aY o,(),()),[(o,mb o,())],())]) [st.length+1]=[(Od.aY o,[(o,mb o,())])]:=by
    show [(_,_)]=_
    rw[h2.1,h2.2]
   rw[h3,h3,h4,h5,h6,h1.1];rfl
  ·intro p hp
   rcases tf p hp with hp|rfl
   ·exact h1.2 p hp
   ·exact⟨_,_,qS _ _⟩
  ·have UL: ∀p,p∈l->p≠st.length+1:=λp hp e=>by have:=kR p hp;omega
   rw[show l.take k++([st.length+1]++l.drop k)=l.take k++(st.length+1)::l.drop k from rfl,List.nodup_append]
   have I1:=hn;rw[<-zev k l,List.nodup_append] at I1;refine⟨I1.1,List.nodup_cons.2 ⟨λh=>UL _ (zeH h) rfl,I1.2.1⟩,λa ha b hb=>?_⟩;rcases List.mem_cons.1 hb with rfl|hb
   ·exact UL a (zef ha)
   ·exact I1.2.2 a ha b hb
 unfold uG Kk;rw[zcL];have hlen:(jz st l).length=l.length:=zen ..;cases hf:l.findIdx? (λp=>!iP (Od.side o) (fK st p) (Od.aY o)) with
 |none=>
  have:=A0 l.length (zdz _);rw[<-hlen,zdN (zdz _),List.drop_of_length_le (zdz _),hlen] at this;exact this
 |some n=>
  have OP:n<l.length:=(List.findIdx?_eq_some_iff_getElem.1 hf).1;have hx:=zdi OP;have tf:=zeq OP;have Yl:l.getD n 0=l[n]:=by rw[zdt,hx];rfl
  have hax:(jz st l)[n]?=some (fK st l[n],dG st l[n]):=by unfold jz;rw[zej,hx];rfl
  obtain⟨pr,es,hp⟩:=hl _ tf;simp only[Yl,hax];by_cases Bx:fK st l[n]=Od.aY o
  ·simp only[if_pos Bx]
   refine⟨?_,λp xW=>?_,sA hp _ l tf,λp hp=> .inl hp,hn⟩
   ·apply List.ext_getElem?
    intro j;unfold jz;rw[zeJ,zej];by_cases hj:n=j
    ·subst hj
     rw[if_pos rfl,hx,if_pos (by rw[zen];exact OP)]
     simp only[zds];have:=(hp.put (oa:=dG st l[n]++ [(o,mb o,())])).oM;rw[this.1,this.2,hp.oM.2]
    ·rw[if_neg hj,zej]
     cases hlj:l[j]? with
     |none=>rfl
     |some p=>
      simp only[zds];have hpj:p≠l[n]:=λe=>by
       have BR:=(List.getElem?_eq_some_iff.1 hlj);obtain⟨hj1,XT⟩:=BR;have:=(List.getElem_inj hn).1 (XT.trans e);exact hj this.symm
      obtain⟨V2,oa,xW⟩:=hl p (zee hlj);have h1:=(xW.tD (oa:=dG st l[n]++ [(o,mb o,())]) hpj hp.ne0).oM;rw[h1.1,h1.2,xW.oM.1,xW.oM.2]
   ·by_cases e:p=l[n]
    ·subst e;exact⟨pr,_,hp.put⟩
    ·obtain⟨V2,oa,h'⟩:=hl p xW
     exact⟨V2,oa,h'.tD e hp.ne0⟩
  ·simp only[if_neg Bx]
   exact A0 n (by omega)
structure EO (s pr:Int)(o:ek):Prop where
 side:Od.side o=s
 aY:Od.aY o=pr
 qn:0<=o.1/\o.1<=31
 kj:0<=o.2.2.1/\o.2.2.1<=7
 kind:Od.kind o=1\/Od.kind o=5
structure l8 (s:Int)(A:List nw):Prop where
 ne: ∀a∈A,a.2≠ []
 Qk: ∀a∈A,∀e∈a.2,oF e/\EO s a.1 e.1
 sorted:(A.map (·.1)).Pairwise λa b=>iP s a b=true
structure BI (A B:List nw):Prop where
 yF:l8 1 A
 s8:l8 2 B
 yL:iV A+iV B<=64
 V7: ∀a∈A,∀b∈B,a.1<b.1
structure Bk (bs ss:List Nat)(st:List gF)(A B:List nw):Prop where
 lb:Kj st bs
 ls:Kj st ss
 nd:(bs++ss).Nodup
 ea:jz st bs=A
 eb:jz st ss=B
theorem lU (a:nw)(A:List nw):iV (a::A)=a.2.length+iV A:=rfl
theorem qD (A B:List nw):iV (A++B)=iV A+iV B:=by unfold iV;rw[zeV,nf]
theorem tk (A:List nw):0<=iV A:=by
 induction A with
 |nil=>exact zei _
 |cons a A ih=>rw[lU];omega
theorem Tf {A:List nw}{a:nw}(h:a∈A):(a.2.length:Int)<=iV A:=by
 induction A with
 |nil=>cases h
 |cons b A ih=>
  rw[lU];have:=tk A;rcases List.mem_cons.1 h with rfl|h
  ·omega
  ·have:=ih h;omega
theorem Tg {A:List nw}(h: ∀a∈A,a.2≠ []):(A.length:Int)<=iV A:=by
 induction A with
 |nil=>exact zei _
 |cons a A ih=>
  rw[lU];have h1:=ih λx hx=>h x (zdp _ hx);have h2:=List.length_pos_iff.2 (h a (zdq ..));simp only[zdn];omega
theorem V8 {s:Int}{st:List gF}{l:List Nat}(hl:Kj st l)(h:l8 s (jz st l))(hc:iV (jz st l)<=64):yE st l:=by
 have h1:=Tg h.ne;unfold jz at h1;rw[zen] at h1;have hm: ∀p∈l,(fK st p,dG st p)∈jz st l:=λp hp=>List.mem_map.2 ⟨p,hp,rfl⟩;refine⟨⟨by unfold jz at hc;omega,λp hp=>?_⟩,λp hp e he=>(h.Qk _ (hm p hp) e he).1⟩
 obtain⟨pr,es,Xu⟩:=hl p hp;refine⟨pr,es,Xu,?_⟩;have:=Tf (hm p hp);rw[show(fK st p,dG st p).2=dG st p from rfl,Xu.oM.1] at this
 omega
section
variable {bs ss:List Nat}{st:List gF}{A B:List nw}{last no:Int}
theorem Bk.yF (h:Bk bs ss st A B)(hi:BI A B):yE st bs:=V8 h.lb (h.ea▸hi.yF) (by rw[h.ea];have:=hi.yL;have:=tk B;omega)
theorem Bk.s8 (h:Bk bs ss st A B)(hi:BI A B):yE st ss:=V8 h.ls (h.eb▸hi.s8) (by rw[h.eb];have:=hi.yL;have:=tk A;omega)
abbrev kp (last no:Int):MG:=(((),(),()),last,no,())
def Od.vH (o:ek)(q:Int):ek:=(o.1,o.2.1,o.2.2.1,o.2.2.2.1,o.2.2.2.2.1,o.2.2.2.2.2.1,q,min (Od.show o) q,o.2.2.2.2.2.2.2.2)
def rr (o:ek)(A B:List nw)(last no:Int):=tY o (if Od.side o=1 then B else A) (Od.eX o) last no []
def jh (o:ek)(A B:List nw)(last no:Int):lX×List nw×List nw×Int×Int:=
 if¬F3 o A B=0 then((o,[],Od.eX o,false,false,false,F3 o A B,()),A,B,last,no)
 else if(rr o A B last no).2.1>0/\(rr o A B last no).1=false/\iR o=true then
  ((o,(rr o A B last no).2.2.2.2.2,(rr o A B last no).2.1,true,false,false,0,()),(if Od.side o=1 then Kk (Od.vH o (rr o A B last no).2.1) A else(rr o A B last no).2.2.1),(if Od.side o=1 then(rr o A B last no).2.2.1 else Kk (Od.vH o (rr o A B last no).2.1) B),(rr o A B last no).2.2.2.1,(rr o A B last no).2.2.2.2.1)
 else((o,(rr o A B last no).2.2.2.2.2,(rr o A B last no).2.1,false,false,(rr o A B last no).1,0,()),(if Od.side o=1 then A else(rr o A B last no).2.2.1),(if Od.side o=1 then(rr o A B last no).2.2.1 else B),(rr o A B last no).2.2.2.1,(rr o A B last no).2.2.2.2.1)
theorem zr {o:ek}(h:F3 o A B=0):nZ o=true:=by
 unfold F3 at h;cases hr:nZ o with
 |true=>rfl
 |false=>rw[hr] at h;simp at h
theorem Om {m:List Nat}(h:Kj st m): ∀p∈m,p≠st.length+1:=λp hp e=>by
 obtain⟨pr,es,n,rfl,h⟩:=h p hp;have:=(List.getElem?_eq_some_iff.1 h).1;omega
theorem ZL (h:Bk bs ss st A B)(hi:BI A B)(o:ek): ∃oT oU eY,ef WX (((),o,()),(kp last no,bs,ss,st,()))=some (((jh o A B last no).1,()),(kp (jh o A B last no).2.2.2.1 (jh o A B last no).2.2.2.2,oT,oU,eY,()))/\Bk oT oU eY (jh o A B last no).2.1 (jh o A B last no).2.2.1:=by
 have kb:=h.yF hi;have ks:=h.s8 hi;have hr:=Kh (hdr:=kp last no) kb ks o;rw[Te,h.ea,h.eb] at hr;unfold jh;by_cases h0:F3 o A B=0
 ·rw[if_neg (λe=>e h0)]
  have mc:=qC (zr h0);have hnd:=List.nodup_append.1 h.nd;obtain⟨M,hM,hm⟩:=Qg kb ks hnd.1 hnd.2.1 o last no mc.side ⟨by have:=mc.eX;omega,mc.eX.2⟩
  have Nw:=iU o;rw[h0] at hr;have Ur:(0:Int)=0:=rfl;have Xu:Kj st (if Od.side o=1 then ss else bs):=by split;exact h.ls;exact h.lb
  have hnl:(if Od.side o=1 then ss else bs).Nodup:=by split;exact hnd.2.1;exact hnd.1
  obtain⟨l',eY,m1,m2,m3,m4,m5⟩:=EN o _ st (Od.eX o) last no [] Xu hnl;have UH:jz st (if Od.side o=1 then ss else bs)=(if Od.side o=1 then B else A):=by split;exact h.eb;exact h.ea
  rw[UH] at m1 m2;change gU o _ st _ last no []=((rr o A B last no).1,(rr o A B last no).2.1,l',eY,(rr o A B last no).2.2.2) at m1;change jz eY l'=(rr o A B last no).2.2.1 at m2;rw[m1] at hM;generalize rr o A B last no=N at*;obtain⟨own,q,L,On,Uq,out⟩:=N;simp only at*;subst hM;simp only at hm;have ta:EM st eY (if Od.side o=1 then ss else bs):=m4
  by_cases KT:Od.side o=1
  ·simp only[if_pos KT] at*
   have hA:=nK m4 h.lb (λp hp xW=>hnd.2.2 p hp p xW rfl);rw[h.ea] at hA;have zM: ∀p∈l',p∈ss:=λp hp=>m3.subset hp;have hb0:Bk bs l' eY A L:=⟨hA.2,m5,List.nodup_append.2 ⟨hnd.1,m3.sublist.nodup hnd.2.1,λa ha b hb=>hnd.2.2 a ha b (zM b hb)⟩,hA.1,m2⟩;by_cases hc:q>0/\own=false/\iR o=true
   ·rw[if_pos hc]
    obtain⟨c1,c2,c3⟩:=hc;subst c2;simp only[zdk,if_false] at hm;have LG:=GX (Od.vH o q) hA.2 hnd.1;have sZ:Ch eY bs:=by
     have OW:=V8 (s:=1) hA.2 (hA.1▸hi.yF) (by rw[hA.1];have:=hi.yL;have:=tk B;omega)
     exact OW.1
    have hrb:=Tb (hdr:=kp On Uq) (ss:=l') (Od.vH o q) (show Od.side (Od.vH o q)=1 from KT) sZ
    have ZM:bB WX (((),(o.1,o.2.1,o.2.2.1,o.2.2.2.1,o.2.2.2.2.1,o.2.2.2.2.2.1,q,min o.2.2.2.2.2.2.2.1 q,o.2.2.2.2.2.2.2.2),()),(kp On Uq,bs,l',eY,()))=_:=hrb;refine⟨_,_,_,by simp only[ef,hr,zdc,↓xo,ot Ur,zdg,zdd,hm,ot c1,zde,zdh,Nw,c3,uS,ZM];rfl,?_⟩
    rw[hA.1] at LG;have hl': ∀p∈l',p∉bs:=λp hp xW=>hnd.2.2 p xW p (zM p hp) rfl;have hL:=nK LG.2.2.1 m5 hl';refine⟨LG.2.1,hL.2,List.nodup_append.2 ⟨LG.2.2.2.2,m3.sublist.nodup hnd.2.1,λa ha b hb e=>?_⟩,LG.1,hL.1.trans m2⟩;subst e;rcases LG.2.2.2.1 a ha with h1|h1
    ·exact hl' a hb h1
    ·exact Om m5 a hb h1
   ·rw[if_neg hc]
    refine⟨bs,l',eY,?_,hb0⟩;cases own with
    |true=>
     simp only[if_true] at hm;by_cases c1:q>0
     ·simp only[ef,hr,zdc,↓xo,ot Ur,zdg,zdd,hm,ot c1,zde]
     ·simp only[ef,hr,zdc,↓xo,ot Ur,zdg,zdd,hm,bc c1]
    |false=>
     simp only[zdk,if_false] at hm;by_cases c1:q>0
     ·have c3:iR o=false:=by cases hx:iR o with|false=>rfl|true=>exact absurd ⟨c1,rfl,hx⟩ hc
      simp only[ef,hr,zdc,↓xo,ot Ur,zdg,zdd,hm,ot c1,zde,zdh,Nw,c3]
     ·simp only[ef,hr,zdc,↓xo,ot Ur,zdg,zdd,hm,bc c1]
  ·have Xv:Od.side o=2:=mc.side.resolve_left KT
   simp only[if_neg KT] at*;have hA:=nK m4 h.ls (λp hp xW=>hnd.2.2 p xW p hp rfl);rw[h.eb] at hA;have zM: ∀p∈l',p∈bs:=λp hp=>m3.subset hp;have hb0:Bk l' ss eY L B:=⟨m5,hA.2,List.nodup_append.2 ⟨m3.sublist.nodup hnd.1,hnd.2.1,λa ha b hb=>hnd.2.2 a (zM a ha) b hb⟩,m2,hA.1⟩;by_cases hc:q>0/\own=false/\iR o=true
   ·rw[if_pos hc]
    obtain⟨c1,c2,c3⟩:=hc;subst c2;simp only[zdk,if_false] at hm;have LG:=GX (Od.vH o q) hA.2 hnd.2.1;have sZ:Ch eY ss:=by
     have OW:=V8 (s:=2) hA.2 (hA.1▸hi.s8) (by rw[hA.1];have:=hi.yL;have:=tk A;omega)
     exact OW.1
    have hrb:=Qh (hdr:=kp On Uq) (bs:=l') (Od.vH o q) (show Od.side (Od.vH o q)=2 from Xv) sZ
    have ZM:bB WX (((),(o.1,o.2.1,o.2.2.1,o.2.2.2.1,o.2.2.2.2.1,o.2.2.2.2.2.1,q,min o.2.2.2.2.2.2.2.1 q,o.2.2.2.2.2.2.2.2),()),(kp On Uq,l',ss,eY,()))=_:=hrb;refine⟨_,_,_,by simp only[ef,hr,zdc,↓xo,ot Ur,zdg,zdd,hm,ot c1,zde,zdh,Nw,c3,uS,ZM];rfl,?_⟩
    rw[hA.1] at LG;have hl': ∀p∈l',p∉ss:=λp hp xW=>hnd.2.2 p (zM p hp) p xW rfl;have hL:=nK LG.2.2.1 m5 hl';refine⟨hL.2,LG.2.1,List.nodup_append.2 ⟨m3.sublist.nodup hnd.1,LG.2.2.2.2,λa ha b hb e=>?_⟩,hL.1.trans m2,LG.1⟩;subst e;rcases LG.2.2.2.1 a hb with h1|h1
    ·exact hl' a ha h1
    ·exact Om m5 a ha h1
   ·rw[if_neg hc]
    refine⟨l',ss,eY,?_,hb0⟩;cases own with
    |true=>
     simp only[if_true] at hm;by_cases c1:q>0
     ·simp only[ef,hr,zdc,↓xo,ot Ur,zdg,zdd,hm,ot c1,zde]
     ·simp only[ef,hr,zdc,↓xo,ot Ur,zdg,zdd,hm,bc c1]
    |false=>
     simp only[zdk,if_false] at hm;by_cases c1:q>0
     ·have c3:iR o=false:=by cases hx:iR o with|false=>rfl|true=>exact absurd ⟨c1,rfl,hx⟩ hc
      simp only[ef,hr,zdc,↓xo,ot Ur,zdg,zdd,hm,ot c1,zde,zdh,Nw,c3]
     ·simp only[ef,hr,zdc,↓xo,ot Ur,zdg,zdd,hm,bc c1]
 ·rw[if_pos h0]
  refine⟨bs,ss,st,?_,h⟩;simp only[ef,hr,zdc,↓xo,bc h0,zdh,zde]
end
def By (P:ek->Prop):Prop:= ∀o q,P o->P (Od.bP o q)
theorem ML {P:ek->Prop}(hP:By P){e:oE}{r:List oE}{n:Int}(he:P e.1)(hr: ∀x∈r,P x.1): ∀x∈yR e r n,P x.1:=by
 unfold yR;intro x hx;split at hx
 ·rcases List.mem_cons.1 hx with rfl|hx
  ·exact hP _ _ he
  ·exact hr x hx
 ·rcases List.mem_append.1 hx with hx|hx
  ·exact hr x hx
  ·split at hx
   ·rw[zeB] at hx;subst hx;exact hP _ _ he
   ·cases hx
theorem EP {P:ek->Prop}(hP:By P)(kj:Int): ∀(k:Nat) (q:Int) (es out:List oE),(∀e∈es,P e.1)->(∀e∈out,P e.1)->(∀e∈(fI kj k q es out).2.1,P e.1)/\∀e∈(fI kj k q es out).2.2.1,P e.1
 |0,q,es,out,h1,h2=>⟨h2,h1⟩
 |k+1,q,es,out,h1,h2=>by
  unfold fI;split
  ·cases es with
   |nil=>exact⟨h2,h1⟩
   |cons e r=>
    simp only;have he:=h1 e (zdq ..);split
    ·exact⟨h2,h1⟩
    ·refine EP hP kj k _ _ _ (ML hP he λx hx=>h1 x (zdp _ hx)) (λx hx=>?_)
     rcases List.mem_append.1 hx with hx|hx
     ·exact h2 x hx
     ·rw[zeB] at hx;subst hx;exact he
  ·exact⟨h2,h1⟩
abbrev Fl.eX (f:ni):Int:=f.2.2.2.1
structure Bz (s pr:Int)(o:ek)(f:ni):Prop where
 Xw:EO s pr f.1
 zbG: ∃q,f.2.1=Od.bP o q
 aY:f.2.2.1=pr
 eX:1<=Fl.eX f
def ll (l:List ni):Int:=jH (l.map λf=>Fl.eX f)
theorem tZ (a b:List ni):ll (a++b)=ll a+ll b:=by unfold ll;rw[zeV,nf]
theorem Cl (s pr:Int)(o:ek): ∀(hs:List oE) (no q:Int) (out:List ni),zq hs->(∀h∈hs,EO s pr h.1)->∃fs,(mK pr hs (no,Od.bP o q,out)).2.2=out++fs/\(∀f∈fs,Bz s pr o f)/\ll fs=ju hs
 | [],no,q,out,_,_=>⟨[],by simp[mK],λf hf=>(by cases hf),rfl⟩
 |h::r,no,q,out,h1,h2=>by
  obtain⟨fs,i1,i2,i3⟩:=Cl s pr o r (i64.wrap (no+1)) (q-h.2.1) (out++ [(h.1,Od.bP o q,pr,h.2.1,i64.wrap (no+1),())]) (λx hx=>h1 x (zdp _ hx)) (λx hx=>h2 x (zdp _ hx));refine⟨(h.1,Od.bP o q,pr,h.2.1,i64.wrap (no+1),())::fs,?_,?_,?_⟩
  ·show(mK pr r (i64.wrap (no+1),Od.bP o (q-h.2.1),_)).2.2=_
   rw[i1];simp
  ·intro f hf
   rcases List.mem_cons.1 hf with rfl|hf
   ·exact⟨h2 h (zdq ..),⟨q,rfl⟩,rfl,h1 h (zdq ..)⟩
   ·exact i2 f hf
  ·have:ju (h::r)=h.2.1+ju r:=by simp[ju,jH]
   rw[this,<-i3];rfl
theorem Cm (s pr:Int):By (EO s pr):=λ_ _ h=>⟨h.side,h.aY,h.qn,h.kj,h.kind⟩
structure ID (s:Int)(o:ek)(A:List nw)(q:Int)(out:List ni)(M:Bool×Int×List nw×Int×Int×List ni):Prop where
 side:l8 s M.2.2.1
 Th:M.2.2.1.map (·.1)<:+A.map (·.1)
 yL:iV M.2.2.1<=iV A
 left:0<=M.2.1/\M.2.1<=q
 stop:M.1=false->M.2.1>0->M.2.2.1=[]\/∃a L,M.2.2.1=a::L/\lQ o a.1=false
 AE: ∃fs,M.2.2.2.2.2=out++fs/\(∀f∈fs,∃pr,Bz s pr o f)/\ll fs=q-M.2.1
theorem l8.tail {s:Int}{a:nw}{A:List nw}(h:l8 s (a::A)):l8 s A:=
 ⟨λx hx=>h.ne x (zdp _ hx),λx hx=>h.Qk x (zdp _ hx),by have:=h.sorted;simp only[zea,ze0] at this;exact this.2⟩
theorem l8.head {s:Int}{a:nw}{A:List nw}(h:l8 s (a::A)){es:List oE}(lR:es≠ [])(he: ∀e∈es,oF e/\EO s a.1 e.1):l8 s ((a.1,es)::A):=by
 refine⟨λx hx=>?_,λx hx=>?_,h.sorted⟩
 ·rcases List.mem_cons.1 hx with rfl|hx
  ·exact lR
  ·exact h.ne x (zdp _ hx)
 ·rcases List.mem_cons.1 hx with rfl|hx
  ·exact he
  ·exact h.Qk x (zdp _ hx)
theorem BA (s:Int)(o:ek): ∀(A:List nw) (q last no:Int) (out:List ni),l8 s A->0<=q->ID s o A q out (tY o A q last no out)
 | [],q,last,no,out,h,h0=>⟨h,zeZ _,zei _,⟨h0,zei _⟩,λ_ _=> .inl rfl,[],by simp[tY],λf hf=>(by cases hf),by simp[ll,jH,tY]⟩
 |a::A,q,last,no,out,h,h0=>by
  unfold tY;by_cases hc:q>0/\lQ o a.1=true
  ·rw[if_pos hc]
   have V9:=h.Qk a (zdq ..);obtain⟨t1,t2,t3,t4,t5,t6,t7,t8,t9⟩:=EI o.2.2.1 q.toNat q a.2 [] h0 (by omega) (λe he=>(V9 e he).1) (λx hx=>by cases hx)
   obtain⟨p1,p2⟩:=EP (Cm s a.1) o.2.2.1 q.toNat q a.2 [] (λe he=>(V9 e he).2) (λx hx=>by cases hx)
   generalize fI o.2.2.1 q.toNat q a.2 []=T at*;obtain⟨own,rp,oa,q'⟩:=T;simp only at*;obtain⟨fs,f1,f2,f3⟩:=Cl s a.1 o rp no q out t1 p1;have hz:ju ([]:List oE)=0:=rfl;have FK:iV ((a.1,oa)::A)<=iV (a::A):=by rw[lU,lU];simp only;omega
   have hf: ∃gs,(mK a.1 rp (no,Od.bP o q,out)).2.2=out++gs/\(∀f∈gs,∃pr,Bz s pr o f)/\ll gs=q-q':=⟨fs,f1,λf hf=>⟨_,f2 f hf⟩,by omega⟩
   cases own with
   |true=>
    rw[if_pos rfl];exact⟨h.head (t7 rfl) λe he=>⟨t5 e he,p2 e he⟩,zeZ _,FK,⟨t3,t4⟩,λe=>(by cases e),hf⟩
   |false=>
    rw[if_neg (by simp)]
    by_cases he:oa=[]
    ·rw[if_pos he]
     have ih:=BA s o A q' (rB a.1 last rp) (mK a.1 rp (no,Od.bP o q,out)).1 (mK a.1 rp (no,Od.bP o q,out)).2.2 h.tail t3;obtain⟨i1,i2,i3,i4,i5,gs,i6,i7,i8⟩:=ih;refine⟨i1,i2.trans (List.suffix_cons ..),?_,⟨i4.1,by omega⟩,i5,fs++gs,?_,λf hf=>?_,?_⟩
     ·rw[lU];omega
     ·rw[i6,f1];simp
     ·rcases List.mem_append.1 hf with hf|hf
      ·exact⟨_,f2 f hf⟩
      ·exact i7 f hf
     ·rw[tZ];omega
    ·rw[if_neg he]
     exact⟨h.head he λe he=>⟨t5 e he,p2 e he⟩,zeZ _,FK,⟨t3,t4⟩,λ_ hq=>absurd ((t8 rfl).resolve_right he) (by simp only at hq;omega),hf⟩
  ·rw[if_neg hc]
   refine⟨h,zeZ _,zei _,⟨h0,zei _⟩,λ_ hq=> .inr ⟨a,A,rfl,?_⟩,[],by simp,λf hf=>(by cases hf),by simp[ll,jH]⟩
   cases hx:lQ o a.1 with
   |false=>rfl
   |true=>exact absurd ⟨hq,hx⟩ hc
theorem F4 {s a b c:Int}(h1:iP s a b=true)(h2:iP s b c=true):iP s a c=true:=by
 unfold iP at*;split at h1<;>simp_all<;>omega
theorem IE {s a b:Int}(h1:iP s a b=false)(h2:a≠b):iP s b a=true:=by
 unfold iP at*;split at h1<;>simp_all<;>omega
theorem Oo {s:Int}{o:ek}{A:List nw}(h:l8 s A)(he:oF (o,mb o,())/\EO s (Od.aY o) o):l8 s (Kk o A)/\iV (Kk o A)=iV A+1/\∀a∈Kk o A,a.1=Od.aY o\/∃b∈A,b.1=a.1:=by
 have hs:=he.2.side;have qS: ∀x:nw,x=(Od.aY o,[(o,mb o,())])->x.2≠ []/\∀e∈x.2,oF e/\EO s x.1 e.1:=λx hx=>by
  subst hx;refine⟨by simp,λe h=>?_⟩
  rw[zeB] at h;subst h;exact he
 have A0: ∀P S:List nw,A=P++S->(∀a∈P,iP s a.1 (Od.aY o)=true)->(∀a∈S,iP s (Od.aY o) a.1=true)->l8 s (P++((Od.aY o,[(o,mb o,())])::S))/\iV (P++((Od.aY o,[(o,mb o,())])::S))=iV A+1/\∀a∈P++((Od.aY o,[(o,mb o,())])::S),a.1=Od.aY o\/∃b∈A,b.1=a.1:=by
  intro P S hA hP hS;subst hA;refine⟨⟨λa ha=>?_,λa ha=>?_,?_⟩,?_,λa ha=>?_⟩
  ·rcases List.mem_append.1 ha with ha|ha
   ·exact h.ne a (zdu _ ha)
   ·rcases List.mem_cons.1 ha with ha|ha
    ·exact(qS a ha).1
    ·exact h.ne a (zdv _ ha)
  ·rcases List.mem_append.1 ha with ha|ha
   ·exact h.Qk a (zdu _ ha)
   ·rcases List.mem_cons.1 ha with ha|ha
    ·exact(qS a ha).2
    ·exact h.Qk a (zdv _ ha)
  ·have:=h.sorted
   rw[zeV,List.pairwise_append] at this;rw[zeV,List.pairwise_append,zea,ze0];refine⟨this.1,⟨λx hx=>?_,this.2.1⟩,λx hx y hy=>?_⟩
   ·obtain⟨a,ha,rfl⟩:=List.mem_map.1 hx;exact hS a ha
   ·rcases List.mem_cons.1 hy with rfl|hy
    ·obtain⟨a,ha,rfl⟩:=List.mem_map.1 hx;exact hP a ha
    ·exact this.2.2 x hx y hy
  ·rw[qD,qD,lU];simp only[zdn,zdo];omega
  ·rcases List.mem_append.1 ha with ha|ha
   ·exact .inr ⟨a,zdu _ ha,rfl⟩
   ·rcases List.mem_cons.1 ha with rfl|ha
    ·exact .inl rfl
    ·exact .inr ⟨a,zdv _ ha,rfl⟩
 unfold Kk;cases hf:A.findIdx? (λa=>!iP (Od.side o) a.1 (Od.aY o)) with
 |none=>
  rw[zeS] at hf;refine A0 A [] (by simp) (λa ha=>?_) (λa ha=>by cases ha)
  have:=hf a ha;rw[hs] at this;simpa using this
 |some n=>
  rw[zeT] at hf;obtain⟨hn,h1,h2⟩:=hf;rw[hs] at h1;simp only[zdi hn];have Fo:A=A.take n++A.drop n:=(zev n A).symm;have hdr:A.drop n=A[n]::A.drop (n+1):=zeX hn;have O5: ∀a∈A.take n,iP s a.1 (Od.aY o)=true:=λa ha=>by
   obtain⟨j,hj,rfl⟩:=zdU ha;rw[zdH] at hj;have:=h2 j (by omega)
   rw[hs] at this;rw[List.getElem_take];simpa using this
  have zbH:=h.sorted;rw[Fo,hdr,zeV,List.pairwise_append,zea,ze0] at zbH;by_cases Bx:A[n].1=Od.aY o
  ·rw[if_pos Bx]
   have um:A.set n (A[n].1,A[n].2++ [(o,mb o,())])=A.take n++((A[n].1,A[n].2++ [(o,mb o,())])::A.drop (n+1)):=by rw[ze1,if_pos hn]
   have tf:=zeq hn;refine⟨⟨λa ha=>?_,λa ha=>?_,?_⟩,?_,λa ha=>?_⟩
   ·rcases zep ha with ha|rfl
    ·exact h.ne a ha
    ·simp
   ·rcases zep ha with ha|rfl
    ·exact h.Qk a ha
    ·intro e hx
     rcases List.mem_append.1 hx with hx|hx
     ·exact h.Qk _ tf e hx
     ·rw[zeB] at hx;subst hx
      exact⟨he.1,by rw[show((A[n].1,A[n].2++ [(o,mb o,())]):nw).1=A[n].1 from rfl,Bx];exact he.2⟩
   ·have:(A.set n (A[n].1,A[n].2++ [(o,mb o,())])).map (·.1)=A.map (·.1):=by
     rw[List.map_set];have h3:(A.map (·.1))[n]?=some A[n].1:=by rw[zej,zdi hn];rfl
     exact aI h3
    rw[this];exact h.sorted
   ·rw[um,qD,lU]
    have:iV A=iV (A.take n)+(A[n].2.length+iV (A.drop (n+1))):=by rw[<-lU,<-hdr,<-qD,<-Fo]
    rw[this];simp only[zdm,zdn,zdo];omega
   ·rcases zep ha with ha|rfl
    ·exact .inr ⟨a,ha,rfl⟩
    ·exact .inl Bx
  ·rw[if_neg Bx]
   refine A0 (A.take n) (A.drop n) Fo O5 (λa ha=>?_);have hb:iP s (Od.aY o) A[n].1=true:=IE (by simpa using h1) Bx
   rw[hdr] at ha;rcases List.mem_cons.1 ha with rfl|ha
   ·exact hb
   ·exact F4 hb (zbH.2.1.1 a.1 (List.mem_map.2 ⟨a,ha,rfl⟩))
structure Xx (o:ek)(x:lX):Prop where
 ord:x.1=o
 AE:x.2.1=[]\/(GW o/\(∀f∈x.2.1,∃pr,Bz (3-Od.side o) pr o f)/\ll x.2.1=Od.eX o-x.2.2.1)
 left:0<=Od.eX o->0<=x.2.2.1/\x.2.2.1<=Od.eX o
theorem ER {L B:List nw}(h:L.map (·.1)<:+B.map (·.1)){a:nw}(ha:a∈L): ∃b∈B,b.1=a.1:=by
 have:a.1∈B.map (·.1):=h.subset (List.mem_map.2 ⟨a,ha,rfl⟩)
 obtain⟨b,hb,e⟩:=List.mem_map.1 this;exact⟨b,hb,e⟩
theorem sB {o:ek}(h:iR o=true):Od.kind o=1\/Od.kind o=5:=by
 unfold iR at h;simpa only[zeo,zdr] using h
theorem Kl {o:ek}(h:GW o)(hk:iR o=true){q:Int}(h0:0<q)(h1:q<=Od.eX o):oF (Od.vH o q,mb (Od.vH o q),())/\EO (Od.side o) (Od.aY o) (Od.vH o q):=by
 have hq:Od.eX (Od.vH o q)=q:=rfl;have ht:=Oe (o:=Od.vH o q) (by rw[hq];omega)
 exact⟨⟨ht.1,ht.2,by show q<=_;have:=h.eX;omega⟩,⟨rfl,rfl,h.qn,h.kj,sB hk⟩⟩
theorem Dh {A B:List nw}{last no:Int}(hi:BI A B)(o:ek):BI (jh o A B last no).2.1 (jh o A B last no).2.2.1/\iV (jh o A B last no).2.1+iV (jh o A B last no).2.2.1<=iV A+iV B+(if iR o=true then 1 else 0)/\Xx o (jh o A B last no).1:=by
 have hz:(0:Int)<=(if iR o=true then 1 else 0):=by split<;>omega
 unfold jh;by_cases h0:F3 o A B=0
 ·rw[if_neg (λe=>e h0)]
  have mc:=qC (zr h0);have hq:=mc.eX;have Cn:iR o=true->iV A+iV B+1<=64:=λhr=>by
   unfold F3 at h0;rw[zr (A:=A) (B:=B) (by unfold F3;exact h0)] at h0
   simp only[zdg,zdk,if_false,hr,true_and] at h0;split at h0
   ·cases h0
   ·split at h0
    ·cases h0
    ·split at h0
     ·cases h0
     ·omega
  by_cases KT:Od.side o=1
  ·have hm:ID 2 o B (Od.eX o) [] (rr o A B last no):=by unfold rr;rw[if_pos KT];exact BA 2 o B _ last no [] hi.s8 (by omega)
   generalize rr o A B last no=M at*;simp only[if_pos KT];have js: ∃fs,M.2.2.2.2.2=fs/\(∀f∈fs,∃pr,Bz (3-Od.side o) pr o f)/\ll fs=Od.eX o-M.2.1:=by
    obtain⟨fs,f1,f2,f3⟩:=hm.AE;exact⟨fs,f1,by rw[KT];exact f2,f3⟩
   obtain⟨fs,f1,f2,f3⟩:=js;have Ti: ∀a∈A,∀b∈M.2.2.1,a.1<b.1:=λa ha b hb=>by
    obtain⟨c,hc,e⟩:=ER hm.Th hb;rw[<-e];exact hi.V7 a ha c hc
   have FK:=hm.yL;have zcM:=hi.yL;by_cases hc:M.2.1>0/\M.1=false/\iR o=true
   ·rw[if_pos hc]
    obtain⟨c1,c2,c3⟩:=hc;have um:=Kl mc c3 c1 hm.left.2;rw[KT] at um;obtain⟨i1,i2,i3⟩:=Oo (s:=1) (A:=A) hi.yF um;have:=Cn c3;refine⟨⟨i1,hm.side,by simp only[i2];omega,λa ha b hb=>?_⟩,by simp only[i2,c3,if_true];omega,rfl, .inr ⟨mc,by simp only[f1];exact f2,by simp only[f1];exact f3⟩,λ_=>hm.left⟩
    rcases i3 a ha with h1|⟨c,hc,h1⟩
    ·rcases hm.stop c2 c1 with h2|⟨x,L,h2,h3⟩
     ·simp only at hb;rw[h2] at hb;cases hb
     ·have hk:=sB c3
      have hp:Od.aY o<x.1:=by
       unfold lQ at h3;rw[if_neg (by omega),if_pos KT] at h3
       have:=of_decide_eq_false h3;omega
      have H5:a.1=Od.aY o:=h1;simp only at hb;rw[h2] at hb;rcases List.mem_cons.1 hb with rfl|hb
      ·omega
      ·have Lx:=hm.side.sorted
       rw[h2,zea,ze0] at Lx;have:=Lx.1 b.1 (List.mem_map.2 ⟨b,hb,rfl⟩);unfold iP at this;rw[if_neg (by omega)] at this
       have:=of_decide_eq_true this;omega
    ·rw[<-h1];exact Ti c hc b hb
   ·rw[if_neg hc]
    exact⟨⟨hi.yF,hm.side,by simp only;omega,Ti⟩,by simp only;omega,rfl, .inr ⟨mc,by simp only[f1];exact f2,by simp only[f1];exact f3⟩,λ_=>hm.left⟩
  ·have Xv:Od.side o=2:=mc.side.resolve_left KT
   have hm:ID 1 o A (Od.eX o) [] (rr o A B last no):=by unfold rr;rw[if_neg KT];exact BA 1 o A _ last no [] hi.yF (by omega)
   generalize rr o A B last no=M at*;simp only[if_neg KT];have js: ∃fs,M.2.2.2.2.2=fs/\(∀f∈fs,∃pr,Bz (3-Od.side o) pr o f)/\ll fs=Od.eX o-M.2.1:=by
    obtain⟨fs,f1,f2,f3⟩:=hm.AE;exact⟨fs,f1,by rw[Xv];exact f2,f3⟩
   obtain⟨fs,f1,f2,f3⟩:=js;have Ti: ∀a∈M.2.2.1,∀b∈B,a.1<b.1:=λa ha b hb=>by
    obtain⟨c,hc,e⟩:=ER hm.Th ha;rw[<-e];exact hi.V7 c hc b hb
   have FK:=hm.yL;have zcM:=hi.yL;by_cases hc:M.2.1>0/\M.1=false/\iR o=true
   ·rw[if_pos hc]
    obtain⟨c1,c2,c3⟩:=hc;have um:=Kl mc c3 c1 hm.left.2;rw[Xv] at um;obtain⟨i1,i2,i3⟩:=Oo (s:=2) (A:=B) hi.s8 um;have:=Cn c3;refine⟨⟨hm.side,i1,by simp only[i2];omega,λb hb a ha=>?_⟩,by simp only[i2,c3,if_true];omega,rfl, .inr ⟨mc,by simp only[f1];exact f2,by simp only[f1];exact f3⟩,λ_=>hm.left⟩
    rcases i3 a ha with h1|⟨c,hc,h1⟩
    ·rcases hm.stop c2 c1 with h2|⟨x,L,h2,h3⟩
     ·simp only at hb;rw[h2] at hb;cases hb
     ·have hk:=sB c3
      have hp:x.1<Od.aY o:=by
       unfold lQ at h3;rw[if_neg (by omega),if_neg KT] at h3
       have:=of_decide_eq_false h3;omega
      have H5:a.1=Od.aY o:=h1;simp only at hb;rw[h2] at hb;rcases List.mem_cons.1 hb with rfl|hb
      ·omega
      ·have Lx:=hm.side.sorted
       rw[h2,zea,ze0] at Lx;have:=Lx.1 b.1 (List.mem_map.2 ⟨b,hb,rfl⟩);unfold iP at this;rw[if_pos rfl] at this;have:=of_decide_eq_true this;omega
    ·rw[<-h1];exact Ti b hb c hc
   ·rw[if_neg hc]
    exact⟨⟨hm.side,hi.s8,by simp only;omega,Ti⟩,by simp only;omega,rfl, .inr ⟨mc,by simp only[f1];exact f2,by simp only[f1];exact f3⟩,λ_=>hm.left⟩
 ·rw[if_pos h0]
  exact⟨hi,by simp only;omega,rfl, .inl rfl,λh=>⟨h,zei _⟩⟩
def uU (t i:Int)(A B:List nw):ek×Bool×List nw×List nw:=match mT t i A with
 |some (m,o)=>(o,true,(match A[m]? with|some a=>if ql t i a.2=[] then A.eraseIdx m else A.set m (a.1,ql t i a.2)|none=>A),B)
 |none=>match mT t i B with
  |some (m,o)=>(o,true,A,(match B[m]? with|some a=>if ql t i a.2=[] then B.eraseIdx m else B.set m (a.1,ql t i a.2)|none=>B))
  |none=>(o0,false,A,B)
section
variable {bs ss:List Nat}{st:List gF}{A B:List nw}{last no:Int}
theorem xX {l:List Nat}(hl:Kj st l)(hn:l.Nodup){m:Nat}(hm:m<l.length)(oa:List oE):jz (ko st l[m] oa) l=(jz st l).set m (fK st l[m],oa)/\Kj (ko st l[m] oa) l:=by
 obtain⟨pr,es,hp⟩:=hl _ (zeq hm);constructor
 ·apply List.ext_getElem?
  intro j;unfold jz;rw[zeJ,zej];by_cases hj:m=j
  ·subst hj
   rw[if_pos rfl,zdi hm,if_pos (by rw[zen];exact hm)]
   simp only[zds];have:=(hp.put (oa:=oa)).oM;rw[this.1,this.2,hp.oM.2]
  ·rw[if_neg hj,zej]
   cases hlj:l[j]? with
   |none=>rfl
   |some p=>
    simp only[zds];have hpj:p≠l[m]:=λe=>by
     obtain⟨hj1,XT⟩:=List.getElem?_eq_some_iff.1 hlj;exact hj ((List.getElem_inj hn).1 (XT.trans e)).symm
    obtain⟨V2,S7,xW⟩:=hl p (zee hlj);have h1:=(xW.tD (oa:=oa) hpj hp.ne0).oM;rw[h1.1,h1.2,xW.oM.1,xW.oM.2]
 ·intro p xW
  by_cases e:p=l[m]
  ·subst e;exact⟨pr,_,hp.put⟩
  ·obtain⟨V2,S7,h'⟩:=hl p xW
   exact⟨V2,S7,h'.tD e hp.ne0⟩
theorem oc {t i:Int}: ∀{A:List nw} {m:Nat} {o:ek},mT t i A=some (m,o)->∃a,A[m]?=some a/\Qi t i a=some o
 | [],_,_,h=>by cases h
 |a::A,m,o,h=>by
  simp only[mT] at h;cases e:Qi t i a with
  |some x=>rw[e] at h;cases h;exact⟨a,rfl,e⟩
  |none=>
   rw[e] at h;simp only at h;cases e2:mT t i A with
   |none=>rw[e2] at h;cases h
   |some y=>
    rw[e2] at h;obtain⟨m',o'⟩:=y;cases h;obtain⟨q,h1,h2⟩:=oc e2;exact⟨q,by simpa using h1,h2⟩
theorem GY {l:List Nat}(hl:Kj st l)(hn:l.Nodup){m:Nat}(hm:m<l.length)(oa:List oE):jz (ko st l[m] oa) (mJ l m oa)=(if oa=[] then(jz st l).eraseIdx m else(jz st l).set m (fK st l[m],oa))/\(mJ l m oa).Sublist l:=by
 have h:=xX hl hn hm oa;unfold mJ;by_cases e:oa=[]
 ·rw[if_pos e,if_pos e]
  refine⟨?_,ze2 ..⟩;have h1:jz (ko st l[m] oa) (l.eraseIdx m)=(jz (ko st l[m] oa) l).eraseIdx m:=by unfold jz;rw[zeQ,zeV,List.map_take,List.map_drop,<-zeQ]
  rw[h1,h.1,List.eraseIdx_set_eq]
 ·rw[if_neg e,if_neg e]
  exact⟨h.1,List.Sublist.refl _⟩
theorem ZN (h:Bk bs ss st A B)(hi:BI A B)(t i:Int): ∃oT oU eY,fY WX (((),t,i,()),(kp last no,bs,ss,st,()))=some (((uU t i A B).1,(uU t i A B).2.1,()),(kp last no,oT,oU,eY,()))/\Bk oT oU eY (uU t i A B).2.2.1 (uU t i A B).2.2.2:=by
 have hr:=MH (hdr:=kp last no) (t:=t) (i:=i) (h.yF hi).1 (h.s8 hi).1;have hnd:=List.nodup_append.1 h.nd;obtain⟨lb,ls,nd,rfl,rfl⟩:=h;unfold EG at hr;unfold uU;rw[pD,pD] at hr;cases hf:mT t i (jz st bs) with
 |some x=>
  obtain⟨m,o⟩:=x;obtain⟨a,h1,h2⟩:=oc hf;have hm:m<bs.length:=by have:=(List.getElem?_eq_some_iff.1 h1).1;unfold jz at this;rw[zen] at this;exact this
  have hx:=zdi hm;have hg:bs.getD m 0=bs[m]:=by rw[zdt,hx];rfl
  have ha:a=(fK st bs[m],dG st bs[m]):=by
   unfold jz at h1;rw[zej,hx] at h1;cases h1;rfl
  subst ha;rw[hf] at hr;simp only[hg] at hr;obtain⟨s1,s2⟩:=GY lb hnd.1 hm (ql t i (dG st bs[m]));have Ok:=nK (sA (lb _ (zeq hm)).choose_spec.choose_spec (ql t i (dG st bs[m])) bs (zeq hm)) ls (λp hp xW=>hnd.2.2 p xW p hp rfl);refine⟨_,_,_,hr,⟨λp hp=>(xX lb hnd.1 hm _).2 p (s2.subset hp),Ok.2,List.nodup_append.2 ⟨s2.nodup hnd.1,hnd.2.1,λa ha b hb=>hnd.2.2 a (s2.subset ha) b hb⟩,?_,Ok.1⟩⟩;simp only[h1];exact s1
 |none=>
  rw[hf] at hr;cases xy:mT t i (jz st ss) with
  |some x=>
   obtain⟨m,o⟩:=x;obtain⟨a,h1,h2⟩:=oc xy;have hm:m<ss.length:=by have:=(List.getElem?_eq_some_iff.1 h1).1;unfold jz at this;rw[zen] at this;exact this
   have hx:=zdi hm;have hg:ss.getD m 0=ss[m]:=by rw[zdt,hx];rfl
   have ha:a=(fK st ss[m],dG st ss[m]):=by
    unfold jz at h1;rw[zej,hx] at h1;cases h1;rfl
   subst ha;rw[xy] at hr;simp only[hg] at hr;obtain⟨s1,s2⟩:=GY ls hnd.2.1 hm (ql t i (dG st ss[m]));have Ok:=nK (sA (ls _ (zeq hm)).choose_spec.choose_spec (ql t i (dG st ss[m])) ss (zeq hm)) lb (λp hp xW=>hnd.2.2 p hp p xW rfl);refine⟨_,_,_,hr,⟨Ok.2,λp hp=>(xX ls hnd.2.1 hm _).2 p (s2.subset hp),List.nodup_append.2 ⟨hnd.1,s2.nodup hnd.2.1,λa ha b hb=>hnd.2.2 a ha b (s2.subset hb)⟩,Ok.1,?_⟩⟩;simp only[h1];exact s1
  |none=>
   rw[xy] at hr;exact⟨_,_,_,hr,⟨lb,ls,nd,rfl,rfl⟩⟩
end
theorem Tj {A B:List nw}(h:A.Sublist B):iV A<=iV B:=by
 induction h with
 |slnil=>exact zei _
 |cons a h ih=>rw[lU];omega
 |cons_cons a h ih=>rw[lU,lU];omega
theorem Tk {s:Int}{A B:List nw}(h:l8 s B)(hs:A.Sublist B):l8 s A:=
 ⟨λa ha=>h.ne a (hs.subset ha),λa ha=>h.Qk a (hs.subset ha),h.sorted.sublist (hs.map _)⟩
theorem Km {s:Int}{A:List nw}(h:l8 s A){m:Nat}{a:nw}(ha:A[m]?=some a){es:List oE}(lR:es≠ [])(he: ∀e∈es,oF e/\EO s a.1 e.1)(hl:es.length<=a.2.length):l8 s (A.set m (a.1,es))/\iV (A.set m (a.1,es))<=iV A/\(A.set m (a.1,es)).map (·.1)=A.map (·.1):=by
 have hp:(A.set m (a.1,es)).map (·.1)=A.map (·.1):=by
  rw[List.map_set];have h3:(A.map (·.1))[m]?=some a.1:=by rw[zej,ha];rfl
  exact aI h3
 have hm:=(List.getElem?_eq_some_iff.1 ha).1;refine⟨⟨λx hx=>?_,λx hx=>?_,by rw[hp];exact h.sorted⟩,?_,hp⟩
 ·rcases zep hx with hx|rfl
  ·exact h.ne x hx
  ·exact lR
 ·rcases zep hx with hx|rfl
  ·exact h.Qk x hx
  ·exact he
 ·have hdr:A.drop m=a::A.drop (m+1):=by
   rw[zeX hm,(List.getElem?_eq_some_iff.1 ha).2]
  have h1:iV A=iV (A.take m)+(a.2.length+iV (A.drop (m+1))):=by rw[<-lU,<-hdr,<-qD,zev]
  rw[ze1,if_pos hm,qD,lU,h1];simp only;omega
theorem Tl {A A' B:List nw}(h:BI A B)(h1:l8 1 A')(h2:iV A'<=iV A)(h3: ∀a∈A',∃b∈A,b.1=a.1):BI A' B:=
 ⟨h1,h.s8,by have:=h.yL;omega,λa ha b hb=>by obtain⟨c,hc,e⟩:=h3 a ha;rw[<-e];exact h.V7 c hc b hb⟩
theorem Oq {A B B':List nw}(h:BI A B)(h1:l8 2 B')(h2:iV B'<=iV B)(h3: ∀b∈B',∃c∈B,c.1=b.1):BI A B':=
 ⟨h.yF,h1,by have:=h.yL;omega,λa ha b hb=>by obtain⟨c,hc,e⟩:=h3 b hb;rw[<-e];exact h.V7 a ha c hc⟩
theorem Co {A A':List nw}(h:A'.map (·.1)=A.map (·.1)): ∀a∈A',∃b∈A,b.1=a.1:=λa ha=>by
 have:a.1∈A.map (·.1):=h▸List.mem_map.2 ⟨a,ha,rfl⟩
 obtain⟨b,hb,e⟩:=List.mem_map.1 this;exact⟨b,hb,e⟩
theorem Tm (t i:Int)(es:List oE):(ql t i es).Sublist es:=by
 unfold ql;split
 ·exact ze2 ..
 ·exact List.Sublist.refl _
theorem Kn {s:Int}{A:List nw}(h:l8 s A){m:Nat}{a:nw}(ha:A[m]?=some a)(t i:Int):l8 s (if ql t i a.2=[] then A.eraseIdx m else A.set m (a.1,ql t i a.2))/\iV (if ql t i a.2=[] then A.eraseIdx m else A.set m (a.1,ql t i a.2))<=iV A/\∀x∈(if ql t i a.2=[] then A.eraseIdx m else A.set m (a.1,ql t i a.2)),∃b∈A,b.1=x.1:=by
 by_cases e:ql t i a.2=[]
 ·simp only[if_pos e]
  have hs:(A.eraseIdx m).Sublist A:=ze2 ..;exact⟨Tk h hs,Tj hs,λx hx=>⟨x,hs.subset hx,rfl⟩⟩
 ·simp only[if_neg e]
  have hs:=Tm t i a.2;have:=Km h ha e (λx hx=>h.Qk a (zee ha) x (hs.subset hx)) hs.length_le;exact⟨this.1,this.2.1,Co this.2.2⟩
theorem Wa {A B:List nw}(h:BI A B)(t i:Int):BI (uU t i A B).2.2.1 (uU t i A B).2.2.2/\iV (uU t i A B).2.2.1+iV (uU t i A B).2.2.2<=iV A+iV B:=by
 unfold uU;cases hf:mT t i A with
 |some x=>
  obtain⟨m,o⟩:=x;obtain⟨a,h1,h2⟩:=oc hf;simp only[h1];obtain⟨a1,a2,a3⟩:=Kn h.yF h1 t i;exact⟨Tl h a1 a2 a3,by omega⟩
 |none=>
  cases xy:mT t i B with
  |some x=>
   obtain⟨m,o⟩:=x;obtain⟨a,h1,h2⟩:=oc xy;simp only[h1];obtain⟨a1,a2,a3⟩:=Kn h.s8 h1 t i;exact⟨Oq h a1 a2 a3,by omega⟩
  |none=>exact⟨h,zei _⟩
def xY (t i q:Int)(A B:List nw):Bool×List nw×List nw:=match mT t i A with
 |some (m,_)=>(match A[m]? with|some a=>((nR t i q a.2).1,A.set m (a.1,(nR t i q a.2).2),B)|none=>(false,A,B))
 |none=>match mT t i B with
  |some (m,_)=>(match B[m]? with|some a=>((nR t i q a.2).1,A,B.set m (a.1,(nR t i q a.2).2))|none=>(false,A,B))
  |none=>(false,A,B)
theorem Tn (t i q:Int){s pr:Int}{es:List oE}(h: ∀e∈es,oF e/\EO s pr e.1):(∀e∈(nR t i q es).2,oF e/\EO s pr e.1)/\(nR t i q es).2.length=es.length:=by
 unfold nR;cases hf:es.findIdx? (λe=>Od.is t i e.1) with
 |none=>exact⟨h,rfl⟩
 |some n=>
  have hn:n<es.length:=(List.findIdx?_eq_some_iff_getElem.1 hf).1;have hd:es.getD n ((0,0,0,0,0,0,0,0,0,()),0,())=es[n]:=by rw[zdt,zdi hn];rfl
  have hm:=h _ (zeq hn);simp only[hd];split
  ·exact⟨h,rfl⟩
  ·rename_i hq
   refine⟨λe he=>?_,zdQ⟩;rcases zep he with he|rfl
   ·exact h e he
   ·obtain⟨⟨a1,a2,a3⟩,a4⟩:=hm
    exact⟨⟨by show 1<=min _ _;omega,by show min _ _<=q;omega,by show q<=_;omega⟩,Cm _ _ _ _ a4⟩
theorem GZ (t i q:Int){s:Int}{A:List nw}(h:l8 s A){m:Nat}{a:nw}(ha:A[m]?=some a):l8 s (A.set m (a.1,(nR t i q a.2).2))/\iV (A.set m (a.1,(nR t i q a.2).2))<=iV A/\∀x∈A.set m (a.1,(nR t i q a.2).2),∃b∈A,b.1=x.1:=by
 have hm:=zee ha;have hl:=Tn t i q (h.Qk a hm);have lR:(nR t i q a.2).2≠ []:=λe=>h.ne a hm (zdM (by rw[<-hl.2,e];rfl))
 have:=Km h ha lR hl.1 (by omega)
 exact⟨this.1,this.2.1,Co this.2.2⟩
theorem To {A B:List nw}(h:BI A B)(t i q:Int):BI (xY t i q A B).2.1 (xY t i q A B).2.2/\iV (xY t i q A B).2.1+iV (xY t i q A B).2.2<=iV A+iV B:=by
 unfold xY;cases hf:mT t i A with
 |some x=>
  obtain⟨m,o⟩:=x;obtain⟨a,h1,h2⟩:=oc hf;simp only[h1];obtain⟨a1,a2,a3⟩:=GZ t i q h.yF h1;exact⟨Tl h a1 a2 a3,by omega⟩
 |none=>
  cases xy:mT t i B with
  |some x=>
   obtain⟨m,o⟩:=x;obtain⟨a,h1,h2⟩:=oc xy;simp only[h1];obtain⟨a1,a2,a3⟩:=GZ t i q h.s8 h1;exact⟨Oq h a1 a2 a3,by omega⟩
  |none=>exact⟨h,zei _⟩
def uV (t i:Int)(A B:List nw):Option ek:=match mT t i A with|some x=>some x.2|none=>match mT t i B with|some x=>some x.2|none=>none
section
variable {bs ss:List Nat}{st:List gF}{A B:List nw}{last no:Int}
theorem Ot (h:Bk bs ss st A B)(hi:BI A B)(t i:Int):fk WX (((),t,i,()),(kp last no,bs,ss,st,()))=some (((uV t i A B).getD o0,(uV t i A B).isSome,()),(kp last no,bs,ss,st,())):=by
 have hr:=Ke (hdr:=kp last no) (t:=t) (i:=i) (h.yF hi).1 (h.s8 hi).1;rw[pD,pD,h.ea,h.eb] at hr;unfold uV;rw[hr];cases mT t i A with
 |some x=>rfl
 |none=>cases mT t i B<;>rfl
theorem ZO (h:Bk bs ss st A B)(hi:BI A B):iu WX (((),()),(kp last no,bs,ss,st,()))=some ((iV A+iV B,()),(kp last no,bs,ss,st,())):=by
 have:=Oj (hdr:=kp last no) (h.yF hi).1 (h.s8 hi).1;rw[AD,AD,h.ea,h.eb] at this;exact this
theorem G0 (h:Bk bs ss st A B)(hi:BI A B)(s:Int)(hs:s=1\/s=2):fA WX (((),s,()),(kp last no,bs,ss,st,()))=some (.inr ((tX (if s=1 then A else B),()),(kp last no,bs,ss,st,()))):=by
 have:=MJ (hdr:=kp last no) (h.yF hi).1 (h.s8 hi).1 s hs;rw[Qj] at this;rw[this];split
 ·rw[h.ea]
 ·rw[h.eb]
theorem Wb (h:Bk bs ss st A B)(hi:BI A B)(t i q:Int): ∃eY,gM WX (((),t,i,q,()),(kp last no,bs,ss,st,()))=some (((xY t i q A B).1,()),(kp last no,bs,ss,eY,()))/\Bk bs ss eY (xY t i q A B).2.1 (xY t i q A B).2.2:=by
 have hr:=S2 (hdr:=kp last no) (t:=t) (i:=i) (h.yF hi).1 (h.s8 hi).1 q;have hnd:=List.nodup_append.1 h.nd;obtain⟨lb,ls,nd,rfl,rfl⟩:=h;unfold IA at hr;unfold xY;rw[pD,pD] at hr;cases hf:mT t i (jz st bs) with
 |some x=>
  obtain⟨m,o⟩:=x;obtain⟨a,h1,h2⟩:=oc hf;have hm:m<bs.length:=by have:=(List.getElem?_eq_some_iff.1 h1).1;unfold jz at this;rw[zen] at this;exact this
  have hx:=zdi hm;have hg:bs.getD m 0=bs[m]:=by rw[zdt,hx];rfl
  have ha:a=(fK st bs[m],dG st bs[m]):=by
   unfold jz at h1;rw[zej,hx] at h1;cases h1;rfl
  subst ha;rw[hf] at hr;simp only[hg] at hr;have hp:=xX lb hnd.1 hm (nR t i q (dG st bs[m])).2;have Ok:=nK (sA (lb _ (zeq hm)).choose_spec.choose_spec (nR t i q (dG st bs[m])).2 bs (zeq hm)) ls (λp hp xW=>hnd.2.2 p xW p hp rfl);simp only[h1];exact⟨_,hr,hp.2,Ok.2,nd,hp.1,Ok.1⟩
 |none=>
  rw[hf] at hr;cases xy:mT t i (jz st ss) with
  |some x=>
   obtain⟨m,o⟩:=x;obtain⟨a,h1,h2⟩:=oc xy;have hm:m<ss.length:=by have:=(List.getElem?_eq_some_iff.1 h1).1;unfold jz at this;rw[zen] at this;exact this
   have hx:=zdi hm;have hg:ss.getD m 0=ss[m]:=by rw[zdt,hx];rfl
   have ha:a=(fK st ss[m],dG st ss[m]):=by
    unfold jz at h1;rw[zej,hx] at h1;cases h1;rfl
   subst ha;rw[xy] at hr;simp only[hg] at hr;have hp:=xX ls hnd.2.1 hm (nR t i q (dG st ss[m])).2;have Ok:=nK (sA (ls _ (zeq hm)).choose_spec.choose_spec (nR t i q (dG st ss[m])).2 ss (zeq hm)) lb (λp hp xW=>hnd.2.2 p hp p xW rfl);simp only[h1];exact⟨_,hr,Ok.2,hp.2,nd,Ok.1,hp.1⟩
  |none=>
   rw[xy] at hr;exact⟨_,hr,lb,ls,nd,rfl,rfl⟩
end
theorem Cp {L:List (List ek)}{i:Nat}{x:List ek}(h:L[i]?=some x):(L.take (i+1)).flatten=(L.take i).flatten++x:=by
 have hi:i<L.length:=(List.getElem?_eq_some_iff.1 h).1;rw[zeK,h];simp
theorem G1 {L:List (List ek)}(i:Nat):(L.take i).flatten.length<=L.flatten.length:=by
 conv=>rhs;rw[<-zev i L,List.flatten_append,zdm]
 omega
theorem Cq (L:List (List ek))(h:L.flatten.length<=1000000000)(hn:L.length<=1000000):ag (aP WX) ((L,0,L,(L.length:Int),0,()),())=some ((L,(L.flatten.length:Int),()),()):=by
 have key: ∀m i:Nat,i+m=L.length->ag (aP WX) ((L,((L.take i).flatten.length:Int),L,(L.length:Int),(i:Int),()),())=some ((L,(L.flatten.length:Int),()),()):=by
  intro m;induction m with
  |zero=>
   intro i hi;rw[aq];have:i=L.length:=by omega
   subst this;simp only[aP,↓xo,bc (show¬(L.length:Int)<(L.length:Int) by omega),zdd,zeu]
  |succ m ih=>
   intro i hi;have nA:i<L.length:=by omega
   have hx:=zdi nA;generalize L[i]=x at hx;have hf:=Cp hx;have hle:=G1 (L:=L) (i+1);rw[hf,zdm] at hle;rw[aq];have e1:IntKind.wrap .i64 (((L.take i).flatten.length:Int)+(x.length:Int))=((L.take (i+1)).flatten.length:Int):=by
    rw[nQ (by omega) (by omega),hf,zdm];omega
   simp only[aP,↓xo,xw,ot (show(i:Int)<(L.length:Int) by omega),ot (show(0:Int)<=(i:Int) by omega),zde,zdf,hx,zdc,e1,bc (show¬((L.take (i+1)).flatten.length:Int)<0 by omega),zdd,lx nA hn]
   exact ih (i+1) (by omega)
 exact key L.length 0 (by omega)
theorem IF (L:List (List ek))(hn:L.length<=1000000):ag (aM WX) ((0,L,(L.length:Int),0,()),(List.replicate L.flatten.length ((0:Int),(0:Int),(0:Int),(0:Int),(0:Int),(0:Int),(0:Int),(0:Int),(0:Int),()),()))=some ((L.flatten.length,()),(L.flatten,())):=by
 have key: ∀m i:Nat,i+m=L.length->ag (aM WX) (((L.take i).flatten.length,L,(L.length:Int),(i:Int),()),((L.take i).flatten++List.replicate (L.flatten.length-(L.take i).flatten.length) ((0:Int),(0:Int),(0:Int),(0:Int),(0:Int),(0:Int),(0:Int),(0:Int),(0:Int),()),()))=some ((L.flatten.length,()),(L.flatten,())):=by
  intro m;induction m with
  |zero=>
   intro i hi;rw[aq];have:i=L.length:=by omega
   subst this;simp only[aM,↓xo,bc (show¬(L.length:Int)<(L.length:Int) by omega),zdd,zeu,Nat.sub_self,zer,zeE]
  |succ m ih=>
   intro i hi;have nA:i<L.length:=by omega
   have hx:=zdi nA;generalize L[i]=x at hx;have hf:=Cp hx;have hle:=G1 (L:=L) (i+1);rw[hf,zdm] at hle;rw[aq];have e2:((L.take i).flatten++List.replicate (L.flatten.length-(L.take i).flatten.length) ((0:Int),(0:Int),(0:Int),(0:Int),(0:Int),(0:Int),(0:Int),(0:Int),(0:Int),())).take (0+(L.take i).flatten.length)++x++((L.take i).flatten++List.replicate (L.flatten.length-(L.take i).flatten.length) ((0:Int),(0:Int),(0:Int),(0:Int),(0:Int),(0:Int),(0:Int),(0:Int),(0:Int),())).drop (0+(L.take i).flatten.length+x.length)=(L.take (i+1)).flatten++List.replicate (L.flatten.length-(L.take (i+1)).flatten.length) ((0:Int),(0:Int),(0:Int),(0:Int),(0:Int),(0:Int),(0:Int),(0:Int),(0:Int),()):=by
    rw[zd2,List.take_left,List.drop_append,zeI (by omega),zed,List.drop_replicate,hf,zdm]
    congr 2
    omega
   simp only[aM,↓xo,xw,ot (show(i:Int)<(L.length:Int) by omega),ot (show(0:Int)<=(i:Int) by omega),zde,zdf,hx,zdc,
    ot (show 0+(L.take i).flatten.length+x.length<=((L.take i).flatten++List.replicate (L.flatten.length-(L.take i).flatten.length) ((0:Int),(0:Int),(0:Int),(0:Int),(0:Int),(0:Int),(0:Int),(0:Int),(0:Int),())).length by rw[zdm,zd6];omega),e2,lx nA hn]
   have:=ih (i+1) (by omega)
   rw[hf,zdm] at this⊢;exact this
 have:=key L.length 0 (by omega)
 simpa using this
theorem F5 (L:List (List ek))(hf:L.flatten=[])(hn:L.length<=1000000):ag (aL WX) (((),L,(L.length:Int),0,()),(([]:List ek),()))=some (((),()),([],())):=by
 have key: ∀m i:Nat,i+m=L.length->ag (aL WX) (((),L,(L.length:Int),(i:Int),()),(([]:List ek),()))=some (((),()),([],())):=by
  intro m;induction m with
  |zero=>
   intro i hi;rw[aq];have:i=L.length:=by omega
   subst this;simp only[aL,↓xo,bc (show¬(L.length:Int)<(L.length:Int) by omega),zdd]
  |succ m ih=>
   intro i hi;have nA:i<L.length:=by omega
   have hx:=zdi nA;have hm:=zeq nA;have h0:L[i]=[]:=List.flatten_eq_nil_iff.1 hf _ hm;rw[h0] at hx;rw[aq];simp only[aL,↓xo,xw,ot (show(i:Int)<(L.length:Int) by omega),ot (show(0:Int)<=(i:Int) by omega),zde,zdf,hx,zdc,zeE,zdo,lx nA hn,
    ot (show(((0+0:Nat):Int))*((72:Nat):Int)<=((room:Nat):Int) by unfold room;omega)]
   exact ih (i+1) (by omega)
 exact key L.length 0 (by omega)
theorem IG (L:List (List ek))(hf:L.flatten=[])(hn:L.length<=1000000):aJ WX ((L,()),())=some (.inr (((),()),([],()))):=by
 have h3:=Cq L (by rw[hf];simp) hn
 have hb:=F5 L hf hn;rw[hf] at h3;change _=some ((L,0,()),()) at h3;have hg:ca WX (((),0,()),())=some (.inr (((),()),[],())):=by kernel_rfl
 simp only[aJ,xl,h3,zdc,hg,hb]
theorem Ko (L:List (List ek))(hf:L.flatten≠ [])(h:L.flatten.length<=1000000000)(hn:L.length<=1000000):aJ WX ((L,()),())=some (.inl ((L.flatten.length,()),(L.flatten,()))):=by
 have h3:=Cq L h hn;have hb:=IF L hn;have hp:0<L.flatten.length:=List.length_pos_iff.2 hf;generalize hN:L.flatten.length=n at*;have e0:IntKind.wrap .i64 ((n:Int)-IntKind.wrap .i64 (0-0))=(n:Int):=by
  rw[nQ (n:=0-0) (by omega) (by omega),nQ (by omega) (by omega)];omega
 simp only[aJ,xl,h3,zdc,ca,↓xo,xw,e0,bc (show¬(n:Int)<0 by omega),zdd,ot (show(n:Int)>0 by omega),zde,zdo,zeL,zed,zd6,zdf,and_self,iD]
 have e1:af ((0:Int)=0/\(0:Int)=0)=true:=ot (by decide)
 have e2:af ((0:Int)<=(n:Int)/\(0+(n:Int))*((72:Nat):Int)<=((room:Nat):Int))=true:=ot (by unfold room;omega)
 have e3:af ((0:Int)<=0/\(0:Int)<=0/\(0:Int)<=(n:Int))=true:=ot (by omega)
 have e4:((0:Int)-(0:Int)).toNat=0:=rfl;simp only[e1,e2,e3,zde,zdc,e4,hb]
theorem CT (L:List (List ek))(h:L.flatten.length<=1000000000)(hn:L.length<=1000000):aJ WX ((L,()),())=some (.inr (((),()),([],())))/\L.flatten=[]\/aJ WX ((L,()),())=some (.inl ((L.flatten.length,()),(L.flatten,()))):=by
 by_cases hf:L.flatten=[]
 ·exact .inl ⟨IG L hf hn,hf⟩
 ·exact .inr (Ko L hf h hn)
theorem Cr {L:List (List ma)}{i:Nat}{x:List ma}(h:L[i]?=some x):(L.take (i+1)).flatten=(L.take i).flatten++x:=by
 have hi:i<L.length:=(List.getElem?_eq_some_iff.1 h).1;rw[zeK,h];simp
theorem G2 {L:List (List ma)}(i:Nat):(L.take i).flatten.length<=L.flatten.length:=by
 conv=>rhs;rw[<-zev i L,List.flatten_append,zdm]
 omega
theorem Cs (L:List (List ma))(h:L.flatten.length<=1000000000)(hn:L.length<=1000000):ag (aW WX) ((L,0,L,(L.length:Int),0,()),())=some ((L,(L.flatten.length:Int),()),()):=by
 have key: ∀m i:Nat,i+m=L.length->ag (aW WX) ((L,((L.take i).flatten.length:Int),L,(L.length:Int),(i:Int),()),())=some ((L,(L.flatten.length:Int),()),()):=by
  intro m;induction m with
  |zero=>
   intro i hi;rw[aq];have:i=L.length:=by omega
   subst this;simp only[aW,↓xo,bc (show¬(L.length:Int)<(L.length:Int) by omega),zdd,zeu]
  |succ m ih=>
   intro i hi;have nA:i<L.length:=by omega
   have hx:=zdi nA;generalize L[i]=x at hx;have hf:=Cr hx;have hle:=G2 (L:=L) (i+1);rw[hf,zdm] at hle;rw[aq];have e1:IntKind.wrap .i64 (((L.take i).flatten.length:Int)+(x.length:Int))=((L.take (i+1)).flatten.length:Int):=by
    rw[nQ (by omega) (by omega),hf,zdm];omega
   simp only[aW,↓xo,xw,ot (show(i:Int)<(L.length:Int) by omega),ot (show(0:Int)<=(i:Int) by omega),zde,zdf,hx,zdc,e1,bc (show¬((L.take (i+1)).flatten.length:Int)<0 by omega),zdd,lx nA hn]
   exact ih (i+1) (by omega)
 exact key L.length 0 (by omega)
theorem II (L:List (List ma))(hn:L.length<=1000000):ag (aS WX) ((0,L,(L.length:Int),0,()),(List.replicate L.flatten.length ((0:Int),(0:Int),(0:Int),(0:Int),(0:Int),(0:Int),(0:Int),(0:Int),(0:Int),(0:Int),(List.replicate 32 (0:Int)),()),()))=some ((L.flatten.length,()),(L.flatten,())):=by
 have key: ∀m i:Nat,i+m=L.length->ag (aS WX) (((L.take i).flatten.length,L,(L.length:Int),(i:Int),()),((L.take i).flatten++List.replicate (L.flatten.length-(L.take i).flatten.length) ((0:Int),(0:Int),(0:Int),(0:Int),(0:Int),(0:Int),(0:Int),(0:Int),(0:Int),(0:Int),(List.replicate 32 (0:Int)),()),()))=some ((L.flatten.length,()),(L.flatten,())):=by
  intro m;induction m with
  |zero=>
   intro i hi;rw[aq];have:i=L.length:=by omega
   subst this;simp only[aS,↓xo,bc (show¬(L.length:Int)<(L.length:Int) by omega),zdd,zeu,Nat.sub_self,zer,zeE]
  |succ m ih=>
   intro i hi;have nA:i<L.length:=by omega
   have hx:=zdi nA;generalize L[i]=x at hx;have hf:=Cr hx;have hle:=G2 (L:=L) (i+1);rw[hf,zdm] at hle;rw[aq];have e2:((L.take i).flatten++List.replicate (L.flatten.length-(L.take i).flatten.length) ((0:Int),(0:Int),(0:Int),(0:Int),(0:Int),(0:Int),(0:Int),(0:Int),(0:Int),(0:Int),(List.replicate 32 (0:Int)),())).take (0+(L.take i).flatten.length)++x++((L.take i).flatten++List.replicate (L.flatten.length-(L.take i).flatten.length) ((0:Int),(0:Int),(0:Int),(0:Int),(0:Int),(0:Int),(0:Int),(0:Int),(0:Int),(0:Int),(List.replicate 32 (0:Int)),())).drop (0+(L.take i).flatten.length+x.length)=(L.take (i+1)).flatten++List.replicate (L.flatten.length-(L.take (i+1)).flatten.length) ((0:Int),(0:Int),(0:Int),(0:Int),(0:Int),(0:Int),(0:Int),(0:Int),(0:Int),(0:Int),(List.replicate 32 (0:Int)),()):=by
    rw[zd2,List.take_left,List.drop_append,zeI (by omega),zed,List.drop_replicate,hf,zdm]
    congr 2
    omega
   simp only[aS,↓xo,xw,ot (show(i:Int)<(L.length:Int) by omega),ot (show(0:Int)<=(i:Int) by omega),zde,zdf,hx,zdc,
    ot (show 0+(L.take i).flatten.length+x.length<=((L.take i).flatten++List.replicate (L.flatten.length-(L.take i).flatten.length) ((0:Int),(0:Int),(0:Int),(0:Int),(0:Int),(0:Int),(0:Int),(0:Int),(0:Int),(0:Int),(List.replicate 32 (0:Int)),())).length by rw[zdm,zd6];omega),e2,lx nA hn]
   have:=ih (i+1) (by omega)
   rw[hf,zdm] at this⊢;exact this
 have:=key L.length 0 (by omega)
 simpa using this
theorem F6 (L:List (List ma))(hf:L.flatten=[])(hn:L.length<=1000000):ag (aQ WX) (((),L,(L.length:Int),0,()),(([]:List ma),()))=some (((),()),([],())):=by
 have key: ∀m i:Nat,i+m=L.length->ag (aQ WX) (((),L,(L.length:Int),(i:Int),()),(([]:List ma),()))=some (((),()),([],())):=by
  intro m;induction m with
  |zero=>
   intro i hi;rw[aq];have:i=L.length:=by omega
   subst this;simp only[aQ,↓xo,bc (show¬(L.length:Int)<(L.length:Int) by omega),zdd]
  |succ m ih=>
   intro i hi;have nA:i<L.length:=by omega
   have hx:=zdi nA;have hm:=zeq nA;have h0:L[i]=[]:=List.flatten_eq_nil_iff.1 hf _ hm;rw[h0] at hx;rw[aq];simp only[aQ,↓xo,xw,ot (show(i:Int)<(L.length:Int) by omega),ot (show(0:Int)<=(i:Int) by omega),zde,zdf,hx,zdc,zeE,zdo,lx nA hn,
    ot (show(((0+0:Nat):Int))*((112:Nat):Int)<=((room:Nat):Int) by unfold room;omega)]
   exact ih (i+1) (by omega)
 exact key L.length 0 (by omega)
theorem IJ (L:List (List ma))(hf:L.flatten=[])(hn:L.length<=1000000):bh WX ((L,()),())=some (.inr (((),()),([],()))):=by
 have h3:=Cs L (by rw[hf];simp) hn
 have hb:=F6 L hf hn;rw[hf] at h3;change _=some ((L,0,()),()) at h3;have hg:cu WX (((),0,()),())=some (.inr (((),()),[],())):=by kernel_rfl
 simp only[bh,xl,h3,zdc,hg,hb]
theorem Kp (L:List (List ma))(hf:L.flatten≠ [])(h:L.flatten.length<=1000000000)(hn:L.length<=1000000):bh WX ((L,()),())=some (.inl ((L.flatten.length,()),(L.flatten,()))):=by
 have h3:=Cs L h hn;have hb:=II L hn;have hp:0<L.flatten.length:=List.length_pos_iff.2 hf;generalize hN:L.flatten.length=n at*;have e0:IntKind.wrap .i64 ((n:Int)-IntKind.wrap .i64 (0-0))=(n:Int):=by
  rw[nQ (n:=0-0) (by omega) (by omega),nQ (by omega) (by omega)];omega
 simp only[bh,xl,h3,zdc,cu,↓xo,xw,e0,bc (show¬(n:Int)<0 by omega),zdd,ot (show(n:Int)>0 by omega),zde,zdo,zeL,zed,zd6,zdf,and_self,iD]
 have e1:af ((0:Int)=0/\(0:Int)=0)=true:=ot (by decide)
 have e2:af ((0:Int)<=(n:Int)/\(0+(n:Int))*((112:Nat):Int)<=((room:Nat):Int))=true:=ot (by unfold room;omega)
 have e3:af ((0:Int)<=0/\(0:Int)<=0/\(0:Int)<=(n:Int))=true:=ot (by omega)
 have e4:((0:Int)-(0:Int)).toNat=0:=rfl;simp only[e1,e2,e3,zde,zdc,e4,hb]
theorem CU (L:List (List ma))(h:L.flatten.length<=1000000000)(hn:L.length<=1000000):bh WX ((L,()),())=some (.inr (((),()),([],())))/\L.flatten=[]\/bh WX ((L,()),())=some (.inl ((L.flatten.length,()),(L.flatten,()))):=by
 by_cases hf:L.flatten=[]
 ·exact .inl ⟨IJ L hf hn,hf⟩
 ·exact .inr (Kp L hf h hn)
theorem IK {L R:Type}{b:L->Option (L⊕R)}(mk:Nat->L)(fin:R)(n:Nat)(hs: ∀i,i<n->b (mk i)=some (.inl (mk (i+1))))(he:b (mk n)=some (.inr fin)): ∀i,i<=n->ag b (mk i)=some fin:=by
 have key: ∀m i,i+m=n->ag b (mk i)=some fin:=by
  intro m;induction m with
  |zero=>intro i hi;rw[aq,show i=n by omega,he]
  |succ m ih=>intro i hi;rw[aq,hs i (by omega)];exact ih (i+1) (by omega)
 exact λi hi=>key (n-i) i (by omega)
theorem G3 {L R α:Type}{b:L->Option (L⊕R)}(l:List α)(p:α->Bool)(mk:Nat->L)(res:Nat->R)(fin:R)(hs: ∀i (h:i<l.length),b (mk i)=some (if p l[i]=true then .inr (res i) else .inl (mk (i+1))))(he:b (mk l.length)=some (.inr fin)):
  ag b (mk 0)=some (match l.findIdx? p with|some n=>res n|none=>fin):=by
 have key: ∀m i,i+m=l.length->(∀j (h:j<l.length),j<i->p l[j]=false)->ag b (mk i)=some (match l.findIdx? p with|some n=>res n|none=>fin):=by
  intro m;induction m with
  |zero=>
   intro i hi vS;have:l.findIdx? p=none:=by
    rw[zeS];intro x hx;obtain⟨j,hj,rfl⟩:=zdU hx;exact vS j hj (by omega)
   rw[aq,show i=l.length by omega,he,this]
  |succ m ih=>
   intro i hi vS;rw[aq,hs i (by omega)]
   cases hp:p (l[i]'(by omega)) with
   |true=>
    have:l.findIdx? p=some i:=by
     rw[zeT];exact⟨by omega,hp,λj hj=>by rw[vS j (by omega) hj];simp⟩
    rw[this];rfl
   |false=>
    rw[if_neg (by simp)]
    exact ih (i+1) (by omega) (λj h hj=>by
     by_cases e:j=i
     ·subst e;exact hp
     ·exact vS j h (by omega))
 exact key l.length 0 (by omega) (λj _ h=>by omega)
theorem rq {L R:Type}{b:L->Option (L⊕R)}(I:Nat->L->Prop)(Q:R->Prop)(hs: ∀k l,I k l->(∃l',b l=some (.inl l')/\∃k',k'<k/\I k' l')\/∃r,b l=some (.inr r)/\Q r): ∀k l,I k l->∃r,ag b l=some r/\Q r:=by
 intro k;induction k using Nat.strongRecOn with
 |_ k ih=>
  intro l hl;rcases hs k l hl with⟨l',h1,k',h2,h3⟩|⟨r,h1,h2⟩
  ·obtain⟨r,h4,h5⟩:=ih k' h2 l' h3
   exact⟨r,by rw[aq,h1];exact h4,h5⟩
  ·exact⟨r,by rw[aq,h1],h2⟩
def Kq {α:Type}(p:α->Bool)(l:List α):Int:=match l.findIdx? p with|some n=>(n:Int)|none=> -1
theorem G4 (t i:Int)(ws:List ek)(hl:ws.length<=1000000):bu WX ((ws,((),(),()),()),(t,i,()))=some ((Kq (Od.is t i) ws,()),(t,i,())):=by
 have h:=G3 (b:=aB WX) ws (Od.is t i) (λk=>((ws,((),(),()),(ws.length:Int),(k:Int),()),(t,i,()))) (λn=> .inl (((n:Int),()),(t,i,()))) (.inr ((),(t,i,()))) (λk hk=>by
  have hx:=zdi hk;generalize ws[k]=x at hx;have e1:=lx hk hl;have hp:eD WX ((x,(),(),()),(t,i,()))=some ((Od.is t i x,()),(t,i,())):=by
   unfold Od.is;by_cases h1:x.1=t
   ·by_cases h2:x.2.1=i
    ·simp only[eD,↓xo,ot h1,zde,ot h2];rw[decide_eq_true ⟨h1,h2⟩]
    ·simp only[eD,↓xo,ot h1,zde,bc h2];rw[decide_eq_false (λq=>h2 q.2)]
   ·simp only[eD,↓xo,bc h1,zdd];rw[decide_eq_false (λq=>h1 q.1)]
  cases hb:Od.is t i x with
  |true=>simp only[aB,↓xo,ot (show(k:Int)<(ws.length:Int) by omega),ot (show(0:Int)<=(k:Int) by omega),zde,zdf,hx,zdc,hp,hb,if_true]
  |false=>simp only[aB,↓xo,xw,ot (show(k:Int)<(ws.length:Int) by omega),ot (show(0:Int)<=(k:Int) by omega),zde,zdf,hx,zdc,hp,hb,zdd,e1,zdk,if_false])
  (by simp only[aB,↓xo,bc (show¬(ws.length:Int)<(ws.length:Int) by omega),zdd])
 change ag (aB WX) ((ws,((),(),()),(ws.length:Int),0,()),(t,i,()))=_ at h;unfold Kq;simp only[bu,↓xl,h,zdc];cases ws.findIdx? (Od.is t i)<;>rfl
abbrev IL (last:Int)(o:ek):Bool:=Bu o last
theorem Kr (last no:Int)(bs ss:List Nat)(st:List gF)(ws:List ek)(hl:ws.length<=1000000):bn WX ((ws,(((),(),()),()),()),(kp last no,bs,ss,st,()))=some ((Kq (IL last) ws,()),(kp last no,bs,ss,st,())):=by
 have h:=G3 (b:=ax WX) ws (IL last) (λk=>((ws,(((),(),()),()),(ws.length:Int),(k:Int),()),(kp last no,bs,ss,st,()))) (λn=> .inl (((n:Int),()),(kp last no,bs,ss,st,()))) (.inr ((),(kp last no,bs,ss,st,()))) (λk hk=>by
  have hx:=zdi hk;generalize ws[k]=x at hx;have e1:=lx hk hl;have hh:=MF x last;have hp:dU WX ((x,((),(),()),()),(kp last no,bs,ss,st,()))=some ((IL last x,()),(kp last no,bs,ss,st,())):=by
   simp only[dU,gL,zdc,hh]
  cases hb:IL last x with
  |true=>simp only[ax,↓xo,ot (show(k:Int)<(ws.length:Int) by omega),ot (show(0:Int)<=(k:Int) by omega),zde,zdf,hx,zdc,hp,hb,if_true]
  |false=>simp only[ax,↓xo,xw,ot (show(k:Int)<(ws.length:Int) by omega),ot (show(0:Int)<=(k:Int) by omega),zde,zdf,hx,zdc,hp,hb,zdd,e1,zdk,if_false])
  (by simp only[ax,↓xo,bc (show¬(ws.length:Int)<(ws.length:Int) by omega),zdd])
 change ag (ax WX) ((ws,(((),(),()),()),(ws.length:Int),0,()),(kp last no,bs,ss,st,()))=_ at h;unfold Kq;simp only[bn,↓xl,h,zdc];cases ws.findIdx? (IL last)<;>rfl
theorem Ou {es:List ek}{i:Nat}(h:i<es.length)(hl:es.length<=1000000):bq WX (((),(i:Int),((i+1:Nat):Int),()),(es,()))=some (((),()),(es.eraseIdx i,())):=by
 have e0:((i:Int)-(0:Int)).toNat=i:=by omega
 have e1:(es.drop (i+1)).length=es.length-(i+1):=by rw[zdI]
 have e2:es.take (0+i)++es.drop (i+1)++es.drop (0+i+(es.length-(i+1)))=es.eraseIdx i++es.drop (es.length-1):=by
  rw[zd2,zeQ,show i+(es.length-(i+1))=es.length-1 by omega]
 have e3:(es.eraseIdx i).length=es.length-1:=zeR h;have e4:i+(es.length-(i+1))=es.length-1:=by omega
 have e5:(es.drop (es.length-1)).length=1:=by rw[zdI];omega
 simp only[bq,↓xo,ot (show 0<=(i:Int)/\(i:Int)<=((i+1:Nat):Int)/\((i+1:Nat):Int)<=(es.length:Int)/\(es.length:Int)<=(es.length:Int) by omega),zde,bc (show¬(i:Int)=((i+1:Nat):Int) by omega),zdd,ot (show 0<=(0:Int)/\(0:Int)<=(i:Int)/\(i:Int)<=(es.length:Int) by omega),
  ot (show 0<=((i+1:Nat):Int)/\((i+1:Nat):Int)<=(es.length:Int) by omega),e0,zdf,e1,ot (show 0+i+(es.length-(i+1))<=es.length by omega),e2,e4]
 have e6: ∀X:List ek,(es.eraseIdx i++X).take (es.length-1)=es.eraseIdx i:=λX=>by rw[List.take_append_of_le_length (by omega),zdN (by omega)]
 simp only[e6,zeN,List.append_assoc,ot (show 0<=((es.length-1:Nat):Int)/\((es.length-1:Nat):Int)<=(es.length:Int)/\(es.length:Int)<=(((es.eraseIdx i++es.drop (es.length-1)).length-0:Nat):Int) by rw[zdm,e3,e5];omega),zde]
structure wZ (A B:List nw)(ws:List ek):Prop where
 bi:BI A B
 wo: ∀o∈ws,GW o/\0<Od.stop o
 yL:iV A+iV B+ws.length<=64
theorem wZ.len {A B:List nw}{ws:List ek}(h:wZ A B ws):ws.length<=64:=by have:=h.yL;have:=tk A;have:=tk B;omega
def sT (t i:Int)(A B:List nw)(ws:List ek):Option ek:=match uV t i A B with|some o=>some o|none=>match ws.findIdx? (Od.is t i) with|some n=>some (ws.getD n o0)|none=>none
def mL (t i:Int)(A B:List nw)(ws:List ek):ek×Bool×List nw×List nw×List ek:=
 if(uU t i A B).2.1=true then((uU t i A B).1,true,(uU t i A B).2.2.1,(uU t i A B).2.2.2,ws)
 else match ws.findIdx? (Od.is t i) with
  |some n=>(ws.getD n o0,true,(uU t i A B).2.2.1,(uU t i A B).2.2.2,ws.eraseIdx n)
  |none=>(o0,false,(uU t i A B).2.2.1,(uU t i A B).2.2.2,ws)
abbrev Cu (last no:Int)(bs ss:List Nat)(ws:List ek)(st:List gF):(Unit×Unit×Unit)×MG×List Nat×List Nat×List ek×List gF×Unit:=(((),(),()),kp last no,bs,ss,ws,st,())
abbrev F7 (last no:Int)(bs ss:List Nat)(ws:List ek)(st:List gF):(Unit×Unit×Unit)×MG×List ek×List Nat×List Nat×List gF×Unit:=(((),(),()),kp last no,ws,bs,ss,st,())
section
variable {bs ss:List Nat}{st:List gF}{A B:List nw}{ws:List ek}{last no:Int}
theorem IM (h:Bk bs ss st A B)(hi:wZ A B ws)(t i:Int):dW WX (((),t,i,()),Cu last no bs ss ws st)=some (((sT t i A B ws).getD o0,(sT t i A B ws).isSome,()),F7 last no bs ss ws st):=by
 have hf:=Ot (last:=last) (no:=no) h hi.bi t i;have hp:=G4 t i ws (by have:=hi.len;omega)
 unfold Kq at hp;unfold sT;cases hr:uV t i A B with
 |some o=>
  rw[hr] at hf;simp only[zex,zeY] at hf;simp only[dW,hf,zdc,zde,zex,zeY]
 |none=>
  rw[hr] at hf;simp only[Option.getD_none,zet] at hf;cases hw:ws.findIdx? (Od.is t i) with
  |none=>
   rw[hw] at hp;have e: ¬(-1:Int)>=0:=by omega
   simp only[dW,hf,zdc,zdd,et,hp,↓xo,bc e,Option.getD_none,zet]
  |some n=>
   rw[hw] at hp;have hn:=(List.findIdx?_eq_some_iff_getElem.1 hw).1;have hx:=zdi hn;have hg:ws.getD n o0=ws[n]:=by rw[zdt,hx];rfl
   simp only[dW,hf,zdc,zdd,et,hp,↓xo,ot (show(n:Int)>=0 by omega),zde,ot (show 0<=(n:Int)/\(n:Int)<(ws.length:Int) by omega),zdf,hx,zex,zeY,hg]
theorem MM (h:Bk bs ss st A B)(hi:wZ A B ws)(t i:Int): ∃oT oU eY,cE WX (((),t,i,()),Cu last no bs ss ws st)=some (((mL t i A B ws).1,(mL t i A B ws).2.1,()),F7 last no oT oU (mL t i A B ws).2.2.2.2 eY)/\Bk oT oU eY (mL t i A B ws).2.2.1 (mL t i A B ws).2.2.2.1:=by
 obtain⟨oT,oU,eY,hr,hb⟩:=ZN (last:=last) (no:=no) h hi.bi t i;have hp:=G4 t i ws (by have:=hi.len;omega)
 unfold Kq at hp;unfold mL;refine⟨oT,oU,eY,?_⟩;cases he:(uU t i A B).2.1 with
 |true=>
  rw[he] at hr;rw[if_pos rfl];exact⟨by simp only[cE,hr,zdc,zde],hb⟩
 |false=>
  rw[he] at hr;rw[if_neg (by simp)]
  cases hw:ws.findIdx? (Od.is t i) with
  |none=>
   rw[hw] at hp;have e:(-1:Int)<0:=by omega
   exact⟨by simp only[cE,hr,zdc,zdd,et,hp,↓xo,ot e,zde],hb⟩
  |some n=>
   rw[hw] at hp;have hn:=(List.findIdx?_eq_some_iff_getElem.1 hw).1;have hx:=zdi hn;have hg:ws.getD n o0=ws[n]:=by rw[zdt,hx];rfl
   have hd:=Ou hn (by have:=hi.len;omega)
   have e1:=lx hn (by have:=hi.len;omega)
   exact⟨by simp only[cE,hr,zdc,zdd,et,hp,↓xo,xw,bc (show¬(n:Int)<0 by omega),ot (show 0<=(n:Int)/\(n:Int)<(ws.length:Int) by omega),zde,zdf,hx,e1,hd,hg],hb⟩
theorem ES (hi:wZ A B ws)(t i:Int):wZ (mL t i A B ws).2.2.1 (mL t i A B ws).2.2.2.1 (mL t i A B ws).2.2.2.2/\(mL t i A B ws).2.2.2.2.Sublist ws:=by
 have h:=Wa hi.bi t i;have hc:=hi.yL;unfold mL;split
 ·exact⟨⟨h.1,hi.wo,by simp only;omega⟩,List.Sublist.refl _⟩
 ·split
  ·rename_i n hn
   have hs:(ws.eraseIdx n).Sublist ws:=ze2 ..;have:=hs.length_le;exact⟨⟨h.1,λo ho=>hi.wo o (hs.subset ho),by simp only;omega⟩,hs⟩
  ·exact⟨⟨h.1,hi.wo,by simp only;omega⟩,List.Sublist.refl _⟩
theorem ZP (h:Bk bs ss st A B)(hi:wZ A B ws):gY WX (((),()),Cu last no bs ss ws st)=some ((iV A+iV B+ws.length,()),F7 last no bs ss ws st):=by
 have hl:=ZO (last:=last) (no:=no) h hi.bi;have hc:=hi.yL;have:=tk A;have:=tk B;have e:i64.wrap (iV A+iV B+(ws.length:Int))=iV A+iV B+ws.length:=nQ (by omega) (by omega)
 simp only[gY,hl,zdc,↓xo,xw,e]
def xZ (A B:List nw)(ws:List ek):List ek:=tX A++(tX B++ws)
theorem G5 (A:List nw):((tX A).length:Int)=iV A:=by
 unfold tX iV;induction A with
 |nil=>rfl
 |cons p l ih=>simp only[zd0,zdm,zen,zea,jH,zd8] at*;omega
theorem AF (hi:wZ A B ws):(xZ A B ws).length<=64:=by
 have:=G5 A;have:=G5 B;have:=hi.yL;unfold xZ;rw[zdm,zdm];omega
theorem all_mk (h:Bk bs ss st A B)(hi:wZ A B ws):fW WX (((),()),Cu last no bs ss ws st)=some ((xZ A B ws,()),F7 last no bs ss ws st):=by
 have h1:=G0 (last:=last) (no:=no) h hi.bi 1 (.inl rfl);have h2:=G0 (last:=last) (no:=no) h hi.bi 2 (.inr rfl);rw[if_pos rfl] at h1;rw[if_neg (by omega)] at h2
 have hf: [tX A,tX B,ws].flatten=xZ A B ws:=by simp[xZ]
 have hc:=CT [tX A,tX B,ws] (by rw[hf];have:=AF hi;omega) (by simp)
 rw[hf] at hc;rcases hc with⟨hc,h0⟩|hc
 ·rw[h0]
  simp only[fW,h1,zdc,h2,hc]
 ·simp only[fW,h1,zdc,h2,hc,zeu]
end
def vI (o:ek)(A B:List nw)(ws:List ek):Int:=
 if(!nZ o)=true then 1 else if(sT o.1 o.2.1 A B ws).isSome=true then 5
 else if iV A+iV B+ws.length>=64/\(Od.stop o>0\/Od.kind o=1\/Od.kind o=5) then 4 else 0
def ga (o:ek):ek:=(o.1,o.2.1,o.2.2.1,o.2.2.2.1,o.2.2.2.2.1,o.2.2.2.2.2.1,o.2.2.2.2.2.2.1,o.2.2.2.2.2.2.2.1,0,())
abbrev MS:=List nw×List nw×List ek×Int×Int
def jY:Nat->MS->List lX->MS×List lX
 |0,m,out=>(m,out)
 |k+1,(A,B,ws,last,no),out=>match ws.findIdx? (IL last) with
  |none=>((A,B,ws,last,no),out)
  |some n=>jY k ((jh (ga (ws.getD n o0)) A B last no).2.1,(jh (ga (ws.getD n o0)) A B last no).2.2.1,ws.eraseIdx n,(jh (ga (ws.getD n o0)) A B last no).2.2.2.1,(jh (ga (ws.getD n o0)) A B last no).2.2.2.2) (out++ [(ws.getD n o0,(jh (ga (ws.getD n o0)) A B last no).1.2)])
def ld (o:ek)(m:MS):MS×List lX:=
 if¬vI o m.1 m.2.1 m.2.2.1=0 then((jY m.2.2.1.length m []).1,(o,[],Od.eX o,false,false,false,vI o m.1 m.2.1 m.2.2.1,())::(jY m.2.2.1.length m []).2)
 else if Od.stop o>0/\Bu o m.2.2.2.1=false then((jY (m.2.2.1.length+1) (m.1,m.2.1,m.2.2.1++ [o],m.2.2.2) []).1,(o,[],Od.eX o,false,true,false,0,())::(jY (m.2.2.1.length+1) (m.1,m.2.1,m.2.2.1++ [o],m.2.2.2) []).2)
 else((jY m.2.2.1.length ((jh (ga o) m.1 m.2.1 m.2.2.2.1 m.2.2.2.2).2.1,(jh (ga o) m.1 m.2.1 m.2.2.2.1 m.2.2.2.2).2.2.1,m.2.2.1,(jh (ga o) m.1 m.2.1 m.2.2.2.1 m.2.2.2.2).2.2.2) []).1,(o,(jh (ga o) m.1 m.2.1 m.2.2.2.1 m.2.2.2.2).1.2)::(jY m.2.2.1.length ((jh (ga o) m.1 m.2.1 m.2.2.2.1 m.2.2.2.2).2.1,(jh (ga o) m.1 m.2.1 m.2.2.2.1 m.2.2.2.2).2.2.1,m.2.2.1,(jh (ga o) m.1 m.2.1 m.2.2.2.1 m.2.2.2.2).2.2.2) []).2)
section
variable {bs ss:List Nat}{st:List gF}{A B:List nw}{ws:List ek}{last no:Int}
theorem MN (h:Bk bs ss st A B)(hi:wZ A B ws)(o:ek):cB WX (((),o,()),Cu last no bs ss ws st)=some ((vI o A B ws,()),F7 last no bs ss ws st):=by
 have hR:=AA o;have hF:=IM (last:=last) (no:=no) h hi o.1 o.2.1;have hL:=ZP (last:=last) (no:=no) h hi;have V4: ¬(1:Int)=0:=by omega
 unfold vI;cases hr:nZ o with
 |false=>
  rw[hr] at hR;simp only[cB,hR,zdc,zdd,↓xo,bc V4,zdh,zde,if_true]
 |true=>
  rw[hr] at hR;cases hf:(sT o.1 o.2.1 A B ws).isSome with
  |true=>
   rw[hf] at hF;simp only[cB,hR,zdc,zde,↓xo,iD,zdg,zdd,hF,if_true,zdk,if_false]
  |false=>
   rw[hf] at hF;simp only[zdg,zdk,if_false];by_cases h1:iV A+iV B+ws.length>=64
   ·by_cases h2:Od.stop o>0
    ·rw[if_pos ⟨h1, .inl h2⟩]
     simp only[cB,hR,zdc,zde,↓xo,iD,zdg,zdd,hF,hL,ot h1,ot h2]
    ·by_cases h3:Od.kind o=1
     ·rw[if_pos ⟨h1, .inr (.inl h3)⟩]
      simp only[cB,hR,zdc,zde,↓xo,iD,zdg,zdd,hF,hL,ot h1,bc h2,ot h3]
     ·by_cases h4:Od.kind o=5
      ·rw[if_pos ⟨h1, .inr (.inr h4)⟩]
       simp only[cB,hR,zdc,zde,↓xo,iD,zdg,zdd,hF,hL,ot h1,bc h2,bc h3,ot h4]
      ·rw[if_neg (by rintro⟨_,h|h|h⟩;exact h2 h;exact h3 h;exact h4 h)]
       simp only[cB,hR,zdc,zde,↓xo,iD,zdg,zdd,hF,hL,ot h1,bc h2,bc h3,bc h4]
   ·rw[if_neg (λh=>h1 h.1)]
    simp only[cB,hR,zdc,zde,↓xo,iD,zdg,zdd,hF,hL,bc h1]
theorem Ks (h:Bk bs ss st A B)(hi:BI A B)(o:ek)(ws:List ek): ∃oT oU eY,eN WX (((),o,()),Cu last no bs ss ws st)=some (((o,(jh (ga o) A B last no).1.2),()),F7 (jh (ga o) A B last no).2.2.2.1 (jh (ga o) A B last no).2.2.2.2 oT oU ws eY)/\Bk oT oU eY (jh (ga o) A B last no).2.1 (jh (ga o) A B last no).2.2.1:=by
 obtain⟨oT,oU,eY,h1,h2⟩:=ZL (last:=last) (no:=no) h hi (ga o);refine⟨oT,oU,eY,?_,h2⟩;unfold ga at h1;simp only[eN,h1,zdc];rfl
theorem ET (o:ek):iR (ga o)=iR o:=rfl
theorem one_le {p:Prop} [Decidable p]:(if p then(1:Int) else 0)<=1:=by split<;>omega
theorem Wc: ∀(k:Nat) (bs ss:List Nat) (st:List gF) (A B:List nw) (ws:List ek) (last no:Int) (out:List lX),Bk bs ss st A B->wZ A B ws->ws.length<=k->out.length+ws.length<=1000->∃oT oU eY,ag (bU WX) (((),(),()),(),((),(),()),kp last no,bs,ss,ws,out,st,())=
  some (((),()),(),((),(),()),kp (jY k (A,B,ws,last,no) out).1.2.2.2.1 (jY k (A,B,ws,last,no) out).1.2.2.2.2,(jY k (A,B,ws,last,no) out).1.2.2.1,oT,oU,(jY k (A,B,ws,last,no) out).2,eY,())/\Bk oT oU eY (jY k (A,B,ws,last,no) out).1.1 (jY k (A,B,ws,last,no) out).1.2.1/\
  wZ (jY k (A,B,ws,last,no) out).1.1 (jY k (A,B,ws,last,no) out).1.2.1 (jY k (A,B,ws,last,no) out).1.2.2.1/\(∀o∈(jY k (A,B,ws,last,no) out).1.2.2.1,Bu o (jY k (A,B,ws,last,no) out).1.2.2.2.1=false):=by
 intro k;have vp: ∀(bs ss:List Nat) (st:List gF) (A B:List nw) (ws:List ek) (last no:Int) (out:List lX),wZ A B ws->ws.findIdx? (IL last)=none->ag (bU WX) (((),(),()),(),((),(),()),kp last no,bs,ss,ws,out,st,())=some (((),()),(),((),(),()),kp last no,ws,bs,ss,out,st,())/\∀o∈ws,Bu o last=false:=by
  intro bs ss st A B ws last no out hi hn;have hp:=Kr last no bs ss st ws (by have:=hi.len;omega)
  unfold Kq at hp;rw[hn] at hp;have e:(-1:Int)<0:=by omega
  refine⟨by rw[aq];simp only[bU,hp,zdc,↓xo,ot e,zde],λo ho=>?_⟩
  rw[zeS] at hn;exact hn o ho
 induction k with
 |zero=>
  intro bs ss st A B ws last no out h hi hk ho;have:ws=[]:=zdM (by omega)
  subst this;have:=vp bs ss st A B [] last no out hi rfl;exact⟨bs,ss,st,this.1,h,hi,this.2⟩
 |succ k ih=>
  intro bs ss st A B ws last no out h hi hk ho;unfold jY;cases hw:ws.findIdx? (IL last) with
  |none=>
   have:=vp bs ss st A B ws last no out hi hw;exact⟨bs,ss,st,this.1,h,hi,this.2⟩
  |some n=>
   simp only;have hn:=(List.findIdx?_eq_some_iff_getElem.1 hw).1;have hx:=zdi hn;have hg:ws.getD n o0=ws[n]:=by rw[zdt,hx];rfl
   rw[hg];have hl:=hi.len;have hd:=Ou hn (by omega)
   have e1:=lx hn (by omega)
   have hp:=Kr last no bs ss st ws (by omega)
   unfold Kq at hp;rw[hw] at hp;obtain⟨bs1,ss1,wG,h1,h2⟩:=Ks (last:=last) (no:=no) h hi.bi ws[n] (ws.eraseIdx n);have hs:(ws.eraseIdx n).Sublist ws:=ze2 ..;have hlen:=zeR hn;obtain⟨a1,a2,a3⟩:=Dh (last:=last) (no:=no) hi.bi (ga ws[n]);have hle:=one_le (p:=iR (ga ws[n])=true);have nA:wZ (jh (ga ws[n]) A B last no).2.1 (jh (ga ws[n]) A B last no).2.2.1 (ws.eraseIdx n):=⟨a1,λo ho=>hi.wo o (hs.subset ho),by rw[hlen];have:=hi.yL;omega⟩
   obtain⟨oT,oU,eY,i1,i2⟩:=ih bs1 ss1 wG _ _ (ws.eraseIdx n) (jh (ga ws[n]) A B last no).2.2.2.1 (jh (ga ws[n]) A B last no).2.2.2.2 (out++ [(ws[n],(jh (ga ws[n]) A B last no).1.2)]) h2 nA (by omega) (by rw[hlen,zdm,ze3];omega)
   refine⟨oT,oU,eY,?_,i2⟩;rw[aq];simp only[bU,hp,zdc,↓xo,xw,bc (show¬(n:Int)<0 by omega),zdd,ot (show 0<=(n:Int)/\(n:Int)<(ws.length:Int) by omega),zde,zdf,hx,e1,hd,h1,ot (show(((out.length+([(ws[n],(jh (ga ws[n]) A B last no).1.2)]:List lX).length:Nat):Int))*((120:Nat):Int)<=((room:Nat):Int) by unfold room;simp only[zdn,zdo];omega)]
   exact i1
theorem yr: ∀(k:Nat) (m:MS) (out:List lX),(jY k m out).2.length<=out.length+k
 |0,m,out=>zdz _
 |k+1,(A,B,ws,last,no),out=>by
  unfold jY;split
  ·show out.length<=_;omega
  ·rename_i n _
   have:=yr k ((jh (ga (ws.getD n o0)) A B last no).2.1,(jh (ga (ws.getD n o0)) A B last no).2.2.1,ws.eraseIdx n,(jh (ga (ws.getD n o0)) A B last no).2.2.2.1,(jh (ga (ws.getD n o0)) A B last no).2.2.2.2) (out++ [(ws.getD n o0,(jh (ga (ws.getD n o0)) A B last no).1.2)]);rw[zdm,ze3] at this;omega
theorem wv (h:Bk bs ss st A B)(hi:wZ A B ws)(k:Nat)(hk:ws.length<=k): ∃oT oU eY,c9 WX (((),()),Cu last no bs ss ws st)=
  some (((),()),((),(),()),kp (jY k (A,B,ws,last,no) []).1.2.2.2.1 (jY k (A,B,ws,last,no) []).1.2.2.2.2,(jY k (A,B,ws,last,no) []).1.2.2.1,oT,oU,(jY k (A,B,ws,last,no) []).2,eY,())/\Bk oT oU eY (jY k (A,B,ws,last,no) []).1.1 (jY k (A,B,ws,last,no) []).1.2.1/\
  wZ (jY k (A,B,ws,last,no) []).1.1 (jY k (A,B,ws,last,no) []).1.2.1 (jY k (A,B,ws,last,no) []).1.2.2.1/\(∀o∈(jY k (A,B,ws,last,no) []).1.2.2.1,Bu o (jY k (A,B,ws,last,no) []).1.2.2.2.1=false):=by
 obtain⟨oT,oU,eY,h1,h2⟩:=Wc k bs ss st A B ws last no [] h hi hk (by have:=hi.len;simp only[zdo];omega)
 exact⟨oT,oU,eY,by simp only[c9,↓xl,h1,zdc],h2⟩
theorem Tp (h:Bk bs ss st A B)(hi:wZ A B ws)(o:ek): ∃oT oU eY,dF WX (((),o,()),Cu last no bs ss ws st)=
  some (((),()),((),(),()),kp (ld o (A,B,ws,last,no)).1.2.2.2.1 (ld o (A,B,ws,last,no)).1.2.2.2.2,(ld o (A,B,ws,last,no)).1.2.2.1,oT,oU,(ld o (A,B,ws,last,no)).2,eY,())/\Bk oT oU eY (ld o (A,B,ws,last,no)).1.1 (ld o (A,B,ws,last,no)).1.2.1/\
  wZ (ld o (A,B,ws,last,no)).1.1 (ld o (A,B,ws,last,no)).1.2.1 (ld o (A,B,ws,last,no)).1.2.2.1/\(∀o'∈(ld o (A,B,ws,last,no)).1.2.2.1,Bu o' (ld o (A,B,ws,last,no)).1.2.2.2.1=false)/\(ld o (A,B,ws,last,no)).2.length<=70:=by
 have hr:=MN (last:=last) (no:=no) h hi o;have hl:=hi.len;have pP: ∀(x:lX) (l:List lX),l.length<=69->af (((([x].length+l.length:Nat):Int))*((120:Nat):Int)<=((room:Nat):Int))=true:=λx l hl=>ot (by unfold room;simp only[zdn,zdo];omega)
 unfold ld;by_cases h0:vI o A B ws=0
 ·rw[h0] at hr
  rw[if_neg (λe=>e h0)];have IN:nZ o=true:=by
   unfold vI at h0;cases hx:nZ o with
   |true=>rfl
   |false=>rw[hx] at h0;simp at h0
  have Cn:iR o=true\/Od.stop o>0->iV A+iV B+ws.length+1<=64:=λhx=>by
   unfold vI at h0;rw[IN] at h0;simp only[zdg,zdk,if_false] at h0;split at h0
   ·cases h0
   ·split at h0
    ·cases h0
    ·rename_i hy
     have hz: ¬(iV A+iV B+ws.length>=64):=λq=>hy ⟨q,by
      rcases hx with hx|hx
      ·exact .inr (sB hx)
      ·exact .inl hx⟩
     omega
  obtain⟨bs2,ss2,HV,n1,n2⟩:=Ks (last:=last) (no:=no) h hi.bi o ws;obtain⟨a1,a2,a3⟩:=Dh (last:=last) (no:=no) hi.bi (ga o);have XZ:wZ (jh (ga o) A B last no).2.1 (jh (ga o) A B last no).2.2.1 ws:=⟨a1,hi.wo,by
   rw[ET] at a2;have:=hi.yL;by_cases hx:iR o=true
   ·have:=Cn (.inl hx);rw[if_pos hx] at a2;omega
   ·rw[if_neg hx] at a2;omega⟩
  obtain⟨bs3,ss3,st3,t1,t2⟩:=wv (last:=(jh (ga o) A B last no).2.2.2.1) (no:=(jh (ga o) A B last no).2.2.2.2) n2 XZ ws.length (zdz _);have tl:=yr ws.length ((jh (ga o) A B last no).2.1,(jh (ga o) A B last no).2.2.1,ws,(jh (ga o) A B last no).2.2.2.1,(jh (ga o) A B last no).2.2.2.2) [];rw[zdo,zd2] at tl;change (jY ws.length ((jh (ga o) A B last no).2.1,(jh (ga o) A B last no).2.2.1,ws,(jh (ga o) A B last no).2.2.2) []).2.length<=_ at tl;have V9: ¬(Od.stop o>0/\Bu o last=false)->∃oT oU eY,dF WX (((),o,()),Cu last no bs ss ws st)=some (((),()),((),(),()),kp (jY ws.length ((jh (ga o) A B last no).2.1,(jh (ga o) A B last no).2.2.1,ws,(jh (ga o) A B last no).2.2.2) []).1.2.2.2.1 (jY ws.length ((jh (ga o) A B last no).2.1,(jh (ga o) A B last no).2.2.1,ws,(jh (ga o) A B last no).2.2.2) []).1.2.2.2.2,(jY ws.length ((jh (ga o) A B last no).2.1,(jh (ga o) A B last no).2.2.1,ws,(jh (ga o) A B last no).2.2.2) []).1.2.2.1,oT,oU,(o,(jh (ga o) A B last no).1.2)::(jY ws.length ((jh (ga o) A B last no).2.1,(jh (ga o) A B last no).2.2.1,ws,(jh (ga o) A B last no).2.2.2) []).2,eY,())/\Bk oT oU eY (jY ws.length ((jh (ga o) A B last no).2.1,(jh (ga o) A B last no).2.2.1,ws,(jh (ga o) A B last no).2.2.2) []).1.1 (jY ws.length ((jh (ga o) A B last no).2.1,(jh (ga o) A B last no).2.2.1,ws,(jh (ga o) A B last no).2.2.2) []).1.2.1:=λuM=>by
   refine⟨bs3,ss3,st3,?_,t2.1⟩;by_cases jZ:Od.stop o>0
   ·have hh:=MF o last
    have hb:Bu o last=true:=by cases hx:Bu o last with|true=>rfl|false=>exact absurd ⟨jZ,hx⟩ uM
    rw[hb] at hh;simp only[dF,hr,zdc,↓xo,iD,zdg,zdd,ot jZ,zde,gL,hh,n1,t1,pP (o,(jh (ga o) A B last no).1.2) _ (zdA tl (by omega)),zeP]
   ·simp only[dF,hr,zdc,↓xo,iD,zdg,zdd,bc jZ,n1,t1,zde,pP (o,(jh (ga o) A B last no).1.2) _ (zdA tl (by omega)),zeP]
  by_cases hc:Od.stop o>0/\Bu o last=false
  ·rw[if_pos hc]
   have hh:=MF o last;rw[hc.2] at hh;have:=Cn (.inr hc.1);have hi4:wZ A B (ws++ [o]):=⟨hi.bi,λo' mS=>by
    rcases List.mem_append.1 mS with mS|mS
    ·exact hi.wo o' mS
    ·rw[zeB] at mS;subst mS;exact⟨qC IN,hc.1⟩,by rw[zdm,ze3];omega⟩
   obtain⟨bs4,ss4,st4,u1,u2,u3,u4⟩:=wv (last:=last) (no:=no) h hi4 (ws.length+1) (by rw[zdm,ze3];omega)
   have ul:=yr (ws.length+1) (A,B,ws++ [o],last,no) [];rw[zdo,zd2] at ul;refine⟨bs4,ss4,st4,?_,u2,u3,u4,by simp only[zdn];omega⟩
   simp only[dF,hr,zdc,↓xo,iD,zdg,zdd,ot hc.1,zde,gL,hh,zdh,ot (show(((ws.length+([o]:List ek).length:Nat):Int))*((72:Nat):Int)<=((room:Nat):Int) by unfold room;simp only[zdn,zdo];omega),u1,pP (o,[],Od.eX o,false,true,false,0,()) _ (zdA ul (by omega)),zeP]
  ·rw[if_neg hc]
   obtain⟨oT,oU,eY,x1,x2⟩:=V9 hc;exact⟨oT,oU,eY,x1,x2,t2.2.1,t2.2.2,by simp only[zdn];omega⟩
 ·rw[if_pos h0]
  obtain⟨oT,oU,eY,t1,t2,t3,t4⟩:=wv (last:=last) (no:=no) h hi ws.length (zdz _);have tl:=yr ws.length (A,B,ws,last,no) [];rw[zdo,zd2] at tl;refine⟨oT,oU,eY,?_,t2,t3,t4,by simp only[zdn];omega⟩
  simp only[dF,hr,zdc,↓xo,bc h0,zdh,zde,t1,pP (o,[],Od.eX o,false,false,false,vI o A B ws,()) _ (zdA tl (by omega)),zeP]
end
structure sU (x:lX):Prop where
 AE: ∀f∈x.2.1,(0<=f.1.1/\f.1.1<=31)/\(0<=f.2.1.1/\f.2.1.1<=31)/\((Od.side f.1=1/\Od.side f.2.1=2)\/(Od.side f.1=2/\Od.side f.2.1=1))/\1<=Fl.eX f
 sum:0<=ll x.2.1/\ll x.2.1<=1048576
theorem wx {l:List ni}(h: ∀f∈l,1<=Fl.eX f):(l.length:Int)<=ll l:=by
 unfold ll;induction l with
 |nil=>exact zei _
 |cons x l ih=>
  have a:=h x (zdq ..);have b:=ih λy hy=>h y (zdp _ hy);simp only[zea,jH,zd8,zdn] at*;omega
theorem sU.len {x:lX}(h:sU x):x.2.1.length<=1048576:=by
 have:=wx (l:=x.2.1) λf hf=>(h.AE f hf).2.2.2;have:=h.sum;omega
theorem Kt (o:ek)(r:Int×Bool×Bool×Bool×Int×Unit):sU (o,[],r):=⟨λf hf=>(by cases hf),by simp[ll,jH]⟩
theorem EU {o o':ek}{x:lX}(h:Xx o x):sU (o',x.2):=by
 rcases h.AE with h0|⟨h1,h2,h3⟩
 ·refine⟨λf hf=>?_,?_⟩
  ·simp only[h0] at hf;cases hf
  ·simp only[h0];simp[ll,jH]
 ·have hl:=h.left (by have:=h1.eX;omega)
  have hq:=h1.eX;have hn:=wx (l:=x.2.1) λf hf=>by obtain⟨pr,hp⟩:=h2 f hf;exact hp.eX
  refine⟨λf hf=>?_,by show 0<=ll x.2.1/\ll x.2.1<=_;omega⟩
  obtain⟨pr,hp⟩:=h2 f hf;obtain⟨q,hq⟩:=hp.zbG;have hs:=hp.Xw.side;refine⟨hp.Xw.qn,by rw[hq];exact h1.qn,?_,hp.eX⟩
  rw[hq];show(_/\Od.side o=2)\/(_/\Od.side o=1)
  have:=h1.side;omega
theorem wy: ∀(k:Nat) (m:MS) (out:List lX),wZ m.1 m.2.1 m.2.2.1->(∀x∈out,sU x)->∀x∈(jY k m out).2,sU x
 |0,m,out,_,h=>h
 |k+1,(A,B,ws,last,no),out,hi,h=>by
  unfold jY;split
  ·exact h
  ·rename_i n hw
   have hn:=(List.findIdx?_eq_some_iff_getElem.1 hw).1;obtain⟨a1,a2,a3⟩:=Dh (last:=last) (no:=no) hi.bi (ga (ws.getD n o0));have hs:(ws.eraseIdx n).Sublist ws:=ze2 ..;have hlen:=zeR hn;have hle:=one_le (p:=iR (ga (ws.getD n o0))=true);have nA:wZ (jh (ga (ws.getD n o0)) A B last no).2.1 (jh (ga (ws.getD n o0)) A B last no).2.2.1 (ws.eraseIdx n):=⟨a1,λo ho=>hi.wo o (hs.subset ho),by rw[hlen];have:=hi.yL;simp only at*;omega⟩
   refine wy k _ _ nA λx hx=>?_;rcases List.mem_append.1 hx with hx|hx
   ·exact h x hx
   ·rw[zeB] at hx;subst hx;exact EU a3
theorem EV (o:ek)(m:MS)(hi:wZ m.1 m.2.1 m.2.2.1): ∀x∈(ld o m).2,sU x:=by
 obtain⟨A,B,ws,last,no⟩:=m;simp only at hi;have Ov:vI o A B ws=0->nZ o=true:=λh0=>by
  unfold vI at h0;cases hx:nZ o with
  |true=>rfl
  |false=>rw[hx] at h0;simp at h0
 have Cn:vI o A B ws=0->iR o=true\/Od.stop o>0->iV A+iV B+ws.length+1<=64:=λh0 hx=>by
  have IN:=Ov h0;unfold vI at h0;rw[IN] at h0;simp only[zdg,zdk,if_false] at h0;split at h0
  ·cases h0
  ·split at h0
   ·cases h0
   ·rename_i hy
    have hz: ¬(iV A+iV B+ws.length>=64):=λq=>hy ⟨q,by
     rcases hx with hx|hx
     ·exact .inr (sB hx)
     ·exact .inl hx⟩
    omega
 unfold ld;simp only;split
 ·intro x hx
  rcases List.mem_cons.1 hx with rfl|hx
  ·exact Kt ..
  ·exact wy _ (A,B,ws,last,no) [] hi (λx hx=>by cases hx) x hx
 ·rename_i h0
  have h0:vI o A B ws=0:=Decidable.not_not.1 h0;split
  ·rename_i hc
   have:=Cn h0 (.inr hc.1);have hi4:wZ A B (ws++ [o]):=⟨hi.bi,λo' mS=>by
    rcases List.mem_append.1 mS with mS|mS
    ·exact hi.wo o' mS
    ·rw[zeB] at mS;subst mS;exact⟨qC (Ov h0),hc.1⟩,by rw[zdm,ze3];omega⟩
   intro x hx;rcases List.mem_cons.1 hx with rfl|hx
   ·exact Kt ..
   ·exact wy _ (A,B,ws++ [o],last,no) [] hi4 (λx hx=>by cases hx) x hx
  ·obtain⟨a1,a2,a3⟩:=Dh (last:=last) (no:=no) hi.bi (ga o)
   have XZ:wZ (jh (ga o) A B last no).2.1 (jh (ga o) A B last no).2.2.1 ws:=⟨a1,hi.wo,by
    rw[ET] at a2;have:=hi.yL;by_cases hx:iR o=true
    ·have:=Cn h0 (.inl hx);rw[if_pos hx] at a2;omega
    ·rw[if_neg hx] at a2;omega⟩
   intro x hx;rcases List.mem_cons.1 hx with rfl|hx
   ·exact EU a3
   ·exact wy _ (_,_,ws,_) [] XZ (λx hx=>by cases hx) x hx
def ZQ (lI:ek)(aY eX:Int):ek:=(lI.1,lI.2.1,lI.2.2.1,lI.2.2.2.1,lI.2.2.2.2.1,aY,eX,min (Od.show lI) (max eX 0),lI.2.2.2.2.2.2.2.2)
def fS (t i aY eX:Int)(m:MS):Int×MS×List lX:=match sT t i m.1 m.2.1 m.2.2.1 with
 |none=>(6,m,[])
 |some lI=>if(!nZ (ZQ lI aY eX))=true then(1,m,[])
  else if aY=Od.aY lI/\eX<=Od.eX lI/\(uV t i m.1 m.2.1).isSome=true then(0,((xY t i eX m.1 m.2.1).2.1,(xY t i eX m.1 m.2.1).2.2,m.2.2),[])
  else(0,ld (ZQ lI aY eX) ((mL t i m.1 m.2.1 m.2.2.1).2.2.1,(mL t i m.1 m.2.1 m.2.2.1).2.2.2.1,(mL t i m.1 m.2.1 m.2.2.1).2.2.2.2,m.2.2.2))
abbrev Tq (last no:Int)(bs ss:List Nat)(ws:List ek)(outs:List lX)(st:List gF):(Unit×Unit×Unit)×MG×List ek×List Nat×List Nat×List lX×List gF×Unit:=(((),(),()),kp last no,ws,bs,ss,outs,st,())
section
variable {bs ss:List Nat}{st:List gF}{A B:List nw}{ws:List ek}{last no:Int}
def ya (m:MS):Prop:= ∀o∈m.2.2.1,Bu o m.2.2.2.1=false
theorem Ts (h:Bk bs ss st A B)(hi:wZ A B ws)(hh:ya (A,B,ws,last,no))(t i aY eX:Int): ∃oT oU eY,gd WX (((),t,i,aY,eX,()),Cu last no bs ss ws st)=
  some (((),(fS t i aY eX (A,B,ws,last,no)).1,()),Tq (fS t i aY eX (A,B,ws,last,no)).2.1.2.2.2.1 (fS t i aY eX (A,B,ws,last,no)).2.1.2.2.2.2 oT oU (fS t i aY eX (A,B,ws,last,no)).2.1.2.2.1 (fS t i aY eX (A,B,ws,last,no)).2.2 eY)/\
  Bk oT oU eY (fS t i aY eX (A,B,ws,last,no)).2.1.1 (fS t i aY eX (A,B,ws,last,no)).2.1.2.1/\wZ (fS t i aY eX (A,B,ws,last,no)).2.1.1 (fS t i aY eX (A,B,ws,last,no)).2.1.2.1 (fS t i aY eX (A,B,ws,last,no)).2.1.2.2.1/\ya (fS t i aY eX (A,B,ws,last,no)).2.1/\
  (∀x∈(fS t i aY eX (A,B,ws,last,no)).2.2,sU x)/\(fS t i aY eX (A,B,ws,last,no)).2.2.length<=70:=by
 have hf:=IM (last:=last) (no:=no) h hi t i;unfold fS;cases hw:sT t i A B ws with
 |none=>
  rw[hw] at hf;exact⟨bs,ss,st,by simp only[gd,hf,zdc,zet,zdh,zde],h,hi,hh,λx hx=>(by cases hx),zek _⟩
 |some lI=>
  rw[hw] at hf;simp only[zex,zeY] at hf;have ZR:eT WX (((lI.1,lI.2.1,lI.2.2.1,lI.2.2.2.1,lI.2.2.2.2.1,aY,eX,min lI.2.2.2.2.2.2.2.1 (max eX 0),lI.2.2.2.2.2.2.2.2),()),())=some (((bif nZ (ZQ lI aY eX) then 0 else 1),()),()):=AA (ZQ lI aY eX);have V4: ¬(1:Int)=0:=by omega
  simp only;cases hr:nZ (ZQ lI aY eX) with
  |false=>
   rw[hr] at ZR;simp only[zdh,if_true];exact⟨bs,ss,st,by simp only[gd,hf,zdc,zdg,zdd,↓xo,uS,Mo,ZR,bc V4,zdh,zde,if_true],h,hi,hh,λx hx=>(by cases hx),zek _⟩
  |true=>
   rw[hr] at ZR;simp only[zdg,zdk,if_false];have hbf:=Ot (last:=last) (no:=no) h hi.bi t i;by_cases hc:aY=Od.aY lI/\eX<=Od.eX lI/\(uV t i A B).isSome=true
   ·simp only[if_pos hc]
    obtain⟨c1,c2,c3⟩:=hc;rw[c3] at hbf;obtain⟨eY,l1,l2⟩:=Wb (last:=last) (no:=no) h hi.bi t i eX;have l3:=To hi.bi t i eX;refine⟨bs,ss,eY,?_,l2,⟨l3.1,hi.wo,by have:=hi.yL;omega⟩,hh,λx hx=>(by cases hx),zek _⟩
    simp only[gd,hf,zdc,zdg,zdd,↓xo,uS,Mo,ZR,zde,iD,ot (show aY=lI.2.2.2.2.2.1 from c1),ot (show eX<=lI.2.2.2.2.2.2.1 from c2),kf,fV,hbf,zdh,l1]
   ·simp only[if_neg hc]
    obtain⟨bs1,ss1,wG,r1,r2⟩:=MM (last:=last) (no:=no) h hi t i;have r3:=(ES hi t i).1;obtain⟨oT,oU,eY,a1,a2,a3,a4,a5⟩:=Tp (last:=last) (no:=no) r2 r3 (ZQ lI aY eX);refine⟨oT,oU,eY,?_,a2,a3,a4,EV _ _ r3,a5⟩;unfold ZQ at a1⊢;by_cases c1:aY=Od.aY lI
    ·by_cases c2:eX<=Od.eX lI
     ·have c3:(uV t i A B).isSome=false:=by cases hx:(uV t i A B).isSome with|false=>rfl|true=>exact absurd ⟨c1,c2,hx⟩ hc
      rw[c3] at hbf;simp only[gd,hf,zdc,zdg,zdd,↓xo,uS,Mo,ZR,zde,iD,ot (show aY=lI.2.2.2.2.2.1 from c1),ot (show eX<=lI.2.2.2.2.2.2.1 from c2),kf,fV,hbf,zdh,r1,a1]
     ·simp only[gd,hf,zdc,zdg,zdd,↓xo,uS,Mo,ZR,zde,iD,ot (show aY=lI.2.2.2.2.2.1 from c1),bc (show¬eX<=lI.2.2.2.2.2.2.1 from c2),r1,a1]
    ·simp only[gd,hf,zdc,zdg,zdd,↓xo,uS,Mo,ZR,zde,iD,bc (show¬aY=lI.2.2.2.2.2.1 from c1),r1,a1]
noncomputable def Wd (x:Int)(o:ek):Bool:=af (WX.sH .u64 (WX.shr .u64 x (IntKind.u64.wrap o.1)) 1=1)
noncomputable def s9 (x:Int):List ek->MS->List ek->MS×List ek
 | [],m,out=>(m,out)
 |o::l,m,out=>if Wd x o=true then s9 x l ((mL o.1 o.2.1 m.1 m.2.1 m.2.2.1).2.2.1,(mL o.1 o.2.1 m.1 m.2.1 m.2.2.1).2.2.2.1,(mL o.1 o.2.1 m.1 m.2.1 m.2.2.1).2.2.2.2,m.2.2.2) (out++ [o]) else s9 x l m out
theorem sV (n:Int): ¬IntKind.u64.wrap n<0:=by rw[IntKind.wrap_u64];omega
theorem Ql (x:Int)(last no:Int)(all:List ek)(hal:all.length<=1000): ∀(l pre:List ek) (bs ss:List Nat) (st:List gF) (A B:List nw) (ws:List ek) (out:List ek),pre++l=all->out.length+l.length<=1000->Bk bs ss st A B->wZ A B ws->ya (A,B,ws,last,no)->∃oT oU eY,ag (gj WX) (((),x,(),all,(all.length:Int),(pre.length:Int),()),((),(),()),kp last no,bs,ss,ws,out,st,())=
  some (((s9 x l (A,B,ws,last,no) out).2,()),F7 last no oT oU (s9 x l (A,B,ws,last,no) out).1.2.2.1 eY)/\(s9 x l (A,B,ws,last,no) out).1.2.2.2=(last,no)/\Bk oT oU eY (s9 x l (A,B,ws,last,no) out).1.1 (s9 x l (A,B,ws,last,no) out).1.2.1/\wZ (s9 x l (A,B,ws,last,no) out).1.1 (s9 x l (A,B,ws,last,no) out).1.2.1 (s9 x l (A,B,ws,last,no) out).1.2.2.1/\ya (s9 x l (A,B,ws,last,no) out).1:=by
 intro l;induction l with
 |nil=>
  intro pre bs ss st A B ws out hp ho h hi hh;rw[zeE] at hp;subst hp;refine⟨bs,ss,st,?_,rfl,h,hi,hh⟩;rw[aq];simp only[gj,↓xo,bc (show¬(pre.length:Int)<(pre.length:Int) by omega),zdd,s9]
 |cons o l ih=>
  intro pre bs ss st A B ws out hp ho h hi hh;have hx:all[pre.length]?=some o:=by rw[<-hp];simp
  have kR:pre.length<all.length:=(List.getElem?_eq_some_iff.1 hx).1;have e1:i64.wrap ((pre.length:Int)+1)=(((pre++ [o]).length:Nat):Int):=by rw[lx kR (by omega),zdm];rfl
  have xW:(pre++ [o])++l=all:=by rw[<-hp];simp
  simp only[zdn] at ho;unfold s9;rw[aq];cases hb:Wd x o with
  |true=>
   rw[if_pos rfl];have uX:=hb;unfold Wd at uX;obtain⟨bs1,ss1,wG,r1,r2⟩:=MM (last:=last) (no:=no) h hi o.1 o.2.1;obtain⟨r3,r4⟩:=ES hi o.1 o.2.1;obtain⟨oT,oU,eY,i1,i2⟩:=ih (pre++ [o]) bs1 ss1 wG _ _ _ (out++ [o]) xW (by rw[zdm,ze3];omega) r2 r3 (λo' mS=>hh o' (r4.subset mS))
   refine⟨oT,oU,eY,?_,i2⟩;simp only[gj,↓xo,xw,ot (show(pre.length:Int)<(all.length:Int) by omega),ot (show(0:Int)<=(pre.length:Int) by omega),zde,zdf,hx,zdc,bc (sV o.1),zdd,uX,r1,ot (show(((out.length+([o]:List ek).length:Nat):Int))*((72:Nat):Int)<=((room:Nat):Int) by unfold room;simp only[zdn,zdo];omega),e1]
   exact i1
  |false=>
   rw[if_neg (by simp)]
   have uX:=hb;unfold Wd at uX;obtain⟨oT,oU,eY,i1,i2⟩:=ih (pre++ [o]) bs ss st A B ws out xW (by omega) h hi hh
   refine⟨oT,oU,eY,?_,i2⟩;simp only[gj,↓xo,xw,ot (show(pre.length:Int)<(all.length:Int) by omega),ot (show(0:Int)<=(pre.length:Int) by omega),zde,zdf,hx,zdc,bc (sV o.1),zdd,uX,e1]
   exact i1
theorem BB (x:Int): ∀(l:List ek) (m:MS) (out:List ek),(s9 x l m out).2.length<=out.length+l.length
 | [],_,_=>zdz _
 |o::l,m,out=>by
  unfold s9;split
  ·have:=BB x l ((mL o.1 o.2.1 m.1 m.2.1 m.2.2.1).2.2.1,(mL o.1 o.2.1 m.1 m.2.1 m.2.2.1).2.2.2.1,(mL o.1 o.2.1 m.1 m.2.1 m.2.2.1).2.2.2.2,m.2.2.2) (out++ [o])
   rw[zdm,ze3] at this;simp only[zdn];omega
  ·have:=BB x l m out
   simp only[zdn];omega
noncomputable def mM (x:Int)(m:MS):MS×List ek:=s9 x (xZ m.1 m.2.1 m.2.2.1) m []
theorem We (h:Bk bs ss st A B)(hi:wZ A B ws)(hh:ya (A,B,ws,last,no))(x:Int): ∃oT oU eY,kD WX (((),x,()),Cu last no bs ss ws st)=
  some (((mM x (A,B,ws,last,no)).2,()),F7 last no oT oU (mM x (A,B,ws,last,no)).1.2.2.1 eY)/\(mM x (A,B,ws,last,no)).1.2.2.2=(last,no)/\Bk oT oU eY (mM x (A,B,ws,last,no)).1.1 (mM x (A,B,ws,last,no)).1.2.1/\wZ (mM x (A,B,ws,last,no)).1.1 (mM x (A,B,ws,last,no)).1.2.1 (mM x (A,B,ws,last,no)).1.2.2.1/\ya (mM x (A,B,ws,last,no)).1/\(mM x (A,B,ws,last,no)).2.length<=64:=by
 have ha:=all_mk (last:=last) (no:=no) h hi;have hl:=AF hi;obtain⟨oT,oU,eY,i1,i2,i3,i4,i5⟩:=Ql x last no (xZ A B ws) (by omega) (xZ A B ws) [] bs ss st A B ws [] rfl (by simp only[zdo];omega) h hi hh
 change ag (gj WX) (((),x,(),xZ A B ws,((xZ A B ws).length:Int),0,()),_)=_ at i1;have hln:=BB x (xZ A B ws) (A,B,ws,last,no) [];refine⟨oT,oU,eY,?_,i2,i3,i4,i5,by rw[zdo,zd2] at hln;exact zdA hln hl⟩
 simp only[kD,ha,zdc,↓xl,i1];rfl
def sC (t:Int)(l:List ek):Int:=jH (l.map λo=>if o.1=t then Od.eX o else 0)
def wM (t:Int)(m:MS):Int:=sC t (xZ m.1 m.2.1 m.2.2.1)
theorem Ku {s:Int}{A:List nw}(h:l8 s A): ∀o∈tX A,1<=Od.eX o/\Od.eX o<=1048576:=by
 intro o ho;unfold tX at ho;obtain⟨a,ha,ho⟩:=List.mem_flatMap.1 ho;obtain⟨e,he,rfl⟩:=List.mem_map.1 ho;have:=(h.Qk a ha e he).1;unfold oF at this;omega
theorem AG (hi:wZ A B ws): ∀o∈xZ A B ws,1<=Od.eX o/\Od.eX o<=1048576:=by
 intro o ho;unfold xZ at ho;rcases List.mem_append.1 ho with ho|ho
 ·exact Ku hi.bi.yF o ho
 ·rcases List.mem_append.1 ho with ho|ho
  ·exact Ku hi.bi.s8 o ho
  ·exact(hi.wo o ho).1.eX
theorem Cv (t:Int){l:List ek}(h: ∀o∈l,1<=Od.eX o/\Od.eX o<=1048576)(hl:l.length<=64):0<=sC t l/\sC t l<=67108864:=by
 have:=wu (l:=l.map λo=>if o.1=t then Od.eX o else 0) (m:=1048576) (λx hx=>by
  obtain⟨o,ho,rfl⟩:=List.mem_map.1 hx;have:=h o ho;split<;>omega)
 rw[zen] at this;unfold sC;omega
theorem Qm (t:Int)(all:List ek)(h: ∀o∈all,1<=Od.eX o/\Od.eX o<=1048576)(hl:all.length<=64):ag (gk WX) ((t,0,all,(all.length:Int),0,()),())=some ((sC t all,()),()):=by
 have hb: ∀k,0<=sC t (all.take k)/\sC t (all.take k)<=67108864:=λk=>Cv t (λo ho=>h o (zef ho)) (by rw[zdH];omega)
 have:=IK (b:=gk WX) (λk=>((t,sC t (all.take k),all,(all.length:Int),(k:Int),()),())) ((sC t all,()),()) all.length (λk hk=>by
  have hx:=zdi hk;generalize all[k]=o at hx;have e1:=lx hk (by omega)
  have ht:sC t (all.take (k+1))=sC t (all.take k)+(if o.1=t then Od.eX o else 0):=by
   unfold sC;rw[zeK,hx,zeV,nf];simp[jH]
  have b1:=hb (k+1);rw[ht] at b1;simp only[ht];by_cases hc:o.1=t
  ·rw[if_pos hc] at b1⊢
   have e2:i64.wrap (sC t (all.take k)+o.2.2.2.2.2.2.1)=sC t (all.take k)+Od.eX o:=by
    show i64.wrap (sC t (all.take k)+Od.eX o)=_
    exact nQ (by omega) (by omega)
   simp only[gk,↓xo,xw,ot (show(k:Int)<(all.length:Int) by omega),ot (show(0:Int)<=(k:Int) by omega),zde,zdf,hx,zdc,ot hc,e1,e2]
  ·rw[if_neg hc] at b1⊢
   simp only[gk,↓xo,xw,ot (show(k:Int)<(all.length:Int) by omega),ot (show(0:Int)<=(k:Int) by omega),zde,zdf,hx,zdc,bc hc,zdd,e1,Int.add_zero])
  (by simp only[gk,↓xo,bc (show¬(all.length:Int)<(all.length:Int) by omega),zdd,zeu]) 0 (zek _)
 exact this
theorem Wf (h:Bk bs ss st A B)(hi:wZ A B ws)(t:Int):kU WX (((),t,()),Cu last no bs ss ws st)=some ((wM t (A,B,ws,last,no),()),F7 last no bs ss ws st):=by
 have ha:=all_mk (last:=last) (no:=no) h hi;have hl:=Qm t (xZ A B ws) (AG hi) (AF hi);simp only[kU,ha,zdc,↓xl,hl];rfl
theorem Kv (hi:wZ A B ws)(t:Int):0<=wM t (A,B,ws,last,no)/\wM t (A,B,ws,last,no)<=67108864:=Cv t (AG hi) (AF hi)
end
def tb (l:List (List Int))(n i:Nat):Int:=(l.getD n []).getD i 0
def Ow (l:List (List Int))(n i:Nat)(x:Int):List (List Int):=l.set n ((l.getD n []).set i x)
structure AH (l:List (List Int)):Prop where
 len:l.length=32
 row: ∀r∈l,r.length=8
theorem vJ {l:List (List Int)}(h:AH l){n i:Nat}(hn:n<32)(hi:i<8): ∃r,l[n]?=some r/\r[i]?=some (tb l n i)/\l.getD n []=r:=by
 have h1:=zdi (l:=l) (i:=n) (by rw[h.len];omega)
 have h2:=h.row _ (zee h1);have h3:=zdi (l:=l[n]'(by rw[h.len];omega)) (i:=i) (by omega)
 have h4:l.getD n []=l[n]'(by rw[h.len];omega):=by rw[zdt,h1];rfl
 refine⟨_,h1,?_,h4⟩;rw[h3];unfold tb;rw[h4,zdt,h3];rfl
theorem AI {l:List (List Int)}(h:AH l)(n i:Nat)(x:Int)(hn:n<32):AH (Ow l n i x):=by
 refine⟨by unfold Ow;rw[zdQ];exact h.len,λr hr=>?_⟩
 rcases zep hr with hr|rfl
 ·exact h.row r hr
 ·obtain⟨r,h1,_,h3⟩:=vJ h hn (show 0<8 by omega)
  rw[zdQ,h3];exact h.row r (zee h1)
theorem yb {l:List (List Int)}(h:AH l){n i:Nat}(hn:n<32)(hi:i<8)(x:Int)(m j:Nat):tb (Ow l n i x) m j=if m=n/\j=i then x else tb l m j:=by
 obtain⟨r,h1,h2,h3⟩:=vJ h hn hi;have hl:=(List.getElem?_eq_some_iff.1 h1).1;have hj:=(List.getElem?_eq_some_iff.1 h2).1;unfold tb Ow;simp only[zdt,h1,zex,zeJ];by_cases hm:n=m
 ·subst hm
  rw[if_pos rfl,if_pos hl,h1];simp only[zex,zeJ,true_and];by_cases e:i=j
  ·subst e;simp[hj]
  ·rw[if_neg e,if_neg (λq=>e q.symm)]
 ·rw[if_neg hm,if_neg (λq=>hm q.1.symm)]
theorem CV {i:Nat}(h:i<8):0<=(i:Int)/\(i:Int)<(8:Nat):=by omega
abbrev IP (op ps:List (List Int)):((List (List Int))×(List (List Int))×Unit)×Unit:=((op,ps,()),())
section
variable {op ps:List (List Int)}{n i:Nat}
theorem rN (hn:n<32)(hi:i<8):jo WX (((n:Int),(i:Int),()),())=some ((true,()),()):=by
 simp only[jo,↓xo,ot (show(n:Int)>=0 by omega),ot (show(n:Int)<32 by omega),ot (show(i:Int)>=0 by omega),ot (show(i:Int)<8 by omega),zde]
theorem BC (h:AH op)(hn:n<32)(hi:i<8):eP WX (((),(n:Int),(i:Int),()),IP op ps)=some ((tb op n i,()),IP op ps):=by
 obtain⟨r,h1,h2,_⟩:=vJ h hn hi;simp only[eP,rN hn hi,zdc,zdg,zdd,↓xo,ot (qK hn),ot (CV hi),zde,zdf,h1,h2]
theorem ZS (h:AH ps)(hn:n<32)(hi:i<8):gl WX (((),(n:Int),(i:Int),()),IP op ps)=some ((tb ps n i,()),IP op ps):=by
 obtain⟨r,h1,h2,_⟩:=vJ h hn hi;simp only[gl,rN hn hi,zdc,zdg,zdd,↓xo,ot (qK hn),ot (CV hi),zde,zdf,h1,h2]
def Wg (x lo hi:Int):Bool:=decide (lo<=x/\x<=hi)
def KU (l:List (List Int))(n i:Nat)(x lo hi:Int):List (List Int):=if Wg x lo hi=true then Ow l n i x else l
theorem EW (h:AH op)(hn:n<32)(hi:i<8){q:Int}(hq: -1048576<=q/\q<=1048576)(hb:0<=tb op n i/\tb op n i<=1099511627776):
  eS WX (((),(n:Int),(i:Int),q,()),IP op ps)=some ((Wg (tb op n i+q) 0 1099511627776,()),IP (KU op n i (tb op n i+q) 0 1099511627776) ps):=by
 obtain⟨r,h1,h2,h3⟩:=vJ h hn hi;have e:i64.wrap (tb op n i+q)=tb op n i+q:=nQ (by omega) (by omega)
 unfold KU Wg Ow;by_cases a:tb op n i+q<0
 ·rw[decide_eq_false (by omega)]
  simp only[eS,rN hn hi,zdc,↓xo,xw,ot hq.1,ot (show q>= -1048576 from hq.1),ot hq.2,ot (qK hn),ot (CV hi),zde,zdf,mz,h1,h2,e,ot a,zdk,if_false]
 ·by_cases b:tb op n i+q>1099511627776
  ·rw[decide_eq_false (by omega)]
   simp only[eS,rN hn hi,zdc,↓xo,xw,ot (show q>= -1048576 from hq.1),ot hq.2,ot (qK hn),ot (CV hi),zde,zdf,mz,h1,h2,e,bc a,ot b,zdd,zdk,if_false]
  ·rw[decide_eq_true (by omega)]
   simp only[eS,rN hn hi,zdc,↓xo,xw,ot (show q>= -1048576 from hq.1),ot hq.2,ot (qK hn),ot (CV hi),zde,zdf,mz,h1,h2,e,bc a,bc b,zdd,if_true,h3]
def Fu (side q:Int):Int:=if side=2 then-q else q
theorem G6 (h:AH ps)(hn:n<32)(hi:i<8){q s:Int}(hs:s=1\/s=2)(hq:1<=q/\q<=1048576)(hb: -1099511627776<=tb ps n i/\tb ps n i<=1099511627776):
  ft WX (((),(n:Int),(i:Int),s,q,()),IP op ps)=some ((Wg (tb ps n i+Fu s q) (-1099511627776) 1099511627776,()),IP op (KU ps n i (tb ps n i+Fu s q) (-1099511627776) 1099511627776)):=by
 obtain⟨r,h1,h2,h3⟩:=vJ h hn hi;have Xo: ¬(2:Int)=1:=by omega
 have No: ¬(1:Int)=2:=by omega
 have e0:i64.wrap (0-q)= -q:=by rw[nQ (by omega) (by omega)];omega
 have hsg: -1048576<=Fu s q/\Fu s q<=1048576:=by unfold Fu;split<;>omega
 have e:i64.wrap (tb ps n i+Fu s q)=tb ps n i+Fu s q:=nQ (by omega) (by omega)
 have mv:iZ WX (((n,i,()),Fu s q,(-1099511627776),1099511627776,()),IP op ps)=some ((Wg (tb ps n i+Fu s q) (-1099511627776) 1099511627776,()),IP op (KU ps n i (tb ps n i+Fu s q) (-1099511627776) 1099511627776)):=by
  unfold KU Wg Ow;by_cases a:tb ps n i+Fu s q< -1099511627776
  ·rw[decide_eq_false (by omega)]
   simp only[zdc,↓xo,xw,iZ,h1,h2,e,ot a,zde,zdk,if_false]
  ·by_cases b:tb ps n i+Fu s q>1099511627776
   ·rw[decide_eq_false (by omega)]
    simp only[zdc,↓xo,xw,iZ,h1,h2,e,bc a,ot b,zde,zdd,zdk,if_false]
   ·rw[decide_eq_true (by omega)]
    simp only[zdc,↓xo,xw,iZ,h1,h2,e,bc a,bc b,zdd,if_true,h3]
 rcases hs with rfl|rfl
 ·have es:Fu 1 q=q:=rfl
  rw[es] at mv⊢;simp only[ft,rN hn hi,zdc,zdg,zdd,↓xo,xw,bc (show¬q<1 by omega),bc (show¬q>1048576 by omega),eq_self,iD,bc No,ot (qK hn),ot (CV hi),zde,zdf,mv]
 ·have es:Fu 2 q= -q:=rfl
  rw[es] at mv⊢;simp only[ft,rN hn hi,zdc,zdg,zdh,zdd,↓xo,xw,bc (show¬q<1 by omega),bc (show¬q>1048576 by omega),eq_self,iD,bc Xo,e0,ot (qK hn),ot (CV hi),zde,zdf,mv]
def yc (op:List (List Int))(n:Nat):Int:=jH ((List.range 8).map (tb op n))
theorem Tt (h:AH op)(hn:n<32)(hb: ∀i,i<8->0<=tb op n i/\tb op n i<=1099511627776):iE WX (((),(n:Int),()),IP op ps)=some ((yc op n,()),IP op ps):=by
 have hs: ∀k,k<=8->0<=jH ((List.range k).map (tb op n))/\jH ((List.range k).map (tb op n))<=8796093022208:=λk hk=>by
  have:=wu (l:=(List.range k).map (tb op n)) (m:=1099511627776) (λx hx=>by
   obtain⟨j,hj,rfl⟩:=List.mem_map.1 hx;exact hb j (by have:=List.mem_range.1 hj;omega))
  rw[zen,List.length_range] at this;omega
 have hl:=IK (b:=eu WX) (λk=>(((),(n:Int),jH ((List.range k).map (tb op n)),(k:Int),()),IP op ps)) ((yc op n,()),IP op ps) 8 (λk hk=>by
  have e1:=lx hk (by omega)
  have b1:=hs k (by omega)
  have b2:=hs (k+1) (by omega)
  have e3:jH ((List.range (k+1)).map (tb op n))=jH ((List.range k).map (tb op n))+tb op n k:=by
   rw[List.range_succ,zeV,nf];simp[jH]
  have e2:i64.wrap (jH ((List.range k).map (tb op n))+tb op n k)=jH ((List.range (k+1)).map (tb op n)):=by
   rw[e3] at b2⊢;exact nQ (by omega) (by omega)
  simp only[eu,↓xo,xw,ot (show(k:Int)<8 by omega),zde,BC h hn hk,zdc,e1,e2])
  (by simp only[eu,↓xo,bc (show¬((8:Nat):Int)<8 by omega),zdd];rfl) 0 (by omega)
 change ag (eu WX) (((),(n:Int),0,0,()),IP op ps)=_ at hl;simp only[iE,↓xl,hl,zdc]
theorem Tu {o:ek}(h:GW o):kV WX ((o,()),())=some ((Od.aY o*Od.eX o,0,()),()):=by
 have hq:=h.eX;have hp:0<=Od.aY o/\Od.aY o<=1048576:=by have:=h.aY;omega
 have b0:0<=Od.aY o*Od.eX o:=Int.mul_nonneg hp.1 (by omega)
 have b1:Od.aY o*Od.eX o<=1048576*1048576:=Int.mul_le_mul hp.2 hq.2 (by omega) (by omega)
 have e1:i64.wrap (Od.aY o*Od.eX o)=Od.aY o*Od.eX o:=nQ (by omega) (by omega)
 have d0:1048576<=Int.tdiv 9223372036854775807 (Od.eX o):=by
  rw[Int.tdiv_eq_ediv_of_nonneg (by omega)]
  exact(Int.le_ediv_iff_mul_le (by omega)).2 (by omega)
 have d1:Int.tdiv 9223372036854775807 (Od.eX o)<=9223372036854775807:=Int.tdiv_le_self _ (by omega)
 have e2:i64.wrap (Int.tdiv 9223372036854775807 (Od.eX o))=Int.tdiv 9223372036854775807 (Od.eX o):=nQ (by omega) (by omega)
 have key: ∀p q:Int,p=Od.aY o->q=Od.eX o->lB WX ((p,q,()),())=some ((p*q,0,()),()):=by
  intro p q xW uo;subst xW uo;simp only[lB,↓xo,xw,bc (show¬Od.aY o<0 by omega),bc (show¬Od.eX o<0 by omega),ot (show Od.eX o>0 by omega),bc (show¬Od.eX o=0 by omega),e2,bc (show¬Od.aY o>Int.tdiv 9223372036854775807 (Od.eX o) by omega),e1,zde,zdd]
 simp only[kV,key _ _ rfl rfl,zdc]
structure BD (op ps:List (List Int))(l:vL)(o:ek)(i:Nat):Prop where
 ord:GW o
 eX:Od.eX o<=l.1
 value:Od.aY o*Od.eX o<=l.2.1
 opn:yc op o.1.toNat+Od.eX o<=l.2.2.1
 buy:Od.side o=1->tb ps o.1.toNat i+(tb op o.1.toNat i+Od.eX o)<=l.2.2.2.1
 zc9:Od.side o=2->tb op o.1.toNat i+Od.eX o-tb ps o.1.toNat i<=l.2.2.2.1
theorem Kw (h:AH op)(h':AH ps)(hi:i<8)(l:vL)(o:ek)(hb: ∀n i,n<32->i<8->0<=tb op n i/\tb op n i<=1099511627776)(hp: ∀n i,n<32->i<8-> -1099511627776<=tb ps n i/\tb ps n i<=1099511627776):
  ∃e,gD WX (((),l,o,(i:Int),()),IP op ps)=some ((e,()),IP op ps)/\(e=0->BD op ps l o i):=by
 have hR:=AA o;have i1: ¬(i:Int)<0:=by omega
 have i2: ¬(i:Int)>=8:=by omega
 have ye: ¬(1:Int)=0:=by omega
 cases hr:nZ o with
 |false=>
  rw[hr] at hR;exact⟨1,by simp only[gD,hR,zdc,zdd,↓xo,bc ye,zdh,zde],λq=>by omega⟩
 |true=>
  rw[hr] at hR;have ho:=qC hr;have hv:=Tu ho;have ht:=ho.qn;have hq:=ho.eX;obtain⟨n,hn⟩:=ze4 ht.1;have MO:n<32:=by omega
  have ha:=Tt (ps:=ps) h MO (λi hi=>hb n i MO hi);have hpo:=ZS (op:=op) h' MO hi;have uY:=BC (ps:=ps) h MO hi;have b1:=hb n i MO hi;have b2:=hp n i MO hi;have bs:0<=yc op n/\yc op n<=8796093022208:=by
   have:=wu (l:=(List.range 8).map (tb op n)) (m:=1099511627776) (λx hx=>by
    obtain⟨j,hj,rfl⟩:=List.mem_map.1 hx;exact hb n j MO (List.mem_range.1 hj))
   rw[zen,List.length_range] at this;unfold yc;omega
  have q0:o.2.2.2.2.2.2.1=Od.eX o:=rfl;have s0:o.2.2.2.1=Od.side o:=rfl;have w1:i64.wrap (yc op n+Od.eX o)=yc op n+Od.eX o:=nQ (by omega) (by omega)
  have w2:i64.wrap (tb op n i+Od.eX o)=tb op n i+Od.eX o:=nQ (by omega) (by omega)
  have w3:i64.wrap (tb ps n i+(tb op n i+Od.eX o))=tb ps n i+(tb op n i+Od.eX o):=nQ (by omega) (by omega)
  have w4:i64.wrap (tb op n i+Od.eX o-tb ps n i)=tb op n i+Od.eX o-tb ps n i:=nQ (by omega) (by omega)
  have Xo: ¬(2:Int)=1:=by omega
  have No: ¬(1:Int)=2:=by omega
  have e8:(8:Int)=0->BD op ps l o i:=λq=>by omega
  by_cases c1:Od.eX o>l.1
  ·exact⟨8,by simp only[gD,hR,hv,zdc,zde,↓xo,eq_self,iD,zdg,zdd,bc i1,bc i2,q0,ot c1],e8⟩
  by_cases c2:Od.aY o*Od.eX o>l.2.1
  ·exact⟨8,by simp only[gD,hR,hv,zdc,zde,↓xo,eq_self,iD,zdg,zdd,bc i1,bc i2,q0,bc c1,ot c2],e8⟩
  by_cases c3:yc op n+Od.eX o>l.2.2.1
  ·exact⟨8,by simp only[gD,hR,hv,zdc,zde,↓xo,xw,eq_self,iD,zdg,zdd,bc i1,bc i2,q0,bc c1,bc c2,hn,ha,w1,ot c3],e8⟩
  rcases ho.side with hs|hs
  ·by_cases c4:tb ps n i+(tb op n i+Od.eX o)>l.2.2.2.1
   ·exact⟨8,by simp only[gD,hR,hv,zdc,zde,↓xo,xw,eq_self,iD,zdg,zdd,bc i1,bc i2,q0,bc c1,bc c2,hn,ha,w1,bc c3,hpo,uY,s0,hs,w2,w3,ot c4],e8⟩
   ·refine⟨0,by simp only[gD,hR,hv,zdc,zde,↓xo,xw,eq_self,iD,zdg,zdd,bc i1,bc i2,q0,bc c1,bc c2,hn,ha,w1,bc c3,hpo,uY,s0,hs,w2,w3,bc c4,bc No],λ_=>⟨ho,by omega,by omega,?_,λ_=>?_,λq=>by omega⟩⟩
    ·rw[hn];exact(by omega:yc op n+Od.eX o<=l.2.2.1)
    ·rw[hn];exact(by omega:tb ps n i+(tb op n i+Od.eX o)<=l.2.2.2.1)
  ·by_cases c4:tb op n i+Od.eX o-tb ps n i>l.2.2.2.1
   ·exact⟨8,by simp only[gD,hR,hv,zdc,zde,↓xo,xw,eq_self,iD,zdg,zdd,bc i1,bc i2,q0,bc c1,bc c2,hn,ha,w1,bc c3,hpo,uY,s0,hs,w2,w4,ot c4,bc Xo],e8⟩
   ·refine⟨0,by simp only[gD,hR,hv,zdc,zde,↓xo,xw,eq_self,iD,zdg,zdd,bc i1,bc i2,q0,bc c1,bc c2,hn,ha,w1,bc c3,hpo,uY,s0,hs,w2,w4,bc c4,bc Xo],λ_=>⟨ho,by omega,by omega,?_,λq=>by omega,λ_=>?_⟩⟩
    ·rw[hn];exact(by omega:yc op n+Od.eX o<=l.2.2.1)
    ·rw[hn];exact(by omega:tb op n i+Od.eX o-tb ps n i<=l.2.2.2.1)
end
theorem nB {L R S:Type}{b:L->Option (L⊕R)}(n:Nat)(mk:Nat->S->L)(fin:S->R)(I:Nat->S->Prop)(hs: ∀k s,k<n->I k s->∃s',b (mk k s)=some (.inl (mk (k+1) s'))/\I (k+1) s')(he: ∀s,I n s->b (mk n s)=some (.inr (fin s))): ∀s,I 0 s->∃s',ag b (mk 0 s)=some (fin s')/\I n s':=by
 have key: ∀m k s,k+m=n->I k s->∃s',ag b (mk k s)=some (fin s')/\I n s':=by
  intro m;induction m with
  |zero=>
   intro k s hk hi;obtain rfl:k=n:=by omega
   exact⟨s,by rw[aq,he s hi],hi⟩
  |succ m ih=>
   intro k s hk hi;obtain⟨s',h1,h2⟩:=hs k s (by omega) hi
   obtain⟨s'',h3,h4⟩:=ih (k+1) s' (by omega) h2
   exact⟨s'',by rw[aq,h1];exact h3,h4⟩
 exact λs hi=>key n 0 s (by omega) hi
theorem Tv {i n:Nat}(h:i<n)(hn:n<=1000000000000):IntKind.wrap .i64 ((i:Int)+1)=((i+1:Nat):Int):=by rw[nQ (by omega) (by omega)];omega
def zbI (v:V)(i:Nat)(m:MS):Prop:= ∃bs ss st,v.M[i]?=some (Cu m.2.2.2.1 m.2.2.2.2 bs ss m.2.2.1 st)/\Bk bs ss st m.1 m.2.1/\wZ m.1 m.2.1 m.2.2.1/\ya m
structure IQ (v:V)(μ:Nat->MS):Prop where
 mp: ∀i,i<8->v.mp[i]?=some (i+1)
 at_: ∀i,i<8->zbI v i (μ i)
structure KV (op:List (List Int)):Prop where
 wz:AH op
 Cz: ∀n i,n<32->i<8->0<=tb op n i/\tb op n i<=1099511627776
structure Qn (ps:List (List Int)):Prop where
 wz:AH ps
 Cz: ∀n i,n<32->i<8-> -1099511627776<=tb ps n i/\tb ps n i<=1099511627776
section
variable {v:V}{μ:Nat->MS}{i n:Nat}
theorem Kx (hm:IQ v μ)(hi:i<8)(hn:n<32)(ho:KV v.op): ∃mQ,ag (di WX) (((),(i:Int),(n:Int),(n:Int),()),v.s)=some (((),(i:Int),(n:Int),()),{v with op:=mQ}.s)/\KV mQ/\∀m j,tb mQ m j=if m=n/\j=i then wM n (μ i) else tb v.op m j:=by
 obtain⟨bs,ss,st,hM,hB,hI,hH⟩:=hm.at_ i hi;have hO:=Wf (last:=(μ i).2.2.2.1) (no:=(μ i).2.2.2.2) hB hI (n:Int);have ob:=Kv (last:=(μ i).2.2.2.1) (no:=(μ i).2.2.2.2) hI (n:Int);have hp:=hm.mp i hi;generalize hX:wM (n:Int) ((μ i).1,(μ i).2.1,(μ i).2.2.1,(μ i).2.2.2.1,(μ i).2.2.2.2)=X at hO ob;have key:=rq (b:=di WX) (λk l=> ∃mQ,l=(((),(i:Int),(n:Int),(n:Int),()),{v with op:=mQ}.s)/\KV mQ/\(∀m j,¬(m=n/\j=i)->tb mQ m j=tb v.op m j)/\k=(X-tb mQ n i).natAbs)
  (λr=> ∃mQ,r=(((),(i:Int),(n:Int),()),{v with op:=mQ}.s)/\KV mQ/\∀m j,tb mQ m j=if m=n/\j=i then X else tb v.op m j) (λk l hl=>by
   obtain⟨mQ,rfl,h1,h2,h3⟩:=hl;have b1:=h1.Cz n i hn hi;have hA:=BC (ps:=v.ps) h1.wz hn hi;have e1:i64.wrap (X-tb mQ n i)=X-tb mQ n i:=nQ (by omega) (by omega)
   by_cases h0:X-tb mQ n i=0
   ·refine .inr ⟨_,?_,mQ,rfl,h1,λm j=>?_⟩
    ·simp only[di,V.s,↓xo,xw,ot (CV hi),zde,zdf,hp,zdc,al,hM,hO,hA,e1,ot h0,aI hM]
    ·split
     ·rename_i e;rw[e.1,e.2];omega
     ·rename_i e;exact h2 m j e
   ·have hq: -1048576<=max (-1048576) (min (X-tb mQ n i) 1048576)/\max (-1048576) (min (X-tb mQ n i) 1048576)<=1048576:=by omega
    generalize hQ:max (-1048576) (min (X-tb mQ n i) 1048576)=q at hq;have hS:=EW (ps:=v.ps) h1.wz hn hi hq b1;have hv:Wg (tb mQ n i+q) 0 1099511627776=true:=decide_eq_true (by omega)
    rw[hv] at hS;unfold KU at hS;rw[if_pos hv] at hS;refine .inl ⟨_,?_,(X-(tb mQ n i+q)).natAbs,by omega,Ow mQ n i (tb mQ n i+q),rfl,⟨AI h1.wz n i _ hn,λm j ZT hj=>?_⟩,λm j e=>?_,?_⟩
    ·simp only[di,V.s,↓xo,xw,uS,Mo,ot (CV hi),zde,zdf,hp,zdc,al,hM,hO,hA,e1,bc h0,zdd,aI hM,hQ,hS,zdg]
    ·rw[yb h1.wz hn hi]
     split
     ·omega
     ·exact h1.Cz m j ZT hj
    ·rw[yb h1.wz hn hi,if_neg e];exact h2 m j e
    ·rw[yb h1.wz hn hi,if_pos ⟨rfl,rfl⟩])
 obtain⟨r,h1,mQ,rfl,h2,h3⟩:=key _ _ ⟨v.op,rfl,ho,λ_ _ _=>rfl,rfl⟩;exact⟨mQ,h1,h2,h3⟩
theorem Ky (hm:IQ v μ)(hi:i<8)(ho:KV v.op): ∃mQ,fU WX (((),(i:Int),()),v.s)=some ((),{v with op:=mQ}.s)/\KV mQ/\∀m j,m<32->tb mQ m j=if j=i then wM m (μ i) else tb v.op m j:=by
 obtain⟨mQ,h1,h2,h3⟩:=nB (b:=dj WX) 32 (λk (mQ:List (List Int))=>(((),(i:Int),(k:Int),()),{v with op:=mQ}.s)) (λmQ=>((),{v with op:=mQ}.s)) (λk mQ=>KV mQ/\∀m j,tb mQ m j=if m<k/\j=i then wM m (μ i) else tb v.op m j)
  (λk op1 hk hI=>by
   have ZT:IQ {v with op:=op1} μ:=⟨hm.mp,hm.at_⟩;obtain⟨Tw,h1,h2,h3⟩:=Kx ZT hi hk hI.1;have e1:=lx hk (by omega)
   refine⟨Tw,by simp only[dj,↓xo,xw,↓xl,ot (show(k:Int)<32 by omega),zde,h1,zdc,e1],h2,λm j=>?_⟩
   rw[h3 m j];by_cases hc:m=k/\j=i
   ·rw[if_pos hc,if_pos (by omega),hc.1]
   ·rw[if_neg hc]
    show tb op1 m j=_
    rw[hI.2 m j];by_cases hd:m<k/\j=i
    ·rw[if_pos hd,if_pos (by omega)]
    ·rw[if_neg hd,if_neg (by omega)])
  (λmQ _=>by simp only[dj,↓xo,bc (show¬((32:Nat):Int)<32 by omega),zdd]) v.op ⟨ho,λm j=>by rw[if_neg (by omega)]⟩
 change ag (dj WX) (((),(i:Int),0,()),v.s)=_ at h1;refine⟨mQ,by simp only[fU,↓xl,h1,zdc],h2,λm j ZT=>?_⟩
 rw[h3 m j];by_cases hc:j=i
 ·rw[if_pos ⟨ZT,hc⟩,if_pos hc]
 ·rw[if_neg (λq=>hc q.2),if_neg hc]
def G7 (i:Nat)(ps:List (List Int))(f:ni):List (List Int):=
 let G8:=KU ps f.1.1.toNat i (tb ps f.1.1.toNat i+Fu (Od.side f.1) (Fl.eX f)) (-1099511627776) 1099511627776
 KU G8 f.2.1.1.toNat i (tb G8 f.2.1.1.toNat i+Fu (Od.side f.2.1) (Fl.eX f)) (-1099511627776) 1099511627776
def yd (i:Nat)(ps:List (List Int))(fs:List ni):List (List Int):=fs.foldl (G7 i) ps
def ua (i:Nat)(ps:List (List Int))(l:List lX):List (List Int):=l.foldl (λps x=>yd i ps x.2.1) ps
theorem Xy {ps:List (List Int)}(h:Qn ps){n i:Nat}(hn:n<32)(hi:i<8)(x:Int):Qn (KU ps n i x (-1099511627776) 1099511627776):=by
 unfold KU;split
 ·rename_i hv
  have:=of_decide_eq_true hv;refine⟨AI h.wz n i _ hn,λm j hm hj=>?_⟩;rw[yb h.wz hn hi];split
  ·exact this
  ·exact h.Cz m j hm hj
 ·exact h
theorem EX {α β:Type}(f:β->α->β)(b:β){l:List α}{k:Nat}{x:α}(h:l[k]?=some x):(l.take (k+1)).foldl f b=f ((l.take k).foldl f b) x:=by
 rw[zeK,h,List.foldl_append];rfl
abbrev sX (v:V)(x:lX)(out:List gO):=((v.cfg,v.now,(),v.ph,v.mp,(),v.bp,v.lp,()),(v.tr,()),(v.op,v.ps,()),x,out,v.M,v.L,v.B,())
abbrev sE (v:V)(out:List gO):=((v.cfg,v.now,(),v.ph,v.mp,(),v.bp,v.lp,()),(v.tr,()),(v.op,v.ps,()),out,v.M,v.L,v.B,())
theorem MP (hi:i<8)(hp:Qn v.ps)(x:lX)(hx:sU x)(l:List lX)(a b:Int)(out:List gO)(hl:out.length<=1000000000): ∃wY,ag (dL WX) (((),(i:Int),(),(),l,a,b,x.2.1,(x.2.1.length:Int),0,()),sX v x out)=some (((),(i:Int),(),(),l,a,b,()),sX {v with ps:=yd i v.ps x.2.1} x wY)/\Qn (yd i v.ps x.2.1)/\wY.length=out.length+x.2.1.length:=by
 have hlen:=hx.len;obtain⟨⟨XK,wY⟩,h1,h2,h3,h4⟩:=nB (b:=dL WX) x.2.1.length (λk (s:List (List Int)×List gO)=>(((),(i:Int),(),(),l,a,b,x.2.1,(x.2.1.length:Int),(k:Int),()),sX {v with ps:=s.1} x s.2)) (λs=>(((),(i:Int),(),(),l,a,b,()),sX {v with ps:=s.1} x s.2))
  (λk s=>s.1=yd i v.ps (x.2.1.take k)/\Qn s.1/\s.2.length=out.length+k)
  (λk s hk hI=>by
   obtain⟨G8,IS⟩:=s;obtain⟨i1,i2,i3⟩:=hI;simp only at i1 i2 i3;have BP:=zdi hk;obtain⟨f1,f2,f3,f4⟩:=hx.AE _ (zeq hk);have f5:Fl.eX x.2.1[k]<=1048576:=by
    have s1:=hx.sum;have hd:x.2.1=x.2.1.take k++ [x.2.1[k]]++x.2.1.drop (k+1):=by simp
    have s2:=s1.2;rw[hd,tZ,tZ] at s2;have g1:=wx (l:=x.2.1.take k) λf hf=>(hx.AE f (zef hf)).2.2.2;have g2:=wx (l:=x.2.1.drop (k+1)) λf hf=>(hx.AE f (zeH hf)).2.2.2;have g3:ll [x.2.1[k]]=Fl.eX x.2.1[k]:=by simp[ll,jH]
    omega
   have e1:=Tv hk (by omega)
   have ht:=EX (G7 i) v.ps BP;generalize x.2.1[k]=f at*;obtain⟨n1,OX⟩:=ze4 f1.1;obtain⟨n2,I1⟩:=ze4 f2.1;have t1:=G6 (op:=v.op) i2.wz (n:=n1) (by omega) hi (s:=Od.side f.1) (by omega) ⟨f4,f5⟩ (i2.Cz n1 i (by omega) hi)
   have i4:=Xy i2 (n:=n1) (by omega) hi (tb G8 n1 i+Fu (Od.side f.1) (Fl.eX f))
   have t2:=G6 (op:=v.op) i4.wz (n:=n2) (by omega) hi (s:=Od.side f.2.1) (by omega) ⟨f4,f5⟩ (i4.Cz n2 i (by omega) hi)
   have i5:=Xy i4 (n:=n2) (by omega) hi (tb (KU G8 n1 i (tb G8 n1 i+Fu (Od.side f.1) (Fl.eX f)) (-1099511627776) 1099511627776) n2 i+Fu (Od.side f.2.1) (Fl.eX f))
   have hf:G7 i G8 f=KU (KU G8 n1 i (tb G8 n1 i+Fu (Od.side f.1) (Fl.eX f)) (-1099511627776) 1099511627776) n2 i (tb (KU G8 n1 i (tb G8 n1 i+Fu (Od.side f.1) (Fl.eX f)) (-1099511627776) 1099511627776) n2 i+Fu (Od.side f.2.1) (Fl.eX f)) (-1099511627776) 1099511627776:=by
    unfold G7;rw[OX,I1];rfl
   rw[<-hf] at t2 i5;refine⟨(G7 i G8 f,IS++ [(1,(i:Int),f,(0,0,0,0,0,0,0,0,0,()),())]),?_,?_,i5,by rw[zdm,i3];simp only[zdn,zdo];omega⟩
   ·have a1:f.1.1=(n1:Int):=OX
    have a2:f.2.1.1=(n2:Int):=I1;have a3:f.1.2.2.2.1=Od.side f.1:=rfl;have a4:f.2.1.2.2.2.1=Od.side f.2.1:=rfl;have a5:f.2.2.2.1=Fl.eX f:=rfl;simp only[dL,↓xo,xw,ot (show(k:Int)<(x.2.1.length:Int) by omega),ot (show(0:Int)<=(k:Int) by omega),zde,zdf,BP,zdc,a1,a2,a3,a4,a5,t1,t2,ot (show(((IS.length+([(1,(i:Int),f,(0,0,0,0,0,0,0,0,0,()),())]:List gO).length:Nat):Int))*((256:Nat):Int)<=((room:Nat):Int) by unfold room;simp only[zdn,zdo];omega),e1]
   ·show G7 i G8 f=_
    rw[i1];exact ht.symm)
  (λs _=>by simp only[dL,↓xo,bc (show¬(x.2.1.length:Int)<(x.2.1.length:Int) by omega),zdd]) (v.ps,out) ⟨rfl,hp,rfl⟩
 simp only at h1 h2 h3 h4;rw[zeu] at h2;subst h2;exact⟨wY,h1,h3,h4⟩
end
structure SI (v:V)(μ:Nat->MS):Prop where
 qL:IQ v μ
 op:KV v.op
 MQ: ∀n i,n<32->i<8->tb v.op n i=wM n (μ i)
 ps:Qn v.ps
section
variable {v:V}{μ:Nat->MS}{i n:Nat}
theorem Qo (hi:i<8)(hp:Qn v.ps)(l:List lX)(hl:l.length<=70)(hx: ∀x∈l,sU x): ∃wY,ag (bw WX) (((),(i:Int),(),l,(l.length:Int),0,()),sE v [])=some (((),(i:Int),wY,()),{v with ps:=ua i v.ps l}.s)/\Qn (ua i v.ps l)/\wY.length<=80000000:=by
 obtain⟨⟨XK,wY⟩,h1,h2,h3,h4⟩:=nB (b:=bw WX) l.length (λk (s:List (List Int)×List gO)=>(((),(i:Int),(),l,(l.length:Int),(k:Int),()),sE {v with ps:=s.1} s.2)) (λs=>(((),(i:Int),s.2,()),{v with ps:=s.1}.s))
  (λk s=>s.1=ua i v.ps (l.take k)/\Qn s.1/\s.2.length<=k*1048577)
  (λk s hk hI=>by
   obtain⟨G8,IS⟩:=s;obtain⟨i1,i2,i3⟩:=hI;simp only at i1 i2 i3;have BP:=zdi hk;have hc:=hx _ (zeq hk);have e1:=lx hk (by omega)
   have ht:=EX (λps (x:lX)=>yd i ps x.2.1) v.ps BP;generalize l[k]=x at*;obtain⟨IT,f1,f2,f3⟩:=MP (v:={v with ps:=G8}) hi i2 x hc l (l.length:Int) (k:Int) IS (by omega)
   have hl2:=hc.len;have hcm:yd i G8 x.2.1=ua i v.ps (l.take (k+1)):=by rw[i1];exact ht.symm
   have hr: ∀e:gO,(((IT.length+([e]:List gO).length:Nat):Int))*((256:Nat):Int)<=((room:Nat):Int):=λe=>by
    unfold room;simp only[zdn,zdo];omega
   have fin: ∀Wh:List gO,Wh.length<=IT.length+1->bw WX (((),(i:Int),(),l,(l.length:Int),(k:Int),()),sE {v with ps:=G8} IS)=some (.inl (((),(i:Int),(),l,(l.length:Int),((k+1:Nat):Int),()),sE {v with ps:=yd i G8 x.2.1} Wh))->∃s':List (List Int)×List gO,bw WX (((),(i:Int),(),l,(l.length:Int),(k:Int),()),sE {v with ps:=G8} IS)=some (.inl (((),(i:Int),(),l,(l.length:Int),((k+1:Nat):Int),()),sE {v with ps:=s'.1} s'.2))/\s'.1=ua i v.ps (l.take (k+1))/\Qn s'.1/\s'.2.length<=(k+1)*1048577:=λWh ho he=>
     ⟨(yd i G8 x.2.1,Wh),he,hcm,f2,by simp only;omega⟩
   by_cases hq:x.2.2.1>0
   ·cases Ov:x.2.2.2.1 with
    |true=>
     refine fin (IT++ [(3,(i:Int),((0,0,0,0,0,0,0,0,0,()),(0,0,0,0,0,0,0,0,0,()),0,0,0,()),(x.1.1,x.1.2.1,x.1.2.2.1,x.1.2.2.2.1,x.1.2.2.2.2.1,x.1.2.2.2.2.2.1,x.2.2.1,x.1.2.2.2.2.2.2.2),())]) (by rw[zdm];exact zdz _) ?_
     simp only[bw,↓xo,xw,↓xl,ot (show(k:Int)<(l.length:Int) by omega),ot (show(0:Int)<=(k:Int) by omega),zde,zdf,BP,zdc,f1,Ov,ot hq,ot (hr _),e1]
    |false=>
     cases KO:x.2.2.2.2.1 with
     |true=>
      refine fin (IT++ [(3,(i:Int),((0,0,0,0,0,0,0,0,0,()),(0,0,0,0,0,0,0,0,0,()),0,0,0,()),(x.1.1,x.1.2.1,x.1.2.2.1,x.1.2.2.2.1,x.1.2.2.2.2.1,x.1.2.2.2.2.2.1,x.2.2.1,x.1.2.2.2.2.2.2.2),())]) (by rw[zdm];exact zdz _) ?_
      simp only[bw,↓xo,xw,↓xl,ot (show(k:Int)<(l.length:Int) by omega),ot (show(0:Int)<=(k:Int) by omega),zde,zdd,zdf,BP,zdc,f1,Ov,KO,ot hq,ot (hr _),e1]
     |false=>
      refine fin (IT++ [(2,(i:Int),((0,0,0,0,0,0,0,0,0,()),(0,0,0,0,0,0,0,0,0,()),0,0,0,()),(x.1.1,x.1.2.1,x.1.2.2.1,x.1.2.2.2.1,x.1.2.2.2.2.1,x.1.2.2.2.2.2.1,x.2.2.1,x.1.2.2.2.2.2.2.2),())]) (by rw[zdm];exact zdz _) ?_
      simp only[bw,↓xo,xw,↓xl,ot (show(k:Int)<(l.length:Int) by omega),ot (show(0:Int)<=(k:Int) by omega),zde,zdd,zdf,BP,zdc,f1,Ov,KO,ot hq,ot (hr _),e1]
   ·refine fin IT (by omega) ?_
    cases Ov:x.2.2.2.1 with
    |true=>simp only[bw,↓xo,xw,↓xl,ot (show(k:Int)<(l.length:Int) by omega),ot (show(0:Int)<=(k:Int) by omega),zde,zdd,zdf,BP,zdc,f1,Ov,bc hq,e1]
    |false=>
     cases KO:x.2.2.2.2.1 with
     |true=>simp only[bw,↓xo,xw,↓xl,ot (show(k:Int)<(l.length:Int) by omega),ot (show(0:Int)<=(k:Int) by omega),zde,zdd,zdf,BP,zdc,f1,Ov,KO,bc hq,e1]
     |false=>simp only[bw,↓xo,xw,↓xl,ot (show(k:Int)<(l.length:Int) by omega),ot (show(0:Int)<=(k:Int) by omega),zde,zdd,zdf,BP,zdc,f1,Ov,KO,bc hq,e1])
  (λs _=>by simp only[bw,↓xo,bc (show¬(l.length:Int)<(l.length:Int) by omega),zdd,V.s]) (v.ps,[]) ⟨rfl,hp,zek _⟩
 simp only at h1 h2 h3 h4;rw[zeu] at h2;subst h2;exact⟨wY,h1,h3,by omega⟩
theorem Wi (hm:IQ v μ)(ho:KV v.op)(hp:Qn v.ps)(hi:i<8)(l:List lX)(hl:l.length<=70)(hx: ∀x∈l,sU x): ∃out mQ,eU WX (((),(i:Int),l,()),v.s)=some ((out,()),{v with ps:=ua i v.ps l,op:=mQ}.s)/\Qn (ua i v.ps l)/\KV mQ/\(∀m j,m<32->tb mQ m j=if j=i then wM m (μ i) else tb v.op m j)/\out.length<=80000000:=by
 obtain⟨out,h1,h2,h3⟩:=Qo hi hp l hl hx;obtain⟨mQ,g1,g2,g3⟩:=Ky (v:={v with ps:=ua i v.ps l}) (μ:=μ) ⟨hm.mp,hm.at_⟩ hi ho;refine⟨out,mQ,?_,h2,g2,g3,h3⟩;simp only[eU,V.s,↓xl] at g1 h1⊢;simp only[h1,zdc,g1]
theorem Ox (hm:IQ v μ)(ho:KV v.op)(hi:i<8)(l:List ek)(hl:l.length<=1000): ∃out mQ,gn WX (((),(i:Int),l,()),v.s)=some ((out,()),{v with op:=mQ}.s)/\KV mQ/\(∀m j,m<32->tb mQ m j=if j=i then wM m (μ i) else tb v.op m j)/\out.length=l.length:=by
 obtain⟨out,h1,h2⟩:=nB (b:=dK WX) l.length (λk (s:List gO)=>(((),(i:Int),(),l,(l.length:Int),(k:Int),()),sE v s)) (λs=>(((),(i:Int),s,()),v.s))
  (λk s=>s.length=k)
  (λk s hk hI=>by
   have BP:=zdi hk;have e1:=lx hk (by omega)
   generalize l[k]=x at*;exact⟨s++ [(2,(i:Int),((0,0,0,0,0,0,0,0,0,()),(0,0,0,0,0,0,0,0,0,()),0,0,0,()),x,())],by simp only[dK,↓xo,xw,ot (show(k:Int)<(l.length:Int) by omega),ot (show(0:Int)<=(k:Int) by omega),zde,zdf,BP,zdc,ot (show(((s.length+([(2,(i:Int),((0,0,0,0,0,0,0,0,0,()),(0,0,0,0,0,0,0,0,0,()),0,0,0,()),x,())]:List gO).length:Nat):Int))*((256:Nat):Int)<=((room:Nat):Int) by unfold room;simp only[zdn,zdo];omega),e1],by rw[zdm,hI];rfl⟩)
  (λs _=>by simp only[dK,↓xo,bc (show¬(l.length:Int)<(l.length:Int) by omega),zdd,V.s]) [] rfl
 change ag (dK WX) (((),(i:Int),(),l,(l.length:Int),0,()),sE v [])=_ at h1;obtain⟨mQ,g1,g2,g3⟩:=Ky hm hi ho;refine⟨out,mQ,?_,g2,g3,h2⟩;simp only[gn,V.s,↓xl] at g1 h1⊢;simp only[h1,zdc,g1]
def wA (μ:Nat->MS)(i:Nat)(m:MS):Nat->MS:=λj=>if j=i then m else μ j
theorem Di (hm:IQ v μ)(hi:i<8){m:MS}{bs ss:List Nat}{st:List gF}(hB:Bk bs ss st m.1 m.2.1)(hI:wZ m.1 m.2.1 m.2.2.1)(hH:ya m):IQ {v with M:=v.M.set i (Cu m.2.2.2.1 m.2.2.2.2 bs ss m.2.2.1 st)} (wA μ i m):=by
 refine⟨hm.mp,λj hj=>?_⟩;obtain⟨bs0,ss0,st0,h0,_⟩:=hm.at_ i hi;unfold wA;by_cases e:j=i
 ·subst e
  rw[if_pos rfl];exact⟨bs,ss,st,kL h0,hB,hI,hH⟩
 ·rw[if_neg e]
  obtain⟨bs1,ss1,wG,h1,h2⟩:=hm.at_ j hj;exact⟨bs1,ss1,wG,by show(v.M.set i _)[j]?=_;rw[kH e];exact h1,h2⟩
theorem Qp (h:SI v μ)(hi:i<8)(x:Int)(a:Int)(out:List gO)(hl:out.length<=1000)(ha:(i:Int)=a\/a=8): ∃wY mQ M',bT WX (((),a,x,(),v.mp,(i:Int),()),sE v out)=some (.inl (((),a,x,(),v.mp,((i+1:Nat):Int),()),sE {v with op:=mQ,M:=M'} wY))/\SI {v with op:=mQ,M:=M'} (wA μ i (mM x (μ i)).1)/\wY.length<=out.length+64:=by
 obtain⟨bs,ss,st,hM,hB,hI,hH⟩:=h.qL.at_ i hi;obtain⟨oT,oU,eY,m1,m2,m3,m4,m5,m6⟩:=We (last:=(μ i).2.2.2.1) (no:=(μ i).2.2.2.2) hB hI hH x;change kD WX (((),x,()),_)=some (((mM x (μ i)).2,()),F7 (μ i).2.2.2.1 (μ i).2.2.2.2 oT oU (mM x (μ i)).1.2.2.1 eY) at m1;change (mM x (μ i)).1.2.2.2=((μ i).2.2.2.1,(μ i).2.2.2.2) at m2;change Bk oT oU eY (mM x (μ i)).1.1 (mM x (μ i)).1.2.1 at m3;change wZ (mM x (μ i)).1.1 (mM x (μ i)).1.2.1 (mM x (μ i)).1.2.2.1 at m4;change ya (mM x (μ i)).1 at m5;change (mM x (μ i)).2.length<=64 at m6;have s1:=Di h.qL hi m3 m4 m5;have e2:(mM x (μ i)).1.2.2.2.1=(μ i).2.2.2.1:=by rw[m2]
 have e3:(mM x (μ i)).1.2.2.2.2=(μ i).2.2.2.2:=by rw[m2]
 rw[e2,e3] at s1;obtain⟨IT,mQ,g1,g2,g3,g4⟩:=Ox (v:={v with M:=v.M.set i (Cu (μ i).2.2.2.1 (μ i).2.2.2.2 oT oU (mM x (μ i)).1.2.2.1 eY)}) s1 h.op hi (mM x (μ i)).2 (by omega)
 have hp:=h.qL.mp i hi;have e1:=lx hi (by omega)
 have hr:(((out.length+IT.length:Nat):Int))*((256:Nat):Int)<=((room:Nat):Int):=by unfold room;omega
 refine⟨out++IT,mQ,_,?_,⟨⟨s1.mp,s1.at_⟩,g2,λn j hn hj=>?_,h.ps⟩,by rw[zdm];omega⟩
 ·simp only[V.s] at g1
  by_cases e:(i:Int)=a
  ·simp only[bT,V.s,↓xo,xw,ot (show(i:Int)<8 by omega),ot (CV hi),zde,zdf,hp,zdc,ot e,al,hM,m1,g1,ot hr,e1]
  ·have e8:a=8:=by omega
   simp only[bT,V.s,↓xo,xw,ot (show(i:Int)<8 by omega),ot (CV hi),zde,zdd,zdf,hp,zdc,bc e,ot e8,al,hM,m1,g1,ot hr,e1]
 ·show tb mQ n j=_
  rw[g3 n j hn];unfold wA;by_cases e:j=i
  ·subst e;rw[if_pos rfl]
  ·rw[if_neg e,if_neg e];exact h.MQ n j hn hj
theorem Kz (h:SI v μ)(x a:Int)(ha:0<=a/\a<=8): ∃out mQ M' μ',db WX (((),a,x,()),v.s)=some ((out,()),{v with op:=mQ,M:=M'}.s)/\SI {v with op:=mQ,M:=M'} μ'/\out.length<=512/\(∀i,μ' i=μ i\/μ' i=(mM x (μ i)).1):=by
 obtain⟨⟨mQ,M',out,μ'⟩,h1,h2,h3,h4,_⟩:=nB (b:=bT WX) 8 (λk (s:List (List Int)×List uq×List gO×(Nat->MS))=>(((),a,x,(),v.mp,(k:Int),()),sE {v with op:=s.1,M:=s.2.1} s.2.2.1)) (λs=>((s.2.2.1,()),{v with op:=s.1,M:=s.2.1}.s))
  (λk s=>SI {v with op:=s.1,M:=s.2.1} s.2.2.2/\s.2.2.1.length<=64*k/\(∀i,s.2.2.2 i=μ i\/s.2.2.2 i=(mM x (μ i)).1)/\∀i,k<=i->s.2.2.2 i=μ i)
  (λk s hk hI=>by
   obtain⟨op1,M1,IS,μ1⟩:=s;obtain⟨i1,i2,i3,i4⟩:=hI;simp only at i1 i2 i3 i4;have e1:=lx hk (by omega)
   have hp:=i1.qL.mp k hk;change v.mp[k]?=_ at hp;by_cases e:(k:Int)=a\/a=8
   ·obtain⟨wY,mQ,M',g1,g2,g3⟩:=Qp i1 hk x a IS (by omega) e
    refine⟨(mQ,M',wY,wA μ1 k (mM x (μ1 k)).1),g1,g2,by simp only;omega,λi=>?_,λi hi=>?_⟩
    ·simp only[wA]
     by_cases q:i=k
     ·subst q;rw[if_pos rfl,i4 i (zdz _)];exact .inr rfl
     ·rw[if_neg q];exact i3 i
    ·simp only[wA]
     rw[if_neg (by omega)];exact i4 i (by omega)
   ·refine⟨(op1,M1,IS,μ1),?_,i1,by simp only;omega,i3,λi hi=>i4 i (by omega)⟩
    simp only[bT,V.s,↓xo,xw,ot (show(k:Int)<8 by omega),ot (CV hk),zde,zdd,zdf,hp,zdc,bc (λq=>e (.inl q)),bc (λq=>e (.inr q)),e1])
  (λs _=>by simp only[bT,↓xo,bc (show¬((8:Nat):Int)<8 by omega),zdd,V.s]) (v.op,v.M,[],μ) ⟨h,zek _,λi=> .inl rfl,λi _=>rfl⟩
 refine⟨out,mQ,M',μ',?_,h2,by simp only at h3;omega,h4⟩
 change ag (bT WX) (((),a,x,(),v.mp,0,()),sE v [])=_ at h1;simp only[db,V.s,↓xl] at h1⊢;simp only[h1,zdc]
end
end AM
