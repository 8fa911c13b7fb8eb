/- The law TopDrains, in plain Lean. Conditions: none. -/
import Derived.Test.YtepopigkpnoflaaGreatDrTopDrainsP
set_option linter.unusedVariables false
set_option linter.unusedSimpArgs false
set_option maxRecDepth 100000
namespace AM
open Go Go.Proofs IntKind
def PT:Nat->V->(Nat->MS)->Prop:=λ_ _ _=>True
theorem zbW:PK PT:=⟨λ_ _ _ _=>trivial,λ_ _ _ _ _ _=>trivial,λ_ _ _ _ _=>trivial,λ_=>trivial⟩
abbrev vN (v:V)(seen:List Int):=(((),v.c,(),(),()),(v.cfg,v.now,(),v.ph,v.mp,(),v.bp,v.lp,()),(v.tr,()),(v.op,v.ps,()),v.lg,(v.mt,()),seen,v.M,v.L,v.S,v.F,v.O,v.B,())
theorem GV.now {P}{s:Nat}{v:V}(h:GV P s v):0<=v.now/\v.now<=1099511627776:=by obtain⟨_,_,_,h1,_⟩:=h;exact h1.ss.now
theorem OJ {c:List Int}(h:LV (.deep (.int .i64)) c):J3 c:=λx hx=>ud (h.2 x hx)
theorem zbX {l:List zl}(h:LV (.deep L0) l): ∀q∈l,MvI q:=λq hq=>by
 obtain⟨k,c,d,b,_⟩:=q;obtain⟨a1,a2,a3,_⟩:=h.2 _ hq;obtain⟨x0,x1,x2,x3,x4,y,_⟩:=d;obtain⟨b0,b1,b2,b3,b4,b5,_⟩:=a3;obtain⟨y0,y1,y2,y3,y4,y5,y6,_⟩:=y;obtain⟨c0,c1,c2,c3,c4,c5,c6,_⟩:=b5;exact⟨ud a1,ud a2,⟨ud b0,ud b1,ud b2,ud b3,ud b4,ud c0,ud c1,ud c2,ud c3,ud c4,ud c5,ud c6⟩⟩
theorem ur (c:mS)(i:Int)(ht:c.2.2.2.2.2.2.2.2.2.2.2.2.2.2.1.length=32): ∃fb:List Int,bz WX ((c,i,()),())=some (((2,i,0,gM,(),()),()),(fb,()))/\fb.length<=62:=by
 obtain⟨bs,h1,h2⟩:=WG c ht;obtain⟨fb,h3,h4⟩:=TY (bs:=bs) (by omega)
 exact⟨fb,by simp only[bz,h1,zdM,h3],by omega⟩
def StV (r0:Nat)(Es:List wz)(o:Option aU.R):Prop:= ∃XG I0,o=some (((),()),((r0+1,XG,()),I0,Es,()))/\XG.length=16/\I0.length<=3/\∀s∈I0,Fa s
section
variable {v:V}
theorem M7 (h:CI v){r0:Nat}{Es:List wz}(hE:Es[r0]?=some v.e){nx:List Int}(hx:nx.length=16){q:zl}(hq:MvI q):StV r0 Es (aU WX (((),q,()),((r0+1,nx,()),Es,()))):=by
 obtain⟨K,C,d,bts,⟨⟩⟩:=q;obtain⟨hk,hc,hd⟩:=hq;simp only at hk hc hd;obtain⟨ci,l1,u1,w1⟩:=jC hc (lo:=0) (hi:=5) (by omega) (by omega) (by omega)
 obtain⟨i,rfl⟩:=zfF l1;have hi:i<16:=by omega
 obtain⟨r,l2,u2,w2⟩:=jC hk (lo:=0) (hi:=15) (by omega) (by omega) (by omega)
 by_cases c3:r<=3
 ·obtain⟨nc,n1,n2⟩:=J0 d.2.2.2.1
  obtain⟨t,lt,ut,wt⟩:=jC hd.x1 (lo:=0) (hi:=6) (by omega) (by omega) (by omega)
  have Yz:=It t;have VY:(kk t).length=32:=by simp[kk]
  obtain⟨tag,⟨q1,q2,t1,t2,t3⟩,t4⟩:=Mu VY n2;have e0:(0:Int)<=0/\(0:Int)<=((32:Nat):Int)/\((32:Nat):Int)<=(32:Nat):=by omega
  have WJ:=zdS (l:=nx) (i:=i) (by omega)
  generalize nx[i]'(by omega)=nxi at WJ
  have Hn:=zdS (l:=tag) (i:=0) (by omega)
  generalize tag[0]'(by omega)=tg0 at Hn
  obtain⟨f1,s1,b1⟩:=ur (1,0,t,0,0,0,0,0,0,0,0,0,0,0,gM,()) (i:Int) (by simp)
  by_cases r3:r=3
  ·subst r3
   obtain⟨f2,s2,b2⟩:=ur (2,0,0,0,0,0,0,0,0,0,0,0,0,0,tag.set 0 (WX.py .u8 tg0 1),()) (i:Int) (by simp[t4])
   refine⟨nx.set i 1,[(1,(i:Int),0,nc,[],()),(2,(i:Int),0,gM,f1,()),(2,(i:Int),0,gM,f2,())],?_,by rw[zeq];exact hx,by simp,λs hs=>?_⟩
   ·have z0:(0:Int).toNat=0:=rfl
    have e1:(0:Int)<=0/\(0:Int)<((32:Nat):Int):=by omega
    simp only[aU,w1,w2,zdM,↓xo,eq_self,Int.reduceEq,iF,nk,zdO,zdN,n1,wt,Yz,ot e0,pt VY,t1,pt n2,t2,t3,z0,ot e1,Hn,ot (G5 hi),zdP,WJ,s1,s2]
   ·simp only[zex,List.mem_nil_iff,or_false] at hs
    rcases hs with rfl|rfl|rfl
    ·exact .conn i nc hi n2
    ·exact .bytes i f1 hi b1
    ·exact .bytes i f2 hi b2
  ·obtain⟨f2,s2,b2⟩:=ur (2,0,0,0,0,0,0,0,0,0,0,0,0,0,tag,()) (i:Int) (by simp[t4])
   refine⟨nx.set i 1,[(1,(i:Int),0,nc,[],()),(2,(i:Int),0,gM,f1,()),(2,(i:Int),0,gM,f2,())],?_,by rw[zeq];exact hx,by simp,λs hs=>?_⟩
   ·obtain hr:r=0\/r=1\/r=2:=by omega
    rcases hr with rfl|rfl|rfl
    ·simp only[aU,w1,w2,zdM,↓xo,eq_self,Int.reduceEq,iF,nk,zdO,zdN,n1,wt,Yz,ot e0,pt VY,t1,pt n2,t2,t3,ot (G5 hi),zdP,WJ,s1,s2]
    ·simp only[aU,w1,w2,zdM,↓xo,eq_self,Int.reduceEq,iF,nk,zdO,zdN,n1,wt,Yz,ot e0,pt VY,t1,pt n2,t2,t3,ot (G5 hi),zdP,WJ,s1,s2]
    ·simp only[aU,w1,w2,zdM,↓xo,eq_self,Int.reduceEq,iF,nk,zdO,zdN,n1,wt,Yz,ot e0,pt VY,t1,pt n2,t2,t3,ot (G5 hi),zdP,WJ,s1,s2]
   ·simp only[zex,List.mem_nil_iff,or_false] at hs
    rcases hs with rfl|rfl|rfl
    ·exact .conn i nc hi n2
    ·exact .bytes i f1 hi b1
    ·exact .bytes i f2 hi b2
 have n0: ¬r=0:=by omega
 have n1: ¬r=1:=by omega
 have n2: ¬r=2:=by omega
 have n3: ¬r=3:=by omega
 by_cases r4:r=4
 ·subst r4
  obtain⟨n,ln,un,wn⟩:=jC hd.x3 (lo:=1) (hi:=30) (by omega) (by omega) (by omega)
  refine⟨nx,[(4,0,n,gM,[],())],?_,hx,by simp,λs hs=>?_⟩
  ·simp only[aU,w1,w2,zdM,↓xo,eq_self,Int.reduceEq,iF,nk,zdO,zdN,wn]
  ·rw[List.mem_singleton.1 hs];exact .tick n ⟨ln,un⟩
 by_cases r5:r=5
 ·subst r5
  refine⟨nx,[(3,(i:Int),0,gM,[],())],?_,hx,by simp,λs hs=>?_⟩
  ·simp only[aU,w1,w2,zdM,↓xo,eq_self,Int.reduceEq,iF,nk,zdO,zdN]
  ·rw[List.mem_singleton.1 hs];exact .gone i hi
 by_cases r6:r=6
 ·subst r6
  have em:0<=(0:Int)/\(0:Int)<=min (bts.length:Int) 60/\min (bts.length:Int) 60<=(bts.length:Int):=by omega
  refine⟨nx,[(2,(i:Int),0,gM,bts.take (min (bts.length:Int) 60).toNat,())],?_,hx,by simp,λs hs=>?_⟩
  ·simp only[aU,w1,w2,zdM,↓xo,vf,eq_self,Int.reduceEq,iF,nk,zdO,zdN,ot em]
  ·rw[List.mem_singleton.1 hs];exact .bytes i _ hi (by rw[zeh];omega)
 by_cases r7:r=7
 ·subst r7
  obtain⟨f1,s1,b1⟩:=ur (WX.wr .i64 (7+(WX.sP .i64 d.2.2.2.1 1)),0,0,0,0,0,0,0,0,0,0,0,0,0,gM,()) (i:Int) (by simp)
  refine⟨nx,[(2,(i:Int),0,gM,f1,())],?_,hx,by simp,λs hs=>?_⟩
  ·simp only[aU,w1,w2,zdM,↓xo,eq_self,Int.reduceEq,iF,nk,zdO,zdN,s1]
  ·rw[List.mem_singleton.1 hs];exact .bytes i _ hi b1
 ·obtain⟨c,k1,k2⟩:=TX hd
  have WJ:=zdS (l:=nx) (i:=i) (by omega)
  generalize nx[i]'(by omega)=nxi at WJ
  obtain⟨f1,s1,b1⟩:=ur (c.1,nxi,c.2.2) (i:Int) (by show c.2.2.2.2.2.2.2.2.2.2.2.2.2.2.1.length=32;rw[k2];simp)
  obtain⟨f,o,s,fr,ou,og,mh⟩:=h i hi;have hA:=Sy og;by_cases h3:s.1=3
  ·refine⟨nx.set i (i64.wrap (nxi+1)),[(2,(i:Int),0,gM,f1,())],?_,by rw[zeq];exact hx,by simp,λs hs=>?_⟩
   ·simp only[aU,w1,w2,zdM,↓xo,xw,bg n0,bg n1,bg n2,bg n3,bg r4,bg r5,bg r6,bg r7,zdO,zdN,k1,ot (G5 hi),zdP,WJ,an,hE,hA,aJ hE,ot h3,s1]
   ·rw[List.mem_singleton.1 hs];exact .bytes i _ hi b1
  ·refine⟨nx,[(2,(i:Int),0,gM,f1,())],?_,hx,by simp,λs hs=>?_⟩
   ·simp only[aU,w1,w2,zdM,↓xo,xw,bg n0,bg n1,bg n2,bg n3,bg r4,bg r5,bg r6,bg r7,zdO,zdN,k1,ot (G5 hi),zdP,WJ,an,hE,hA,aJ hE,bg h3,s1]
   ·rw[List.mem_singleton.1 hs];exact .bytes i _ hi b1
end
def tC (n:Int)(b:List Int):Nat:=(max 0 (min n (b.length:Int))).toNat
theorem T4 (n:Int)(b:List Int):tC n b<=b.length:=by unfold tC;omega
theorem OK {b:List Int}(h:b.length<=4096):tC 4096 b=b.length:=by unfold tC;omega
theorem QG (n:Int)(b:List Int)(o:Bool)(h:b.length<=4096):iJ WX (((),n,()),((b,o,()),()))=some (((),()),((b.drop (tC n b),o,()),b.take (tC n b),())):=by
 have hk:max 0 (min n (b.length:Int))=(tC n b:Int):=by unfold tC;omega
 have hl:=T4 n b;simp only[iJ,↓xo,vf,Mo,hk,oT ((0:Int)<=(0:Int)/\(0:Int)<=(tC n b:Int)/\(tC n b:Int)<=(b.length:Int)),zdO,zdP,vQ _ (show(b.take (tC n b)).length<=1000000000000 by rw[zeh];omega),zdM,oT ((0:Int)<=(tC n b:Int)/\(tC n b:Int)<=(b.length:Int)/\(b.length:Int)<=(b.length:Int)),vQ _ (show(b.drop (tC n b)).length<=1000000000000 by rw[zei];omega)]
section
variable {v:V}{i:Nat}
theorem IQ {f o:Nat}{s:wV}{ob:List Int}{ov:Bool}{fr:(List Int)×Bool×Unit}(h:mT v i f o s fr (ob,ov,()))(hl:ob.length<=4096)(n:Int):eF WX (((),(i:Int),n,()),v.e)=some (((),()),vN {v with O:=v.O.set o ((ob.drop (tC n ob),ov,()),())} (ob.take (tC n ob))):=by
 have hi:=h.lt;simp only[eF,fh,V.e,↓xo,oT ((i:Int)>=0),oT ((i:Int)<16),ot (lr hi),zdO,zdM,zdQ,zdN,zdP,h.c,an,h.O,QG n ob ov hl]
theorem Z3 (v:V)(h:v.lg.1.length<=1000000000000):gw WX (((),()),v.e)=some (((),()),vN v v.lg.1):=by
 simp only[gw,iq,V.e,vQ _ h,zdM]
end
theorem KB (a:List Int)(h:a.length<=1000000000000):ah WX ((a,a,()),())=some ((true,()),()):=by
 have key:=Dg (b:=bZ WX) (λj=>((a,a,(j:Int),()),())) (.inr ((),())) a.length (λj hj=>by
   have hx:=zdS hj;generalize a[j]=x at hx;have e1:i64.wrap ((j:Int)+1)=((j+1:Nat):Int):=by rw[nR (by omega) (by omega)];omega
   simp only[bZ,↓xo,xw,oT ((j:Int)<(a.length:Int)),oT ((0:Int)<=(j:Int)),zdO,zdP,hx,zdM,eq_self,iF,zdQ,zdN,e1])
  (by simp only[bZ,↓xo,oF ((a.length:Int)<(a.length:Int)),zdN]) 0 (by omega)
 change ag (bZ WX) ((a,a,0,()),())=_ at key;simp only[ah,↓xo,↓xl,eq_self,iF,zdQ,zdN,key,zdM]
theorem OL {c:List Int}{g:xd}(h1:dg WX ((c,()),())=some ((g,()),()))(hg:Ux c g)(Es:List wz):bN WX ((c,()),(Es,()))=some (.inr (((),()),((Es.length+1,List.replicate 16 (0:Int),()),Es++ [(v0 g).e],()))):=by
 have h3:=MB hg;simp only[bN,h1,h3,zdM,↓xo,eq_self,iF,zdQ,oF (Es.length+1=0),zdN]
theorem o1 {β:Type}(f:Nat->Option β):mH 1 f=f 0:=rfl
theorem o2 {β:Type}(f:Nat->Option β):mH 2 f=f 1:=rfl
theorem o3 {β:Type}(f:Nat->Option β):mH 3 f=f 2:=rfl
abbrev U7:Unit×Unit×Unit×Unit×Unit×Unit×Unit:=((),(),(),(),(),(),())
abbrev KC (p q:Nat×(List Int)×Unit)(A:Nat->List Int)(Es:List wz):=(p,q,U7,A 0,A 1,A 2,A 3,A 4,A 5,U7,A 0,A 1,A 2,A 3,A 4,A 5,Es,())
abbrev M8 (p q:Nat×(List Int)×Unit)(A:Nat->List Int)(Es:List wz):=(p,q,U7,U7,A 0,A 1,A 2,A 3,A 4,A 5,A 0,A 1,A 2,A 3,A 4,A 5,Es,())
theorem M9 {β:Type}{i:Nat}(hi:i<6)(f:Nat->Option β):iX WX (i:Int) f=f i:=by
 have h: ∀m:Nat,aa ((i:Int)=((m:Nat):Int))=decide (i=m):=λm=>by
  rw[ke];exact decide_eq_decide.2 (by omega)
 obtain rfl|rfl|rfl|rfl|rfl|rfl:i=0\/i=1\/i=2\/i=3\/i=4\/i=5:=by omega
 all_goals simp only[iX,↓xo,h,iF];rfl
theorem OM {i:Nat}(hi:i<6)(x:List zl×List Int×Unit×Unit×Unit×Unit×Int×Int×Unit)(p q:Nat×(List Int)×Unit)(A:Nat->List Int)(Es:List wz):cA (x,KC p q A Es) i=A i/\cm (x,KC p q A Es) i=A i:=by
 obtain rfl|rfl|rfl|rfl|rfl|rfl:i=0\/i=1\/i=2\/i=3\/i=4\/i=5:=by omega
 all_goals exact⟨rfl,rfl⟩
def T5 (A:Nat->List Int)(i:Nat)(x:List Int):Nat->List Int:=λm=>bif Nat.beq m i then A i++x else A m
theorem Z4 (i:Nat):Nat.beq i i=true:=Nat.beq_refl i
theorem WK {a b:wz}: [a,b][0]?=some a:=rfl
theorem Z5 {a b:wz}: [a,b][1]?=some b:=rfl
theorem Z6 {a b x:wz}: [a,b].set 0 x=[x,b]:=rfl
theorem zbY {a b x:wz}: [a,b].set 1 x=[a,x]:=rfl
section
variable {v:V}{i:Nat}
theorem T9 {s:Nat}(h:GV PT s v)(o:Nat)(ou:(List Int)×Bool×Unit)(ho:ou.1.length<=4096):GV PT s {v with O:=v.O.set o (ou,())}:=by
 obtain⟨μ,k,m,h1,h2,h3⟩:=h;exact⟨μ,k,m,⟨h1.ss.oP (by rfl),h1.ci.XC o ou ho,h1.mt,h1.lg,trivial,h1.qi.mono (λ_ _ h=>⟨h,rfl⟩) .rfl (by rfl)⟩,h2,h3⟩
theorem z7 {f o:Nat}{s:wV}{ob:List Int}{ov:Bool}{fr:(List Int)×Bool×Unit}(hi:i<6)(h:mT v i f o s fr (ob,ov,()))(hl:ob.length<=4096)(l:List zl)(cu:List Int)(I:Int)(nx ny:List Int)(A:Nat->List Int)(hA:(A i).length<=1000000)(n:Int):
  kP WX ((l,cu,(),(),(),(),I,(i:Int),()),KC (1,nx,()) (2,ny,()) A [v.e,v.e]) i 0 (((),()),vN {v with O:=v.O.set o (([],ov,()),())} ob) (n,())=
   some (.inl ((l,cu,(),(),(),(),I,((i+1:Nat):Int),()),KC (1,nx,()) (2,ny,()) (T5 A i ob) [{v with O:=v.O.set o (([],ov,()),())}.e,{v with O:=v.O.set o (([],ov,()),())}.e])):=by
 have IV:=T4 n ob;have d2:=IQ h hl n;have h2:mT {v with O:=v.O.set o ((ob.drop (tC n ob),ov,()),())} i f o s fr (ob.drop (tC n ob),ov,()):=⟨h.lt,h.c,h.S,h.F,ko h.O⟩;have ZD:(ob.drop (tC n ob)).length<=4096:=by rw[zei];omega
 have d3:=IQ h2 ZD 4096;rw[OK ZD,List.drop_length,ze4] at d3;simp only[zfo] at d3;have e1:=lG (show i<6 from hi) (by omega)
 obtain⟨a1,a2⟩:=OM hi (l,cu,(),(),(),(),I,(i:Int),()) (1,nx,()) (2,ny,()) A [v.e,v.e];have r1:(((A i).length+(ob.take (tC n ob)).length:Nat):Int)*((1:Nat):Int)<=((room:Nat):Int):=by unfold room;rw[zeh];omega
 have r2:(((A i++ob.take (tC n ob)).length+(ob.drop (tC n ob)).length:Nat):Int)*((1:Nat):Int)<=((room:Nat):Int):=by unfold room;rw[zdW,zeh,zei];omega
 have hap:(A i++ob.take (tC n ob))++ob.drop (tC n ob)=A i++ob:=by rw[zfp,ze5]
 have b0:=(OM (i:=0) (by omega) (l,cu,(),(),(),(),I,(i:Int),()) (1,nx,()) (2,ny,()) A [v.e,v.e])
 have hB: ∀m,m<6->cA ((l,cu,(),(),(),(),I,(i:Int),()),KC (1,nx,()) (2,ny,()) A [v.e,v.e]) m=A m/\cm ((l,cu,(),(),(),(),I,(i:Int),()),KC (1,nx,()) (2,ny,()) A [v.e,v.e]) m=A m:=λm hm=>OM hm _ _ _ _ _;have g0:=hB 0 (by omega);have g1:=hB 1 (by omega);have g2:=hB 2 (by omega);have g3:=hB 3 (by omega);have g4:=hB 4 (by omega);have g5:=hB 5 (by omega)
 have v1: ∀bs,(((),()),vN {v with O:=v.O.set o (([],ov,()),())} bs)=(((),()),vN {v with O:=v.O.set o (([],ov,()),())} bs):=λ_=>rfl;simp only[V.e] at d3;simp only[kP,M9 hi,o2,Z6,Z5,zbY,d2,zdM,↓xo,xw,a2,ot r1,zdO,d3,ot r2,Z4,hap,e1,a1,g0.1,g1.1,g2.1,g3.1,g4.1,g5.1,g0.2,g1.2,g2.2,g3.2,g4.2,g5.2];rfl
theorem Na {sN:Nat}(h:GV PT sN v)(hi:i<6)(l:List zl){cu:List Int}(hcu:J3 cu)(I:Nat)(nx ny:List Int)(A:Nat->List Int)(hA:(A i).length<=1000000): ∃v' ob,ob.length<=4096/\GV PT sN v'/\
  aY WX ((l,cu,(),(),(),(),(I:Int),(i:Int),()),KC (1,nx,()) (2,ny,()) A [v.e,v.e])=some (.inl ((l,cu,(),(),(),(),(I:Int),((i+1:Nat):Int),()),KC (1,nx,()) (2,ny,()) (T5 A i ob) [v'.e,v'.e])):=by
 obtain⟨f,o,s,fr,ou,hc,mh⟩:=h.ci i (by omega)
 obtain⟨ob,ov,⟨⟩⟩:=ou;have hl:ob.length<=4096:=mh.out;refine⟨_,ob,hl,T9 h o ([],ov,()) (by simp),?_⟩
 have d1:=IQ hc hl 4096;rw[OK hl,List.drop_length,ze4] at d1;have rr:=z7 hi hc hl l cu (I:Int) nx ny A hA;obtain⟨a1,a2⟩:=OM hi (l,cu,(),(),(),(),(I:Int),(i:Int),()) (1,nx,()) (2,ny,()) A [v.e,v.e];have r1:(((A i).length+ob.length:Nat):Int)*((1:Nat):Int)<=((room:Nat):Int):=by unfold room;omega
 by_cases hI:I<cu.length
 ·have hx:=zdS hI
  have Xa:=hcu _ (ze0 hI);generalize cu[I]=x at hx Xa;obtain⟨y,_,_,w⟩:=jC Xa (lo:=0) (hi:=90) (by omega) (by omega) (by omega)
  simp only[aY,↓xo,oT ((i:Int)<6),zdO,M9 hi,o1,WK,d1,zdM,a1,ot r1,Z4,oT ((I:Int)<(cu.length:Int)),oT ((0:Int)<=(I:Int)),zdP,hx,w,rr]
 ·simp only[aY,↓xo,oT ((i:Int)<6),zdO,M9 hi,o1,WK,d1,zdM,a1,ot r1,Z4,oF ((I:Int)<(cu.length:Int)),zdN,rr]
theorem KD {sN:Nat}(h:GV PT sN v)(l:List zl){cu:List Int}(hcu:J3 cu)(I:Nat)(nx ny:List Int)(A:Nat->List Int){b:Nat}(hA: ∀m,m<6->(A m).length<=b)(hb:b<=900000): ∃v' A',(∀m,m<6->(A' m).length<=b+24576)/\GV PT sN v'/\
  ag (aY WX) ((l,cu,(),(),(),(),(I:Int),0,()),KC (1,nx,()) (2,ny,()) A [v.e,v.e])=some ((l,cu,(),(),(),(),(I:Int),()),M8 (1,nx,()) (2,ny,()) A' [v'.e,v'.e]):=by
 obtain⟨⟨v',A'⟩,l1,l2,l3⟩:=oR (b:=aY WX) 6 (λj (s:V×(Nat->List Int))=>((l,cu,(),(),(),(),(I:Int),(j:Int),()),KC (1,nx,()) (2,ny,()) s.2 [s.1.e,s.1.e])) (λs=>((l,cu,(),(),(),(),(I:Int),()),M8 (1,nx,()) (2,ny,()) s.2 [s.1.e,s.1.e])) (λj s=>GV PT sN s.1/\∀m,m<6->(s.2 m).length<=b+4096*j)
  (λj s hj hI=>by
   obtain⟨w,A1⟩:=s;obtain⟨i1,i2⟩:=hI;simp only at i1 i2;obtain⟨w',ob,g1,g2,g3⟩:=Na i1 hj l hcu I nx ny A1 (by have:=i2 j hj;omega)
   refine⟨(w',T5 A1 j ob),g3,g2,λm hm=>?_⟩;have:=i2 m hm;have:=i2 j hj;show(T5 A1 j ob m).length<=_
   unfold T5;cases Nat.beq m j with
   |true=>rw[zdO,zdW];omega
   |false=>rw[zdN];omega)
  (λs _=>by simp only[aY,↓xo,oF (((6:Nat):Int)<6),zdN]) (v,A) ⟨h,λm hm=>by have:=hA m hm;simp only;omega⟩
 exact⟨v',A',λm hm=>by have:=l3 m hm;simp only at this;omega,l2,l1⟩
end
theorem KE {s:Nat}{v:V}(h:GV PT s v)(I0:List zk)(hl:I0.length<=3)(hs:s+3<=125)(kr: ∀x∈I0,Fa x)(nx ny:List Int)(l:List zl)(cu:List Int)(I:Int)(A:Nat->List Int):
  ∃v',ag (ck WX) ((l,cu,(),(),(),(),I,I0,(I0.length:Int),0,()),KC (1,nx,()) (2,ny,()) A [v.e,v.e])=some ((l,cu,(),(),(),(),I,()),M8 (1,nx,()) (2,ny,()) A [v'.e,v'.e])/\GV PT (s+3) v':=by
 obtain⟨v',l1,l2⟩:=oR (b:=ck WX) I0.length (λj (w:V)=>((l,cu,(),(),(),(),I,I0,(I0.length:Int),(j:Int),()),KC (1,nx,()) (2,ny,()) A [w.e,w.e])) (λw=>((l,cu,(),(),(),(),I,()),M8 (1,nx,()) (2,ny,()) A [w.e,w.e])) (λj w=>GV PT (s+j) w)
  (λj w hj hI=>by
   have hx:=zdS hj;obtain⟨ok,w',d1,d2,_⟩:=Z2 zbW hI (by omega) (kr _ (ze0 hj))
   have e1:=lG hj (by omega)
   generalize I0[j]=x at hx d1;exact⟨w',by simp only[ck,↓xo,xw,oT ((j:Int)<(I0.length:Int)),oT ((0:Int)<=(j:Int)),zdO,zdP,hx,zdM,o1,WK,d1,Z6,o2,Z5,zbY,e1],d2⟩)
  (λw _=>by simp only[ck,↓xo,oF ((I0.length:Int)<(I0.length:Int)),zdN]) v h
 exact⟨v',l1,l2.le (by omega)⟩
theorem QH (p q:Nat×(List Int)×Unit)(A:Nat->List Int)(hA: ∀m,m<6->(A m).length<=1000000)(Es:List wz):ag (bt WX) (((),(),(),(),0,()),KC p q A Es)=some (.inr (((),(),()),M8 p q A Es)):=by
 refine Dg (b:=bt WX) (λi=>(((),(),(),(),(i:Int),()),KC p q A Es)) (.inr (((),(),()),M8 p q A Es)) 6 (λi hi=>?_) ?_ 0 (by omega)
 ·have h: ∀m:Nat,aa ((i:Int)=((m:Nat):Int))=decide (i=m):=λm=>by
   rw[ke];exact decide_eq_decide.2 (by omega)
  have hs:=KB (A i) (by have:=hA i hi;omega)
  have e1:=lG hi (by omega)
  have e6:=oT ((i:Int)<6);obtain rfl|rfl|rfl|rfl|rfl|rfl:i=0\/i=1\/i=2\/i=3\/i=4\/i=5:=by omega
  all_goals (simp only[bt,↓xo,xw,e6,h,iF,hs,zdM,zdQ,zdO,zdN,e1];try rfl)
 ·simp only[bt,↓xo,oF (((6:Nat):Int)<6),zdN]
theorem dC.zdy (c:List Int)(l:List zl)(cu:List Int)(hc:J3 c)(hq: ∀q∈l,MvI q)(hcu:J3 cu):dC WX ((c,l,cu,()),())=some ((true,()),()):=by
 obtain⟨g,hg,h1,h2⟩:=QF hc;have n1:bN WX ((c,()),([],()))=some (.inr (((),()),((1,List.replicate 16 (0:Int),()),[(v0 g).e],()))):=OL h1 hg [];have n2:bN WX ((c,()),([(v0 g).e],()))=some (.inr (((),()),((2,List.replicate 16 (0:Int),()),[(v0 g).e,(v0 g).e],()))):=OL h1 hg [(v0 g).e];have key:=rD (b:=bK WX) (λq d=> ∃(i:Nat) (nx:List Int) (v:V) (A:Nat->List Int),i<=15/\q=15-i/\d=((l,cu,(),(),(),(),(i:Int),()),KC (1,nx,()) (2,List.replicate 16 (0:Int),()) A [v.e,v.e])/\nx.length=16/\GV PT (3*i) v/\∀m,m<6->(A m).length<=24576*i)
  (λr=> ∃(nx:List Int) (v:V) (A:Nat->List Int),r=(((),(),(),(),()),M8 (1,nx,()) (2,List.replicate 16 (0:Int),()) A [v.e,v.e])/\GV PT 120 v/\∀m,m<6->(A m).length<=1000000) (λq d hd=>by
  obtain⟨i,nx,v,A,hi,rfl,rfl,hx,hv,hA⟩:=hd;have hA': ∀m,m<6->(A m).length<=1000000:=λm hm=>by have:=hA m hm;omega
  by_cases a1:i<l.length
  ·by_cases a2:i<15
   ·have hm:=zdS a1
    have hqi:=hq _ (ze0 a1);generalize l[i]=mv at hm hqi;have e1:=lG a2 (by omega)
    obtain⟨XG,I0,s1,s2,s3,s4⟩:=M7 hv.ci (r0:=0) (Es:=[v.e,v.e]) rfl hx hqi;change aU WX (((),mv,()),((1,nx,()),[v.e,v.e],()))=some (((),()),((1,XG,()),I0,[v.e,v.e],())) at s1;obtain⟨v',m1,m2⟩:=KE hv I0 s3 (by omega) s4 XG (List.replicate 16 (0:Int)) l cu (i:Int) A
    obtain⟨v2,A2,k1,k2,k3⟩:=KD m2 l hcu i XG (List.replicate 16 (0:Int)) A hA (by omega)
    refine .inl ⟨((l,cu,(),(),(),(),((i+1:Nat):Int),()),KC (1,XG,()) (2,List.replicate 16 (0:Int),()) A2 [v2.e,v2.e]),?_,15-(i+1),by omega,i+1,XG,v2,A2,by omega,rfl,rfl,s2,k2.le (by omega),λm hm=>by have:=k1 m hm;omega⟩
    simp only[bK,↓xo,xw,↓xl,oT ((i:Int)<(l.length:Int)),oT ((i:Int)<15),oT ((0:Int)<=(i:Int)),zdO,zdP,hm,zdM,s1,m1,k3,e1]
   ·exact .inr ⟨_,by simp only[bK,↓xo,oT ((i:Int)<(l.length:Int)),oF ((i:Int)<15),zdO,zdN],nx,v,A,rfl,hv.le (by omega),hA'⟩
  ·exact .inr ⟨_,by simp only[bK,↓xo,oF ((i:Int)<(l.length:Int)),zdN],nx,v,A,rfl,hv.le (by omega),hA'⟩)
 obtain⟨_,k1,nx,v,A,rfl,k2,k3⟩:=key 15 ((l,cu,(),(),(),(),0,()),KC (1,List.replicate 16 (0:Int),()) (2,List.replicate 16 (0:Int),()) (λ_=> []) [(v0 g).e,(v0 g).e]) ⟨0,_,v0 g,_,by omega,by omega,rfl,by simp,zbV hg trivial,λm _=>by simp⟩
 obtain⟨μ,kk,mm,vi,_,hmm⟩:=k2;have q1:=QH (1,nx,()) (2,List.replicate 16 (0:Int),()) A k3 [v.e,v.e];have Zs:v.lg.1.length<=1000000000000:=by have:=vi.lg.1;omega
 have zdz:=Z3 v Zs;have U5:=KB v.lg.1 Zs;have ha:=ME;have hE:(((),v.c,(),(),()),(v.cfg,v.now,(),v.ph,v.mp,(),v.bp,v.lp,()),(v.tr,()),(v.op,v.ps,()),v.lg,(v.mt,()),v.M,v.L,v.S,v.F,v.O,v.B,())=v.e:=rfl;simp only[dC,n1,n2,zdM,↓xl,k1,q1,o1,o2,WK,Z5,Z6,zdz,hE,U5,zdO,ha]
theorem KR.law (a0:List Int)(a1:List zl)(a2:List Int)(h0:LV (.deep (.int .i64)) a0)(h1:LV (.deep L0) a1)(h2:LV (.deep (.int .i64)) a2):dC W0 ((a0,a1,a2,()),())=some ((true,()),()):=by
 rw[Xl];exact dC.zdy a0 a1 a2 (OJ h0) (zbX h1) (OJ h2)
end AM
