/- The law TopTwins, in plain Lean. Conditions: none. -/
import Derived.Test.YtepopigkpnoflaaGreatTwTopTwinsP
set_option linter.unusedVariables false
set_option linter.unusedSimpArgs false
set_option maxRecDepth 100000
namespace AM
open Go Go.Proofs IntKind
def PT:Nat->V->(Nat->MS)->Prop:=λ_ _ _=>True
theorem XF:PK PT:=⟨λ_ _ _ _=>trivial,λ_ _ _ _ _ _=>trivial,λ_ _ _ _ _=>trivial,λ_=>trivial⟩
abbrev vN (v:V)(seen:List Int):=(((),v.c,(),(),()),(v.cfg,v.now,(),v.ph,v.mp,(),v.bp,v.lp,()),(v.tr,()),(v.op,v.ps,()),v.lg,(v.mt,()),seen,v.M,v.L,v.S,v.F,v.O,v.B,())
theorem GV.now {P}{s:Nat}{v:V}(h:GV P s v):0<=v.now/\v.now<=1099511627776:=by obtain⟨_,_,_,h1,_⟩:=h;exact h1.ss.now
theorem WC {c:List Int}(h:LX (.deep (.int .i64)) c):SP c:=λx hx=>tS (h.2 x hx)
theorem XG {l:List Aq}(h:LX (.deep CF) l): ∀q∈l,MvI q:=λq hq=>by
 obtain⟨k,c,d,b,_⟩:=q;obtain⟨a1,a2,a3,_⟩:=h.2 _ hq;obtain⟨x0,x1,x2,x3,x4,y,_⟩:=d;obtain⟨b0,b1,b2,b3,b4,b5,_⟩:=a3;obtain⟨y0,y1,y2,y3,y4,y5,y6,_⟩:=y;obtain⟨c0,c1,c2,c3,c4,c5,c6,_⟩:=b5;exact⟨tS a1,tS a2,⟨tS b0,tS b1,tS b2,tS b3,tS b4,tS c0,tS c1,tS c2,tS c3,tS c4,tS c5,tS c6⟩⟩
theorem ud (c:mP)(i:Int)(ht:c.2.2.2.2.2.2.2.2.2.2.2.2.2.2.1.length=32): ∃fb:List Int,bt WX ((c,i,()),())=some (((2,i,0,gN,(),()),()),(fb,()))/\fb.length<=62:=by
 obtain⟨bs,h1,h2⟩:=Wz c ht;obtain⟨fb,h3,h4⟩:=TW (bs:=bs) (by omega)
 exact⟨fb,by simp only[bt,h1,zdc,h3],by omega⟩
def StV (r0:Nat)(Es:List vA)(o:Option aE.R):Prop:= ∃QU yG,o=some (((),()),((r0+1,QU,()),yG,Es,()))/\QU.length=16/\yG.length<=3/\∀s∈yG,Cy s
section
variable {v:V}
theorem zt (h:CI v){r0:Nat}{Es:List vA}(hE:Es[r0]?=some v.e){nx:List Int}(hx:nx.length=16){q:Aq}(hq:MvI q):StV r0 Es (aE WX (((),q,()),((r0+1,nx,()),Es,()))):=by
 obtain⟨K,C,d,bts,⟨⟩⟩:=q;obtain⟨hk,hc,hd⟩:=hq;simp only at hk hc hd;obtain⟨ci,l1,u1,w1⟩:=jN hc (lo:=0) (hi:=5) (by omega) (by omega) (by omega)
 obtain⟨i,rfl⟩:=ze4 l1;have hi:i<16:=by omega
 obtain⟨r,l2,u2,w2⟩:=jN hk (lo:=0) (hi:=15) (by omega) (by omega) (by omega)
 by_cases c3:r<=3
 ·obtain⟨nc,n1,n2⟩:=J8 d.2.2.2.1
  obtain⟨t,lt,ut,wt⟩:=jN hd.x1 (lo:=0) (hi:=6) (by omega) (by omega) (by omega)
  have YA:=Iy t;have VR:(kk t).length=32:=by simp[kk]
  obtain⟨tag,⟨q1,q2,t1,t2,t3⟩,t4⟩:=Mu VR n2;have e0:(0:Int)<=0/\(0:Int)<=((32:Nat):Int)/\((32:Nat):Int)<=(32:Nat):=by omega
  have WD:=zdi (l:=nx) (i:=i) (by omega)
  generalize nx[i]'(by omega)=nxi at WD
  have Hw:=zdi (l:=tag) (i:=0) (by omega)
  generalize tag[0]'(by omega)=tg0 at Hw
  obtain⟨f1,s1,b1⟩:=ud (1,0,t,0,0,0,0,0,0,0,0,0,0,0,gN,()) (i:Int) (by simp)
  by_cases r3:r=3
  ·subst r3
   obtain⟨f2,s2,b2⟩:=ud (2,0,0,0,0,0,0,0,0,0,0,0,0,0,tag.set 0 (WX.pt .u8 tg0 1),()) (i:Int) (by simp[t4])
   refine⟨nx.set i 1,[(1,(i:Int),0,nc,[],()),(2,(i:Int),0,gN,f1,()),(2,(i:Int),0,gN,f2,())],?_,by rw[zdQ];exact hx,by simp,λs hs=>?_⟩
   ·have z0:(0:Int).toNat=0:=rfl
    have e1:(0:Int)<=0/\(0:Int)<((32:Nat):Int):=by omega
    simp only[aE,w1,w2,zdc,↓xo,eq_self,Int.reduceEq,iD,nh,zde,zdd,n1,wt,YA,ot e0,po VR,t1,po n2,t2,t3,z0,ot e1,Hw,ot (Hd hi),zdf,WD,s1,s2]
   ·simp only[zdX,List.mem_nil_iff,or_false] at hs
    rcases hs with rfl|rfl|rfl
    ·exact .conn i nc hi n2
    ·exact .bytes i f1 hi b1
    ·exact .bytes i f2 hi b2
  ·obtain⟨f2,s2,b2⟩:=ud (2,0,0,0,0,0,0,0,0,0,0,0,0,0,tag,()) (i:Int) (by simp[t4])
   refine⟨nx.set i 1,[(1,(i:Int),0,nc,[],()),(2,(i:Int),0,gN,f1,()),(2,(i:Int),0,gN,f2,())],?_,by rw[zdQ];exact hx,by simp,λs hs=>?_⟩
   ·obtain hr:r=0\/r=1\/r=2:=by omega
    rcases hr with rfl|rfl|rfl
    ·simp only[aE,w1,w2,zdc,↓xo,eq_self,Int.reduceEq,iD,nh,zde,zdd,n1,wt,YA,ot e0,po VR,t1,po n2,t2,t3,ot (Hd hi),zdf,WD,s1,s2]
    ·simp only[aE,w1,w2,zdc,↓xo,eq_self,Int.reduceEq,iD,nh,zde,zdd,n1,wt,YA,ot e0,po VR,t1,po n2,t2,t3,ot (Hd hi),zdf,WD,s1,s2]
    ·simp only[aE,w1,w2,zdc,↓xo,eq_self,Int.reduceEq,iD,nh,zde,zdd,n1,wt,YA,ot e0,po VR,t1,po n2,t2,t3,ot (Hd hi),zdf,WD,s1,s2]
   ·simp only[zdX,List.mem_nil_iff,or_false] at hs
    rcases hs with rfl|rfl|rfl
    ·exact .conn i nc hi n2
    ·exact .bytes i f1 hi b1
    ·exact .bytes i f2 hi b2
 have n0: ¬r=0:=by omega
 have n1: ¬r=1:=by omega
 have n2: ¬r=2:=by omega
 have n3: ¬r=3:=by omega
 by_cases r4:r=4
 ·subst r4
  obtain⟨n,ln,un,wn⟩:=jN hd.x3 (lo:=1) (hi:=30) (by omega) (by omega) (by omega)
  refine⟨nx,[(4,0,n,gN,[],())],?_,hx,by simp,λs hs=>?_⟩
  ·simp only[aE,w1,w2,zdc,↓xo,eq_self,Int.reduceEq,iD,nh,zde,zdd,wn]
  ·rw[List.mem_singleton.1 hs];exact .tick n ⟨ln,un⟩
 by_cases r5:r=5
 ·subst r5
  refine⟨nx,[(3,(i:Int),0,gN,[],())],?_,hx,by simp,λs hs=>?_⟩
  ·simp only[aE,w1,w2,zdc,↓xo,eq_self,Int.reduceEq,iD,nh,zde,zdd]
  ·rw[List.mem_singleton.1 hs];exact .gone i hi
 by_cases r6:r=6
 ·subst r6
  have em:0<=(0:Int)/\(0:Int)<=min (bts.length:Int) 60/\min (bts.length:Int) 60<=(bts.length:Int):=by omega
  refine⟨nx,[(2,(i:Int),0,gN,bts.take (min (bts.length:Int) 60).toNat,())],?_,hx,by simp,λs hs=>?_⟩
  ·simp only[aE,w1,w2,zdc,↓xo,uS,eq_self,Int.reduceEq,iD,nh,zde,zdd,ot em]
  ·rw[List.mem_singleton.1 hs];exact .bytes i _ hi (by rw[zdH];omega)
 by_cases r7:r=7
 ·subst r7
  obtain⟨f1,s1,b1⟩:=ud (WX.wr .i64 (7+(WX.sH .i64 d.2.2.2.1 1)),0,0,0,0,0,0,0,0,0,0,0,0,0,gN,()) (i:Int) (by simp)
  refine⟨nx,[(2,(i:Int),0,gN,f1,())],?_,hx,by simp,λs hs=>?_⟩
  ·simp only[aE,w1,w2,zdc,↓xo,eq_self,Int.reduceEq,iD,nh,zde,zdd,s1]
  ·rw[List.mem_singleton.1 hs];exact .bytes i _ hi b1
 ·obtain⟨c,k1,k2⟩:=TV hd
  have WD:=zdi (l:=nx) (i:=i) (by omega)
  generalize nx[i]'(by omega)=nxi at WD
  obtain⟨f1,s1,b1⟩:=ud (c.1,nxi,c.2.2) (i:Int) (by show c.2.2.2.2.2.2.2.2.2.2.2.2.2.2.1.length=32;rw[k2];simp)
  obtain⟨f,o,s,fr,ou,nL,mc⟩:=h i hi;have hA:=PZ nL;by_cases h3:s.1=3
  ·refine⟨nx.set i (i64.wrap (nxi+1)),[(2,(i:Int),0,gN,f1,())],?_,by rw[zdQ];exact hx,by simp,λs hs=>?_⟩
   ·simp only[aE,w1,w2,zdc,↓xo,xw,bc n0,bc n1,bc n2,bc n3,bc r4,bc r5,bc r6,bc r7,zde,zdd,k1,ot (Hd hi),zdf,WD,al,hE,hA,aI hE,ot h3,s1]
   ·rw[List.mem_singleton.1 hs];exact .bytes i _ hi b1
  ·refine⟨nx,[(2,(i:Int),0,gN,f1,())],?_,hx,by simp,λs hs=>?_⟩
   ·simp only[aE,w1,w2,zdc,↓xo,xw,bc n0,bc n1,bc n2,bc n3,bc r4,bc r5,bc r6,bc r7,zde,zdd,k1,ot (Hd hi),zdf,WD,al,hE,hA,aI hE,bc h3,s1]
   ·rw[List.mem_singleton.1 hs];exact .bytes i _ hi b1
end
def zu (n:Int)(b:List Int):Nat:=(max 0 (min n (b.length:Int))).toNat
theorem Z3 (n:Int)(b:List Int):zu n b<=b.length:=by unfold zu;omega
theorem QF (n:Int)(b:List Int)(o:Bool)(h:b.length<=4096):iH WX (((),n,()),((b,o,()),()))=some (((),()),((b.drop (zu n b),o,()),b.take (zu n b),())):=by
 have hk:max 0 (min n (b.length:Int))=(zu n b:Int):=by unfold zu;omega
 have hl:=Z3 n b;simp only[iH,↓xo,uS,Mo,hk,ot (show(0:Int)<=(0:Int)/\(0:Int)<=(zu n b:Int)/\(zu n b:Int)<=(b.length:Int) by omega),zde,zdf,vF _ (show(b.take (zu n b)).length<=1000000000000 by rw[zdH];omega),zdc,ot (show(0:Int)<=(zu n b:Int)/\(zu n b:Int)<=(b.length:Int)/\(b.length:Int)<=(b.length:Int) by omega),vF _ (show(b.drop (zu n b)).length<=1000000000000 by rw[zdI];omega)]
section
variable {v:V}{i:Nat}
theorem WE {f o:Nat}{s:wS}{ob:List Int}{ov:Bool}{fr:(List Int)×Bool×Unit}(h:nb v i f o s fr (ob,ov,()))(hl:ob.length<=4096)(n:Int):eR WX (((),(i:Int),n,()),v.e)=some (((),()),vN {v with O:=v.O.set o ((ob.drop (zu n ob),ov,()),())} (ob.take (zu n ob))):=by
 have hi:=h.lt;simp only[eR,fg,V.e,↓xo,ot (show(i:Int)>=0 by omega),ot (show(i:Int)<16 by omega),ot (lh hi),zde,zdc,zdg,zdd,zdf,h.c,al,h.O,QF n ob ov hl]
theorem QG (h:CI v)(hi:i<16): ∃O' bs,eR WX (((),(i:Int),4096,()),v.e)=some (((),()),vN {v with O:=O'} bs)/\CI {v with O:=O'}/\bs.length<=4096:=by
 obtain⟨f,o,s,fr,ou,hc,mc⟩:=h i hi;obtain⟨ob,ov,⟨⟩⟩:=ou;have hl:ob.length<=4096:=mc.out;exact⟨_,_,WE hc hl 4096,h.XA o (ob.drop (zu 4096 ob),ov,()) (by show(ob.drop _).length<=4096;rw[zdI];omega),by rw[zdH];omega⟩
theorem Z4 (v:V)(h:v.lg.1.length<=1000000000000):gw WX (((),()),v.e)=some (((),()),vN v v.lg.1):=by
 simp only[gw,il,V.e,vF _ h,zdc]
theorem T3 (v:V)(h:v.mt.length=4): ∃x,fG WX (((),()),v.e)=some ((x,()),v.e):=by
 obtain⟨w,w1,w2⟩:=nB (b:=aG WX) 4 (λj (s:List Int)=>(((),(),(),(j:Int),()),(v.mt,()),(0,0,0,0,()),s,())) (λs=>(((),(),()),(v.mt,()),(0,0,0,0,()),s,())) (λ_ s=>s.length=4)
  (λj s hj hI=>by
   have hx:=zdi (l:=v.mt) (i:=j) (by omega)
   have hy:=zdi (l:=s) (i:=j) (by omega)
   generalize v.mt[j]'(by omega)=x at hx
   generalize s[j]'(by omega)=y at hy
   have e1:=lx hj (by omega)
   exact⟨s.set j x.2.2.1,by simp only[aG,↓xo,xw,ot (show(j:Int)<4 by omega),ot (show 0<=(j:Int)/\(j:Int)<(4:Nat) by omega),zde,zdf,hx,hy,zdc,e1],by rw[zdQ];exact hI⟩)
  (λs _=>by simp only[aG,↓xo,bc (show¬((4:Nat):Int)<4 by omega),zdd]) (List.replicate 4 (0:Int)) (by simp)
 obtain⟨a,b,c,d,rfl⟩: ∃a b c d,w=[a,b,c,d]:=by
  match w,w2 with
  | [a,b,c,d],_=>exact⟨a,b,c,d,rfl⟩
 change ag (aG WX) (((),(),(),0,()),_)=_ at w1;have nL:jF WX (([a,b,c,d],()),())=some (((a,b,c,d,()),()),()):=by
  have i0:(0:Int)<=(0:Int)/\(0:Int)<(4:Nat):=by omega
  have i1:(0:Int)<=(1:Int)/\(1:Int)<(4:Nat):=by omega
  have i2:(0:Int)<=(2:Int)/\(2:Int)<(4:Nat):=by omega
  have i3:(0:Int)<=(3:Int)/\(3:Int)<(4:Nat):=by omega
  have g0: [a,b,c,d][(0:Int).toNat]?=some a:=rfl;have g1: [a,b,c,d][(1:Int).toNat]?=some b:=rfl;have g2: [a,b,c,d][(2:Int).toNat]?=some c:=rfl;have g3: [a,b,c,d][(3:Int).toNat]?=some d:=rfl;simp only[jF,↓xo,ot i0,ot i1,ot i2,ot i3,zde,g0,g1,g2,g3,zdc]
 exact⟨(a,b,c,d,()),by simp only[fG,fF,V.e,↓xl,w1,nL,zdc]⟩
end
theorem KH (a:List Int)(h:a.length<=1000000000000):dy WX ((a,a,()),())=some ((true,()),()):=by
 have key:=IK (b:=bW WX) (λj=>((a,a,(j:Int),()),())) (.inr ((),())) a.length (λj hj=>by
   have hx:=zdi hj;generalize a[j]=x at hx;have e1:i64.wrap ((j:Int)+1)=((j+1:Nat):Int):=by rw[nQ (by omega) (by omega)];omega
   simp only[bW,↓xo,xw,ot (show(j:Int)<(a.length:Int) by omega),ot (show(0:Int)<=(j:Int) by omega),zde,zdf,hx,zdc,eq_self,iD,zdg,zdd,e1])
  (by simp only[bW,↓xo,bc (show¬(a.length:Int)<(a.length:Int) by omega),zdd]) 0 (by omega)
 change ag (bW WX) ((a,a,0,()),())=_ at key;simp only[dy,↓xo,↓xl,eq_self,iD,zdg,zdd,key,zdc]
theorem IZ {c:List Int}{g:wR}(h1:da WX ((c,()),())=some ((g,()),()))(hg:Up c g)(Es:List vA):bo WX ((c,()),(Es,()))=some (.inr (((),()),((Es.length+1,List.replicate 16 (0:Int),()),Es++ [(v0 g).e],()))):=by
 have h3:=MB hg;simp only[bo,h1,h3,zdc,↓xo,eq_self,iD,zdg,bc (show¬Es.length+1=0 by omega),zdd]
theorem o1 {β:Type}(f:Nat->Option β):me 1 f=f 0:=rfl
theorem o2 {β:Type}(f:Nat->Option β):me 2 f=f 1:=rfl
theorem o3 {β:Type}(f:Nat->Option β):me 3 f=f 2:=rfl
theorem bE (b:Bool):xd b b=true:=by cases b<;>rfl
abbrev E3 (v r:V):List vA:=[v.e,v.e,r.e]
theorem t_0 {a b c:vA}: [a,b,c][0]?=some a:=rfl
theorem t_1 {a b c:vA}: [a,b,c][1]?=some b:=rfl
theorem t_2 {a b c:vA}: [a,b,c][2]?=some c:=rfl
theorem u_0 {a b c x:vA}: [a,b,c].set 0 x=[x,b,c]:=rfl
theorem u_1 {a b c x:vA}: [a,b,c].set 1 x=[a,x,c]:=rfl
theorem u_2 {a b c x:vA}: [a,b,c].set 2 x=[a,b,x]:=rfl
theorem KI {s:Nat}{v r:V}(h:GV PT s r)(yG:List yz)(hl:yG.length<=3)(hs:s+3<=125)(jZ: ∀x∈yG,Cy x)(p q:Nat×(List Int)×Unit)(nx:List Int)(l Fi:List Aq)(i:Int):
  ∃r',ag (cp WX) ((l,Fi,(),(),(),i,yG,(yG.length:Int),0,()),p,q,(3,nx,()),E3 v r,())=some ((l,Fi,(),(),(),i,()),p,q,(3,nx,()),E3 v r',())/\GV PT (s+3) r':=by
 obtain⟨r',l1,l2⟩:=nB (b:=cp WX) yG.length (λj (w:V)=>((l,Fi,(),(),(),i,yG,(yG.length:Int),(j:Int),()),p,q,(3,nx,()),E3 v w,())) (λw=>((l,Fi,(),(),(),i,()),p,q,(3,nx,()),E3 v w,())) (λj w=>GV PT (s+j) w)
  (λj w hj hI=>by
   have hx:=zdi hj;obtain⟨ok,w',d1,d2,_⟩:=T2 XF hI (by omega) (jZ _ (zeq hj))
   have e1:=lx hj (by omega)
   generalize yG[j]=x at hx d1;exact⟨w',by simp only[cp,↓xo,xw,ot (show(j:Int)<(yG.length:Int) by omega),ot (show(0:Int)<=(j:Int) by omega),zde,zdf,hx,zdc,o3,t_2,d1,u_2,e1],d2⟩)
  (λw _=>by simp only[cp,↓xo,bc (show¬(yG.length:Int)<(yG.length:Int) by omega),zdd]) r h
 exact⟨r',l1,l2.le (by omega)⟩
theorem Fj {s:Nat}{v r:V}(h:GV PT s v)(yG:List yz)(hl:yG.length<=3)(hs:s+3<=125)(jZ: ∀x∈yG,Cy x)(z:Nat×(List Int)×Unit)(nx ny:List Int)(l Fi:List Aq)(i:Int):
  ∃v',ag (bI WX) ((l,Fi,(),(),(),i,yG,(yG.length:Int),0,()),(1,nx,()),(2,ny,()),z,E3 v r,())=some (.inr ((l,Fi,(),(),(),i,()),(1,nx,()),(2,ny,()),z,E3 v' r,()))/\GV PT (s+3) v':=by
 obtain⟨v',l1,l2⟩:=nB (b:=bI WX) yG.length (λj (w:V)=>((l,Fi,(),(),(),i,yG,(yG.length:Int),(j:Int),()),(1,nx,()),(2,ny,()),z,E3 w r,())) (λw=> .inr ((l,Fi,(),(),(),i,()),(1,nx,()),(2,ny,()),z,E3 w r,())) (λj w=>GV PT (s+j) w)
  (λj w hj hI=>by
   have hx:=zdi hj;obtain⟨ok,w',d1,d2,_⟩:=T2 XF hI (by omega) (jZ _ (zeq hj))
   have e1:=lx hj (by omega)
   generalize yG[j]=x at hx d1;exact⟨w',by simp only[bI,↓xo,xw,ot (show(j:Int)<(yG.length:Int) by omega),ot (show(0:Int)<=(j:Int) by omega),zde,zdf,hx,zdc,o1,t_0,d1,u_0,o2,t_1,u_1,bE,zdg,zdd,e1],d2⟩)
  (λw _=>by simp only[bI,↓xo,bc (show¬(yG.length:Int)<(yG.length:Int) by omega),zdd]) v h
 exact⟨v',l1,l2.le (by omega)⟩
structure Lm (v:V):Prop where
 mt:v.mt.length=4
 lg:v.lg.1.length<=1000000000000
theorem KJ {v r:V}(h:CI v)(hv:Lm v)(nx ny:List Int): ∃v',ag (cg WX) (((),(),0,()),(1,nx,()),(2,ny,()),E3 v r,())=some (.inr (((),(),()),(1,nx,()),(2,ny,()),E3 v' r,()))/\Lm v':=by
 obtain⟨v',l1,_,l2⟩:=nB (b:=cg WX) 16 (λj (w:V)=>(((),(),(j:Int),()),(1,nx,()),(2,ny,()),E3 w r,())) (λw=> .inr (((),(),()),(1,nx,()),(2,ny,()),E3 w r,())) (λ_ w=>CI w/\Lm w)
  (λj w hj hI=>by
   obtain⟨h1,h2⟩:=hI;obtain⟨f,o,s,fr,ou,hc,mc⟩:=h1 j hj;have hA:=PZ hc;obtain⟨O',bs,d1,d2,d3⟩:=QG h1 hj;have hs:=KH bs (by omega)
   have e1:=lx hj (by omega)
   exact⟨{w with O:=O'},by simp only[cg,↓xo,xw,ot (show(j:Int)<16 by omega),zde,zdc,o1,o2,t_0,t_1,u_0,u_1,hA,eq_self,iD,zdg,zdd,d1,hs,e1];rfl,d2,⟨h2.mt,h2.lg⟩⟩)
  (λw _=>by simp only[cg,↓xo,bc (show¬((16:Nat):Int)<16 by omega),zdd]) v ⟨h,hv⟩
 exact⟨v',l1,l2⟩
theorem dT.zcX (c:List Int)(l Fi:List Aq)(hc:SP c)(hq: ∀q∈l,MvI q)(ho: ∀q∈Fi,MvI q):dT WX ((c,l,Fi,()),())=some ((true,()),()):=by
 obtain⟨g,hg,h1,h2⟩:=QE hc;have n1:bo WX ((c,()),([],()))=some (.inr (((),()),((1,List.replicate 16 (0:Int),()),[(v0 g).e],()))):=IZ h1 hg [];have n2:bo WX ((c,()),([(v0 g).e],()))=some (.inr (((),()),((2,List.replicate 16 (0:Int),()),[(v0 g).e,(v0 g).e],()))):=IZ h1 hg [(v0 g).e];have n3:bo WX ((c,()),([(v0 g).e,(v0 g).e],()))=some (.inr (((),()),((3,List.replicate 16 (0:Int),()),E3 (v0 g) (v0 g),()))):=IZ h1 hg [(v0 g).e,(v0 g).e];have key:=rq (b:=bZ WX) (λq d=> ∃(i:Nat) (nx nz:List Int) (v r:V),i<=20/\q=20-i/\d=((l,Fi,(),(),(),(i:Int),()),(1,nx,()),(2,List.replicate 16 (0:Int),()),(3,nz,()),E3 v r,())/\nx.length=16/\nz.length=16/\GV PT (3*i) v/\GV PT (3*i) r)
  (λr=> ∃(nx nz:List Int) (v r':V),r= .inr (((),(),()),(1,nx,()),(2,List.replicate 16 (0:Int),()),(3,nz,()),E3 v r',())/\GV PT 120 v) (λq d hd=>by
  obtain⟨i,nx,nz,v,r,hi,rfl,rfl,hx,hz,hv,hr⟩:=hd;by_cases a1:i<l.length
  ·by_cases a2:i<20
   ·have hm:=zdi a1
    have hqi:=hq _ (zeq a1);generalize l[i]=mv at hm hqi;have e1:=lx a2 (by omega)
    have b1:=ot (show(i:Int)<(l.length:Int) by omega)
    have b2:=ot (show(i:Int)<20 by omega)
    have b3:=ot (show(0:Int)<=(i:Int) by omega)
    by_cases a3:i<Fi.length
    ·have WY:=zdi a3
     have hqj:=ho _ (zeq a3);generalize Fi[i]=mw at WY hqj;obtain⟨nz',ts,t1,t2,t3,t4⟩:=zt hr.ci (r0:=2) (Es:=E3 v r) rfl hz hqj;change aE WX (((),mw,()),((3,nz,()),E3 v r,()))=some (((),()),((3,nz',()),ts,E3 v r,())) at t1;obtain⟨r',k1,k2⟩:=KI (v:=v) hr ts t3 (by omega) t4 (1,nx,()) (2,List.replicate 16 (0:Int),()) nz' l Fi (i:Int)
     obtain⟨QU,yG,s1,s2,s3,s4⟩:=zt hv.ci (r0:=0) (Es:=E3 v r') rfl hx hqi;change aE WX (((),mv,()),((1,nx,()),E3 v r',()))=some (((),()),((1,QU,()),yG,E3 v r',())) at s1;obtain⟨v',m1,m2⟩:=Fj (r:=r') hv yG s3 (by omega) s4 (3,nz',()) QU (List.replicate 16 (0:Int)) l Fi (i:Int)
     refine .inl ⟨((l,Fi,(),(),(),((i+1:Nat):Int),()),(1,QU,()),(2,List.replicate 16 (0:Int),()),(3,nz',()),E3 v' r',()),?_,20-(i+1),by omega,i+1,QU,nz',v',r',by omega,rfl,rfl,s2,t2,m2.le (by omega),k2.le (by omega)⟩
     simp only[bZ,↓xo,xw,↓xl,b1,b2,b3,ot (show(i:Int)<(Fi.length:Int) by omega),zde,zdf,hm,WY,zdc,t1,k1,s1,m1,e1]
    ·obtain⟨QU,yG,s1,s2,s3,s4⟩:=zt hv.ci (r0:=0) (Es:=E3 v r) rfl hx hqi
     change aE WX (((),mv,()),((1,nx,()),E3 v r,()))=some (((),()),((1,QU,()),yG,E3 v r,())) at s1;obtain⟨v',m1,m2⟩:=Fj (r:=r) hv yG s3 (by omega) s4 (3,nz,()) QU (List.replicate 16 (0:Int)) l Fi (i:Int)
     refine .inl ⟨((l,Fi,(),(),(),((i+1:Nat):Int),()),(1,QU,()),(2,List.replicate 16 (0:Int),()),(3,nz,()),E3 v' r,()),?_,20-(i+1),by omega,i+1,QU,nz,v',r,by omega,rfl,rfl,s2,hz,m2.le (by omega),hr.le (by omega)⟩
     simp only[bZ,↓xo,xw,↓xl,b1,b2,b3,bc (show¬(i:Int)<(Fi.length:Int) by omega),zde,zdd,zdf,hm,zdc,s1,m1,e1]
   ·exact .inr ⟨_,by simp only[bZ,↓xo,ot (show(i:Int)<(l.length:Int) by omega),bc (show¬(i:Int)<20 by omega),zde,zdd],nx,nz,v,r,rfl,hv.le (by omega)⟩
  ·exact .inr ⟨_,by simp only[bZ,↓xo,bc (show¬(i:Int)<(l.length:Int) by omega),zdd],nx,nz,v,r,rfl,hv.le (by omega)⟩)
 obtain⟨_,k1,nx,nz,v,r,rfl,k2⟩:=key 20 ((l,Fi,(),(),(),0,()),(1,List.replicate 16 (0:Int),()),(2,List.replicate 16 (0:Int),()),(3,List.replicate 16 (0:Int),()),E3 (v0 g) (v0 g),()) ⟨0,_,_,v0 g,v0 g,by omega,by omega,rfl,by simp,by simp,XE hg trivial,XE hg trivial⟩
 have hci:=k2.ci;obtain⟨μ,kk,mm,vi,_,hmm⟩:=k2;obtain⟨v',q1,q2⟩:=KJ (r:=r) hci ⟨vi.mt,by have:=vi.lg.1;omega⟩ nx (List.replicate 16 (0:Int))
 have zcY:=Z4 v' q2.lg;have UW:=KH v'.lg.1 q2.lg;obtain⟨x,nL⟩:=T3 v' q2.mt;have ha:=ME;have hN:vN v' v'.lg.1=(((),v'.c,(),(),()),(v'.cfg,v'.now,(),v'.ph,v'.mp,(),v'.bp,v'.lp,()),(v'.tr,()),(v'.op,v'.ps,()),v'.lg,(v'.mt,()),v'.lg.1,v'.M,v'.L,v'.S,v'.F,v'.O,v'.B,()):=rfl;have hE:(((),v'.c,(),(),()),(v'.cfg,v'.now,(),v'.ph,v'.mp,(),v'.bp,v'.lp,()),(v'.tr,()),(v'.op,v'.ps,()),v'.lg,(v'.mt,()),v'.M,v'.L,v'.S,v'.F,v'.O,v'.B,())=v'.e:=rfl;simp only[dT,n1,n2,n3,zdc,↓xl,k1,q1,o1,o2,t_0,t_1,u_0,u_1,zcY,hN,hE,UW,zde,nL,xq,eq_self,iD,zez,ha]
theorem M7.law (a0:List Int)(a1 a2:List Aq)(h0:LX (.deep (.int .i64)) a0)(h1:LX (.deep CF) a1)(h2:LX (.deep CF) a2):dT W0 ((a0,a1,a2,()),())=some ((true,()),()):=by
 rw[Xj];exact dT.zcX a0 a1 a2 (WC h0) (XG h1) (XG h2)
end AM
