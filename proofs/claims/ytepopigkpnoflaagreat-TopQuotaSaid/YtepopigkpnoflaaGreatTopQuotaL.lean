/- The law TopQuota, in plain Lean. Conditions: none. -/
import Derived.Test.YtepopigkpnoflaaGreatTopQuotaP
set_option linter.unusedVariables false
set_option linter.unusedSimpArgs false
set_option maxRecDepth 100000
namespace AM
open Go Go.Proofs IntKind
def PT:Nat->V->(Nat->MS)->Prop:=λ_ _ _=>True
theorem Lf:PK PT:=⟨λ_ _ _ _=>trivial,λ_ _ _ _ _ _=>trivial,λ_ _ _ _ _=>trivial,λ_=>trivial⟩
theorem GV.now {P}{s:Nat}{v:V}(h:GV P s v):0<=v.now/\v.now<=1099511627776:=by obtain⟨_,_,_,h1,_⟩:=h;exact h1.ss.now
theorem C5 {p:Nat->Bool}: ∀{l:List Nat},l.Nodup->(∀i∈l,∀j∈l,p i=true->p j=true->i=j)->l.countP p<=1
 | [],_,_=>by simp
 |x::l,hn,hu=>by
  obtain⟨n1,n2⟩:=List.nodup_cons.1 hn;have ih:=C5 n2 (λi hi j hj=>hu i (zdS _ hi) j (zdS _ hj));rw[zfA];by_cases hx:p x=true
  ·have:l.countP p=0:=by
    rw[List.countP_eq_zero];intro j hj hp;have e:=hu x (zdT ..) j (zdS _ hj) hx hp;subst e;exact n1 hj
   rw[this];split<;>omega
  ·rw[if_neg hx];omega
theorem B9 {p q r:Nat->Bool}{l:List Nat}(h: ∀i∈l,p i=true->q i=true\/r i=true):l.countP p<=l.countP q+l.countP r:=by
 induction l with
 |nil=>simp
 |cons x l ih=>
  have:=ih λi hi=>h i (zdS _ hi);have hx:=h x (zdT ..);rw[zfA,zfA,zfA];by_cases a:p x=true
  ·rw[if_pos a]
   rcases hx a with b|b
   ·rw[if_pos b];omega
   ·rw[if_pos b];omega
  ·rw[if_neg a];omega
theorem Xk (a0 a1:Int):((uu a0 a1).take 6).map (·.1)=[0,0,1,1,2,2]:=by kernel_rfl
theorem UO (a0 a1:Int):((uu a0 a1).drop 6).map (·.2.2.1)=List.replicate 26 0:=by kernel_rfl
theorem Rm {a0 a1 n:Int}(h:lf (uu a0 a1) n=true):0<=n/\n<=5/\(gz (uu a0 a1) n).1=n/2:=by
 have hn:=pT h;have hl:(uu a0 a1).length=32:=zff (Pt a0 a1);have hg:(uu a0 a1)[n.toNat]?=some (gz (uu a0 a1) n):=sk (UJ a0 a1) hn;by_cases h6:n<=5
 ·refine⟨hn.1,h6,?_⟩
  have e1:=congrArg (λl:List Int=>l[n.toNat]?) (Xk a0 a1);simp only[zeM,List.getElem?_take_of_lt (show n.toNat<6 by omega),hg,zdV] at e1
  obtain rfl|rfl|rfl|rfl|rfl|rfl:n=0\/n=1\/n=2\/n=3\/n=4\/n=5:=by omega
  all_goals exact Option.some.inj e1
 ·exfalso
  have e1:=congrArg (λl:List Int=>l[n.toNat-6]?) (UO a0 a1);simp only[zeM,zed,show 6+(n.toNat-6)=n.toNat by omega,hg,zdV,pc (show n.toNat-6<26 by omega)] at e1
  have e2:=Option.some.inj e1;unfold lf at h;rw[if_pos hn,ot e2] at h;cases h
def NT (v:V)(i:Nat):Bool:=decide ((gU v i).1=3)
theorem UP {P}{s:Nat}{v:V}{c:List Int}{g:u9}(hv:GV P s v)(hg:TD c g)(hc:v.cfg=g):(((List.range 16).countP (NT v):Nat):Int)<=3*min g.2.2.2.2.2.2.2.1 2:=by
 obtain⟨μ,k,m,h1,_⟩:=hv;have hq:=h1.qi;obtain⟨a0,a1,a2,a3,a4,a5,b,r,t,lk,d,q,_,_,_,_,_,_,_,_,_,_,_,_,_,rfl⟩:=hg.ex;have zav:=hq.tre;rw[hc] at zav;have Yf: ∀i,i<16->(gU v i).1=3->0<=(gU v i).2.1/\(gU v i).2.1<=5/\(gz v.tr (gU v i).2.1).1=(gU v i).2.1/2:=λi hi h3=>by
  have:=hq.there i hi h3;rw[zav.there] at this;have:=Rm this;exact⟨this.1,this.2.1,by rw[zav.kr];exact this.2.2⟩
 have qf: ∀f:Int,((List.range 16).countP λi=>decide ((gU v i).1=3/\(gz v.tr (gU v i).2.1).1=f))<=2:=λf=>by
  have e1:=B9 (l:=List.range 16) (p:=λi=>decide ((gU v i).1=3/\(gz v.tr (gU v i).2.1).1=f)) (q:=λi=>decide ((gU v i).1=3/\(gU v i).2.1=2*f)) (r:=λi=>decide ((gU v i).1=3/\(gU v i).2.1=2*f+1)) (λi hi hp=>by
   have hp:=of_decide_eq_true hp;have:=Yf i (List.mem_range.1 hi) hp.1;by_cases e:(gU v i).2.1=2*f
   ·exact .inl (decide_eq_true ⟨hp.1,e⟩)
   ·exact .inr (decide_eq_true ⟨hp.1,by omega⟩))
  have u: ∀x:Int,(List.range 16).countP (λi=>decide ((gU v i).1=3/\(gU v i).2.1=x))<=1:=λx=>C5 List.nodup_range (λi hi j hj hp wy=>by
   have hp:=of_decide_eq_true hp;have wy:=of_decide_eq_true wy;exact hq.uniq i j (List.mem_range.1 hi) (List.mem_range.1 hj) hp.1 wy.1 (hp.2.trans wy.2.symm))
  have:=u (2*f);have:=u (2*f+1);omega
 have Vn:(List.range 16).countP (NT v)<=((List.range 16).countP λi=>decide ((gU v i).1=3/\(gz v.tr (gU v i).2.1).1=0))+(((List.range 16).countP λi=>decide ((gU v i).1=3/\(gz v.tr (gU v i).2.1).1=1))+((List.range 16).countP λi=>decide ((gU v i).1=3/\(gz v.tr (gU v i).2.1).1=2))):=by
  have e1:=B9 (l:=List.range 16) (p:=NT v) (q:=λi=>decide ((gU v i).1=3/\(gz v.tr (gU v i).2.1).1=0)) (r:=λi=>decide ((gU v i).1=3/\((gz v.tr (gU v i).2.1).1=1\/(gz v.tr (gU v i).2.1).1=2))) (λi hi hp=>by
   have hp:=of_decide_eq_true hp;have:=Yf i (List.mem_range.1 hi) hp;by_cases e:(gz v.tr (gU v i).2.1).1=0
   ·exact .inl (decide_eq_true ⟨hp,e⟩)
   ·exact .inr (decide_eq_true ⟨hp,by omega⟩))
  have e2:=B9 (l:=List.range 16) (p:=λi=>decide ((gU v i).1=3/\((gz v.tr (gU v i).2.1).1=1\/(gz v.tr (gU v i).2.1).1=2))) (q:=λi=>decide ((gU v i).1=3/\(gz v.tr (gU v i).2.1).1=1)) (r:=λi=>decide ((gU v i).1=3/\(gz v.tr (gU v i).2.1).1=2)) (λi hi hp=>by
   have hp:=of_decide_eq_true hp;rcases hp.2 with e|e
   ·exact .inl (decide_eq_true ⟨hp.1,e⟩)
   ·exact .inr (decide_eq_true ⟨hp.1,e⟩))
  omega
 have q0:=hq.CJ 0;have q1:=hq.CJ 1;have q2:=hq.CJ 2;rw[hc] at q0 q1 q2;change _<=q at q0;change _<=q at q1;change _<=q at q2;have b0:=qf 0;have b1:=qf 1;have b2:=qf 2;show _<=3*min q 2
 omega
section
variable {P:Nat->V->(Nat->MS)->Prop}{v:V}
theorem UQ {i f o:Nat}{s:xy}{fr ou:(List Int)×Bool×Unit}(h:nz v i f o s fr ou):fP WX (((),(i:Int),()),v.e)=some (((ou.1.length:Int),()),v.e):=by
 have hl:=h.lt;simp only[fP,fF,V.e,↓xo,ot (show(i:Int)>=0 by omega),ot (show(i:Int)<16 by omega),ot (lC hl),zdH,zdF,zdJ,zdG,zdI,h.c,al,h.O,l7,aE h.O]
theorem UR {s:Nat}(h:GV P s v)(g:u9)(p:Unit×(List Int)×Unit)(l:List pf)(n:Int):ag (cn WX) ((l,(),(),n,0,0,()),g,p,v.e)=some (.inr ((l,(),(),n,((List.range 16).countP (NT v):Nat),()),g,p,v.e)):=by
 refine tO (b:=cn WX) (λi=>((l,(),(),n,(((List.range i).countP (NT v):Nat):Int),(i:Int),()),g,p,v.e)) (.inr ((l,(),(),n,(((List.range 16).countP (NT v):Nat):Int),()),g,p,v.e)) 16 (λi hi=>?_) ?_ 0 (by omega)
 ·obtain⟨f,o,s',fr,ou,nE,mj⟩:=h.ci i hi
  have hA:=M3 nE;have hW:=UQ nE;have hs:=uC nE;have hb:=mj.out;have e1:=jY hi (by omega)
  have C7:=List.countP_le_length (p:=NT v) (l:=List.range i);rw[zfx] at C7;have FG:(List.range (i+1)).countP (NT v)=(List.range i).countP (NT v)+(if s'.1=3 then 1 else 0):=by
   rw[zfy,List.countP_append,zfA,List.countP_nil];unfold NT;simp only[hs,zdU,zev]
  have w0: ¬(ou.1.length:Int)<0:=by omega
  have w1: ¬(ou.1.length:Int)>4096:=by omega
  simp only[V.e] at hA hW;by_cases h3:s'.1=3
  ·have Rz:(((List.range (i+1)).countP (NT v):Nat):Int)=i64.wrap ((((List.range i).countP (NT v):Nat):Int)+1):=by
    rw[FG,if_pos h3,nL (by omega) (by omega)];rfl
   simp only[cn,V.e,↓xo,xw,ot (show(i:Int)<16 by omega),zdH,zdG,hA,hW,zdF,ot h3,aV w0,aV w1,e1,Rz]
  ·have Rz:(List.range (i+1)).countP (NT v)=(List.range i).countP (NT v):=by rw[FG,if_neg h3];rfl
   simp only[cn,V.e,↓xo,xw,ot (show(i:Int)<16 by omega),zdH,zdG,hA,hW,zdF,aV h3,aV w0,aV w1,e1,Rz]
 ·simp only[cn,↓xo,aV (show¬((16:Nat):Int)<16 by omega),zdG]
theorem Rn {s:Nat}(h:GV P s v)(g:u9)(p:Unit×(List Int)×Unit)(l:List pf)(n:Int):ag (cJ WX) ((l,(),(),n,0,()),g,p,v.e)=some (.inr ((l,(),(),n,()),g,p,v.e)):=by
 obtain⟨μ,k,m,h1,_⟩:=h;refine tO (b:=cJ WX) (λi=>((l,(),(),n,(i:Int),()),g,p,v.e)) (.inr ((l,(),(),n,()),g,p,v.e)) 8 (λi hi=>?_) ?_ 0 (by omega)
 ·obtain⟨bs,ss,st,hM,hB,hI,hH⟩:=h1.ss.si.pK.at_ i hi
  have hp:=h1.ss.si.pK.mp i hi;have hL:=Ud (last:=(μ i).2.2.2.1) (no:=(μ i).2.2.2.2) hB hI;have nE:=hI.yW;have e1:=jY hi (by omega)
  have n1: ¬(i+1=0):=by omega
  simp only[cJ,V.e,aW,cN,↓xo,xw,ot (show(i:Int)<8 by omega),aV (show¬(i:Int)<0 by omega),aV (show¬(i:Int)>=8 by omega),ot (zU hi),zdH,zdG,zdI,hp,zdF,aV n1,al,hM,hL,aV (show¬iY (μ i).1+iY (μ i).2.1+((μ i).2.2.1.length:Int)>64 by omega),aE hM,e1]
 ·simp only[cJ,↓xo,aV (show¬((8:Nat):Int)<8 by omega),zdG]
theorem Li (pk:PK P){s:Nat}(h:GV P s v)(ua:List vn)(hl:ua.length<=3)(hs:s+3<=125)(kf: ∀x∈ua,A6 x)(g:u9)(p:Unit×(List Int)×Unit)(l:List pf)(i:Int): ∃v',ag (c8 WX) ((l,(),(),i,ua,(ua.length:Int),0,()),g,p,v.e)=some ((l,(),(),i,()),g,p,v'.e)/\GV P (s+3) v'/\v'.cfg=v.cfg:=by
 obtain⟨v',l1,l2,l3⟩:=oC (b:=c8 WX) ua.length (λj (w:V)=>((l,(),(),i,ua,(ua.length:Int),(j:Int),()),g,p,w.e)) (λw=>((l,(),(),i,()),g,p,w.e)) (λj w=>GV P (s+j) w/\w.cfg=v.cfg)
  (λj w hj hI=>by
   have hx:=zdL hj;obtain⟨ok,w',d1,d2,d3,_⟩:=NM pk hI.1 (by omega) (kf _ (zeT hj))
   have e1:=jY hj (by omega)
   generalize ua[j]=x at hx d1;exact⟨w',by simp only[c8,↓xo,xw,ot (show(j:Int)<(ua.length:Int) by omega),ot (show(0:Int)<=(j:Int) by omega),zdH,zdI,hx,zdF,d1,e1],d2,d3.trans hI.2⟩)
  (λw _=>by simp only[c8,↓xo,aV (show¬(ua.length:Int)<(ua.length:Int) by omega),zdG]) v ⟨h,rfl⟩
 exact⟨v',l1,l2.le (by omega),l3⟩
end
theorem eO.NQ (c:List Int)(l:List pf)(hc:Fa c)(hq: ∀q∈l,Vg q):eO WX ((c,l,()),())=some ((true,()),()):=by
 obtain⟨g,hg,h1,h2⟩:=yQ hc;have hqb:1<=g.2.2.2.2.2.2.2.1/\g.2.2.2.2.2.2.2.1<=4:=by
  obtain⟨a0,a1,a2,a3,a4,a5,b,r,t,lk,d,q,_,_,_,_,_,_,_,_,_,_,_,_,hq,rfl⟩:=hg.ex;exact hq
 have key:=pI (b:=c9 WX) (λq d=> ∃(i:Nat) (nx:List Int) (v:V),i<=30/\q=30-i/\d=((l,(),(),(i:Int),()),g,((),nx,()),v.e)/\nx.length=16/\GV PT (3*i) v/\v.cfg=g)
  (λr=> ∃x,r= .inr ((),x)) (λq d hd=>by
  obtain⟨i,nx,v,hi,rfl,rfl,hx,hv,P0⟩:=hd;by_cases a1:i<l.length
  ·by_cases a2:i<30
   ·have hm:=zdL a1
    obtain⟨Lc,ua,s1,s2,s3,s4⟩:=B8 hv.ci hx (hq _ (zeT a1));generalize l[i]=mv at hm s1;obtain⟨v',l1,l2,l3⟩:=Li Lf hv ua s3 (by omega) s4 g ((),Lc,()) l (i:Int)
    have k1:=UR l2 g ((),Lc,()) l (i:Int);have k2:=Rn l2 g ((),Lc,()) l (i:Int);have k3:=UP l2 hg (l3.trans P0);have e1:=jY a2 (by omega)
    have e2:i64.wrap (3*min g.2.2.2.2.2.2.2.1 2)=3*min g.2.2.2.2.2.2.2.1 2:=nL (by omega) (by omega)
    refine .inl ⟨((l,(),(),((i+1:Nat):Int),()),g,((),Lc,()),v'.e),?_,30-(i+1),by omega,i+1,Lc,v',by omega,rfl,rfl,s2,l2.le (by omega),l3.trans P0⟩
    simp only[V.e] at s1 l1 k1 k2⊢;simp only[c9,↓xo,xw,vu,↓xl,ot (show(i:Int)<(l.length:Int) by omega),ot (show(i:Int)<30 by omega),ot (show(0:Int)<=(i:Int) by omega),zdH,zdI,hm,zdF,s1,l1,k1,e2,aV (show¬(((List.range 16).countP (NT v'):Nat):Int)>3*min g.2.2.2.2.2.2.2.1 2 by omega),zdG,aW,k2,e1]
   ·exact .inr ⟨_,by simp only[c9,↓xo,ot (show(i:Int)<(l.length:Int) by omega),aV (show¬(i:Int)<30 by omega),zdH,zdG];rfl,_,rfl⟩
  ·exact .inr ⟨_,by simp only[c9,↓xo,aV (show¬(i:Int)<(l.length:Int) by omega),zdG];rfl,_,rfl⟩)
 obtain⟨r,k1,x,rfl⟩:=key 30 ((l,(),(),0,()),g,((),List.replicate 16 (0:Int),()),(v0 g).e) ⟨0,_,v0 g,by omega,by omega,rfl,by simp,UN hg trivial,rfl⟩
 have ha:=wV;simp only[V.e] at h2 k1;simp only[eO,h1,h2,zdF,↓xl,k1,ha]
def zR (ps:List (List Int))(j:Nat):Int:=ik ((List.range 32).map λn=>tb ps n j)
structure PS (ps:List (List Int))(b:Int):Prop where
 qo:wZ ps
 xr: ∀n j,n<32->j<8-> -b<=tb ps n j/\tb ps n j<=b
 Xj: ∀j,j<8->zR ps j=0
theorem PS.le {ps:List (List Int)}{b b':Int}(h:PS ps b)(hb:b<=b'):PS ps b':=⟨h.qo,λn j hn hj=>by have:=h.xr n j hn hj;omega,h.Xj⟩
def PU:Nat->V->(Nat->MS)->Prop:=λk v _=>k<=7000->PS v.ps (146800640*k)
theorem PU.more {k:Nat}{v:V}{μ:Nat->MS}(h:PU k v μ):PU (k+1) v μ:=λhk=>(h (by omega)).le (by omega)
theorem xd {c:List Int}(h:CC (.deep (.int .i64)) c):Fa c:=λx hx=>iq (h.2 x hx)
theorem FW {l:List pf}(h:CC (.deep Gj) l): ∀q∈l,Vg q:=λq hq=>by
 obtain⟨k,c,d,b,_⟩:=q;obtain⟨a1,a2,a3,_⟩:=h.2 _ hq;obtain⟨x0,x1,x2,x3,x4,y,_⟩:=d;obtain⟨b0,b1,b2,b3,b4,b5,_⟩:=a3;obtain⟨y0,y1,y2,y3,y4,y5,y6,_⟩:=y;obtain⟨c0,c1,c2,c3,c4,c5,c6,_⟩:=b5;exact⟨iq a1,iq a2,⟨iq b0,iq b1,iq b2,iq b3,iq b4,iq c0,iq c1,iq c2,iq c3,iq c4,iq c5,iq c6⟩⟩
theorem eO.law (a0:List Int)(a1:List pf)(h0:CC (.deep (.int .i64)) a0)(h1:CC (.deep Gj) a1):eO W0 ((a0,a1,()),())=some ((true,()),()):=by
 rw[Ke];exact eO.NQ a0 a1 (xd h0) (FW h1)
end AM
