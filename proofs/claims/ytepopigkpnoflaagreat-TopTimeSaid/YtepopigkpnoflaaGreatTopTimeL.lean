/- The law TopTime, in plain Lean. Conditions: none. -/
import Derived.Test.YtepopigkpnoflaaGreatTopTimeP
set_option linter.unusedVariables false
set_option linter.unusedSimpArgs false
set_option maxRecDepth 100000
namespace AM
open Go Go.Proofs IntKind
def PT:Nat->V->(Nat->MS)->Prop:=λ_ _ _=>True
theorem Lf:PK PT:=⟨λ_ _ _ _=>trivial,λ_ _ _ _ _ _=>trivial,λ_ _ _ _ _=>trivial,λ_=>trivial⟩
abbrev vN (v:V)(seen:List Int):=(((),v.c,(),(),()),(v.cfg,v.now,(),v.ph,v.mp,(),v.bp,v.lp,()),(v.tr,()),(v.op,v.ps,()),v.lg,(v.mt,()),seen,v.M,v.L,v.S,v.F,v.O,v.B,())
structure TI (v:V)(now:Int)(seen:List Int):Prop where
 tm:v.now=now
 len:seen.length=16
 s: ∀j,j<16->0<=seen.getD j 0/\seen.getD j 0<=now
 l: ∀j,j<16->(gU v j).1≠0->0<=(gU v j).2.2.2.2.1/\(gU v j).2.2.2.2.1<=seen.getD j 0/\now-(gU v j).2.2.2.2.1<idle v
theorem GV.now {P}{s:Nat}{v:V}(h:GV P s v):0<=v.now/\v.now<=1099511627776:=by obtain⟨_,_,_,h1,_⟩:=h;exact h1.ss.now
theorem Lg {l:List Int}{i:Nat}(hi:i<l.length)(x:Int)(j:Nat):(l.set i x).getD j 0=if j=i then x else l.getD j 0:=by
 simp only[zdW,zfc];by_cases e:i=j
 ·subst e;simp[hi]
 ·rw[if_neg e,if_neg (λq=>e q.symm)]
theorem Xi {v v':V}{now:Int}{seen:List Int}{st:vn}{ok:Bool}(h:TI v now seen)(hv:0<=v'.now/\v'.now<=1099511627776)(hd:1<=idle v)(hr:Rel st ok v v'):
  TI v' (if ok=true/\st.1=4 then now+st.2.2.1 else now) (if ok=true/\st.1≠4 then seen.set st.2.1.toNat now else seen):=by
 obtain⟨hc,hr⟩:=hr;have oT:idle v'=idle v:=by unfold idle;rw[hc]
 rcases hr with⟨rfl,rfl⟩|⟨rfl,h4,i,hi,kf,he⟩|⟨rfl,h4,hn,uH,hs⟩
 ·rw[if_neg (by simp),if_neg (by simp)];exact h
 ·rw[if_neg (λq=>h4 q.2),if_pos ⟨rfl,h4⟩,kf,zdI]
  have hil:i<seen.length:=by rw[h.len];exact hi
  have hnn:0<=now:=by have:=h.s i hi;omega
  refine⟨he.now.trans h.tm,by rw[zej];exact h.len,λj hj=>?_,λj hj h0=>?_⟩
  ·rw[Lg hil]
   split
   ·omega
   ·exact h.s j hj
  ·rw[Lg hil,oT]
   rcases he.gU j hj with e|e|⟨e1,e2⟩
   ·rw[e] at h0⊢
    have:=h.l j hj h0;have:=h.s j hj;split<;>omega
   ·exact absurd e h0
   ·rw[e2,h.tm,if_pos e1];omega
 ·rw[if_pos ⟨rfl,h4⟩,if_neg (λq=>q.2 h4)]
  have zdE:=h.tm;refine⟨by rw[uH,h.tm],h.len,λj hj=>?_,λj hj h0=>?_⟩
  ·have:=h.s j hj;omega
  ·rw[oT]
   rcases hs j hj with e|⟨e1,e2⟩
   ·exact absurd e h0
   ·rw[e1] at h0⊢
    have a1:=h.l j hj h0;have a2:=h.s j hj;unfold C3 at e2;have e3:=of_decide_eq_false e2;have e4:i64.wrap (v'.now-(gU v j).2.2.2.2.1)=v'.now-(gU v j).2.2.2.2.1:=nL (by omega) (by omega)
    rw[e4] at e3;have: ¬(v'.now-(gU v j).2.2.2.2.1>=idle v):=λq=>e3 ⟨h0,q⟩;omega
theorem NO {s:Nat}{v:V}{now:Int}{seen:List Int}(h:GV PT s v)(ht:TI v now seen)(hd:1<=idle v)(ua:List vn)(hl:ua.length<=3)(hs:s+3<=125)(kf: ∀x∈ua,A6 x)(g:u9)(p:Unit×(List Int)×Unit)(l:List pf)(i:Int):
  ∃v' E7 FV,ag (br WX) ((l,(),(),now,(),i,ua,(ua.length:Int),0,()),g,p,vN v seen)=some ((l,(),(),E7,(),i,()),g,p,vN v' FV)/\GV PT (s+3) v'/\v'.cfg=v.cfg/\TI v' E7 FV:=by
 obtain⟨⟨v',E7,FV⟩,l1,l2,l3,l4⟩:=oC (b:=br WX) ua.length (λj (w:V×Int×List Int)=>((l,(),(),w.2.1,(),i,ua,(ua.length:Int),(j:Int),()),g,p,vN w.1 w.2.2)) (λw=>((l,(),(),w.2.1,(),i,()),g,p,vN w.1 w.2.2)) (λj w=>GV PT (s+j) w.1/\w.1.cfg=v.cfg/\TI w.1 w.2.1 w.2.2)
  (λj w hj hI=>by
   obtain⟨w,no,se⟩:=w;obtain⟨i1,i2,i3⟩:=hI;simp only at i1 i2 i3;have hx:=zdL hj;have mj:=kf _ (zeT hj);have oT:idle w=idle v:=by unfold idle;rw[i2]
   obtain⟨ok,w',d1,d2,d3⟩:=NM Lf i1 (by omega) mj
   have e1:=jY hj (by omega)
   have ti:=Xi i3 d2.now (by rw[oT];exact hd) d3
   have H5:=i1.now;have Dv:=d2.now;have uH:=i3.tm;generalize ua[j]=x at hx d1 d3 ti mj;simp only[V.e] at d1;have dc:=d3.1.trans i2;cases zcu:ok with
   |false=>
    rw[zcu] at d1 ti;rw[if_neg (by simp),if_neg (by simp)] at ti
    refine⟨(w',no,se),?_,d2,dc,ti⟩;by_cases h4:x.1=4
    ·simp only[br,↓xo,xw,ot (show(j:Int)<(ua.length:Int) by omega),ot (show(0:Int)<=(j:Int) by omega),zdH,zdG,zdI,hx,zdF,d1,e1]
    ·simp only[br,↓xo,xw,ot (show(j:Int)<(ua.length:Int) by omega),ot (show(0:Int)<=(j:Int) by omega),zdH,zdG,zdI,hx,zdF,d1,e1]
   |true=>
    rw[zcu] at d1 d3 ti;by_cases h4:x.1=4
    ·rw[if_pos ⟨rfl,h4⟩,if_neg (λq=>q.2 h4)] at ti
     refine⟨(w',no+x.2.2.1,se),?_,d2,dc,ti⟩;have hw:i64.wrap (no+x.2.2.1)=no+x.2.2.1:=by
      rcases d3.2 with⟨q,_⟩|⟨_,q,_⟩|⟨_,_,q1,q2,_⟩
      ·cases q
      ·exact absurd h4 q
      ·exact nL (by omega) (by omega)
     simp only[br,↓xo,xw,ot (show(j:Int)<(ua.length:Int) by omega),ot (show(0:Int)<=(j:Int) by omega),zdH,zdG,zdI,hx,zdF,d1,ot h4,zdJ,hw,e1]
    ·rw[if_neg (λq=>h4 q.2),if_pos ⟨rfl,h4⟩] at ti
     refine⟨(w',no,se.set x.2.1.toNat no),?_,d2,dc,ti⟩;have xF:0<=x.2.1/\x.2.1<(16:Nat):=by
      rcases d3.2 with⟨q,_⟩|⟨_,_,i',q1,q2,_⟩|⟨_,q,_⟩
      ·cases q
      ·rw[q2];omega
      ·exact absurd q h4
     obtain⟨y,hy⟩: ∃y,se[x.2.1.toNat]?=some y:=⟨_,zdL (by rw[i3.len];omega)⟩
     simp only[br,↓xo,xw,ot (show(j:Int)<(ua.length:Int) by omega),ot (show(0:Int)<=(j:Int) by omega),zdH,zdG,zdI,hx,zdF,d1,aV h4,zdK,ot xF,hy,e1])
  (λw _=>by simp only[br,↓xo,aV (show¬(ua.length:Int)<(ua.length:Int) by omega),zdG]) (v,now,seen) ⟨h,rfl,ht⟩
 exact⟨v',E7,FV,l1,l2.le (by omega),l3,l4⟩
theorem NP {s:Nat}{v:V}{now:Int}{seen:List Int}(h:GV PT s v)(ht:TI v now seen)(p:Unit×(List Int)×Unit)(l:List pf)(i:Int):ag (bY WX) ((l,(),(),now,(),i,0,()),v.cfg,p,vN v seen)=some (.inr ((l,(),(),now,(),i,()),v.cfg,p,vN v seen)):=by
 have Eb:=h.now;have uH:=ht.tm;refine tO (b:=bY WX) (λj=>((l,(),(),now,(),i,(j:Int),()),v.cfg,p,vN v seen)) (.inr ((l,(),(),now,(),i,()),v.cfg,p,vN v seen)) 16 (λj hj=>?_) ?_ 0 (by omega)
 ·obtain⟨f,o,s',fr,ou,nE,mj⟩:=h.ci j hj
  have hA:=M3 nE;have hs:=uC nE;have e1:=jY hj (by omega)
  simp only[V.e] at hA;by_cases h0:s'.1=0
  ·simp only[bY,↓xo,xw,ot (show(j:Int)<16 by omega),zdH,hA,zdF,ot h0,zdJ,zdG,e1]
  ·have a1:=ht.l j hj (by rw[hs];exact h0)
   have a2:=ht.s j hj;rw[hs] at a1;have hy:seen[j]?=some (seen.getD j 0):=AX (by rw[ht.len];exact hj) 0
   have e2:i64.wrap (now-seen.getD j 0)=now-seen.getD j 0:=nL (by omega) (by omega)
   simp only[bY,↓xo,xw,ot (show(j:Int)<16 by omega),zdH,hA,zdF,aV h0,zdK,ot (FU hj),zdI,hy,e2,aV (show¬now-seen.getD j 0>=v.cfg.2.2.2.2.2.2.1 by unfold idle at a1;omega),zdG,e1]
 ·simp only[bY,↓xo,aV (show¬((16:Nat):Int)<16 by omega),zdG]
theorem fg.NQ (c:List Int)(l:List pf)(hc:Fa c)(hq: ∀q∈l,Vg q):fg WX ((c,l,()),())=some ((true,()),()):=by
 obtain⟨g,hg,h1,h2⟩:=yQ hc;have hdl:1<=idle (v0 g):=by
  obtain⟨a0,a1,a2,a3,a4,a5,b,r,t,lk,d,q,_,_,_,_,_,_,_,_,_,_,_,hd,_,rfl⟩:=hg.ex;exact hd.1
 have key:=pI (b:=dA WX) (λq d=> ∃(i:Nat) (nx:List Int) (v:V) (now:Int) (seen:List Int),i<=30/\q=30-i/\d=((l,(),(),now,(),(i:Int),()),g,((),nx,()),vN v seen)/\nx.length=16/\GV PT (3*i) v/\v.cfg=g/\TI v now seen)
  (λr=> ∃x,r= .inr ((),x)) (λq d hd=>by
  obtain⟨i,nx,v,now,seen,hi,rfl,rfl,hx,hv,P0,ht⟩:=hd;by_cases a1:i<l.length
  ·by_cases a2:i<30
   ·have hm:=zdL a1
    obtain⟨Lc,ua,s1,s2,s3,s4⟩:=B8 hv.ci hx (hq _ (zeT a1));generalize l[i]=mv at hm s1;have oT:1<=idle v:=by
     have e:idle v=idle (v0 g):=by unfold idle;rw[P0];rfl
     rw[e];exact hdl
    obtain⟨v',E7,FV,l1,l2,l3,l4⟩:=NO hv ht oT ua s3 (by omega) s4 g ((),Lc,()) l (i:Int)
    have hck:=NP l2 l4 ((),Lc,()) l (i:Int);rw[l3,P0] at hck;have e1:=jY a2 (by omega)
    have uH:=l4.tm;refine .inl ⟨((l,(),(),E7,(),((i+1:Nat):Int),()),g,((),Lc,()),vN v' FV),?_,30-(i+1),by omega,i+1,Lc,v',E7,FV,by omega,rfl,rfl,s2,l2.le (by omega),l3.trans P0,l4⟩
    simp only[V.e] at s1;simp only[dA,↓xo,xw,↓xl,ot (show(i:Int)<(l.length:Int) by omega),ot (show(i:Int)<30 by omega),ot (show(0:Int)<=(i:Int) by omega),zdH,zdI,hm,zdF,s1,l1,aW,aQ,ot uH,zdJ,zdG,hck,e1]
   ·exact .inr ⟨_,by simp only[dA,↓xo,ot (show(i:Int)<(l.length:Int) by omega),aV (show¬(i:Int)<30 by omega),zdH,zdG];rfl,_,rfl⟩
  ·exact .inr ⟨_,by simp only[dA,↓xo,aV (show¬(i:Int)<(l.length:Int) by omega),zdG];rfl,_,rfl⟩)
 have hti:TI (v0 g) 0 (List.replicate 16 (0:Int)):=⟨rfl,by simp,λj hj=>by
  rw[zdW,pc hj];exact⟨zeL _,zeL _⟩,λj hj h0=>by
  rw[UL g hj] at h0;exact absurd rfl h0⟩
 obtain⟨r,k1,x,rfl⟩:=key 30 ((l,(),(),0,(),0,()),g,((),List.replicate 16 (0:Int),()),vN (v0 g) (List.replicate 16 (0:Int))) ⟨0,_,v0 g,0,_,by omega,by omega,rfl,by simp,UN hg trivial,rfl,hti⟩
 have ha:=wV;simp only[V.e] at h2;simp only[fg,h1,h2,zdF,aW,↓xl,k1,ha]
def zR (ps:List (List Int))(j:Nat):Int:=ik ((List.range 32).map λn=>tb ps n j)
structure PS (ps:List (List Int))(b:Int):Prop where
 qo:wZ ps
 xr: ∀n j,n<32->j<8-> -b<=tb ps n j/\tb ps n j<=b
 Xj: ∀j,j<8->zR ps j=0
theorem PS.le {ps:List (List Int)}{b b':Int}(h:PS ps b)(hb:b<=b'):PS ps b':=⟨h.qo,λn j hn hj=>by have:=h.xr n j hn hj;omega,h.Xj⟩
def PU:Nat->V->(Nat->MS)->Prop:=λk v _=>k<=7000->PS v.ps (146800640*k)
theorem PU.more {k:Nat}{v:V}{μ:Nat->MS}(h:PU k v μ):PU (k+1) v μ:=λhk=>(h (by omega)).le (by omega)
theorem xd {c:List Int}(h:CC (.deep (.int .i64)) c):Fa c:=λx hx=>iq (h.2 x hx)
theorem FW {l:List pf}(h:CC (.deep Gj) l): ∀q∈l,Vg q:=λq hq=>by
 obtain⟨k,c,d,b,_⟩:=q;obtain⟨a1,a2,a3,_⟩:=h.2 _ hq;obtain⟨x0,x1,x2,x3,x4,y,_⟩:=d;obtain⟨b0,b1,b2,b3,b4,b5,_⟩:=a3;obtain⟨y0,y1,y2,y3,y4,y5,y6,_⟩:=y;obtain⟨c0,c1,c2,c3,c4,c5,c6,_⟩:=b5;exact⟨iq a1,iq a2,⟨iq b0,iq b1,iq b2,iq b3,iq b4,iq c0,iq c1,iq c2,iq c3,iq c4,iq c5,iq c6⟩⟩
theorem fg.law (a0:List Int)(a1:List pf)(h0:CC (.deep (.int .i64)) a0)(h1:CC (.deep Gj) a1):fg W0 ((a0,a1,()),())=some ((true,()),()):=by
 rw[Ke];exact fg.NQ a0 a1 (xd h0) (FW h1)
end AM
