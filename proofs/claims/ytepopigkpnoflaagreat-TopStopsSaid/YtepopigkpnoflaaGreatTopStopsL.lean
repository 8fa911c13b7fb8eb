/- The law TopStops, in plain Lean. Conditions: none. -/
import Derived.Test.YtepopigkpnoflaaGreatTopStopsP
set_option linter.unusedVariables false
set_option linter.unusedSimpArgs false
set_option maxRecDepth 100000
namespace AM
open Go Go.Proofs IntKind
def PT:Nat->V->(Nat->MS)->Prop:=λ_ _ _=>True
theorem Lf:PK PT:=⟨λ_ _ _ _=>trivial,λ_ _ _ _ _ _=>trivial,λ_ _ _ _ _=>trivial,λ_=>trivial⟩
theorem GV.now {P}{s:Nat}{v:V}(h:GV P s v):0<=v.now/\v.now<=1099511627776:=by obtain⟨_,_,_,h1,_⟩:=h;exact h1.ss.now
theorem Rl (b:List dP)(h:b.length<=1000000):bt WX ((b,()),())=some (((),()),(b,())):=by
 have hr:af ((((([]:List dP).length+b.length:Nat):Int))*((72:Nat):Int)<=((room:Nat):Int))=true:=ot (by unfold room;simp only[zdR];omega)
 by_cases h0:b=[]
 ·subst h0
  have h2:(([]:List dP).length:Int)=0:=rfl;simp only[bt,↓xo,ot h2,hr,zdH,zeG,eq_self,iX]
 ·have h1: ¬(b.length:Int)=0:=by
   have:=List.length_pos_iff.2 h0;omega
  simp only[bt,↓xo,aV h1,zdG,hr,zdH,zeG]
section
variable {P:Nat->V->(Nat->MS)->Prop}{v:V}{i:Nat}
theorem C4 {s:Int}{A:List nI}(h:ma s A){o:dP}(ho:o∈rI A): ∃a∈A,Od.aZ o=a.1:=by
 unfold rI at ho;obtain⟨a,ha,ho⟩:=List.mem_flatMap.1 ho;obtain⟨e,he,rfl⟩:=List.mem_map.1 ho;exact⟨a,ha,(h.O9 a ha e he).2.aZ⟩
theorem NR {μ:Nat->MS}(hm:A2 v μ)(hi:i<8)(p:Unit×(List Int)×Unit):ag (cI WX) (((),(i:Int),i+1,(μ i).2.2.1,((μ i).2.2.1.length:Int),0,()),p,v.e)=some (.inr (((),(i:Int),i+1,()),p,v.e)):=by
 obtain⟨bs,ss,st,hM,hB,hI,hH⟩:=hm.at_ i hi;have hl:=hI.len;refine tO (b:=cI WX) (λj=>(((),(i:Int),i+1,(μ i).2.2.1,((μ i).2.2.1.length:Int),(j:Int),()),p,v.e)) (.inr (((),(i:Int),i+1,()),p,v.e)) (μ i).2.2.1.length (λj hj=>?_) ?_ 0 (by omega)
 ·have hx:=zdL hj
  have hh:=hH _ (zeT hj);have e1:=jY hj (by omega)
  generalize ((μ i).2.2.1)[j]=x at hx hh;have hho:=I4 x (μ i).2.2.2.1;rw[hh] at hho;simp only[cI,V.e,↓xo,xw,ot (show(j:Int)<((μ i).2.2.1.length:Int) by omega),ot (show(0:Int)<=(j:Int) by omega),zdH,zdI,hx,zdF,al,hM,bW,aE hM,gm,hho,zdG,e1]
 ·simp only[cI,↓xo,aV (show¬((μ i).2.2.1.length:Int)<((μ i).2.2.1.length:Int) by omega),zdG]
theorem Lh {μ:Nat->MS}(hm:A2 v μ)(p:Unit×(List Int)×Unit):ag (bd WX) (((),0,()),p,v.e)=some (.inr ((),p,v.e)):=by
 refine tO (b:=bd WX) (λi=>(((),(i:Int),()),p,v.e)) (.inr ((),p,v.e)) 8 (λi hi=>?_) ?_ 0 (by omega)
 ·obtain⟨bs,ss,st,hM,hB,hI,hH⟩:=hm.at_ i hi
  have hp:=hm.mp i hi;have hl:=hI.len;have hw:=NR hm hi p;have Gh:=Rl (μ i).2.2.1 (by omega)
  have o1:=yL (last:=(μ i).2.2.2.1) (no:=(μ i).2.2.2.2) hB hI.bi 1 (.inl rfl);have o2:=yL (last:=(μ i).2.2.2.1) (no:=(μ i).2.2.2.2) hB hI.bi 2 (.inr rfl);rw[if_pos rfl] at o1;rw[if_neg (by omega)] at o2
  have e1:=jY hi (by omega)
  have n1: ¬(i+1=0):=by omega
  have z0:(0:Int)<=0:=by omega
  have t0:(0:Int).toNat=0:=rfl;simp only[V.e] at hw;cases hA:rI (μ i).1 with
  |nil=>
   rw[hA] at o1;simp only[bd,V.e,aW,cN,↓xo,xw,↓xl,ot (show(i:Int)<8 by omega),aV (show¬(i:Int)<0 by omega),aV (show¬(i:Int)>=8 by omega),ot (zU hi),zdH,zdG,zdI,hp,zdF,aV n1,al,hM,bW,aE hM,fx,Gh,hw,o1,o2,zdR,aV (show¬((0:Nat):Int)>0 by omega),e1]
  |cons x A=>
   rw[hA] at o1;cases hB2:rI (μ i).2.1 with
   |nil=>
    rw[hB2] at o2;simp only[bd,V.e,aW,cN,↓xo,xw,↓xl,ot (show(i:Int)<8 by omega),aV (show¬(i:Int)<0 by omega),aV (show¬(i:Int)>=8 by omega),ot (zU hi),zdH,zdG,zdI,hp,zdF,aV n1,al,hM,bW,aE hM,fx,Gh,hw,o1,o2,zdQ,zdR,ot (show((A.length+1:Nat):Int)>0 by omega),aV (show¬((0:Nat):Int)>0 by omega),e1]
   |cons y B=>
    rw[hB2] at o2;obtain⟨a,ha,hpa⟩:=C4 hI.bi.yu (o:=x) (by rw[hA];exact zdT ..)
    obtain⟨b,hb,hpb⟩:=C4 hI.bi.sU (o:=y) (by rw[hB2];exact zdT ..)
    have hun:=hI.bi.TX a ha b hb;have rZ: ¬x.2.2.2.2.2.1>=y.2.2.2.2.2.1:=by
     show¬Od.aZ x>=Od.aZ y
     omega
    simp only[bd,V.e,aW,cN,↓xo,xw,↓xl,ot (show(i:Int)<8 by omega),aV (show¬(i:Int)<0 by omega),aV (show¬(i:Int)>=8 by omega),ot (zU hi),zdH,zdG,zdI,hp,zdF,aV n1,al,hM,bW,aE hM,fx,Gh,hw,o1,o2,zdQ,ot (show((A.length+1:Nat):Int)>0 by omega),ot (show((B.length+1:Nat):Int)>0 by omega),ot z0,t0,zei,aV rZ,e1]
 ·simp only[bd,↓xo,aV (show¬((8:Nat):Int)<8 by omega),zdG]
end
theorem eN.NQ (c:List Int)(l:List pf)(hc:Fa c)(hq: ∀q∈l,Vg q):eN WX ((c,l,()),())=some ((true,()),()):=by
 obtain⟨g,hg,h1,h2⟩:=yQ hc;obtain⟨p,v,p1,⟨μ,k,m,p2,_⟩,p3⟩:=Le Lf hg h2 l hq 40 (by omega) trivial
 have hs:=Lh p2.ss.si.pK p;have ha:=wV;change gQ WX ((c,l,40,()),())=_ at p1;simp only[V.e] at p1 hs;simp only[eN,p1,zdF,aW,↓xl,hs,ha]
def zR (ps:List (List Int))(j:Nat):Int:=ik ((List.range 32).map λn=>tb ps n j)
structure PS (ps:List (List Int))(b:Int):Prop where
 qo:wZ ps
 xr: ∀n j,n<32->j<8-> -b<=tb ps n j/\tb ps n j<=b
 Xj: ∀j,j<8->zR ps j=0
theorem PS.le {ps:List (List Int)}{b b':Int}(h:PS ps b)(hb:b<=b'):PS ps b':=⟨h.qo,λn j hn hj=>by have:=h.xr n j hn hj;omega,h.Xj⟩
def PU:Nat->V->(Nat->MS)->Prop:=λk v _=>k<=7000->PS v.ps (146800640*k)
theorem PU.more {k:Nat}{v:V}{μ:Nat->MS}(h:PU k v μ):PU (k+1) v μ:=λhk=>(h (by omega)).le (by omega)
theorem xd {c:List Int}(h:CC (.deep (.int .i64)) c):Fa c:=λx hx=>iq (h.2 x hx)
theorem FW {l:List pf}(h:CC (.deep Gj) l): ∀q∈l,Vg q:=λq hq=>by
 obtain⟨k,c,d,b,_⟩:=q;obtain⟨a1,a2,a3,_⟩:=h.2 _ hq;obtain⟨x0,x1,x2,x3,x4,y,_⟩:=d;obtain⟨b0,b1,b2,b3,b4,b5,_⟩:=a3;obtain⟨y0,y1,y2,y3,y4,y5,y6,_⟩:=y;obtain⟨c0,c1,c2,c3,c4,c5,c6,_⟩:=b5;exact⟨iq a1,iq a2,⟨iq b0,iq b1,iq b2,iq b3,iq b4,iq c0,iq c1,iq c2,iq c3,iq c4,iq c5,iq c6⟩⟩
theorem eN.law (a0:List Int)(a1:List pf)(h0:CC (.deep (.int .i64)) a0)(h1:CC (.deep Gj) a1):eN W0 ((a0,a1,()),())=some ((true,()),()):=by
 rw[Ke];exact eN.NQ a0 a1 (xd h0) (FW h1)
end AM
