/- The law TopSums, in plain Lean. Conditions: none. -/
import Derived.Test.YtepopigkpnoflaaGreatTopSumsP
set_option linter.unusedVariables false
set_option linter.unusedSimpArgs false
set_option maxRecDepth 100000
namespace AM
open Go Go.Proofs IntKind
theorem GV.now {P}{s:Nat}{v:V}(h:GV P s v):0<=v.now/\v.now<=1099511627776:=by obtain⟨_,_,_,h1,_⟩:=h;exact h1.ss.now
def zR (ps:List (List Int))(j:Nat):Int:=ik ((List.range 32).map λn=>tb ps n j)
theorem Pu {f g:Nat->Int}{n:Nat}(h: ∀m,m≠n->g m=f m): ∀N,ik ((List.range N).map g)=ik ((List.range N).map f)+(if n<N then g n-f n else 0)
 |0=>by simp[ik]
 |N+1=>by
  have ih:=Pu h N;rw[zfy,zfo,zfo,kT,kT,ih];have e: ∀k:Nat->Int,ik ([N].map k)=k N:=λk=>by simp[ik]
  rw[e,e];by_cases q:N=n
  ·subst q
   rw[if_neg (by omega),if_pos (by omega)];omega
  ·rw[h N q]
   by_cases q2:n<N
   ·rw[if_pos q2,if_pos (by omega)];omega
   ·rw[if_neg q2,if_neg (by omega)];omega
structure PS (ps:List (List Int))(b:Int):Prop where
 qo:wZ ps
 xr: ∀n j,n<32->j<8-> -b<=tb ps n j/\tb ps n j<=b
 Xj: ∀j,j<8->zR ps j=0
theorem PS.le {ps:List (List Int)}{b b':Int}(h:PS ps b)(hb:b<=b'):PS ps b':=⟨h.qo,λn j hn hj=>by have:=h.xr n j hn hj;omega,h.Xj⟩
theorem Lj {ps:List (List Int)}(h:wZ ps){n i:Nat}(hn:n<32)(hi:i<8)(x:Int)(j:Nat):zR (Fy ps n i x) j=zR ps j+(if j=i then x-tb ps n i else 0):=by
 have:=Pu (f:=λm=>tb ps m j) (g:=λm=>tb (Fy ps n i x) m j) (n:=n) (λm hm=>by simp only[tv h hn hi,if_neg (λq:m=n/\j=i=>hm q.1)]) 32
 rw[if_pos hn] at this;unfold zR;rw[this,tv h hn hi];by_cases e:j=i
 ·subst e;rw[if_pos ⟨rfl,rfl⟩,if_pos rfl]
 ·rw[if_neg (λq=>e q.2),if_neg e];omega
theorem Xl {ps:List (List Int)}{b:Int}(h:PS ps b){i:Nat}(hi:i<8){f:mS}(h1:0<=f.1.1/\f.1.1<=31)(h2:0<=f.2.1.1/\f.2.1.1<=31)(hs:(Od.side f.1=1/\Od.side f.2.1=2)\/(Od.side f.1=2/\Od.side f.2.1=1))(hq:1<=Fl.eD f)(hb:b+2*Fl.eD f<=1099511627776):PS (A3 i ps f) (b+2*Fl.eD f):=by
 obtain⟨n1,e1⟩:=zfz h1.1;obtain⟨n2,e2⟩:=zfz h2.1;have H5:n1<32:=by omega
 have Dv:n2<32:=by omega
 have b1:=h.xr n1 i H5 hi;have hsg:xa (Od.side f.1) (Fl.eD f)+xa (Od.side f.2.1) (Fl.eD f)=0/\ -Fl.eD f<=xa (Od.side f.1) (Fl.eD f)/\xa (Od.side f.1) (Fl.eD f)<=Fl.eD f:=by
  unfold xa;rcases hs with⟨s1,s2⟩|⟨s1,s2⟩<;>rw[s1,s2]<;>simp<;>omega
 have v1:Ug (tb ps n1 i+xa (Od.side f.1) (Fl.eD f)) (-1099511627776) 1099511627776=true:=decide_eq_true (by omega)
 have r1:=wk h.qo n1 i (tb ps n1 i+xa (Od.side f.1) (Fl.eD f)) H5;have t1:=tv h.qo H5 hi (tb ps n1 i+xa (Od.side f.1) (Fl.eD f));have b2: -(b+Fl.eD f)<=tb (Fy ps n1 i (tb ps n1 i+xa (Od.side f.1) (Fl.eD f))) n2 i/\tb (Fy ps n1 i (tb ps n1 i+xa (Od.side f.1) (Fl.eD f))) n2 i<=b+Fl.eD f:=by
  rw[t1];have:=h.xr n2 i Dv hi;split<;>omega
 have v2:Ug (tb (Fy ps n1 i (tb ps n1 i+xa (Od.side f.1) (Fl.eD f))) n2 i+xa (Od.side f.2.1) (Fl.eD f)) (-1099511627776) 1099511627776=true:=decide_eq_true (by omega)
 have hf:A3 i ps f=Fy (Fy ps n1 i (tb ps n1 i+xa (Od.side f.1) (Fl.eD f))) n2 i (tb (Fy ps n1 i (tb ps n1 i+xa (Od.side f.1) (Fl.eD f))) n2 i+xa (Od.side f.2.1) (Fl.eD f)):=by
  unfold A3 KZ;simp only[e1,e2,Int.ofNat_eq_natCast,zdI,v1,v2,if_true]
 rw[hf];have t2:=tv r1 Dv hi (tb (Fy ps n1 i (tb ps n1 i+xa (Od.side f.1) (Fl.eD f))) n2 i+xa (Od.side f.2.1) (Fl.eD f));refine⟨wk r1 n2 i _ Dv,λn j hn hj=>?_,λj hj=>?_⟩
 ·rw[t2]
  have:=h.xr n j hn hj;split
  ·omega
  ·rw[t1];split<;>omega
 ·rw[Lj r1 Dv hi,Lj h.qo H5 hi,h.Xj j hj]
  split<;>omega
theorem Jq (f:mS)(l:List mS):jF (f::l)=Fl.eD f+jF l:=by simp[jF,ik]
theorem Ll {i:Nat}(hi:i<8): ∀(fs:List mS) {ps:List (List Int)} {b:Int},PS ps b->(∀f∈fs,(0<=f.1.1/\f.1.1<=31)/\(0<=f.2.1.1/\f.2.1.1<=31)/\((Od.side f.1=1/\Od.side f.2.1=2)\/(Od.side f.1=2/\Od.side f.2.1=1))/\1<=Fl.eD f)->b+2*jF fs<=1099511627776->PS (xb i ps fs) (b+2*jF fs)
 | [],ps,b,h,_,_=>by
  have:jF []=0:=rfl;rw[this];exact h.le (by omega)
 |f::fs,ps,b,h,hf,hb=>by
  rw[Jq] at hb⊢;obtain⟨a1,a2,a3,a4⟩:=hf f (zdT ..);have hn:=uA (l:=fs) λx hx=>(hf x (zdS _ hx)).2.2.2;have h1:=Xl h hi a1 a2 a3 a4 (by omega)
  have h2:=Ll hi fs h1 (λx hx=>hf x (zdS _ hx)) (by omega)
  exact h2.le (by omega)
theorem Pv {i:Nat}(hi:i<8): ∀(l:List lU) {ps:List (List Int)} {b:Int},PS ps b->(∀x∈l,pY x)->b+2097152*l.length<=1099511627776->PS (sW i ps l) (b+2097152*l.length)
 | [],ps,b,h,_,_=>h.le (by simp)
 |x::l,ps,b,h,hx,hb=>by
  simp only[zdQ] at hb⊢;have hc:=hx x (zdT ..);have hs:=hc.sum;have h1:=Ll hi x.2.1 h hc.zl (by omega)
  have h2:=Pv hi l (h1.le (show b+2*jF x.2.1<=b+2097152 by omega)) (λy hy=>hx y (zdS _ hy)) (by omega)
  exact h2.le (by omega)
def PU:Nat->V->(Nat->MS)->Prop:=λk v _=>k<=7000->PS v.ps (146800640*k)
theorem PU.more {k:Nat}{v:V}{μ:Nat->MS}(h:PU k v μ):PU (k+1) v μ:=λhk=>(h (by omega)).le (by omega)
theorem Pw {k i:Nat}{v v':V}{μ μ':Nat->MS}{l:List lU}(h:PU k v μ)(hi:i<8)(hl:l.length<=70)(hx: ∀x∈l,pY x)(hp:v'.ps=sW i v.ps l):PU (k+1) v' μ':=λhk=>by
 rw[hp];exact(Pv hi l (h (by omega)) hx (by omega)).le (by omega)
theorem Px {v:V}{μ:Nat->MS}(hm:A2 v μ){i:Nat}(hi:i<8)(o:dP):(kY o (μ i)).2.length<=70/\∀x∈(kY o (μ i)).2,pY x:=by
 obtain⟨bs,ss,fy,hM,hB,hI,hH⟩:=hm.at_ i hi;obtain⟨_,_,_,_,_,_,_,a5⟩:=Nt (last:=(μ i).2.2.2.1) (no:=(μ i).2.2.2.2) hB hI o;exact⟨a5,zQ o (μ i) hI⟩
theorem HB {v:V}{μ:Nat->MS}(hm:A2 v μ){i:Nat}(hi:i<8)(t d p q:Int):(ga t d p q (μ i)).2.2.length<=70/\∀x∈(ga t d p q (μ i)).2.2,pY x:=by
 obtain⟨bs,ss,fy,hM,hB,hI,hH⟩:=hm.at_ i hi;obtain⟨_,_,_,_,_,_,_,a5,a6⟩:=KW (last:=(μ i).2.2.2.1) (no:=(μ i).2.2.2.2) hB hI hH t d p q;exact⟨a6,a5⟩
theorem zcv:PK PU:=by
 refine⟨λh _ hp _ hk=>by rw[hp];exact h hk,λ_ h _ _ hp _ hk=>by rw[hp];exact h hk,fun{k v μ v' μ'} hs h _ _ hc=>?_,PU.more⟩
 generalize hps:v'.ps=Xr at hc;cases hc with
 |same=>exact λhk=>by rw[hps];exact PU.more h hk
 |Pn x _ _=>exact λhk=>by rw[hps];exact PU.more h hk
 |rem i t d hi=>exact λhk=>by rw[hps];exact PU.more h hk
 |add i o hi _=>exact Pw h hi (Px hs.si.pK hi o).1 (Px hs.si.pK hi o).2 hps
 |K5 i n d p q lS hi _ _ _=>exact Pw h hi (HB hs.si.pK hi n d p q).1 (HB hs.si.pK hi n d p q).2 hps
theorem NU (t:Int)(all:List dP)(h: ∀o∈all,1<=Od.eD o/\Od.eD o<=1048576)(hl:all.length<=64):ag (gp WX) ((t,0,all,(all.length:Int),0,()),())=some ((rP t all,()),()):=by
 have e:gp WX=gl WX:=rfl;rw[e];exact Ht t all h hl
section
variable {v:V}{μ:Nat->MS}{i:Nat}
theorem Xm (hm:A2 v μ)(hi:i<8)(n:Int):iW WX ((i+1,n,()),v.M,())=some ((wi n (μ i),()),v.M,()):=by
 obtain⟨bs,ss,st,hM,hB,hI,hH⟩:=hm.at_ i hi;have ha:=all_mk (last:=(μ i).2.2.2.1) (no:=(μ i).2.2.2.2) hB hI;have hl:=NU n (xD (μ i).1 (μ i).2.1 (μ i).2.2.1) (yz hI) (yx hI);simp only[iW,al,hM,zdF,ha,↓xl,hl,aE hM];rfl
theorem NV (hs:SI v μ)(hi:i<8):ag (cZ WX) (((),(i:Int),0,0,()),v.s)=some (.inr (((),(i:Int),zR v.ps i,()),v.s)):=by
 have hb: ∀k:Nat,k<=32-> -(1099511627776*(k:Int))<=ik ((List.range k).map λn=>tb v.ps n i)/\ik ((List.range k).map λn=>tb v.ps n i)<=1099511627776*(k:Int):=by
  intro k;induction k with
  |zero=>intro _;simp[ik]
  |succ k ih=>
   intro hk;have:=ih (by omega)
   have hx:=hs.ps.xr k i (by omega) hi
   rw[zfy,zfo,kT];have e:ik ([k].map λn=>tb v.ps n i)=tb v.ps k i:=by simp[ik]
   rw[e];omega
 refine tO (b:=cZ WX) (λn=>(((),(i:Int),ik ((List.range n).map λn=>tb v.ps n i),(n:Int),()),v.s)) (.inr (((),(i:Int),zR v.ps i,()),v.s)) 32 (λn hn=>?_) ?_ 0 (by omega)
 ·have hp:=Uf (op:=v.op) hs.ps.qo hn hi
  have ho:=yN (ps:=v.ps) hs.op.qo hn hi;have hmp:=hs.pK.mp i hi;have hc:=Xm hs.pK hi (n:Int);have hx:=hs.Ly n i hn hi;have e1:=jY hn (by omega)
  have n1: ¬(i+1=0):=by omega
  have b1:=hb (n+1) (by omega)
  have b0:=hb n (by omega)
  have e3:ik ((List.range (n+1)).map λn=>tb v.ps n i)=ik ((List.range n).map λn=>tb v.ps n i)+tb v.ps n i:=by
   rw[zfy,zfo,kT];simp[ik]
  have e2:i64.wrap (ik ((List.range n).map λn=>tb v.ps n i)+tb v.ps n i)=ik ((List.range (n+1)).map λn=>tb v.ps n i):=by
   rw[e3] at b1⊢;exact nL (by omega) (by omega)
  simp only[cZ,V.s,cA,cN,↓xo,xw,ot (show(n:Int)<32 by omega),zdH,zdG,zdF,hp,aV (show¬(i:Int)<0 by omega),aV (show¬(i:Int)>=8 by omega),ot (zU hi),zdI,hmp,aV n1,ho,hc,ot hx,zdJ,e1,e2]
 ·simp only[cZ,↓xo,aV (show¬((32:Nat):Int)<32 by omega),zdG];rfl
theorem NW (hs:SI v μ)(hz: ∀j,j<8->zR v.ps j=0):ag (dB WX) (((),0,()),v.s)=some (.inr ((),v.s)):=by
 refine tO (b:=dB WX) (λi=>(((),(i:Int),()),v.s)) (.inr ((),v.s)) 8 (λi hi=>?_) ?_ 0 (by omega)
 ·have h1:=NV hs hi
  have e1:=jY hi (by omega)
  simp only[dB,↓xo,xw,↓xl,ot (show(i:Int)<8 by omega),zdH,h1,zdF,ot (hz i hi),zdJ,zdG,e1]
 ·simp only[dB,↓xo,aV (show¬((8:Nat):Int)<8 by omega),zdG]
end
theorem Xn (g:u9):PU 0 (v0 g) (λ_=>m0):=λ_=>by
 refine⟨Jp,λn j hn hj=>?_,λj hj=>?_⟩
 ·show-(146800640*((0:Nat):Int))<=tb oo n j/\tb oo n j<=_
  rw[Ld hn hj];simp
 ·show zR oo j=0
  unfold zR;have:(List.range 32).map (λn=>tb oo n j)=(List.range 32).map λ_=>(0:Int):=List.map_congr_left λn hn=>Ld (List.mem_range.1 hn) hj;rw[this];rfl
theorem fi.NQ (c:List Int)(l:List pf)(hc:Fa c)(hq: ∀q∈l,Vg q):fi WX ((c,l,()),())=some ((true,()),()):=by
 obtain⟨g,hg,h1,h2⟩:=yQ hc;obtain⟨p,v,p1,⟨μ,k,m,p2,p4,_⟩,p3⟩:=Le zcv hg h2 l hq 30 (by omega) (Xn g)
 have hs:=NW p2.ss.si (p2.p (by omega)).Xj
 have ha:=wV;change gQ WX ((c,l,30,()),())=_ at p1;simp only[V.e] at p1;simp only[V.s] at hs;simp only[fi,p1,zdF,aW,cA,↓xl,hs,ha]
theorem xd {c:List Int}(h:CC (.deep (.int .i64)) c):Fa c:=λx hx=>iq (h.2 x hx)
theorem FW {l:List pf}(h:CC (.deep Gj) l): ∀q∈l,Vg q:=λq hq=>by
 obtain⟨k,c,d,b,_⟩:=q;obtain⟨a1,a2,a3,_⟩:=h.2 _ hq;obtain⟨x0,x1,x2,x3,x4,y,_⟩:=d;obtain⟨b0,b1,b2,b3,b4,b5,_⟩:=a3;obtain⟨y0,y1,y2,y3,y4,y5,y6,_⟩:=y;obtain⟨c0,c1,c2,c3,c4,c5,c6,_⟩:=b5;exact⟨iq a1,iq a2,⟨iq b0,iq b1,iq b2,iq b3,iq b4,iq c0,iq c1,iq c2,iq c3,iq c4,iq c5,iq c6⟩⟩
theorem fi.law (a0:List Int)(a1:List pf)(h0:CC (.deep (.int .i64)) a0)(h1:CC (.deep Gj) a1):fi W0 ((a0,a1,()),())=some ((true,()),()):=by
 rw[Ke];exact fi.NQ a0 a1 (xd h0) (FW h1)
end AM
