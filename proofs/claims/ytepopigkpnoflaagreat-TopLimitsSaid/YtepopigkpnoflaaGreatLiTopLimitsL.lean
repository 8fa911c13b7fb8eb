/- The law TopLimits, in plain Lean. Conditions: none. -/
import Derived.Test.YtepopigkpnoflaaGreatLiTopLimitsP
set_option linter.unusedVariables false
set_option linter.unusedSimpArgs false
set_option maxRecDepth 100000
namespace AM
open Go Go.Proofs IntKind
def zdj (ps:List (List Int))(j:Nat):Int:=gU ((List.range 32).map λn=>tb ps n j)
theorem Ja {f g:Nat->Int}{n:Nat}(h: ∀m,m≠n->g m=f m): ∀N,gU ((List.range N).map g)=gU ((List.range N).map f)+(if n<N then g n-f n else 0)
 |0=>by simp[gU]
 |N+1=>by
  have ih:=Ja h N;rw[List.range_succ,zfk,zfk,jQ,jQ,ih];have e: ∀k:Nat->Int,gU ([N].map k)=k N:=λk=>by simp[gU]
  rw[e,e];by_cases q:N=n
  ·subst q
   rw[if_neg (by omega),if_pos (by omega)];omega
  ·rw[h N q]
   by_cases q2:n<N
   ·rw[if_pos q2,if_pos (by omega)];omega
   ·rw[if_neg q2,if_neg (by omega)];omega
structure PS (ps:List (List Int))(b:Int):Prop where
 sP:tG ps
 AW: ∀n j,n<32->j<8-> -b<=tb ps n j/\tb ps n j<=b
 col: ∀j,j<8->zdj ps j=0
theorem PS.le {ps:List (List Int)}{b b':Int}(h:PS ps b)(hb:b<=b'):PS ps b':=⟨h.sP,λn j hn hj=>by have:=h.AW n j hn hj;omega,h.col⟩
def PU:Nat->V->(Nat->MS)->Prop:=λk v _=>k<=7000->PS v.ps (146800640*k)
theorem PU.more {k:Nat}{v:V}{μ:Nat->MS}(h:PU k v μ):PU (k+1) v μ:=λhk=>(h (by omega)).le (by omega)
theorem Xj {v:V}{μ:Nat->MS}(hm:E5 v μ){i:Nat}(hi:i<8)(o:cY):(js o (μ i)).2.length<=70/\∀x∈(js o (μ i)).2,pz x:=by
 obtain⟨bs,ss,eZ,hM,hB,hI,hH⟩:=hm.at_ i hi;obtain⟨_,_,_,_,_,_,_,a5⟩:=Ny (last:=(μ i).2.2.2.1) (no:=(μ i).2.2.2.2) hB hI o;exact⟨a5,zG o (μ i) hI⟩
theorem Rj {v:V}{μ:Nat->MS}(hm:E5 v μ){i:Nat}(hi:i<8)(t d p q:Int):(eG t d p q (μ i)).2.2.length<=70/\∀x∈(eG t d p q (μ i)).2.2,pz x:=by
 obtain⟨bs,ss,eZ,hM,hB,hI,hH⟩:=hm.at_ i hi;obtain⟨_,_,_,_,_,_,_,a5,a6⟩:=KU (last:=(μ i).2.2.2.1) (no:=(μ i).2.2.2.2) hB hI hH t d p q;exact⟨a6,a5⟩
theorem Xk {c:List Int}(h:Oz (.deep (.int .i64)) c):Tv c:=λx hx=>ug (h.2 x hx)
theorem zcq {l:List Ay}(h:Oz (.deep VU) l): ∀q∈l,MvI q:=λq hq=>by
 obtain⟨k,c,d,b,_⟩:=q;obtain⟨a1,a2,a3,_⟩:=h.2 _ hq;obtain⟨x0,x1,x2,x3,x4,y,_⟩:=d;obtain⟨b0,b1,b2,b3,b4,b5,_⟩:=a3;obtain⟨y0,y1,y2,y3,y4,y5,y6,_⟩:=y;obtain⟨c0,c1,c2,c3,c4,c5,c6,_⟩:=b5;exact⟨ug a1,ug a2,⟨ug b0,ug b1,ug b2,ug b3,ug b4,ug c0,ug c1,ug c2,ug c3,ug c4,ug c5,ug c6⟩⟩
def mf {α:Type}(f:α->Int)(l:List α):Int:=gU (l.map f)
theorem kJ {α:Type}(f:α->Int):mf f []=0:=rfl
theorem gB {α:Type}(f:α->Int)(a:α)(l:List α):mf f (a::l)=f a+mf f l:=rfl
theorem mg {α:Type}(f:α->Int)(a b:List α):mf f (a++b)=mf f a+mf f b:=by unfold mf;rw[zfk,jQ]
theorem v8 {α:Type}(f:α->Int){a:α}: ∀{l:List α} {n:Nat},l[n]?=some a->mf f (l.eraseIdx n)+f a=mf f l
 |x::l,0,h=>by
  simp only[zeb,zdF] at h;subst h;rw[List.eraseIdx_cons_zero,gB];omega
 |x::l,n+1,h=>by
  rw[zeL] at h;have:=v8 f h;rw[List.eraseIdx_cons_succ,gB,gB];omega
theorem yG {α:Type}(f:α->Int){a:α}(y:α): ∀{l:List α} {n:Nat},l[n]?=some a->mf f (l.set n y)+f a=mf f l+f y
 |x::l,0,h=>by
  simp only[zeb,zdF] at h;subst h;rw[ze5,gB,gB];omega
 |x::l,n+1,h=>by
  rw[zeL] at h;have:=yG f y h;rw[List.set_cons_succ,gB,gB];omega
theorem BR {α:Type}(f:α->Int){l:List α}(h: ∀x∈l,0<=f x):0<=mf f l:=by
 induction l with
 |nil=>exact zeF _
 |cons a l ih=>
  have h1:=h a (zdM ..);have h2:=ih λx hx=>h x (zdL _ hx);rw[gB];omega
structure Wt (f:cY->Int)(h:cY->Int->Int):Prop where
 nn: ∀o,1<=aj o->0<=f o
 cut: ∀o o' n,o'.1=o.1->aG o'=aG o->an o'=an o->0<=n->aj o'+n<=aj o->f o'+h o n<=f o
 all: ∀o n,0<=n->n<=aj o->1<=aj o->h o n<=f o
 add: ∀o x y,h o (x+y)=h o x+h o y
 hn: ∀o x,0<=x->0<=h o x
 same: ∀o q,h (aq o q)=h o
theorem Wt.zero {f h}(w:Wt f h)(o:cY):h o 0=0:=by have:=w.add o 0 0;rw[Int.add_zero] at this;omega
theorem Wt.less {f h}(w:Wt f h){o o':cY}(h1:o'.1=o.1)(h2:aG o'=aG o)(h3:an o'=an o)(h4:aj o'<=aj o):f o'<=f o:=by
 have:=w.cut o o' 0 h1 h2 h3 (zeF _) (by omega)
 rw[w.zero] at this;omega
section
variable (f:cY->Int)(h:cY->Int->Int)
def we (e:nB):Int:=f e.1
def hw (x:nB):Int:=h x.1 x.2.1
def wf (x:mm):Int:=h x.1 (Fl.nP x)+h x.2.1 (Fl.nP x)
def wl (a:mL):Int:=mf (we f) a.2
def wc (x:ld):Int:=mf (wf h) x.2.1
theorem Fv (p:Int)(es:List nB):wl f (p,es)=mf (we f) es:=rfl
end
section
variable {f:cY->Int}{h:cY->Int->Int}(w:Wt f h)
include w
theorem Xl {e:nB}{r:List nB}{n:Int}(he:nk e)(h0:0<=n)(h2:n<=e.2.1):mf (we f) (vR e r n)+h e.1 n<=mf (we f) (e::r):=by
 obtain⟨a1,a2,a3⟩:=he;have hq:f (aq e.1 (aj e.1-n))+h e.1 n<=f e.1:=w.cut _ _ _ rfl rfl rfl h0 (by show aj e.1-n+n<=_;omega)
 have ha:=w.all e.1 n h0 (by omega) (by omega)
 have e0:we f e=f e.1:=rfl;have e1: ∀x,we f (aq e.1 (aj e.1-n),x,())=f (aq e.1 (aj e.1-n)):=λ_=>rfl;unfold vR;split
 ·rw[gB,gB,e1];omega
 ·rw[mg,gB]
  split
  ·rw[gB,kJ,e1];omega
  ·rw[kJ];omega
theorem Pp (jL:Int): ∀(k:Nat) (q:Int) (es out:List nB),0<=q->(∀e∈es,nk e)->mf (we f) (eY jL k q es out).2.2.1+mf (hw h) (eY jL k q es out).2.1<=mf (we f) es+mf (hw h) out
 |0,q,es,out,_,_=>zeF _
 |k+1,q,es,out,h0,hk=>by
  unfold eY;split
  ·cases es with
   |nil=>exact zeF _
   |cons e r=>
    simp only;have he:=hk e (zdM ..);split
    ·exact zeF _
    ·have L4:1<=min q e.2.1:=by have:=he.1;omega
     have hg:=EL he (λx hx=>hk x (zdL _ hx)) L4 (show min q e.2.1<=e.2.1 by omega)
     have ih:=Pp jL k (q-min q e.2.1) (vR e r (min q e.2.1)) (out++ [(e.1,min q e.2.1,())]) (by omega) hg.1
     have hc:=Xl w (r:=r) he (by omega) (show min q e.2.1<=e.2.1 by omega)
     rw[mg,gB,kJ] at ih;have:hw h (e.1,min q e.2.1,())=h e.1 (min q e.2.1):=rfl;omega
  ·exact zeF _
theorem Pq (pr:Int)(o:cY): ∀(hs:List nB) (no q:Int) (out:List mm),mf (wf h) (lS pr hs (no,aq o q,out)).2.2=mf (wf h) out+mf (hw h) hs+h o (ir hs)
 | [],no,q,out=>by
  have:ir []=0:=rfl;rw[this,w.zero,kJ];show mf _ out=_
  omega
 |x::r,no,q,out=>by
  have ih:=Pq pr o r (i64.wrap (no+1)) (q-x.2.1) (out++ [(x.1,aq o q,pr,x.2.1,i64.wrap (no+1),())]);have e1:ir (x::r)=x.2.1+ir r:=by simp[ir,gU]
  rw[e1,w.add];show mf _ (lS pr r (i64.wrap (no+1),aq o (q-x.2.1),_)).2.2=_
  rw[ih,mg,gB,gB,kJ];have:wf h (x.1,aq o q,pr,x.2.1,i64.wrap (no+1),())=hw h x+h (aq o q) x.2.1:=rfl;rw[w.same] at this;omega
theorem Lf (o:cY): ∀(A:List mL) (q last no:Int) (out:List mm),(∀a∈A,∀e∈a.2,nk e)->0<=q->
  mf (wl f) (qC o A q last no out).2.2.1+mf (wf h) (qC o A q last no out).2.2.2.2.2+h o (qC o A q last no out).2.1<=mf (wl f) A+mf (wf h) out+h o q
 | [],q,last,no,out,_,_=>zeF _
 |a::A,q,last,no,out,hk,h0=>by
  unfold qC;by_cases hc:q>0/\lB o a.1=true
  ·rw[if_pos hc]
   have Nv:=hk a (zdM ..);have VL:=AJ o.2.2.1 q.toNat q a.2 [] h0 (by omega) Nv (λx hx=>by cases hx)
   have nM:=Pp w o.2.2.1 q.toNat q a.2 [] h0 Nv;generalize eY o.2.2.1 q.toNat q a.2 []=T at*;obtain⟨own,py,nT,q'⟩:=T;simp only at*;obtain⟨_,t2,t3,_⟩:=VL;have hz:ir ([]:List nB)=0:=rfl;have hf:=Pq w a.1 o py no q out;have hm:h o (ir py)+h o q'=h o q:=by rw[<-w.add];congr 1;omega
   have hl:wl f a=mf (we f) a.2:=rfl;rw[kJ] at nM;split
   ·simp only[gB,Fv];omega
   ·split
    ·rename_i he
     subst he;have ih:=Lf o A q' (rE a.1 last py) (lS a.1 py (no,aq o q,out)).1 (lS a.1 py (no,aq o q,out)).2.2 (λx hx=>hk x (zdL _ hx)) t3;rw[gB];rw[kJ] at nM;omega
    ·simp only[gB,Fv];omega
  ·rw[if_neg hc];exact zeF _
omit w in
theorem zaz (o:cY)(A:List mL):mf (wl f) (EX o A)=mf (wl f) A+f o:=by
 have e0:wl f (an o,[(o,lR o,())])=f o:=by rw[Fv,gB,kJ];show f o+0=_;omega
 unfold EX;split
 ·rw[mg,gB,kJ];omega
 ·rename_i n hf
  have hn:=(List.findIdx?_eq_some_iff_getElem.1 hf).1;have hg:=zdE hn;rw[hg];simp only;generalize A[n]=a at hg;split
  ·have h1:=yG (wl f) (a.1,a.2++ [(o,lR o,())]) hg
   have h2:wl f (a.1,a.2++ [(o,lR o,())])=wl f a+f o:=by rw[Fv,mg,gB,kJ];show _+(f o+0)=_;unfold wl;omega
   omega
  ·have h1:mf (wl f) A=mf (wl f) (A.take n)+mf (wl f) (A.drop n):=by rw[<-mg,zeT]
   rw[mg,gB];omega
theorem UD {A B:List mL}{last no:Int}(hi:BI A B){o:cY}(ho:1<=aj o):
  mf (wl f) (iu o A B last no).2.1+mf (wl f) (iu o A B last no).2.2.1+wc h (iu o A B last no).1<=mf (wl f) A+mf (wl f) B+f o:=by
 have hw:=w.nn o ho;unfold iu;split
 ·show _+_+mf (wf h) []<=_
  rw[kJ];simp only;omega
 ·rename_i h0
  have l8:=nU (wS (Decidable.not_not.1 h0));have hq:=l8.nP;have hm:Dn (3-aG o) o (if aG o=1 then B else A) (aj o) [] (pN o A B last no):=by
   unfold pN;by_cases EJ:aG o=1
   ·rw[if_pos EJ,EJ];exact vV 2 o B _ last no [] hi.qM (by omega)
   ·have Vc:aG o=2:=by have:=l8.side;omega
    rw[if_neg EJ,Vc];exact vV 1 o A _ last no [] hi.vU (by omega)
  have hc:=Lf w o (if aG o=1 then B else A) (aj o) last no [] (by
   split
   ·exact λa ha e he=>(hi.qM.Jq a ha e he).1
   ·exact λa ha e he=>(hi.vU.Jq a ha e he).1) (by omega)
  change mf _ (pN o A B last no).2.2.1+mf _ (pN o A B last no).2.2.2.2.2+h o (pN o A B last no).2.1<=_ at hc;have hl:=hm.left;generalize pN o A B last no=M at*;rw[kJ] at hc;have zdx:=w.cut o (lU o M.2.1) (aj o-M.2.1) rfl rfl rfl (by omega) (by show M.2.1+_<=_;omega)
  have FU:=w.all o (aj o-M.2.1) (by omega) (by omega) ho
  have MB:h o (aj o)=h o M.2.1+h o (aj o-M.2.1):=by rw[<-w.add];congr 1;omega
  have xk: ∀L,mf (wl f) (EX (lU o M.2.1) L)=mf (wl f) L+f (lU o M.2.1):=λL=>zaz (lU o M.2.1) L;by_cases EJ:aG o=1
  ·simp only[if_pos EJ] at hc⊢
   split
   ·show _+_+mf (wf h) M.2.2.2.2.2<=_
    simp only[xk];omega
   ·show _+_+mf (wf h) M.2.2.2.2.2<=_
    simp only;omega
  ·simp only[if_neg EJ] at hc⊢
   split
   ·show _+_+mf (wf h) M.2.2.2.2.2<=_
    simp only[xk];omega
   ·show _+_+mf (wf h) M.2.2.2.2.2<=_
    simp only;omega
end
def wm (f:cY->Int)(m:MS):Int:=mf (wl f) m.1+mf (wl f) m.2.1+mf f m.2.2.1
section
variable {f:cY->Int}{h:cY->Int->Int}(w:Wt f h)
include w in
theorem Ds: ∀(k:Nat) (m:MS) (out:List ld),s8 m.1 m.2.1 m.2.2.1->wm f (jF k m out).1+mf (wc h) (jF k m out).2<=wm f m+mf (wc h) out
 |0,m,out,_=>zeF _
 |k+1,(A,B,ws,last,no),out,hi=>by
  unfold jF;split
  ·exact zeF _
  ·rename_i n hw
   obtain⟨x,hg,hd,hx,nb⟩:=Hf no hi hw;rw[hd];have hc:=UD w (last:=last) (no:=no) hi.bi (o:=eJ x) hx.nP.1;have ih:=Ds k (_,_,ws.eraseIdx n,(iu (eJ x) A B last no).2.2.2.1,(iu (eJ x) A B last no).2.2.2.2) (out++ [(x,(iu (eJ x) A B last no).1.2)]) nb;refine zfj ih ?_;rw[mg,gB,kJ];have he:=v8 f hg;have hb:f (eJ x)<=f x:=w.less rfl rfl rfl (zeF _);generalize iu (eJ x) A B last no=N at*;obtain⟨y,A',B',l',n'⟩:=N;have hy:wc h (x,y.2)=wc h y:=rfl;unfold wm;simp only at*;omega
include w in
theorem Dt {o:cY}(ho:yh o)(m:MS)(hi:s8 m.1 m.2.1 m.2.2.1):wm f (js o m).1+mf (wc h) (js o m).2<=wm f m+f o:=by
 obtain⟨A,B,ws,last,no⟩:=m;simp only at hi;have hq:=ho.nP;have hw:=w.nn o hq.1;have hc0: ∀(r:Int×Bool×Bool×Bool×Int×Unit) l,mf (wc h) ((o,[],r)::l)=0+mf (wc h) l:=λ_ _=>rfl;unfold js;simp only;split
 ·have g:=Ds w ws.length (A,B,ws,last,no) [] hi
  simp only[hc0];rw[kJ] at g;omega
 ·rename_i h0
  obtain⟨_,h4,h2⟩:=KT last no hi (Decidable.not_not.1 h0);split
  ·rename_i hc
   have g:=Ds w (ws.length+1) (A,B,ws++ [o],last,no) [] (h4 hc.1);have e:wm f (A,B,ws++ [o],last,no)=wm f (A,B,ws,last,no)+f o:=by unfold wm;rw[mg,gB,kJ];simp only;omega
   simp only[hc0];rw[kJ,e] at g;omega
  ·have hc:=UD w (last:=last) (no:=no) hi.bi (o:=eJ o) hq.1
   have g:=Ds w ws.length (_,_,ws,(iu (eJ o) A B last no).2.2.2) [] h2;have hb:f (eJ o)<=f o:=w.less rfl rfl rfl (zeF _);generalize iu (eJ o) A B last no=N at*;obtain⟨x,A',B',l',n'⟩:=N;have hx: ∀l,mf (wc h) ((o,x.2)::l)=wc h x+mf (wc h) l:=λ_=>rfl;simp only[hx] at g hc⊢;rw[kJ] at g;unfold wm at g⊢;simp only at g⊢;omega
theorem zaA {a:mL}{d:Int}{u:Int}{o:cY}(h:KI u d a=some o):mf (we f) (oN u d a.2)+f o=wl f a:=by
 unfold KI at h;rw[List.find?_map] at h;simp only[zew] at h;obtain⟨e,h1,rfl⟩:=h;have h2:=h1;rw[List.find?_eq_some_iff_getElem] at h2;obtain⟨hp,n,hn,he,zdk⟩:=h2;have hf:a.2.findIdx? (λe=>jW u d e.1)=some n:=by
  rw[zfi];refine⟨hn,by rw[he];exact hp,λj hj=>?_⟩
  have:=zdk j hj;simpa using this
 unfold oN;rw[hf];exact v8 (we f) (by rw[zdE hn,he])
theorem UE {u d:Int}{A:List mL}{m:Nat}{o:cY}(h:mj u d A=some (m,o)):
  mf (wl f) (match A[m]? with|some a=>if oN u d a.2=[] then A.eraseIdx m else A.set m (a.1,oN u d a.2)|none=>A)+f o=mf (wl f) A:=by
 obtain⟨a,h1,h2⟩:=me h;have hr:=zaA (f:=f) h2;rw[h1];simp only;split
 ·rename_i h0
  rw[h0,kJ] at hr;have:=v8 (wl f) h1;omega
 ·have:=yG (wl f) (a.1,oN u d a.2) h1
  have hm:=Fv f a.1 (oN u d a.2);omega
def yp (u d:Int)(m:MS):MS:=((lV u d m.1 m.2.1 m.2.2.1).2.2.1,(lV u d m.1 m.2.1 m.2.2.1).2.2.2.1,(lV u d m.1 m.2.1 m.2.2.1).2.2.2.2,m.2.2.2)
theorem Pr (u d:Int)(m:MS):(∃o,oO u d m.1 m.2.1 m.2.2.1=some o/\wm f (yp u d m)+f o=wm f m)\/(oO u d m.1 m.2.1 m.2.2.1=none/\yp u d m=m):=by
 obtain⟨A,B,ws,last,no⟩:=m;unfold yp lV uH oO uo wm;simp only;cases hA:mj u d A with
 |some x=>
  obtain⟨m,o⟩:=x;have k: ∀X,mf (wl f) X+f o=mf (wl f) A->mf (wl f) X+mf (wl f) B+mf f ws+f o=mf (wl f) A+mf (wl f) B+mf f ws:=λX h=>by omega
  exact .inl ⟨o,rfl,k _ (UE (f:=f) hA)⟩
 |none=>
  cases hB:mj u d B with
  |some x=>
   obtain⟨m,o⟩:=x;have k: ∀X,mf (wl f) X+f o=mf (wl f) B->mf (wl f) A+mf (wl f) X+mf f ws+f o=mf (wl f) A+mf (wl f) B+mf f ws:=λX h=>by omega
   exact .inl ⟨o,rfl,k _ (UE (f:=f) hB)⟩
  |none=>
   simp only[zdG,if_false];cases hw:ws.findIdx? (jW u d) with
   |none=>exact .inr ⟨rfl,rfl⟩
   |some n=>
    have hn:=(List.findIdx?_eq_some_iff_getElem.1 hw).1;have hg:=zdE hn;have hd:ws.getD n o0=ws[n]:=by rw[zdP,hg];rfl
    have he:=v8 f hg;exact .inl ⟨_,rfl,by rw[hd];simp only;omega⟩
include w in
theorem Ps {a:mL}{u d q:Int}(ha: ∀e∈a.2,nk e):mf (we f) (mE u d q a.2).2<=wl f a:=by
 unfold mE;split
 ·exact zeF _
 ·rename_i n hw
  have hn:=(List.findIdx?_eq_some_iff_getElem.1 hw).1;have hg:=zdE hn;have hd:a.2.getD n ((0,0,0,0,0,0,0,0,0,()),0,())=a.2[n]:=by rw[zdP,hg];rfl
  split
  ·exact zeF _
  ·rename_i hq
   rw[hd] at hq⊢;have h1:=yG (we f) (aq a.2[n].1 q,min a.2[n].2.1 q,()) hg;have h2:we f (aq a.2[n].1 q,min a.2[n].2.1 q,())<=we f a.2[n]:=w.less (o:=a.2[n].1) rfl rfl rfl (show q<=aj a.2[n].1 by omega)
   unfold wl;simp only;omega
include w in
theorem Xm {A B:List mL}(hi:BI A B)(u d q:Int):mf (wl f) (tn u d q A B).2.1+mf (wl f) (tn u d q A B).2.2<=mf (wl f) A+mf (wl f) B:=by
 unfold tn;split
 ·rename_i m o hA
  obtain⟨a,h1,h2⟩:=me hA;have hl:=Ps w (u:=u) (d:=d) (q:=q) (a:=a) λe he=>(hi.vU.Jq a (zeB h1) e he).1;have:=yG (wl f) (a.1,(mE u d q a.2).2) h1;have hm:=Fv f a.1 (mE u d q a.2).2;rw[h1];simp only;omega
 ·split
  ·rename_i m o hB
   obtain⟨a,h1,h2⟩:=me hB;have hl:=Ps w (u:=u) (d:=d) (q:=q) (a:=a) λe he=>(hi.qM.Jq a (zeB h1) e he).1;have:=yG (wl f) (a.1,(mE u d q a.2).2) h1;have hm:=Fv f a.1 (mE u d q a.2).2;rw[h1];simp only;omega
  ·exact zeF _
end
theorem UF {m:MS}(hi:s8 m.1 m.2.1 m.2.2.1){u d:Int}{o:cY}(h:oO u d m.1 m.2.1 m.2.2.1=some o):1<=aj o:=(uq hi o (E8 h).1).1
section
variable {f:cY->Int}{h:cY->Int->Int}(w:Wt f h)
include w
theorem AR (u d:Int){m:MS}(hi:s8 m.1 m.2.1 m.2.2.1):wm f (yp u d m)<=wm f m:=by
 rcases Pr (f:=f) u d m with⟨o,h1,h2⟩|⟨_,h⟩
 ·have:=w.nn o (UF hi h1)
  omega
 ·rw[h];exact zeF _
omit w in
theorem Lg (u d:Int){m:MS}(hi:s8 m.1 m.2.1 m.2.2.1):s8 (yp u d m).1 (yp u d m).2.1 (yp u d m).2.2.1:=(AN hi u d).1
theorem Jb (x:Int): ∀(l:List cY) (m:MS) (out:List cY),s8 m.1 m.2.1 m.2.2.1->wm f (rL x l m out).1<=wm f m
 | [],m,out,_=>zeF _
 |o::l,m,out,hi=>by
  unfold rL;split
  ·exact zfj (Jb x l (yp o.1 o.2.1 m) (out++ [o]) (Lg o.1 o.2.1 hi)) (AR w o.1 o.2.1 hi)
  ·exact Jb x l m out hi
theorem Jc (x:Int){m:MS}(hi:s8 m.1 m.2.1 m.2.2.1):wm f (ml x m).1<=wm f m:=Jb w x _ m [] hi
theorem Fw (n d p q:Int){m:MS}(hi:s8 m.1 m.2.1 m.2.2.1){gC:cY}(hw:oO n d m.1 m.2.1 m.2.2.1=some gC){K:Int}(h1:wm f m<=K)(h2: ¬p=an gC\/q>aj gC->wm f m-f gC+f (ym gC p q)<=K):
  wm f (eG n d p q m).2.1+mf (wc h) (eG n d p q m).2.2<=K:=by
 unfold eG;rw[hw];simp only;split
 ·show wm f m+mf (wc h) []<=K
  rw[kJ];omega
 ·rename_i hr
  split
  ·have:=Xm w hi.bi n d q
   show wm f ((tn n d q m.1 m.2.1).2.1,(tn n d q m.1 m.2.1).2.2,m.2.2)+mf (wc h) []<=K
   rw[kJ];unfold wm at h1⊢;simp only;omega
  ·have l8:yh (ym gC p q):=nU (by
    cases hx:oL (ym gC p q) with
    |true=>rfl
    |false=>rw[hx] at hr;simp at hr)
   have hm:=Dt w l8 (yp n d m) (Lg n d hi);change wm f (js (ym gC p q) (yp n d m)).1+mf (wc h) (js (ym gC p q) (yp n d m)).2<=K;rcases Pr (f:=f) n d m with⟨o,g1,g2⟩|⟨g,_⟩
   ·rw[hw] at g1
    obtain rfl:=Option.some.inj g1;by_cases hc: ¬p=an gC\/q>aj gC
    ·have:=h2 hc;omega
    ·have:f (ym gC p q)<=f gC:=w.less rfl rfl (show p=an gC by omega) (show q<=aj gC by omega)
     omega
   ·rw[hw] at g;cases g
omit w in
theorem Pt (A:List mL):mf (wl f) A=mf f (rF A):=by
 induction A with
 |nil=>rfl
 |cons a A ih=>
  unfold rF at*;rw[zen,mg,gB,ih];unfold wl mf;rw[List.map_map];rfl
omit w in
theorem Jd (m:MS):wm f m=mf f (s9 m.1 m.2.1 m.2.2.1):=by
 unfold wm s9;rw[mg,mg,Pt,Pt];omega
end
section
variable (t s:Int)
def mo (o:cY)(x:Int):Int:=if o.1=t/\aG o=s then x else 0
def wt (o:cY):Int:=mo t s o (aj o)
theorem Yl (o:cY){x y:Int}(h:x<=y):mo t s o x<=mo t s o y:=by unfold mo;split<;>omega
theorem Hm (o:cY){x:Int}(h:0<=x):0<=mo t s o x:=by unfold mo;split<;>omega
theorem yq:Wt (wt t s) (mo t s):=by
 have ha: ∀o x y,mo t s o (x+y)=mo t s o x+mo t s o y:=λo x y=>by unfold mo;split<;>omega
 refine⟨λo h=>Hm t s o (by omega),λo o' n h1 h2 _ _ h=>?_,λo n _ h _=>Yl t s o h,ha,λo x h=>Hm t s o h,λ_ _=>rfl⟩
 have e:wt t s o'=mo t s o (aj o'):=by unfold wt mo;rw[h1,h2]
 rw[e,<-ha];exact Yl t s o h
end
theorem Fx {s:Int}{A:List mL}(h:lT s A): ∀o∈rF A,aG o=s:=by
 intro o ho;unfold rF at ho;obtain⟨a,ha,ho⟩:=List.mem_flatMap.1 ho;obtain⟨e,he,rfl⟩:=List.mem_map.1 ho;exact(h.Jq a ha e he).2.side
theorem UG (t:Int){m:MS}(hi:s8 m.1 m.2.1 m.2.2.1):uV t m=wm (wt t 1) m+wm (wt t 2) m:=by
 rw[Jd,Jd];have hs: ∀o∈s9 m.1 m.2.1 m.2.2.1,aG o=1\/aG o=2:=λo ho=>by
  unfold s9 at ho;rcases List.mem_append.1 ho with ho|ho
  ·exact .inl (Fx hi.bi.vU o ho)
  ·rcases List.mem_append.1 ho with ho|ho
   ·exact .inr (Fx hi.bi.qM o ho)
   ·exact(hi.wo o ho).1.side
 unfold uV rM;generalize s9 m.1 m.2.1 m.2.2.1=l at hs;induction l with
 |nil=>rfl
 |cons o l ih=>
  have h1:=hs o (zdM ..);have h2:=ih λx hx=>hs x (zdL _ hx);rw[gB,gB];show(if o.1=t then aj o else 0)+gU (l.map _)=_
  rw[h2];have:(if o.1=t then aj o else 0)=wt t 1 o+wt t 2 o:=by
   unfold wt mo;rcases h1 with e|e<;>rw[e]<;>simp
  omega
theorem Hn (t s:Int){m:MS}(hi:s8 m.1 m.2.1 m.2.2.1):0<=wm (wt t s) m:=by
 rw[Jd];exact BR _ λo ho=>(yq t s).nn o (uq hi o ho).1
theorem UH {ps:List (List Int)}(h:tG ps){u i n j:Nat}(hu:u<32)(hi:i<8)(x lo nb:Int):tb (FF ps u i (tb ps u i+x) lo nb) n j=tb ps n j\/(n=u/\j=i/\tb (FF ps u i (tb ps u i+x) lo nb) n j=tb ps n j+x):=by
 unfold FF;split
 ·rw[ur h hu hi]
  split
  ·rename_i hc
   obtain⟨rfl,rfl⟩:=hc;exact .inr ⟨rfl,rfl,rfl⟩
  ·exact .inl rfl
 ·exact .inl rfl
theorem Lh {ps:List (List Int)}(h:tG ps)(u i:Nat)(x lo hi:Int)(hu:u<32):tG (FF ps u i x lo hi):=by
 unfold FF;split
 ·exact yo h u i _ hu
 ·exact h
abbrev FOK (f:mm):Prop:=(0<=f.1.1/\f.1.1<=31)/\(0<=f.2.1.1/\f.2.1.1<=31)/\((aG f.1=1/\aG f.2.1=2)\/(aG f.1=2/\aG f.2.1=1))/\1<=Fl.nP f
theorem UI {u n:Nat}{o:cY}(hu:o.1=(u:Int))(hs:aG o=1\/aG o=2){q:Int}(hq:1<=q):(n=u->AO (aG o) q<=mo n 1 o q/\ -(mo n 2 o q)<=AO (aG o) q)/\0<=mo n 1 o q/\0<=mo n 2 o q:=by
 refine⟨λe=>?_,Hm _ _ _ (by omega),Hm _ _ _ (by omega)⟩
 subst e;unfold AO mo;rw[hu];rcases hs with e|e<;>rw[e]<;>simp<;>omega
theorem UJ {ps:List (List Int)}(h:tG ps){i:Nat}(hi:i<8){f:mm}(hf:FOK f)(n:Nat):tG (vY i ps f)/\(∀j,j≠i->tb (vY i ps f) n j=tb ps n j)/\tb (vY i ps f) n i<=tb ps n i+wf (mo n 1) f/\tb ps n i-wf (mo n 2) f<=tb (vY i ps f) n i:=by
 obtain⟨h1,h2,h3,h4⟩:=hf;obtain⟨u,e1⟩:=zft h1.1;obtain⟨w,e2⟩:=zft h2.1;have hu:u<32:=by omega
 have hw:w<32:=by omega
 have t1:f.1.1.toNat=u:=by rw[e1];rfl
 have t2:f.2.1.1.toNat=w:=by rw[e2];rfl
 unfold vY;simp only[t1,t2];have r1:=Lh h u i (tb ps u i+AO (aG f.1) (Fl.nP f)) (-1099511627776) 1099511627776 hu;have a1:=λj=>UH h (n:=n) (j:=j) hu hi (AO (aG f.1) (Fl.nP f)) (-1099511627776) 1099511627776;generalize FF ps u i (tb ps u i+AO (aG f.1) (Fl.nP f)) (-1099511627776) 1099511627776=Gi at*;have a2:=λj=>UH r1 (n:=n) (j:=j) hw hi (AO (aG f.2.1) (Fl.nP f)) (-1099511627776) 1099511627776;refine⟨Lh r1 w i _ _ _ hw,λj hj=>?_,?_⟩
 ·rcases a1 j with b1|⟨_,b1,_⟩
  ·rcases a2 j with b2|⟨_,b2,_⟩
   ·rw[b2,b1]
   ·exact absurd b2 hj
  ·exact absurd b1 hj
 ·have s1:=UI (n:=n) e1 (by omega) h4
  have s2:=UI (n:=n) e2 (by omega) h4
  unfold wf;rcases a1 i with b1|⟨c1,_,b1⟩
  ·rcases a2 i with b2|⟨c2,_,b2⟩
   ·rw[b2,b1];omega
   ·have:=s2.1 c2;rw[b2,b1];omega
  ·have:=s1.1 c1
   rcases a2 i with b2|⟨c2,_,b2⟩
   ·rw[b2,b1];omega
   ·have:=s2.1 c2;rw[b2,b1];omega
theorem Ho {i:Nat}(hi:i<8)(n:Nat): ∀(fs:List mm) {ps:List (List Int)},tG ps->(∀f∈fs,FOK f)->tG (pU i ps fs)/\(∀j,j≠i->tb (pU i ps fs) n j=tb ps n j)/\tb (pU i ps fs) n i<=tb ps n i+mf (wf (mo n 1)) fs/\tb ps n i-mf (wf (mo n 2)) fs<=tb (pU i ps fs) n i
 | [],ps,h,_=>by
  rw[kJ,kJ];exact⟨h,λ_ _=>rfl,by show tb ps n i<=_;omega,by show _<=tb ps n i;omega⟩
 |f::fs,ps,h,hf=>by
  obtain⟨a1,a2,a3,a4⟩:=UJ h hi (hf f (zdM ..)) n;obtain⟨b1,b2,b3,b4⟩:=Ho hi n fs a1 λx hx=>hf x (zdL _ hx);rw[gB,gB];exact⟨b1,λj hj=>(b2 j hj).trans (a2 j hj),by show tb (pU i (vY i ps f) fs) n i<=_;omega,by show _<=tb (pU i (vY i ps f) fs) n i;omega⟩
theorem Li {i:Nat}(hi:i<8)(n:Nat): ∀(l:List ld) {ps:List (List Int)},tG ps->(∀x∈l,pz x)->tG (oS i ps l)/\(∀j,j≠i->tb (oS i ps l) n j=tb ps n j)/\tb (oS i ps l) n i<=tb ps n i+mf (wc (mo n 1)) l/\tb ps n i-mf (wc (mo n 2)) l<=tb (oS i ps l) n i
 | [],ps,h,_=>by
  rw[kJ,kJ];exact⟨h,λ_ _=>rfl,by show tb ps n i<=_;omega,by show _<=tb ps n i;omega⟩
 |x::l,ps,h,hx=>by
  obtain⟨a1,a2,a3,a4⟩:=Ho hi n x.2.1 h (hx x (zdM ..)).yj;obtain⟨b1,b2,b3,b4⟩:=Li hi n l a1 λy hy=>hx y (zdL _ hy);rw[gB,gB];have e1:wc (mo n 1) x=mf (wf (mo n 1)) x.2.1:=rfl;have e2:wc (mo n 2) x=mf (wf (mo n 2)) x.2.1:=rfl;exact⟨b1,λj hj=>(b2 j hj).trans (a2 j hj),by show tb (oS i (pU i ps x.2.1) l) n i<=_;omega,by show _<=tb (oS i (pU i ps x.2.1) l) n i;omega⟩
abbrev t1:Int:=((1:Nat):Int)
def UK (l:uA)(o:cY):Prop:=o.1=1->0<=an o/\aj o<=l.1/\an o*aj o<=l.2.1
def bad (l:uA)(o:cY):Int:=if o.1=1/\(an o<0\/l.1<aj o\/l.2.1<an o*aj o) then 1 else 0
theorem AS {l:uA}{o:cY}(h:UK l o):bad l o=0:=by
 unfold bad;rw[if_neg];rintro⟨h1,h2⟩
 obtain⟨a,b,c⟩:=h h1;omega
theorem Fy (l:uA)(o:cY):0<=bad l o:=by unfold bad;split<;>omega
theorem Je (l:uA):Wt (bad l) (λ_ _=>0):=by
 refine⟨λo _=>Fy l o,λo o' n h1 _ h3 h4 h5=>?_,λo _ _ _ _=>Fy l o,λ_ _ _=>rfl,λ_ _ _=>zeF _,λ_ _=>rfl⟩;show bad l o'+0<=bad l o
 unfold bad;split
 ·rename_i hb
  rw[if_pos]
  ·omega
  ·refine⟨h1▸hb.1,?_⟩
   rw[<-h3];by_cases hp:an o'<0
   ·exact .inl hp
   ·have:=Int.mul_le_mul_of_nonneg_left (show aj o'<=aj o by omega) (show 0<=an o' by omega)
    rcases hb.2 with x|x|x
    ·exact .inl x
    ·exact .inr (.inl (by omega))
    ·exact .inr (.inr (by omega))
 ·split<;>omega
theorem Xn {l:uA}{m:MS}(h:wm (bad l) m<=0): ∀o∈s9 m.1 m.2.1 m.2.2.1,UK l o:=by
 rw[Jd] at h;generalize s9 m.1 m.2.1 m.2.2.1=L at h;induction L with
 |nil=>intro o ho;cases ho
 |cons x L ih=>
  rw[gB] at h;have h1:=Fy l x;have h2:=BR (bad l) (l:=L) λo _=>Fy l o;intro o ho;rcases List.mem_cons.1 ho with rfl|ho
  ·intro k
   have hz:bad l o=0:=by omega
   unfold bad at hz;split at hz
   ·omega
   ·rename_i hb
    have hb:=λq=>hb ⟨k,q⟩;refine⟨?_,?_,?_⟩
    ·exact Int.not_lt.1 λq=>hb (.inl q)
    ·exact Int.not_lt.1 λq=>hb (.inr (.inl q))
    ·exact Int.not_lt.1 λq=>hb (.inr (.inr q))
  ·exact ih (by omega) o ho
theorem wz (l:List ld):0<=mf (wc λ_ _=>0) l:=BR _ λx _=>BR _ λy _=>zeF 0
def lf (v:V):uA:=v.cfg.2.1.getD 1 l0
def om (m:MS):Int:=wm (wt t1 1) m+wm (wt t1 2) m
structure NT (v:V)(μ:Nat->MS):Prop where
 ord: ∀i,i<8->wm (bad (lf v)) (μ i)<=0
 opn:gU ((List.range 8).map λi=>om (μ i))<=(lf v).2.2.1
 Yf: ∀i,i<8->tb v.ps 1 i+wm (wt t1 1) (μ i)<=(lf v).2.2.2.1
 KY: ∀i,i<8->wm (wt t1 2) (μ i)-tb v.ps 1 i<=(lf v).2.2.2.1
def PL:Nat->V->(Nat->MS)->Prop:=λ_ v μ=>NT v μ
theorem UL {f g:Nat->Int}: ∀N,(∀i,i<N->g i<=f i)->gU ((List.range N).map g)<=gU ((List.range N).map f)
 |0,_=>zeF _
 |N+1,h=>by
  have ih:=UL N λi hi=>h i (by omega)
  rw[List.range_succ,zfk,zfk,jQ,jQ];have e: ∀k:Nat->Int,gU ([N].map k)=k N:=λk=>by simp[gU]
  rw[e,e];have:=h N (by omega)
  omega
theorem SS.Xo {v:V}{μ:Nat->MS}(h:SS v μ){i:Nat}(hi:i<8):s8 (μ i).1 (μ i).2.1 (μ i).2.2.1:=by
 obtain⟨bs,ss,st,hM,hB,hI,hH⟩:=h.si.pV.at_ i hi;exact hI
theorem SS.WS {v:V}{μ:Nat->MS}(h:SS v μ){i:Nat}(hi:i<8):tb v.op 1 i=om (μ i):=by
 rw[h.si.Lx 1 i (by omega) hi,UG _ (h.Xo hi)];rfl
theorem SS.zaB {v:V}{μ:Nat->MS}(h:SS v μ):uu v.op 1=gU ((List.range 8).map λi=>om (μ i)):=by
 unfold uu;congr 1
 exact List.map_congr_left λi hi=>h.WS (List.mem_range.1 hi)
theorem Jf {v v':V}{μ μ':Nat->MS}(h:NT v μ)(hp:v'.ps=v.ps)(hc:v'.cfg=v.cfg)(hm: ∀i,i<8->wm (wt t1 1) (μ' i)<=wm (wt t1 1) (μ i)/\wm (wt t1 2) (μ' i)<=wm (wt t1 2) (μ i)/\wm (bad (lf v)) (μ' i)<=wm (bad (lf v)) (μ i)):NT v' μ':=by
 have hl:lf v'=lf v:=by unfold lf;rw[hc]
 refine⟨λi hi=>by rw[hl];exact zfj (hm i hi).2.2 (h.ord i hi),?_,λi hi=>?_,λi hi=>?_⟩
 ·rw[hl]
  have:=UL (f:=λi=>om (μ i)) (g:=λi=>om (μ' i)) 8 λi hi=>by
   have:=hm i hi;unfold om;omega
  have:=h.opn;omega
 ·have:=hm i hi;have:=h.Yf i hi;rw[hl,hp];omega
 ·have:=hm i hi;have:=h.KY i hi;rw[hl,hp];omega
theorem Pu {v v':V}{μ:Nat->MS}(h:NT v μ)(hp:v'.ps=v.ps)(hc:v'.cfg=v.cfg):NT v' μ:=Jf h hp hc λi hi=>⟨zeF _,zeF _,zeF _⟩
theorem Pv {v v':V}{μ μ':Nat->MS}(hs:SS v μ)(h:NT v μ)(hp:v'.ps=v.ps)(hc:v'.cfg=v.cfg){x:Int}(hm: ∀i,μ' i=μ i\/μ' i=(ml x (μ i)).1):NT v' μ':=Jf h hp hc λi hi=>by
 rcases hm i with e|e
 ·rw[e];exact⟨zeF _,zeF _,zeF _⟩
 ·rw[e];exact⟨Jc (yq t1 1) x (hs.Xo hi),Jc (yq t1 2) x (hs.Xo hi),Jc (Je _) x (hs.Xo hi)⟩
theorem Ym (t s:Int){l:List ld}(h: ∀x∈l,pz x):0<=mf (wc (mo t s)) l:=BR _ λx hx=>BR _ λf hf=>by
 have:=((h x hx).yj f hf).2.2.2;have a:=Hm t s f.1 (show 0<=Fl.nP f by omega)
 have b:=Hm t s f.2.1 (show 0<=Fl.nP f by omega)
 show 0<=_+_;omega
theorem Pw {v v':V}{μ:Nat->MS}(hs:SS v μ)(h:NT v μ)(hc:v'.cfg=v.cfg){i:Nat}(hi:i<8){m':MS}{l:List ld}(hx: ∀x∈l,pz x)(hp:v'.ps=oS i v.ps l){K1 K2:Int}
  (k1:wm (wt t1 1) m'+mf (wc (mo t1 1)) l<=K1) (k2:wm (wt t1 2) m'+mf (wc (mo t1 2)) l<=K2) (hb:tb v.ps 1 i+K1<=(lf v).2.2.2.1) (wu:K2-tb v.ps 1 i<=(lf v).2.2.2.1)
  (ho:gU ((List.range 8).map λi=>om (μ i))-om (μ i)+(K1+K2)<=(lf v).2.2.1) (hA:wm (bad (lf v)) m'<=0):NT v' (qV μ i m'):=by
 have hl:lf v'=lf v:=by unfold lf;rw[hc]
 obtain⟨_,c2,c3,c4⟩:=Li hi 1 l hs.si.ps.sP hx;change _<=_+mf (wc (mo t1 1)) l at c3;change _-mf (wc (mo t1 2)) l<=_ at c4;have n1:=Ym t1 1 hx;have n2:=Ym t1 2 hx;have JK:=Ja (f:=λi=>om (μ i)) (g:=λj=>om (qV μ i m' j)) (n:=i) (λj hj=>by simp only[qV,if_neg hj]) 8
 rw[if_pos hi] at JK;have e1:om (qV μ i m' i)=om m':=by simp only[qV,if_true]
 refine⟨λj hj=>?_,?_,λj hj=>?_,λj hj=>?_⟩
 ·rw[hl];unfold qV
  split
  ·exact hA
  ·exact h.ord j hj
 ·rw[hl,JK,e1]
  have e2:om m'=wm (wt t1 1) m'+wm (wt t1 2) m':=rfl;omega
 ·rw[hl,hp];unfold qV
  split
  ·rename_i e;subst e;omega
  ·rename_i e;rw[c2 j e];exact h.Yf j hj
 ·rw[hl,hp];unfold qV
  split
  ·rename_i e;subst e;omega
  ·rename_i e;rw[c2 j e];exact h.KY j hj
theorem AT {o:cY}(h:o.1≠t1)(s x:Int):mo t1 s o x=0:=by unfold mo;rw[if_neg λq=>h q.1]
theorem Du {o:cY}(h:o.1=t1){s x:Int}(hs:aG o=s):mo t1 s o x=x:=by unfold mo;rw[if_pos ⟨h,hs⟩]
theorem Jg {o:cY}{s x:Int}(hs:aG o≠s):mo t1 s o x=0:=by unfold mo;rw[if_neg λq=>hs q.2]
theorem Hp {op ps:List (List Int)}{l:uA}{o:cY}{i:Nat}(h:wW op ps l o i):UK l o:=λ_=>⟨by
 rcases h.ord.gM with⟨_,e⟩|⟨_,e,_⟩<;>omega,h.nP,h.value⟩
theorem zaC {v v':V}{μ:Nat->MS}(hs:SS v μ)(h:NT v μ)(hc:v'.cfg=v.cfg){i:Nat}(hi:i<8){o:cY}(hr:wW v.op v.ps (v.cfg.2.1.getD o.1.toNat l0) o i)(hp:v'.ps=oS i v.ps (js o (μ i)).2):NT v' (qV μ i (js o (μ i)).1):=by
 have hI:=hs.Xo hi;have b0:=h.Yf i hi;have s0:=h.KY i hi;have o0:=h.opn;have eo:om (μ i)=wm (wt t1 1) (μ i)+wm (wt t1 2) (μ i):=rfl;have w1:=Hn t1 1 hI;have w2:=Hn t1 2 hI;have hq:=hr.ord.nP;have hbd:bad (lf v) o=0->wm (bad (lf v)) (js o (μ i)).1<=0:=λe=>by
  have a:=Dt (Je (lf v)) hr.ord (μ i) hI;have b:=wz (js o (μ i)).2;have c:=h.ord i hi;omega
 have key:tb v.ps 1 i+(wm (wt t1 1) (μ i)+wt t1 1 o)<=(lf v).2.2.2.1/\wm (wt t1 2) (μ i)+wt t1 2 o-tb v.ps 1 i<=(lf v).2.2.2.1/\gU ((List.range 8).map λi=>om (μ i))+wt t1 1 o+wt t1 2 o<=(lf v).2.2.1/\bad (lf v) o=0:=by
  by_cases ht:o.1=t1
  ·have e1:v.cfg.2.1.getD o.1.toNat l0=lf v:=by rw[ht];rfl
   have e2:o.1.toNat=1:=by rw[ht];rfl
   rw[e1] at hr;have r1:=hr.opn;have r2:=hr.Yf;have r3:=hr.KY;rw[e2] at r1 r2 r3;rw[hs.zaB] at r1;rw[hs.WS hi] at r2 r3;have hb:=AS (Hp hr);rcases hr.ord.side with e|e
   ·have z1:wt t1 1 o=aj o:=Du ht e
    have z2:wt t1 2 o=0:=Jg (by omega)
    have:=r2 e;omega
   ·have z1:wt t1 1 o=0:=Jg (by omega)
    have z2:wt t1 2 o=aj o:=Du ht e;have:=r3 e;omega
  ·have z1:wt t1 1 o=0:=AT ht _ _
   have z2:wt t1 2 o=0:=AT ht _ _;have hb:bad (lf v) o=0:=AS λq=>absurd q ht;omega
 exact Pw hs h hc hi (Xj hs.si.pV hi o).2 hp (Dt (yq t1 1) hr.ord (μ i) hI) (Dt (yq t1 2) hr.ord (μ i) hI) key.1 key.2.1 (by omega) (hbd key.2.2.2)
theorem UM {v v':V}{μ:Nat->MS}(hs:SS v μ)(h:NT v μ)(hc:v'.cfg=v.cfg){i n:Nat}(hi:i<8)(hn:n<32){d p q:Int}{gC:cY}(hw:oO n d (μ i).1 (μ i).2.1 (μ i).2.2.1=some gC)
  (hr: ¬p=an gC\/q>aj gC->wW (Jr v.op n i (tb v.op n i-aj gC)) v.ps (v.cfg.2.1.getD n l0) (amR gC p q) i) (hp:v'.ps=oS i v.ps (eG n d p q (μ i)).2.2):NT v' (qV μ i (eG n d p q (μ i)).2.1):=by
 have hI:=hs.Xo hi;have b0:=h.Yf i hi;have s0:=h.KY i hi;have o0:=h.opn;have eo:om (μ i)=wm (wt t1 1) (μ i)+wm (wt t1 2) (μ i):=rfl;have w1:=Hn t1 1 hI;have w2:=Hn t1 2 hI;have U8:gC.1=(n:Int):=(E8 hw).2;have hbd:(¬p=an gC\/q>aj gC->bad (lf v) (ym gC p q)=0)->wm (bad (lf v)) (eG n d p q (μ i)).2.1<=0:=λe=>by
  have c:=h.ord i hi;have a:=Fw (Je (lf v)) n d p q hI hw c λk=>by
   have:=e k;have:=Fy (lf v) gC;omega
  have b:=wz (eG n d p q (μ i)).2.2;omega
 have l1:=(yq t1 1).less (o:=gC) (o':=ym gC p q) rfl rfl;have l2:=(yq t1 2).less (o:=gC) (o':=ym gC p q) rfl rfl;have key:(wt t1 1 (ym gC p q)<=wt t1 1 gC/\wt t1 2 (ym gC p q)<=wt t1 2 gC/\((¬p=an gC\/q>aj gC)->bad (lf v) (ym gC p q)=0))\/
   (tb v.ps 1 i+(wm (wt t1 1) (μ i)-wt t1 1 gC+wt t1 1 (ym gC p q))<=(lf v).2.2.2.1/\(wm (wt t1 2) (μ i)-wt t1 2 gC+wt t1 2 (ym gC p q))-tb v.ps 1 i<=(lf v).2.2.2.1/\
    gU ((List.range 8).map λi=>om (μ i))-wt t1 1 gC-wt t1 2 gC+wt t1 1 (ym gC p q)+wt t1 2 (ym gC p q)<=(lf v).2.2.1/\((wt t1 1 gC=0/\wt t1 1 (ym gC p q)=0)\/(wt t1 2 gC=0/\wt t1 2 (ym gC p q)=0))/\bad (lf v) (ym gC p q)=0):=by
  by_cases ht:n=1
  ·subst ht
   by_cases Ol: ¬p=an gC\/q>aj gC
   ·have hr:=hr Ol
    have r1:=hr.opn;have r2:=hr.Yf;have r3:=hr.KY;have e2:(amR gC p q).1.toNat=1:=by show gC.1.toNat=1;rw[U8];rfl
    have JK:=Ja (f:=λj=>tb v.op 1 j) (g:=λj=>tb (Jr v.op 1 i (tb v.op 1 i-aj gC)) 1 j) (n:=i) (λj hj=>by rw[ur hs.si.op.sP (by omega) hi,if_neg λq=>hj q.2]) 8
    have ett:tb (Jr v.op 1 i (tb v.op 1 i-aj gC)) 1 i=om (μ i)-aj gC:=by rw[ur hs.si.op.sP (by omega) hi,if_pos ⟨rfl,rfl⟩,hs.WS hi]
    have o1:=hs.WS hi;have o2:=hs.zaB;rw[if_pos hi,ett] at JK;rw[e2] at r1 r2 r3;rw[ett] at r2 r3;unfold uu at r1 o2;change gU ((List.range 8).map λj=>tb (Jr v.op 1 i (tb v.op 1 i-aj gC)) 1 j)+q<=(lf v).2.2.1 at r1;change gU ((List.range 8).map λj=>tb v.op 1 j)=_ at o2;change aG gC=1->_+(_+q)<=(lf v).2.2.2.1 at r2;change aG gC=2->_+q-_<=(lf v).2.2.2.1 at r3;have hb:bad (lf v) (ym gC p q)=0:=AS λk=>(Hp hr:UK (lf v) (amR gC p q)) k;have JM:aG gC=1\/aG gC=2:=hr.ord.side;have g: ∀s x,aG gC=s->wt t1 s gC=aj gC/\wt t1 s (ym gC p q)=q/\(x≠s->wt t1 x gC=0/\wt t1 x (ym gC p q)=0):=λs x e=>⟨Du U8 e,Du (o:=ym gC p q) U8 e,λk=>⟨Jg (by omega),Jg (o:=ym gC p q) (by show aG gC≠x;omega)⟩⟩
    refine .inr ?_;rcases JM with e|e
    ·have:=g 1 2 e;have:=r2 e;omega
    ·have:=g 2 1 e;have:=r3 e;omega
   ·exact .inl ⟨l1 (show p=an gC by omega) (show q<=aj gC by omega),l2 (show p=an gC by omega) (show q<=aj gC by omega),λk=>absurd k Ol⟩
  ·have lF:gC.1≠t1:=λq=>ht (Int.ofNat_inj.1 (U8.symm.trans q))
   have z: ∀s,wt t1 s (ym gC p q)=0/\wt t1 s gC=0:=λs=>⟨AT (o:=ym gC p q) lF s _,AT lF s _⟩;have:=z 1;have:=z 2;exact .inl ⟨by omega,by omega,λ_=>AS λk=>absurd k lF⟩
 refine Pw hs h hc hi (Rj hs.si.pV hi n d p q).2 hp (Fw (yq t1 1) n d p q hI hw (K:=max (wm (wt t1 1) (μ i)) (wm (wt t1 1) (μ i)-wt t1 1 gC+wt t1 1 (ym gC p q))) (by omega) (λ_=>by omega))
  (Fw (yq t1 2) n d p q hI hw (K:=max (wm (wt t1 2) (μ i)) (wm (wt t1 2) (μ i)-wt t1 2 gC+wt t1 2 (ym gC p q))) (by omega) (λ_=>by omega)) ?_ ?_ ?_ (hbd λk=>key.elim (λx=>x.2.2 k) λx=>x.2.2.2.2)
 all_goals rcases key with k|k<;>omega
theorem zcr:PK PL:=by
 refine⟨λh _ hp hc=>Pu h hp hc,λhs h _ hk hp hm=>Pv hs h hp (by rw[hk.eq]) hm,fun{k v μ v' μ'} hs h _ hk hc=>?_,λh=>h⟩
 have Rp:v'.cfg=v.cfg:=by rw[hk.eq]
 generalize hps:v'.ps=Xs at hc;cases hc with
 |same=>exact Pu h hps Rp
 |Ph x _ hm=>exact Pv hs h hps Rp hm
 |rem i t d hi=>
  refine Jf h hps Rp λj hj=>?_;unfold qV;split
  ·rename_i e;subst e
   exact⟨AR (yq t1 1) t d (hs.Xo hj),AR (yq t1 2) t d (hs.Xo hj),AR (Je _) t d (hs.Xo hj)⟩
  ·exact⟨zeF _,zeF _,zeF _⟩
 |add i o hi hr=>exact zaC hs h Rp hi hr hps
 |K6 i n d p q gC hi hn hw hr=>exact UM hs h Rp hi hn hw hr hps
abbrev vO (v:V)(p:Unit×(List Int)×Unit)(own:xe):=(p,((),v.c,(),(),()),(v.cfg,v.now,(),v.ph,v.mp,(),v.bp,v.lp,()),(v.tr,()),(v.op,v.ps,()),v.lg,(v.mt,()),own,v.M,v.L,v.S,v.F,v.O,v.B,())
section
variable {v:V}{μ:Nat->MS}{i:Nat}
theorem Gk (Rv:v.cfg.2.1[1]?=some (lf v))(hb:(lf v).2.1<=1099511627776)(all:List cY)(hlen:all.length<=64)(h: ∀o∈all,UK (lf v) o/\1<=aj o)(p:Unit×(List Int)×Unit)(i:Int):
  ag (bG WX) (((),(),i,all,(all.length:Int),0,()),vO v p v.cfg)=some (.inr (((),(),i,()),vO v p v.cfg)):=by
 refine Dp (b:=bG WX) (λj=>(((),(),i,all,(all.length:Int),(j:Int),()),vO v p v.cfg)) (.inr (((),(),i,()),vO v p v.cfg)) all.length (λj hj=>?_) ?_ 0 (by omega)
 ·have hx:=zdE hj
  have hh:=h _ (zeO hj);have e1:=lD hj (by omega)
  generalize all[j]=x at hx hh;have i1:(0:Int)<=(1:Int)/\(1:Int)<(32:Nat):=by omega
  have t1':(1:Int).toNat=1:=rfl;by_cases h1:x.1=1
  ·obtain⟨a,b,c⟩:=hh.1 h1
   have d:=Int.mul_nonneg a (show 0<=aj x by omega)
   have ew:i64.wrap (x.2.2.2.2.2.1*x.2.2.2.2.2.2.1)=an x*aj x:=nO (by show _<=an x*aj x;omega) (by show an x*aj x<=_;omega)
   simp only[bG,↓xo,xw,oT ((j:Int)<(all.length:Int)),oT ((0:Int)<=(j:Int)),zdA,zdB,hx,zdy,ot h1,ot i1,t1',Rv,bc (show¬x.2.2.2.2.2.2.1>(lf v).1 by show¬aj x>_;omega),zdz,ew,oF (an x*aj x>(lf v).2.1),e1]
  ·simp only[bG,↓xo,xw,oT ((j:Int)<(all.length:Int)),oT ((0:Int)<=(j:Int)),zdA,zdB,hx,zdy,bc h1,zdz,e1]
 ·simp only[bG,↓xo,oF ((all.length:Int)<(all.length:Int)),zdz]
theorem Jh (hs:SS v μ)(hp:NT v μ)(hb:(lf v).2.1<=1099511627776)(hc:0<=(lf v).2.2.2.1/\(lf v).2.2.2.1<=1099511627776)(p:Unit×(List Int)×Unit):ag (bW WX) (((),(),0,()),vO v p v.cfg)=some (.inr ((),vO v p v.cfg)):=by
 have Rv:v.cfg.2.1[1]?=some (lf v):=Dr hs (by omega)
 refine Dp (b:=bW WX) (λi=>(((),(),(i:Int),()),vO v p v.cfg)) (.inr ((),vO v p v.cfg)) 8 (λi hi=>?_) ?_ 0 (by omega)
 ·obtain⟨bs,ss,st,hM,hB,hI,hH⟩:=hs.si.pV.at_ i hi
  have hmp:=hs.si.pV.mp i hi;have hA:=all_mk (last:=(μ i).2.2.2.1) (no:=(μ i).2.2.2.2) hB hI;have ho:=Gk Rv hb (s9 (μ i).1 (μ i).2.1 (μ i).2.2.1) (yl hI) (λo ho=>⟨Xn (hp.ord i hi) o ho,(uq hI o ho).1⟩) p (i:Int);have hps:=T5 (op:=v.op) hs.si.ps.sP (show 1<32 by omega) hi
  change eV WX (((),1,(i:Int),()),Gh v.op v.ps)=_ at hps;have w1:=Hn t1 1 hI;have w2:=Hn t1 2 hI;have b1:=hp.Yf i hi;have b2:=hp.KY i hi;have e1:=lD hi (by omega)
  have n1: ¬(i+1=0):=by omega
  have i1:(0:Int)<=(1:Int)/\(1:Int)<(32:Nat):=by omega
  have t1':(1:Int).toNat=1:=rfl;have ew:i64.wrap (0-(lf v).2.2.2.1)=0-(lf v).2.2.2.1:=nO (by omega) (by omega)
  simp only[bW,c8,gK,cu,↓xo,xw,↓xl,oT ((i:Int)<8),oF ((i:Int)<0),oF ((i:Int)>=8),ot (CC hi),zdA,zdz,zdB,hmp,zdy,bc n1,au,hM,hA,aJ hM,ho,hps,ot i1,t1',Rv,oF (tb v.ps 1 i>(lf v).2.2.2.1),ew,oF (tb v.ps 1 i<0-(lf v).2.2.2.1),e1]
 ·simp only[bW,↓xo,oF (((8:Nat):Int)<8),zdz]
end
theorem Yn (f:cY->Int):wm f m0=0:=rfl
theorem dK.zdl (c:List Int)(l:List Ay)(hc:Tv c)(hq: ∀q∈l,MvI q):dK WX ((c,l,()),())=some ((true,()),()):=by
 obtain⟨g,hg,h1,h2⟩:=Ri hc;have C1: ∃a2 a3 a4 a5:Int,g.2.1.getD 1 l0=(a2,a3,a4,a5,())/\a3<=3000/\0<=a4/\0<=a5/\a5<=40:=by
  obtain⟨a0,a1,a2,a3,a4,a5,b,r,t,l,d,q,_,_,_,_,x3,x4,x5,_,_,_,_,_,_,rfl⟩:=hg.ex;refine⟨a2,a3,a4,a5,?_,x3.2,x4.1,x5.1,x5.2⟩;rw[zdP];have hlen:1<L6.length:=by have:=Nj (x:=((0:Int),(0:Int),(0:Int),(0:Int),()));rw[zec] at this;omega
  show((L6.set 1 (a2,a3,a4,a5,()))[1]?).getD l0=_
  rw[zed hlen];rfl
 obtain⟨a2,a3,a4,a5,hl,b3,b4,b5,b6⟩:=C1;have CF:lf (v0 g)=(a2,a3,a4,a5,()):=hl;have h0:PL 0 (v0 g) (λ_=>m0):=by
  refine⟨λi hi=>zeF 0,?_,λi hi=>?_,λi hi=>?_⟩
  ·rw[CF]
   show gU ((List.range 8).map λi=>om m0)<=a4
   have:gU ((List.range 8).map λ_=>om m0)=0:=rfl;omega
  ·rw[CF]
   show tb oo 1 i+wm (wt t1 1) m0<=a5
   rw[Le (by omega) hi,Yn];omega
  ·rw[CF]
   show wm (wt t1 2) m0-tb oo 1 i<=a5
   rw[Le (by omega) hi,Yn];omega
 obtain⟨p,v,p1,⟨μ,k,m,p2,_⟩,p3⟩:=UC zcr hg h2 l hq 40 (by omega) h0
 have hP:NT v μ:=p2.p;have TK:lf v=(a2,a3,a4,a5,()):=by unfold lf;rw[p3];exact hl
 have hs:=Jh p2.ss hP (by rw[TK];show a3<=_;omega) (by rw[TK];show 0<=a5/\a5<=_;omega) p
 have ho:=KX (ps:=v.ps) p2.ss.si.op.sP (show 1<32 by omega) (λi hi=>p2.ss.si.op.AW 1 i (by omega) hi)
 change gu WX (((),1,()),Gh v.op v.ps)=_ at ho;have Rv:v.cfg.2.1[1]?=some (lf v):=Dr p2.ss (by omega)
 have uN:=hP.opn;rw[<-p2.ss.zaB] at uN;have ha:=Nn;have i1:(0:Int)<=(1:Int)/\(1:Int)<(32:Nat):=by omega
 have t1':(1:Int).toNat=1:=rfl;change iJ WX ((c,l,40,()),())=_ at p1;rw[<-p3] at h1;simp only[V.e] at p1;simp only[dK,p1,zdy,c8,cu,h1,ho,↓xo,ot i1,zdA,t1',Rv,oF (uu v.op 1>(lf v).2.2.1),zdz,↓xl,hs,ha]
theorem dK.law (a0:List Int)(a1:List Ay)(h0:Oz (.deep (.int .i64)) a0)(h1:Oz (.deep VU) a1):dK W0 ((a0,a1,()),())=some ((true,()),()):=by
 rw[XU];exact dK.zdl a0 a1 (Xk h0) (zcq h1)
end AM
