/- The engine and the venue, in plain Lean: what the printed functions keep, continued. Conditions: none. -/
import Derived.Test.YtepopigkpnoflaaGreatLaw1
set_option linter.unusedVariables false
set_option linter.unusedSimpArgs false
set_option maxRecDepth 100000
namespace AM
open Go Go.Proofs IntKind
abbrev T0:pv:=(0,0,0,0,false,hY,())
structure Q7 (tr:List pv):Prop where
 len:tr.length=32
 kr: ∀x∈tr,0<=x.1/\x.1<=7
 key: ∀x∈tr,x.2.2.2.2.2.1.length=32
def gz (tr:List pv)(n:Int):pv:=tr.getD n.toNat T0
noncomputable def lf (tr:List pv)(n:Int):Bool:=if 0<=n/\n<=31 then !af ((gz tr n).2.2.1=0) else false
noncomputable def vB (tr:List pv)(n:Int):pv:=if lf tr n=true then gz tr n else T0
abbrev RA (tr:List pv):((List pv)×Unit)×Unit:=((tr,()),())
section
variable {tr:List pv}
theorem sk (h:Q7 tr){n:Int}(hn:0<=n/\n<=31):tr[n.toNat]?=some (gz tr n):=by
 have:=zdL (l:=tr) (i:=n.toNat) (by rw[h.len];omega)
 unfold gz;rw[zdW,this];rfl
theorem CZ {n:Int}(hn:0<=n/\n<=31):0<=n/\n<(32:Nat):=by omega
theorem oR (h:Q7 tr)(n:Int):bK WX (((),n,()),RA tr)=some ((lf tr n,()),RA tr):=by
 unfold lf;by_cases hn:0<=n/\n<=31
 ·rw[if_pos hn]
  simp only[bK,iD,↓xo,ot (show n>=0 by omega),ot hn.2,zdH,zdF,ot (CZ hn),sk h hn]
 ·rw[if_neg hn]
  by_cases h0:n>=0
  ·simp only[bK,iD,↓xo,ot h0,aV (show¬n<=31 by omega),zdH,zdG,zdF]
  ·simp only[bK,iD,↓xo,aV h0,zdG,zdF]
theorem pT {n:Int}(h:lf tr n=true):0<=n/\n<=31:=by
 unfold lf at h;split at h
 ·assumption
 ·cases h
theorem oD (h:Q7 tr)(n:Int):bF WX (((),n,()),RA tr)=some ((vB tr n,()),RA tr):=by
 have h1:=oR h n;unfold vB;cases ht:lf tr n with
 |true=>
  rw[ht] at h1;have hn:=pT ht;simp only[bF,h1,zdF,zdJ,zdG,↓xo,ot (CZ hn),zdH,sk h hn,if_true]
 |false=>
  rw[ht] at h1;simp only[bF,h1,zdF,zdK,zdH,zdN,if_false]
theorem Hw (h:Q7 tr)(n:Int):0<=(vB tr n).1/\(vB tr n).1<=7:=by
 unfold vB;split
 ·rename_i ht
  exact h.kr _ (zeH (sk h (pT ht)))
 ·exact⟨zeL _,by decide⟩
theorem Ul (h:Q7 tr)(n:Int):(vB tr n).2.2.2.2.2.1.length=32:=by
 unfold vB;split
 ·rename_i ht
  exact h.key _ (zeH (sk h (pT ht)))
 ·rfl
noncomputable def WV (tr:List pv)(n:Int)(b:Bool):List pv:=if lf tr n=true then tr.set n.toNat ((gz tr n).1,(gz tr n).2.1,(gz tr n).2.2.1,(gz tr n).2.2.2.1,b,(gz tr n).2.2.2.2.2) else tr
theorem Pk (h:Q7 tr)(n:Int)(b:Bool):jb WX (((),n,b,()),RA tr)=some ((lf tr n,()),RA (WV tr n b)):=by
 have h1:=oR h n;unfold WV;cases ht:lf tr n with
 |true=>
  rw[ht] at h1;have hn:=pT ht;simp only[jb,h1,zdF,zdJ,zdG,↓xo,ot (CZ hn),zdH,sk h hn,if_true]
 |false=>
  rw[ht] at h1;simp only[jb,h1,zdF,zdK,zdH,zdN,if_false]
structure F3 (tr tr':List pv):Prop where
 len:tr'.length=tr.length
 same: ∀i:Nat,(tr'.getD i T0).1=(tr.getD i T0).1/\(tr'.getD i T0).2.1=(tr.getD i T0).2.1/\(tr'.getD i T0).2.2.1=(tr.getD i T0).2.2.1/\(tr'.getD i T0).2.2.2.2.2=(tr.getD i T0).2.2.2.2.2
theorem F3.rfl {tr:List pv}:F3 tr tr:=⟨Eq.refl _,λ_=>⟨Eq.refl _,Eq.refl _,Eq.refl _,Eq.refl _⟩⟩
theorem F3.trans {a b c:List pv}(h:F3 a b)(k:F3 b c):F3 a c:=⟨k.len.trans h.len,λi=>⟨(k.same i).1.trans (h.same i).1,(k.same i).2.1.trans (h.same i).2.1,(k.same i).2.2.1.trans (h.same i).2.2.1,(k.same i).2.2.2.trans (h.same i).2.2.2⟩⟩
theorem F3.inv {a b:List pv}(h:F3 a b)(k:Q7 a):Q7 b:=by
 have key: ∀x∈b,∃y∈a,x.1=y.1/\x.2.2.2.2.2=y.2.2.2.2.2:=λx hx=>by
  obtain⟨i,hi,rfl⟩:=zen hx;have hl:=h.len;have h1:=h.same i;have e1:b.getD i T0=b[i]:=by rw[zdW,zdL hi];rfl
  have e2:a.getD i T0=a[i]'(by omega):=by rw[zdW,zdL (by omega)];rfl
  rw[e1,e2] at h1;exact⟨a[i]'(by omega),zeT _,h1.1,h1.2.2.2⟩
 refine⟨by rw[h.len];exact k.len,λx hx=>?_,λx hx=>?_⟩
 ·obtain⟨y,hy,e,_⟩:=key x hx
  rw[e];exact k.kr y hy
 ·obtain⟨y,hy,_,e⟩:=key x hx
  rw[e];exact k.key y hy
theorem Jk (tr:List pv)(n:Int)(b:Bool):F3 tr (WV tr n b):=by
 unfold WV;split
 ·refine⟨by rw[zej],λi=>?_⟩
  simp only[zdW,zfc];by_cases e:n.toNat=i
  ·subst e
   rw[if_pos rfl];by_cases hl:n.toNat<tr.length
   ·rw[if_pos hl]
    simp[gz,zdW]
   ·rw[if_neg hl,List.getElem?_eq_none (by omega)]
    exact⟨rfl,rfl,rfl,rfl⟩
  ·rw[if_neg e];exact⟨rfl,rfl,rfl,rfl⟩
 ·exact .rfl
structure PhI (ph:Jt):Prop where
 a:ph.1.length=8
 b:ph.2.1.length=8
 c:ph.2.2.1.length=8
theorem Nw {α:Type}{l:List α}(h:l.length=8){n:Int}(hn:0<=n/\n<=7): ∃x,l[n.toNat]?=some x:=⟨_,zdL (by rw[h];omega)⟩
theorem Jl {n:Int}(hn:0<=n/\n<=7):0<=n/\n<(8:Nat):=by omega
def An {α β:Type}(y:β)(o:Option (α×β)):Prop:= ∃x,o=some (x,y)
theorem An.bif {α β:Type}{y:β}{c:Bool}{a b:Option (α×β)}(h1:An y a)(h2:An y b):An y (bif c then a else b):=by cases c<;>assumption
theorem An.mk {α β:Type}(x:α)(y:β):An y (some (x,y)):=⟨x,rfl⟩
theorem Um (x:Bool×Unit):iV WX (x,())=some (((bif x.1 then 0 else 7),()),()):=by obtain⟨b,⟨⟩⟩:=x;cases b<;>rfl
theorem Q8 {ph:Jt}(hp:PhI ph)(x:pv)(i:Int):An () (jM WX ((ph,x,i,()),())):=by
 by_cases h0:i<0
 ·exact⟨(1,()),by simp only[jM,↓xo,ot h0,zdH]⟩
 by_cases h1:i>=8
 ·exact⟨(1,()),by simp only[jM,↓xo,aV h0,ot h1,zdH,zdG]⟩
 obtain⟨b,hb⟩:=Nw hp.a (n:=i) (by omega)
 simp only[jM,↓xo,xw,aV h0,aV h1,zdG,ic,zdF,aV (tu i),ot (show 0<=i/\i<(8:Nat) by omega),zdH,hb]
 repeat' first|exact An.mk _ _|apply An.bif
theorem K4 {ph:Jt}(hp:PhI ph)(x y:pv)(hx:0<=x.1/\x.1<=7):An () (ij WX ((ph,x,y,()),())):=by
 obtain⟨b,hb⟩:=Nw hp.c hx;simp only[ij,↓xo,xw,ic,zdF,aV (tu y.1),ot (Jl hx),zdH,zdG,hb];repeat' first|exact An.mk _ _|apply An.bif
theorem An.bind {α β γ δ:Type}{y:β}{z:δ}{o:Option (α×β)}{f:α×β->Option (γ×δ)}(h:An y o)(k: ∀x,An z (f (x,y))):An z (o.bind f):=by
 obtain⟨x,rfl⟩:=h;exact k x
theorem WW (h:Q7 tr){ph:Jt}(hp:PhI ph)(n d i o:Int):An (RA tr) (lM WX (((),ph,n,d,i,o,()),RA tr)):=by
 have hx:=Hw h n;have hb:=(Nw hp.b hx);obtain⟨b,hb⟩:=hb;have k1: ∀x i,An () (jM WX ((ph,x,i,()),())):=λx i=>Q8 hp x i;have k2: ∀y,An () (ij WX ((ph,vB tr n,y,()),())):=λy=>K4 hp _ y hx;simp only[lM,oR h,oD h,↓xo,zdF,ot (Jl hx),zdH,hb,ic,Um];repeat' first|exact An.mk _ _|apply An.bif|(refine An.bind (k1 _ _) λx=>?_)|(refine An.bind (k2 _) λx=>?_;rw[Um,zdF])
theorem Pl (h:Q7 tr)(n sc:Int):An (RA tr) (ja WX (((),n,sc,()),RA tr)):=by
 obtain⟨s,h1,_⟩:=oC (b:=cL WX) 32 (λk (s:Int)=>(((),n,sc,(),s,tr,(k:Int),()),(tr,()),(vB tr n,()))) (λs=>((s,()),(tr,()),(vB tr n,()))) (λ_ _=>True)
  (λk s hk _=>by
   have hx:=zdL (l:=tr) (i:=k) (by rw[h.len];exact hk)
   generalize tr[k]'(by rw[h.len];exact hk)=x at hx
   have e1:=jY hk (by omega)
   have key: ∃s',cL WX (((),n,sc,(),s,tr,(k:Int),()),(tr,()),(vB tr n,()))=some (.inl (((),n,sc,(),s',tr,((k+1:Nat):Int),()),(tr,()),(vB tr n,()))):=by
    simp only[cL,↓xo,xw,ot (show(k:Int)<32 by omega),ot (qX hk),zdH,zdI,hx,zdF,oR h,aV (tu (k:Int)),zdG,e1]
    have cb: ∀(c:Bool) (a b:Option (cL.D⊕cL.R)),(∃s',a=some (.inl (((),n,sc,(),s',tr,((k+1:Nat):Int),()),(tr,()),(vB tr n,()))))->(∃s',b=some (.inl (((),n,sc,(),s',tr,((k+1:Nat):Int),()),(tr,()),(vB tr n,()))))->∃s',(bif c then a else b)=some (.inl (((),n,sc,(),s',tr,((k+1:Nat):Int),()),(tr,()),(vB tr n,()))):=λc a b ha hb=>by cases c<;>assumption
    repeat' first|exact⟨_,rfl⟩|apply cb
   obtain⟨s',hs⟩:=key;exact⟨s',hs,trivial⟩)
  (λs _=>by simp only[cL,↓xo,aV (show¬((32:Nat):Int)<32 by omega),zdG]) 0 trivial
 change ag (cL WX) (((),n,sc,(),0,tr,0,()),(tr,()),(vB tr n,()))=_ at h1;exact⟨(s,()),by simp only[ja,oD h,zdF,↓xl,h1]⟩
end
theorem Un (k:xm)(now:Int)(h:k.2.1≠0): ∃b k',fI WX (((),now,()),(k,()))=some ((b,()),(k',()))/\k'.2.1=k.2.1:=by
 have key: ∃k1,fH WX (((),now,()),(k,()))=some ((),(k1,()))/\k1.2.1=k.2.1:=by
  by_cases h1:now<=k.2.2.2.1
  ·exact⟨k,by simp only[fH,↓xo,ot h1,zdH],rfl⟩
  ·by_cases h2:i64.wrap (k.2.2.1+i64.wrap (Int.tdiv (i64.wrap (now-k.2.2.2.1)) k.2.1))>=k.1
   ·refine⟨_,(?_:_=some ((),((k.1,k.2.1,k.1,now,()),()))),rfl⟩
    simp only[fH,↓xo,xw,aV h1,aV h,zdG,ot h2,zdH]
   ·refine⟨?w,?_,?_⟩
    rotate_left
    ·simp only[fH,↓xo,xw,aV h1,aV h,zdG,aV h2]
     rfl
    ·rfl
 obtain⟨k1,h1,h2⟩:=key;by_cases c1:k1.2.2.1=0
 ·exact⟨false,k1,by simp only[fI,h1,zdF,↓xo,ot c1,zdH],h2⟩
 ·by_cases c2:k1.2.2.1=k1.1
  ·refine⟨true,?w2,?_,?_⟩
   rotate_left
   ·simp only[fI,h1,zdF,↓xo,aV c1,ot c2,zdH,zdG]
    rfl
   ·exact h2
  ·refine⟨true,?w3,?_,?_⟩
   rotate_left
   ·simp only[fI,h1,zdF,↓xo,aV c1,aV c2,zdG]
    rfl
   ·exact h2
theorem FB {m:MS}(h:yy m)(k:Nat)(out:List lU):ku k m out=(m,out):=by
 obtain⟨A,B,ws,last,no⟩:=m;cases k with
 |zero=>rfl
 |succ k=>
  have:ws.findIdx? (Je last)=none:=by
   rw[zfl];exact λx hx=>h x hx
  unfold ku;rw[this]
theorem Nx (o:dP){m:MS}(hh:yy m): ∃x rest,(kY o m).2=x::rest/\(¬x.2.2.2.2.2.2.1=0->(kY o m).1=m):=by
 unfold kY;split
 ·exact⟨_,_,rfl,λ_=>by simp only[FB hh]⟩
 ·split
  ·exact⟨_,_,rfl,λq=>absurd rfl q⟩
  ·refine⟨_,_,rfl,λq=>?_⟩
   unfold ju at q⊢;split
   ·exact congrArg Prod.fst (FB hh _ _)
   ·rename_i h0
    rw[if_neg h0] at q;split at q
    ·exact absurd rfl q
    ·exact absurd rfl q
structure SS (v:V)(μ:Nat->MS):Prop where
 si:SI v μ
 tr:Q7 v.tr
 ph:PhI v.ph
 Yl:v.cfg.2.1.length=32
 bp: ∀n,n<32->v.bp[n]?=some (n+1)
 B: ∀n,n<32->∃k,v.B[n]?=some (k,())/\k.2.1≠0
 lp: ∀n,n<32->v.lp[n]?=some (n+1)
 L: ∀n,n<32->∃k,v.L[n]?=some (k,())
 now:0<=v.now/\v.now<=1099511627776
abbrev l0:xm:=(0,0,0,0,())
def amR (lS:dP)(p q:Int):dP:=(lS.1,lS.2.1,lS.2.2.1,lS.2.2.2.1,lS.2.2.2.2.1,p,q,min (Od.show lS) q,lS.2.2.2.2.2.2.2.2)
inductive Pm (v:V)(μ:Nat->MS):(Nat->MS)->List (List Int)->Prop
 |same:Pm v μ μ v.ps
 |Pn (x:Int) (μ':Nat->MS) (h: ∀i,μ' i=μ i\/μ' i=(mX x (μ i)).1):Pm v μ μ' v.ps
 |rem (i:Nat) (t d:Int) (hi:i<8):Pm v μ (xc μ i ((mW t d (μ i).1 (μ i).2.1 (μ i).2.2.1).2.2.1,(mW t d (μ i).1 (μ i).2.1 (μ i).2.2.1).2.2.2.1,(mW t d (μ i).1 (μ i).2.1 (μ i).2.2.1).2.2.2.2,(μ i).2.2.2)) v.ps
 |add (i:Nat) (o:dP) (hi:i<8) (h:B2 v.op v.ps (v.cfg.2.1.getD o.1.toNat l0) o i):Pm v μ (xc μ i (kY o (μ i)).1) (sW i v.ps (kY o (μ i)).2)
 |K5 (i:Nat) (n:Nat) (d p q:Int) (lS:dP) (hi:i<8) (hn:n<32) (hw:tq n d (μ i).1 (μ i).2.1 (μ i).2.2.1=some lS)
   (h: ¬p=Od.aZ lS\/q>Od.eD lS->B2 (Fy v.op n i (tb v.op n i-Od.eD lS)) v.ps (v.cfg.2.1.getD n l0) (amR lS p q) i):
   Pm v μ (xc μ i (ga n d p q (μ i)).2.1) (sW i v.ps (ga n d p q (μ i)).2.2)
structure Kept (v v':V):Prop where
 eq:v'={v with ph:=v'.ph,tr:=v'.tr,op:=v'.op,ps:=v'.ps,M:=v'.M,L:=v'.L,B:=v'.B}
 tr:F3 v.tr v'.tr
theorem Kept.rfl (v:V):Kept v v:=⟨Eq.refl v, .rfl⟩
def Ny (v:V)(μ:Nat->MS)(o:Option ((((Unit×Int×Unit)×(u9×Int×Unit×Jt×(List Nat)×Unit×(List Nat)×(List Nat)×Unit)×((List pv)×Unit)×((List (List Int))×(List (List Int))×Unit)×List hZ×(List tk)×(List tn)×(List vm)×Unit))⊕((List hZ×Int×Unit)×ST))):Prop:=
 ∃v' μ',SS v' μ'/\Kept v v'/\Pm v μ μ' v'.ps/\((∃e,o=some (.inl (((),e,()),sE v' [])))\/∃out,out.length<=80000000/\o=some (.inr ((out,0,()),v'.s)))
section
variable {v:V}{μ:Nat->MS}{i n:Nat}
theorem Ny.same (h:SS v μ)(e:Int){o}(ho:o=some (.inl (((),e,()),sE v []))):Ny v μ o:=⟨v,μ,h, .rfl v, .same, .inl ⟨e,ho⟩⟩
theorem B3 (h:SS v μ)(n d i o:Int): ∃e,dj WX (((),n,d,i,o,()),v.s)=some ((e,()),v.s):=by
 obtain⟨⟨e,⟨⟩⟩,h1⟩:=WW h.tr h.ph n d i o;exact⟨e,by simp only[dj,V.s,h1,zdF]⟩
theorem Po (h:SS v μ)(hn:n<32):v.cfg.2.1[n]?=some (v.cfg.2.1.getD n l0):=by
 have:=zdL (l:=v.cfg.2.1) (i:=n) (by rw[h.Yl];exact hn)
 rw[zdW,this];rfl
theorem SS.kC (h:SS v μ){op ps M}{μ':Nat->MS}(hs:SI {v with op:=op,ps:=ps,M:=M} μ'):SS {v with op:=op,ps:=ps,M:=M} μ':=⟨hs,h.tr,h.ph,h.Yl,h.bp,h.B,h.lp,h.L,h.now⟩
theorem B4 (μ:Nat->MS)(i:Nat):xc μ i (μ i)=μ:=by
 funext j
 unfold xc;split
 ·rename_i e;rw[e]
 ·rfl
theorem WY (h:SS v μ)(hi:i<8)(l:xm)(o:dP): ∃e,gS WX (((),l,o,(i:Int),()),Jh v.op v.ps)=some ((e,()),Jh v.op v.ps)/\(e=0->B2 v.op v.ps l o i):=K0 h.si.op.qo h.si.ps.qo hi l o h.si.op.xr h.si.ps.xr
theorem Pp (hm:A2 v μ)(ho:Lx v.op)(hx: ∀n j,n<32->j<8->j≠i->tb v.op n j=wi n (μ j))(hp:Q4 v.ps)(hi:i<8)(l:List lU)(hl:l.length<=70)(hc: ∀x∈l,pY x): ∃out m8,fu WX (((),(i:Int),l,()),v.s)=some ((out,()),{v with ps:=sW i v.ps l,op:=m8}.s)/\SI {v with ps:=sW i v.ps l,op:=m8} μ/\out.length<=80000000:=by
 obtain⟨out,m8,h1,h2,h3,h4,h5⟩:=WU hm ho hp hi l hl hc;refine⟨out,m8,h1,⟨⟨hm.mp,hm.at_⟩,h3,λn j hn hj=>?_,h2⟩,h5⟩;show tb m8 n j=_
 rw[h4 n j hn];split
 ·rename_i e;rw[e]
 ·rename_i e;exact hx n j hn hj e
theorem Uo (h:SS v μ)(hn:n<32)(hi:i<8)(kd sq td id sd od pr qt sh st wh a b:Int)(tg:List Int):Ny v μ (fO WX (((),(n:Int),(kd,sq,td,(i:Int),id,sd,od,pr,qt,sh,st,wh,a,b,tg,()),()),v.s)):=by
 obtain⟨e,l8⟩:=B3 h (n:Int) 1 (i:Int) (n:Int);simp only[V.s] at l8;by_cases he:e=0
 ·subst he
  have Yf:=oD h.tr (n:Int);have GA:=Po h hn;generalize ho:((n:Int),id,(vB v.tr n).1,sd,od,pr,qt,sh,st,())=o;obtain⟨e2,Ph,Lr⟩:=WY h hi (v.cfg.2.1.getD n l0) o;by_cases he2:e2=0
  ·subst he2
   have Ol:=Lr rfl;obtain⟨bs,ss,fy,hM,hB,hI,hH⟩:=h.si.pK.at_ i hi;obtain⟨pq,pt,Im,a1,a2,a3,a4,a5⟩:=Nt (last:=(μ i).2.2.2.1) (no:=(μ i).2.2.2.2) hB hI o;have a6:=zQ o (μ i) hI;obtain⟨x,rest,b1,b2⟩:=Nx o hH;change dN WX (((),o,()),CX (μ i).2.2.2.1 (μ i).2.2.2.2 bs ss (μ i).2.2.1 fy)=some (((),()),((),(),()),kF (kY o (μ i)).1.2.2.2.1 (kY o (μ i)).1.2.2.2.2,(kY o (μ i)).1.2.2.1,pq,pt,(kY o (μ i)).2,Im,()) at a1;have m1:=DK h.si.pK hi (m:=(kY o (μ i)).1) a2 a3 a4;have hp:=h.si.pK.mp i hi;have e0:(0:Int)<=0/\(0:Int)<((((kY o (μ i)).2.length:Nat)):Int):=by rw[b1];simp only[zdQ];omega
   have e1:(kY o (μ i)).2[(0:Int).toNat]?=some x:=by rw[b1];rfl
   by_cases hx:x.2.2.2.2.2.2.1=0
   ·obtain⟨out,m8,c1,c2,c3⟩:=Pp m1 h.si.op (λm j hm hj mb=>by unfold xc;rw[if_neg mb];exact h.si.Ly m j hm hj) h.si.ps hi (kY o (μ i)).2 a5 a6
    refine⟨{v with ps:=sW i v.ps (kY o (μ i)).2,op:=m8,M:=v.M.set i (CX (kY o (μ i)).1.2.2.2.1 (kY o (μ i)).1.2.2.2.2 pq pt (kY o (μ i)).1.2.2.1 Im)},xc μ i (kY o (μ i)).1,h.kC c2,⟨rfl, .rfl⟩,Pm.add i o hi (by rw[show o.1.toNat=n by rw[<-ho];exact zdI n];exact Ol), .inr ⟨out,c3,?_⟩⟩
    simp only[V.s] at c1⊢;simp only[fO,l8,zdF,↓xo,eq_self,iX,zdJ,zdG,Yf,ot (qX hn),zdH,zdI,GA,ho,Ph,ot (zU hi),hp,al,hM,a1,ot e0,e1,ot hx,c1]
   ·have hμ:=b2 hx
    have m2:xc μ i (kY o (μ i)).1=μ:=by rw[hμ];exact B4 μ i
    rw[m2] at m1;refine⟨{v with M:=v.M.set i (CX (kY o (μ i)).1.2.2.2.1 (kY o (μ i)).1.2.2.2.2 pq pt (kY o (μ i)).1.2.2.1 Im)},μ,h.kC (op:=v.op) (ps:=v.ps) ⟨m1,h.si.op,h.si.Ly,h.si.ps⟩,⟨rfl, .rfl⟩, .same, .inl ⟨x.2.2.2.2.2.2.1,?_⟩⟩;simp only[V.s];simp only[fO,l8,zdF,↓xo,eq_self,iX,zdJ,zdG,Yf,ot (qX hn),zdH,zdI,GA,ho,Ph,ot (zU hi),hp,al,hM,a1,ot e0,e1,aV hx,zdK]
  ·refine .same h e2 ?_
   simp only[V.s,fO,l8,zdF,↓xo,eq_self,iX,zdJ,zdG,Yf,ot (qX hn),zdH,zdI,GA,ho,Ph,aV he2,zdK]
 ·refine .same h e ?_
  simp only[V.s,fO,l8,zdF,↓xo,aV he,zdK,zdH]
end
theorem B5 {t d:Int}{m:Nat}{o:dP}: ∀{A:List nI},nb t d A=some (m,o)->o∈rI A/\o.1=t
 | [],h=>by cases h
 |a::A,h=>by
  unfold nb at h;unfold rI;rw[zet];cases ho:Q1 t d a with
  |some x=>
   rw[ho] at h;simp only[zdM,Prod.mk.injEq] at h;obtain⟨_,rfl⟩:=h;unfold Q1 at ho;have hp:Od.is t d x=true:=List.find?_some ho;exact⟨zdX _ (List.mem_of_find?_eq_some ho),(of_decide_eq_true hp).1⟩
  |none=>
   rw[ho] at h;simp only[zeC] at h;obtain⟨⟨m',o'⟩,h1,h2⟩:=h;simp only[Prod.mk.injEq] at h2;obtain⟨_,rfl⟩:=h2;obtain⟨i1,i2⟩:=B5 h1;exact⟨zdY _ i1,i2⟩
theorem Up {t d:Int}{A B:List nI}{ws:List dP}{o:dP}(h:tq t d A B ws=some o):o∈xD A B ws/\o.1=t:=by
 unfold tq vA at h;unfold xD;cases hA:nb t d A with
 |some x=>
  rw[hA] at h;simp only[zdM] at h;subst h;obtain⟨i1,i2⟩:=B5 (o:=x.2) hA;exact⟨zdX _ i1,i2⟩
 |none=>
  rw[hA] at h;cases hB:nb t d B with
  |some x=>
   rw[hB] at h;simp only[zdM] at h;subst h;obtain⟨i1,i2⟩:=B5 (o:=x.2) hB;exact⟨zdY _ (zdX _ i1),i2⟩
  |none=>
   rw[hB] at h;cases hw:ws.findIdx? (Od.is t d) with
   |none=>rw[hw] at h;cases h
   |some n=>
    rw[hw] at h;obtain⟨hn,hp,_⟩:=List.findIdx?_eq_some_iff_getElem.1 hw;have hg:ws.getD n o0=ws[n]:=by rw[zdW,zdL hn];rfl
    simp only[hg,zdM] at h;subst h;exact⟨zdY _ (zdY _ (zeT hn)),(of_decide_eq_true hp).1⟩
theorem Uq {t:Int}{l:List dP}(h: ∀o∈l,1<=Od.eD o){o:dP}(ho:o∈l)(ht:o.1=t):Od.eD o<=rP t l:=by
 unfold rP;induction l with
 |nil=>cases ho
 |cons x l ih=>
  have nn:0<=ik (l.map λo=>if o.1=t then Od.eD o else 0):=by
   clear ih ho;induction l with
   |nil=>exact zeL _
   |cons y l UZ=>
    have:=UZ λo ho=>by
     rcases List.mem_cons.1 ho with rfl|ho
     ·exact h _ (zdT ..)
     ·exact h _ (zdS _ (zdS _ ho))
    have hy:=h y (zdS _ (zdT ..));simp only[zeD,ik,zeB] at this⊢;split<;>omega
  have hx:=h x (zdT ..);simp only[zeD,ik,zeB] at*;rcases List.mem_cons.1 ho with rfl|ho
  ·rw[if_pos ht];omega
  ·have:=ih (λo ho=>h o (zdS _ ho)) ho
   split<;>omega
theorem NA {t d p q:Int}{m:MS}(h: ¬(ga t d p q m).1=0):(ga t d p q m).2.1=m:=by
 unfold ga at h⊢;split
 ·rfl
 ·rename_i lS hw
  rw[hw] at h;simp only at h⊢;split
  ·rfl
  ·rename_i h1
   rw[if_neg h1] at h;split at h
   ·exact absurd rfl h
   ·exact absurd rfl h
section
variable {v:V}{μ:Nat->MS}{i n:Nat}
theorem FC (h:SS v μ)(hn:n<32)(hi:i<8){d p q:Int}{lS:dP}(hw:tq n d (μ i).1 (μ i).2.1 (μ i).2.2.1=some lS){Uk:List (List Int)}(ho:Lx Uk)(hx: ∀m j,m<32->j<8->tb Uk m j=tb v.op m j)
  (hr: ¬p=Od.aZ lS\/q>Od.eD lS->B2 (Fy v.op n i (tb v.op n i-Od.eD lS)) v.ps (v.cfg.2.1.getD n l0) (amR lS p q) i) {bs ss:List Nat} {st:List gR} (hM:v.M[i]?=some (CX (μ i).2.2.2.1 (μ i).2.2.2.2 bs ss (μ i).2.2.1 st)) (hB:Bk bs ss st (μ i).1 (μ i).2.1):
  ∃pq pt fy,gw WX (((),(n:Int),d,p,q,()),CX (μ i).2.2.2.1 (μ i).2.2.2.2 bs ss (μ i).2.2.1 st)=some (((),(ga n d p q (μ i)).1,()),Ue (ga n d p q (μ i)).2.1.2.2.2.1 (ga n d p q (μ i)).2.1.2.2.2.2 pq pt (ga n d p q (μ i)).2.1.2.2.1 (ga n d p q (μ i)).2.2 fy)/\
  ((¬(ga n d p q (μ i)).1=0/\SS {v with op:=Uk,M:=v.M.set i (CX (ga n d p q (μ i)).2.1.2.2.2.1 (ga n d p q (μ i)).2.1.2.2.2.2 pq pt (ga n d p q (μ i)).2.1.2.2.1 fy)} μ)\/
   ((ga n d p q (μ i)).1=0/\∃out m8,fu WX (((),(i:Int),(ga n d p q (μ i)).2.2,()),{v with op:=Uk,M:=v.M.set i (CX (ga n d p q (μ i)).2.1.2.2.2.1 (ga n d p q (μ i)).2.1.2.2.2.2 pq pt (ga n d p q (μ i)).2.1.2.2.1 fy)}.s)=some ((out,()),{v with ps:=sW i v.ps (ga n d p q (μ i)).2.2,op:=m8,M:=v.M.set i (CX (ga n d p q (μ i)).2.1.2.2.2.1 (ga n d p q (μ i)).2.1.2.2.2.2 pq pt (ga n d p q (μ i)).2.1.2.2.1 fy)}.s)/\
    SS {v with ps:=sW i v.ps (ga n d p q (μ i)).2.2,op:=m8,M:=v.M.set i (CX (ga n d p q (μ i)).2.1.2.2.2.1 (ga n d p q (μ i)).2.1.2.2.2.2 pq pt (ga n d p q (μ i)).2.1.2.2.1 fy)} (xc μ i (ga n d p q (μ i)).2.1)/\out.length<=80000000)):=by
 obtain⟨_,_,_,_,_,hI,hH⟩:=h.si.pK.at_ i hi;obtain⟨pq,pt,fy,a1,a2,a3,a4,a5,a6⟩:=KW (last:=(μ i).2.2.2.1) (no:=(μ i).2.2.2.2) hB hI hH (n:Int) d p q;change gw WX (((),(n:Int),d,p,q,()),CX (μ i).2.2.2.1 (μ i).2.2.2.2 bs ss (μ i).2.2.1 st)=some (((),(ga n d p q (μ i)).1,()),Ue (ga n d p q (μ i)).2.1.2.2.2.1 (ga n d p q (μ i)).2.1.2.2.2.2 pq pt (ga n d p q (μ i)).2.1.2.2.1 (ga n d p q (μ i)).2.2 fy) at a1;have m1:=DK h.si.pK hi (m:=(ga n d p q (μ i)).2.1) a2 a3 a4;refine⟨pq,pt,fy,a1,?_⟩;by_cases he:(ga n d p q (μ i)).1=0
 ·refine .inr ⟨he,?_⟩
  obtain⟨out,m8,c1,c2,c3⟩:=Pp (v:={v with op:=Uk,M:=v.M.set i (CX (ga n d p q (μ i)).2.1.2.2.2.1 (ga n d p q (μ i)).2.1.2.2.2.2 pq pt (ga n d p q (μ i)).2.1.2.2.1 fy)}) (i:=i) ⟨m1.mp,m1.at_⟩ ho (λm j hm hj mb=>by unfold xc;rw[if_neg mb];exact(hx m j hm hj).trans (h.si.Ly m j hm hj)) h.si.ps hi (ga n d p q (μ i)).2.2 a6 a5
  exact⟨out,m8,c1,h.kC c2,c3⟩
 ·refine .inl ⟨he,?_⟩
  have m2:xc μ i (ga n d p q (μ i)).2.1=μ:=by rw[NA he];exact B4 μ i
  rw[m2] at m1;exact h.kC (ps:=v.ps) ⟨⟨m1.mp,m1.at_⟩,ho,λm j hm hj=>(hx m j hm hj).trans (h.si.Ly m j hm hj),h.si.ps⟩
theorem Ur (h:SS v μ)(hn:n<32)(hi:i<8)(kd sq td d sd od p q sh st wh a b:Int)(tg:List Int):Ny v μ (cz WX (((),(n:Int),(kd,sq,td,(i:Int),d,sd,od,p,q,sh,st,wh,a,b,tg,()),()),v.s)):=by
 obtain⟨e,l8⟩:=B3 h (n:Int) 1 (i:Int) (n:Int);simp only[V.s] at l8;by_cases he:e=0
 ·subst he
  obtain⟨bs,ss,fy,hM,hB,hI,hH⟩:=h.si.pK.at_ i hi;have hp:=h.si.pK.mp i hi;have hf:=Jf (last:=(μ i).2.2.2.1) (no:=(μ i).2.2.2.2) hB hI (n:Int) d;have GA:=Po h hn;cases hw:tq (n:Int) d (μ i).1 (μ i).2.1 (μ i).2.2.1 with
  |none=>
   rw[hw] at hf;simp only[Option.getD_none,zeW] at hf;refine .same h 6 ?_;simp only[V.s,cz,l8,zdF,↓xo,eq_self,iX,zdJ,zdG,ot (zU hi),zdH,zdI,hp,al,hM,hf,zdK,aE hM]
  |some lS=>
   rw[hw] at hf;simp only[ze0,zfr] at hf;obtain⟨w1,w2⟩:=Up hw;have wq:=yz hI _ w1;have wo:Od.eD lS<=wi (n:Int) (μ i):=Uq (λo ho=>(yz hI o ho).1) w1 w2;have hx:=h.si.Ly n i hn hi;have hb:=h.si.op.xr n i hn hi;by_cases hc: ¬p=Od.aZ lS\/q>Od.eD lS
   ·
    have s1:=Fz (ps:=v.ps) h.si.op.qo hn hi (q:= -Od.eD lS) (by omega) hb
    have v1:Ug (tb v.op n i+ -Od.eD lS) 0 1099511627776=true:=decide_eq_true (by omega)
    unfold KZ at s1;rw[v1,if_pos rfl] at s1;have e1:tb v.op n i+ -Od.eD lS=tb v.op n i-Od.eD lS:=by omega
    rw[e1] at s1;have r1:=wk h.si.op.qo n i (tb v.op n i-Od.eD lS) hn;have b1:Lx (Fy v.op n i (tb v.op n i-Od.eD lS)):=⟨r1,λm j hm hj=>by
     rw[tv h.si.op.qo hn hi];split
     ·omega
     ·exact h.si.op.xr m j hm hj⟩
    obtain⟨e2,k1,k2⟩:=K0 r1 h.si.ps.qo hi (v.cfg.2.1.getD n l0) (amR lS p q) b1.xr h.si.ps.xr;have t1:tb (Fy v.op n i (tb v.op n i-Od.eD lS)) n i=tb v.op n i-Od.eD lS:=by rw[tv h.si.op.qo hn hi,if_pos ⟨rfl,rfl⟩]
    have s2:=Fz (ps:=v.ps) r1 hn hi (q:=Od.eD lS) (by omega) (b1.xr n i hn hi)
    rw[t1] at s2;have v2:Ug (tb v.op n i-Od.eD lS+Od.eD lS) 0 1099511627776=true:=decide_eq_true (by omega)
    unfold KZ at s2;rw[v2,if_pos rfl] at s2;have e3:tb v.op n i-Od.eD lS+Od.eD lS=tb v.op n i:=by omega
    rw[e3] at s2;generalize zb9:Fy (Fy v.op n i (tb v.op n i-Od.eD lS)) n i (tb v.op n i)=Uk at s2;have x2: ∀m j,tb Uk m j=tb v.op m j:=λm j=>by
     rw[<-zb9,tv r1 hn hi];split
     ·rename_i e;rw[e.1,e.2]
     ·rename_i e;rw[tv h.si.op.qo hn hi,if_neg e]
    have o2:Lx Uk:=⟨by rw[<-zb9];exact wk r1 n i _ hn,λm j hm hj=>by rw[x2];exact h.si.op.xr m j hm hj⟩
    have e0:i64.wrap (0-lS.2.2.2.2.2.2.1)= -Od.eD lS:=by
     show i64.wrap (0-Od.eD lS)=_
     rw[nL (by omega) (by omega)];omega
    unfold amR at k1;change gS WX (((),_,(lS.1,lS.2.1,lS.2.2.1,lS.2.2.2.1,lS.2.2.2.2.1,p,q,min lS.2.2.2.2.2.2.2.1 q,lS.2.2.2.2.2.2.2.2),(i:Int),()),_)=_ at k1;by_cases he2:e2=0
    ·subst he2
     obtain⟨pq,pt,Im,a1,a2⟩:=FC h hn hi hw o2 (λm j _ _=>x2 m j) (λ_=>k2 rfl) hM hB;rcases a2 with⟨a2,a3⟩|⟨a2,out,m8,a3,a4,a5⟩
     ·refine⟨_,μ,a3,⟨rfl, .rfl⟩, .same, .inl ⟨(ga n d p q (μ i)).1,?_⟩⟩
      simp only[V.s];by_cases I0:p=Od.aZ lS
      ·simp only[cz,l8,zdF,↓xo,xw,vu,eq_self,iX,zdJ,zdG,ot (zU hi),ot (qX hn),zdH,zdI,hp,al,hM,hf,aE hM,ot (show p=lS.2.2.2.2.2.1 from I0),ot (show q>lS.2.2.2.2.2.2.1 by have:=hc.resolve_left (λq=>q I0);exact this),e0,s1,GA,k1,s2,a1,aV a2,zdK]
      ·simp only[cz,l8,zdF,↓xo,xw,vu,eq_self,iX,zdJ,zdG,ot (zU hi),ot (qX hn),zdH,zdI,hp,al,hM,hf,aE hM,aV (show¬p=lS.2.2.2.2.2.1 from I0),e0,s1,GA,k1,s2,a1,aV a2,zdK]
     ·refine⟨_,_,a4,⟨rfl, .rfl⟩,Pm.K5 i n d p q lS hi hn hw (λ_=>k2 rfl), .inr ⟨out,a5,?_⟩⟩
      simp only[V.s] at a3⊢;by_cases I0:p=Od.aZ lS
      ·simp only[cz,l8,zdF,↓xo,xw,vu,eq_self,iX,zdJ,zdG,ot (zU hi),ot (qX hn),zdH,zdI,hp,al,hM,hf,aE hM,ot (show p=lS.2.2.2.2.2.1 from I0),ot (show q>lS.2.2.2.2.2.2.1 by have:=hc.resolve_left (λq=>q I0);exact this),e0,s1,GA,k1,s2,a1,ot a2,a3]
      ·simp only[cz,l8,zdF,↓xo,xw,vu,eq_self,iX,zdJ,zdK,zdG,ot (zU hi),ot (qX hn),zdH,zdI,hp,al,hM,hf,aE hM,aV (show¬p=lS.2.2.2.2.2.1 from I0),e0,s1,GA,k1,s2,a1,ot a2,a3]
    ·refine⟨{v with op:=Uk},μ,h.kC (ps:=v.ps) (M:=v.M) ⟨⟨h.si.pK.mp,h.si.pK.at_⟩,o2,λm j hm hj=>(x2 m j).trans (h.si.Ly m j hm hj),h.si.ps⟩,⟨rfl, .rfl⟩, .same, .inl ⟨e2,?_⟩⟩
     by_cases I0:p=Od.aZ lS
     ·simp only[V.s,cz,l8,zdF,↓xo,xw,vu,eq_self,iX,zdJ,zdG,ot (zU hi),ot (qX hn),zdH,zdI,hp,al,hM,hf,aE hM,ot (show p=lS.2.2.2.2.2.1 from I0),ot (show q>lS.2.2.2.2.2.2.1 by have:=hc.resolve_left (λq=>q I0);exact this),e0,s1,GA,k1,s2,aV he2,zdK]
     ·simp only[V.s,cz,l8,zdF,↓xo,xw,vu,eq_self,iX,zdJ,zdG,ot (zU hi),ot (qX hn),zdH,zdI,hp,al,hM,hf,aE hM,aV (show¬p=lS.2.2.2.2.2.1 from I0),e0,s1,GA,k1,s2,aV he2,zdK]
   ·have I0:p=Od.aZ lS:=by
     by_cases q:p=Od.aZ lS
     ·exact q
     ·exact absurd (.inl q) hc
    have hc2: ¬q>Od.eD lS:=λq=>hc (.inr q);obtain⟨pq,pt,Im,a1,a2⟩:=FC h hn hi hw h.si.op (λm j _ _=>rfl) (λq=>absurd q hc) hM hB;rcases a2 with⟨a2,a3⟩|⟨a2,out,m8,a3,a4,a5⟩
    ·refine⟨_,μ,a3,⟨rfl, .rfl⟩, .same, .inl ⟨(ga n d p q (μ i)).1,?_⟩⟩
     simp only[V.s];simp only[cz,l8,zdF,↓xo,xw,vu,eq_self,iX,zdJ,zdG,ot (zU hi),ot (qX hn),zdH,zdI,hp,al,hM,hf,aE hM,ot (show p=lS.2.2.2.2.2.1 from I0),aV (show¬q>lS.2.2.2.2.2.2.1 from hc2),a1,aV a2,zdK]
    ·refine⟨_,_,a4,⟨rfl, .rfl⟩,Pm.K5 i n d p q lS hi hn hw (λq=>absurd q hc), .inr ⟨out,a5,?_⟩⟩
     simp only[V.s] at a3⊢;simp only[cz,l8,zdF,↓xo,xw,vu,eq_self,iX,zdJ,zdG,ot (zU hi),ot (qX hn),zdH,zdI,hp,al,hM,hf,aE hM,ot (show p=lS.2.2.2.2.2.1 from I0),aV (show¬q>lS.2.2.2.2.2.2.1 from hc2),a1,ot a2,a3]
 ·refine .same h e ?_
  simp only[V.s,cz,l8,zdF,↓xo,aV he,zdK,zdH]
end
def Nz {β:Type}(y:β)(o:Option ((Int×Unit)×β)):Prop:= ∃x:Int,x≠0/\o=some ((x,()),y)
theorem Nz.bif {β:Type}{y:β}{c:Bool}{a b:Option ((Int×Unit)×β)}(h1:Nz y a)(h2:Nz y b):Nz y (bif c then a else b):=by cases c<;>assumption
theorem Nz.mk {β:Type}{x:Int}(h:x≠0)(y:β):Nz y (some ((x,()),y)):=⟨x,h,rfl⟩
section
variable {tr:List pv}
theorem Q9 (h:Q7 tr){ph:Jt}(hp:PhI ph)(n i o:Int)(ho:lf tr o=false):Nz (RA tr) (lM WX (((),ph,n,3,i,o,()),RA tr)):=by
 have hx:=Hw h n;obtain⟨b,hb⟩:=Nw hp.b hx;have e1: ¬(3:Int)=2:=by omega
 have e2: ¬(3:Int)=4:=by omega
 have e3: ¬(3:Int)=1:=by omega
 simp only[lM,oR h,oD h,↓xo,zdF,ot (Jl hx),zdH,hb,aV e1,aV e2,aV e3,zdK,zdG,ho,eq_self,iX];repeat' first|exact Nz.mk (by omega) _|apply Nz.bif
end
section
variable {v:V}{μ:Nat->MS}{i n:Nat}
theorem Pm.move {w:V}(h1:w.op=v.op)(h2:w.ps=v.ps)(h3:w.cfg=v.cfg){μ':Nat->MS}{Xr:List (List Int)}(h:Pm w μ μ' Xr):Pm v μ μ' Xr:=by
 cases h with
 |same=>rw[h2];exact .same
 |Pn x _ h=>rw[h2];exact .Pn x _ h
 |rem i t d hi=>rw[h2];exact .rem i t d hi
 |add i o hi h=>rw[h2];exact .add i o hi (by rw[<-h1,<-h2,<-h3];exact h)
 |K5 i n d p q lS hi hn hw h=>rw[h2];exact .K5 i n d p q lS hi hn hw (λq=>by rw[<-h1,<-h2,<-h3];exact h q)
theorem Ny.bif {c:Bool}{a b}(h1:Ny v μ a)(h2:Ny v μ b):Ny v μ (bif c then a else b):=by cases c<;>assumption
theorem SS.phs (h:SS v μ){ph:Jt}(hp:PhI ph):SS {v with ph:=ph} μ:=⟨⟨⟨h.si.pK.mp,h.si.pK.at_⟩,h.si.op,h.si.Ly,h.si.ps⟩,h.tr,hp,h.Yl,h.bp,h.B,h.lp,h.L,h.now⟩
theorem SS.trs (h:SS v μ){tr:List pv}(ht:F3 v.tr tr):SS {v with tr:=tr} μ:=⟨⟨⟨h.si.pK.mp,h.si.pK.at_⟩,h.si.op,h.si.Ly,h.si.ps⟩,ht.inv h.tr,h.ph,h.Yl,h.bp,h.B,h.lp,h.L,h.now⟩
theorem SS.Us (h:SS v μ)(n:Nat)(k:xm):SS {v with L:=v.L.set n (k,())} μ:=⟨⟨⟨h.si.pK.mp,h.si.pK.at_⟩,h.si.op,h.si.Ly,h.si.ps⟩,h.tr,h.ph,h.Yl,h.bp,h.B,h.lp,λm hm=>by
 obtain⟨k',hk⟩:=h.L m hm;by_cases e:m=n
 ·subst e;exact⟨k,kW hk⟩
 ·exact⟨k',by show(v.L.set n _)[m]?=_;rw[kR e];exact hk⟩,h.now⟩
theorem SS.zca (h:SS v μ)(n:Nat)(k:xm)(hk:k.2.1≠0):SS {v with B:=v.B.set n (k,())} μ:=⟨⟨⟨h.si.pK.mp,h.si.pK.at_⟩,h.si.op,h.si.Ly,h.si.ps⟩,h.tr,h.ph,h.Yl,h.bp,λm hm=>by
 obtain⟨k',tC,h'⟩:=h.B m hm;by_cases e:m=n
 ·subst e;exact⟨k,kW tC,hk⟩
 ·exact⟨k',by show(v.B.set n _)[m]?=_;rw[kR e];exact tC,h'⟩,h.lp,h.L,h.now⟩
theorem B6 (h:SS v μ)(x a:Int)(ha:0<=a/\a<=8): ∃out m8 M' μ',di WX (((),a,x,()),v.s)=some ((out,()),{v with op:=m8,M:=M'}.s)/\SS {v with op:=m8,M:=M'} μ'/\out.length<=512/\Pm v μ μ' v.ps:=by
 obtain⟨out,m8,M',μ',h1,h2,h3,h4⟩:=K3 h.si x a ha;exact⟨out,m8,M',μ',h1,h.kC (ps:=v.ps) h2,h3, .Pn x μ' h4⟩
theorem WZ (h:SS v μ)(f:Int): ∃s,gH WX (((),f,()),v.s)=some ((s,()),v.s):=by
 have key:=pI (b:=dx WX) (λk l=> ∃n:Nat,n<=32/\k=32-n/\l=(((),f,(n:Int),()),v.s)) (λr=>(∃s:Int,r= .inl ((s,()),v.s))\/r= .inr ((),v.s)) (λk l hl=>by
  obtain⟨n,hn,rfl,rfl⟩:=hl;by_cases hc:n<32
  ·have e1:=jY hc (by omega)
   have h1:=oR h.tr (n:Int);have h2:=oD h.tr (n:Int);obtain⟨⟨s,⟨⟩⟩,h3⟩:=Pl h.tr (n:Int) 3;cases ht:lf v.tr (n:Int) with
   |true=>
    rw[ht] at h1;by_cases hf:(vB v.tr (n:Int)).1=f
    ·exact .inr ⟨.inl ((s,()),v.s),by simp only[dx,V.s,↓xo,ot (show(n:Int)<32 by omega),zdH,h1,zdF,h2,ot hf,h3], .inl ⟨s,rfl⟩⟩
    ·exact .inl ⟨(((),f,((n+1:Nat):Int),()),v.s),by simp only[dx,V.s,↓xo,xw,ot (show(n:Int)<32 by omega),zdH,zdG,h1,zdF,h2,aV hf,e1],32-(n+1),by omega,n+1,by omega,rfl,rfl⟩
   |false=>
    rw[ht] at h1;exact .inl ⟨(((),f,((n+1:Nat):Int),()),v.s),by simp only[dx,V.s,↓xo,xw,ot (show(n:Int)<32 by omega),zdH,zdG,h1,zdF,e1],32-(n+1),by omega,n+1,by omega,rfl,rfl⟩
  ·exact .inr ⟨.inr ((),v.s),by simp only[dx,↓xo,aV (show¬(n:Int)<32 by omega),zdG], .inr rfl⟩)
 obtain⟨r,h1,h2⟩:=key 32 (((),f,0,()),v.s) ⟨0,by omega,by omega,rfl⟩
 rcases h2 with⟨s,rfl⟩|rfl
 ·exact⟨s,by simp only[gH,↓xl,h1,zdF]⟩
 ·exact⟨0,by simp only[gH,↓xl,h1,zdF]⟩
theorem Ra (h:SS v μ)(n:Int)(kd sq td it id sd od p q sh st wh a b:Int)(tg:List Int):Ny v μ (eK WX (((),n,(kd,sq,td,it,id,sd,od,p,q,sh,st,wh,a,b,tg,()),()),v.s)):=by
 obtain⟨e,l8⟩:=B3 h n 3 0 a;have hth:e=0->lf v.tr a=true:=λhe=>by
  cases ht:lf v.tr a with
  |true=>rfl
  |false=>
   obtain⟨x,hx,hy⟩:=Q9 h.tr h.ph n 0 a ht;simp only[dj,V.s,hy,zdF,zdM,Prod.mk.injEq] at l8;exact absurd (l8.1.1.trans he) hx
 simp only[V.s] at l8;by_cases he:e=0
 ·have ha:=pT (hth he)
  subst he;have ho:=Pk h.tr a true;have hf:=Pk h.tr a false;by_cases c1:wh=1
  ·obtain⟨out,m8,M',μ',s1,s2,s3,s4⟩:=B6 (h.trs (Jk v.tr a true)) (WX.shl .u64 1 (IntKind.u64.wrap a)) 8 ⟨by omega,by omega⟩
   refine⟨_,μ',s2,⟨rfl,Jk v.tr a true⟩,?_, .inr ⟨out,by omega,?_⟩⟩
   ·exact s4.move (by rfl) (by rfl) (by rfl)
   ·simp only[V.s] at s1⊢
    simp only[eK,l8,zdF,↓xo,xw,eq_self,iX,zdJ,zdG,ot c1,zdH,ho,aV (tu a),s1]
  by_cases c2:wh=2
  ·refine⟨_,μ,h.trs (Jk v.tr a false),⟨rfl,Jk v.tr a false⟩, .same, .inl ⟨0,?_⟩⟩
   simp only[V.s,eK,l8,zdF,↓xo,xw,eq_self,iX,zdJ,zdG,aV c1,ot c2,zdH,hf]
  by_cases c3:wh=3
  ·have l1:=h.lp a.toNat (by omega)
   obtain⟨k,l2⟩:=h.L a.toNat (by omega)
   refine⟨_,μ,h.Us a.toNat (k.1,k.2.1,0,0,()),⟨rfl, .rfl⟩, .same, .inl ⟨0,?_⟩⟩;simp only[V.s,eK,l8,zdF,↓xo,xw,eq_self,iX,zdJ,zdG,aV c1,aV c2,ot c3,zdH,ot (CZ ha),l1,al,l2,gM]
  ·refine .same h 0 ?_
   simp only[V.s,eK,l8,zdF,↓xo,xw,eq_self,iX,zdJ,zdG,aV c1,aV c2,aV c3]
 ·refine .same h e ?_
  simp only[V.s,eK,l8,zdF,↓xo,aV he,zdK,zdH]
end
section
variable {v:V}{μ:Nat->MS}
theorem Ny.ph (h:SS v μ){p1 p2:List Bool}{p3:List Int}(h1:p1.length=8)(h2:p2.length=8)(h3:p3.length=8){o}(ho:o=some (.inl (((),0,()),sE {v with ph:=(p1,p2,p3,())} []))):Ny v μ o:=⟨_,μ,h.phs (ph:=(p1,p2,p3,())) ⟨h1,h2,h3⟩,⟨rfl, .rfl⟩, .same, .inl ⟨0,ho⟩⟩
theorem Ut (h:SS v μ)(n:Int)(kd sq td it id sd od p q sh st wh a b:Int)(tg:List Int)(hw:4<=wh/\wh<=9)(ha:0<=a)(hb:0<=b):Ny v μ (cm WX (((),n,(kd,sq,td,it,id,sd,od,p,q,sh,st,wh,a,b,tg,()),()),v.s)):=by
 obtain⟨e,l8⟩:=B3 h n 4 0 0;simp only[V.s] at l8;by_cases he:e=0
 ·subst he
  by_cases a8:a>=8
  ·obtain Vm:wh=4\/wh=5\/wh=6\/wh=7\/wh=8\/wh=9:=by omega
   rcases Vm with rfl|rfl|rfl|rfl|rfl|rfl<;>
   (refine .same h 1 ?_
    simp only[V.s,cm,l8,zdF,↓xo,eq_self,Int.reduceEq,iX,nB,zdJ,zdG,zdH,ot a8])
  ·have a7:0<=a/\a<=7:=by omega
   have hp:=h.ph;obtain⟨x1,g1⟩:=Nw hp.a a7;obtain⟨x2,g2⟩:=Nw hp.b a7;obtain⟨x3,g3⟩:=Nw hp.c a7;by_cases w4:wh=4
   ·subst w4
    refine .ph h (p1:=v.ph.1.set a.toNat true) (p2:=v.ph.2.1) (p3:=v.ph.2.2.1) (by rw[zej];exact hp.a) hp.b hp.c ?_
    simp only[V.s,cm,l8,zdF,↓xo,eq_self,Int.reduceEq,iX,nB,zdJ,zdG,zdH,aV a8,ot (Jl a7),g1]
   by_cases w5:wh=5
   ·subst w5
    refine .ph h (p1:=v.ph.1.set a.toNat false) (p2:=v.ph.2.1) (p3:=v.ph.2.2.1) (by rw[zej];exact hp.a) hp.b hp.c ?_
    simp only[V.s,cm,l8,zdF,↓xo,eq_self,Int.reduceEq,iX,nB,zdJ,zdG,zdH,aV a8,ot (Jl a7),g1]
   by_cases w6:wh=6
   ·subst w6
    have h1:=h.phs (ph:=(v.ph.1,v.ph.2.1.set a.toNat true,v.ph.2.2.1,())) ⟨hp.a,by rw[zej];exact hp.b,hp.c⟩
    obtain⟨s,hf⟩:=WZ h1 a;obtain⟨out,m8,M',μ',s1,s2,s3,s4⟩:=B6 h1 s 8 ⟨by omega,by omega⟩
    refine⟨_,μ',s2,⟨rfl, .rfl⟩,s4.move (by rfl) (by rfl) (by rfl), .inr ⟨out,by omega,?_⟩⟩
    simp only[V.s] at s1 hf⊢;simp only[cm,l8,zdF,↓xo,eq_self,Int.reduceEq,iX,nB,zdJ,zdG,zdH,aV a8,ot (Jl a7),g2,hf,s1]
   by_cases w7:wh=7
   ·subst w7
    refine .ph h (p1:=v.ph.1) (p2:=v.ph.2.1.set a.toNat false) (p3:=v.ph.2.2.1) hp.a (by rw[zej];exact hp.b) hp.c ?_
    simp only[V.s,cm,l8,zdF,↓xo,eq_self,Int.reduceEq,iX,nB,zdJ,zdG,zdH,aV a8,ot (Jl a7),g2]
   by_cases b8:b>=8
   ·refine .same h 1 ?_
    obtain Vm:wh=8\/wh=9:=by omega
    rcases Vm with rfl|rfl<;>
    simp only[V.s,cm,l8,zdF,↓xo,eq_self,Int.reduceEq,iX,nB,zdJ,zdG,zdH,aV a8,ot b8]
   by_cases ba:b=a
   ·refine .same h 1 ?_
    obtain Vm:wh=8\/wh=9:=by omega
    rcases Vm with rfl|rfl<;>
    simp only[V.s,cm,l8,zdF,↓xo,eq_self,Int.reduceEq,iX,nB,zdJ,zdG,zdH,aV a8,aV b8,ot ba]
   by_cases w8:wh=8
   ·subst w8
    refine .ph h (p1:=v.ph.1) (p2:=v.ph.2.1) (p3:=v.ph.2.2.1.set a.toNat (WX.A7 .i64 x3 (WX.shl .i64 1 (IntKind.u64.wrap b)))) hp.a hp.b (by rw[zej];exact hp.c) ?_
    simp only[V.s,cm,l8,zdF,↓xo,xw,eq_self,Int.reduceEq,iX,nB,zdJ,zdG,zdH,aV a8,aV b8,aV ba,ot (Jl a7),g3,aV (tu b)]
   ·obtain rfl:wh=9:=by omega
    refine .ph h (p1:=v.ph.1) (p2:=v.ph.2.1) (p3:=v.ph.2.2.1.set a.toNat (WX.DL .i64 x3 (WX.shl .i64 1 (IntKind.u64.wrap b)))) hp.a hp.b (by rw[zej];exact hp.c) ?_
    simp only[V.s,cm,l8,zdF,↓xo,xw,eq_self,Int.reduceEq,iX,nB,zdJ,zdG,zdH,aV a8,aV b8,aV ba,ot (Jl a7),g3,aV (tu b)]
 ·refine .same h e ?_
  simp only[V.s,cm,l8,zdF,↓xo,aV he,zdK,zdH]
end
structure K6 (c:mZ):Prop where
 kind:c.1=3\/c.1=4\/c.1=5\/c.1=6\/c.1=9
 inst:0<=c.2.2.2.1/\c.2.2.2.1<=8/\(c.1≠6->c.2.2.2.1<=7)
 what:c.1=9->1<=c.2.2.2.2.2.2.2.2.2.2.2.1/\c.2.2.2.2.2.2.2.2.2.2.2.1<=9
 a:0<=c.2.2.2.2.2.2.2.2.2.2.2.2.1
 b:0<=c.2.2.2.2.2.2.2.2.2.2.2.2.2.1
theorem NC {t d:Int}{A B:List nI}{ws:List dP}(h:(mW t d A B ws).2.1=false):(mW t d A B ws).2.2=(A,B,ws):=by
 unfold mW at h⊢;split
 ·rename_i h1;rw[if_pos h1] at h;cases h
 ·rename_i h1
  rw[if_neg h1] at h;have e:(vz t d A B).2.2=(A,B):=by
   unfold vz at h1⊢;cases hA:nb t d A with
   |some x=>rw[hA] at h1;exact absurd rfl h1
   |none=>
    rw[hA] at h1;cases hB:nb t d B with
    |some x=>rw[hB] at h1;exact absurd rfl h1
    |none=>rfl
  split
  ·rename_i n hn;rw[hn] at h;cases h
  ·rw[e]
section
variable {v:V}{μ:Nat->MS}{i n:Nat}
theorem Uu (h:SS v μ)(n:Int)(set:Int)(c:mZ):(∃X,ag (cG WX) (((),n,(),set,0,()),(v.cfg,v.now,(),v.ph,v.mp,(),v.bp,v.lp,()),(v.tr,()),(v.op,v.ps,()),c,v.M,v.L,v.B,())=some (.inl (((),X,()),(v.cfg,v.now,(),v.ph,v.mp,(),v.bp,v.lp,()),(v.tr,()),(v.op,v.ps,()),c,[],v.M,v.L,v.B,())))\/ag (cG WX) (((),n,(),set,0,()),(v.cfg,v.now,(),v.ph,v.mp,(),v.bp,v.lp,()),(v.tr,()),(v.op,v.ps,()),c,v.M,v.L,v.B,())=some (.inr (((),(),set,()),(v.cfg,v.now,(),v.ph,v.mp,(),v.bp,v.lp,()),(v.tr,()),(v.op,v.ps,()),c,v.M,v.L,v.B,())):=by
 have key:=pI (b:=cG WX) (λk l=> ∃m:Nat,m<=32/\k=32-m/\l=(((),n,(),set,(m:Int),()),(v.cfg,v.now,(),v.ph,v.mp,(),v.bp,v.lp,()),(v.tr,()),(v.op,v.ps,()),c,v.M,v.L,v.B,())) (λr=>(∃X,r= .inl (((),X,()),(v.cfg,v.now,(),v.ph,v.mp,(),v.bp,v.lp,()),(v.tr,()),(v.op,v.ps,()),c,[],v.M,v.L,v.B,()))\/r= .inr (((),(),set,()),(v.cfg,v.now,(),v.ph,v.mp,(),v.bp,v.lp,()),(v.tr,()),(v.op,v.ps,()),c,v.M,v.L,v.B,())) (λk l hl=>by
  obtain⟨m,hm,rfl,rfl⟩:=hl;by_cases hc:m<32
  ·have e1:=jY hc (by omega)
   obtain⟨e,l8⟩:=B3 h n 2 0 (m:Int);simp only[V.s] at l8;by_cases hb:WX.s6 .u64 (WX.shr .u64 set (IntKind.u64.wrap (m:Int))) 1=1
   ·by_cases he:e=0
    ·exact .inl ⟨_,by simp only[cG,↓xo,xw,ot (show(m:Int)<32 by omega),zdH,aV (tu (m:Int)),zdG,ot hb,l8,zdF,ot he,zdJ,e1],32-(m+1),by omega,m+1,by omega,rfl,rfl⟩
    ·exact .inr ⟨_,by simp only[cG,↓xo,xw,ot (show(m:Int)<32 by omega),zdH,aV (tu (m:Int)),zdG,ot hb,l8,zdF,aV he,zdK], .inl ⟨7,rfl⟩⟩
   ·exact .inl ⟨_,by simp only[cG,↓xo,xw,ot (show(m:Int)<32 by omega),zdH,aV (tu (m:Int)),zdG,aV hb,e1],32-(m+1),by omega,m+1,by omega,rfl,rfl⟩
  ·obtain rfl:m=32:=by omega
   exact .inr ⟨_,by simp only[cG,↓xo,aV (show¬((32:Nat):Int)<32 by omega),zdG], .inr rfl⟩)
 obtain⟨r,h1,h2⟩:=key 32 (((),n,(),set,0,()),(v.cfg,v.now,(),v.ph,v.mp,(),v.bp,v.lp,()),(v.tr,()),(v.op,v.ps,()),c,v.M,v.L,v.B,()) ⟨0,by omega,by omega,rfl⟩
 rcases h2 with⟨X,rfl⟩|rfl
 ·exact .inl ⟨X,h1⟩
 ·exact .inr h1
theorem zao (h:SS v μ)(hn:n<32)(c:mZ)(hc:K6 c):Ny v μ (cR WX (((),(n:Int),c,()),v.s)):=by
 obtain⟨kd,sq,td,it,id,sd,od,p,q,sh,st,wh,a,b,tg,⟨⟩⟩:=c;obtain⟨c1,c2,c3,c4,c5⟩:=hc;simp only at c1 c2 c3 c4 c5;obtain⟨i,rfl⟩:=zfz c2.1;rcases c1 with rfl|rfl|rfl|rfl|rfl
 ·have hi:i<8:=by have:=c2.2.2 (by omega);omega
  obtain⟨v',μ',s1,s2,s3,⟨e,ho⟩|⟨out,hl,ho⟩⟩:=Uo h hn hi 3 sq td id sd od p q sh st wh a b tg
  ·exact⟨v',μ',s1,s2,s3, .inl ⟨e,by simp only[cR,↓xo,eq_self,iX,zdH,ho,zdF]⟩⟩
  ·exact⟨v',μ',s1,s2,s3, .inr ⟨out,hl,by simp only[cR,↓xo,eq_self,iX,zdH,ho,zdF]⟩⟩
 ·have hi:i<8:=by have:=c2.2.2 (by omega);omega
  obtain⟨e,l8⟩:=B3 h (n:Int) 2 (i:Int) td;by_cases he:e=0
  ·subst he
   obtain⟨bs,ss,fy,hM,hB,hI,hH⟩:=h.si.pK.at_ i hi;have hp:=h.si.pK.mp i hi;obtain⟨pq,pt,Im,r1,r2⟩:=Nr (last:=(μ i).2.2.2.1) (no:=(μ i).2.2.2.2) hB hI td id;obtain⟨r3,r4⟩:=Fv hI td id;have m1:=DK h.si.pK hi (m:=((mW td id (μ i).1 (μ i).2.1 (μ i).2.2.1).2.2.1,(mW td id (μ i).1 (μ i).2.1 (μ i).2.2.1).2.2.2.1,(mW td id (μ i).1 (μ i).2.1 (μ i).2.2.1).2.2.2.2,(μ i).2.2.2)) r2 r3 (λo ho=>hH o (r4.subset ho));simp only at m1;simp only[V.s] at l8;cases hf:(mW td id (μ i).1 (μ i).2.1 (μ i).2.2.1).2.1 with
   |false=>
    rw[hf] at r1;have vU:=NC hf;rw[vU] at m1 r1;rw[show((μ i).1,(μ i).2.1,(μ i).2.2.1,(μ i).2.2.2)=μ i from rfl,B4] at m1
    refine⟨_,μ,h.kC (op:=v.op) (ps:=v.ps) ⟨⟨m1.mp,m1.at_⟩,h.si.op,h.si.Ly,h.si.ps⟩,⟨rfl, .rfl⟩, .same, .inl ⟨6,?_⟩⟩;simp only[V.s];simp only[cR,↓xo,eq_self,Int.reduceEq,iX,nB,zdH,zdG,l8,zdF,zdJ,zdK,ot (zU hi),zdI,hp,al,hM,r1]
   |true=>
    rw[hf] at r1;obtain⟨out,m8,g1,g2,g3,g4⟩:=Pj (i:=i) m1 h.si.op hi [(mW td id (μ i).1 (μ i).2.1 (μ i).2.2.1).1] (by simp)
    refine⟨_,_,h.kC (op:=m8) (ps:=v.ps) ⟨⟨m1.mp,m1.at_⟩,g2,λm j hm hj=>?_,h.si.ps⟩,⟨rfl, .rfl⟩, .rem i td id hi, .inr ⟨out,by rw[g4];simp,?_⟩⟩
    ·show tb m8 m j=_
     rw[g3 m j hm];unfold xc;split
     ·rename_i e;rw[if_pos rfl]
     ·exact h.si.Ly m j hm hj
    ·simp only[V.s] at g1⊢
     simp only[cR,↓xo,eq_self,Int.reduceEq,iX,nB,zdH,zdG,l8,zdF,zdJ,ot (zU hi),zdI,hp,al,hM,r1,g1]
  ·refine .same h e ?_
   simp only[V.s] at l8⊢;simp only[cR,↓xo,eq_self,Int.reduceEq,iX,nB,zdH,zdG,l8,zdF,aV he,zdK]
 ·have hi:i<8:=by have:=c2.2.2 (by omega);omega
  obtain⟨v',μ',s1,s2,s3,⟨e,ho⟩|⟨out,hl,ho⟩⟩:=Ur h hn hi 5 sq td id sd od p q sh st wh a b tg
  ·exact⟨v',μ',s1,s2,s3, .inl ⟨e,by simp only[cR,↓xo,eq_self,Int.reduceEq,iX,nB,zdH,zdG,ho,zdF]⟩⟩
  ·exact⟨v',μ',s1,s2,s3, .inr ⟨out,hl,by simp only[cR,↓xo,eq_self,Int.reduceEq,iX,nB,zdH,zdG,ho,zdF]⟩⟩
 ·obtain⟨⟨set,⟨⟩⟩,hs⟩:=Pl h.tr (n:Int) wh
  rcases Uu h (n:Int) set (6,sq,td,(i:Int),id,sd,od,p,q,sh,st,wh,a,b,tg,()) with⟨X,hl⟩|hl
  ·refine .same h X ?_
   simp only[V.s];simp only[cR,↓xo,↓xl,eq_self,Int.reduceEq,iX,nB,zdH,zdG,hs,zdF,hl]
  ·obtain⟨out,m8,M',μ',s1,s2,s3,s4⟩:=B6 h set (i:Int) ⟨by omega,by omega⟩
   refine⟨_,μ',s2,⟨rfl, .rfl⟩,s4, .inr ⟨out,by omega,?_⟩⟩
   simp only[V.s] at s1⊢;simp only[cR,↓xo,↓xl,eq_self,Int.reduceEq,iX,nB,zdH,zdG,hs,zdF,hl,s1]
 ·have hw:=c3 rfl
  by_cases w3:wh<=3
  ·obtain⟨v',μ',s1,s2,s3,⟨e,ho⟩|⟨out,hl,ho⟩⟩:=Ra h (n:Int) 9 sq td (i:Int) id sd od p q sh st wh a b tg
   ·exact⟨v',μ',s1,s2,s3, .inl ⟨e,by simp only[cR,↓xo,eq_self,Int.reduceEq,iX,nB,zdH,zdG,ot w3,ho,zdF]⟩⟩
   ·exact⟨v',μ',s1,s2,s3, .inr ⟨out,hl,by simp only[cR,↓xo,eq_self,Int.reduceEq,iX,nB,zdH,zdG,ot w3,ho,zdF]⟩⟩
  ·obtain⟨v',μ',s1,s2,s3,⟨e,ho⟩|⟨out,hl,ho⟩⟩:=Ut h (n:Int) 9 sq td (i:Int) id sd od p q sh st wh a b tg ⟨by omega,by omega⟩ c4 c5
   ·exact⟨v',μ',s1,s2,s3, .inl ⟨e,by simp only[cR,↓xo,eq_self,Int.reduceEq,iX,nB,zdH,zdG,aV w3,ho,zdF]⟩⟩
   ·exact⟨v',μ',s1,s2,s3, .inr ⟨out,hl,by simp only[cR,↓xo,eq_self,Int.reduceEq,iX,nB,zdH,zdG,aV w3,ho,zdF]⟩⟩
theorem Pq (h:SS v μ){k:Int}(hk:k≠1){n:Int}(hn:lf v.tr n=false)(c:mZ):dL WX (((),(k,0,n,c,()),()),v.s)=some ((false,()),v.s):=by
 have h1:=oR h.tr n;rw[hn] at h1;simp only[dL,V.s,↓xo,aV hk,zdG,eq_self,iX,zdJ,h1,zdF,zdK,zdH]
theorem zap (h:SS v μ){n:Int}(hn:lf v.tr n=true)(k:Int)(hk:k=3\/k=4\/k=5):dL WX (((),(k,0,n,C0,()),()),v.s)=some ((true,()),v.s):=by
 have h1:=oR h.tr n;rw[hn] at h1;have e1: ¬k=1:=by omega
 have e2: ¬k=2:=by omega
 simp only[dL,V.s,↓xo,aV e1,zdG,eq_self,iX,zdJ,h1,zdF,aV e2,ot (show k>=1 by omega),ot (show k<=5 by omega),zdH,qE,M8,ze2]
theorem zcb (h:SS v μ){k:Int}(hk:k≠1){n:Int}(hn:lf v.tr n=false)(c:mZ):Ny v μ (cj WX (((),(k,0,n,c,()),()),v.s)):=by
 refine .same h 1 ?_;simp only[cj,Pq h hk hn c,zdF,zdK,zdH];rfl
def W3 (v:V)(μ:Nat->MS)(o:Option ((((Unit×Int×Unit)×(u9×Int×Unit×Jt×(List Nat)×Unit×(List Nat)×(List Nat)×Unit)×((List pv)×Unit)×((List (List Int))×(List (List Int))×Unit)×List hZ×(List tk)×(List tn)×(List vm)×Unit))⊕((List hZ×Int×Unit)×ST))):Prop:=
 ∃v' μ' x,SS v' μ'/\Kept v v'/\v'.ps=v.ps/\(∀i,μ' i=μ i\/μ' i=(mX x (μ i)).1)/\((∃e,o=some (.inl (((),e,()),sE v' [])))\/∃out,out.length<=80000000/\o=some (.inr ((out,0,()),v'.s)))
theorem W3.same (h:SS v μ)(e:Int){o}(ho:o=some (.inl (((),e,()),sE v []))):W3 v μ o:=⟨v,μ,0,h, .rfl v,rfl,λ_=> .inl rfl, .inl ⟨e,ho⟩⟩
theorem zaq (h:SS v μ){k:Int}(hk:k≠1){n:Int}(hn:lf v.tr n=false)(c:mZ):W3 v μ (cj WX (((),(k,0,n,c,()),()),v.s)):=by
 refine .same h 1 ?_;simp only[cj,Pq h hk hn c,zdF,zdK,zdH];rfl
theorem Uv (h:SS v μ)(n:Int)(k:Int)(hk:k=3\/k=4\/k=5):W3 v μ (cj WX (((),(k,0,n,C0,()),()),v.s)):=by
 cases ht:lf v.tr n with
 |false=>exact zaq h (by omega) ht C0
 |true=>
  have hf:=zap h ht k hk;have hn:=pT ht;have l1:=h.lp n.toNat (by omega)
  obtain⟨l,l2⟩:=h.L n.toNat (by omega)
  rcases hk with rfl|rfl|rfl
  ·refine⟨_,μ,0,h.Us n.toNat (failed l v.now),⟨rfl, .rfl⟩,rfl,λ_=> .inl rfl, .inl ⟨0,?_⟩⟩
   simp only[cj,hf,zdF,zdJ,zdG,↓xo,Int.reduceEq,nB,iX,zdH];simp only[V.s,ot (CZ hn),zdH,l1,zdF,al,l2,QL]
  ·have hl:dD WX (((),n,()),v.s)=some ((oK l v.now,()),v.s):=by
    simp only[dD,kO,V.s,↓xo,ot (show n>=0 by omega),ot (show n<32 by omega),ot (CZ hn),zdH,zdF,l1,al,l2,qP,aE l2]
   cases hk:oK l v.now with
   |true=>
    refine .same h 15 ?_;simp only[cj,hf,zdF,zdJ,zdG,↓xo,Int.reduceEq,nB,iX,zdH,hl,hk];simp only[V.s]
   |false=>
    refine⟨_,μ,0,h.Us n.toNat (l.1,l.2.1,0,0,()),⟨rfl, .rfl⟩,rfl,λ_=> .inl rfl, .inl ⟨0,?_⟩⟩;simp only[cj,hf,zdF,zdJ,zdG,↓xo,Int.reduceEq,nB,iX,zdH,hl,hk];simp only[V.s,ot (CZ hn),zdH,l1,zdF,al,l2,gM]
  ·obtain⟨out,m8,M',μ',s1,s2,s3,s4⟩:=K3 h.si (WX.shl .u64 1 (IntKind.u64.wrap n)) 8 ⟨by omega,by omega⟩
   refine⟨_,μ',_,h.kC (ps:=v.ps) s2,⟨rfl, .rfl⟩,rfl,s4, .inr ⟨out,by omega,?_⟩⟩
   simp only[cj,hf,zdF,zdJ,zdG,↓xo,xw,Int.reduceEq,nB,iX,zdH,aV (tu n),s1]
theorem zar (h:SS v μ)(n:Int){c:mZ}(hc:K6 c)(hk:iM WX ((c,()),())=some ((true,()),())):Ny v μ (cj WX (((),(2,0,n,c,()),()),v.s)):=by
 cases ht:lf v.tr n with
 |false=>exact zcb h (by omega) ht c
 |true=>
  have h1:=oR h.tr n;rw[ht] at h1;have hn:=pT ht;obtain⟨m,rfl⟩:=zfz hn.1;have hf:dL WX (((),(2,0,(m:Int),c,()),()),v.s)=some ((true,()),v.s):=by
   simp only[dL,V.s,↓xo,Int.reduceEq,nB,iX,zdG,zdH,eq_self,zdJ,h1,zdF,hk]
  have b1:=h.bp m (by omega)
  obtain⟨k,b2,b3⟩:=h.B m (by omega)
  obtain⟨b,k',t1,t2⟩:=Un k v.now b3;cases b with
  |false=>
   refine⟨_,μ,h.zca m k' (by rw[t2];exact b3),⟨rfl, .rfl⟩, .same, .inl ⟨13,?_⟩⟩
   simp only[cj,hf,zdF,zdJ,zdG,↓xo,Int.reduceEq,nB,iX,zdH];simp only[V.s,ot (qX (show m<32 by omega)),zdH,zdI,b1,zdF,al,b2,t1,zdK]
  |true=>
   obtain⟨v',μ',s1,s2,s3,s4⟩:=zao (n:=m) (h.zca m k' (by rw[t2];exact b3)) (by omega) c hc
   have s2':Kept v v':=⟨by rw[s2.eq],s2.tr⟩
   rcases s4 with⟨e,ho⟩|⟨out,hl,ho⟩
   ·refine⟨v',μ',s1,s2',s3.move (by rfl) (by rfl) (by rfl), .inl ⟨e,?_⟩⟩
    simp only[V.s] at ho;simp only[cj,hf,zdF,zdJ,zdG,↓xo,Int.reduceEq,nB,iX,zdH];simp only[V.s,ot (qX (show m<32 by omega)),zdH,zdI,b1,zdF,al,b2,t1,zdJ,zdG,ho]
   ·refine⟨v',μ',s1,s2',s3.move (by rfl) (by rfl) (by rfl), .inr ⟨out,hl,?_⟩⟩
    simp only[V.s] at ho;simp only[cj,hf,zdF,zdJ,zdG,↓xo,Int.reduceEq,nB,iX,zdH];simp only[V.s,ot (qX (show m<32 by omega)),zdH,zdI,b1,zdF,al,b2,t1,zdJ,zdG,ho]
end
def NS (n:mq):Prop:= ∃bs,NB n bs/\bs.length<=40
theorem W4 (a b c d e f:Int):NS (5,0,0,a,b,c,0,d,e,f,hY,()):=by
 obtain⟨bs,h1,h2⟩:=CH (n:=(5,0,0,a,b,c,0,d,e,f,hY,())) (k:=24) (by kernel_rfl)
 exact⟨bs,h1,by omega⟩
theorem W5 (a b c:Int):NS (6,0,0,a,b,0,0,0,0,c,hY,()):=by
 obtain⟨bs,h1,h2⟩:=CH (n:=(6,0,0,a,b,0,0,0,0,c,hY,())) (k:=12) (by kernel_rfl)
 exact⟨bs,h1,by omega⟩
theorem Uw (a b c d:Int):NS (7,0,0,a,0,b,0,c,d,0,hY,()):=by
 obtain⟨bs,h1,h2⟩:=CH (n:=(7,0,0,a,0,b,0,c,d,0,hY,())) (k:=16) (by kernel_rfl)
 exact⟨bs,h1,by omega⟩
theorem zas:NS (9,0,0,0,0,0,0,0,0,0,hY,()):=by
 obtain⟨bs,h1,h2⟩:=CH (n:=(9,0,0,0,0,0,0,0,0,0,hY,())) (k:=3) (by kernel_rfl)
 exact⟨bs,h1,by omega⟩
theorem ND:NS (2,0,0,0,0,0,0,0,0,0,hY,()):=by
 obtain⟨bs,h1,h2⟩:=E6;exact⟨bs,h1,by omega⟩
theorem zat (sq:Int):NS (3,0,sq,0,0,0,0,0,0,0,hY,()):=by
 obtain⟨bs,h1,h2⟩:=Z2 sq;exact⟨bs,h1,by omega⟩
theorem Rb (er sq:Int):NS (4,er,sq,0,0,0,0,0,0,0,hY,()):=by
 obtain⟨bs,h1,h2⟩:=QN er sq;exact⟨bs,h1,by omega⟩
theorem Jm {nc:List Int}(h:nc.length=32):NS (1,0,0,0,0,0,0,0,0,0,nc,()):=by
 obtain⟨bs,h1,h2⟩:=AU h;exact⟨bs,h1,by omega⟩
theorem NF (e:hZ)(n:Int): ∃l,jo WX ((e,n,()),())=some ((l,()),())/\l.length<=2/\∀x∈l,NS x:=by
 by_cases h1:e.1=1
 ·obtain⟨l,g1,g2,g3⟩:=oC (b:=gf WX) 2 (λk (s:List mq)=>((n,(),(),[e.2.2.1.1,e.2.2.1.2.1],2,(k:Int),()),e,s,())) (λs=>((s,()),e,())) (λk s=>s.length<=k/\∀x∈s,NS x)
   (λk s hk hI=>by
    obtain⟨i1,i2⟩:=hI;have hx:=zdL (l:=[e.2.2.1.1,e.2.2.1.2.1]) (i:=k) hk;generalize ([e.2.2.1.1,e.2.2.1.2.1]:List dP)[k]'hk=o at hx;have e1:=jY hk (by omega)
    by_cases ho:o.1=n
    ·refine⟨s++ [(5,0,0,e.2.1,o.2.1,e.2.2.1.2.2.2.2.1,0,e.2.2.1.2.2.1,e.2.2.1.2.2.2.1,i64.wrap (o.2.2.2.2.2.2.1-e.2.2.1.2.2.2.1),hY,())],?_,by rw[zdP];simp only[zdQ,zdR];omega,λx hx=>?_⟩
     ·simp only[gf,nW,↓xo,xw,ot (show(k:Int)<2 by omega),ot (show(0:Int)<=(k:Int) by omega),zdH,zdI,hx,zdF,ot ho,e1,ot (show((((s.length+1:Nat)):Int))*((112:Nat):Int)<=((room:Nat):Int) by unfold room;omega),zdQ,zdR,zev]
     ·rcases List.mem_append.1 hx with hx|hx
      ·exact i2 x hx
      ·rw[List.mem_singleton.1 hx];exact W4 _ _ _ _ _ _
    ·exact⟨s,by simp only[gf,↓xo,xw,ot (show(k:Int)<2 by omega),ot (show(0:Int)<=(k:Int) by omega),zdH,zdG,zdI,hx,zdF,aV ho,e1],by omega,i2⟩)
   (λs _=>by simp only[gf,↓xo,aV (show¬((2:Nat):Int)<2 by omega),zdG]) [] ⟨zeN _,λx hx=>(by cases hx)⟩
  change ag (gf WX) ((n,(),(),[e.2.2.1.1,e.2.2.1.2.1],((([e.2.2.1.1,e.2.2.1.2.1]:List dP).length:Nat):Int),0,()),e,[],())=_ at g1;exact⟨l,by simp only[jo,↓xo,ot h1,zdH,↓xl,g1,zdF],g2,g3⟩
 ·by_cases h2:e.1=2
  ·by_cases h3:e.2.2.2.1.1=n
   ·refine⟨[(6,0,0,e.2.1,e.2.2.2.1.2.1,0,0,0,0,e.2.2.2.1.2.2.2.2.2.2.1,hY,())],?_,by simp,λx hx=>?_⟩
    ·simp only[jo,↓xo,aV h1,ot h2,ot h3,zdH,zdG,ot (show((((([]:List mq).length+([(6,0,0,e.2.1,e.2.2.2.1.2.1,0,0,0,0,e.2.2.2.1.2.2.2.2.2.2.1,(List.replicate 32 (0:Int)),())]:List mq).length:Nat)):Int))*((112:Nat):Int)<=((room:Nat):Int) by unfold room;simp only[zdQ,zdR];omega),zeG]
    ·rw[List.mem_singleton.1 hx];exact W5 _ _ _
   ·exact⟨[],by simp only[jo,↓xo,aV h1,ot h2,aV h3,zdH,zdG],by simp,λx hx=>(by cases hx)⟩
  ·exact⟨[],by simp only[jo,↓xo,aV h1,aV h2,zdG],by simp,λx hx=>(by cases hx)⟩
theorem W6 (e:hZ)(n:Int): ∃l,mK WX ((e,n,()),())=some ((l,()),())/\l.length<=3/\∀x∈l,NS x:=by
 obtain⟨l,h1,h2,h3⟩:=NF e n;have key: ∃p,kQ WX ((e,()),())=some (((),()),p,())/\p.length<=1/\∀x∈p,NS x:=by
  by_cases c:e.1=1
  ·refine⟨[(7,0,0,e.2.1,0,e.2.2.1.2.2.2.2.1,0,e.2.2.1.2.2.1,e.2.2.1.2.2.2.1,0,hY,())],by simp only[kQ,↓xo,ot c,zdJ,zdG],by simp,λx hx=>?_⟩
   rw[List.mem_singleton.1 hx];exact Uw _ _ _ _
  ·exact⟨[],by simp only[kQ,↓xo,aV c,zdK,zdH],by simp,λx hx=>(by cases hx)⟩
 obtain⟨p,p1,p2,p3⟩:=key;have vP: [l,p].flatten=l++p:=by simp
 have vi: ∀x∈l++p,NS x:=λx hx=>by
  rcases List.mem_append.1 hx with hx|hx
  ·exact h3 x hx
  ·exact p3 x hx
 rcases Dp [l,p] (by rw[vP,zdP];omega) (by simp) with⟨c1,c2⟩|c1
 ·exact⟨[],by simp only[mK,h1,zdF,p1,c1],by simp,λx hx=>(by cases hx)⟩
 ·rw[vP] at c1
  exact⟨l++p,by simp only[mK,h1,zdF,p1,c1,zeX],by rw[zdP];omega,vi⟩
theorem Ux {ob bs:List Int}{ov:Bool}(h:ob.length<=4096)(hb:bs.length<=1000): ∃r ob' ov',gT WX (((),bs,()),((ob,ov,()),()))=some ((r,()),((ob',ov',()),()))/\ob'.length<=4096:=by
 have e:i64.wrap (4096-(ob.length:Int))=4096-(ob.length:Int):=nL (by omega) (by omega)
 cases ov with
 |true=>exact⟨_,_,_,by simp only[gT,zdH];rfl,h⟩
 |false=>
  by_cases hl:(bs.length:Int)>4096-(ob.length:Int)
  ·exact⟨_,_,_,by simp only[gT,zdG,↓xo,xw,e,ot hl,zdH];rfl,h⟩
  ·have vP: [ob,bs].flatten=ob++bs:=by simp
   by_cases hp:ob++bs=[]
   ·have hc:=concat_nil [ob,bs] (by rw[vP,hp]) (by simp)
    exact⟨true,[],false,by simp only[gT,zdG,↓xo,xw,e,aV hl,hc,zdF],by simp⟩
   ·have hc:=wb [ob,bs] (by rw[vP];exact hp) (by rw[vP,zdP];omega) (by simp)
    exact⟨true,ob++bs,false,by simp only[gT,zdG,↓xo,xw,e,aV hl,hc,zdF,vP,zeX],by rw[zdP];omega⟩
structure zcc (s:xy)(ou:(List Int)×Bool×Unit):Prop where
 out:ou.1.length<=4096
 rG:s.2.2.1.length=32
 at_:s.1=0\/s.1=1\/s.1=2\/s.1=3
 qH:0<=s.2.1/\s.2.1<=31
def CI (v:V):Prop:= ∀i,i<16->∃f o s fr ou,nz v i f o s fr ou/\zcc s ou
section
variable {v:V}{i:Nat}
theorem CI.zcd (h:CI v)(o:Nat)(ou:(List Int)×Bool×Unit)(ho:ou.1.length<=4096):CI {v with O:=v.O.set o (ou,())}:=λj hj=>by
 obtain⟨f,o',s,fr,I1,h1,h2⟩:=h j hj;by_cases e:o'=o
 ·subst e
  exact⟨f,o',s,fr,ou,⟨h1.lt,h1.c,h1.S,h1.F,kW h1.O⟩,⟨ho,h2.rG,h2.at_,h2.qH⟩⟩
 ·exact⟨f,o',s,fr,I1,⟨h1.lt,h1.c,h1.S,h1.F,by show(v.O.set o _)[o']?=_;rw[kR e];exact h1.O⟩,h2⟩
theorem FD (h:CI v)(hi:i<16){n:mq}(hn:NS n): ∃O',bZ WX (((),(i:Int),n,()),v.e)=some ((),{v with O:=O'}.e)/\CI {v with O:=O'}:=by
 obtain⟨f,o,s,fr,ou,hc,mj⟩:=h i hi;obtain⟨bs,hb,hl⟩:=hn;obtain⟨ob,ov,⟨⟩⟩:=ou;obtain⟨r,ob',ov',h1,h2⟩:=Ux (ov:=ov) mj.out (show bs.length<=1000 by omega)
 refine⟨_,?_,h.zcd o (ob',ov',()) h2⟩;rcases hb with⟨x,k1,k2⟩|⟨x,k1,k2⟩
 ·simp only[bZ,V.e,↓xo,ot (lC hi),zdH,zdI,hc.c,zdF,k1,k2,al,hc.O,h1]
 ·simp only[bZ,V.e,↓xo,ot (lC hi),zdH,zdI,hc.c,zdF,k1,k2,al,hc.O,h1]
abbrev vX (v:V)(x:hZ):=(((),v.c,(),(),()),(v.cfg,v.now,(),v.ph,v.mp,(),v.bp,v.lp,()),(v.tr,()),(v.op,v.ps,()),v.lg,(v.mt,()),x,v.M,v.L,v.S,v.F,v.O,v.B,())
theorem NG (h:CI v)(hi:i<16)(ns:List mq)(hl:ns.length<=3)(hn: ∀x∈ns,NS x)(e a b:Int)(FE:List hZ)(cs:List MD)(k:Int)(x:hZ): ∃O',ag (cH WX) (((),e,(),(i:Int),FE,a,b,cs,k,ns,(ns.length:Int),0,()),vX v x)=some (((),e,(),FE,a,b,cs,k,()),vX {v with O:=O'} x)/\CI {v with O:=O'}:=by
 obtain⟨O',g1,g2⟩:=oC (b:=cH WX) ns.length (λj (s:List AK)=>(((),e,(),(i:Int),FE,a,b,cs,k,ns,(ns.length:Int),(j:Int),()),vX {v with O:=s} x)) (λs=>(((),e,(),FE,a,b,cs,k,()),vX {v with O:=s} x)) (λj s=>CI {v with O:=s})
  (λj s hj hI=>by
   have hx:=zdL hj;have vi:=hn _ (zeT hj);have e1:=jY hj (by omega)
   generalize ns[j]=y at*;obtain⟨O2,o1,o2⟩:=FD hI hi vi;simp only[V.e] at o1;exact⟨O2,by simp only[cH,↓xo,xw,ot (show(j:Int)<(ns.length:Int) by omega),ot (show(0:Int)<=(j:Int) by omega),zdH,zdI,hx,zdF,o1,e1],o2⟩)
  (λs _=>by simp only[cH,↓xo,aV (show¬(ns.length:Int)<(ns.length:Int) by omega),zdG]) v.O h
 exact⟨O',g1,g2⟩
theorem NH (h:CI v)(e a b:Int)(FE:List hZ)(x:hZ): ∃O',ag (cC WX) (((),e,(),FE,a,b,v.c,0,()),vX v x)=some (((),e,FE,a,b,()),vX {v with O:=O'} x)/\CI {v with O:=O'}:=by
 obtain⟨O',g1,g2⟩:=oC (b:=cC WX) 16 (λj (s:List AK)=>(((),e,(),FE,a,b,v.c,(j:Int),()),vX {v with O:=s} x)) (λs=>(((),e,FE,a,b,()),vX {v with O:=s} x)) (λj s=>CI {v with O:=s})
  (λj s hj hI=>by
   obtain⟨f,o,t,fr,ou,hc,mj⟩:=hI j hj;have c1:=hc.c;have c2:=hc.S;change v.c[j]?=_ at c1;change v.S[j]?=_ at c2;have e1:=jY hj (by omega)
   by_cases h3:t.1=3
   ·obtain⟨ns,n1,n2,n3⟩:=W6 x t.2.1
    obtain⟨O2,o1,o2⟩:=NG hI hj ns n2 n3 e a b FE v.c (j:Int) x;have e2: ¬t.1=2:=by omega
    exact⟨O2,by simp only[cC,↓xo,xw,↓xl,ot (show(j:Int)<16 by omega),ot (lC hj),zdH,zdG,zdI,c1,zdF,al,c2,ai,ay,aV e2,ot h3,zdJ,aE c2,n1,o1,e1],o2⟩
   ·exact⟨s,by simp only[cC,↓xo,xw,↓xl,ot (show(j:Int)<16 by omega),ot (lC hj),zdH,zdI,c1,zdF,al,c2,ai,aV h3,zdK,aE c2,e1],hI⟩)
  (λs _=>by simp only[cC,↓xo,aV (show¬((16:Nat):Int)<16 by omega),zdG]) v.O h
 exact⟨O',g1,g2⟩
theorem C1 (h:CI v)(e:Int)(FE:List hZ)(hl:FE.length<=80000000): ∃O',ag (bS WX) (((),e,FE,(FE.length:Int),0,()),v.e)=some ((e,()),{v with O:=O'}.e)/\CI {v with O:=O'}:=by
 obtain⟨O',g1,g2⟩:=oC (b:=bS WX) FE.length (λj (s:List AK)=>(((),e,FE,(FE.length:Int),(j:Int),()),{v with O:=s}.e)) (λs=>((e,()),{v with O:=s}.e)) (λj s=>CI {v with O:=s})
  (λj s hj hI=>by
   have hx:=zdL hj;have e1:=Uj hj (by omega)
   generalize FE[j]=x at*;obtain⟨O2,o1,o2⟩:=NH hI e (FE.length:Int) (j:Int) FE x;exact⟨O2,by simp only[bS,V.e,↓xo,xw,↓xl,ot (show(j:Int)<(FE.length:Int) by omega),ot (show(0:Int)<=(j:Int) by omega),zdH,zdI,hx,zdF,o1,e1],o2⟩)
  (λs _=>by simp only[bS,↓xo,aV (show¬(FE.length:Int)<(FE.length:Int) by omega),zdG]) v.O h
 exact⟨O',g1,g2⟩
end
def Ym (k:Nat):Option ((Unit×Unit)×(List Int×Unit))->Bool
 |some (_,(bs,_))=>Nat.beq bs.length k
 |none=>false
theorem uB {k:Nat}{o:Option ((Unit×Unit)×(List Int×Unit))}(h:Ym k o=true): ∃bs:List Int,o=some (((),()),(bs,()))/\bs.length=k:=by
 match o,h with
 |some (((),()),(bs,())),h=>exact⟨bs,rfl,zff h⟩
section
variable {n sq td it id sd od p q sh st wh a b:Int}{tg:List Int}
theorem zdg (h:bf WX (((3,sq,td,it,id,sd,od,p,q,sh,st,wh,a,b,tg,()),()),())=some ((true,()),())): ∃bs:List Int,iz WX (((2,0,n,(3,sq,td,it,id,sd,od,p,q,sh,st,wh,a,b,tg,()),()),()),())=some (((),()),(bs,()))/\bs.length=38:=by
 apply uB;simp only[iz,ia,h,zdF,zdJ,zdG];clear h;kernel_rfl
theorem zdh (h:bf WX (((4,sq,td,it,id,sd,od,p,q,sh,st,wh,a,b,tg,()),()),())=some ((true,()),())): ∃bs:List Int,iz WX (((2,0,n,(4,sq,td,it,id,sd,od,p,q,sh,st,wh,a,b,tg,()),()),()),())=some (((),()),(bs,()))/\bs.length=21:=by
 apply uB;simp only[iz,ia,h,zdF,zdJ,zdG];clear h;kernel_rfl
theorem zdi (h:bf WX (((5,sq,td,it,id,sd,od,p,q,sh,st,wh,a,b,tg,()),()),())=some ((true,()),())): ∃bs:List Int,iz WX (((2,0,n,(5,sq,td,it,id,sd,od,p,q,sh,st,wh,a,b,tg,()),()),()),())=some (((),()),(bs,()))/\bs.length=28:=by
 apply uB;simp only[iz,ia,h,zdF,zdJ,zdG];clear h;kernel_rfl
theorem zdj (h:bf WX (((6,sq,td,it,id,sd,od,p,q,sh,st,wh,a,b,tg,()),()),())=some ((true,()),())): ∃bs:List Int,iz WX (((2,0,n,(6,sq,td,it,id,sd,od,p,q,sh,st,wh,a,b,tg,()),()),()),())=some (((),()),(bs,()))/\bs.length=17:=by
 apply uB;simp only[iz,ia,h,zdF,zdJ,zdG];clear h;kernel_rfl
theorem zdk (h:bf WX (((9,sq,td,it,id,sd,od,p,q,sh,st,wh,a,b,tg,()),()),())=some ((true,()),())): ∃bs:List Int,iz WX (((2,0,n,(9,sq,td,it,id,sd,od,p,q,sh,st,wh,a,b,tg,()),()),()),())=some (((),()),(bs,()))/\bs.length=18:=by
 apply uB;simp only[iz,ia,h,zdF,zdJ,zdG];clear h;kernel_rfl
end
theorem zdl: ∀f g:Nat->Int,CG (jB WX (((List.range 32).map f,(List.range 38).map g,()),()))=true:=λf g=>by kernel_rfl
theorem zdm: ∀f g:Nat->Int,CG (jB WX (((List.range 32).map f,(List.range 21).map g,()),()))=true:=λf g=>by kernel_rfl
theorem zdn: ∀f g:Nat->Int,CG (jB WX (((List.range 32).map f,(List.range 28).map g,()),()))=true:=λf g=>by kernel_rfl
theorem zdo: ∀f g:Nat->Int,CG (jB WX (((List.range 32).map f,(List.range 17).map g,()),()))=true:=λf g=>by kernel_rfl
def zce (k:Nat):Prop:= ∀f g:Nat->Int,CG (jB WX (((List.range 32).map f,(List.range k).map g,()),()))=true
theorem W7 (x:Int): ∃u:List Int,lH WX (([],x,()),())=some (((),()),(u,()))/\u.length=4:=uB (by kernel_rfl)
theorem W8 {lg:IG}{m k:Nat}{r:II}{bs:List Int}(h:zj lg m)(hm:m<=100000000000)(hr:gN WX ((r,()),())=some ((true,()),()))(hp:iz WX ((r,()),())=some (((),()),(bs,())))(hk:bs.length=k)(hl:zce k)(tC:k<=100):
  ∃xn,gy WX (((),r,()),(lg,()))=some ((true,()),(xn,()))/\zj xn (m+36+k):=by
 obtain⟨b,c,ct,u⟩:=lg;obtain⟨hb,hc⟩:=h;simp only at hb hc;obtain⟨f,rfl⟩:=mL c hc;obtain⟨g,hg⟩:=mL bs hk;obtain⟨c',h3,h4⟩:=E4 (hl f g);rw[<-hg] at h3;obtain⟨w,h5,h6⟩:=W7 (WX.wr .u32 (bs.length:Int));have e0:(0:Int)<=0/\(0:Int)<=((32:Nat):Int)/\((32:Nat):Int)<=(32:Nat):=by omega
 have hf: [b,w,bs,c'].flatten.length=b.length+36+k:=by simp;omega
 have hcc:=wb [b,w,bs,c'] (λe=>by rw[e] at hf;rw[zdR] at hf;omega) (by omega) (by simp)
 simp only[gy,hr,zdF,zdJ,zdG,hp,h3,h5,↓xo,ot e0,zdH,pG h4,hcc,zeX];exact⟨_,rfl,by rw[hf];omega,h4⟩
theorem Rc {n:Int}{c:mZ}(hn:0<=n/\n<=31)(h:bf WX ((c,()),())=some ((true,()),())): ∃b,gN WX (((2,0,n,c,()),()),())=some ((b,()),()):=by
 simp only[gN,↓xo,ot (show n>=0 by omega),Int.reduceEq,nB,iX,zdH,zdG,ot (show n<32 by omega),h,zdF]
 exact⟨_,rfl⟩
theorem W9 {lg:IG}{m:Nat}{n:Int}{c:mZ}(h:zj lg m)(hm:m<=100000000000)(hn:0<=n/\n<=31)(hc:K6 c)(hR:bf WX ((c,()),())=some ((true,()),())): ∃b xn m',gy WX (((),(2,0,n,c,()),()),(lg,()))=some ((b,()),(xn,()))/\zj xn m'/\m'<=m+100:=by
 obtain⟨b,hr⟩:=Rc hn hR;cases b with
 |false=>exact⟨false,lg,m,by simp only[gy,hr,zdF,zdK,zdH],h,by omega⟩
 |true=>
  have key: ∃(k:Nat) (bs:List Int),iz WX (((2,0,n,c,()),()),())=some (((),()),(bs,()))/\bs.length=k/\zce k/\k<=64:=by
   obtain⟨kd,sq,td,it,id,sd,od,p,q,sh,st,wh,a,b,tg,⟨⟩⟩:=c;have hk:=hc.kind;simp only at hk;rcases hk with rfl|rfl|rfl|rfl|rfl
   ·obtain⟨bs,b1,b2⟩:=zdg (n:=n) hR;exact⟨38,bs,b1,b2,zdl,by omega⟩
   ·obtain⟨bs,b1,b2⟩:=zdh (n:=n) hR;exact⟨21,bs,b1,b2,zdm,by omega⟩
   ·obtain⟨bs,b1,b2⟩:=zdi (n:=n) hR;exact⟨28,bs,b1,b2,zdn,by omega⟩
   ·obtain⟨bs,b1,b2⟩:=zdj (n:=n) hR;exact⟨17,bs,b1,b2,zdo,by omega⟩
   ·obtain⟨bs,b1,b2⟩:=zdk (n:=n) hR;exact⟨18,bs,b1,b2,Wv,by omega⟩
  obtain⟨k,bs,b1,b2,b3,b4⟩:=key;obtain⟨xn,l1,l2⟩:=W8 h hm hr b1 b2 b3 (by omega)
  exact⟨true,xn,_,l1,l2,by omega⟩
def gU (v:V)(i:Nat):xy:=(v.S.getD i (s0,())).1
def lO (F:List wR):Nat:=(F.map λx=>x.1.1.length).sum
theorem uC {v:V}{i f o:Nat}{s:xy}{fr ou:(List Int)×Bool×Unit}(h:nz v i f o s fr ou):gU v i=s:=by
 unfold gU;rw[zdW,h.S];rfl
theorem tZ (F G:List wR):lO (F++G)=lO F+lO G:=by unfold lO;rw[zfo,List.sum_append]
theorem Hy {F:List wR}{f:Nat}{x y:wR}(h:F[f]?=some y):lO (F.set f x)+y.1.1.length=lO F+x.1.1.length:=by
 have hf:=(List.getElem?_eq_some_iff.1 h).1;have e1:F=F.take f++ [y]++F.drop (f+1):=by
  have:=zdL hf;rw[h] at this;rw[Option.some.inj this];simp
 have e2:F.set f x=F.take f++ [x]++F.drop (f+1):=by
  rw[zfu,if_pos hf];simp
 rw[e2];have e3:lO F=lO (F.take f)+y.1.1.length+lO (F.drop (f+1)):=by
  conv=>lhs;rw[e1]
  rw[tZ,tZ];simp[lO]
 rw[e3,tZ,tZ];have:lO [x]=x.1.1.length:=by simp[lO]
 omega
structure QI (v:V):Prop where
 tre:F3 v.cfg.1 v.tr
 uniq: ∀i j,i<16->j<16->(gU v i).1=3->(gU v j).1=3->(gU v i).2.1=(gU v j).2.1->i=j
 there: ∀i,i<16->(gU v i).1=3->lf v.tr (gU v i).2.1=true
 CJ: ∀f:Int,(((List.range 16).countP λi=>decide ((gU v i).1=3/\(gz v.tr (gU v i).2.1).1=f):Nat):Int)<=v.cfg.2.2.2.2.2.2.2.1
theorem F3.there {a b:List pv}(h:F3 a b)(n:Int):lf b n=lf a n:=by
 unfold lf gz;split
 ·rw[(h.same n.toNat).2.2.1]
 ·rfl
theorem F3.kr {a b:List pv}(h:F3 a b)(n:Int):(gz b n).1=(gz a n).1:=(h.same n.toNat).1
theorem QI.mono {v v':V}(h:QI v)(hs: ∀j,j<16->(gU v' j).1=3->(gU v j).1=3/\(gU v' j).2.1=(gU v j).2.1)(ht:F3 v.tr v'.tr)(hc:v'.cfg=v.cfg):QI v':=by
 refine⟨by rw[hc];exact h.tre.trans ht,λi j hi hj h1 h2 h3=>?_,λi hi h1=>?_,λf=>?_⟩
 ·obtain⟨a1,a2⟩:=hs i hi h1
  obtain⟨b1,b2⟩:=hs j hj h2;exact h.uniq i j hi hj a1 b1 (by rw[<-a2,<-b2];exact h3)
 ·obtain⟨a1,a2⟩:=hs i hi h1
  rw[ht.there,a2];exact h.there i hi a1
 ·rw[hc]
  have:=List.countP_mono_left (l:=List.range 16) (p:=λi=>decide ((gU v' i).1=3/\(gz v'.tr (gU v' i).2.1).1=f)) (q:=λi=>decide ((gU v i).1=3/\(gz v.tr (gU v i).2.1).1=f)) (λi hi hp=>by
   have hp:=of_decide_eq_true hp;obtain⟨a1,a2⟩:=hs i (List.mem_range.1 hi) hp.1;refine decide_eq_true ⟨a1,?_⟩;rw[<-hp.2,ht.kr,a2])
  have:=h.CJ f;omega
structure VI (P:Nat->V->(Nat->MS)->Prop)(k m:Nat)(v:V)(μ:Nat->MS):Prop where
 ss:SS v μ
 ci:CI v
 mt:v.mt.length=4
 lg:zj v.lg m
 p:P k v μ
 qi:QI v
structure PK (P:Nat->V->(Nat->MS)->Prop):Prop where
 oZ: ∀{k v v' μ},P k v μ->v'.op=v.op->v'.ps=v.ps->v'.cfg=v.cfg->P k v' μ
 quiet: ∀{k v μ v' μ'} {x:Int},SS v μ->P k v μ->SS v' μ'->Kept v v'->v'.ps=v.ps->(∀i,μ' i=μ i\/μ' i=(mX x (μ i)).1)->P k v' μ'
 cmd: ∀{k v μ v' μ'},SS v μ->P k v μ->SS v' μ'->Kept v v'->Pm v μ μ' v'.ps->P (k+1) v' μ'
 more: ∀{k v μ},P k v μ->P (k+1) v μ
structure Sm (v v':V):Prop where
 c:v'.c=v.c
 S:v'.S=v.S
 F:v'.F=v.F
 now:v'.now=v.now
 cfg:v'.cfg=v.cfg
 tr:F3 v.tr v'.tr
theorem Sm.gU {v v':V}(h:Sm v v')(i:Nat):gU v' i=gU v i:=by unfold AM.gU;rw[h.S]
theorem Sm.qi {v v':V}(h:Sm v v')(q:QI v):QI v':=q.mono (λj _ h3=>by rw[h.gU] at h3⊢;exact⟨h3,rfl⟩) h.tr h.cfg
theorem Sm.trans {a b c:V}(h:Sm a b)(k:Sm b c):Sm a c:=⟨k.c.trans h.c,k.S.trans h.S,k.F.trans h.F,k.now.trans h.now,k.cfg.trans h.cfg,h.tr.trans k.tr⟩
theorem SS.oZ {v v':V}{μ:Nat->MS}(h:SS v μ)(hs:v'.s=v.s):SS v' μ:=by
 obtain⟨c,cfg,now,ph,mp,bp,lp,tr,op,ps,lg,mt,M,L,S,F,O,B⟩:=v;obtain⟨c',zdC,E7,ph',mp',bp',lp',tr',m8,Xr,xn,rF,M',L',S',F',O',B'⟩:=v';simp only[V.s,Prod.mk.injEq] at hs;obtain⟨⟨rfl,rfl,_,rfl,rfl,_,rfl,rfl,_⟩,⟨rfl,_⟩,⟨rfl,rfl,_⟩,rfl,rfl,rfl,_⟩:=hs;exact⟨⟨⟨h.si.pK.mp,h.si.pK.at_⟩,h.si.op,h.si.Ly,h.si.ps⟩,h.tr,h.ph,h.Yl,h.bp,h.B,h.lp,h.L,h.now⟩
theorem CI.oZ {v v':V}(h:CI v)(hc:v'.c=v.c)(hS:v'.S=v.S)(hF:v'.F=v.F)(hO:v'.O=v.O):CI v':=λi hi=>by
 obtain⟨f,o,s,fr,ou,h1,h2⟩:=h i hi;exact⟨f,o,s,fr,ou,⟨h1.lt,by rw[hc];exact h1.c,by rw[hS];exact h1.S,by rw[hF];exact h1.F,by rw[hO];exact h1.O⟩,h2⟩
theorem NI {r:II}{v v1:V}{b:Bool}{xn:IG}(hci:CI v)(hm:v.mt.length=4)(h1:v1.c=v.c)(h2:v1.S=v.S)(h3:v1.F=v.F)(h4:v1.O=v.O)
  (hd:(∃e,cj WX (((),r,()),v.s)=some (.inl (((),e,()),sE v1 [])))\/∃out,out.length<=80000000/\cj WX (((),r,()),v.s)=some (.inr ((out,0,()),v1.s)))
  (hl:gy WX (((),r,()),(v.lg,()))=some ((b,()),(xn,()))):
  ∃e rF O',bR WX (((),r,()),v.e)=some ((e,()),{v1 with lg:=xn,mt:=rF,O:=O'}.e)/\CI {v1 with lg:=xn,mt:=rF,O:=O'}/\rF.length=4:=by
 obtain⟨rF,q,g3,g4⟩:=tX hm (i:=1) (by omega)
 change aR WX (((),1,1,()),_)=_ at g3;have zcf:CI {v1 with lg:=xn,mt:=rF}:=hci.oZ h1 h2 h3 h4;rcases hd with⟨e,hd⟩|⟨out,ho,hd⟩
 ·obtain⟨O',l1,l2⟩:=C1 zcf e [] (by simp)
  refine⟨e,rF,O',?_,l2,g4⟩;simp only[V.s] at hd;simp only[V.e,zdR,zfe] at l1;rw[h1,h2,h3,h4] at l1;simp only[bR,V.e,hd,hl,g3,zdF,↓xl,zdR,zfe,l1,h1,h2,h3]
 ·obtain⟨O',l1,l2⟩:=C1 zcf 0 out ho
  refine⟨0,rF,O',?_,l2,g4⟩;simp only[V.s] at hd;simp only[V.e] at l1;rw[h1,h2,h3,h4] at l1;simp only[bR,V.e,hd,hl,g3,zdF,↓xl,l1,h1,h2,h3]
section
variable {P:Nat->V->(Nat->MS)->Prop}{k m:Nat}{v:V}{μ:Nat->MS}
theorem Uy (pk:PK P)(h:VI P k m v μ)(hm:m<=100000000000){d:Int}(hd:d=3\/d=4\/d=5){n:Int}(hn:0<=n/\n<=31): ∃e v' μ',bR WX (((),(d,0,n,C0,()),()),v.e)=some ((e,()),v'.e)/\VI P k (m+46) v' μ'/\Sm v v':=by
 obtain⟨v1,μ',x,s1,s2,s3,s4,s5⟩:=Uv h.ss n d hd;obtain⟨xn,l1,l2⟩:=IZ h.lg hm (OQ hd hn.1 (by omega))
 have e1:v1.c=v.c:=by rw[s2.eq]
 have e2:v1.S=v.S:=by rw[s2.eq]
 have e3:v1.F=v.F:=by rw[s2.eq]
 have e4:v1.O=v.O:=by rw[s2.eq]
 have e5:v1.now=v.now:=by rw[s2.eq]
 have e6:v1.cfg=v.cfg:=by rw[s2.eq]
 obtain⟨e,rF,O',r1,r2,r3⟩:=NI h.ci h.mt e1 e2 e3 e4 s5 l1;have sm:Sm v {v1 with lg:=xn,mt:=rF,O:=O'}:=⟨e1,e2,e3,e5,e6,s2.tr⟩;exact⟨e,_,μ',r1,⟨s1.oZ (by rfl),r2,r3,l2,pk.oZ (pk.quiet h.ss h.p s1 s2 s3 s4) (by rfl) (by rfl) (by rfl),sm.qi h.qi⟩,sm⟩
theorem zcg (pk:PK P)(h:VI P k m v μ)(hm:m<=100000000000){n:Int}(hn:0<=n/\n<=31){c:mZ}(hc:K6 c)(hR:bf WX ((c,()),())=some ((true,()),()))(hT:iM WX ((c,()),())=some ((true,()),())): ∃e v' μ' m',bR WX (((),(2,0,n,c,()),()),v.e)=some ((e,()),v'.e)/\VI P (k+1) m' v' μ'/\m'<=m+100/\Sm v v':=by
 obtain⟨v1,μ',s1,s2,s3,s5⟩:=zar h.ss n hc hT;obtain⟨b,xn,m',l1,l2,l3⟩:=W9 h.lg hm hn hc hR;have e1:v1.c=v.c:=by rw[s2.eq]
 have e2:v1.S=v.S:=by rw[s2.eq]
 have e3:v1.F=v.F:=by rw[s2.eq]
 have e4:v1.O=v.O:=by rw[s2.eq]
 have e5:v1.now=v.now:=by rw[s2.eq]
 have e6:v1.cfg=v.cfg:=by rw[s2.eq]
 obtain⟨e,rF,O',r1,r2,r3⟩:=NI h.ci h.mt e1 e2 e3 e4 s5 l1;have sm:Sm v {v1 with lg:=xn,mt:=rF,O:=O'}:=⟨e1,e2,e3,e5,e6,s2.tr⟩;exact⟨e,_,μ',m',r1,⟨s1.oZ (by rfl),r2,r3,l2,pk.oZ (pk.cmd h.ss h.p s1 s2 s3) (by rfl) (by rfl) (by rfl),sm.qi h.qi⟩,l3,sm⟩
end
structure Ev (i:Nat)(v v':V):Prop where
 now:v'.now=v.now
 cfg:v'.cfg=v.cfg
 left:lO v'.F=lO v.F
 gU: ∀j,j<16->gU v' j=gU v j\/(gU v' j).1=0\/(j=i/\(gU v' j).2.2.2.2.1=v.now)
theorem Ev.rfl (i:Nat)(v:V):Ev i v v:=⟨Eq.refl _,Eq.refl _,Eq.refl _,λ_ _=> .inl (Eq.refl _)⟩
theorem Ev.trans {i:Nat}{a b c:V}(h:Ev i a b)(k:Ev i b c):Ev i a c:=⟨k.now.trans h.now,k.cfg.trans h.cfg,k.left.trans h.left,λj hj=>by
 rcases k.gU j hj with e|e|⟨e1,e2⟩
 ·rw[e];exact h.gU j hj
 ·exact .inr (.inl e)
 ·exact .inr (.inr ⟨e1,by rw[e2,h.now]⟩)⟩
structure Dw (v v':V):Prop where
 now:v'.now=v.now
 cfg:v'.cfg=v.cfg
 left:lO v'.F=lO v.F
 gU: ∀j,j<16->gU v' j=gU v j\/(gU v' j).1=0
theorem Dw.rfl (v:V):Dw v v:=⟨Eq.refl _,Eq.refl _,Eq.refl _,λ_ _=> .inl (Eq.refl _)⟩
theorem Dw.trans {a b c:V}(h:Dw a b)(k:Dw b c):Dw a c:=⟨k.now.trans h.now,k.cfg.trans h.cfg,k.left.trans h.left,λj hj=>by
 rcases k.gU j hj with e|e
 ·rw[e];exact h.gU j hj
 ·exact .inr e⟩
theorem Dw.ev {v v':V}(h:Dw v v')(i:Nat):Ev i v v':=⟨h.now,h.cfg,h.left,λj hj=>by
 rcases h.gU j hj with e|e
 ·exact .inl e
 ·exact .inr (.inl e)⟩
theorem Sm.dw {v v':V}(h:Sm v v'):Dw v v':=⟨h.now,h.cfg,by rw[h.F],λj _=> .inl (h.gU j)⟩
theorem A4 {v:V}{i f o:Nat}{s:xy}{fr ou:(List Int)×Bool×Unit}(h:nz v i f o s fr ou){S':List zG}{x:xy}(hS:S'=v.S.set i (x,()))(j:Nat):(S'.getD j (s0,())).1=if j=i then x else gU v j:=by
 subst hS;have hl:=(List.getElem?_eq_some_iff.1 h.S).1;unfold gU;simp only[zdW,zfc];by_cases e:i=j
 ·subst e;rw[if_pos rfl,if_pos hl,if_pos rfl];rfl
 ·rw[if_neg e,if_neg (λq=>e q.symm)]
section
variable {P:Nat->V->(Nat->MS)->Prop}{k m:Nat}{v:V}{μ:Nat->MS}{i:Nat}
theorem K7 (pk:PK P)(h:VI P k m v μ)(hi:i<16): ∃v',bH WX (((),(i:Int),()),v.e)=some ((),v'.e)/\VI P k m v' μ/\Dw v v'/\gU v' i=s0/\(∀j,j≠i->gU v' j=gU v j)/\v'.tr=v.tr:=by
 obtain⟨f,o,s,fr,ou,hc,mj⟩:=h.ci i hi;obtain⟨rF,h1,h2⟩:=Z4 hc h.mt;have hs:=λj=>A4 hc (x:=s0) rfl j;have hdw:Dw v {v with c:=v.c.set i (i+1,v.F.length+1,o+1,()),mt:=rF,S:=v.S.set i (s0,()),F:=v.F++ [(([],false,()),())]}:=⟨rfl,rfl,by rw[tZ];rfl,λj _=>by
  show(((v.S.set i (s0,())).getD j (s0,())).1=_)\/((v.S.set i (s0,())).getD j (s0,())).1.1=0
  rw[hs];split
  ·exact .inr rfl
  ·exact .inl rfl⟩
 have hsi:((v.S.set i (s0,())).getD i (s0,())).1=s0:=by rw[hs,if_pos rfl]
 have hsj: ∀j,j≠i->((v.S.set i (s0,())).getD j (s0,())).1=gU v j:=λj hj=>by rw[hs,if_neg hj]
 refine⟨_,h1,⟨h.ss.oZ (by rfl),λj hj=>?_,h2,h.lg,pk.oZ h.p (by rfl) (by rfl) (by rfl),h.qi.mono (λj hj h3=>?_) .rfl (by rfl)⟩,hdw,hsi,hsj,rfl⟩
 ·by_cases e:j=i
  ·subst e
   exact⟨v.F.length,o,s0,([],false,()),ou,⟨hi,kW hc.c,kW hc.S,by simp,hc.O⟩,⟨mj.out,by simp[s0], .inl rfl,by simp[s0]⟩⟩
  ·obtain⟨f',o',s',wU,I1,c1,c2⟩:=h.ci j hj
   obtain⟨d1,d2,d3,d4,d5⟩:=nz.other c1 e (i+1,v.F.length+1,o+1,()) (s0,()) [(([],false,()),())];exact⟨f',o',s',wU,I1,⟨d1,d2,d3,d4,d5⟩,c2⟩
 ·by_cases e:j=i
  ·subst e
   change ((v.S.set j (s0,())).getD j (s0,())).1.1=3 at h3;rw[hsi] at h3;cases h3
  ·change ((v.S.set i (s0,())).getD j (s0,())).1.1=3 at h3
   rw[hsj j e] at h3;refine⟨h3,?_⟩;show((v.S.set i (s0,())).getD j (s0,())).1.2.1=_
   rw[hsj j e]
theorem qq (pk:PK P)(h:VI P k m v μ)(hm:m<=100000000000)(hi:i<16): ∃v' μ' m',bm WX (((),(i:Int),()),v.e)=some ((),v'.e)/\VI P k m' v' μ'/\m'<=m+46/\Dw v v'/\(gU v' i).1=0/\(∀j,j≠i->gU v' j=gU v j)/\F3 v.tr v'.tr:=by
 obtain⟨f,o,s,fr,ou,hc,mj⟩:=h.ci i hi;have Lp:=uC hc;by_cases h0:s.1=0
 ·have e2: ¬s.1=2:=by omega
  have e3: ¬s.1=3:=by omega
  refine⟨v,μ,m,?_,h,by omega, .rfl v,by rw[Lp];exact h0,λj _=>rfl, .rfl⟩
  simp only[bm,V.e,↓xo,ot (lC hi),zdH,zdI,hc.c,zdF,al,hc.S,ai,ay,aV e2,aV e3,ot h0,zdG,aE hc.S]
 ·obtain⟨v1,f1,f2,f3,f4,f5,f6⟩:=K7 pk h hi
  by_cases h3:s.1=3
  ·obtain⟨e,v2,μ',r1,r2,r3⟩:=Uy pk f2 hm (d:=5) (.inr (.inr rfl)) mj.qH
   have e2: ¬s.1=2:=by omega
   refine⟨v2,μ',m+46,?_,r2,by omega,f3.trans r3.dw,by rw[r3.gU,f4];rfl,λj hj=>by rw[r3.gU,f5 j hj],by rw[<-f6];exact r3.tr⟩
   simp only[V.e] at f1 r1;simp only[bm,V.e,↓xo,ot (lC hi),zdH,zdI,hc.c,zdF,al,hc.S,ai,ay,aV e2,ot h3,aV h0,zdG,aE hc.S,f1,r1]
  ·refine⟨v1,μ,m,?_,f2,by omega,f3,by rw[f4];rfl,f5,by rw[f6];exact .rfl⟩
   simp only[V.e] at f1;by_cases h2:s.1=2
   ·simp only[bm,V.e,↓xo,ot (lC hi),zdH,zdI,hc.c,zdF,al,hc.S,ai,ay,ot h2,aV h3,aV h0,zdG,aE hc.S,f1]
   ·simp only[bm,V.e,↓xo,ot (lC hi),zdH,zdI,hc.c,zdF,al,hc.S,ai,ay,aV h2,aV h3,aV h0,zdG,aE hc.S,f1]
theorem K8 (h:CI v): ∃r:Int,fw WX (((),()),v.e)=some ((r,()),v.e)/\(r= -1\/∃i:Nat,i<16/\r=(i:Int)/\(gU v i).1≠0):=by
 have key:=pI (b:=bV WX) (λk l=> ∃j:Nat,j<=16/\k=16-j/\l=((v.c,(j:Int),()),v.S,v.F,v.O,())) (λr=>(∃j:Nat,j<16/\(gU v j).1≠0/\r= .inl (((j:Int),()),v.S,v.F,v.O,()))\/r= .inr ((),v.S,v.F,v.O,())) (λk l hl=>by
  obtain⟨j,hj,rfl,rfl⟩:=hl;by_cases hc:j<16
  ·obtain⟨f,o,s,fr,ou,c1,c2⟩:=h j hc
   have e1:=jY hc (by omega)
   have hs:=uC c1;by_cases h0:s.1=0
   ·exact .inl ⟨((v.c,((j+1:Nat):Int),()),v.S,v.F,v.O,()),by simp only[bV,↓xo,xw,ot (show(j:Int)<16 by omega),ot (lC hc),zdH,zdF,zdI,c1.c,al,c1.S,ai,ot h0,zdJ,zdG,aE c1.S,e1],16-(j+1),by omega,j+1,by omega,rfl,rfl⟩
   ·cases ho:ou.2.1 with
    |true=>exact .inr ⟨.inl (((j:Int),()),v.S,v.F,v.O,()),by simp only[bV,↓xo,xw,ot (show(j:Int)<16 by omega),ot (lC hc),zdH,zdF,zdI,c1.c,al,c1.S,ai,aV h0,zdK,aE c1.S,c1.O,jW,ho,aE c1.O], .inl ⟨j,hc,by rw[hs];exact h0,rfl⟩⟩
    |false=>exact .inl ⟨((v.c,((j+1:Nat):Int),()),v.S,v.F,v.O,()),by simp only[bV,↓xo,xw,ot (show(j:Int)<16 by omega),ot (lC hc),zdH,zdF,zdI,c1.c,al,c1.S,ai,aV h0,zdK,zdG,aE c1.S,c1.O,jW,ho,aE c1.O,e1],16-(j+1),by omega,j+1,by omega,rfl,rfl⟩
  ·obtain rfl:j=16:=by omega
   exact .inr ⟨.inr ((),v.S,v.F,v.O,()),by simp only[bV,↓xo,aV (show¬((16:Nat):Int)<16 by omega),zdG], .inr rfl⟩)
 obtain⟨r,h1,h2⟩:=key 16 ((v.c,0,()),v.S,v.F,v.O,()) ⟨0,by omega,by omega,rfl⟩
 rcases h2 with⟨j,hj,hn,rfl⟩|rfl
 ·exact⟨(j:Int),by simp only[fw,V.e,↓xl,h1,zdF], .inr ⟨j,hj,rfl,hn⟩⟩
 ·exact⟨-1,by simp only[fw,V.e,↓xl,h1,zdF], .inl rfl⟩
def busy (v:V):Nat:=(List.range 16).countP λi=>!decide ((gU v i).1=0)
theorem Rd {v v':V}(hi:i<16)(h0:(gU v i).1≠0)(h1:(gU v' i).1=0)(h2: ∀j,j≠i->gU v' j=gU v j):busy v'<busy v:=by
 have key: ∀l:List Nat,(l.countP λi=>!decide ((gU v' i).1=0))+(if i∈l then 1 else 0)<=l.countP λi=>!decide ((gU v i).1=0):=by
  intro l;induction l with
  |nil=>simp
  |cons x l ih=>
   rw[zfA,zfA];by_cases e:x=i
   ·subst e
    have a1:(!decide ((gU v' x).1=0))=false:=by rw[decide_eq_true h1];rfl
    have a2:(!decide ((gU v x).1=0))=true:=by rw[decide_eq_false h0];rfl
    simp only[a1,a2,zeq,true_or,if_true,zdN,if_false];split at ih<;>omega
   ·rw[h2 x e]
    have:(i∈x::l)↔i∈l:=by simp[Ne.symm e]
    simp only[this];omega
 have:=key (List.range 16);rw[if_pos (List.mem_range.2 hi)] at this;unfold busy;omega
theorem Xa (v:V):busy v<=16:=by
 have:=List.countP_le_length (p:=λi=>!decide ((gU v i).1=0)) (l:=List.range 16);rw[zfx] at this;exact this
theorem yO (pk:PK P)(h:VI P k m v μ)(hm:m<=90000000000): ∃v' μ' m',cd WX (((),()),v.e)=some ((),v'.e)/\VI P k m' v' μ'/\m'<=m+736/\Dw v v'/\F3 v.tr v'.tr:=by
 obtain⟨r,o1,o2⟩:=K8 h.ci;have key:=pI (b:=cW WX) (λn l=> ∃(r:Int) (v1:V) (μ1:Nat->MS) (m1:Nat),l=(((),r,()),v1.e)/\VI P k m1 v1 μ1/\m1+46*n<=m+736/\Dw v v1/\F3 v.tr v1.tr/\n=busy v1/\(r= -1\/∃i:Nat,i<16/\r=(i:Int)/\(gU v1 i).1≠0)) (λq=> ∃(v1:V) (μ1:Nat->MS) (m1:Nat),q=((),v1.e)/\VI P k m1 v1 μ1/\m1<=m+736/\Dw v v1/\F3 v.tr v1.tr) (λn l hl=>by
  obtain⟨r,v1,μ1,m1,rfl,i1,i2,i3,i4,i5,i6⟩:=hl;rcases i6 with rfl|⟨i,hi,rfl,hn⟩
  ·exact .inr ⟨_,by simp only[cW,↓xo,aV (show¬(-1:Int)>=0 by omega),zdG],v1,μ1,m1,rfl,i1,by omega,i3,i4⟩
  ·obtain⟨v2,μ2,m2,d1,d2,d3,d4,d5,d6,d7⟩:=qq pk i1 (by omega) hi
   have hb:=Rd hi hn d5 d6;obtain⟨r',p1,p2⟩:=K8 d2.ci;exact .inl ⟨_,by simp only[cW,↓xo,ot (show(i:Int)>=0 by omega),zdH,d1,zdF,p1],busy v2,by omega,r',v2,μ2,m2,rfl,d2,by omega,i3.trans d4,i4.trans d7,rfl,p2⟩)
 obtain⟨q,h1,v1,μ1,m1,rfl,h2,h3,h4,h5⟩:=key (busy v) (((),r,()),v.e) ⟨r,v,μ,m,rfl,h,by have:=Xa v;omega, .rfl v, .rfl,rfl,o2⟩
 exact⟨v1,μ1,m1,by simp only[cd,o1,zdF,↓xl,h1],h2,h3,h4,h5⟩
theorem vd (pk:PK P)(h:VI P k m v μ)(hi:i<16)(sq er:Int): ∃v',dV WX (((),(i:Int),sq,er,()),v.e)=some ((),v'.e)/\VI P k m v' μ/\Sm v v':=by
 obtain⟨rF,r,h3,h4⟩:=tX h.mt (i:=2) (by omega)
 change aR WX (((),2,1,()),_)=_ at h3;obtain⟨O',n1,n2⟩:=FD (v:={v with mt:=rF}) (h.ci.oZ rfl rfl rfl rfl) hi (Rb er sq);have sm:Sm v {v with mt:=rF,O:=O'}:=⟨rfl,rfl,rfl,rfl,rfl, .rfl⟩;refine⟨_,?_,⟨h.ss.oZ (by rfl),n2,h4,h.lg,pk.oZ h.p (by rfl) (by rfl) (by rfl),sm.qi h.qi⟩,sm⟩
 simp only[V.e] at n1;simp only[dV,V.e,h3,zdF,n1]
theorem A5 (pk:PK P)(h:VI P k m v μ)(hi:i<16){n:mq}(hn:NS n): ∃v',bZ WX (((),(i:Int),n,()),v.e)=some ((),v'.e)/\VI P k m v' μ/\Sm v v':=by
 obtain⟨O',n1,n2⟩:=FD h.ci hi hn;have sm:Sm v {v with O:=O'}:=⟨rfl,rfl,rfl,rfl,rfl, .rfl⟩;exact⟨_,n1,⟨h.ss.oZ (by rfl),n2,h.mt,h.lg,pk.oZ h.p (by rfl) (by rfl) (by rfl),sm.qi h.qi⟩,sm⟩
end
structure Yn (v:V)(n:Int):Prop where
 there:lf v.tr n=true
 alone: ∀j,j<16->(gU v j).1=3->(gU v j).2.1≠n
 room:(((List.range 16).countP λi=>decide ((gU v i).1=3/\(gz v.tr (gU v i).2.1).1=(gz v.tr n).1):Nat):Int)<v.cfg.2.2.2.2.2.2.2.1
section
variable {P:Nat->V->(Nat->MS)->Prop}{k m:Nat}{v:V}{μ:Nat->MS}{i:Nat}
theorem NJ (h:SS v μ){n:Int}(hn:0<=n/\n<=31): ∃b,dD WX (((),n,()),v.s)=some ((b,()),v.s):=by
 have l1:=h.lp n.toNat (by omega)
 obtain⟨l,l2⟩:=h.L n.toNat (by omega)
 exact⟨oK l v.now,by simp only[dD,kO,V.s,↓xo,ot (show n>=0 by omega),ot (show n<32 by omega),ot (CZ hn),zdH,zdF,l1,al,l2,qP,aE l2]⟩
theorem FF {tr:List pv}{n:Int}(h:lf tr n=true):vB tr n=gz tr n:=by unfold vB;rw[if_pos h]
theorem Uz (h:VI P k m v μ){n:Int}(hn:lf v.tr n=true):(ag (bA WX) (((),n,(),0,v.c,0,()),v.e)=some (.inl ((5,()),v.e)))\/(ag (bA WX) (((),n,(),0,v.c,0,()),v.e)=some (.inr (((),((((List.range 16).countP λi=>decide ((gU v i).1=3/\(gz v.tr (gU v i).2.1).1=(gz v.tr n).1):Nat)):Int),()),v.e))/\∀j,j<16->(gU v j).1=3->(gU v j).2.1≠n):=by
 have key:=pI (b:=bA WX) (λq l=> ∃j:Nat,j<=16/\q=16-j/\l=(((),n,(),((((List.range j).countP λi=>decide ((gU v i).1=3/\(gz v.tr (gU v i).2.1).1=(gz v.tr n).1):Nat)):Int),v.c,(j:Int),()),v.e)/\∀j',j'<j->(gU v j').1=3->(gU v j').2.1≠n)
  (λr=>r= .inl ((5,()),v.e)\/(r= .inr (((),((((List.range 16).countP λi=>decide ((gU v i).1=3/\(gz v.tr (gU v i).2.1).1=(gz v.tr n).1):Nat)):Int),()),v.e)/\∀j,j<16->(gU v j).1=3->(gU v j).2.1≠n)) (λq l hl=>by
  obtain⟨j,hj,rfl,rfl,uH⟩:=hl;by_cases hc:j<16
  ·obtain⟨f,o,s,fr,ou,c1,c2⟩:=h.ci j hc
   have e1:=jY hc (by omega)
   have hs:=uC c1;have C7:=List.countP_le_length (p:=λi=>decide ((gU v i).1=3/\(gz v.tr (gU v i).2.1).1=(gz v.tr n).1)) (l:=List.range j);rw[zfx] at C7;have FG:(List.range (j+1)).countP (λi=>decide ((gU v i).1=3/\(gz v.tr (gU v i).2.1).1=(gz v.tr n).1))=(List.range j).countP (λi=>decide ((gU v i).1=3/\(gz v.tr (gU v i).2.1).1=(gz v.tr n).1))+(if s.1=3/\(gz v.tr s.2.1).1=(gz v.tr n).1 then 1 else 0):=by
    rw[zfy,List.countP_append,zfA,List.countP_nil];simp only[hs,zdU,zev]
   have t1:=oD h.ss.tr n;rw[FF hn] at t1;by_cases h3:s.1=3
   ·have e2: ¬s.1=2:=by omega
    have t2:=oD h.ss.tr s.2.1;have hth:=h.qi.there j hc (by rw[hs];exact h3)
    rw[hs] at hth;rw[FF hth] at t2;by_cases h4:s.2.1=n
    ·exact .inr ⟨.inl ((5,()),v.e),by simp only[bA,V.e,↓xo,xw,ot (show(j:Int)<16 by omega),ot (lC hc),zdH,zdF,zdI,c1.c,al,c1.S,ai,ay,ot h3,aV e2,zdJ,zdG,aE c1.S,ot h4], .inl rfl⟩
    ·by_cases h5:(gz v.tr s.2.1).1=(gz v.tr n).1
     ·rw[if_pos ⟨h3,h5⟩] at FG
      have e3:i64.wrap ((((List.range j).countP λi=>decide ((gU v i).1=3/\(gz v.tr (gU v i).2.1).1=(gz v.tr n).1):Nat):Int)+1)=(((List.range (j+1)).countP λi=>decide ((gU v i).1=3/\(gz v.tr (gU v i).2.1).1=(gz v.tr n).1):Nat):Int):=by
       rw[nL (by omega) (by omega),FG];omega
      exact .inl ⟨_,by simp only[bA,V.e,↓xo,xw,ot (show(j:Int)<16 by omega),ot (lC hc),zdH,zdF,zdI,c1.c,al,c1.S,ai,ay,ot h3,aV e2,zdJ,zdG,aE c1.S,aV h4,t1,t2,ot h5,e1,e3],16-(j+1),by omega,j+1,by omega,rfl,rfl,λj' Ch h'=>by
       by_cases e:j'=j
       ·subst e;rw[hs];exact h4
       ·exact uH j' (by omega) h'⟩
     ·have Rz:(List.range (j+1)).countP (λi=>decide ((gU v i).1=3/\(gz v.tr (gU v i).2.1).1=(gz v.tr n).1))=(List.range j).countP (λi=>decide ((gU v i).1=3/\(gz v.tr (gU v i).2.1).1=(gz v.tr n).1)):=by rw[FG,if_neg (λq=>h5 q.2)];rfl
      exact .inl ⟨_,by simp only[bA,V.e,↓xo,xw,ot (show(j:Int)<16 by omega),ot (lC hc),zdH,zdF,zdI,c1.c,al,c1.S,ai,ay,ot h3,aV e2,zdJ,zdG,aE c1.S,aV h4,t1,t2,aV h5,e1,Rz],16-(j+1),by omega,j+1,by omega,rfl,rfl,λj' Ch h'=>by
       by_cases e:j'=j
       ·subst e;rw[hs];exact h4
       ·exact uH j' (by omega) h'⟩
   ·have Rz:(List.range (j+1)).countP (λi=>decide ((gU v i).1=3/\(gz v.tr (gU v i).2.1).1=(gz v.tr n).1))=(List.range j).countP (λi=>decide ((gU v i).1=3/\(gz v.tr (gU v i).2.1).1=(gz v.tr n).1)):=by rw[FG,if_neg (λq=>h3 q.1)];rfl
    exact .inl ⟨_,by simp only[bA,V.e,↓xo,xw,ot (show(j:Int)<16 by omega),ot (lC hc),zdH,zdF,zdI,c1.c,al,c1.S,ai,aV h3,zdK,aE c1.S,e1,Rz],16-(j+1),by omega,j+1,by omega,rfl,rfl,λj' Ch h'=>by
     by_cases e:j'=j
     ·subst e;rw[hs] at h';exact absurd h' h3
     ·exact uH j' (by omega) h'⟩
  ·obtain rfl:j=16:=by omega
   exact .inr ⟨_,by simp only[bA,↓xo,aV (show¬((16:Nat):Int)<16 by omega),zdG], .inr ⟨rfl,uH⟩⟩)
 obtain⟨r,h1,h2⟩:=key 16 (((),n,(),0,v.c,0,()),v.e) ⟨0,by omega,by omega,rfl,λj hj=>by omega⟩
 rcases h2 with rfl|⟨rfl,h2⟩
 ·exact .inl h1
 ·exact .inr ⟨h1,h2⟩
theorem UA (h:VI P k m v μ)(n:Int): ∃e,eY WX (((),n,()),v.e)=some ((e,()),v.e)/\(e=0->Yn v n):=by
 have h1:=oR h.ss.tr n;cases ht:lf v.tr n with
 |false=>
  rw[ht] at h1;exact⟨16,by simp only[eY,V.e,da,zdF,h1,zdK,zdH],λq=>by omega⟩
 |true=>
  rw[ht] at h1;have hn:=pT ht;obtain⟨b,h2⟩:=NJ h.ss hn;have h3:=oD h.ss.tr n;simp only[V.s] at h2;cases b with
  |true=>exact⟨15,by simp only[eY,V.e,da,zdF,h1,h2,zdJ,zdG,zdH],λq=>by omega⟩
  |false=>
   cases ho:(vB v.tr n).2.2.2.2.1 with
   |true=>exact⟨7,by simp only[eY,V.e,da,zdF,h1,h2,h3,ho,zdJ,zdG,zdH],λq=>by omega⟩
   |false=>
    rcases Uz h ht with hl|⟨hl,uH⟩
    ·simp only[V.e] at hl
     exact⟨5,by simp only[eY,V.e,da,zdF,h1,h2,h3,ho,zdJ,zdG,↓xl,hl],λq=>by omega⟩
    ·simp only[V.e] at hl
     by_cases hq:(((List.range 16).countP λi=>decide ((gU v i).1=3/\(gz v.tr (gU v i).2.1).1=(gz v.tr n).1):Nat):Int)>=v.cfg.2.2.2.2.2.2.2.1
     ·exact⟨4,by simp only[eY,V.e,da,zdF,h1,h2,h3,ho,zdJ,zdG,↓xl,hl,dY,↓xo,ot hq,zdH],λq=>by omega⟩
     ·exact⟨0,by simp only[eY,V.e,da,zdF,h1,h2,h3,ho,zdJ,zdG,↓xl,hl,dY,↓xo,aV hq],λ_=>⟨ht,uH,by omega⟩⟩
theorem FH (pk:PK P)(h:VI P k m v μ){f o:Nat}{s:xy}{fr ou:(List Int)×Bool×Unit}(hc:nz v i f o s fr ou){s':xy}(mj:zcc s' ou)(hq:QI {v with S:=v.S.set i (s',())}):VI P k m {v with S:=v.S.set i (s',())} μ:=by
 refine⟨h.ss.oZ (by rfl),λj hj=>?_,h.mt,h.lg,pk.oZ h.p (by rfl) (by rfl) (by rfl),hq⟩
 by_cases e:j=i
 ·subst e
  exact⟨f,o,s',fr,ou,hc.gU s',mj⟩
 ·obtain⟨f',o',s2,wU,I1,h1,h2⟩:=h.ci j hj
  exact⟨f',o',s2,wU,I1,⟨h1.lt,h1.c,by show(v.S.set i _)[j]?=_;rw[kR e];exact h1.S,h1.F,h1.O⟩,h2⟩
theorem Jn (h:QI v){f o:Nat}{s:xy}{fr ou:(List Int)×Bool×Unit}(hc:nz v i f o s fr ou){s':xy}(hs:s'.1=3->s.1=3/\s'.2.1=s.2.1):QI {v with S:=v.S.set i (s',())}:=by
 have Lp:=uC hc;refine h.mono (λj hj h3=>?_) .rfl (by rfl)
 have e:=A4 hc (x:=s') rfl j;change ((v.S.set i (s',())).getD j (s0,())).1.1=3 at h3;show(gU v j).1=3/\((v.S.set i (s',())).getD j (s0,())).1.2.1=(gU v j).2.1
 rw[e] at h3⊢;by_cases q:j=i
 ·subst q
  rw[if_pos rfl] at h3⊢;rw[Lp];exact hs h3
 ·rw[if_neg q] at h3⊢;exact⟨h3,rfl⟩
theorem zch (h:QI v){f o:Nat}{s:xy}{fr ou:(List Int)×Bool×Unit}(hc:nz v i f o s fr ou)(h2:s.1≠3){s':xy}(h3:s'.1=3)(hm:Yn v s'.2.1):QI {v with S:=v.S.set i (s',())}:=by
 have Lp:=uC hc;have es: ∀j,gU {v with S:=v.S.set i (s',())} j=if j=i then s' else gU v j:=λj=>A4 hc (x:=s') rfl j
 refine⟨h.tre,λa b ha hb h1 h2 h4=>?_,λa ha h1=>?_,λfm=>?_⟩
 ·rw[es] at h1 h4
  rw[es] at h2 h4;by_cases qa:a=i
  ·by_cases qb:b=i
   ·rw[qa,qb]
   ·rw[if_pos qa,if_neg qb] at h4
    rw[if_neg qb] at h2;exact absurd h4.symm (hm.alone b hb h2)
  ·by_cases qb:b=i
   ·rw[if_neg qa,if_pos qb] at h4
    rw[if_neg qa] at h1;exact absurd h4 (hm.alone a ha h1)
   ·rw[if_neg qa,if_neg qb] at h4
    rw[if_neg qa] at h1;rw[if_neg qb] at h2;exact h.uniq a b ha hb h1 h2 h4
 ·rw[es] at h1⊢
  by_cases qa:a=i
  ·rw[if_pos qa];exact hm.there
  ·rw[if_neg qa] at h1⊢;exact h.there a ha h1
 ·show(((List.range 16).countP λi_1=>decide ((gU {v with S:=v.S.set i (s',())} i_1).1=3/\(gz v.tr (gU {v with S:=v.S.set i (s',())} i_1).2.1).1=fm):Nat):Int)<=v.cfg.2.2.2.2.2.2.2.1
  simp only[es];by_cases hf:(gz v.tr s'.2.1).1=fm
  ·have key: ∀l:List Nat,l.Nodup->l.countP (λj=>decide ((if j=i then s' else gU v j).1=3/\(gz v.tr (if j=i then s' else gU v j).2.1).1=fm))<=l.countP (λj=>decide ((gU v j).1=3/\(gz v.tr (gU v j).2.1).1=fm))+(if i∈l then 1 else 0):=by
    intro l hl;induction l with
    |nil=>simp
    |cons x l ih=>
     obtain⟨n1,n2⟩:=List.nodup_cons.1 hl;have:=ih n2;rw[zfA,zfA];by_cases e:x=i
     ·subst e
      rw[if_neg n1] at this;rw[if_pos (zdT ..)];split<;>split<;>omega
     ·have hm':(i∈x::l)↔i∈l:=by simp[Ne.symm e]
      simp only[hm',if_neg e];omega
   have:=key (List.range 16) List.nodup_range;have h6:=hm.room;rw[hf] at h6;split at this<;>omega
  ·have:=List.countP_mono_left (l:=List.range 16) (p:=λj=>decide ((if j=i then s' else gU v j).1=3/\(gz v.tr (if j=i then s' else gU v j).2.1).1=fm)) (q:=λj=>decide ((gU v j).1=3/\(gz v.tr (gU v j).2.1).1=fm)) (λj hj hp=>by
    have hp:=of_decide_eq_true hp;by_cases e:j=i
    ·rw[if_pos e] at hp;exact absurd hp.2 hf
    ·rw[if_neg e] at hp;exact decide_eq_true hp)
   have:=h.CJ fm;omega
theorem FI {f o:Nat}{s:xy}{fr ou:(List Int)×Bool×Unit}(hc:nz v i f o s fr ou){s':xy}(hs:s'.1=0\/s'.2.2.2.2.1=v.now):Ev i v {v with S:=v.S.set i (s',())}:=⟨rfl,rfl,rfl,λj hj=>by
 show(((v.S.set i (s',())).getD j (s0,())).1=_)\/((v.S.set i (s',())).getD j (s0,())).1.1=0\/_/\((v.S.set i (s',())).getD j (s0,())).1.2.2.2.2.1=_
 rw[A4 hc rfl j];by_cases e:j=i
 ·rw[if_pos e]
  rcases hs with hs|hs
  ·exact .inr (.inl hs)
  ·exact .inr (.inr ⟨e,hs⟩)
 ·rw[if_neg e];exact .inl rfl⟩
theorem Re {a b:List Int}(ha:a.length=32)(hb:b.length=32): ∃r,kn WX ((a,b,()),())=some ((r,()),()):=by
 obtain⟨Dk,h1,_⟩:=zM a b ha hb 32 0 (by omega) 0#8
 change ag (ib WX) (((),(),0,0,()),a,b,())=_ at h1;exact⟨WX.af (((Dk.toNat:Nat):Int)=0),by simp only[kn,↓xl,h1,zdF]⟩
theorem NK (pk:PK P)(h:VI P k m v μ)(hm:m<=90000000000)(hi:i<16){tag:List Int}(zdp:tag.length=32): ∃v' μ' m',cM WX (((),(i:Int),tag,()),v.e)=some ((),v'.e)/\VI P k m' v' μ'/\m'<=m+100/\Ev i v v':=by
 obtain⟨f,o,s,fr,ou,hc,mj⟩:=h.ci i hi;by_cases h2:s.1=2
 ·obtain⟨e,y1,y2⟩:=UA h s.2.1
  by_cases he:e=0
  ·subst he
   have l8:=y2 rfl;have ht:=oD h.ss.tr s.2.1;have yU:=Ul h.ss.tr s.2.1;obtain⟨Gt,t1,t2⟩:=M9 yU mj.rG;obtain⟨b,t3⟩:=Re zdp t2;have KA:=Tu yU mj.rG t1 t3 s.2.1 s.2.2.2.1 s.2.2.2.2.1 v.now;have hs:(2,s.2.1,s.2.2.1,s.2.2.2.1,s.2.2.2.2.1,())=s:=by rw[<-h2]
   rw[hs] at KA;simp only[V.e] at y1;cases b with
   |true=>
    simp only[if_true] at KA;have v1:=FH pk h hc (s':=(3,s.2.1,hY,1,v.now,())) ⟨mj.out,by simp,by simp,mj.qH⟩ (zch h.qi hc (by omega) rfl l8)
    have ev:=FI hc (s':=(3,s.2.1,hY,1,v.now,())) (.inr rfl);obtain⟨e',v2,μ',r1,r2,r3⟩:=Uy pk v1 (by omega) (d:=4) (.inr (.inl rfl)) mj.qH
    obtain⟨v3,w1,w2,w3⟩:=A5 pk r2 hi ND;refine⟨v3,μ',m+46,?_,w2,by omega,ev.trans ((r3.trans w3).dw.ev i)⟩
    simp only[V.e] at r1 w1;simp only[cM,V.e,↓xo,ot (lC hi),zdH,zdI,hc.c,zdF,al,hc.S,ay,ai,ot h2,aE hc.S,zdJ,zdG,y1,eq_self,iX,da,ht,aQ,KA,r1,w1]
   |false=>
    simp only[zdN,if_false] at KA;have v1:=FH pk h hc (s':=s0) ⟨mj.out,by simp[s0], .inl rfl,by simp[s0]⟩ (Jn h.qi hc (λq=>by cases q))
    have ev:=FI hc (s':=s0) (.inl rfl);obtain⟨e',v2,μ',r1,r2,r3⟩:=Uy pk v1 (by omega) (d:=3) (.inl rfl) mj.qH
    obtain⟨v3,w1,w2,w3⟩:=vd pk r2 hi 0 16;obtain⟨v4,x1,x2,x3,x4⟩:=K7 pk w2 hi;refine⟨v4,μ',m+46,?_,x2,by omega,ev.trans (((r3.trans w3).dw.trans x3).ev i)⟩
    simp only[V.e] at r1 w1 x1;simp only[cM,V.e,↓xo,ot (lC hi),zdH,zdI,hc.c,zdF,al,hc.S,ay,ai,ot h2,aE hc.S,zdJ,zdK,zdG,y1,eq_self,iX,da,ht,aQ,KA,r1,w1,x1]
  ·obtain⟨v1,w1,w2,w3⟩:=vd pk h hi 0 e
   obtain⟨v2,μ',m',d1,d2,d3,d4,_⟩:=qq pk w2 (by omega) hi
   refine⟨v2,μ',m',?_,d2,by omega,(w3.dw.trans d4).ev i⟩
   simp only[V.e] at y1 w1 d1;simp only[cM,V.e,↓xo,ot (lC hi),zdH,zdI,hc.c,zdF,al,hc.S,ay,ai,ot h2,aE hc.S,zdJ,zdG,y1,aV he,zdK,w1,d1]
 ·obtain⟨v2,μ',m',d1,d2,d3,d4,_⟩:=qq pk h (by omega) hi
  refine⟨v2,μ',m',?_,d2,by omega,d4.ev i⟩
  simp only[V.e] at d1;by_cases h3:s.1=3
  ·simp only[cM,V.e,↓xo,ot (lC hi),zdH,zdI,hc.c,zdF,al,hc.S,ay,ai,aV h2,ot h3,zdG,aE hc.S,zdK,d1]
  ·simp only[cM,V.e,↓xo,ot (lC hi),zdH,zdI,hc.c,zdF,al,hc.S,ay,ai,aV h2,aV h3,zdG,aE hc.S,zdK,d1]
end
def wm (r:nY):Prop:=0<=r.2.1/\r.2.1<=(r.1.length:Int)/\r.1.length<=1000000
theorem Hz {r:nY}(h:wm r){n:Int}(hn:1<=n/\n<=100):(∃r',eS WX (((),n,()),(r,()))=some (.inl (((),()),r',([]:List Int),()))/\wm r')\/∃(l:List Int) (r':nY),eS WX (((),n,()),(r,()))=some (.inr ((l,()),(r',())))/\wm r'/\(l.length:Int)=n:=by
 obtain⟨b,at_,bad,⟨⟩⟩:=r;obtain⟨h1,h2,h3⟩:=h;simp only at h1 h2 h3;cases bad with
 |true=>exact .inl ⟨(b,at_,true,()),by simp only[eS,zdH],h1,h2,h3⟩
 |false=>
  have e1:i64.wrap ((b.length:Int)-at_)=(b.length:Int)-at_:=nL (by omega) (by omega)
  by_cases hc:n>(b.length:Int)-at_
  ·exact .inl ⟨(b,at_,true,()),by simp only[eS,zdG,↓xo,xw,e1,ot hc,zdH],h1,h2,h3⟩
  ·have e2:i64.wrap (at_+n)=at_+n:=nL (by omega) (by omega)
   have e3:i64.wrap (at_+n-n)=at_:=by rw[nL (by omega) (by omega)];omega
   refine .inr ⟨(b.take (at_+n).toNat).drop at_.toNat,(b,at_+n,false,()),by simp only[eS,zdG,↓xo,xw,e1,aV hc,e2,e3,ot (show 0<=at_/\at_<=at_+n/\at_+n<=(b.length:Int) by omega),zdH],⟨?_,?_,h3⟩,?_⟩
   ·show 0<=at_+n;omega
   ·show at_+n<=(b.length:Int);omega
   ·rw[zeb,zea];omega
theorem HA (l:List Int)(hl:l.length<=1000): ∃x:Int,ag (ck WX) ((0,l,(l.length:Int),0,()),())=some ((x,()),()):=by
 obtain⟨x,h1,_⟩:=oC (b:=ck WX) l.length (λk (s:Int)=>((s,l,(l.length:Int),(k:Int),()),())) (λs=>((s,()),())) (λ_ _=>True)
  (λk s hk _=>by
   have hx:=zdL hk;have e1:=jY hk (by omega)
   have e0: ¬(8:Int)<0:=by omega
   exact⟨_,by simp only[ck,↓xo,xw,ot (show(k:Int)<(l.length:Int) by omega),ot (show(0:Int)<=(k:Int) by omega),zdH,zdI,hx,zdF,aV e0,zdG,e1];rfl,trivial⟩)
  (λs _=>by simp only[ck,↓xo,aV (show¬(l.length:Int)<(l.length:Int) by omega),zdG]) 0 trivial
 exact⟨x,h1⟩
theorem K9 {r:nY}(h:wm r){n:Int}(hn:1<=n/\n<=100): ∃(x:Int) (r':nY),fe WX (((),n,()),(r,()))=some ((x,()),(r',()))/\wm r':=by
 rcases Hz h hn with⟨r',h1,h2⟩|⟨l,r',h1,h2,h3⟩
 ·obtain⟨x,hx⟩:=HA [] (by simp)
  exact⟨x,r',by simp only[fe,h1,zdF,↓xl,hx],h2⟩
 ·obtain⟨x,hx⟩:=HA l (by omega)
  exact⟨x,r',by simp only[fe,h1,zdF,↓xl,hx],h2⟩
theorem so {r:nY}(h:wm r): ∃(x:Int) (r':nY),aF WX (((),()),(r,()))=some ((x,()),(r',()))/\wm r':=by
 obtain⟨x,r',h1,h2⟩:=K9 h (n:=1) ⟨by omega,by omega⟩
 exact⟨WX.wr .i64 x,r',by simp only[aF,h1,zdF],h2⟩
theorem nA {r:nY}(h:wm r): ∃(x:Int) (r':nY),aU WX (((),()),(r,()))=some ((x,()),(r',()))/\wm r':=by
 obtain⟨x,r',h1,h2⟩:=K9 h (n:=4) ⟨by omega,by omega⟩
 exact⟨WX.wr .u32 x,r',by simp only[aU,h1,zdF],h2⟩
theorem Xb {r:nY}(h:wm r): ∃(l:List Int) (r':nY),eX WX (((),()),(r,()))=some ((l,()),(r',()))/\wm r'/\l.length=32:=by
 have e0:(0:Int)<=0/\(0:Int)<=((32:Nat):Int)/\((32:Nat):Int)<=(32:Nat):=by omega
 have e1:(((32:Nat):Int)-(0:Int)).toNat=32:=by decide
 rcases Hz h (n:=32) ⟨by omega,by omega⟩ with⟨r',h1,h2⟩|⟨l,r',h1,h2,h3⟩
 ·refine⟨_,r',by simp only[eX,↓xo,ot e0,zdH,h1,zdF,e1];rfl,h2,?_⟩
  simp
 ·refine⟨_,r',by simp only[eX,↓xo,ot e0,zdH,h1,zdF,e1];rfl,h2,?_⟩
  have:l.length=32:=by omega
  simp[this]
theorem sA (r:nY): ∃b,cu WX (((),()),(r,()))=some ((b,()),(r,())):=by
 cases hb:r.2.2.1 with
 |true=>exact⟨false,by simp only[cu,hb,zdJ,zdG]⟩
 |false=>exact⟨af (r.2.1=(r.1.length:Int)),by simp only[cu,hb,zdK,zdH,↓xo]⟩
theorem qu (b:List Int)(h:b.length<=1000000):nk WX ((b,()),())=some (((),()),((b,0,false,()),())):=by
 have hc:=E3 b (by omega)
 simp only[nk,hc,zdF]
theorem yP {L R:Type}{b:L->Option (L⊕R)}{l l':L}(h:b l=some (.inl l')):ag b l=ag b l':=by rw[aq,h]
theorem kU {L R:Type}{b:L->Option (L⊕R)}{l:L}{r:R}(h:b l=some (.inr r)):ag b l=some r:=by rw[aq,h]
structure Yo (c:mZ):Prop where
 right:bf WX ((c,()),())=some ((true,()),())
 kind:1<=c.1/\c.1<=9
 zci:c.1=1->0<=c.2.2.1/\c.2.2.1<=31
 ans:c.1=2->c.2.2.2.2.2.2.2.2.2.2.2.2.2.2.1.length=32
 cmd:c.1=3\/c.1=4\/c.1=5\/c.1=6\/c.1=9->K6 c
def GB (b:List Int):Prop:= ∃c ok,fD WX ((b,()),())=some ((c,ok,()),())/\(ok=true->Yo c)
theorem om {L R:Type}{F:L->Option (L⊕R)}{a b:Bool->L}(x lo hi:Int)(h0:F (a false)=some (.inl (b false)))(h1:F (a true)=bif WX.af (x>=lo) then some (.inl (b (WX.af (x<=hi)))) else some (.inl (b false)))(t:Bool): ∃t',ag F (a t)=ag F (b t')/\(t'=true->t=true/\lo<=x/\x<=hi):=by
 cases t with
 |false=>exact⟨false,yP h0,λq=>by cases q⟩
 |true=>
  rw[xo,xo] at h1;by_cases h:x>=lo
  ·rw[ot h,zdH] at h1
   exact⟨_,yP h1,λq=>⟨rfl,h,kZ.1 q⟩⟩
  ·rw[aV h,zdG] at h1
   exact⟨false,yP h1,λq=>by cases q⟩
theorem stepG {L R α:Type}{F:L->Option (L⊕R)}{l l':L}{m:Option α}{x:α}{f:α->Option (L⊕R)}(h:F l=m.bind f)(e:m=some x)(h2:f x=some (.inl l')):ag F l=ag F l':=yP (by rw[h,e];exact h2)
abbrev g1 (k:Int)(c:mZ)(t:Bool):iE.D:=(((),t,(),1,k,()),c,(((),1,0,31,()),()),())
abbrev g3 (k:Int)(c:mZ)(t:Bool):bq.D:=(((),t,(),9,k,()),c,(((),4,0,1073741824,()),((),1,0,7,()),((),4,0,1073741824,()),((),1,0,255,()),((),1,0,255,()),((),4,0,1073741824,()),((),4,0,1073741824,()),((),4,0,1073741824,()),((),4,0,1073741824,()),()),())
abbrev g4 (k:Int)(c:mZ)(t:Bool):dH.D:=(((),t,(),4,k,()),c,(((),4,0,1073741824,()),((),1,0,7,()),((),4,0,1073741824,()),((),1,0,31,()),()),())
abbrev g5 (k:Int)(c:mZ)(t:Bool):cO.D:=(((),t,(),5,k,()),c,(((),4,0,1073741824,()),((),1,0,7,()),((),4,0,1073741824,()),((),4,0,1073741824,()),((),4,0,1073741824,()),()),())
abbrev g6 (k:Int)(c:mZ)(t:Bool):eU.D:=(((),t,(),3,k,()),c,(((),4,0,1073741824,()),((),1,0,8,()),((),1,1,3,()),()),())
abbrev g9 (k:Int)(c:mZ)(t:Bool):dI.D:=(((),t,(),4,k,()),c,(((),4,0,1073741824,()),((),1,1,9,()),((),1,0,255,()),((),1,0,255,()),()),())
section
variable (sq td it id sd od p q sh st wh a b:Int)(tg:List Int)
theorem FJ: ∃r,bf WX (((1,sq,td,it,id,sd,od,p,q,sh,st,wh,a,b,tg,()),()),())=some ((r,()),())/\(r=true->(0<=td/\td<=31)):=by
 have hf:dJ WX (((),()),((1,sq,td,it,id,sd,od,p,q,sh,st,wh,a,b,tg,()),()))=some (.inl (((),true,()),(1,sq,td,it,id,sd,od,p,q,sh,st,wh,a,b,tg,()),(((),1,0,31,()),()),())):=by kernel_rfl
 obtain⟨t0,u0,w0⟩:=om (F:=iE WX) (a:=g1 0 (1,sq,td,it,id,sd,od,p,q,sh,st,wh,a,b,tg,())) (b:=g1 1 (1,sq,0,it,id,sd,od,p,q,sh,st,wh,a,b,tg,())) td 0 31 (by kernel_rfl) (by kernel_rfl) true
 have hl:ag (iE WX) (g1 0 (1,sq,td,it,id,sd,od,p,q,sh,st,wh,a,b,tg,()) true)=some (((),t0,()),(1,sq,0,it,id,sd,od,p,q,sh,st,wh,a,b,tg,()),(((),1,0,31,()),()),()):=by
  rw[u0];exact kU (by kernel_rfl)
 cases ht:t0 with
 |false=>rw[ht] at hl;exact⟨false,by simp only[bf,hf,zdF,↓xl,hl,↓xo,Int.reduceEq,nB,zdG,zdH],λq=>by cases q⟩
 |true=>
  rw[ht] at hl;obtain⟨x0,y0⟩:=w0 ht;exact⟨_,by simp only[bf,hf,zdF,↓xl,hl,↓xo,Int.reduceEq,nB,zdG,zdH];rfl,λ_=>y0⟩
theorem FK: ∃r,bf WX (((3,sq,td,it,id,sd,od,p,q,sh,st,wh,a,b,tg,()),()),())=some ((r,()),())/\(r=true->(0<=sq/\sq<=1073741824)/\(0<=it/\it<=7)/\(0<=id/\id<=1073741824)/\(0<=sd/\sd<=255)/\(0<=od/\od<=255)/\(0<=p/\p<=1073741824)/\(0<=q/\q<=1073741824)/\(0<=sh/\sh<=1073741824)/\(0<=st/\st<=1073741824)):=by
 have hf:dJ WX (((),()),((3,sq,td,it,id,sd,od,p,q,sh,st,wh,a,b,tg,()),()))=some (.inr (.inl (((),true,()),(3,sq,td,it,id,sd,od,p,q,sh,st,wh,a,b,tg,()),(((),4,0,1073741824,()),((),1,0,7,()),((),4,0,1073741824,()),((),1,0,255,()),((),1,0,255,()),((),4,0,1073741824,()),((),4,0,1073741824,()),((),4,0,1073741824,()),((),4,0,1073741824,()),()),()))):=by kernel_rfl
 obtain⟨t0,u0,w0⟩:=om (F:=bq WX) (a:=g3 0 (3,sq,td,it,id,sd,od,p,q,sh,st,wh,a,b,tg,())) (b:=g3 1 (3,0,td,it,id,sd,od,p,q,sh,st,wh,a,b,tg,())) sq 0 1073741824 (by kernel_rfl) (by kernel_rfl) true
 obtain⟨t1,u1,w1⟩:=om (F:=bq WX) (a:=g3 1 (3,0,td,it,id,sd,od,p,q,sh,st,wh,a,b,tg,())) (b:=g3 2 (3,0,td,0,id,sd,od,p,q,sh,st,wh,a,b,tg,())) it 0 7 (by kernel_rfl) (by kernel_rfl) t0
 obtain⟨t2,u2,w2⟩:=om (F:=bq WX) (a:=g3 2 (3,0,td,0,id,sd,od,p,q,sh,st,wh,a,b,tg,())) (b:=g3 3 (3,0,td,0,0,sd,od,p,q,sh,st,wh,a,b,tg,())) id 0 1073741824 (by kernel_rfl) (by kernel_rfl) t1
 obtain⟨t3,u3,w3⟩:=om (F:=bq WX) (a:=g3 3 (3,0,td,0,0,sd,od,p,q,sh,st,wh,a,b,tg,())) (b:=g3 4 (3,0,td,0,0,0,od,p,q,sh,st,wh,a,b,tg,())) sd 0 255 (by kernel_rfl) (by kernel_rfl) t2
 obtain⟨t4,u4,w4⟩:=om (F:=bq WX) (a:=g3 4 (3,0,td,0,0,0,od,p,q,sh,st,wh,a,b,tg,())) (b:=g3 5 (3,0,td,0,0,0,0,p,q,sh,st,wh,a,b,tg,())) od 0 255 (by kernel_rfl) (by kernel_rfl) t3
 obtain⟨t5,u5,w5⟩:=om (F:=bq WX) (a:=g3 5 (3,0,td,0,0,0,0,p,q,sh,st,wh,a,b,tg,())) (b:=g3 6 (3,0,td,0,0,0,0,0,q,sh,st,wh,a,b,tg,())) p 0 1073741824 (by kernel_rfl) (by kernel_rfl) t4
 obtain⟨t6,u6,w6⟩:=om (F:=bq WX) (a:=g3 6 (3,0,td,0,0,0,0,0,q,sh,st,wh,a,b,tg,())) (b:=g3 7 (3,0,td,0,0,0,0,0,0,sh,st,wh,a,b,tg,())) q 0 1073741824 (by kernel_rfl) (by kernel_rfl) t5
 obtain⟨t7,u7,w7⟩:=om (F:=bq WX) (a:=g3 7 (3,0,td,0,0,0,0,0,0,sh,st,wh,a,b,tg,())) (b:=g3 8 (3,0,td,0,0,0,0,0,0,0,st,wh,a,b,tg,())) sh 0 1073741824 (by kernel_rfl) (by kernel_rfl) t6
 obtain⟨t8,u8,w8⟩:=om (F:=bq WX) (a:=g3 8 (3,0,td,0,0,0,0,0,0,0,st,wh,a,b,tg,())) (b:=g3 9 (3,0,td,0,0,0,0,0,0,0,0,wh,a,b,tg,())) st 0 1073741824 (by kernel_rfl) (by kernel_rfl) t7
 have hl:ag (bq WX) (g3 0 (3,sq,td,it,id,sd,od,p,q,sh,st,wh,a,b,tg,()) true)=some (((),t8,()),(3,0,td,0,0,0,0,0,0,0,0,wh,a,b,tg,()),(((),4,0,1073741824,()),((),1,0,7,()),((),4,0,1073741824,()),((),1,0,255,()),((),1,0,255,()),((),4,0,1073741824,()),((),4,0,1073741824,()),((),4,0,1073741824,()),((),4,0,1073741824,()),()),()):=by
  rw[u0,u1,u2,u3,u4,u5,u6,u7,u8];exact kU (by kernel_rfl)
 cases ht:t8 with
 |false=>rw[ht] at hl;exact⟨false,by simp only[bf,hf,zdF,↓xl,hl,↓xo,Int.reduceEq,nB,zdG,zdH],λq=>by cases q⟩
 |true=>
  rw[ht] at hl;obtain⟨x8,y8⟩:=w8 ht;obtain⟨x7,y7⟩:=w7 x8;obtain⟨x6,y6⟩:=w6 x7;obtain⟨x5,y5⟩:=w5 x6;obtain⟨x4,y4⟩:=w4 x5;obtain⟨x3,y3⟩:=w3 x4;obtain⟨x2,y2⟩:=w2 x3;obtain⟨x1,y1⟩:=w1 x2;obtain⟨x0,y0⟩:=w0 x1;exact⟨_,by simp only[bf,hf,zdF,↓xl,hl,↓xo,Int.reduceEq,nB,zdG,zdH];rfl,λ_=>⟨y0,y1,y2,y3,y4,y5,y6,y7,y8⟩⟩
theorem FL: ∃r,bf WX (((4,sq,td,it,id,sd,od,p,q,sh,st,wh,a,b,tg,()),()),())=some ((r,()),())/\(r=true->(0<=sq/\sq<=1073741824)/\(0<=it/\it<=7)/\(0<=id/\id<=1073741824)/\(0<=td/\td<=31)):=by
 have hf:dJ WX (((),()),((4,sq,td,it,id,sd,od,p,q,sh,st,wh,a,b,tg,()),()))=some (.inr (.inr (.inl (((),true,()),(4,sq,td,it,id,sd,od,p,q,sh,st,wh,a,b,tg,()),(((),4,0,1073741824,()),((),1,0,7,()),((),4,0,1073741824,()),((),1,0,31,()),()),())))):=by kernel_rfl
 obtain⟨t0,u0,w0⟩:=om (F:=dH WX) (a:=g4 0 (4,sq,td,it,id,sd,od,p,q,sh,st,wh,a,b,tg,())) (b:=g4 1 (4,0,td,it,id,sd,od,p,q,sh,st,wh,a,b,tg,())) sq 0 1073741824 (by kernel_rfl) (by kernel_rfl) true
 obtain⟨t1,u1,w1⟩:=om (F:=dH WX) (a:=g4 1 (4,0,td,it,id,sd,od,p,q,sh,st,wh,a,b,tg,())) (b:=g4 2 (4,0,td,0,id,sd,od,p,q,sh,st,wh,a,b,tg,())) it 0 7 (by kernel_rfl) (by kernel_rfl) t0
 obtain⟨t2,u2,w2⟩:=om (F:=dH WX) (a:=g4 2 (4,0,td,0,id,sd,od,p,q,sh,st,wh,a,b,tg,())) (b:=g4 3 (4,0,td,0,0,sd,od,p,q,sh,st,wh,a,b,tg,())) id 0 1073741824 (by kernel_rfl) (by kernel_rfl) t1
 obtain⟨t3,u3,w3⟩:=om (F:=dH WX) (a:=g4 3 (4,0,td,0,0,sd,od,p,q,sh,st,wh,a,b,tg,())) (b:=g4 4 (4,0,0,0,0,sd,od,p,q,sh,st,wh,a,b,tg,())) td 0 31 (by kernel_rfl) (by kernel_rfl) t2
 have hl:ag (dH WX) (g4 0 (4,sq,td,it,id,sd,od,p,q,sh,st,wh,a,b,tg,()) true)=some (((),t3,()),(4,0,0,0,0,sd,od,p,q,sh,st,wh,a,b,tg,()),(((),4,0,1073741824,()),((),1,0,7,()),((),4,0,1073741824,()),((),1,0,31,()),()),()):=by
  rw[u0,u1,u2,u3];exact kU (by kernel_rfl)
 cases ht:t3 with
 |false=>rw[ht] at hl;exact⟨false,by simp only[bf,hf,zdF,↓xl,hl,↓xo,Int.reduceEq,nB,zdG,zdH],λq=>by cases q⟩
 |true=>
  rw[ht] at hl;obtain⟨x3,y3⟩:=w3 ht;obtain⟨x2,y2⟩:=w2 x3;obtain⟨x1,y1⟩:=w1 x2;obtain⟨x0,y0⟩:=w0 x1;exact⟨_,by simp only[bf,hf,zdF,↓xl,hl,↓xo,Int.reduceEq,nB,zdG,zdH];rfl,λ_=>⟨y0,y1,y2,y3⟩⟩
theorem FM: ∃r,bf WX (((5,sq,td,it,id,sd,od,p,q,sh,st,wh,a,b,tg,()),()),())=some ((r,()),())/\(r=true->(0<=sq/\sq<=1073741824)/\(0<=it/\it<=7)/\(0<=id/\id<=1073741824)/\(0<=p/\p<=1073741824)/\(0<=q/\q<=1073741824)):=by
 have hf:dJ WX (((),()),((5,sq,td,it,id,sd,od,p,q,sh,st,wh,a,b,tg,()),()))=some (.inr (.inr (.inr (.inl (((),true,()),(5,sq,td,it,id,sd,od,p,q,sh,st,wh,a,b,tg,()),(((),4,0,1073741824,()),((),1,0,7,()),((),4,0,1073741824,()),((),4,0,1073741824,()),((),4,0,1073741824,()),()),()))))):=by kernel_rfl
 obtain⟨t0,u0,w0⟩:=om (F:=cO WX) (a:=g5 0 (5,sq,td,it,id,sd,od,p,q,sh,st,wh,a,b,tg,())) (b:=g5 1 (5,0,td,it,id,sd,od,p,q,sh,st,wh,a,b,tg,())) sq 0 1073741824 (by kernel_rfl) (by kernel_rfl) true
 obtain⟨t1,u1,w1⟩:=om (F:=cO WX) (a:=g5 1 (5,0,td,it,id,sd,od,p,q,sh,st,wh,a,b,tg,())) (b:=g5 2 (5,0,td,0,id,sd,od,p,q,sh,st,wh,a,b,tg,())) it 0 7 (by kernel_rfl) (by kernel_rfl) t0
 obtain⟨t2,u2,w2⟩:=om (F:=cO WX) (a:=g5 2 (5,0,td,0,id,sd,od,p,q,sh,st,wh,a,b,tg,())) (b:=g5 3 (5,0,td,0,0,sd,od,p,q,sh,st,wh,a,b,tg,())) id 0 1073741824 (by kernel_rfl) (by kernel_rfl) t1
 obtain⟨t3,u3,w3⟩:=om (F:=cO WX) (a:=g5 3 (5,0,td,0,0,sd,od,p,q,sh,st,wh,a,b,tg,())) (b:=g5 4 (5,0,td,0,0,sd,od,0,q,sh,st,wh,a,b,tg,())) p 0 1073741824 (by kernel_rfl) (by kernel_rfl) t2
 obtain⟨t4,u4,w4⟩:=om (F:=cO WX) (a:=g5 4 (5,0,td,0,0,sd,od,0,q,sh,st,wh,a,b,tg,())) (b:=g5 5 (5,0,td,0,0,sd,od,0,0,sh,st,wh,a,b,tg,())) q 0 1073741824 (by kernel_rfl) (by kernel_rfl) t3
 have hl:ag (cO WX) (g5 0 (5,sq,td,it,id,sd,od,p,q,sh,st,wh,a,b,tg,()) true)=some (((),t4,()),(5,0,td,0,0,sd,od,0,0,sh,st,wh,a,b,tg,()),(((),4,0,1073741824,()),((),1,0,7,()),((),4,0,1073741824,()),((),4,0,1073741824,()),((),4,0,1073741824,()),()),()):=by
  rw[u0,u1,u2,u3,u4];exact kU (by kernel_rfl)
 cases ht:t4 with
 |false=>rw[ht] at hl;exact⟨false,by simp only[bf,hf,zdF,↓xl,hl,↓xo,Int.reduceEq,nB,zdG,zdH],λq=>by cases q⟩
 |true=>
  rw[ht] at hl;obtain⟨x4,y4⟩:=w4 ht;obtain⟨x3,y3⟩:=w3 x4;obtain⟨x2,y2⟩:=w2 x3;obtain⟨x1,y1⟩:=w1 x2;obtain⟨x0,y0⟩:=w0 x1;exact⟨_,by simp only[bf,hf,zdF,↓xl,hl,↓xo,Int.reduceEq,nB,zdG,zdH];rfl,λ_=>⟨y0,y1,y2,y3,y4⟩⟩
theorem FN: ∃r,bf WX (((6,sq,td,it,id,sd,od,p,q,sh,st,wh,a,b,tg,()),()),())=some ((r,()),())/\(r=true->(0<=sq/\sq<=1073741824)/\(0<=it/\it<=8)/\(1<=wh/\wh<=3)):=by
 have hf:dJ WX (((),()),((6,sq,td,it,id,sd,od,p,q,sh,st,wh,a,b,tg,()),()))=some (.inr (.inr (.inr (.inr (.inl (((),true,()),(6,sq,td,it,id,sd,od,p,q,sh,st,wh,a,b,tg,()),(((),4,0,1073741824,()),((),1,0,8,()),((),1,1,3,()),()),())))))):=by kernel_rfl
 obtain⟨t0,u0,w0⟩:=om (F:=eU WX) (a:=g6 0 (6,sq,td,it,id,sd,od,p,q,sh,st,wh,a,b,tg,())) (b:=g6 1 (6,0,td,it,id,sd,od,p,q,sh,st,wh,a,b,tg,())) sq 0 1073741824 (by kernel_rfl) (by kernel_rfl) true
 obtain⟨t1,u1,w1⟩:=om (F:=eU WX) (a:=g6 1 (6,0,td,it,id,sd,od,p,q,sh,st,wh,a,b,tg,())) (b:=g6 2 (6,0,td,0,id,sd,od,p,q,sh,st,wh,a,b,tg,())) it 0 8 (by kernel_rfl) (by kernel_rfl) t0
 obtain⟨t2,u2,w2⟩:=om (F:=eU WX) (a:=g6 2 (6,0,td,0,id,sd,od,p,q,sh,st,wh,a,b,tg,())) (b:=g6 3 (6,0,td,0,id,sd,od,p,q,sh,st,0,a,b,tg,())) wh 1 3 (by kernel_rfl) (by kernel_rfl) t1
 have hl:ag (eU WX) (g6 0 (6,sq,td,it,id,sd,od,p,q,sh,st,wh,a,b,tg,()) true)=some (((),t2,()),(6,0,td,0,id,sd,od,p,q,sh,st,0,a,b,tg,()),(((),4,0,1073741824,()),((),1,0,8,()),((),1,1,3,()),()),()):=by
  rw[u0,u1,u2];exact kU (by kernel_rfl)
 cases ht:t2 with
 |false=>rw[ht] at hl;exact⟨false,by simp only[bf,hf,zdF,↓xl,hl,↓xo,Int.reduceEq,nB,zdG,zdH],λq=>by cases q⟩
 |true=>
  rw[ht] at hl;obtain⟨x2,y2⟩:=w2 ht;obtain⟨x1,y1⟩:=w1 x2;obtain⟨x0,y0⟩:=w0 x1;exact⟨_,by simp only[bf,hf,zdF,↓xl,hl,↓xo,Int.reduceEq,nB,zdG,zdH];rfl,λ_=>⟨y0,y1,y2⟩⟩
theorem FP: ∃r,bf WX (((9,sq,td,it,id,sd,od,p,q,sh,st,wh,a,b,tg,()),()),())=some ((r,()),())/\(r=true->(0<=sq/\sq<=1073741824)/\(1<=wh/\wh<=9)/\(0<=a/\a<=255)/\(0<=b/\b<=255)):=by
 have hf:dJ WX (((),()),((9,sq,td,it,id,sd,od,p,q,sh,st,wh,a,b,tg,()),()))=some (.inr (.inr (.inr (.inr (.inr (.inl (((),true,()),(9,sq,td,it,id,sd,od,p,q,sh,st,wh,a,b,tg,()),(((),4,0,1073741824,()),((),1,1,9,()),((),1,0,255,()),((),1,0,255,()),()),()))))))):=by kernel_rfl
 obtain⟨t0,u0,w0⟩:=om (F:=dI WX) (a:=g9 0 (9,sq,td,it,id,sd,od,p,q,sh,st,wh,a,b,tg,())) (b:=g9 1 (9,0,td,it,id,sd,od,p,q,sh,st,wh,a,b,tg,())) sq 0 1073741824 (by kernel_rfl) (by kernel_rfl) true
 obtain⟨t1,u1,w1⟩:=om (F:=dI WX) (a:=g9 1 (9,0,td,it,id,sd,od,p,q,sh,st,wh,a,b,tg,())) (b:=g9 2 (9,0,td,it,id,sd,od,p,q,sh,st,0,a,b,tg,())) wh 1 9 (by kernel_rfl) (by kernel_rfl) t0
 obtain⟨t2,u2,w2⟩:=om (F:=dI WX) (a:=g9 2 (9,0,td,it,id,sd,od,p,q,sh,st,0,a,b,tg,())) (b:=g9 3 (9,0,td,it,id,sd,od,p,q,sh,st,0,0,b,tg,())) a 0 255 (by kernel_rfl) (by kernel_rfl) t1
 obtain⟨t3,u3,w3⟩:=om (F:=dI WX) (a:=g9 3 (9,0,td,it,id,sd,od,p,q,sh,st,0,0,b,tg,())) (b:=g9 4 (9,0,td,it,id,sd,od,p,q,sh,st,0,0,0,tg,())) b 0 255 (by kernel_rfl) (by kernel_rfl) t2
 have hl:ag (dI WX) (g9 0 (9,sq,td,it,id,sd,od,p,q,sh,st,wh,a,b,tg,()) true)=some (((),t3,()),(9,0,td,it,id,sd,od,p,q,sh,st,0,0,0,tg,()),(((),4,0,1073741824,()),((),1,1,9,()),((),1,0,255,()),((),1,0,255,()),()),()):=by
  rw[u0,u1,u2,u3];exact kU (by kernel_rfl)
 cases ht:t3 with
 |false=>rw[ht] at hl;exact⟨false,by simp only[bf,hf,zdF,↓xl,hl,↓xo,Int.reduceEq,nB,zdG,zdH],λq=>by cases q⟩
 |true=>
  rw[ht] at hl;obtain⟨x3,y3⟩:=w3 ht;obtain⟨x2,y2⟩:=w2 x3;obtain⟨x1,y1⟩:=w1 x2;obtain⟨x0,y0⟩:=w0 x1;exact⟨_,by simp only[bf,hf,zdF,↓xl,hl,↓xo,Int.reduceEq,nB,zdG,zdH];rfl,λ_=>⟨y0,y1,y2,y3⟩⟩
theorem FQ: ∃r,bf WX (((2,sq,td,it,id,sd,od,p,q,sh,st,wh,a,b,tg,()),()),())=some ((r,()),()):=by
 have hf:dJ WX (((),()),((2,sq,td,it,id,sd,od,p,q,sh,st,wh,a,b,tg,()),()))=some (.inr (.inr (.inr (.inr (.inr (.inr (((),true,()),(2,sq,td,it,id,sd,od,p,q,sh,st,wh,a,b,tg,()),()))))))):=by kernel_rfl
 have hl:ag (gh WX) (((),true,(),0,0,()),(2,sq,td,it,id,sd,od,p,q,sh,st,wh,a,b,tg,()),())=some (((),true,()),(2,sq,td,it,id,sd,od,p,q,sh,st,wh,a,b,tg,()),()):=kU (by simp only[gh,↓xo,aV (show¬(0:Int)<0 by omega),nB,zdG])
 exact⟨_,by simp only[bf,hf,zdF,↓xl,hl,↓xo,eq_self,Int.reduceEq,iX,nB,zdH,zdG];rfl⟩
theorem FR: ∃r,bf WX (((7,sq,td,it,id,sd,od,p,q,sh,st,wh,a,b,tg,()),()),())=some ((r,()),()):=by
 have hf:dJ WX (((),()),((7,sq,td,it,id,sd,od,p,q,sh,st,wh,a,b,tg,()),()))=some (.inr (.inr (.inr (.inr (.inr (.inr (((),true,()),(7,sq,td,it,id,sd,od,p,q,sh,st,wh,a,b,tg,()),()))))))):=by kernel_rfl
 have hl:ag (gh WX) (((),true,(),0,0,()),(7,sq,td,it,id,sd,od,p,q,sh,st,wh,a,b,tg,()),())=some (((),true,()),(7,sq,td,it,id,sd,od,p,q,sh,st,wh,a,b,tg,()),()):=kU (by simp only[gh,↓xo,aV (show¬(0:Int)<0 by omega),nB,zdG])
 exact⟨_,by simp only[bf,hf,zdF,↓xl,hl,↓xo,eq_self,Int.reduceEq,iX,nB,zdH,zdG];rfl⟩
theorem FT: ∃r,bf WX (((8,sq,td,it,id,sd,od,p,q,sh,st,wh,a,b,tg,()),()),())=some ((r,()),()):=by
 have hf:dJ WX (((),()),((8,sq,td,it,id,sd,od,p,q,sh,st,wh,a,b,tg,()),()))=some (.inr (.inr (.inr (.inr (.inr (.inr (((),true,()),(8,sq,td,it,id,sd,od,p,q,sh,st,wh,a,b,tg,()),()))))))):=by kernel_rfl
 have hl:ag (gh WX) (((),true,(),0,0,()),(8,sq,td,it,id,sd,od,p,q,sh,st,wh,a,b,tg,()),())=some (((),true,()),(8,sq,td,it,id,sd,od,p,q,sh,st,wh,a,b,tg,()),()):=kU (by simp only[gh,↓xo,aV (show¬(0:Int)<0 by omega),nB,zdG])
 exact⟨_,by simp only[bf,hf,zdF,↓xl,hl,↓xo,eq_self,Int.reduceEq,iX,nB,zdH,zdG];rfl⟩
theorem Pr {kd:Int}(h1: ¬kd=1)(h2: ¬kd=2)(h3: ¬kd=3)(h4: ¬kd=4)(h5: ¬kd=5)(h6: ¬kd=6)(h7: ¬kd=7)(h8: ¬kd=8)(h9: ¬kd=9):dJ WX (((),()),((kd,sq,td,it,id,sd,od,p,q,sh,st,wh,a,b,tg,()),()))=some (.inr (.inr (.inr (.inr (.inr (.inr (((),false,()),(kd,sq,td,it,id,sd,od,p,q,sh,st,wh,a,b,tg,()),()))))))):=by
 simp only[dJ,pF,lV,lW,lX,oJ,lY,zdF,↓xo,aV h1,aV h2,aV h3,aV h4,aV h5,aV h6,aV h7,aV h8,aV h9,zdG]
theorem UB {kd:Int}(h1: ¬kd=1)(h2: ¬kd=2)(h3: ¬kd=3)(h4: ¬kd=4)(h5: ¬kd=5)(h6: ¬kd=6)(h7: ¬kd=7)(h8: ¬kd=8)(h9: ¬kd=9):bf WX (((kd,sq,td,it,id,sd,od,p,q,sh,st,wh,a,b,tg,()),()),())=some ((false,()),()):=by
 have hf:=Pr sq td it id sd od p q sh st wh a b tg h1 h2 h3 h4 h5 h6 h7 h8 h9;have hl:ag (gh WX) (((),false,(),0,0,()),(kd,sq,td,it,id,sd,od,p,q,sh,st,wh,a,b,tg,()),())=some (((),false,()),(kd,sq,td,it,id,sd,od,p,q,sh,st,wh,a,b,tg,()),()):=kU (by simp only[gh,↓xo,aV (show¬(0:Int)<0 by omega),nB,zdG])
 simp only[bf,hf,zdF,↓xl,hl,↓xo,aV h2,zdG]
end
abbrev q1 (k:Int)(r:nY)(c:mZ):kJ.D:=(((),(),(),(),1,k,()),(0,0,0,0,0,0,0,0,0,0,0,0,0,0,hY,()),r,c,(((),1,0,31,()),()),())
theorem zcj {b:List Int}(hb:b.length<=1000000){r0:nY}(hu:aF WX (((),()),((b,0,false,()),()))=some ((1,()),(r0,())))(o0:wm r0):GB b:=by
 have hr:=qu b hb;have hf:dJ WX (((),()),((1,0,0,0,0,0,0,0,0,0,0,0,0,0,hY,()),()))=some (.inl (((),true,()),(1,0,0,0,0,0,0,0,0,0,0,0,0,0,hY,()),(((),1,0,31,()),()),())):=by kernel_rfl
 obtain⟨x0,r1,e0,o1⟩:=so o0;have u0:=stepG (F:=kJ WX) (l:=q1 0 r0 (1,0,0,0,0,0,0,0,0,0,0,0,0,0,hY,())) (l':=q1 1 r1 (1,0,x0,0,0,0,0,0,0,0,0,0,0,0,hY,())) rfl e0 rfl;have hl:ag (kJ WX) (q1 0 r0 (1,0,0,0,0,0,0,0,0,0,0,0,0,0,hY,()))=some (((),(),(),()),(0,0,0,0,0,0,0,0,0,0,0,0,0,0,hY,()),r1,(1,0,x0,0,0,0,0,0,0,0,0,0,0,0,hY,()),(((),1,0,31,()),()),()):=by
  rw[u0];exact kU (by kernel_rfl)
 obtain⟨z,hE⟩:=sA r1;obtain⟨g,hR,hF⟩:=FJ 0 x0 0 0 0 0 0 0 0 0 0 0 0 hY;cases z with
 |false=>exact⟨_,false,by simp only[fD,hr,hu,hf,zdF,↓xl,hl,↓xo,Int.reduceEq,nB,zdG,zdH,hE,zdJ,zdK];rfl,λq=>by cases q⟩
 |true=>
  cases g with
  |false=>exact⟨_,false,by simp only[fD,hr,hu,hf,zdF,↓xl,hl,↓xo,Int.reduceEq,nB,zdG,zdH,hE,zdJ,zdK,hR];rfl,λq=>by cases q⟩
  |true=>
   have hF:=hF rfl;exact⟨(1,0,x0,0,0,0,0,0,0,0,0,0,0,0,hY,()),true,by simp only[fD,hr,hu,hf,zdF,↓xl,hl,↓xo,Int.reduceEq,nB,zdG,zdH,hE,zdJ,zdK,hR],λ_=>⟨hR,by simp,λ_=>hF,λq=>by simp at q,λq=>by simp at q⟩⟩
abbrev q3 (k:Int)(r:nY)(c:mZ):gC.D:=(((),(),(),(),9,k,()),(0,0,0,0,0,0,0,0,0,0,0,0,0,0,hY,()),r,c,(((),4,0,1073741824,()),((),1,0,7,()),((),4,0,1073741824,()),((),1,0,255,()),((),1,0,255,()),((),4,0,1073741824,()),((),4,0,1073741824,()),((),4,0,1073741824,()),((),4,0,1073741824,()),()),())
theorem zck {b:List Int}(hb:b.length<=1000000){r0:nY}(hu:aF WX (((),()),((b,0,false,()),()))=some ((3,()),(r0,())))(o0:wm r0):GB b:=by
 have hr:=qu b hb;have hf:dJ WX (((),()),((3,0,0,0,0,0,0,0,0,0,0,0,0,0,hY,()),()))=some (.inr (.inl (((),true,()),(3,0,0,0,0,0,0,0,0,0,0,0,0,0,hY,()),(((),4,0,1073741824,()),((),1,0,7,()),((),4,0,1073741824,()),((),1,0,255,()),((),1,0,255,()),((),4,0,1073741824,()),((),4,0,1073741824,()),((),4,0,1073741824,()),((),4,0,1073741824,()),()),()))):=by kernel_rfl
 obtain⟨x0,r1,e0,o1⟩:=nA o0;obtain⟨x1,r2,e1,o2⟩:=so o1;obtain⟨x2,r3,e2,o3⟩:=nA o2;obtain⟨x3,r4,e3,o4⟩:=so o3;obtain⟨x4,r5,e4,o5⟩:=so o4;obtain⟨x5,r6,e5,o6⟩:=nA o5;obtain⟨x6,r7,e6,o7⟩:=nA o6;obtain⟨x7,r8,e7,o8⟩:=nA o7;obtain⟨x8,r9,e8,o9⟩:=nA o8;have u0:=stepG (F:=gC WX) (l:=q3 0 r0 (3,0,0,0,0,0,0,0,0,0,0,0,0,0,hY,())) (l':=q3 1 r1 (3,i64.wrap x0,0,0,0,0,0,0,0,0,0,0,0,0,hY,())) rfl e0 rfl;have u1:=stepG (F:=gC WX) (l:=q3 1 r1 (3,i64.wrap x0,0,0,0,0,0,0,0,0,0,0,0,0,hY,())) (l':=q3 2 r2 (3,i64.wrap x0,0,x1,0,0,0,0,0,0,0,0,0,0,hY,())) rfl e1 rfl;have u2:=stepG (F:=gC WX) (l:=q3 2 r2 (3,i64.wrap x0,0,x1,0,0,0,0,0,0,0,0,0,0,hY,())) (l':=q3 3 r3 (3,i64.wrap x0,0,x1,i64.wrap x2,0,0,0,0,0,0,0,0,0,hY,())) rfl e2 rfl;have u3:=stepG (F:=gC WX) (l:=q3 3 r3 (3,i64.wrap x0,0,x1,i64.wrap x2,0,0,0,0,0,0,0,0,0,hY,())) (l':=q3 4 r4 (3,i64.wrap x0,0,x1,i64.wrap x2,x3,0,0,0,0,0,0,0,0,hY,())) rfl e3 rfl;have u4:=stepG (F:=gC WX) (l:=q3 4 r4 (3,i64.wrap x0,0,x1,i64.wrap x2,x3,0,0,0,0,0,0,0,0,hY,())) (l':=q3 5 r5 (3,i64.wrap x0,0,x1,i64.wrap x2,x3,x4,0,0,0,0,0,0,0,hY,())) rfl e4 rfl;have u5:=stepG (F:=gC WX) (l:=q3 5 r5 (3,i64.wrap x0,0,x1,i64.wrap x2,x3,x4,0,0,0,0,0,0,0,hY,())) (l':=q3 6 r6 (3,i64.wrap x0,0,x1,i64.wrap x2,x3,x4,i64.wrap x5,0,0,0,0,0,0,hY,())) rfl e5 rfl;have u6:=stepG (F:=gC WX) (l:=q3 6 r6 (3,i64.wrap x0,0,x1,i64.wrap x2,x3,x4,i64.wrap x5,0,0,0,0,0,0,hY,())) (l':=q3 7 r7 (3,i64.wrap x0,0,x1,i64.wrap x2,x3,x4,i64.wrap x5,i64.wrap x6,0,0,0,0,0,hY,())) rfl e6 rfl;have u7:=stepG (F:=gC WX) (l:=q3 7 r7 (3,i64.wrap x0,0,x1,i64.wrap x2,x3,x4,i64.wrap x5,i64.wrap x6,0,0,0,0,0,hY,())) (l':=q3 8 r8 (3,i64.wrap x0,0,x1,i64.wrap x2,x3,x4,i64.wrap x5,i64.wrap x6,i64.wrap x7,0,0,0,0,hY,())) rfl e7 rfl;have u8:=stepG (F:=gC WX) (l:=q3 8 r8 (3,i64.wrap x0,0,x1,i64.wrap x2,x3,x4,i64.wrap x5,i64.wrap x6,i64.wrap x7,0,0,0,0,hY,())) (l':=q3 9 r9 (3,i64.wrap x0,0,x1,i64.wrap x2,x3,x4,i64.wrap x5,i64.wrap x6,i64.wrap x7,i64.wrap x8,0,0,0,hY,())) rfl e8 rfl;have hl:ag (gC WX) (q3 0 r0 (3,0,0,0,0,0,0,0,0,0,0,0,0,0,hY,()))=some (((),(),(),()),(0,0,0,0,0,0,0,0,0,0,0,0,0,0,hY,()),r9,(3,i64.wrap x0,0,x1,i64.wrap x2,x3,x4,i64.wrap x5,i64.wrap x6,i64.wrap x7,i64.wrap x8,0,0,0,hY,()),(((),4,0,1073741824,()),((),1,0,7,()),((),4,0,1073741824,()),((),1,0,255,()),((),1,0,255,()),((),4,0,1073741824,()),((),4,0,1073741824,()),((),4,0,1073741824,()),((),4,0,1073741824,()),()),()):=by
  rw[u0,u1,u2,u3,u4,u5,u6,u7,u8];exact kU (by kernel_rfl)
 obtain⟨z,hE⟩:=sA r9;obtain⟨g,hR,hF⟩:=FK (i64.wrap x0) 0 x1 (i64.wrap x2) x3 x4 (i64.wrap x5) (i64.wrap x6) (i64.wrap x7) (i64.wrap x8) 0 0 0 hY;cases z with
 |false=>exact⟨_,false,by simp only[fD,hr,hu,hf,zdF,↓xl,hl,↓xo,Int.reduceEq,nB,zdG,zdH,hE,zdJ,zdK];rfl,λq=>by cases q⟩
 |true=>
  cases g with
  |false=>exact⟨_,false,by simp only[fD,hr,hu,hf,zdF,↓xl,hl,↓xo,Int.reduceEq,nB,zdG,zdH,hE,zdJ,zdK,hR];rfl,λq=>by cases q⟩
  |true=>
   have hF:=hF rfl;exact⟨(3,i64.wrap x0,0,x1,i64.wrap x2,x3,x4,i64.wrap x5,i64.wrap x6,i64.wrap x7,i64.wrap x8,0,0,0,hY,()),true,by simp only[fD,hr,hu,hf,zdF,↓xl,hl,↓xo,Int.reduceEq,nB,zdG,zdH,hE,zdJ,zdK,hR],λ_=>⟨hR,by simp,λq=>by simp at q,λq=>by simp at q,λ_=>⟨.inl rfl,⟨hF.2.1.1,zfn hF.2.1.2 (by decide),λ_=>hF.2.1.2⟩,λq=>by simp at q,zeL _,zeL _⟩⟩⟩
abbrev q4 (k:Int)(r:nY)(c:mZ):iN.D:=(((),(),(),(),4,k,()),(0,0,0,0,0,0,0,0,0,0,0,0,0,0,hY,()),r,c,(((),4,0,1073741824,()),((),1,0,7,()),((),4,0,1073741824,()),((),1,0,31,()),()),())
theorem zcl {b:List Int}(hb:b.length<=1000000){r0:nY}(hu:aF WX (((),()),((b,0,false,()),()))=some ((4,()),(r0,())))(o0:wm r0):GB b:=by
 have hr:=qu b hb;have hf:dJ WX (((),()),((4,0,0,0,0,0,0,0,0,0,0,0,0,0,hY,()),()))=some (.inr (.inr (.inl (((),true,()),(4,0,0,0,0,0,0,0,0,0,0,0,0,0,hY,()),(((),4,0,1073741824,()),((),1,0,7,()),((),4,0,1073741824,()),((),1,0,31,()),()),())))):=by kernel_rfl
 obtain⟨x0,r1,e0,o1⟩:=nA o0;obtain⟨x1,r2,e1,o2⟩:=so o1;obtain⟨x2,r3,e2,o3⟩:=nA o2;obtain⟨x3,r4,e3,o4⟩:=so o3;have u0:=stepG (F:=iN WX) (l:=q4 0 r0 (4,0,0,0,0,0,0,0,0,0,0,0,0,0,hY,())) (l':=q4 1 r1 (4,i64.wrap x0,0,0,0,0,0,0,0,0,0,0,0,0,hY,())) rfl e0 rfl;have u1:=stepG (F:=iN WX) (l:=q4 1 r1 (4,i64.wrap x0,0,0,0,0,0,0,0,0,0,0,0,0,hY,())) (l':=q4 2 r2 (4,i64.wrap x0,0,x1,0,0,0,0,0,0,0,0,0,0,hY,())) rfl e1 rfl;have u2:=stepG (F:=iN WX) (l:=q4 2 r2 (4,i64.wrap x0,0,x1,0,0,0,0,0,0,0,0,0,0,hY,())) (l':=q4 3 r3 (4,i64.wrap x0,0,x1,i64.wrap x2,0,0,0,0,0,0,0,0,0,hY,())) rfl e2 rfl;have u3:=stepG (F:=iN WX) (l:=q4 3 r3 (4,i64.wrap x0,0,x1,i64.wrap x2,0,0,0,0,0,0,0,0,0,hY,())) (l':=q4 4 r4 (4,i64.wrap x0,x3,x1,i64.wrap x2,0,0,0,0,0,0,0,0,0,hY,())) rfl e3 rfl;have hl:ag (iN WX) (q4 0 r0 (4,0,0,0,0,0,0,0,0,0,0,0,0,0,hY,()))=some (((),(),(),()),(0,0,0,0,0,0,0,0,0,0,0,0,0,0,hY,()),r4,(4,i64.wrap x0,x3,x1,i64.wrap x2,0,0,0,0,0,0,0,0,0,hY,()),(((),4,0,1073741824,()),((),1,0,7,()),((),4,0,1073741824,()),((),1,0,31,()),()),()):=by
  rw[u0,u1,u2,u3];exact kU (by kernel_rfl)
 obtain⟨z,hE⟩:=sA r4;obtain⟨g,hR,hF⟩:=FL (i64.wrap x0) x3 x1 (i64.wrap x2) 0 0 0 0 0 0 0 0 0 hY;cases z with
 |false=>exact⟨_,false,by simp only[fD,hr,hu,hf,zdF,↓xl,hl,↓xo,Int.reduceEq,nB,zdG,zdH,hE,zdJ,zdK];rfl,λq=>by cases q⟩
 |true=>
  cases g with
  |false=>exact⟨_,false,by simp only[fD,hr,hu,hf,zdF,↓xl,hl,↓xo,Int.reduceEq,nB,zdG,zdH,hE,zdJ,zdK,hR];rfl,λq=>by cases q⟩
  |true=>
   have hF:=hF rfl;exact⟨(4,i64.wrap x0,x3,x1,i64.wrap x2,0,0,0,0,0,0,0,0,0,hY,()),true,by simp only[fD,hr,hu,hf,zdF,↓xl,hl,↓xo,Int.reduceEq,nB,zdG,zdH,hE,zdJ,zdK,hR],λ_=>⟨hR,by simp,λq=>by simp at q,λq=>by simp at q,λ_=>⟨.inr (.inl rfl),⟨hF.2.1.1,zfn hF.2.1.2 (by decide),λ_=>hF.2.1.2⟩,λq=>by simp at q,zeL _,zeL _⟩⟩⟩
abbrev q5 (k:Int)(r:nY)(c:mZ):iF.D:=(((),(),(),(),5,k,()),(0,0,0,0,0,0,0,0,0,0,0,0,0,0,hY,()),r,c,(((),4,0,1073741824,()),((),1,0,7,()),((),4,0,1073741824,()),((),4,0,1073741824,()),((),4,0,1073741824,()),()),())
theorem zcm {b:List Int}(hb:b.length<=1000000){r0:nY}(hu:aF WX (((),()),((b,0,false,()),()))=some ((5,()),(r0,())))(o0:wm r0):GB b:=by
 have hr:=qu b hb;have hf:dJ WX (((),()),((5,0,0,0,0,0,0,0,0,0,0,0,0,0,hY,()),()))=some (.inr (.inr (.inr (.inl (((),true,()),(5,0,0,0,0,0,0,0,0,0,0,0,0,0,hY,()),(((),4,0,1073741824,()),((),1,0,7,()),((),4,0,1073741824,()),((),4,0,1073741824,()),((),4,0,1073741824,()),()),()))))):=by kernel_rfl
 obtain⟨x0,r1,e0,o1⟩:=nA o0;obtain⟨x1,r2,e1,o2⟩:=so o1;obtain⟨x2,r3,e2,o3⟩:=nA o2;obtain⟨x3,r4,e3,o4⟩:=nA o3;obtain⟨x4,r5,e4,o5⟩:=nA o4;have u0:=stepG (F:=iF WX) (l:=q5 0 r0 (5,0,0,0,0,0,0,0,0,0,0,0,0,0,hY,())) (l':=q5 1 r1 (5,i64.wrap x0,0,0,0,0,0,0,0,0,0,0,0,0,hY,())) rfl e0 rfl;have u1:=stepG (F:=iF WX) (l:=q5 1 r1 (5,i64.wrap x0,0,0,0,0,0,0,0,0,0,0,0,0,hY,())) (l':=q5 2 r2 (5,i64.wrap x0,0,x1,0,0,0,0,0,0,0,0,0,0,hY,())) rfl e1 rfl;have u2:=stepG (F:=iF WX) (l:=q5 2 r2 (5,i64.wrap x0,0,x1,0,0,0,0,0,0,0,0,0,0,hY,())) (l':=q5 3 r3 (5,i64.wrap x0,0,x1,i64.wrap x2,0,0,0,0,0,0,0,0,0,hY,())) rfl e2 rfl;have u3:=stepG (F:=iF WX) (l:=q5 3 r3 (5,i64.wrap x0,0,x1,i64.wrap x2,0,0,0,0,0,0,0,0,0,hY,())) (l':=q5 4 r4 (5,i64.wrap x0,0,x1,i64.wrap x2,0,0,i64.wrap x3,0,0,0,0,0,0,hY,())) rfl e3 rfl;have u4:=stepG (F:=iF WX) (l:=q5 4 r4 (5,i64.wrap x0,0,x1,i64.wrap x2,0,0,i64.wrap x3,0,0,0,0,0,0,hY,())) (l':=q5 5 r5 (5,i64.wrap x0,0,x1,i64.wrap x2,0,0,i64.wrap x3,i64.wrap x4,0,0,0,0,0,hY,())) rfl e4 rfl;have hl:ag (iF WX) (q5 0 r0 (5,0,0,0,0,0,0,0,0,0,0,0,0,0,hY,()))=some (((),(),(),()),(0,0,0,0,0,0,0,0,0,0,0,0,0,0,hY,()),r5,(5,i64.wrap x0,0,x1,i64.wrap x2,0,0,i64.wrap x3,i64.wrap x4,0,0,0,0,0,hY,()),(((),4,0,1073741824,()),((),1,0,7,()),((),4,0,1073741824,()),((),4,0,1073741824,()),((),4,0,1073741824,()),()),()):=by
  rw[u0,u1,u2,u3,u4];exact kU (by kernel_rfl)
 obtain⟨z,hE⟩:=sA r5;obtain⟨g,hR,hF⟩:=FM (i64.wrap x0) 0 x1 (i64.wrap x2) 0 0 (i64.wrap x3) (i64.wrap x4) 0 0 0 0 0 hY;cases z with
 |false=>exact⟨_,false,by simp only[fD,hr,hu,hf,zdF,↓xl,hl,↓xo,Int.reduceEq,nB,zdG,zdH,hE,zdJ,zdK];rfl,λq=>by cases q⟩
 |true=>
  cases g with
  |false=>exact⟨_,false,by simp only[fD,hr,hu,hf,zdF,↓xl,hl,↓xo,Int.reduceEq,nB,zdG,zdH,hE,zdJ,zdK,hR];rfl,λq=>by cases q⟩
  |true=>
   have hF:=hF rfl;exact⟨(5,i64.wrap x0,0,x1,i64.wrap x2,0,0,i64.wrap x3,i64.wrap x4,0,0,0,0,0,hY,()),true,by simp only[fD,hr,hu,hf,zdF,↓xl,hl,↓xo,Int.reduceEq,nB,zdG,zdH,hE,zdJ,zdK,hR],λ_=>⟨hR,by simp,λq=>by simp at q,λq=>by simp at q,λ_=>⟨.inr (.inr (.inl rfl)),⟨hF.2.1.1,zfn hF.2.1.2 (by decide),λ_=>hF.2.1.2⟩,λq=>by simp at q,zeL _,zeL _⟩⟩⟩
abbrev q6 (k:Int)(r:nY)(c:mZ):jg.D:=(((),(),(),(),3,k,()),(0,0,0,0,0,0,0,0,0,0,0,0,0,0,hY,()),r,c,(((),4,0,1073741824,()),((),1,0,8,()),((),1,1,3,()),()),())
theorem zcn {b:List Int}(hb:b.length<=1000000){r0:nY}(hu:aF WX (((),()),((b,0,false,()),()))=some ((6,()),(r0,())))(o0:wm r0):GB b:=by
 have hr:=qu b hb;have hf:dJ WX (((),()),((6,0,0,0,0,0,0,0,0,0,0,0,0,0,hY,()),()))=some (.inr (.inr (.inr (.inr (.inl (((),true,()),(6,0,0,0,0,0,0,0,0,0,0,0,0,0,hY,()),(((),4,0,1073741824,()),((),1,0,8,()),((),1,1,3,()),()),())))))):=by kernel_rfl
 obtain⟨x0,r1,e0,o1⟩:=nA o0;obtain⟨x1,r2,e1,o2⟩:=so o1;obtain⟨x2,r3,e2,o3⟩:=so o2;have u0:=stepG (F:=jg WX) (l:=q6 0 r0 (6,0,0,0,0,0,0,0,0,0,0,0,0,0,hY,())) (l':=q6 1 r1 (6,i64.wrap x0,0,0,0,0,0,0,0,0,0,0,0,0,hY,())) rfl e0 rfl;have u1:=stepG (F:=jg WX) (l:=q6 1 r1 (6,i64.wrap x0,0,0,0,0,0,0,0,0,0,0,0,0,hY,())) (l':=q6 2 r2 (6,i64.wrap x0,0,x1,0,0,0,0,0,0,0,0,0,0,hY,())) rfl e1 rfl;have u2:=stepG (F:=jg WX) (l:=q6 2 r2 (6,i64.wrap x0,0,x1,0,0,0,0,0,0,0,0,0,0,hY,())) (l':=q6 3 r3 (6,i64.wrap x0,0,x1,0,0,0,0,0,0,0,x2,0,0,hY,())) rfl e2 rfl;have hl:ag (jg WX) (q6 0 r0 (6,0,0,0,0,0,0,0,0,0,0,0,0,0,hY,()))=some (((),(),(),()),(0,0,0,0,0,0,0,0,0,0,0,0,0,0,hY,()),r3,(6,i64.wrap x0,0,x1,0,0,0,0,0,0,0,x2,0,0,hY,()),(((),4,0,1073741824,()),((),1,0,8,()),((),1,1,3,()),()),()):=by
  rw[u0,u1,u2];exact kU (by kernel_rfl)
 obtain⟨z,hE⟩:=sA r3;obtain⟨g,hR,hF⟩:=FN (i64.wrap x0) 0 x1 0 0 0 0 0 0 0 x2 0 0 hY;cases z with
 |false=>exact⟨_,false,by simp only[fD,hr,hu,hf,zdF,↓xl,hl,↓xo,Int.reduceEq,nB,zdG,zdH,hE,zdJ,zdK];rfl,λq=>by cases q⟩
 |true=>
  cases g with
  |false=>exact⟨_,false,by simp only[fD,hr,hu,hf,zdF,↓xl,hl,↓xo,Int.reduceEq,nB,zdG,zdH,hE,zdJ,zdK,hR];rfl,λq=>by cases q⟩
  |true=>
   have hF:=hF rfl;exact⟨(6,i64.wrap x0,0,x1,0,0,0,0,0,0,0,x2,0,0,hY,()),true,by simp only[fD,hr,hu,hf,zdF,↓xl,hl,↓xo,Int.reduceEq,nB,zdG,zdH,hE,zdJ,zdK,hR],λ_=>⟨hR,by simp,λq=>by simp at q,λq=>by simp at q,λ_=>⟨.inr (.inr (.inr (.inl rfl))),⟨hF.2.1.1,hF.2.1.2,λq=>absurd rfl q⟩,λq=>by simp at q,zeL _,zeL _⟩⟩⟩
abbrev q9 (k:Int)(r:nY)(c:mZ):iO.D:=(((),(),(),(),4,k,()),(0,0,0,0,0,0,0,0,0,0,0,0,0,0,hY,()),r,c,(((),4,0,1073741824,()),((),1,1,9,()),((),1,0,255,()),((),1,0,255,()),()),())
theorem zco {b:List Int}(hb:b.length<=1000000){r0:nY}(hu:aF WX (((),()),((b,0,false,()),()))=some ((9,()),(r0,())))(o0:wm r0):GB b:=by
 have hr:=qu b hb;have hf:dJ WX (((),()),((9,0,0,0,0,0,0,0,0,0,0,0,0,0,hY,()),()))=some (.inr (.inr (.inr (.inr (.inr (.inl (((),true,()),(9,0,0,0,0,0,0,0,0,0,0,0,0,0,hY,()),(((),4,0,1073741824,()),((),1,1,9,()),((),1,0,255,()),((),1,0,255,()),()),()))))))):=by kernel_rfl
 obtain⟨x0,r1,e0,o1⟩:=nA o0;obtain⟨x1,r2,e1,o2⟩:=so o1;obtain⟨x2,r3,e2,o3⟩:=so o2;obtain⟨x3,r4,e3,o4⟩:=so o3;have u0:=stepG (F:=iO WX) (l:=q9 0 r0 (9,0,0,0,0,0,0,0,0,0,0,0,0,0,hY,())) (l':=q9 1 r1 (9,i64.wrap x0,0,0,0,0,0,0,0,0,0,0,0,0,hY,())) rfl e0 rfl;have u1:=stepG (F:=iO WX) (l:=q9 1 r1 (9,i64.wrap x0,0,0,0,0,0,0,0,0,0,0,0,0,hY,())) (l':=q9 2 r2 (9,i64.wrap x0,0,0,0,0,0,0,0,0,0,x1,0,0,hY,())) rfl e1 rfl;have u2:=stepG (F:=iO WX) (l:=q9 2 r2 (9,i64.wrap x0,0,0,0,0,0,0,0,0,0,x1,0,0,hY,())) (l':=q9 3 r3 (9,i64.wrap x0,0,0,0,0,0,0,0,0,0,x1,x2,0,hY,())) rfl e2 rfl;have u3:=stepG (F:=iO WX) (l:=q9 3 r3 (9,i64.wrap x0,0,0,0,0,0,0,0,0,0,x1,x2,0,hY,())) (l':=q9 4 r4 (9,i64.wrap x0,0,0,0,0,0,0,0,0,0,x1,x2,x3,hY,())) rfl e3 rfl;have hl:ag (iO WX) (q9 0 r0 (9,0,0,0,0,0,0,0,0,0,0,0,0,0,hY,()))=some (((),(),(),()),(0,0,0,0,0,0,0,0,0,0,0,0,0,0,hY,()),r4,(9,i64.wrap x0,0,0,0,0,0,0,0,0,0,x1,x2,x3,hY,()),(((),4,0,1073741824,()),((),1,1,9,()),((),1,0,255,()),((),1,0,255,()),()),()):=by
  rw[u0,u1,u2,u3];exact kU (by kernel_rfl)
 obtain⟨z,hE⟩:=sA r4;obtain⟨g,hR,hF⟩:=FP (i64.wrap x0) 0 0 0 0 0 0 0 0 0 x1 x2 x3 hY;cases z with
 |false=>exact⟨_,false,by simp only[fD,hr,hu,hf,zdF,↓xl,hl,↓xo,Int.reduceEq,nB,zdG,zdH,hE,zdJ,zdK];rfl,λq=>by cases q⟩
 |true=>
  cases g with
  |false=>exact⟨_,false,by simp only[fD,hr,hu,hf,zdF,↓xl,hl,↓xo,Int.reduceEq,nB,zdG,zdH,hE,zdJ,zdK,hR];rfl,λq=>by cases q⟩
  |true=>
   have hF:=hF rfl;exact⟨(9,i64.wrap x0,0,0,0,0,0,0,0,0,0,x1,x2,x3,hY,()),true,by simp only[fD,hr,hu,hf,zdF,↓xl,hl,↓xo,Int.reduceEq,nB,zdG,zdH,hE,zdJ,zdK,hR],λ_=>⟨hR,by simp,λq=>by simp at q,λq=>by simp at q,λ_=>⟨.inr (.inr (.inr (.inr rfl))),⟨zeL _,(by show(0:Int)<=8;decide),λ_=>(by show(0:Int)<=7;decide)⟩,λ_=>hF.2.1,hF.2.2.1.1,hF.2.2.2.1⟩⟩⟩
theorem zcp {b:List Int}(hb:b.length<=1000000){r0:nY}(hu:aF WX (((),()),((b,0,false,()),()))=some ((2,()),(r0,())))(o0:wm r0):GB b:=by
 have hr:=qu b hb;have hf:dJ WX (((),()),((2,0,0,0,0,0,0,0,0,0,0,0,0,0,hY,()),()))=some (.inr (.inr (.inr (.inr (.inr (.inr (((),true,()),(2,0,0,0,0,0,0,0,0,0,0,0,0,0,hY,()),()))))))):=by kernel_rfl
 have hl:ag (ig WX) (((),(),(),(),0,0,()),(0,0,0,0,0,0,0,0,0,0,0,0,0,0,hY,()),r0,(2,0,0,0,0,0,0,0,0,0,0,0,0,0,hY,()),())=some (((),(),(),()),(0,0,0,0,0,0,0,0,0,0,0,0,0,0,hY,()),r0,(2,0,0,0,0,0,0,0,0,0,0,0,0,0,hY,()),()):=kU (by simp only[ig,↓xo,aV (show¬(0:Int)<0 by omega),nB,zdG])
 obtain⟨l,r1,hS,o1,hL⟩:=Xb o0;obtain⟨z,hE⟩:=sA r1;obtain⟨g,hR⟩:=FQ 0 0 0 0 0 0 0 0 0 0 0 0 0 l;cases z with
 |false=>exact⟨_,false,by simp only[fD,hr,hu,hf,zdF,↓xl,hl,↓xo,eq_self,Int.reduceEq,iX,nB,zdG,zdH,hE,zdJ,zdK,hS];rfl,λq=>by cases q⟩
 |true=>
  cases g with
  |false=>exact⟨_,false,by simp only[fD,hr,hu,hf,zdF,↓xl,hl,↓xo,eq_self,Int.reduceEq,iX,nB,zdG,zdH,hE,zdJ,zdK,hS,hR];rfl,λq=>by cases q⟩
  |true=>exact⟨(2,0,0,0,0,0,0,0,0,0,0,0,0,0,l,()),true,by simp only[fD,hr,hu,hf,zdF,↓xl,hl,↓xo,eq_self,Int.reduceEq,iX,nB,zdG,zdH,hE,zdJ,zdK,hS,hR],λ_=>⟨hR,by simp,λq=>by simp at q,λ_=>hL,λq=>by simp at q⟩⟩
theorem zcq {b:List Int}(hb:b.length<=1000000){r0:nY}(hu:aF WX (((),()),((b,0,false,()),()))=some ((7,()),(r0,())))(o0:wm r0):GB b:=by
 have hr:=qu b hb;have hf:dJ WX (((),()),((7,0,0,0,0,0,0,0,0,0,0,0,0,0,hY,()),()))=some (.inr (.inr (.inr (.inr (.inr (.inr (((),true,()),(7,0,0,0,0,0,0,0,0,0,0,0,0,0,hY,()),()))))))):=by kernel_rfl
 have hl:ag (ig WX) (((),(),(),(),0,0,()),(0,0,0,0,0,0,0,0,0,0,0,0,0,0,hY,()),r0,(7,0,0,0,0,0,0,0,0,0,0,0,0,0,hY,()),())=some (((),(),(),()),(0,0,0,0,0,0,0,0,0,0,0,0,0,0,hY,()),r0,(7,0,0,0,0,0,0,0,0,0,0,0,0,0,hY,()),()):=kU (by simp only[ig,↓xo,aV (show¬(0:Int)<0 by omega),nB,zdG])
 obtain⟨z,hE⟩:=sA r0;obtain⟨g,hR⟩:=FR 0 0 0 0 0 0 0 0 0 0 0 0 0 hY;cases z with
 |false=>exact⟨_,false,by simp only[fD,hr,hu,hf,zdF,↓xl,hl,↓xo,eq_self,Int.reduceEq,iX,nB,zdG,zdH,hE,zdJ,zdK];rfl,λq=>by cases q⟩
 |true=>
  cases g with
  |false=>exact⟨_,false,by simp only[fD,hr,hu,hf,zdF,↓xl,hl,↓xo,eq_self,Int.reduceEq,iX,nB,zdG,zdH,hE,zdJ,zdK,hR];rfl,λq=>by cases q⟩
  |true=>exact⟨(7,0,0,0,0,0,0,0,0,0,0,0,0,0,hY,()),true,by simp only[fD,hr,hu,hf,zdF,↓xl,hl,↓xo,eq_self,Int.reduceEq,iX,nB,zdG,zdH,hE,zdJ,zdK,hR],λ_=>⟨hR,by simp,λq=>by simp at q,λq=>by simp at q,λq=>by simp at q⟩⟩
theorem zcr {b:List Int}(hb:b.length<=1000000){r0:nY}(hu:aF WX (((),()),((b,0,false,()),()))=some ((8,()),(r0,())))(o0:wm r0):GB b:=by
 have hr:=qu b hb;have hf:dJ WX (((),()),((8,0,0,0,0,0,0,0,0,0,0,0,0,0,hY,()),()))=some (.inr (.inr (.inr (.inr (.inr (.inr (((),true,()),(8,0,0,0,0,0,0,0,0,0,0,0,0,0,hY,()),()))))))):=by kernel_rfl
 have hl:ag (ig WX) (((),(),(),(),0,0,()),(0,0,0,0,0,0,0,0,0,0,0,0,0,0,hY,()),r0,(8,0,0,0,0,0,0,0,0,0,0,0,0,0,hY,()),())=some (((),(),(),()),(0,0,0,0,0,0,0,0,0,0,0,0,0,0,hY,()),r0,(8,0,0,0,0,0,0,0,0,0,0,0,0,0,hY,()),()):=kU (by simp only[ig,↓xo,aV (show¬(0:Int)<0 by omega),nB,zdG])
 obtain⟨z,hE⟩:=sA r0;obtain⟨g,hR⟩:=FT 0 0 0 0 0 0 0 0 0 0 0 0 0 hY;cases z with
 |false=>exact⟨_,false,by simp only[fD,hr,hu,hf,zdF,↓xl,hl,↓xo,eq_self,Int.reduceEq,iX,nB,zdG,zdH,hE,zdJ,zdK];rfl,λq=>by cases q⟩
 |true=>
  cases g with
  |false=>exact⟨_,false,by simp only[fD,hr,hu,hf,zdF,↓xl,hl,↓xo,eq_self,Int.reduceEq,iX,nB,zdG,zdH,hE,zdJ,zdK,hR];rfl,λq=>by cases q⟩
  |true=>exact⟨(8,0,0,0,0,0,0,0,0,0,0,0,0,0,hY,()),true,by simp only[fD,hr,hu,hf,zdF,↓xl,hl,↓xo,eq_self,Int.reduceEq,iX,nB,zdG,zdH,hE,zdJ,zdK,hR],λ_=>⟨hR,by simp,λq=>by simp at q,λq=>by simp at q,λq=>by simp at q⟩⟩
theorem Xc {b:List Int}(hb:b.length<=1000000):GB b:=by
 obtain⟨x,r0,hu,o0⟩:=so (r:=(b,0,false,())) ⟨zeL _,Int.natCast_nonneg _,hb⟩;by_cases h1:x=1
 ·subst h1;exact zcj hb hu o0
 by_cases h2:x=2
 ·subst h2;exact zcp hb hu o0
 by_cases h3:x=3
 ·subst h3;exact zck hb hu o0
 by_cases h4:x=4
 ·subst h4;exact zcl hb hu o0
 by_cases h5:x=5
 ·subst h5;exact zcm hb hu o0
 by_cases h6:x=6
 ·subst h6;exact zcn hb hu o0
 by_cases h7:x=7
 ·subst h7;exact zcq hb hu o0
 by_cases h8:x=8
 ·subst h8;exact zcr hb hu o0
 by_cases h9:x=9
 ·subst h9;exact zco hb hu o0
 have hr:=qu b hb;have hf:=Pr 0 0 0 0 0 0 0 0 0 0 0 0 0 hY h1 h2 h3 h4 h5 h6 h7 h8 h9;have hR:=UB 0 0 0 0 0 0 0 0 0 0 0 0 0 hY h1 h2 h3 h4 h5 h6 h7 h8 h9;have hl:ag (ig WX) (((),(),(),(),0,0,()),(0,0,0,0,0,0,0,0,0,0,0,0,0,0,hY,()),r0,(x,0,0,0,0,0,0,0,0,0,0,0,0,0,hY,()),())=some (((),(),(),()),(0,0,0,0,0,0,0,0,0,0,0,0,0,0,hY,()),r0,(x,0,0,0,0,0,0,0,0,0,0,0,0,0,hY,()),()):=kU (by simp only[ig,↓xo,aV (show¬(0:Int)<0 by omega),nB,zdG])
 obtain⟨z,hE⟩:=sA r0;cases z with
 |false=>exact⟨_,false,by simp only[fD,hr,hu,hf,zdF,↓xl,hl,↓xo,aV h2,zdG,zdH,hE,zdJ,zdK,hR];rfl,λq=>by cases q⟩
 |true=>exact⟨_,false,by simp only[fD,hr,hu,hf,zdF,↓xl,hl,↓xo,aV h2,zdG,zdH,hE,zdJ,zdK,hR];rfl,λq=>by cases q⟩
theorem Ps (n:Int):lh WX ((n,()),())=some ((decide (1<=n/\n<=256),()),()):=by
 by_cases h1:n>=1
 ·by_cases h2:n<=256
  ·simp only[lh,↓xo,ot h1,zdH,ot h2];rw[decide_eq_true ⟨h1,h2⟩]
  ·simp only[lh,↓xo,ot h1,zdH,aV h2];rw[decide_eq_false (λq=>h2 q.2)]
 ·simp only[lh,↓xo,aV h1,zdG];rw[decide_eq_false (λq=>h1 q.1)]
theorem Rf (left:List Int)(hl:left.length<=1000000): ∃(out:List (List Int)) (wU:(List Int)×Bool×Unit),ag (bI WX) (((),(),()),(left,false,()),[],())=some ((out,()),(wU,()))/\2*out.length+wU.1.length<=left.length/\∀x∈out,x.length<=1000000:=by
 have key:=pI (b:=bI WX) (λk l=> ∃(a:List Int) (out:List (List Int)),l=(((),(),()),(a,false,()),out,())/\k=a.length/\2*out.length+a.length<=left.length/\∀x∈out,x.length<=1000000)
  (λr=> ∃(out:List (List Int)) (wU:(List Int)×Bool×Unit),r=((out,()),(wU,()))/\2*out.length+wU.1.length<=left.length/\∀x∈out,x.length<=1000000) (λk l hk=>by
  obtain⟨a,out,rfl,rfl,h1,h2⟩:=hk;by_cases hc:(a.length:Int)>=2
  ·have x0:=zdL (l:=a) (i:=0) (by omega)
   have x1:=zdL (l:=a) (i:=1) (by omega)
   generalize a[0]'(by omega)=y0 at x0
   generalize a[1]'(by omega)=y1 at x1
   have z0:(0:Int).toNat=0:=rfl;have z1:(1:Int).toNat=1:=rfl;have z2:(2:Int).toNat=2:=rfl;have e8: ¬(8:Int)<0:=by omega
   have e0:(0:Int)<=0:=by omega
   have WH:(0:Int)<=1:=by omega
   generalize hN:WX.A7 .i64 (WX.shl .i64 (i64.wrap y0) 8) (i64.wrap y1)=N;have hm:=Ps N;by_cases hN1:1<=N/\N<=256
   ·rw[decide_eq_true hN1] at hm
    have w1:i64.wrap ((a.length:Int)-2)=(a.length:Int)-2:=nL (by omega) (by omega)
    have w2:i64.wrap (2+N)=2+N:=nL (by omega) (by omega)
    by_cases hs:(a.length:Int)-2<N
    ·exact .inr ⟨((out,()),((a,false,()),())),by simp only[bI,↓xo,xw,ot hc,ot e0,ot WH,aV e8,zdH,zdG,z0,z1,x0,x1,zdF,hN,hm,zdJ,w1,ot hs],out,(a,false,()),rfl,h1,h2⟩
    ·have c1:=E3 ((a.take (2+N).toNat).drop 2) (by rw[zeb,zea];omega)
     have c2:=E3 (a.drop (2+N).toNat) (by rw[zeb];omega)
     refine .inl ⟨(((),(),()),(a.drop (2+N).toNat,false,()),out++ [(a.take (2+N).toNat).drop 2],()),by simp only[bI,↓xo,xw,ot hc,ot e0,ot WH,aV e8,zdH,zdG,z0,z1,z2,x0,x1,zdF,hN,hm,zdJ,w1,aV hs,w2,ot (show 0<=(2:Int)/\(2:Int)<=2+N/\2+N<=(a.length:Int) by omega),c1,ot (show(((out.length+([(a.take (2+N).toNat).drop 2]:List (List Int)).length:Nat):Int))*((24:Nat):Int)<=((room:Nat):Int) by unfold room;simp only[zdQ,zdR];omega),ot (show 0<=2+N/\2+N<=(a.length:Int)/\(a.length:Int)<=(a.length:Int) by omega),c2],(a.drop (2+N).toNat).length,by rw[zeb];omega,_,_,rfl,rfl,?_,λx hx=>?_⟩
     ·rw[zdP,zeb];simp only[zdQ,zdR];omega
     ·rcases List.mem_append.1 hx with hx|hx
      ·exact h2 x hx
      ·rw[List.mem_singleton.1 hx,zeb,zea];omega
   ·rw[decide_eq_false hN1] at hm
    refine .inr ⟨((out,()),(([],true,()),())),by simp only[bI,↓xo,xw,ot hc,ot e0,ot WH,aV e8,zdH,zdG,z0,z1,x0,x1,zdF,hN,hm,zdK],out,([],true,()),rfl,?_,h2⟩
    simp only[zdR];omega
  ·exact .inr ⟨((out,()),((a,false,()),())),by simp only[bI,↓xo,aV hc,zdG],out,(a,false,()),rfl,h1,h2⟩)
 obtain⟨r,h1,out,wU,rfl,h2,h3⟩:=key left.length (((),(),()),(left,false,()),[],()) ⟨left,[],rfl,rfl,by simp,λx hx=>(by cases hx)⟩
 exact⟨out,wU,h1,h2,h3⟩
theorem UC (fr:(List Int)×Bool×Unit)(bs:List Int)(hl:fr.1.length+bs.length<=1000000): ∃(out:List (List Int)) (wU:(List Int)×Bool×Unit),(cf WX (((),bs,()),(fr,()))=some (.inl (((),()),wU,out,()))\/cf WX (((),bs,()),(fr,()))=some (.inr ((out,()),(wU,()))))/\2*out.length+wU.1.length<=fr.1.length+bs.length/\∀x∈out,x.length<=1000000:=by
 obtain⟨left,bad,⟨⟩⟩:=fr;simp only at hl;cases bad with
 |true=>exact⟨[],(left,true,()), .inl (by simp only[cf,zdH]),by simp,λx hx=>(by cases hx)⟩
 |false=>
  have vP: [left,bs].flatten=left++bs:=by simp
  obtain⟨out,wU,g1,g2,g3⟩:=Rf (left++bs) (by rw[zdP];omega)
  rw[zdP] at g2;refine⟨out,wU, .inr ?_,g2,g3⟩;rcases Gs [left,bs] (by rw[vP,zdP];omega) (by simp) with⟨c1,c2⟩|c1
  ·rw[vP] at c2
   rw[c2] at g1;simp only[cf,zdG,c1,zdF,↓xl,g1]
  ·rw[vP] at c1
   simp only[cf,zdG,c1,zdF,zeX,↓xl,g1]
section
variable {P:Nat->V->(Nat->MS)->Prop}{k m:Nat}{v:V}{μ:Nat->MS}{i:Nat}
theorem VI.le (pk:PK P)(h:VI P k m v μ){k':Nat}(hk:k<=k'):VI P k' m v μ:=by
 have: ∀d,VI P (k+d) m v μ:=by
  intro d;induction d with
  |zero=>exact h
  |succ d ih=>exact⟨ih.ss,ih.ci,ih.mt,ih.lg,pk.more ih.p,ih.qi⟩
 have:=this (k'-k);rwa [show k+(k'-k)=k' by omega] at this
theorem UD {s:xy}(h:s.1=3)(sq now:Int): ∃b nx,eA WX (((),sq,now,()),(s,()))=some ((b,()),((3,s.2.1,s.2.2.1,nx,now,()),())):=by
 by_cases h1:sq=s.2.2.2.1
 ·by_cases h2:s.2.2.2.1=1073741824
  ·exact⟨false,s.2.2.2.1,by simp only[eA,dz,↓xo,eq_self,iX,zdJ,zdG,zdF,ot h1,ot h2,zdH,h]⟩
  ·exact⟨true,i64.wrap (s.2.2.2.1+1),by simp only[eA,dz,↓xo,xw,eq_self,iX,zdJ,zdG,zdF,ot h1,aV h2,h]⟩
 ·exact⟨false,s.2.2.2.1,by simp only[eA,dz,↓xo,eq_self,iX,zdJ,zdK,zdG,zdH,zdF,aV h1,h]⟩
theorem UE {c:mZ}(h:bf WX ((c,()),())=some ((true,()),()))(hk:c.1=3\/c.1=4\/c.1=5\/c.1=6\/c.1=9):iM WX ((c,()),())=some ((true,()),()):=by
 by_cases h3:c.1=3
 ·simp only[iM,↓xo,ot h3,zdH,h,zdF]
 by_cases h4:c.1=4
 ·simp only[iM,↓xo,aV h3,ot h4,zdH,zdG,h,zdF]
 by_cases h5:c.1=5
 ·simp only[iM,↓xo,aV h3,aV h4,ot h5,zdH,zdG,h,zdF]
 by_cases h6:c.1=6
 ·simp only[iM,↓xo,aV h3,aV h4,aV h5,ot h6,zdH,zdG,h,zdF]
 ·have h9:c.1=9:=by omega
  simp only[iM,↓xo,aV h3,aV h4,aV h5,aV h6,ot h9,zdH,zdG,h,zdF]
theorem La (pk:PK P)(h:VI P k m v μ)(hm:m<=90000000000)(hi:i<16)(xF:(gU v i).1=3){c:mZ}(hc:Yo c)(h1: ¬c.1=1)(h2: ¬c.1=2): ∃v' μ' m',dW WX (((),(i:Int),c,()),v.e)=some ((),v'.e)/\VI P (k+1) m' v' μ'/\m'<=m+100/\Ev i v v':=by
 obtain⟨f,o,s,fr,ou,nE,mj⟩:=h.ci i hi;rw[uC nE] at xF;have kd:=hc.kind;by_cases h7:c.1=7
 ·have v1:=FH pk h nE (s':=(3,s.2.1,s.2.2.1,s.2.2.2.1,v.now,())) ⟨mj.out,mj.rG,by simp,mj.qH⟩ (Jn h.qi nE (λ_=>⟨xF,rfl⟩))
  have ev:=FI nE (s':=(3,s.2.1,s.2.2.1,s.2.2.2.1,v.now,())) (.inr rfl);refine⟨_,μ,m,?_,v1.le pk (by omega),by omega,ev⟩
  simp only[dW,V.e,↓xo,ot (lC hi),zdH,zdI,nE.c,zdF,ot h7,aQ,al,nE.S,dz,eq_self,iX,zdJ,zdG,xF]
 by_cases h8:c.1=8
 ·obtain⟨v1,w1,w2,w3⟩:=A5 pk h hi zas
  obtain⟨v2,μ',m',d1,d2,d3,d4,_⟩:=qq pk w2 (by omega) hi
  refine⟨v2,μ',m',?_,d2.le pk (by omega),by omega,(w3.dw.trans d4).ev i⟩
  simp only[V.e] at w1 d1;simp only[dW,V.e,↓xo,ot (lC hi),zdH,zdI,nE.c,zdF,aV h7,ot h8,zdG,w1,d1]
 have hk:c.1=3\/c.1=4\/c.1=5\/c.1=6\/c.1=9:=by omega
 obtain⟨b,nx,ht⟩:=UD xF c.2.1 v.now;have v1:=FH pk h nE (s':=(3,s.2.1,s.2.2.1,nx,v.now,())) ⟨mj.out,mj.rG,by simp,mj.qH⟩ (Jn h.qi nE (λ_=>⟨xF,rfl⟩))
 have ev:=FI nE (s':=(3,s.2.1,s.2.2.1,nx,v.now,())) (.inr rfl);cases b with
 |false=>
  obtain⟨v2,w1,w2,w3⟩:=vd pk v1 hi c.2.1 14;refine⟨v2,μ,m,?_,w2.le pk (by omega),by omega,ev.trans (w3.dw.ev i)⟩
  simp only[V.e] at w1;simp only[dW,V.e,↓xo,ot (lC hi),zdH,zdI,nE.c,zdF,aV h7,aV h8,zdG,aQ,al,nE.S,ht,zdK,w1]
 |true=>
  obtain⟨e,v2,μ',m',r1,r2,r3,r4⟩:=zcg pk v1 (by omega) mj.qH (hc.cmd hk) hc.right (UE hc.right hk)
  have e32: ¬(3:Int)=2:=by omega
  have uK:=kW (y:=(((3:Int),s.2.1,s.2.2.1,nx,v.now,()),())) nE.S;simp only[V.e] at r1;by_cases he:e=0
  ·subst he
   obtain⟨v3,w1,w2,w3⟩:=A5 pk r2 hi (zat c.2.1);refine⟨v3,μ',m',?_,w2,r3,ev.trans ((r4.trans w3).dw.ev i)⟩;simp only[V.e] at w1;simp only[dW,V.e,↓xo,ot (lC hi),zdH,zdI,nE.c,zdF,aV h7,aV h8,zdG,aQ,al,nE.S,ht,zdJ,uK,ay,aV e32,eq_self,iX,zfh,r1,w1]
  ·obtain⟨v3,w1,w2,w3⟩:=vd pk r2 hi c.2.1 e
   refine⟨v3,μ',m',?_,w2,r3,ev.trans ((r4.trans w3).dw.ev i)⟩;simp only[V.e] at w1;simp only[dW,V.e,↓xo,ot (lC hi),zdH,zdI,nE.c,zdF,aV h7,aV h8,zdG,aQ,al,nE.S,ht,zdJ,zdK,uK,ay,aV e32,eq_self,iX,zfh,r1,aV he,w1]
theorem UF (pk:PK P)(h:VI P k m v μ)(hm:m<=90000000000)(hi:i<16){x:List Int}(hx:x.length<=1000000): ∃v' μ' m',db WX (((),(i:Int),x,()),v.e)=some ((),v'.e)/\VI P (k+1) m' v' μ'/\m'<=m+100/\Ev i v v':=by
 obtain⟨f,o,s,fr,ou,nE,mj⟩:=h.ci i hi;obtain⟨c,ok,g1,g2⟩:=Xc hx;cases ok with
 |false=>
  obtain⟨v2,μ',m',d1,d2,d3,d4,_⟩:=qq pk h (by omega) hi
  refine⟨v2,μ',m',?_,d2.le pk (by omega),by omega,d4.ev i⟩
  simp only[V.e] at d1;simp only[db,V.e,↓xo,ot (lC hi),zdH,zdI,nE.c,zdF,g1,zdK,d1]
 |true=>
  have hc:=g2 rfl;by_cases h1:c.1=1
  ·by_cases hs:s.1=1
   ·have v1:=FH pk h nE (s':=(2,c.2.2.1,s.2.2.1,s.2.2.2.1,v.now,())) ⟨mj.out,mj.rG,by simp,hc.zci h1⟩ (Jn h.qi nE (λq=>by simp at q))
    have ev:=FI nE (s':=(2,c.2.2.1,s.2.2.1,s.2.2.2.1,v.now,())) (.inr rfl);obtain⟨v2,w1,w2,w3⟩:=A5 pk v1 hi (Jm mj.rG);refine⟨v2,μ,m,?_,w2.le pk (by omega),by omega,ev.trans (w3.dw.ev i)⟩
    have uK:=kW (y:=(((2:Int),c.2.2.1,s.2.2.1,s.2.2.2.1,v.now,()),())) nE.S;have Yb: ¬(2:Int)=1:=by omega
    simp only[V.e] at w1;simp only[db,V.e,↓xo,ot (lC hi),zdH,zdI,nE.c,zdF,g1,zdJ,zdG,ot h1,aQ,al,nE.S,eT,ot hs,uK,fB,aV Yb,eq_self,iX,zfh,w1]
   ·obtain⟨v2,μ',m',d1,d2,d3,d4,_⟩:=qq pk h (by omega) hi
    refine⟨v2,μ',m',?_,d2.le pk (by omega),by omega,d4.ev i⟩
    simp only[V.e] at d1;simp only[db,V.e,↓xo,ot (lC hi),zdH,zdI,nE.c,zdF,g1,zdJ,zdK,zdG,ot h1,aQ,al,nE.S,eT,aV hs,aE nE.S,d1]
  by_cases h2:c.1=2
  ·obtain⟨v2,μ',m',d1,d2,d3,d4⟩:=NK pk h hm hi (hc.ans h2)
   refine⟨v2,μ',m',?_,d2.le pk (by omega),d3,d4⟩
   simp only[V.e] at d1;simp only[db,V.e,↓xo,ot (lC hi),zdH,zdI,nE.c,zdF,g1,zdJ,zdG,aV h1,ot h2,d1]
  by_cases h3:s.1=3
  ·obtain⟨v2,μ',m',d1,d2,d3,d4⟩:=La pk h hm hi (by rw[uC nE];exact h3) hc h1 h2
   refine⟨v2,μ',m',?_,d2,d3,d4⟩;simp only[V.e] at d1;simp only[db,V.e,↓xo,ot (lC hi),zdH,zdI,nE.c,zdF,g1,zdJ,zdG,aV h1,aV h2,al,nE.S,ai,ot h3,aE nE.S,d1]
  ·obtain⟨v2,μ',m',d1,d2,d3,d4,_⟩:=qq pk h (by omega) hi
   refine⟨v2,μ',m',?_,d2.le pk (by omega),by omega,d4.ev i⟩
   simp only[V.e] at d1;simp only[db,V.e,↓xo,ot (lC hi),zdH,zdI,nE.c,zdF,g1,zdJ,zdK,zdG,aV h1,aV h2,al,nE.S,ai,aV h3,aE nE.S,d1]
end
structure Ew (i:Nat)(v v':V):Prop where
 now:v'.now=v.now
 cfg:v'.cfg=v.cfg
 gU: ∀j,j<16->gU v' j=gU v j\/(gU v' j).1=0\/(j=i/\(gU v' j).2.2.2.2.1=v.now)
theorem Ev.ew {i:Nat}{v v':V}(h:Ev i v v'):Ew i v v':=⟨h.now,h.cfg,h.gU⟩
section
variable {P:Nat->V->(Nat->MS)->Prop}{k m:Nat}{v:V}{μ:Nat->MS}{i:Nat}
theorem Xd {F:List wR}{f:Nat}{y:wR}(h:F[f]?=some y):y.1.1.length<=lO F:=by
 have:=Hy h (x:=(([],false,()),()));simp only[zdR] at this;omega
theorem Lb (pk:PK P)(h:VI P k m v μ)(hi:i<16)(out:List (List Int))(ho: ∀x∈out,x.length<=1000000)(hl:out.length<=1000000)(hm:m<=10000000000): ∃v' μ' m',ag (bM WX) (((),(i:Int),out,(out.length:Int),0,()),v.e)=some (((),(i:Int),()),v'.e)/\VI P (k+out.length) m' v' μ'/\m'<=m+900*out.length/\Ev i v v':=by
 have key:=pI (b:=bM WX) (λq l=> ∃(j:Nat) (v1:V) (μ1:Nat->MS) (m1:Nat),j<=out.length/\q=out.length-j/\l=(((),(i:Int),out,(out.length:Int),(j:Int),()),v1.e)/\VI P (k+j) m1 v1 μ1/\m1<=m+900*j/\Ev i v v1)
  (λr=> ∃(v1:V) (μ1:Nat->MS) (m1:Nat),r=(((),(i:Int),()),v1.e)/\VI P (k+out.length) m1 v1 μ1/\m1<=m+900*out.length/\Ev i v v1) (λq l hq=>by
  obtain⟨j,v1,μ1,m1,hj,rfl,rfl,i1,i2,i3⟩:=hq;by_cases hc:j<out.length
  ·obtain⟨f,o,s,fr,ou,nE,mj⟩:=i1.ci i hi
   have hA:=M3 nE;have hx:=zdL hc;have XD:=ho _ (zeT hc);have e1:=jY hc hl;generalize out[j]=x at hx XD;by_cases h0:s.1=0
   ·exact .inr ⟨(((),(i:Int),()),v1.e),by simp only[bM,↓xo,ot (show(j:Int)<(out.length:Int) by omega),ot (show(0:Int)<=(j:Int) by omega),zdH,zdI,hx,zdF,hA,ot h0],v1,μ1,m1,rfl,i1.le pk (by omega),by omega,i3⟩
   ·obtain⟨rF,r,h3,h4⟩:=tX i1.mt (i:=0) (by omega)
    change aR WX (((),0,1,()),_)=_ at h3;have v2:VI P (k+j) m1 {v1 with mt:=rF} μ1:=⟨i1.ss.oZ (by rfl),i1.ci.oZ rfl rfl rfl rfl,h4,i1.lg,pk.oZ i1.p (by rfl) (by rfl) (by rfl),i1.qi.mono (λ_ _ h=>⟨h,rfl⟩) .rfl (by rfl)⟩
    obtain⟨v3,μ3,m3,b1,b2,b3,b4⟩:=UF pk v2 (by omega) hi XD
    obtain⟨v4,μ4,m4,s1,s2,s3,s4,_⟩:=yO pk b2 (by omega)
    have b4':Ev i v1 v3:=⟨b4.now,b4.cfg,b4.left,b4.gU⟩;refine .inl ⟨(((),(i:Int),out,(out.length:Int),((j+1:Nat):Int),()),v4.e),?_,out.length-(j+1),by omega,j+1,v4,μ4,m4,by omega,rfl,rfl,s2,by omega,i3.trans (b4'.trans (s4.ev i))⟩
    simp only[V.e] at hA b1 s1⊢;simp only[bM,↓xo,xw,ot (show(j:Int)<(out.length:Int) by omega),ot (show(0:Int)<=(j:Int) by omega),zdH,zdI,hx,zdF,hA,aV h0,zdG,h3,b1,s1,e1]
  ·obtain rfl:j=out.length:=by omega
   exact .inr ⟨(((),(i:Int),()),v1.e),by simp only[bM,↓xo,aV (show¬(out.length:Int)<(out.length:Int) by omega),zdG],v1,μ1,m1,rfl,i1,i2,i3⟩)
 obtain⟨r,h1,v1,μ1,m1,rfl,h2,h3,h4⟩:=key out.length (((),(i:Int),out,(out.length:Int),0,()),v.e) ⟨0,v,μ,m,by omega,by omega,rfl,h,by omega, .rfl i v⟩
 exact⟨v1,μ1,m1,h1,h2,h3,h4⟩
theorem Rg (pk:PK P)(h:VI P k m v μ)(hi:i<16)(bs:List Int)(hl:lO v.F+bs.length<=1000000)(hm:m<=10000000000): ∃v' μ' k' m',cQ WX (((),(i:Int),bs,()),v.e)=some ((),v'.e)/\VI P k' m' v' μ'/\2*k'+lO v'.F<=2*k+lO v.F+bs.length/\m'<=m+1000*(lO v.F+bs.length+1)/\Ew i v v':=by
 obtain⟨f,o,s,fr,ou,nE,mj⟩:=h.ci i hi;have vP:=Xd nE.F;simp only at vP;obtain⟨out,wU,g1,g2,g3⟩:=UC fr bs (by omega)
 have hls:=Hy nE.F (x:=(wU,()));simp only at hls;have v1:VI P k m {v with F:=v.F.set f (wU,())} μ:=⟨h.ss.oZ (by rfl),λj hj=>by
  obtain⟨f2,o2,s2,Vd,Ws,c1,c2⟩:=h.ci j hj;by_cases e:f2=f
  ·subst e
   exact⟨f2,o2,s2,wU,Ws,⟨c1.lt,c1.c,c1.S,kW c1.F,c1.O⟩,c2⟩
  ·exact⟨f2,o2,s2,Vd,Ws,⟨c1.lt,c1.c,c1.S,by show(v.F.set f _)[f2]?=_;rw[kR e];exact c1.F,c1.O⟩,c2⟩,h.mt,h.lg,pk.oZ h.p (by rfl) (by rfl) (by rfl),h.qi.mono (λ_ _ h=>⟨h,rfl⟩) .rfl (by rfl)⟩
 obtain⟨v2,μ2,m2,l1,l2,l3,l4⟩:=Lb pk v1 hi out g3 (by omega) hm
 have hle:lO v2.F=lO (v.F.set f (wU,())):=l4.left;have ew:Ew i v v2:=⟨l4.now,l4.cfg,l4.gU⟩;obtain⟨f3,o3,s3,fr3,ou3,c3,ok3⟩:=l2.ci i hi;simp only[V.e] at l1;cases hb:fr3.2.1 with
 |false=>
  refine⟨v2,μ2,k+out.length,m2,?_,l2,by omega,by omega,ew⟩
  simp only[V.e];rcases g1 with g1|g1
  ·simp only[cQ,↓xo,ot (lC hi),zdH,zdI,nE.c,zdF,al,nE.F,g1,↓xl,l1,c3.c,c3.F,eL,hb,zdG,aE c3.F]
  ·simp only[cQ,↓xo,ot (lC hi),zdH,zdI,nE.c,zdF,al,nE.F,g1,↓xl,l1,c3.c,c3.F,eL,hb,zdG,aE c3.F]
 |true=>
  obtain⟨v3,μ3,m3,d1,d2,d3,d4,_⟩:=qq pk l2 (by omega) hi
  obtain⟨v4,μ4,m4,w1,w2,w3,w4,_⟩:=yO pk d2 (by omega)
  have dw:=d4.trans w4;have zdD:lO v4.F=lO v2.F:=dw.left;have dv:=dw.ev i;refine⟨v4,μ4,k+out.length,m4,?_,w2,by omega,by omega,⟨dv.now.trans ew.now,dv.cfg.trans ew.cfg,λj hj=>?_⟩⟩
  ·simp only[V.e] at d1 w1⊢
   rcases g1 with g1|g1
   ·simp only[cQ,↓xo,ot (lC hi),zdH,zdI,nE.c,zdF,al,nE.F,g1,↓xl,l1,c3.c,c3.F,eL,hb,aE c3.F,d1,w1]
   ·simp only[cQ,↓xo,ot (lC hi),zdH,zdI,nE.c,zdF,al,nE.F,g1,↓xl,l1,c3.c,c3.F,eL,hb,aE c3.F,d1,w1]
  ·rcases dw.gU j hj with e|e
   ·rw[e];exact ew.gU j hj
   ·exact .inr (.inl e)
def DoR (P:Nat->V->(Nat->MS)->Prop)(k m:Nat)(v:V)(i:Nat)(n:Nat)(o:Option ((Bool×Unit)×VT)):Prop:=
 (o=some ((false,()),v.e))\/∃v' μ' k' m',o=some ((true,()),v'.e)/\VI P k' m' v' μ'/\2*k'+lO v'.F<=2*k+lO v.F+n/\m'<=m+1000*(lO v.F+n+1)/\Ew i v v'
theorem NL (pk:PK P)(h:VI P k m v μ)(hi:i<16)(bs:List Int)(hl:lO v.F+bs.length<=1000000)(hm:m<=10000000000):DoR P k m v i bs.length (aB WX (((),(2,(i:Int),0,hY,bs,()),()),v.e)):=by
 obtain⟨f,o,s,fr,ou,nE,mj⟩:=h.ci i hi;have e1: ¬(2:Int)=4:=by omega
 have e2: ¬(2:Int)=1:=by omega
 by_cases h0:s.1=0
 ·refine .inl ?_
  simp only[aB,fF,V.e,↓xo,aV e1,aV e2,zdG,ot (show(i:Int)>=0 by omega),ot (show(i:Int)<16 by omega),ot (lC hi),zdH,zdF,zdJ,eq_self,iX,zdI,nE.c,al,nE.S,ai,ot h0,aE nE.S]
 ·obtain⟨v',μ',k',m',b1,b2,b3,b4,b5⟩:=Rg pk h hi bs hl hm
  refine .inr ⟨v',μ',k',m',?_,b2,b3,b4,b5⟩;simp only[V.e] at b1⊢;simp only[aB,fF,↓xo,aV e1,aV e2,zdG,ot (show(i:Int)>=0 by omega),ot (show(i:Int)<16 by omega),ot (lC hi),zdH,zdF,zdJ,eq_self,iX,zdI,nE.c,al,nE.S,ai,aV h0,aE nE.S,b1]
theorem Rh (pk:PK P)(h:VI P k m v μ)(hi:i<16)(hm:m<=10000000000):DoR P k m v i 0 (aB WX (((),(3,(i:Int),0,hY,[],()),()),v.e)):=by
 obtain⟨f,o,s,fr,ou,nE,mj⟩:=h.ci i hi;have e1: ¬(3:Int)=4:=by omega
 have e2: ¬(3:Int)=1:=by omega
 have e3: ¬(3:Int)=2:=by omega
 by_cases h0:s.1=0
 ·refine .inl ?_
  simp only[aB,fF,V.e,↓xo,aV e1,aV e2,aV e3,zdG,ot (show(i:Int)>=0 by omega),ot (show(i:Int)<16 by omega),ot (lC hi),zdH,zdF,zdJ,zdK,eq_self,iX,zdI,nE.c,al,nE.S,ai,ot h0,aE nE.S]
 ·obtain⟨v3,μ3,m3,d1,d2,d3,d4,_⟩:=qq pk h (by omega) hi
  obtain⟨v4,μ4,m4,w1,w2,w3,w4,_⟩:=yO pk d2 (by omega)
  have dw:=d4.trans w4;refine .inr ⟨v4,μ4,k,m4,?_,w2,by rw[dw.left];omega,by omega,(dw.ev i).ew⟩
  simp only[V.e] at d1 w1⊢;simp only[aB,fF,↓xo,aV e1,aV e2,aV e3,zdG,ot (show(i:Int)>=0 by omega),ot (show(i:Int)<16 by omega),ot (lC hi),zdH,zdF,zdJ,zdK,eq_self,iX,zdI,nE.c,al,nE.S,ai,aV h0,aE nE.S,d1,w1]
theorem Jo (pk:PK P)(h:VI P k m v μ)(hi:i<16){nc:List Int}(hn:nc.length=32):DoR P k m v i 0 (aB WX (((),(1,(i:Int),0,nc,[],()),()),v.e)):=by
 obtain⟨f,o,s,fr,ou,nE,mj⟩:=h.ci i hi;have e1: ¬(1:Int)=4:=by omega
 by_cases h0:s.1=0
 ·have hd:=E8 nE h0 nc
  have hF:(v.F++ [((([]:List Int),false,()),())])[v.F.length]?=some (([],false,()),()):=by simp
  have hO:(v.O++ [((([]:List Int),false,()),())])[v.O.length]?=some (([],false,()),()):=by simp
  have hs:=λj=>A4 nE (x:=(1,0,nc,0,v.now,())) rfl j;refine .inr ⟨_,μ,k,m,hd,⟨h.ss.oZ (by rfl),λj hj=>?_,h.mt,h.lg,pk.oZ h.p (by rfl) (by rfl) (by rfl),h.qi.mono (λj hj h3=>?_) .rfl (by rfl)⟩,?_,by omega,⟨rfl,rfl,λj hj=>?_⟩⟩
  ·by_cases e:j=i
   ·subst e
    exact⟨_,_,_,_,_,⟨hi,kW nE.c,kW nE.S,hF,hO⟩,⟨by simp,hn,by simp,by simp⟩⟩
   ·obtain⟨f',o',s',wU,I1,c1,c2⟩:=h.ci j hj
    refine⟨f',o',s',wU,I1,⟨c1.lt,?_,?_,?_,?_⟩,c2⟩
    ·show(v.c.set i _)[j]?=_;rw[kR e];exact c1.c
    ·show(v.S.set i _)[j]?=_;rw[kR e];exact c1.S
    ·show(v.F++_)[f']?=_;rw[zew (List.getElem?_eq_some_iff.1 c1.F).1];exact c1.F
    ·show(v.O++_)[o']?=_;rw[zew (List.getElem?_eq_some_iff.1 c1.O).1];exact c1.O
  ·change ((v.S.set i ((1,0,nc,0,v.now,()),())).getD j (s0,())).1.1=3 at h3
   show(gU v j).1=3/\((v.S.set i ((1,0,nc,0,v.now,()),())).getD j (s0,())).1.2.1=(gU v j).2.1
   rw[hs] at h3⊢;by_cases e:j=i
   ·rw[if_pos e] at h3;simp at h3
   ·rw[if_neg e] at h3⊢;exact⟨h3,rfl⟩
  ·show 2*k+lO (v.F++_)<=_
   rw[tZ];simp[lO]
  ·show(((v.S.set i ((1,0,nc,0,v.now,()),())).getD j (s0,())).1=_)\/((v.S.set i ((1,0,nc,0,v.now,()),())).getD j (s0,())).1.1=0\/_/\((v.S.set i ((1,0,nc,0,v.now,()),())).getD j (s0,())).1.2.2.2.2.1=_
   rw[hs];by_cases e:j=i
   ·rw[if_pos e];exact .inr (.inr ⟨e,rfl⟩)
   ·rw[if_neg e];exact .inl rfl
 ·refine .inl ?_
  simp only[aB,fF,V.e,↓xo,aV e1,zdG,ot (show(i:Int)>=0 by omega),ot (show(i:Int)<16 by omega),ot (lC hi),zdH,zdF,zdJ,zdK,eq_self,iX,zdI,nE.c,al,aQ,nE.S,dZ,aV h0,aE nE.S]
end
section
variable {P:Nat->V->(Nat->MS)->Prop}{k m:Nat}{v:V}{μ:Nat->MS}{i:Nat}
abbrev idle (v:V):Int:=v.cfg.2.2.2.2.2.2.1
def C3 (s:xy)(now d:Int):Bool:=decide (s.1≠0/\i64.wrap (now-s.2.2.2.2.1)>=d)
theorem Xe (s:xy)(now d:Int):eR WX (((),now,d,()),(s,()))=some ((C3 s now d,()),(s,())):=by
 unfold C3;by_cases h0:s.1=0
 ·simp only[eR,↓xo,ot h0,zdJ,zdG];rw[decide_eq_false (λq=>q.1 h0)]
 ·by_cases h1:i64.wrap (now-s.2.2.2.2.1)>=d
  ·simp only[eR,↓xo,xw,aV h0,zdK,zdH,ot h1];rw[decide_eq_true ⟨h0,h1⟩]
  ·simp only[eR,↓xo,xw,aV h0,zdK,zdH,aV h1];rw[decide_eq_false (λq=>h1 q.2)]
theorem Ri (pk:PK P)(h:VI P k m v μ)(hm:m<=10000000000): ∃v' μ' m',ag (dy WX) (((),v.c,0,()),v.e)=some (((),()),v'.e)/\VI P k m' v' μ'/\m'<=m+736/\Dw v v'/\∀j,j<16->(gU v' j).1=0\/(gU v' j=gU v j/\C3 (gU v j) v.now (idle v)=false):=by
 obtain⟨⟨v',μ',m'⟩,l1,l2,l3,l4,l5⟩:=oC (b:=dy WX) 16 (λj (s:V×(Nat->MS)×Nat)=>(((),v.c,(j:Int),()),s.1.e)) (λs=>(((),()),s.1.e))
  (λj s=>VI P k s.2.2 s.1 s.2.1/\s.2.2<=m+46*j/\Dw v s.1/\∀j',j'<j->(gU s.1 j').1=0\/(gU s.1 j'=gU v j'/\C3 (gU v j') v.now (idle v)=false))
  (λj s hj hI=>by
   obtain⟨v1,μ1,m1⟩:=s;obtain⟨i1,i2,i3,i4⟩:=hI;simp only at i1 i2 i3 i4;obtain⟨f0,o0,s0',fr0,ou0,c0,_⟩:=h.ci j hj;have hc0:=c0.c;obtain⟨f,o,s,fr,ou,nE,mj⟩:=i1.ci j hj;have hs:=uC nE;have e1:=jY hj (by omega)
   have lj:=Xe s v1.now v1.cfg.2.2.2.2.2.2.1;cases hb:C3 s v1.now v1.cfg.2.2.2.2.2.2.1 with
   |true=>
    rw[hb] at lj;obtain⟨v3,μ3,m3,d1,d2,d3,d4,d5,d6,_⟩:=qq pk i1 (by omega) hj
    refine⟨(v3,μ3,m3),?_,d2,by simp only;omega,i3.trans d4,λj' Ch=>?_⟩
    ·simp only[V.e] at d1⊢
     simp only[dy,↓xo,xw,ot (show(j:Int)<16 by omega),ot (lC hj),zdH,zdI,hc0,zdF,aQ,dY,al,nE.S,lj,aE nE.S,d1,e1]
    ·by_cases e:j'=j
     ·subst e;exact .inl d5
     ·show(gU v3 j').1=0\/(gU v3 j'=_/\_)
      rw[d6 j' e];exact i4 j' (by omega)
   |false=>
    rw[hb] at lj;refine⟨(v1,μ1,m1),?_,i1,by simp only;omega,i3,λj' Ch=>?_⟩
    ·simp only[V.e]
     simp only[dy,↓xo,xw,ot (show(j:Int)<16 by omega),ot (lC hj),zdH,zdI,hc0,zdF,aQ,dY,al,nE.S,lj,zdG,aE nE.S,e1]
    ·by_cases e:j'=j
     ·subst e
      rcases i3.gU j' hj with q|q
      ·refine .inr ⟨q,?_⟩
       rw[<-q,hs,<-i3.now];unfold idle;rw[<-i3.cfg];exact hb
      ·exact .inl q
     ·exact i4 j' (by omega))
  (λs _=>by simp only[dy,↓xo,aV (show¬((16:Nat):Int)<16 by omega),zdG]) (v,μ,m) ⟨h,by simp only;omega, .rfl v,λj hj=>by omega⟩
 exact⟨v',μ',m',l1,l2,by simp only at l3;omega,l4,l5⟩
theorem Rj (pk:PK P)(h:VI P k m v μ)(hm:m<=1000000000)(n:Int):aB WX (((),(4,0,n,hY,[],()),()),v.e)=some ((false,()),v.e)\/∃v' μ' m',aB WX (((),(4,0,n,hY,[],()),()),v.e)=some ((true,()),v'.e)/\VI P k m' v' μ'/\lO v'.F=lO v.F/\m'<=m+2000/\1<=n/\v'.now=v.now+n/\v'.cfg=v.cfg/\∀j,j<16->(gU v' j).1=0\/(gU v' j=gU v j/\C3 (gU v j) v'.now (idle v)=false):=by
 have Eb:=h.ss.now;have e:i64.wrap (1099511627776-v.now)=1099511627776-v.now:=nL (by omega) (by omega)
 by_cases h1:n<1
 ·exact .inl (by simp only[aB,fW,V.e,↓xo,eq_self,iX,zdH,ot h1,zdF])
 by_cases h2:n>1099511627776-v.now
 ·exact .inl (by simp only[aB,fW,V.e,↓xo,xw,eq_self,iX,zdH,aV h1,zdG,aQ,zdF,e,ot h2])
 ·have hdo:=Wn (v:=v) n (by omega) (by omega) Eb.1 Eb.2
  obtain⟨xn,g1,g2⟩:=IZ h.lg (by omega) (Wo (n:=n) (by omega) (by omega))
  obtain⟨e',rF,O',r1,r2,r3⟩:=NI (v1:={v with now:=v.now+n}) h.ci h.mt (by rfl) (by rfl) (by rfl) (by rfl) (.inl ⟨0,hdo⟩) g1
  have s1:SS {v with now:=v.now+n} μ:=⟨⟨⟨h.ss.si.pK.mp,h.ss.si.pK.at_⟩,h.ss.si.op,h.ss.si.Ly,h.ss.si.ps⟩,h.ss.tr,h.ss.ph,h.ss.Yl,h.ss.bp,h.ss.B,h.ss.lp,h.ss.L,by show 0<=v.now+n/\v.now+n<=1099511627776;omega⟩
  have v2:VI P k (m+46) {v with now:=v.now+n,lg:=xn,mt:=rF,O:=O'} μ:=⟨s1.oZ (by rfl),r2,r3,g2,pk.oZ h.p (by rfl) (by rfl) (by rfl),h.qi.mono (λ_ _ h=>⟨h,rfl⟩) .rfl (by rfl)⟩
  obtain⟨v3,μ3,m3,l1,l2,l3,l4,l5⟩:=Ri pk v2 (by omega)
  obtain⟨v4,μ4,m4,w1,w2,w3,w4,_⟩:=yO pk l2 (by omega)
  have dw:=l4.trans w4;refine .inr ⟨v4,μ4,m4,?_,w2,dw.left,by omega,by omega,dw.now,dw.cfg,λj hj=>?_⟩
  ·simp only[V.e] at r1 l1 w1⊢
   simp only[aB,fW,↓xo,xw,eq_self,iX,zdH,aV h1,zdG,aQ,zdF,e,aV h2,r1,↓xl,l1,w1]
  ·rcases w4.gU j hj with q|q
   ·rw[q]
    have hn:v4.now=v.now+n:=dw.now;rw[hn];exact l5 j hj
   ·exact .inl q
end
abbrev B7 (x:Int):Prop:= -9223372036854775808<=x/\x<=9223372036854775807
theorem Rk {a b c d e f g:Int}(ha:B7 a)(hb:B7 b)(hc:B7 c)(hd:B7 d)(he:B7 e)(hf:B7 f): ∃o:dP,gJ WX (((a,b,c,d,e,f,g,()),()),())=some ((o,()),()):=by
 obtain⟨r1,_,_,w1⟩:=jZ ha (lo:=0) (hi:=5) (by omega) (by omega) (by omega)
 obtain⟨r2,_,_,w2⟩:=jZ hb (lo:=0) (hi:=15) (by omega) (by omega) (by omega)
 obtain⟨r3,_,_,w3⟩:=jZ hc (lo:=0) (hi:=1) (by omega) (by omega) (by omega)
 obtain⟨r4,_,_,w4⟩:=jZ hc (lo:=0) (hi:=9) (by omega) (by omega) (by omega)
 obtain⟨r5,_,_,w5⟩:=jZ hd (lo:=95) (hi:=105) (by omega) (by omega) (by omega)
 obtain⟨r6,l6,u6,w6⟩:=jZ he (lo:=1) (hi:=12) (by omega) (by omega) (by omega)
 obtain⟨r7,_,_,w7⟩:=jZ hf (lo:=0) (hi:=r6) (by omega) (by omega) (by omega)
 have e2: ¬(2:Int)=0:=by omega
 have cb: ∀(q:Bool) (x y:Option ((dP×Unit)×Unit)),(∃o:dP,x=some ((o,()),()))->(∃o:dP,y=some ((o,()),()))->∃o:dP,(bif q then x else y)=some ((o,()),()):=λq x y hx hy=>by cases q<;>assumption
 simp only[gJ,w1,w2,w3,w4,w5,w6,w7,zdF,↓xo,aV e2,zdG];repeat' first|exact⟨_,rfl⟩|apply cb
theorem UG {a b c d e f g:Int}(ha:B7 a)(hb:B7 b)(hc:B7 c)(hd:B7 d)(he:B7 e)(hf:B7 f)(hg:B7 g): ∃o:dP,iC WX (((a,b,c,d,e,f,g,()),()),())=some ((o,()),()):=by
 obtain⟨o,h1⟩:=Rk (g:=g) ha hb hc hd he hf;obtain⟨r2,_,_,w2⟩:=jZ hg (lo:=0) (hi:=32) (by omega) (by omega) (by omega)
 by_cases h:r2<11
 ·exact⟨_,by simp only[iC,h1,w2,zdF,↓xo,ot h,zdH];rfl⟩
 ·exact⟨_,by simp only[iC,h1,w2,zdF,↓xo,aV h,zdG];rfl⟩
def Ct (o:Option ((mZ×Unit)×Unit)):Prop:= ∃c:mZ,o=some ((c,()),())/\c.2.2.2.2.2.2.2.2.2.2.2.2.2.2.1=hY
theorem Ct.bif {q:Bool}{x y:Option ((mZ×Unit)×Unit)}(hx:Ct x)(hy:Ct y):Ct (bif q then x else y):=by cases q<;>assumption
structure DoI (d:VU):Prop where
 x0:B7 d.1
 x1:B7 d.2.1
 x2:B7 d.2.2.1
 x3:B7 d.2.2.2.1
 x4:B7 d.2.2.2.2.1
 y0:B7 d.2.2.2.2.2.1.1
 y1:B7 d.2.2.2.2.2.1.2.1
 y2:B7 d.2.2.2.2.2.1.2.2.1
 y3:B7 d.2.2.2.2.2.1.2.2.2.1
 y4:B7 d.2.2.2.2.2.1.2.2.2.2.1
 y5:B7 d.2.2.2.2.2.1.2.2.2.2.2.1
 y6:B7 d.2.2.2.2.2.1.2.2.2.2.2.2.1
theorem UH {d:VU}(h:DoI d):Ct (iG WX ((d,()),())):=by
 obtain⟨x0,x1,x2,x3,x4,⟨y0,y1,y2,y3,y4,y5,y6,⟨⟩⟩,⟨⟩⟩:=d;obtain⟨a0,a1,a2,a3,a4,b0,b1,b2,b3,b4,b5,b6⟩:=h;simp only at a0 a1 a2 a3 a4 b0 b1 b2 b3 b4 b5 b6;obtain⟨o,s1⟩:=UG b0 b1 b2 b3 b4 b5 b6;obtain⟨r2,_,_,w2⟩:=jZ a4 (lo:=0) (hi:=3) (by omega) (by omega) (by omega)
 obtain⟨r3,_,_,w3⟩:=jZ a0 (lo:=0) (hi:=15) (by omega) (by omega) (by omega)
 obtain⟨r4,_,_,w4⟩:=jZ a3 (lo:=0) (hi:=7) (by omega) (by omega) (by omega)
 obtain⟨r5,_,_,w5⟩:=jZ a1 (lo:=0) (hi:=7) (by omega) (by omega) (by omega)
 obtain⟨r6,_,_,w6⟩:=jZ b3 (lo:=95) (hi:=105) (by omega) (by omega) (by omega)
 obtain⟨r7,_,_,w7⟩:=jZ a4 (lo:=0) (hi:=8) (by omega) (by omega) (by omega)
 obtain⟨r8,_,_,w8⟩:=jZ a2 (lo:=1) (hi:=3) (by omega) (by omega) (by omega)
 obtain⟨r9,_,_,w9⟩:=jZ a2 (lo:=1) (hi:=9) (by omega) (by omega) (by omega)
 obtain⟨m7,_,_,w10⟩:=jZ a3 (lo:=0) (hi:=8) (by omega) (by omega) (by omega)
 simp only[iG,s1,w2,w3,w4,w5,w6,w7,w8,w9,w10,zdF,↓xo];repeat' first|exact⟨_,rfl,rfl⟩|apply Ct.bif
theorem Xf (c:mZ)(ht:c.2.2.2.2.2.2.2.2.2.2.2.2.2.2.1.length=32): ∃bs:List Int,ia WX ((c,()),())=some (((),()),(bs,()))/\bs.length<=60:=by
 obtain⟨kd,sq,td,it,id,sd,od,p,q,sh,st,wh,a,b,tg,⟨⟩⟩:=c;simp only at ht;have no: ∀{c:mZ},bf WX ((c,()),())=some ((false,()),())->∃bs:List Int,ia WX ((c,()),())=some (((),()),(bs,()))/\bs.length<=60:=λh=>⟨[],by simp only[ia,h,zdF,zdK,zdH],by simp⟩
 have le: ∀{o:Option ((Unit×Unit)×(List Int×Unit))} (k:Nat),k<=60->Ym k o=true->∃bs:List Int,o=some (((),()),(bs,()))/\bs.length<=60:=λk hk h=>by
  obtain⟨bs,h1,h2⟩:=uB h;exact⟨bs,h1,by omega⟩
 by_cases h1:kd=1
 ·subst h1
  obtain⟨r,hr,_⟩:=FJ sq td it id sd od p q sh st wh a b tg;cases r with
  |false=>exact no hr
  |true=>
   apply le 2 (by omega)
   simp only[ia,hr,zdF,zdJ,zdG];clear hr le no ht;kernel_rfl
 by_cases h2:kd=2
 ·subst h2
  obtain⟨r,hr⟩:=FQ sq td it id sd od p q sh st wh a b tg;cases r with
  |false=>exact no hr
  |true=>
   obtain⟨f,rfl⟩:=mL tg ht;apply le 33 (by omega)
   simp only[ia,hr,zdF,zdJ,zdG];clear hr le no ht h1;kernel_rfl
 by_cases h3:kd=3
 ·subst h3
  obtain⟨r,hr,_⟩:=FK sq td it id sd od p q sh st wh a b tg;cases r with
  |false=>exact no hr
  |true=>
   apply le 28 (by omega)
   simp only[ia,hr,zdF,zdJ,zdG];clear hr le no ht h1 h2;kernel_rfl
 by_cases h4:kd=4
 ·subst h4
  obtain⟨r,hr,_⟩:=FL sq td it id sd od p q sh st wh a b tg;cases r with
  |false=>exact no hr
  |true=>
   apply le 11 (by omega)
   simp only[ia,hr,zdF,zdJ,zdG];clear hr le no ht h1 h2 h3;kernel_rfl
 by_cases h5:kd=5
 ·subst h5
  obtain⟨r,hr,_⟩:=FM sq td it id sd od p q sh st wh a b tg;cases r with
  |false=>exact no hr
  |true=>
   apply le 18 (by omega)
   simp only[ia,hr,zdF,zdJ,zdG];clear hr le no ht h1 h2 h3 h4;kernel_rfl
 by_cases h6:kd=6
 ·subst h6
  obtain⟨r,hr,_⟩:=FN sq td it id sd od p q sh st wh a b tg;cases r with
  |false=>exact no hr
  |true=>
   apply le 7 (by omega)
   simp only[ia,hr,zdF,zdJ,zdG];clear hr le no ht h1 h2 h3 h4 h5;kernel_rfl
 by_cases h7:kd=7
 ·subst h7
  obtain⟨r,hr⟩:=FR sq td it id sd od p q sh st wh a b tg;cases r with
  |false=>exact no hr
  |true=>
   apply le 1 (by omega)
   simp only[ia,hr,zdF,zdJ,zdG];clear hr le no ht h1 h2 h3 h4 h5 h6;kernel_rfl
 by_cases h8:kd=8
 ·subst h8
  obtain⟨r,hr⟩:=FT sq td it id sd od p q sh st wh a b tg;cases r with
  |false=>exact no hr
  |true=>
   apply le 1 (by omega)
   simp only[ia,hr,zdF,zdJ,zdG];clear hr le no ht h1 h2 h3 h4 h5 h6 h7;kernel_rfl
 by_cases h9:kd=9
 ·subst h9
  obtain⟨r,hr,_⟩:=FP sq td it id sd od p q sh st wh a b tg;cases r with
  |false=>exact no hr
  |true=>
   apply le 8 (by omega)
   simp only[ia,hr,zdF,zdJ,zdG];clear hr le no ht h1 h2 h3 h4 h5 h6 h7 h8;kernel_rfl
 exact no (UB sq td it id sd od p q sh st wh a b tg h1 h2 h3 h4 h5 h6 h7 h8 h9)
theorem UI {bs:List Int}(h:bs.length<=200): ∃fb:List Int,gA WX ((bs,()),())=some (((),()),(fb,()))/\fb.length<=bs.length+2:=by
 have hm:=Ps (bs.length:Int);have e8: ¬(8:Int)<0:=by omega
 by_cases h1:1<=(bs.length:Int)/\(bs.length:Int)<=256
 ·rw[decide_eq_true h1] at hm
  refine⟨[WX.wr .u8 (WX.shr .i64 (bs.length:Int) 8),WX.wr .u8 (bs.length:Int)]++bs,?_,by rw[zdP];simp only[zdQ,zdR];omega⟩
  simp only[gA,hm,zdF,zdJ,zdG,↓xo,aV e8,ot (show(((([WX.wr .u8 (WX.shr .i64 (bs.length:Int) 8),WX.wr .u8 (bs.length:Int)]:List Int).length+bs.length:Nat):Int))*((1:Nat):Int)<=((room:Nat):Int) by unfold room;simp only[zdQ,zdR];omega),zdH]
 ·rw[decide_eq_false h1] at hm
  exact⟨[],by simp only[gA,hm,zdF,zdK,zdH],by simp⟩
theorem wu (c:mZ)(i:Int)(ht:c.2.2.2.2.2.2.2.2.2.2.2.2.2.2.1.length=32): ∃fb:List Int,bJ WX ((c,i,()),())=some (((2,i,0,hY,(),()),()),(fb,()))/\fb.length<=62:=by
 obtain⟨bs,h1,h2⟩:=Xf c ht;obtain⟨fb,h3,h4⟩:=UI (bs:=bs) (by omega)
 exact⟨fb,by simp only[bJ,h1,zdF,h3],by omega⟩
inductive A6:vn->Prop
 |conn (i:Nat) (nc:List Int) (hi:i<16) (hn:nc.length=32):A6 (1,(i:Int),0,nc,[],())
 |bytes (i:Nat) (bs:List Int) (hi:i<16) (hb:bs.length<=62):A6 (2,(i:Int),0,hY,bs,())
 |gone (i:Nat) (hi:i<16):A6 (3,(i:Int),0,hY,[],())
 |tick (n:Int) (hn:1<=n/\n<=30):A6 (4,0,n,hY,[],())
structure Vg (q:pf):Prop where
 k:B7 q.1
 c:B7 q.2.1
 d:DoI q.2.2.1
abbrev vS (v:V)(st:List vn):=(((),v.c,(),(),()),(v.cfg,v.now,(),v.ph,v.mp,(),v.bp,v.lp,()),(v.tr,()),(v.op,v.ps,()),v.lg,(v.mt,()),st,v.M,v.L,v.S,v.F,v.O,v.B,())
def StR (v:V)(o:Option aN.R):Prop:= ∃Lc ua,o=some (((),()),(((),Lc,()),vS v ua))/\Lc.length=16/\ua.length<=3/\∀s∈ua,A6 s
theorem FU {i:Nat}(h:i<16):0<=(i:Int)/\(i:Int)<(16:Nat):=by omega
section
variable {v:V}
theorem B8 (h:CI v){nx:List Int}(hx:nx.length=16){q:pf}(hq:Vg q):StR v (aN WX (((),q,()),(((),nx,()),v.e))):=by
 obtain⟨K,C,d,bts,⟨⟩⟩:=q;obtain⟨hk,hc,hd⟩:=hq;simp only at hk hc hd;obtain⟨ci,l1,u1,w1⟩:=jZ hc (lo:=0) (hi:=5) (by omega) (by omega) (by omega)
 obtain⟨i,rfl⟩:=zfz l1;have hi:i<16:=by omega
 obtain⟨r,l2,u2,w2⟩:=jZ hk (lo:=0) (hi:=15) (by omega) (by omega) (by omega)
 by_cases c3:r<=3
 ·obtain⟨nc,n1,n2⟩:=KB d.2.2.2.1
  obtain⟨t,lt,ut,wt⟩:=jZ hd.x1 (lo:=0) (hi:=6) (by omega) (by omega) (by omega)
  have Zd:=I2 t;have Wu:(kk t).length=32:=by simp[kk]
  obtain⟨tag,⟨q1,q2,t1,t2,t3⟩,t4⟩:=M9 Wu n2;have e0:(0:Int)<=0/\(0:Int)<=((32:Nat):Int)/\((32:Nat):Int)<=(32:Nat):=by omega
  have Xg:=zdL (l:=nx) (i:=i) (by omega)
  generalize nx[i]'(by omega)=nxi at Xg
  have HU:=zdL (l:=tag) (i:=0) (by omega)
  generalize tag[0]'(by omega)=tg0 at HU
  obtain⟨f1,s1,b1⟩:=wu (1,0,t,0,0,0,0,0,0,0,0,0,0,0,hY,()) (i:Int) (by simp)
  by_cases r3:r=3
  ·subst r3
   obtain⟨f2,s2,b2⟩:=wu (2,0,0,0,0,0,0,0,0,0,0,0,0,0,tag.set 0 (WX.pJ .u8 tg0 1),()) (i:Int) (by simp[t4])
   refine⟨nx.set i 1,[(1,(i:Int),0,nc,[],()),(2,(i:Int),0,hY,f1,()),(2,(i:Int),0,hY,f2,())],?_,by rw[zej];exact hx,by simp,λs hs=>?_⟩
   ·have z0:(0:Int).toNat=0:=rfl
    have e1:(0:Int)<=0/\(0:Int)<((32:Nat):Int):=by omega
    simp only[aN,V.e,w1,w2,zdF,↓xo,eq_self,Int.reduceEq,iX,nB,zdH,zdG,n1,wt,Zd,ot e0,pG Wu,t1,pG n2,t2,t3,z0,ot e1,HU,ot (FU hi),zdI,Xg,s1,s2]
   ·simp only[zeq,List.mem_nil_iff,or_false] at hs
    rcases hs with rfl|rfl|rfl
    ·exact .conn i nc hi n2
    ·exact .bytes i f1 hi b1
    ·exact .bytes i f2 hi b2
  ·obtain⟨f2,s2,b2⟩:=wu (2,0,0,0,0,0,0,0,0,0,0,0,0,0,tag,()) (i:Int) (by simp[t4])
   refine⟨nx.set i 1,[(1,(i:Int),0,nc,[],()),(2,(i:Int),0,hY,f1,()),(2,(i:Int),0,hY,f2,())],?_,by rw[zej];exact hx,by simp,λs hs=>?_⟩
   ·obtain hr:r=0\/r=1\/r=2:=by omega
    rcases hr with rfl|rfl|rfl
    ·simp only[aN,V.e,w1,w2,zdF,↓xo,eq_self,Int.reduceEq,iX,nB,zdH,zdG,n1,wt,Zd,ot e0,pG Wu,t1,pG n2,t2,t3,ot (FU hi),zdI,Xg,s1,s2]
    ·simp only[aN,V.e,w1,w2,zdF,↓xo,eq_self,Int.reduceEq,iX,nB,zdH,zdG,n1,wt,Zd,ot e0,pG Wu,t1,pG n2,t2,t3,ot (FU hi),zdI,Xg,s1,s2]
    ·simp only[aN,V.e,w1,w2,zdF,↓xo,eq_self,Int.reduceEq,iX,nB,zdH,zdG,n1,wt,Zd,ot e0,pG Wu,t1,pG n2,t2,t3,ot (FU hi),zdI,Xg,s1,s2]
   ·simp only[zeq,List.mem_nil_iff,or_false] at hs
    rcases hs with rfl|rfl|rfl
    ·exact .conn i nc hi n2
    ·exact .bytes i f1 hi b1
    ·exact .bytes i f2 hi b2
 have n0: ¬r=0:=by omega
 have n1: ¬r=1:=by omega
 have n2: ¬r=2:=by omega
 have n3: ¬r=3:=by omega
 by_cases r4:r=4
 ·subst r4
  obtain⟨n,ln,un,wn⟩:=jZ hd.x3 (lo:=1) (hi:=30) (by omega) (by omega) (by omega)
  refine⟨nx,[(4,0,n,hY,[],())],?_,hx,by simp,λs hs=>?_⟩
  ·simp only[aN,V.e,w1,w2,zdF,↓xo,eq_self,Int.reduceEq,iX,nB,zdH,zdG,wn]
  ·rw[List.mem_singleton.1 hs];exact .tick n ⟨ln,un⟩
 by_cases r5:r=5
 ·subst r5
  refine⟨nx,[(3,(i:Int),0,hY,[],())],?_,hx,by simp,λs hs=>?_⟩
  ·simp only[aN,V.e,w1,w2,zdF,↓xo,eq_self,Int.reduceEq,iX,nB,zdH,zdG]
  ·rw[List.mem_singleton.1 hs];exact .gone i hi
 by_cases r6:r=6
 ·subst r6
  have em:0<=(0:Int)/\(0:Int)<=min (bts.length:Int) 60/\min (bts.length:Int) 60<=(bts.length:Int):=by omega
  refine⟨nx,[(2,(i:Int),0,hY,bts.take (min (bts.length:Int) 60).toNat,())],?_,hx,by simp,λs hs=>?_⟩
  ·simp only[aN,V.e,w1,w2,zdF,↓xo,vu,eq_self,Int.reduceEq,iX,nB,zdH,zdG,ot em]
  ·rw[List.mem_singleton.1 hs];exact .bytes i _ hi (by rw[zea];omega)
 by_cases r7:r=7
 ·subst r7
  obtain⟨f1,s1,b1⟩:=wu (WX.wr .i64 (7+(WX.s6 .i64 d.2.2.2.1 1)),0,0,0,0,0,0,0,0,0,0,0,0,0,hY,()) (i:Int) (by simp)
  refine⟨nx,[(2,(i:Int),0,hY,f1,())],?_,hx,by simp,λs hs=>?_⟩
  ·simp only[aN,V.e,w1,w2,zdF,↓xo,eq_self,Int.reduceEq,iX,nB,zdH,zdG,s1]
  ·rw[List.mem_singleton.1 hs];exact .bytes i _ hi b1
 ·obtain⟨c,k1,k2⟩:=UH hd
  have Xg:=zdL (l:=nx) (i:=i) (by omega)
  generalize nx[i]'(by omega)=nxi at Xg
  obtain⟨f1,s1,b1⟩:=wu (c.1,nxi,c.2.2) (i:Int) (by show c.2.2.2.2.2.2.2.2.2.2.2.2.2.2.1.length=32;rw[k2];simp)
  obtain⟨f,o,s,fr,ou,nE,mj⟩:=h i hi;have hA:=M3 nE;simp only[V.e] at hA;by_cases h3:s.1=3
  ·refine⟨nx.set i (i64.wrap (nxi+1)),[(2,(i:Int),0,hY,f1,())],?_,by rw[zej];exact hx,by simp,λs hs=>?_⟩
   ·simp only[aN,V.e,w1,w2,zdF,↓xo,xw,aV n0,aV n1,aV n2,aV n3,aV r4,aV r5,aV r6,aV r7,zdH,zdG,k1,ot (FU hi),zdI,Xg,hA,ot h3,s1]
   ·rw[List.mem_singleton.1 hs];exact .bytes i _ hi b1
  ·refine⟨nx,[(2,(i:Int),0,hY,f1,())],?_,hx,by simp,λs hs=>?_⟩
   ·simp only[aN,V.e,w1,w2,zdF,↓xo,xw,aV n0,aV n1,aV n2,aV n3,aV r4,aV r5,aV r6,aV r7,zdH,zdG,k1,ot (FU hi),zdI,Xg,hA,aV h3,s1]
   ·rw[List.mem_singleton.1 hs];exact .bytes i _ hi b1
end
def m0:MS:=([],[],[],0,0)
theorem zcs {v:V}{i:Nat}(h:v.M[i]?=some e0):zb8 v i m0:=by
 refine⟨[],[],[],h,⟨λp hp=>(by cases hp),λp hp=>(by cases hp),by simp,rfl,rfl⟩,⟨⟨?_,?_,by decide,λa ha=>(by cases ha)⟩,λo ho=>(by cases ho),by decide⟩,λo ho=>(by cases ho)⟩
 ·exact⟨λa ha=>(by cases ha),λa ha=>(by cases ha),List.Pairwise.nil⟩
 ·exact⟨λa ha=>(by cases ha),λa ha=>(by cases ha),List.Pairwise.nil⟩
theorem Ld {n i:Nat}(hn:n<32)(hi:i<8):tb oo n i=0:=by
 unfold tb;rw[zdW,zdW,show oo[n]?=some (List.replicate 8 (0:Int)) from pc hn _]
 show((List.replicate 8 (0:Int))[i]?).getD 0=0
 rw[pc hi];rfl
theorem Jp:wZ oo:=⟨by simp[oo],λr hr=>by rw[(List.mem_replicate.1 hr).2];simp⟩
theorem Xh (a0 a1:Int):((uu a0 a1).all λx=>decide (0<=x.1)&&decide (x.1<=7)&&Nat.beq x.2.2.2.2.2.1.length 32)=true:=by kernel_rfl
theorem Pt (a0 a1:Int):Nat.beq (uu a0 a1).length 32=true:=by kernel_rfl
theorem UJ (a0 a1:Int):Q7 (uu a0 a1):=by
 have h:=List.all_eq_true.1 (Xh a0 a1);refine⟨zff (Pt a0 a1),λx hx=>?_,λx hx=>?_⟩
 ·have:=h x hx
  simp only[zdO,zdU] at this;exact this.1
 ·have:=h x hx
  simp only[zdO,zdU] at this;exact zff this.2
theorem UK: ∀n,n<32->(Wx 32 0 (List.replicate 32 0))[n]?=some (n+1):=by decide
theorem zau: ∀n,n<8->p8[n]?=some (n+1):=by decide
section
variable {P:Nat->V->(Nat->MS)->Prop}
theorem UL (g:u9){i:Nat}(hi:i<16):gU (v0 g) i=s0:=by
 exact uC (DH g i hi)
theorem zct {c:List Int}{g:u9}(h:TD c g)(hp:P 0 (v0 g) (λ_=>m0)):VI P 0 0 (v0 g) (λ_=>m0):=by
 obtain⟨a0,a1,a2,a3,a4,a5,b,r,t,l,d,q,_,_,_,_,_,_,_,_,hr,_,_,_,hq,rfl⟩:=h.ex;have hz: ∀i,i<16->¬(gU (v0 (uu a0 a1,L6.set 1 (a2,a3,a4,a5,()),b,r,t,l,d,q,())) i).1=3:=λi hi=>by rw[UL _ hi];simp[s0]
 refine⟨⟨⟨⟨zau,λi hi=>zcs (pc hi _)⟩,⟨Jp,λn i hn hi=>?_⟩,λn i hn hi=>Ld hn hi,⟨Jp,λn i hn hi=>?_⟩⟩,UJ a0 a1,⟨by simp[v0],by simp[v0],by simp[v0]⟩,TE,UK,λn hn=>⟨(b,r,b,0,()),pc hn _,by show r≠0;omega⟩,UK,λn hn=>⟨_,pc hn _⟩,⟨zeL _,(by show(0:Int)<=1099511627776;decide)⟩⟩,
  λi hi=>⟨i,i,s0,([],false,()),([],false,()),DH _ i hi,⟨by simp,by simp[s0], .inl rfl,by simp[s0]⟩⟩,by simp[v0],⟨rfl,by simp[v0]⟩,hp,⟨.rfl,λi j hi hj h1=>absurd h1 (hz i hi),λi hi h1=>absurd h1 (hz i hi),λf=>?_⟩⟩
 ·show 0<=tb oo n i/\tb oo n i<=_
  rw[Ld hn hi];exact⟨zeL _,by decide⟩
 ·show _<=tb oo n i/\tb oo n i<=_
  rw[Ld hn hi];exact⟨by decide,by decide⟩
 ·have:(List.range 16).countP (λi=>decide ((gU (v0 (uu a0 a1,L6.set 1 (a2,a3,a4,a5,()),b,r,t,l,d,q,())) i).1=3/\(gz (v0 (uu a0 a1,L6.set 1 (a2,a3,a4,a5,()),b,r,t,l,d,q,())).tr (gU (v0 (uu a0 a1,L6.set 1 (a2,a3,a4,a5,()),b,r,t,l,d,q,())) i).2.1).1=f))=0:=by
   rw[List.countP_eq_zero];intro i hi hp;exact hz i (List.mem_range.1 hi) (of_decide_eq_true hp).1
  rw[this];show((0:Nat):Int)<=q
  omega
def GV (P:Nat->V->(Nat->MS)->Prop)(s:Nat)(v:V):Prop:= ∃μ k m,VI P k m v μ/\2*k+lO v.F<=62*s/\m<=8000000*s
theorem GV.le {s s':Nat}{v:V}(h:GV P s v)(hs:s<=s'):GV P s' v:=by
 obtain⟨μ,k,m,h1,h2,h3⟩:=h;exact⟨μ,k,m,h1,by omega,by omega⟩
theorem UM (g:u9):lO (v0 g).F=0:=by
 unfold v0 lO;simp
theorem UN {c:List Int}{g:u9}(h:TD c g)(hp:P 0 (v0 g) (λ_=>m0)):GV P 0 (v0 g):=⟨_,0,0,zct h hp,by rw[UM];omega,by omega⟩
def Rel (st:vn)(ok:Bool)(v v':V):Prop:=v'.cfg=v.cfg/\((ok=false/\v'=v)\/(ok=true/\st.1≠4/\∃i:Nat,i<16/\st.2.1=(i:Int)/\Ew i v v')\/
 (ok=true/\st.1=4/\1<=st.2.2.1/\v'.now=v.now+st.2.2.1/\∀j,j<16->(gU v' j).1=0\/(gU v' j=gU v j/\C3 (gU v j) v'.now (idle v)=false)))
theorem NM (pk:PK P){s:Nat}{v:V}(h:GV P s v)(hs:s<125){st:vn}(kf:A6 st): ∃ok v',aB WX (((),st,()),v.e)=some ((ok,()),v'.e)/\GV P (s+1) v'/\Rel st ok v v':=by
 have h0:=h;obtain⟨μ,k,m,h1,h2,h3⟩:=h;have key: ∀(i n:Nat) {o},n<=62->i<16->st.1≠4->st.2.1=(i:Int)->aB WX (((),st,()),v.e)=o->DoR P k m v i n o->∃ok v',aB WX (((),st,()),v.e)=some ((ok,()),v'.e)/\GV P (s+1) v'/\Rel st ok v v':=by
  intro i n o hn hi hk hc ho hr;subst ho;rcases hr with hr|⟨v',μ',k',m',r1,r2,r3,r4,r5⟩
  ·exact⟨false,v,hr,h0.le (by omega),rfl, .inl ⟨rfl,rfl⟩⟩
  ·exact⟨true,v',r1,⟨μ',k',m',r2,by omega,by omega⟩,r5.cfg, .inr (.inl ⟨rfl,hk,i,hi,hc,r5⟩)⟩
 cases kf with
 |conn i nc hi hn=>exact key i 0 (by omega) hi (by simp) rfl rfl (Jo pk h1 hi hn)
 |bytes i bs hi hb=>exact key i bs.length hb hi (by simp) rfl rfl (NL pk h1 hi bs (by omega) (by omega))
 |gone i hi=>exact key i 0 (by omega) hi (by simp) rfl rfl (Rh pk h1 hi (by omega))
 |tick n hn=>
  rcases Rj pk h1 (by omega) n with hr|⟨v',μ',m',r1,r2,r3,r4,r5,r6,r7,r8⟩
  ·exact⟨false,v,hr,h0.le (by omega),rfl, .inl ⟨rfl,rfl⟩⟩
  ·exact⟨true,v',r1,⟨μ',k,m',r2,by omega,by omega⟩,r7, .inr (.inr ⟨rfl,rfl,r5,r6,r8⟩)⟩
theorem yQ {c:List Int}(hc:Fa c): ∃g,TD c g/\eg WX ((c,()),())=some ((g,()),())/\fj WX ((c,()),())=some (.inr (((),()),((),List.replicate 16 (0:Int),()),(v0 g).e)):=by
 obtain⟨g,h1,h2⟩:=QP hc;have h3:=TF h2;exact⟨g,h2,h1,by simp only[fj,h1,h3,zdF,↓xo,eq_self,iX,zdJ,zdG]⟩
theorem NN (pk:PK P){s:Nat}{v:V}(h:GV P s v)(ua:List vn)(hl:ua.length<=3)(hs:s+3<=125)(kf: ∀x∈ua,A6 x)(p:Unit×(List Int)×Unit)(l:List pf)(n i:Int): ∃v',ag (fh WX) ((l,n,(),i,ua,(ua.length:Int),0,()),p,v.e)=some ((l,n,(),i,()),p,v'.e)/\GV P (s+3) v'/\v'.cfg=v.cfg:=by
 obtain⟨v',l1,l2,l3⟩:=oC (b:=fh WX) ua.length (λj (w:V)=>((l,n,(),i,ua,(ua.length:Int),(j:Int),()),p,w.e)) (λw=>((l,n,(),i,()),p,w.e)) (λj w=>GV P (s+j) w/\w.cfg=v.cfg)
  (λj w hj hI=>by
   have hx:=zdL hj;obtain⟨ok,w',d1,d2,d3,_⟩:=NM pk hI.1 (by omega) (kf _ (zeT hj))
   have e1:=jY hj (by omega)
   generalize ua[j]=x at hx d1;exact⟨w',by simp only[fh,↓xo,xw,ot (show(j:Int)<(ua.length:Int) by omega),ot (show(0:Int)<=(j:Int) by omega),zdH,zdI,hx,zdF,d1,e1],d2,d3.trans hI.2⟩)
  (λw _=>by simp only[fh,↓xo,aV (show¬(ua.length:Int)<(ua.length:Int) by omega),zdG]) v ⟨h,rfl⟩
 exact⟨v',l1,l2.le (by omega),l3⟩
theorem GV.ci {s:Nat}{v:V}(h:GV P s v):CI v:=by obtain⟨_,_,_,h1,_⟩:=h;exact h1.ci
theorem Le (pk:PK P){c:List Int}{g:u9}(hg:TD c g)(hN:fj WX ((c,()),())=some (.inr (((),()),((),List.replicate 16 (0:Int),()),(v0 g).e)))(l:List pf)(hq: ∀q∈l,Vg q)(n:Nat)(hn:n<=40)(hp:P 0 (v0 g) (λ_=>m0)): ∃p v,gQ WX ((c,l,(n:Int),()),())=some (.inr (((),()),p,v.e))/\GV P 120 v/\v.cfg=g:=by
 have key:=pI (b:=eM WX) (λq d=> ∃(i:Nat) (nx:List Int) (v:V),i<=n/\q=n-i/\d=((l,(n:Int),(),(i:Int),()),((),nx,()),v.e)/\nx.length=16/\GV P (3*i) v/\v.cfg=g)
  (λr=> ∃(p:Unit×(List Int)×Unit) (v:V),r=(((),()),p,v.e)/\GV P 120 v/\v.cfg=g) (λq d hd=>by
  obtain⟨i,nx,v,hi,rfl,rfl,hx,hv,P0⟩:=hd;by_cases h1:i<l.length
  ·by_cases h2:i<n
   ·have hm:=zdL h1
    obtain⟨Lc,ua,s1,s2,s3,s4⟩:=B8 hv.ci hx (hq _ (zeT h1));generalize l[i]=mv at hm s1;obtain⟨v',l1,l2,l3⟩:=NN pk hv ua s3 (by omega) s4 ((),Lc,()) l (n:Int) (i:Int)
    have e1:=jY h2 (by omega)
    refine .inl ⟨((l,(n:Int),(),((i+1:Nat):Int),()),((),Lc,()),v'.e),?_,n-(i+1),by omega,i+1,Lc,v',by omega,rfl,rfl,s2,l2.le (by omega),l3.trans P0⟩
    simp only[V.e] at s1 l1⊢;simp only[eM,↓xo,xw,↓xl,ot (show(i:Int)<(l.length:Int) by omega),ot (show(i:Int)<(n:Int) by omega),ot (show(0:Int)<=(i:Int) by omega),zdH,zdI,hm,zdF,s1,l1,e1]
   ·exact .inr ⟨(((),()),((),nx,()),v.e),by simp only[eM,↓xo,ot (show(i:Int)<(l.length:Int) by omega),aV (show¬(i:Int)<(n:Int) by omega),zdH,zdG],_,v,rfl,hv.le (by omega),P0⟩
  ·exact .inr ⟨(((),()),((),nx,()),v.e),by simp only[eM,↓xo,aV (show¬(i:Int)<(l.length:Int) by omega),zdG],_,v,rfl,hv.le (by omega),P0⟩)
 obtain⟨r,h1,p,v,rfl,h2,h3⟩:=key n ((l,(n:Int),(),0,()),((),List.replicate 16 (0:Int),()),(v0 g).e) ⟨0,_,v0 g,by omega,by omega,rfl,by simp,UN hg hp,rfl⟩
 exact⟨p,v,by simp only[gQ,hN,zdF,↓xl,h1],h2,h3⟩
end
end AM
