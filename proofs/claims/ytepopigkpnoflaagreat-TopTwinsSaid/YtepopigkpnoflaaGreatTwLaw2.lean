/- The engine and the venue, in plain Lean: what the printed functions keep, continued. Conditions: none. -/
import Derived.Test.YtepopigkpnoflaaGreatTwLaw1
set_option linter.unusedVariables false
set_option linter.unusedSimpArgs false
set_option maxRecDepth 100000
namespace AM
open Go Go.Proofs IntKind
abbrev T0:oS:=(0,0,0,0,false,gN,())
structure Qq (tr:List oS):Prop where
 len:tr.length=32
 kj: ∀x∈tr,0<=x.1/\x.1<=7
 key: ∀x∈tr,x.2.2.2.2.2.1.length=32
def iC (tr:List oS)(n:Int):oS:=tr.getD n.toNat T0
noncomputable def lC (tr:List oS)(n:Int):Bool:=if 0<=n/\n<=31 then !af ((iC tr n).2.2.1=0) else false
noncomputable def uW (tr:List oS)(n:Int):oS:=if lC tr n=true then iC tr n else T0
abbrev QT (tr:List oS):((List oS)×Unit)×Unit:=((tr,()),())
section
variable {tr:List oS}
theorem ub (h:Qq tr){n:Int}(hn:0<=n/\n<=31):tr[n.toNat]?=some (iC tr n):=by
 have:=zdi (l:=tr) (i:=n.toNat) (by rw[h.len];omega)
 unfold iC;rw[zdt,this];rfl
theorem Cw {n:Int}(hn:0<=n/\n<=31):0<=n/\n<(32:Nat):=by omega
theorem oJ (h:Qq tr)(n:Int):bJ WX (((),n,()),QT tr)=some ((lC tr n,()),QT tr):=by
 unfold lC;by_cases hn:0<=n/\n<=31
 ·rw[if_pos hn]
  simp only[bJ,ib,↓xo,ot (show n>=0 by omega),ot hn.2,zde,zdc,ot (Cw hn),ub h hn]
 ·rw[if_neg hn]
  by_cases h0:n>=0
  ·simp only[bJ,ib,↓xo,ot h0,bc (show¬n<=31 by omega),zde,zdd,zdc]
  ·simp only[bJ,ib,↓xo,bc h0,zdd,zdc]
theorem qE {n:Int}(h:lC tr n=true):0<=n/\n<=31:=by
 unfold lC at h;split at h
 ·assumption
 ·cases h
theorem oe (h:Qq tr)(n:Int):bF WX (((),n,()),QT tr)=some ((uW tr n,()),QT tr):=by
 have h1:=oJ h n;unfold uW;cases ht:lC tr n with
 |true=>
  rw[ht] at h1;have hn:=qE ht;simp only[bF,h1,zdc,zdg,zdd,↓xo,ot (Cw hn),zde,ub h hn,if_true]
 |false=>
  rw[ht] at h1;simp only[bF,h1,zdc,zdh,zde,zdk,if_false]
theorem G9 (h:Qq tr)(n:Int):0<=(uW tr n).1/\(uW tr n).1<=7:=by
 unfold uW;split
 ·rename_i ht
  exact h.kj _ (zee (ub h (qE ht)))
 ·exact⟨zei _,by decide⟩
theorem Tx (h:Qq tr)(n:Int):(uW tr n).2.2.2.2.2.1.length=32:=by
 unfold uW;split
 ·rename_i ht
  exact h.key _ (zee (ub h (qE ht)))
 ·rfl
noncomputable def Wj (tr:List oS)(n:Int)(b:Bool):List oS:=if lC tr n=true then tr.set n.toNat ((iC tr n).1,(iC tr n).2.1,(iC tr n).2.2.1,(iC tr n).2.2.2.1,b,(iC tr n).2.2.2.2.2) else tr
theorem Oy (h:Qq tr)(n:Int)(b:Bool):iO WX (((),n,b,()),QT tr)=some ((lC tr n,()),QT (Wj tr n b)):=by
 have h1:=oJ h n;unfold Wj;cases ht:lC tr n with
 |true=>
  rw[ht] at h1;have hn:=qE ht;simp only[iO,h1,zdc,zdg,zdd,↓xo,ot (Cw hn),zde,ub h hn,if_true]
 |false=>
  rw[ht] at h1;simp only[iO,h1,zdc,zdh,zde,zdk,if_false]
structure Fv (tr tr':List oS):Prop where
 len:tr'.length=tr.length
 same: ∀i:Nat,(tr'.getD i T0).1=(tr.getD i T0).1/\(tr'.getD i T0).2.1=(tr.getD i T0).2.1/\(tr'.getD i T0).2.2.1=(tr.getD i T0).2.2.1/\(tr'.getD i T0).2.2.2.2.2=(tr.getD i T0).2.2.2.2.2
theorem Fv.rfl {tr:List oS}:Fv tr tr:=⟨Eq.refl _,λ_=>⟨Eq.refl _,Eq.refl _,Eq.refl _,Eq.refl _⟩⟩
theorem Fv.trans {a b c:List oS}(h:Fv a b)(k:Fv b c):Fv a c:=⟨k.len.trans h.len,λi=>⟨(k.same i).1.trans (h.same i).1,(k.same i).2.1.trans (h.same i).2.1,(k.same i).2.2.1.trans (h.same i).2.2.1,(k.same i).2.2.2.trans (h.same i).2.2.2⟩⟩
theorem Fv.inv {a b:List oS}(h:Fv a b)(k:Qq a):Qq b:=by
 have key: ∀x∈b,∃y∈a,x.1=y.1/\x.2.2.2.2.2=y.2.2.2.2.2:=λx hx=>by
  obtain⟨i,hi,rfl⟩:=zdU hx;have hl:=h.len;have h1:=h.same i;have e1:b.getD i T0=b[i]:=by rw[zdt,zdi hi];rfl
  have e2:a.getD i T0=a[i]'(by omega):=by rw[zdt,zdi (by omega)];rfl
  rw[e1,e2] at h1;exact⟨a[i]'(by omega),zeq _,h1.1,h1.2.2.2⟩
 refine⟨by rw[h.len];exact k.len,λx hx=>?_,λx hx=>?_⟩
 ·obtain⟨y,hy,e,_⟩:=key x hx
  rw[e];exact k.kj y hy
 ·obtain⟨y,hy,_,e⟩:=key x hx
  rw[e];exact k.key y hy
theorem IU (tr:List oS)(n:Int)(b:Bool):Fv tr (Wj tr n b):=by
 unfold Wj;split
 ·refine⟨by rw[zdQ],λi=>?_⟩
  simp only[zdt,zeJ];by_cases e:n.toNat=i
  ·subst e
   rw[if_pos rfl];by_cases hl:n.toNat<tr.length
   ·rw[if_pos hl]
    simp[iC,zdt]
   ·rw[if_neg hl,List.getElem?_eq_none (by omega)]
    exact⟨rfl,rfl,rfl,rfl⟩
  ·rw[if_neg e];exact⟨rfl,rfl,rfl,rfl⟩
 ·exact .rfl
structure PhI (ph:Ih):Prop where
 a:ph.1.length=8
 b:ph.2.1.length=8
 c:ph.2.2.1.length=8
theorem MR {α:Type}{l:List α}(h:l.length=8){n:Int}(hn:0<=n/\n<=7): ∃x,l[n.toNat]?=some x:=⟨_,zdi (by rw[h];omega)⟩
theorem IV {n:Int}(hn:0<=n/\n<=7):0<=n/\n<(8:Nat):=by omega
def An {α β:Type}(y:β)(o:Option (α×β)):Prop:= ∃x,o=some (x,y)
theorem An.bif {α β:Type}{y:β}{c:Bool}{a b:Option (α×β)}(h1:An y a)(h2:An y b):An y (bif c then a else b):=by cases c<;>assumption
theorem An.mk {α β:Type}(x:α)(y:β):An y (some (x,y)):=⟨x,rfl⟩
theorem Tz (x:Bool×Unit):iL WX (x,())=some (((bif x.1 then 0 else 7),()),()):=by obtain⟨b,⟨⟩⟩:=x;cases b<;>rfl
theorem Qr {ph:Ih}(hp:PhI ph)(x:oS)(i:Int):An () (jy WX ((ph,x,i,()),())):=by
 by_cases h0:i<0
 ·exact⟨(1,()),by simp only[jy,↓xo,ot h0,zde]⟩
 by_cases h1:i>=8
 ·exact⟨(1,()),by simp only[jy,↓xo,bc h0,ot h1,zde,zdd]⟩
 obtain⟨b,hb⟩:=MR hp.a (n:=i) (by omega)
 simp only[jy,↓xo,xw,bc h0,bc h1,zdd,gR,zdc,bc (sV i),ot (show 0<=i/\i<(8:Nat) by omega),zde,hb]
 repeat' first|exact An.mk _ _|apply An.bif
theorem KA {ph:Ih}(hp:PhI ph)(x y:oS)(hx:0<=x.1/\x.1<=7):An () (gT WX ((ph,x,y,()),())):=by
 obtain⟨b,hb⟩:=MR hp.c hx;simp only[gT,↓xo,xw,gR,zdc,bc (sV y.1),ot (IV hx),zde,zdd,hb];repeat' first|exact An.mk _ _|apply An.bif
theorem An.bind {α β γ δ:Type}{y:β}{z:δ}{o:Option (α×β)}{f:α×β->Option (γ×δ)}(h:An y o)(k: ∀x,An z (f (x,y))):An z (o.bind f):=by
 obtain⟨x,rfl⟩:=h;exact k x
theorem Wk (h:Qq tr){ph:Ih}(hp:PhI ph)(n d i o:Int):An (QT tr) (lA WX (((),ph,n,d,i,o,()),QT tr)):=by
 have hx:=G9 h n;have hb:=(MR hp.b hx);obtain⟨b,hb⟩:=hb;have k1: ∀x i,An () (jy WX ((ph,x,i,()),())):=λx i=>Qr hp x i;have k2: ∀y,An () (gT WX ((ph,uW tr n,y,()),())):=λy=>KA hp _ y hx;simp only[lA,oJ h,oe h,↓xo,zdc,ot (IV hx),zde,hb,gR,Tz];repeat' first|exact An.mk _ _|apply An.bif|(refine An.bind (k1 _ _) λx=>?_)|(refine An.bind (k2 _) λx=>?_;rw[Tz,zdc])
theorem Oz (h:Qq tr)(n sc:Int):An (QT tr) (iN WX (((),n,sc,()),QT tr)):=by
 obtain⟨s,h1,_⟩:=nB (b:=cJ WX) 32 (λk (s:Int)=>(((),n,sc,(),s,tr,(k:Int),()),(tr,()),(uW tr n,()))) (λs=>((s,()),(tr,()),(uW tr n,()))) (λ_ _=>True)
  (λk s hk _=>by
   have hx:=zdi (l:=tr) (i:=k) (by rw[h.len];exact hk)
   generalize tr[k]'(by rw[h.len];exact hk)=x at hx
   have e1:=lx hk (by omega)
   have key: ∃s',cJ WX (((),n,sc,(),s,tr,(k:Int),()),(tr,()),(uW tr n,()))=some (.inl (((),n,sc,(),s',tr,((k+1:Nat):Int),()),(tr,()),(uW tr n,()))):=by
    simp only[cJ,↓xo,xw,ot (show(k:Int)<32 by omega),ot (qK hk),zde,zdf,hx,zdc,oJ h,bc (sV (k:Int)),zdd,e1]
    have cb: ∀(c:Bool) (a b:Option (cJ.D⊕cJ.R)),(∃s',a=some (.inl (((),n,sc,(),s',tr,((k+1:Nat):Int),()),(tr,()),(uW tr n,()))))->(∃s',b=some (.inl (((),n,sc,(),s',tr,((k+1:Nat):Int),()),(tr,()),(uW tr n,()))))->∃s',(bif c then a else b)=some (.inl (((),n,sc,(),s',tr,((k+1:Nat):Int),()),(tr,()),(uW tr n,()))):=λc a b ha hb=>by cases c<;>assumption
    repeat' first|exact⟨_,rfl⟩|apply cb
   obtain⟨s',hs⟩:=key;exact⟨s',hs,trivial⟩)
  (λs _=>by simp only[cJ,↓xo,bc (show¬((32:Nat):Int)<32 by omega),zdd]) 0 trivial
 change ag (cJ WX) (((),n,sc,(),0,tr,0,()),(tr,()),(uW tr n,()))=_ at h1;exact⟨(s,()),by simp only[iN,oe h,zdc,↓xl,h1]⟩
end
theorem TA (k:vL)(now:Int)(h:k.2.1≠0): ∃b k',fj WX (((),now,()),(k,()))=some ((b,()),(k',()))/\k'.2.1=k.2.1:=by
 have key: ∃k1,fi WX (((),now,()),(k,()))=some ((),(k1,()))/\k1.2.1=k.2.1:=by
  by_cases h1:now<=k.2.2.2.1
  ·exact⟨k,by simp only[fi,↓xo,ot h1,zde],rfl⟩
  ·by_cases h2:i64.wrap (k.2.2.1+i64.wrap (Int.tdiv (i64.wrap (now-k.2.2.2.1)) k.2.1))>=k.1
   ·refine⟨_,(?_:_=some ((),((k.1,k.2.1,k.1,now,()),()))),rfl⟩
    simp only[fi,↓xo,xw,bc h1,bc h,zdd,ot h2,zde]
   ·refine⟨?w,?_,?_⟩
    rotate_left
    ·simp only[fi,↓xo,xw,bc h1,bc h,zdd,bc h2]
     rfl
    ·rfl
 obtain⟨k1,h1,h2⟩:=key;by_cases c1:k1.2.2.1=0
 ·exact⟨false,k1,by simp only[fj,h1,zdc,↓xo,ot c1,zde],h2⟩
 ·by_cases c2:k1.2.2.1=k1.1
  ·refine⟨true,?w2,?_,?_⟩
   rotate_left
   ·simp only[fj,h1,zdc,↓xo,bc c1,ot c2,zde,zdd]
    rfl
   ·exact h2
  ·refine⟨true,?w3,?_,?_⟩
   rotate_left
   ·simp only[fj,h1,zdc,↓xo,bc c1,bc c2,zdd]
    rfl
   ·exact h2
theorem EY {m:MS}(h:ya m)(k:Nat)(out:List lX):jY k m out=(m,out):=by
 obtain⟨A,B,ws,last,no⟩:=m;cases k with
 |zero=>rfl
 |succ k=>
  have:ws.findIdx? (IL last)=none:=by
   rw[zeS];exact λx hx=>h x hx
  unfold jY;rw[this]
theorem MT (o:ek){m:MS}(hh:ya m): ∃x rest,(ld o m).2=x::rest/\(¬x.2.2.2.2.2.2.1=0->(ld o m).1=m):=by
 unfold ld;split
 ·exact⟨_,_,rfl,λ_=>by simp only[EY hh]⟩
 ·split
  ·exact⟨_,_,rfl,λq=>absurd rfl q⟩
  ·refine⟨_,_,rfl,λq=>?_⟩
   unfold jh at q⊢;split
   ·exact congrArg Prod.fst (EY hh _ _)
   ·rename_i h0
    rw[if_neg h0] at q;split at q
    ·exact absurd rfl q
    ·exact absurd rfl q
structure SS (v:V)(μ:Nat->MS):Prop where
 si:SI v μ
 tr:Qq v.tr
 ph:PhI v.ph
 Xz:v.cfg.2.1.length=32
 bp: ∀n,n<32->v.bp[n]?=some (n+1)
 B: ∀n,n<32->∃k,v.B[n]?=some (k,())/\k.2.1≠0
 lp: ∀n,n<32->v.lp[n]?=some (n+1)
 L: ∀n,n<32->∃k,v.L[n]?=some (k,())
 now:0<=v.now/\v.now<=1099511627776
abbrev l0:vL:=(0,0,0,0,())
def amR (lI:ek)(p q:Int):ek:=(lI.1,lI.2.1,lI.2.2.1,lI.2.2.2.1,lI.2.2.2.2.1,p,q,min (Od.show lI) q,lI.2.2.2.2.2.2.2.2)
inductive OA (v:V)(μ:Nat->MS):(Nat->MS)->List (List Int)->Prop
 |same:OA v μ μ v.ps
 |TB (x:Int) (μ':Nat->MS) (h: ∀i,μ' i=μ i\/μ' i=(mM x (μ i)).1):OA v μ μ' v.ps
 |rem (i:Nat) (t d:Int) (hi:i<8):OA v μ (wA μ i ((mL t d (μ i).1 (μ i).2.1 (μ i).2.2.1).2.2.1,(mL t d (μ i).1 (μ i).2.1 (μ i).2.2.1).2.2.2.1,(mL t d (μ i).1 (μ i).2.1 (μ i).2.2.1).2.2.2.2,(μ i).2.2.2)) v.ps
 |add (i:Nat) (o:ek) (hi:i<8) (h:BD v.op v.ps (v.cfg.2.1.getD o.1.toNat l0) o i):OA v μ (wA μ i (ld o (μ i)).1) (ua i v.ps (ld o (μ i)).2)
 |OB (i:Nat) (n:Nat) (d p q:Int) (lI:ek) (hi:i<8) (hn:n<32) (hw:sT n d (μ i).1 (μ i).2.1 (μ i).2.2.1=some lI)
   (h: ¬p=Od.aY lI\/q>Od.eX lI->BD (Ow v.op n i (tb v.op n i-Od.eX lI)) v.ps (v.cfg.2.1.getD n l0) (amR lI p q) i):
   OA v μ (wA μ i (fS n d p q (μ i)).2.1) (ua i v.ps (fS n d p q (μ i)).2.2)
structure Kept (v v':V):Prop where
 eq:v'={v with ph:=v'.ph,tr:=v'.tr,op:=v'.op,ps:=v'.ps,M:=v'.M,L:=v'.L,B:=v'.B}
 tr:Fv v.tr v'.tr
theorem Kept.rfl (v:V):Kept v v:=⟨Eq.refl v, .rfl⟩
def MU (v:V)(μ:Nat->MS)(o:Option ((((Unit×Int×Unit)×(wR×Int×Unit×Ih×(List Nat)×Unit×(List Nat)×(List Nat)×Unit)×((List oS)×Unit)×((List (List Int))×(List (List Int))×Unit)×List gO×(List uq)×(List ti)×(List vz)×Unit))⊕((List gO×Int×Unit)×ST))):Prop:=
 ∃v' μ',SS v' μ'/\Kept v v'/\OA v μ μ' v'.ps/\((∃e,o=some (.inl (((),e,()),sE v' [])))\/∃out,out.length<=80000000/\o=some (.inr ((out,0,()),v'.s)))
section
variable {v:V}{μ:Nat->MS}{i n:Nat}
theorem MU.same (h:SS v μ)(e:Int){o}(ho:o=some (.inl (((),e,()),sE v []))):MU v μ o:=⟨v,μ,h, .rfl v, .same, .inl ⟨e,ho⟩⟩
theorem BE (h:SS v μ)(n d i o:Int): ∃e,de WX (((),n,d,i,o,()),v.s)=some ((e,()),v.s):=by
 obtain⟨⟨e,⟨⟩⟩,h1⟩:=Wk h.tr h.ph n d i o;exact⟨e,by simp only[de,V.s,h1,zdc]⟩
theorem OC (h:SS v μ)(hn:n<32):v.cfg.2.1[n]?=some (v.cfg.2.1.getD n l0):=by
 have:=zdi (l:=v.cfg.2.1) (i:=n) (by rw[h.Xz];exact hn)
 rw[zdt,this];rfl
theorem SS.kn (h:SS v μ){op ps M}{μ':Nat->MS}(hs:SI {v with op:=op,ps:=ps,M:=M} μ'):SS {v with op:=op,ps:=ps,M:=M} μ':=⟨hs,h.tr,h.ph,h.Xz,h.bp,h.B,h.lp,h.L,h.now⟩
theorem BF (μ:Nat->MS)(i:Nat):wA μ i (μ i)=μ:=by
 funext j
 unfold wA;split
 ·rename_i e;rw[e]
 ·rfl
theorem Wl (h:SS v μ)(hi:i<8)(l:vL)(o:ek): ∃e,gD WX (((),l,o,(i:Int),()),IP v.op v.ps)=some ((e,()),IP v.op v.ps)/\(e=0->BD v.op v.ps l o i):=Kw h.si.op.wz h.si.ps.wz hi l o h.si.op.Cz h.si.ps.Cz
theorem OD (hm:IQ v μ)(ho:KV v.op)(hx: ∀n j,n<32->j<8->j≠i->tb v.op n j=wM n (μ j))(hp:Qn v.ps)(hi:i<8)(l:List lX)(hl:l.length<=70)(hc: ∀x∈l,sU x): ∃out mQ,eU WX (((),(i:Int),l,()),v.s)=some ((out,()),{v with ps:=ua i v.ps l,op:=mQ}.s)/\SI {v with ps:=ua i v.ps l,op:=mQ} μ/\out.length<=80000000:=by
 obtain⟨out,mQ,h1,h2,h3,h4,h5⟩:=Wi hm ho hp hi l hl hc;refine⟨out,mQ,h1,⟨⟨hm.mp,hm.at_⟩,h3,λn j hn hj=>?_,h2⟩,h5⟩;show tb mQ n j=_
 rw[h4 n j hn];split
 ·rename_i e;rw[e]
 ·rename_i e;exact hx n j hn hj e
theorem TC (h:SS v μ)(hn:n<32)(hi:i<8)(kd sq td id sd od pr qt sh st wh a b:Int)(tg:List Int):MU v μ (fu WX (((),(n:Int),(kd,sq,td,(i:Int),id,sd,od,pr,qt,sh,st,wh,a,b,tg,()),()),v.s)):=by
 obtain⟨e,lP⟩:=BE h (n:Int) 1 (i:Int) (n:Int);simp only[V.s] at lP;by_cases he:e=0
 ·subst he
  have htr:=oe h.tr (n:Int);have F8:=OC h hn;generalize ho:((n:Int),id,(uW v.tr n).1,sd,od,pr,qt,sh,st,())=o;obtain⟨e2,Ov,KO⟩:=Wl h hi (v.cfg.2.1.getD n l0) o;by_cases he2:e2=0
  ·subst he2
   have Nw:=KO rfl;obtain⟨bs,ss,eY,hM,hB,hI,hH⟩:=h.si.qL.at_ i hi;obtain⟨oT,oU,HV,a1,a2,a3,a4,a5⟩:=Tp (last:=(μ i).2.2.2.1) (no:=(μ i).2.2.2.2) hB hI o;have a6:=EV o (μ i) hI;obtain⟨x,rest,b1,b2⟩:=MT o hH;change dF WX (((),o,()),Cu (μ i).2.2.2.1 (μ i).2.2.2.2 bs ss (μ i).2.2.1 eY)=some (((),()),((),(),()),kp (ld o (μ i)).1.2.2.2.1 (ld o (μ i)).1.2.2.2.2,(ld o (μ i)).1.2.2.1,oT,oU,(ld o (μ i)).2,HV,()) at a1;have m1:=Di h.si.qL hi (m:=(ld o (μ i)).1) a2 a3 a4;have hp:=h.si.qL.mp i hi;have e0:(0:Int)<=0/\(0:Int)<((((ld o (μ i)).2.length:Nat)):Int):=by rw[b1];simp only[zdn];omega
   have e1:(ld o (μ i)).2[(0:Int).toNat]?=some x:=by rw[b1];rfl
   by_cases hx:x.2.2.2.2.2.2.1=0
   ·obtain⟨out,mQ,c1,c2,c3⟩:=OD m1 h.si.op (λm j hm hj lR=>by unfold wA;rw[if_neg lR];exact h.si.MQ m j hm hj) h.si.ps hi (ld o (μ i)).2 a5 a6
    refine⟨{v with ps:=ua i v.ps (ld o (μ i)).2,op:=mQ,M:=v.M.set i (Cu (ld o (μ i)).1.2.2.2.1 (ld o (μ i)).1.2.2.2.2 oT oU (ld o (μ i)).1.2.2.1 HV)},wA μ i (ld o (μ i)).1,h.kn c2,⟨rfl, .rfl⟩,OA.add i o hi (by rw[show o.1.toNat=n by rw[<-ho];exact zdf n];exact Nw), .inr ⟨out,c3,?_⟩⟩
    simp only[V.s] at c1⊢;simp only[fu,lP,zdc,↓xo,eq_self,iD,zdg,zdd,htr,ot (qK hn),zde,zdf,F8,ho,Ov,ot (CV hi),hp,al,hM,a1,ot e0,e1,ot hx,c1]
   ·have hμ:=b2 hx
    have m2:wA μ i (ld o (μ i)).1=μ:=by rw[hμ];exact BF μ i
    rw[m2] at m1;refine⟨{v with M:=v.M.set i (Cu (ld o (μ i)).1.2.2.2.1 (ld o (μ i)).1.2.2.2.2 oT oU (ld o (μ i)).1.2.2.1 HV)},μ,h.kn (op:=v.op) (ps:=v.ps) ⟨m1,h.si.op,h.si.MQ,h.si.ps⟩,⟨rfl, .rfl⟩, .same, .inl ⟨x.2.2.2.2.2.2.1,?_⟩⟩;simp only[V.s];simp only[fu,lP,zdc,↓xo,eq_self,iD,zdg,zdd,htr,ot (qK hn),zde,zdf,F8,ho,Ov,ot (CV hi),hp,al,hM,a1,ot e0,e1,bc hx,zdh]
  ·refine .same h e2 ?_
   simp only[V.s,fu,lP,zdc,↓xo,eq_self,iD,zdg,zdd,htr,ot (qK hn),zde,zdf,F8,ho,Ov,bc he2,zdh]
 ·refine .same h e ?_
  simp only[V.s,fu,lP,zdc,↓xo,bc he,zdh,zde]
end
theorem BG {t d:Int}{m:Nat}{o:ek}: ∀{A:List nw},mT t d A=some (m,o)->o∈tX A/\o.1=t
 | [],h=>by cases h
 |a::A,h=>by
  unfold mT at h;unfold tX;rw[zd0];cases ho:Qi t d a with
  |some x=>
   rw[ho] at h;simp only[zdj,Prod.mk.injEq] at h;obtain⟨_,rfl⟩:=h;unfold Qi at ho;have hp:Od.is t d x=true:=List.find?_some ho;exact⟨zdu _ (List.mem_of_find?_eq_some ho),(of_decide_eq_true hp).1⟩
  |none=>
   rw[ho] at h;simp only[zd9] at h;obtain⟨⟨m',o'⟩,h1,h2⟩:=h;simp only[Prod.mk.injEq] at h2;obtain⟨_,rfl⟩:=h2;obtain⟨i1,i2⟩:=BG h1;exact⟨zdv _ i1,i2⟩
theorem TD {t d:Int}{A B:List nw}{ws:List ek}{o:ek}(h:sT t d A B ws=some o):o∈xZ A B ws/\o.1=t:=by
 unfold sT uV at h;unfold xZ;cases hA:mT t d A with
 |some x=>
  rw[hA] at h;simp only[zdj] at h;subst h;obtain⟨i1,i2⟩:=BG (o:=x.2) hA;exact⟨zdu _ i1,i2⟩
 |none=>
  rw[hA] at h;cases hB:mT t d B with
  |some x=>
   rw[hB] at h;simp only[zdj] at h;subst h;obtain⟨i1,i2⟩:=BG (o:=x.2) hB;exact⟨zdv _ (zdu _ i1),i2⟩
  |none=>
   rw[hB] at h;cases hw:ws.findIdx? (Od.is t d) with
   |none=>rw[hw] at h;cases h
   |some n=>
    rw[hw] at h;obtain⟨hn,hp,_⟩:=List.findIdx?_eq_some_iff_getElem.1 hw;have hg:ws.getD n o0=ws[n]:=by rw[zdt,zdi hn];rfl
    simp only[hg,zdj] at h;subst h;exact⟨zdv _ (zdv _ (zeq hn)),(of_decide_eq_true hp).1⟩
theorem TE {t:Int}{l:List ek}(h: ∀o∈l,1<=Od.eX o){o:ek}(ho:o∈l)(ht:o.1=t):Od.eX o<=sC t l:=by
 unfold sC;induction l with
 |nil=>cases ho
 |cons x l ih=>
  have nn:0<=jH (l.map λo=>if o.1=t then Od.eX o else 0):=by
   clear ih ho;induction l with
   |nil=>exact zei _
   |cons y l Ud=>
    have:=Ud λo ho=>by
     rcases List.mem_cons.1 ho with rfl|ho
     ·exact h _ (zdq ..)
     ·exact h _ (zdp _ (zdp _ ho))
    have hy:=h y (zdp _ (zdq ..));simp only[zea,jH,zd8] at this⊢;split<;>omega
  have hx:=h x (zdq ..);simp only[zea,jH,zd8] at*;rcases List.mem_cons.1 ho with rfl|ho
  ·rw[if_pos ht];omega
  ·have:=ih (λo ho=>h o (zdp _ ho)) ho
   split<;>omega
theorem MV {t d p q:Int}{m:MS}(h: ¬(fS t d p q m).1=0):(fS t d p q m).2.1=m:=by
 unfold fS at h⊢;split
 ·rfl
 ·rename_i lI hw
  rw[hw] at h;simp only at h⊢;split
  ·rfl
  ·rename_i h1
   rw[if_neg h1] at h;split at h
   ·exact absurd rfl h
   ·exact absurd rfl h
section
variable {v:V}{μ:Nat->MS}{i n:Nat}
theorem EZ (h:SS v μ)(hn:n<32)(hi:i<8){d p q:Int}{lI:ek}(hw:sT n d (μ i).1 (μ i).2.1 (μ i).2.2.1=some lI){Tw:List (List Int)}(ho:KV Tw)(hx: ∀m j,m<32->j<8->tb Tw m j=tb v.op m j)
  (hr: ¬p=Od.aY lI\/q>Od.eX lI->BD (Ow v.op n i (tb v.op n i-Od.eX lI)) v.ps (v.cfg.2.1.getD n l0) (amR lI p q) i) {bs ss:List Nat} {st:List gF} (hM:v.M[i]?=some (Cu (μ i).2.2.2.1 (μ i).2.2.2.2 bs ss (μ i).2.2.1 st)) (hB:Bk bs ss st (μ i).1 (μ i).2.1):
  ∃oT oU eY,gd WX (((),(n:Int),d,p,q,()),Cu (μ i).2.2.2.1 (μ i).2.2.2.2 bs ss (μ i).2.2.1 st)=some (((),(fS n d p q (μ i)).1,()),Tq (fS n d p q (μ i)).2.1.2.2.2.1 (fS n d p q (μ i)).2.1.2.2.2.2 oT oU (fS n d p q (μ i)).2.1.2.2.1 (fS n d p q (μ i)).2.2 eY)/\
  ((¬(fS n d p q (μ i)).1=0/\SS {v with op:=Tw,M:=v.M.set i (Cu (fS n d p q (μ i)).2.1.2.2.2.1 (fS n d p q (μ i)).2.1.2.2.2.2 oT oU (fS n d p q (μ i)).2.1.2.2.1 eY)} μ)\/
   ((fS n d p q (μ i)).1=0/\∃out mQ,eU WX (((),(i:Int),(fS n d p q (μ i)).2.2,()),{v with op:=Tw,M:=v.M.set i (Cu (fS n d p q (μ i)).2.1.2.2.2.1 (fS n d p q (μ i)).2.1.2.2.2.2 oT oU (fS n d p q (μ i)).2.1.2.2.1 eY)}.s)=some ((out,()),{v with ps:=ua i v.ps (fS n d p q (μ i)).2.2,op:=mQ,M:=v.M.set i (Cu (fS n d p q (μ i)).2.1.2.2.2.1 (fS n d p q (μ i)).2.1.2.2.2.2 oT oU (fS n d p q (μ i)).2.1.2.2.1 eY)}.s)/\
    SS {v with ps:=ua i v.ps (fS n d p q (μ i)).2.2,op:=mQ,M:=v.M.set i (Cu (fS n d p q (μ i)).2.1.2.2.2.1 (fS n d p q (μ i)).2.1.2.2.2.2 oT oU (fS n d p q (μ i)).2.1.2.2.1 eY)} (wA μ i (fS n d p q (μ i)).2.1)/\out.length<=80000000)):=by
 obtain⟨_,_,_,_,_,hI,hH⟩:=h.si.qL.at_ i hi;obtain⟨oT,oU,eY,a1,a2,a3,a4,a5,a6⟩:=Ts (last:=(μ i).2.2.2.1) (no:=(μ i).2.2.2.2) hB hI hH (n:Int) d p q;change gd WX (((),(n:Int),d,p,q,()),Cu (μ i).2.2.2.1 (μ i).2.2.2.2 bs ss (μ i).2.2.1 st)=some (((),(fS n d p q (μ i)).1,()),Tq (fS n d p q (μ i)).2.1.2.2.2.1 (fS n d p q (μ i)).2.1.2.2.2.2 oT oU (fS n d p q (μ i)).2.1.2.2.1 (fS n d p q (μ i)).2.2 eY) at a1;have m1:=Di h.si.qL hi (m:=(fS n d p q (μ i)).2.1) a2 a3 a4;refine⟨oT,oU,eY,a1,?_⟩;by_cases he:(fS n d p q (μ i)).1=0
 ·refine .inr ⟨he,?_⟩
  obtain⟨out,mQ,c1,c2,c3⟩:=OD (v:={v with op:=Tw,M:=v.M.set i (Cu (fS n d p q (μ i)).2.1.2.2.2.1 (fS n d p q (μ i)).2.1.2.2.2.2 oT oU (fS n d p q (μ i)).2.1.2.2.1 eY)}) (i:=i) ⟨m1.mp,m1.at_⟩ ho (λm j hm hj lR=>by unfold wA;rw[if_neg lR];exact(hx m j hm hj).trans (h.si.MQ m j hm hj)) h.si.ps hi (fS n d p q (μ i)).2.2 a6 a5
  exact⟨out,mQ,c1,h.kn c2,c3⟩
 ·refine .inl ⟨he,?_⟩
  have m2:wA μ i (fS n d p q (μ i)).2.1=μ:=by rw[MV he];exact BF μ i
  rw[m2] at m1;exact h.kn (ps:=v.ps) ⟨⟨m1.mp,m1.at_⟩,ho,λm j hm hj=>(hx m j hm hj).trans (h.si.MQ m j hm hj),h.si.ps⟩
theorem TF (h:SS v μ)(hn:n<32)(hi:i<8)(kd sq td d sd od p q sh st wh a b:Int)(tg:List Int):MU v μ (cA WX (((),(n:Int),(kd,sq,td,(i:Int),d,sd,od,p,q,sh,st,wh,a,b,tg,()),()),v.s)):=by
 obtain⟨e,lP⟩:=BE h (n:Int) 1 (i:Int) (n:Int);simp only[V.s] at lP;by_cases he:e=0
 ·subst he
  obtain⟨bs,ss,eY,hM,hB,hI,hH⟩:=h.si.qL.at_ i hi;have hp:=h.si.qL.mp i hi;have hf:=IM (last:=(μ i).2.2.2.1) (no:=(μ i).2.2.2.2) hB hI (n:Int) d;have F8:=OC h hn;cases hw:sT (n:Int) d (μ i).1 (μ i).2.1 (μ i).2.2.1 with
  |none=>
   rw[hw] at hf;simp only[Option.getD_none,zet] at hf;refine .same h 6 ?_;simp only[V.s,cA,lP,zdc,↓xo,eq_self,iD,zdg,zdd,ot (CV hi),zde,zdf,hp,al,hM,hf,zdh,aI hM]
  |some lI=>
   rw[hw] at hf;simp only[zex,zeY] at hf;obtain⟨w1,w2⟩:=TD hw;have wq:=AG hI _ w1;have wo:Od.eX lI<=wM (n:Int) (μ i):=TE (λo ho=>(AG hI o ho).1) w1 w2;have hx:=h.si.MQ n i hn hi;have hb:=h.si.op.Cz n i hn hi;by_cases hc: ¬p=Od.aY lI\/q>Od.eX lI
   ·
    have s1:=EW (ps:=v.ps) h.si.op.wz hn hi (q:= -Od.eX lI) (by omega) hb
    have v1:Wg (tb v.op n i+ -Od.eX lI) 0 1099511627776=true:=decide_eq_true (by omega)
    unfold KU at s1;rw[v1,if_pos rfl] at s1;have e1:tb v.op n i+ -Od.eX lI=tb v.op n i-Od.eX lI:=by omega
    rw[e1] at s1;have r1:=AI h.si.op.wz n i (tb v.op n i-Od.eX lI) hn;have b1:KV (Ow v.op n i (tb v.op n i-Od.eX lI)):=⟨r1,λm j hm hj=>by
     rw[yb h.si.op.wz hn hi];split
     ·omega
     ·exact h.si.op.Cz m j hm hj⟩
    obtain⟨e2,k1,k2⟩:=Kw r1 h.si.ps.wz hi (v.cfg.2.1.getD n l0) (amR lI p q) b1.Cz h.si.ps.Cz;have t1:tb (Ow v.op n i (tb v.op n i-Od.eX lI)) n i=tb v.op n i-Od.eX lI:=by rw[yb h.si.op.wz hn hi,if_pos ⟨rfl,rfl⟩]
    have s2:=EW (ps:=v.ps) r1 hn hi (q:=Od.eX lI) (by omega) (b1.Cz n i hn hi)
    rw[t1] at s2;have v2:Wg (tb v.op n i-Od.eX lI+Od.eX lI) 0 1099511627776=true:=decide_eq_true (by omega)
    unfold KU at s2;rw[v2,if_pos rfl] at s2;have e3:tb v.op n i-Od.eX lI+Od.eX lI=tb v.op n i:=by omega
    rw[e3] at s2;generalize zbJ:Ow (Ow v.op n i (tb v.op n i-Od.eX lI)) n i (tb v.op n i)=Tw at s2;have x2: ∀m j,tb Tw m j=tb v.op m j:=λm j=>by
     rw[<-zbJ,yb r1 hn hi];split
     ·rename_i e;rw[e.1,e.2]
     ·rename_i e;rw[yb h.si.op.wz hn hi,if_neg e]
    have o2:KV Tw:=⟨by rw[<-zbJ];exact AI r1 n i _ hn,λm j hm hj=>by rw[x2];exact h.si.op.Cz m j hm hj⟩
    have e0:i64.wrap (0-lI.2.2.2.2.2.2.1)= -Od.eX lI:=by
     show i64.wrap (0-Od.eX lI)=_
     rw[nQ (by omega) (by omega)];omega
    unfold amR at k1;change gD WX (((),_,(lI.1,lI.2.1,lI.2.2.1,lI.2.2.2.1,lI.2.2.2.2.1,p,q,min lI.2.2.2.2.2.2.2.1 q,lI.2.2.2.2.2.2.2.2),(i:Int),()),_)=_ at k1;by_cases he2:e2=0
    ·subst he2
     obtain⟨oT,oU,HV,a1,a2⟩:=EZ h hn hi hw o2 (λm j _ _=>x2 m j) (λ_=>k2 rfl) hM hB;rcases a2 with⟨a2,a3⟩|⟨a2,out,mQ,a3,a4,a5⟩
     ·refine⟨_,μ,a3,⟨rfl, .rfl⟩, .same, .inl ⟨(fS n d p q (μ i)).1,?_⟩⟩
      simp only[V.s];by_cases Iw:p=Od.aY lI
      ·simp only[cA,lP,zdc,↓xo,xw,uS,eq_self,iD,zdg,zdd,ot (CV hi),ot (qK hn),zde,zdf,hp,al,hM,hf,aI hM,ot (show p=lI.2.2.2.2.2.1 from Iw),ot (show q>lI.2.2.2.2.2.2.1 by have:=hc.resolve_left (λq=>q Iw);exact this),e0,s1,F8,k1,s2,a1,bc a2,zdh]
      ·simp only[cA,lP,zdc,↓xo,xw,uS,eq_self,iD,zdg,zdd,ot (CV hi),ot (qK hn),zde,zdf,hp,al,hM,hf,aI hM,bc (show¬p=lI.2.2.2.2.2.1 from Iw),e0,s1,F8,k1,s2,a1,bc a2,zdh]
     ·refine⟨_,_,a4,⟨rfl, .rfl⟩,OA.OB i n d p q lI hi hn hw (λ_=>k2 rfl), .inr ⟨out,a5,?_⟩⟩
      simp only[V.s] at a3⊢;by_cases Iw:p=Od.aY lI
      ·simp only[cA,lP,zdc,↓xo,xw,uS,eq_self,iD,zdg,zdd,ot (CV hi),ot (qK hn),zde,zdf,hp,al,hM,hf,aI hM,ot (show p=lI.2.2.2.2.2.1 from Iw),ot (show q>lI.2.2.2.2.2.2.1 by have:=hc.resolve_left (λq=>q Iw);exact this),e0,s1,F8,k1,s2,a1,ot a2,a3]
      ·simp only[cA,lP,zdc,↓xo,xw,uS,eq_self,iD,zdg,zdh,zdd,ot (CV hi),ot (qK hn),zde,zdf,hp,al,hM,hf,aI hM,bc (show¬p=lI.2.2.2.2.2.1 from Iw),e0,s1,F8,k1,s2,a1,ot a2,a3]
    ·refine⟨{v with op:=Tw},μ,h.kn (ps:=v.ps) (M:=v.M) ⟨⟨h.si.qL.mp,h.si.qL.at_⟩,o2,λm j hm hj=>(x2 m j).trans (h.si.MQ m j hm hj),h.si.ps⟩,⟨rfl, .rfl⟩, .same, .inl ⟨e2,?_⟩⟩
     by_cases Iw:p=Od.aY lI
     ·simp only[V.s,cA,lP,zdc,↓xo,xw,uS,eq_self,iD,zdg,zdd,ot (CV hi),ot (qK hn),zde,zdf,hp,al,hM,hf,aI hM,ot (show p=lI.2.2.2.2.2.1 from Iw),ot (show q>lI.2.2.2.2.2.2.1 by have:=hc.resolve_left (λq=>q Iw);exact this),e0,s1,F8,k1,s2,bc he2,zdh]
     ·simp only[V.s,cA,lP,zdc,↓xo,xw,uS,eq_self,iD,zdg,zdd,ot (CV hi),ot (qK hn),zde,zdf,hp,al,hM,hf,aI hM,bc (show¬p=lI.2.2.2.2.2.1 from Iw),e0,s1,F8,k1,s2,bc he2,zdh]
   ·have Iw:p=Od.aY lI:=by
     by_cases q:p=Od.aY lI
     ·exact q
     ·exact absurd (.inl q) hc
    have hc2: ¬q>Od.eX lI:=λq=>hc (.inr q);obtain⟨oT,oU,HV,a1,a2⟩:=EZ h hn hi hw h.si.op (λm j _ _=>rfl) (λq=>absurd q hc) hM hB;rcases a2 with⟨a2,a3⟩|⟨a2,out,mQ,a3,a4,a5⟩
    ·refine⟨_,μ,a3,⟨rfl, .rfl⟩, .same, .inl ⟨(fS n d p q (μ i)).1,?_⟩⟩
     simp only[V.s];simp only[cA,lP,zdc,↓xo,xw,uS,eq_self,iD,zdg,zdd,ot (CV hi),ot (qK hn),zde,zdf,hp,al,hM,hf,aI hM,ot (show p=lI.2.2.2.2.2.1 from Iw),bc (show¬q>lI.2.2.2.2.2.2.1 from hc2),a1,bc a2,zdh]
    ·refine⟨_,_,a4,⟨rfl, .rfl⟩,OA.OB i n d p q lI hi hn hw (λq=>absurd q hc), .inr ⟨out,a5,?_⟩⟩
     simp only[V.s] at a3⊢;simp only[cA,lP,zdc,↓xo,xw,uS,eq_self,iD,zdg,zdd,ot (CV hi),ot (qK hn),zde,zdf,hp,al,hM,hf,aI hM,ot (show p=lI.2.2.2.2.2.1 from Iw),bc (show¬q>lI.2.2.2.2.2.2.1 from hc2),a1,ot a2,a3]
 ·refine .same h e ?_
  simp only[V.s,cA,lP,zdc,↓xo,bc he,zdh,zde]
end
def Nz {β:Type}(y:β)(o:Option ((Int×Unit)×β)):Prop:= ∃x:Int,x≠0/\o=some ((x,()),y)
theorem Nz.bif {β:Type}{y:β}{c:Bool}{a b:Option ((Int×Unit)×β)}(h1:Nz y a)(h2:Nz y b):Nz y (bif c then a else b):=by cases c<;>assumption
theorem Nz.mk {β:Type}{x:Int}(h:x≠0)(y:β):Nz y (some ((x,()),y)):=⟨x,h,rfl⟩
section
variable {tr:List oS}
theorem Qs (h:Qq tr){ph:Ih}(hp:PhI ph)(n i o:Int)(ho:lC tr o=false):Nz (QT tr) (lA WX (((),ph,n,3,i,o,()),QT tr)):=by
 have hx:=G9 h n;obtain⟨b,hb⟩:=MR hp.b hx;have e1: ¬(3:Int)=2:=by omega
 have e2: ¬(3:Int)=4:=by omega
 have e3: ¬(3:Int)=1:=by omega
 simp only[lA,oJ h,oe h,↓xo,zdc,ot (IV hx),zde,hb,bc e1,bc e2,bc e3,zdh,zdd,ho,eq_self,iD];repeat' first|exact Nz.mk (by omega) _|apply Nz.bif
end
section
variable {v:V}{μ:Nat->MS}{i n:Nat}
theorem OA.move {w:V}(h1:w.op=v.op)(h2:w.ps=v.ps)(h3:w.cfg=v.cfg){μ':Nat->MS}{XK:List (List Int)}(h:OA w μ μ' XK):OA v μ μ' XK:=by
 cases h with
 |same=>rw[h2];exact .same
 |TB x _ h=>rw[h2];exact .TB x _ h
 |rem i t d hi=>rw[h2];exact .rem i t d hi
 |add i o hi h=>rw[h2];exact .add i o hi (by rw[<-h1,<-h2,<-h3];exact h)
 |OB i n d p q lI hi hn hw h=>rw[h2];exact .OB i n d p q lI hi hn hw (λq=>by rw[<-h1,<-h2,<-h3];exact h q)
theorem MU.bif {c:Bool}{a b}(h1:MU v μ a)(h2:MU v μ b):MU v μ (bif c then a else b):=by cases c<;>assumption
theorem SS.phs (h:SS v μ){ph:Ih}(hp:PhI ph):SS {v with ph:=ph} μ:=⟨⟨⟨h.si.qL.mp,h.si.qL.at_⟩,h.si.op,h.si.MQ,h.si.ps⟩,h.tr,hp,h.Xz,h.bp,h.B,h.lp,h.L,h.now⟩
theorem SS.trs (h:SS v μ){tr:List oS}(ht:Fv v.tr tr):SS {v with tr:=tr} μ:=⟨⟨⟨h.si.qL.mp,h.si.qL.at_⟩,h.si.op,h.si.MQ,h.si.ps⟩,ht.inv h.tr,h.ph,h.Xz,h.bp,h.B,h.lp,h.L,h.now⟩
theorem SS.TG (h:SS v μ)(n:Nat)(k:vL):SS {v with L:=v.L.set n (k,())} μ:=⟨⟨⟨h.si.qL.mp,h.si.qL.at_⟩,h.si.op,h.si.MQ,h.si.ps⟩,h.tr,h.ph,h.Xz,h.bp,h.B,h.lp,λm hm=>by
 obtain⟨k',hk⟩:=h.L m hm;by_cases e:m=n
 ·subst e;exact⟨k,kL hk⟩
 ·exact⟨k',by show(v.L.set n _)[m]?=_;rw[kH e];exact hk⟩,h.now⟩
theorem SS.zbK (h:SS v μ)(n:Nat)(k:vL)(hk:k.2.1≠0):SS {v with B:=v.B.set n (k,())} μ:=⟨⟨⟨h.si.qL.mp,h.si.qL.at_⟩,h.si.op,h.si.MQ,h.si.ps⟩,h.tr,h.ph,h.Xz,h.bp,λm hm=>by
 obtain⟨k',sZ,h'⟩:=h.B m hm;by_cases e:m=n
 ·subst e;exact⟨k,kL sZ,hk⟩
 ·exact⟨k',by show(v.B.set n _)[m]?=_;rw[kH e];exact sZ,h'⟩,h.lp,h.L,h.now⟩
theorem BH (h:SS v μ)(x a:Int)(ha:0<=a/\a<=8): ∃out mQ M' μ',db WX (((),a,x,()),v.s)=some ((out,()),{v with op:=mQ,M:=M'}.s)/\SS {v with op:=mQ,M:=M'} μ'/\out.length<=512/\OA v μ μ' v.ps:=by
 obtain⟨out,mQ,M',μ',h1,h2,h3,h4⟩:=Kz h.si x a ha;exact⟨out,mQ,M',μ',h1,h.kn (ps:=v.ps) h2,h3, .TB x μ' h4⟩
theorem Wm (h:SS v μ)(f:Int): ∃s,gr WX (((),f,()),v.s)=some ((s,()),v.s):=by
 have key:=rq (b:=dn WX) (λk l=> ∃n:Nat,n<=32/\k=32-n/\l=(((),f,(n:Int),()),v.s)) (λr=>(∃s:Int,r= .inl ((s,()),v.s))\/r= .inr ((),v.s)) (λk l hl=>by
  obtain⟨n,hn,rfl,rfl⟩:=hl;by_cases hc:n<32
  ·have e1:=lx hc (by omega)
   have h1:=oJ h.tr (n:Int);have h2:=oe h.tr (n:Int);obtain⟨⟨s,⟨⟩⟩,h3⟩:=Oz h.tr (n:Int) 3;cases ht:lC v.tr (n:Int) with
   |true=>
    rw[ht] at h1;by_cases hf:(uW v.tr (n:Int)).1=f
    ·exact .inr ⟨.inl ((s,()),v.s),by simp only[dn,V.s,↓xo,ot (show(n:Int)<32 by omega),zde,h1,zdc,h2,ot hf,h3], .inl ⟨s,rfl⟩⟩
    ·exact .inl ⟨(((),f,((n+1:Nat):Int),()),v.s),by simp only[dn,V.s,↓xo,xw,ot (show(n:Int)<32 by omega),zde,zdd,h1,zdc,h2,bc hf,e1],32-(n+1),by omega,n+1,by omega,rfl,rfl⟩
   |false=>
    rw[ht] at h1;exact .inl ⟨(((),f,((n+1:Nat):Int),()),v.s),by simp only[dn,V.s,↓xo,xw,ot (show(n:Int)<32 by omega),zde,zdd,h1,zdc,e1],32-(n+1),by omega,n+1,by omega,rfl,rfl⟩
  ·exact .inr ⟨.inr ((),v.s),by simp only[dn,↓xo,bc (show¬(n:Int)<32 by omega),zdd], .inr rfl⟩)
 obtain⟨r,h1,h2⟩:=key 32 (((),f,0,()),v.s) ⟨0,by omega,by omega,rfl⟩
 rcases h2 with⟨s,rfl⟩|rfl
 ·exact⟨s,by simp only[gr,↓xl,h1,zdc]⟩
 ·exact⟨0,by simp only[gr,↓xl,h1,zdc]⟩
theorem Qt (h:SS v μ)(n:Int)(kd sq td it id sd od p q sh st wh a b:Int)(tg:List Int):MU v μ (eA WX (((),n,(kd,sq,td,it,id,sd,od,p,q,sh,st,wh,a,b,tg,()),()),v.s)):=by
 obtain⟨e,lP⟩:=BE h n 3 0 a;have hth:e=0->lC v.tr a=true:=λhe=>by
  cases ht:lC v.tr a with
  |true=>rfl
  |false=>
   obtain⟨x,hx,hy⟩:=Qs h.tr h.ph n 0 a ht;simp only[de,V.s,hy,zdc,zdj,Prod.mk.injEq] at lP;exact absurd (lP.1.1.trans he) hx
 simp only[V.s] at lP;by_cases he:e=0
 ·have ha:=qE (hth he)
  subst he;have ho:=Oy h.tr a true;have hf:=Oy h.tr a false;by_cases c1:wh=1
  ·obtain⟨out,mQ,M',μ',s1,s2,s3,s4⟩:=BH (h.trs (IU v.tr a true)) (WX.shl .u64 1 (IntKind.u64.wrap a)) 8 ⟨by omega,by omega⟩
   refine⟨_,μ',s2,⟨rfl,IU v.tr a true⟩,?_, .inr ⟨out,by omega,?_⟩⟩
   ·exact s4.move (by rfl) (by rfl) (by rfl)
   ·simp only[V.s] at s1⊢
    simp only[eA,lP,zdc,↓xo,xw,eq_self,iD,zdg,zdd,ot c1,zde,ho,bc (sV a),s1]
  by_cases c2:wh=2
  ·refine⟨_,μ,h.trs (IU v.tr a false),⟨rfl,IU v.tr a false⟩, .same, .inl ⟨0,?_⟩⟩
   simp only[V.s,eA,lP,zdc,↓xo,xw,eq_self,iD,zdg,zdd,bc c1,ot c2,zde,hf]
  by_cases c3:wh=3
  ·have l1:=h.lp a.toNat (by omega)
   obtain⟨k,l2⟩:=h.L a.toNat (by omega)
   refine⟨_,μ,h.TG a.toNat (k.1,k.2.1,0,0,()),⟨rfl, .rfl⟩, .same, .inl ⟨0,?_⟩⟩;simp only[V.s,eA,lP,zdc,↓xo,xw,eq_self,iD,zdg,zdd,bc c1,bc c2,ot c3,zde,ot (Cw ha),l1,al,l2,gz]
  ·refine .same h 0 ?_
   simp only[V.s,eA,lP,zdc,↓xo,xw,eq_self,iD,zdg,zdd,bc c1,bc c2,bc c3]
 ·refine .same h e ?_
  simp only[V.s,eA,lP,zdc,↓xo,bc he,zdh,zde]
end
section
variable {v:V}{μ:Nat->MS}
theorem MU.ph (h:SS v μ){p1 p2:List Bool}{p3:List Int}(h1:p1.length=8)(h2:p2.length=8)(h3:p3.length=8){o}(ho:o=some (.inl (((),0,()),sE {v with ph:=(p1,p2,p3,())} []))):MU v μ o:=⟨_,μ,h.phs (ph:=(p1,p2,p3,())) ⟨h1,h2,h3⟩,⟨rfl, .rfl⟩, .same, .inl ⟨0,ho⟩⟩
theorem TH (h:SS v μ)(n:Int)(kd sq td it id sd od p q sh st wh a b:Int)(tg:List Int)(hw:4<=wh/\wh<=9)(ha:0<=a)(hb:0<=b):MU v μ (cn WX (((),n,(kd,sq,td,it,id,sd,od,p,q,sh,st,wh,a,b,tg,()),()),v.s)):=by
 obtain⟨e,lP⟩:=BE h n 4 0 0;simp only[V.s] at lP;by_cases he:e=0
 ·subst he
  by_cases a8:a>=8
  ·obtain Ux:wh=4\/wh=5\/wh=6\/wh=7\/wh=8\/wh=9:=by omega
   rcases Ux with rfl|rfl|rfl|rfl|rfl|rfl<;>
   (refine .same h 1 ?_
    simp only[V.s,cn,lP,zdc,↓xo,eq_self,Int.reduceEq,iD,nh,zdg,zdd,zde,ot a8])
  ·have a7:0<=a/\a<=7:=by omega
   have hp:=h.ph;obtain⟨x1,g1⟩:=MR hp.a a7;obtain⟨x2,g2⟩:=MR hp.b a7;obtain⟨x3,g3⟩:=MR hp.c a7;by_cases w4:wh=4
   ·subst w4
    refine .ph h (p1:=v.ph.1.set a.toNat true) (p2:=v.ph.2.1) (p3:=v.ph.2.2.1) (by rw[zdQ];exact hp.a) hp.b hp.c ?_
    simp only[V.s,cn,lP,zdc,↓xo,eq_self,Int.reduceEq,iD,nh,zdg,zdd,zde,bc a8,ot (IV a7),g1]
   by_cases w5:wh=5
   ·subst w5
    refine .ph h (p1:=v.ph.1.set a.toNat false) (p2:=v.ph.2.1) (p3:=v.ph.2.2.1) (by rw[zdQ];exact hp.a) hp.b hp.c ?_
    simp only[V.s,cn,lP,zdc,↓xo,eq_self,Int.reduceEq,iD,nh,zdg,zdd,zde,bc a8,ot (IV a7),g1]
   by_cases w6:wh=6
   ·subst w6
    have h1:=h.phs (ph:=(v.ph.1,v.ph.2.1.set a.toNat true,v.ph.2.2.1,())) ⟨hp.a,by rw[zdQ];exact hp.b,hp.c⟩
    obtain⟨s,hf⟩:=Wm h1 a;obtain⟨out,mQ,M',μ',s1,s2,s3,s4⟩:=BH h1 s 8 ⟨by omega,by omega⟩
    refine⟨_,μ',s2,⟨rfl, .rfl⟩,s4.move (by rfl) (by rfl) (by rfl), .inr ⟨out,by omega,?_⟩⟩
    simp only[V.s] at s1 hf⊢;simp only[cn,lP,zdc,↓xo,eq_self,Int.reduceEq,iD,nh,zdg,zdd,zde,bc a8,ot (IV a7),g2,hf,s1]
   by_cases w7:wh=7
   ·subst w7
    refine .ph h (p1:=v.ph.1) (p2:=v.ph.2.1.set a.toNat false) (p3:=v.ph.2.2.1) hp.a (by rw[zdQ];exact hp.b) hp.c ?_
    simp only[V.s,cn,lP,zdc,↓xo,eq_self,Int.reduceEq,iD,nh,zdg,zdd,zde,bc a8,ot (IV a7),g2]
   by_cases b8:b>=8
   ·refine .same h 1 ?_
    obtain Ux:wh=8\/wh=9:=by omega
    rcases Ux with rfl|rfl<;>
    simp only[V.s,cn,lP,zdc,↓xo,eq_self,Int.reduceEq,iD,nh,zdg,zdd,zde,bc a8,ot b8]
   by_cases ba:b=a
   ·refine .same h 1 ?_
    obtain Ux:wh=8\/wh=9:=by omega
    rcases Ux with rfl|rfl<;>
    simp only[V.s,cn,lP,zdc,↓xo,eq_self,Int.reduceEq,iD,nh,zdg,zdd,zde,bc a8,bc b8,ot ba]
   by_cases w8:wh=8
   ·subst w8
    refine .ph h (p1:=v.ph.1) (p2:=v.ph.2.1) (p3:=v.ph.2.2.1.set a.toNat (WX.AL .i64 x3 (WX.shl .i64 1 (IntKind.u64.wrap b)))) hp.a hp.b (by rw[zdQ];exact hp.c) ?_
    simp only[V.s,cn,lP,zdc,↓xo,xw,eq_self,Int.reduceEq,iD,nh,zdg,zdd,zde,bc a8,bc b8,bc ba,ot (IV a7),g3,bc (sV b)]
   ·obtain rfl:wh=9:=by omega
    refine .ph h (p1:=v.ph.1) (p2:=v.ph.2.1) (p3:=v.ph.2.2.1.set a.toNat (WX.Dj .i64 x3 (WX.shl .i64 1 (IntKind.u64.wrap b)))) hp.a hp.b (by rw[zdQ];exact hp.c) ?_
    simp only[V.s,cn,lP,zdc,↓xo,xw,eq_self,Int.reduceEq,iD,nh,zdg,zdd,zde,bc a8,bc b8,bc ba,ot (IV a7),g3,bc (sV b)]
 ·refine .same h e ?_
  simp only[V.s,cn,lP,zdc,↓xo,bc he,zdh,zde]
end
structure KB (c:mP):Prop where
 kind:c.1=3\/c.1=4\/c.1=5\/c.1=6\/c.1=9
 inst:0<=c.2.2.2.1/\c.2.2.2.1<=8/\(c.1≠6->c.2.2.2.1<=7)
 what:c.1=9->1<=c.2.2.2.2.2.2.2.2.2.2.2.1/\c.2.2.2.2.2.2.2.2.2.2.2.1<=9
 a:0<=c.2.2.2.2.2.2.2.2.2.2.2.2.1
 b:0<=c.2.2.2.2.2.2.2.2.2.2.2.2.2.1
theorem MW {t d:Int}{A B:List nw}{ws:List ek}(h:(mL t d A B ws).2.1=false):(mL t d A B ws).2.2=(A,B,ws):=by
 unfold mL at h⊢;split
 ·rename_i h1;rw[if_pos h1] at h;cases h
 ·rename_i h1
  rw[if_neg h1] at h;have e:(uU t d A B).2.2=(A,B):=by
   unfold uU at h1⊢;cases hA:mT t d A with
   |some x=>rw[hA] at h1;exact absurd rfl h1
   |none=>
    rw[hA] at h1;cases hB:mT t d B with
    |some x=>rw[hB] at h1;exact absurd rfl h1
    |none=>rfl
  split
  ·rename_i n hn;rw[hn] at h;cases h
  ·rw[e]
section
variable {v:V}{μ:Nat->MS}{i n:Nat}
theorem TI (h:SS v μ)(n:Int)(set:Int)(c:mP):(∃X,ag (cG WX) (((),n,(),set,0,()),(v.cfg,v.now,(),v.ph,v.mp,(),v.bp,v.lp,()),(v.tr,()),(v.op,v.ps,()),c,v.M,v.L,v.B,())=some (.inl (((),X,()),(v.cfg,v.now,(),v.ph,v.mp,(),v.bp,v.lp,()),(v.tr,()),(v.op,v.ps,()),c,[],v.M,v.L,v.B,())))\/ag (cG WX) (((),n,(),set,0,()),(v.cfg,v.now,(),v.ph,v.mp,(),v.bp,v.lp,()),(v.tr,()),(v.op,v.ps,()),c,v.M,v.L,v.B,())=some (.inr (((),(),set,()),(v.cfg,v.now,(),v.ph,v.mp,(),v.bp,v.lp,()),(v.tr,()),(v.op,v.ps,()),c,v.M,v.L,v.B,())):=by
 have key:=rq (b:=cG WX) (λk l=> ∃m:Nat,m<=32/\k=32-m/\l=(((),n,(),set,(m:Int),()),(v.cfg,v.now,(),v.ph,v.mp,(),v.bp,v.lp,()),(v.tr,()),(v.op,v.ps,()),c,v.M,v.L,v.B,())) (λr=>(∃X,r= .inl (((),X,()),(v.cfg,v.now,(),v.ph,v.mp,(),v.bp,v.lp,()),(v.tr,()),(v.op,v.ps,()),c,[],v.M,v.L,v.B,()))\/r= .inr (((),(),set,()),(v.cfg,v.now,(),v.ph,v.mp,(),v.bp,v.lp,()),(v.tr,()),(v.op,v.ps,()),c,v.M,v.L,v.B,())) (λk l hl=>by
  obtain⟨m,hm,rfl,rfl⟩:=hl;by_cases hc:m<32
  ·have e1:=lx hc (by omega)
   obtain⟨e,lP⟩:=BE h n 2 0 (m:Int);simp only[V.s] at lP;by_cases hb:WX.sH .u64 (WX.shr .u64 set (IntKind.u64.wrap (m:Int))) 1=1
   ·by_cases he:e=0
    ·exact .inl ⟨_,by simp only[cG,↓xo,xw,ot (show(m:Int)<32 by omega),zde,bc (sV (m:Int)),zdd,ot hb,lP,zdc,ot he,zdg,e1],32-(m+1),by omega,m+1,by omega,rfl,rfl⟩
    ·exact .inr ⟨_,by simp only[cG,↓xo,xw,ot (show(m:Int)<32 by omega),zde,bc (sV (m:Int)),zdd,ot hb,lP,zdc,bc he,zdh], .inl ⟨7,rfl⟩⟩
   ·exact .inl ⟨_,by simp only[cG,↓xo,xw,ot (show(m:Int)<32 by omega),zde,bc (sV (m:Int)),zdd,bc hb,e1],32-(m+1),by omega,m+1,by omega,rfl,rfl⟩
  ·obtain rfl:m=32:=by omega
   exact .inr ⟨_,by simp only[cG,↓xo,bc (show¬((32:Nat):Int)<32 by omega),zdd], .inr rfl⟩)
 obtain⟨r,h1,h2⟩:=key 32 (((),n,(),set,0,()),(v.cfg,v.now,(),v.ph,v.mp,(),v.bp,v.lp,()),(v.tr,()),(v.op,v.ps,()),c,v.M,v.L,v.B,()) ⟨0,by omega,by omega,rfl⟩
 rcases h2 with⟨X,rfl⟩|rfl
 ·exact .inl ⟨X,h1⟩
 ·exact .inr h1
theorem ZU (h:SS v μ)(hn:n<32)(c:mP)(hc:KB c):MU v μ (cO WX (((),(n:Int),c,()),v.s)):=by
 obtain⟨kd,sq,td,it,id,sd,od,p,q,sh,st,wh,a,b,tg,⟨⟩⟩:=c;obtain⟨c1,c2,c3,c4,c5⟩:=hc;simp only at c1 c2 c3 c4 c5;obtain⟨i,rfl⟩:=ze4 c2.1;rcases c1 with rfl|rfl|rfl|rfl|rfl
 ·have hi:i<8:=by have:=c2.2.2 (by omega);omega
  obtain⟨v',μ',s1,s2,s3,⟨e,ho⟩|⟨out,hl,ho⟩⟩:=TC h hn hi 3 sq td id sd od p q sh st wh a b tg
  ·exact⟨v',μ',s1,s2,s3, .inl ⟨e,by simp only[cO,↓xo,eq_self,iD,zde,ho,zdc]⟩⟩
  ·exact⟨v',μ',s1,s2,s3, .inr ⟨out,hl,by simp only[cO,↓xo,eq_self,iD,zde,ho,zdc]⟩⟩
 ·have hi:i<8:=by have:=c2.2.2 (by omega);omega
  obtain⟨e,lP⟩:=BE h (n:Int) 2 (i:Int) td;by_cases he:e=0
  ·subst he
   obtain⟨bs,ss,eY,hM,hB,hI,hH⟩:=h.si.qL.at_ i hi;have hp:=h.si.qL.mp i hi;obtain⟨oT,oU,HV,r1,r2⟩:=MM (last:=(μ i).2.2.2.1) (no:=(μ i).2.2.2.2) hB hI td id;obtain⟨r3,r4⟩:=ES hI td id;have m1:=Di h.si.qL hi (m:=((mL td id (μ i).1 (μ i).2.1 (μ i).2.2.1).2.2.1,(mL td id (μ i).1 (μ i).2.1 (μ i).2.2.1).2.2.2.1,(mL td id (μ i).1 (μ i).2.1 (μ i).2.2.1).2.2.2.2,(μ i).2.2.2)) r2 r3 (λo ho=>hH o (r4.subset ho));simp only at m1;simp only[V.s] at lP;cases hf:(mL td id (μ i).1 (μ i).2.1 (μ i).2.2.1).2.1 with
   |false=>
    rw[hf] at r1;have vp:=MW hf;rw[vp] at m1 r1;rw[show((μ i).1,(μ i).2.1,(μ i).2.2.1,(μ i).2.2.2)=μ i from rfl,BF] at m1
    refine⟨_,μ,h.kn (op:=v.op) (ps:=v.ps) ⟨⟨m1.mp,m1.at_⟩,h.si.op,h.si.MQ,h.si.ps⟩,⟨rfl, .rfl⟩, .same, .inl ⟨6,?_⟩⟩;simp only[V.s];simp only[cO,↓xo,eq_self,Int.reduceEq,iD,nh,zde,zdd,lP,zdc,zdg,zdh,ot (CV hi),zdf,hp,al,hM,r1]
   |true=>
    rw[hf] at r1;obtain⟨out,mQ,g1,g2,g3,g4⟩:=Ox (i:=i) m1 h.si.op hi [(mL td id (μ i).1 (μ i).2.1 (μ i).2.2.1).1] (by simp)
    refine⟨_,_,h.kn (op:=mQ) (ps:=v.ps) ⟨⟨m1.mp,m1.at_⟩,g2,λm j hm hj=>?_,h.si.ps⟩,⟨rfl, .rfl⟩, .rem i td id hi, .inr ⟨out,by rw[g4];simp,?_⟩⟩
    ·show tb mQ m j=_
     rw[g3 m j hm];unfold wA;split
     ·rename_i e;rw[if_pos rfl]
     ·exact h.si.MQ m j hm hj
    ·simp only[V.s] at g1⊢
     simp only[cO,↓xo,eq_self,Int.reduceEq,iD,nh,zde,zdd,lP,zdc,zdg,ot (CV hi),zdf,hp,al,hM,r1,g1]
  ·refine .same h e ?_
   simp only[V.s] at lP⊢;simp only[cO,↓xo,eq_self,Int.reduceEq,iD,nh,zde,zdd,lP,zdc,bc he,zdh]
 ·have hi:i<8:=by have:=c2.2.2 (by omega);omega
  obtain⟨v',μ',s1,s2,s3,⟨e,ho⟩|⟨out,hl,ho⟩⟩:=TF h hn hi 5 sq td id sd od p q sh st wh a b tg
  ·exact⟨v',μ',s1,s2,s3, .inl ⟨e,by simp only[cO,↓xo,eq_self,Int.reduceEq,iD,nh,zde,zdd,ho,zdc]⟩⟩
  ·exact⟨v',μ',s1,s2,s3, .inr ⟨out,hl,by simp only[cO,↓xo,eq_self,Int.reduceEq,iD,nh,zde,zdd,ho,zdc]⟩⟩
 ·obtain⟨⟨set,⟨⟩⟩,hs⟩:=Oz h.tr (n:Int) wh
  rcases TI h (n:Int) set (6,sq,td,(i:Int),id,sd,od,p,q,sh,st,wh,a,b,tg,()) with⟨X,hl⟩|hl
  ·refine .same h X ?_
   simp only[V.s];simp only[cO,↓xo,↓xl,eq_self,Int.reduceEq,iD,nh,zde,zdd,hs,zdc,hl]
  ·obtain⟨out,mQ,M',μ',s1,s2,s3,s4⟩:=BH h set (i:Int) ⟨by omega,by omega⟩
   refine⟨_,μ',s2,⟨rfl, .rfl⟩,s4, .inr ⟨out,by omega,?_⟩⟩
   simp only[V.s] at s1⊢;simp only[cO,↓xo,↓xl,eq_self,Int.reduceEq,iD,nh,zde,zdd,hs,zdc,hl,s1]
 ·have hw:=c3 rfl
  by_cases w3:wh<=3
  ·obtain⟨v',μ',s1,s2,s3,⟨e,ho⟩|⟨out,hl,ho⟩⟩:=Qt h (n:Int) 9 sq td (i:Int) id sd od p q sh st wh a b tg
   ·exact⟨v',μ',s1,s2,s3, .inl ⟨e,by simp only[cO,↓xo,eq_self,Int.reduceEq,iD,nh,zde,zdd,ot w3,ho,zdc]⟩⟩
   ·exact⟨v',μ',s1,s2,s3, .inr ⟨out,hl,by simp only[cO,↓xo,eq_self,Int.reduceEq,iD,nh,zde,zdd,ot w3,ho,zdc]⟩⟩
  ·obtain⟨v',μ',s1,s2,s3,⟨e,ho⟩|⟨out,hl,ho⟩⟩:=TH h (n:Int) 9 sq td (i:Int) id sd od p q sh st wh a b tg ⟨by omega,by omega⟩ c4 c5
   ·exact⟨v',μ',s1,s2,s3, .inl ⟨e,by simp only[cO,↓xo,eq_self,Int.reduceEq,iD,nh,zde,zdd,bc w3,ho,zdc]⟩⟩
   ·exact⟨v',μ',s1,s2,s3, .inr ⟨out,hl,by simp only[cO,↓xo,eq_self,Int.reduceEq,iD,nh,zde,zdd,bc w3,ho,zdc]⟩⟩
theorem OE (h:SS v μ){k:Int}(hk:k≠1){n:Int}(hn:lC v.tr n=false)(c:mP):dE WX (((),(k,0,n,c,()),()),v.s)=some ((false,()),v.s):=by
 have h1:=oJ h.tr n;rw[hn] at h1;simp only[dE,V.s,↓xo,bc hk,zdd,eq_self,iD,zdg,h1,zdc,zdh,zde]
theorem ZV (h:SS v μ){n:Int}(hn:lC v.tr n=true)(k:Int)(hk:k=3\/k=4\/k=5):dE WX (((),(k,0,n,C0,()),()),v.s)=some ((true,()),v.s):=by
 have h1:=oJ h.tr n;rw[hn] at h1;have e1: ¬k=1:=by omega
 have e2: ¬k=2:=by omega
 simp only[dE,V.s,↓xo,bc e1,zdd,eq_self,iD,zdg,h1,zdc,bc e2,ot (show k>=1 by omega),ot (show k<=5 by omega),zde,qk,Mt,zez]
theorem zbL (h:SS v μ){k:Int}(hk:k≠1){n:Int}(hn:lC v.tr n=false)(c:mP):MU v μ (ck WX (((),(k,0,n,c,()),()),v.s)):=by
 refine .same h 1 ?_;simp only[ck,OE h hk hn c,zdc,zdh,zde];rfl
def Wn (v:V)(μ:Nat->MS)(o:Option ((((Unit×Int×Unit)×(wR×Int×Unit×Ih×(List Nat)×Unit×(List Nat)×(List Nat)×Unit)×((List oS)×Unit)×((List (List Int))×(List (List Int))×Unit)×List gO×(List uq)×(List ti)×(List vz)×Unit))⊕((List gO×Int×Unit)×ST))):Prop:=
 ∃v' μ' x,SS v' μ'/\Kept v v'/\v'.ps=v.ps/\(∀i,μ' i=μ i\/μ' i=(mM x (μ i)).1)/\((∃e,o=some (.inl (((),e,()),sE v' [])))\/∃out,out.length<=80000000/\o=some (.inr ((out,0,()),v'.s)))
theorem Wn.same (h:SS v μ)(e:Int){o}(ho:o=some (.inl (((),e,()),sE v []))):Wn v μ o:=⟨v,μ,0,h, .rfl v,rfl,λ_=> .inl rfl, .inl ⟨e,ho⟩⟩
theorem ZW (h:SS v μ){k:Int}(hk:k≠1){n:Int}(hn:lC v.tr n=false)(c:mP):Wn v μ (ck WX (((),(k,0,n,c,()),()),v.s)):=by
 refine .same h 1 ?_;simp only[ck,OE h hk hn c,zdc,zdh,zde];rfl
theorem TJ (h:SS v μ)(n:Int)(k:Int)(hk:k=3\/k=4\/k=5):Wn v μ (ck WX (((),(k,0,n,C0,()),()),v.s)):=by
 cases ht:lC v.tr n with
 |false=>exact ZW h (by omega) ht C0
 |true=>
  have hf:=ZV h ht k hk;have hn:=qE ht;have l1:=h.lp n.toNat (by omega)
  obtain⟨l,l2⟩:=h.L n.toNat (by omega)
  rcases hk with rfl|rfl|rfl
  ·refine⟨_,μ,0,h.TG n.toNat (failed l v.now),⟨rfl, .rfl⟩,rfl,λ_=> .inl rfl, .inl ⟨0,?_⟩⟩
   simp only[ck,hf,zdc,zdg,zdd,↓xo,Int.reduceEq,nh,iD,zde];simp only[V.s,ot (Cw hn),zde,l1,zdc,al,l2,P2]
  ·have hl:du WX (((),n,()),v.s)=some ((oD l v.now,()),v.s):=by
    simp only[du,kC,V.s,↓xo,ot (show n>=0 by omega),ot (show n<32 by omega),ot (Cw hn),zde,zdc,l1,al,l2,qA,aI l2]
   cases hk:oD l v.now with
   |true=>
    refine .same h 15 ?_;simp only[ck,hf,zdc,zdg,zdd,↓xo,Int.reduceEq,nh,iD,zde,hl,hk];simp only[V.s]
   |false=>
    refine⟨_,μ,0,h.TG n.toNat (l.1,l.2.1,0,0,()),⟨rfl, .rfl⟩,rfl,λ_=> .inl rfl, .inl ⟨0,?_⟩⟩;simp only[ck,hf,zdc,zdg,zdd,↓xo,Int.reduceEq,nh,iD,zde,hl,hk];simp only[V.s,ot (Cw hn),zde,l1,zdc,al,l2,gz]
  ·obtain⟨out,mQ,M',μ',s1,s2,s3,s4⟩:=Kz h.si (WX.shl .u64 1 (IntKind.u64.wrap n)) 8 ⟨by omega,by omega⟩
   refine⟨_,μ',_,h.kn (ps:=v.ps) s2,⟨rfl, .rfl⟩,rfl,s4, .inr ⟨out,by omega,?_⟩⟩
   simp only[ck,hf,zdc,zdg,zdd,↓xo,xw,Int.reduceEq,nh,iD,zde,bc (sV n),s1]
theorem ZX (h:SS v μ)(n:Int){c:mP}(hc:KB c)(hk:iz WX ((c,()),())=some ((true,()),())):MU v μ (ck WX (((),(2,0,n,c,()),()),v.s)):=by
 cases ht:lC v.tr n with
 |false=>exact zbL h (by omega) ht c
 |true=>
  have h1:=oJ h.tr n;rw[ht] at h1;have hn:=qE ht;obtain⟨m,rfl⟩:=ze4 hn.1;have hf:dE WX (((),(2,0,(m:Int),c,()),()),v.s)=some ((true,()),v.s):=by
   simp only[dE,V.s,↓xo,Int.reduceEq,nh,iD,zdd,zde,eq_self,zdg,h1,zdc,hk]
  have b1:=h.bp m (by omega)
  obtain⟨k,b2,b3⟩:=h.B m (by omega)
  obtain⟨b,k',t1,t2⟩:=TA k v.now b3;cases b with
  |false=>
   refine⟨_,μ,h.zbK m k' (by rw[t2];exact b3),⟨rfl, .rfl⟩, .same, .inl ⟨13,?_⟩⟩
   simp only[ck,hf,zdc,zdg,zdd,↓xo,Int.reduceEq,nh,iD,zde];simp only[V.s,ot (qK (show m<32 by omega)),zde,zdf,b1,zdc,al,b2,t1,zdh]
  |true=>
   obtain⟨v',μ',s1,s2,s3,s4⟩:=ZU (n:=m) (h.zbK m k' (by rw[t2];exact b3)) (by omega) c hc
   have s2':Kept v v':=⟨by rw[s2.eq],s2.tr⟩
   rcases s4 with⟨e,ho⟩|⟨out,hl,ho⟩
   ·refine⟨v',μ',s1,s2',s3.move (by rfl) (by rfl) (by rfl), .inl ⟨e,?_⟩⟩
    simp only[V.s] at ho;simp only[ck,hf,zdc,zdg,zdd,↓xo,Int.reduceEq,nh,iD,zde];simp only[V.s,ot (qK (show m<32 by omega)),zde,zdf,b1,zdc,al,b2,t1,zdg,zdd,ho]
   ·refine⟨v',μ',s1,s2',s3.move (by rfl) (by rfl) (by rfl), .inr ⟨out,hl,?_⟩⟩
    simp only[V.s] at ho;simp only[ck,hf,zdc,zdg,zdd,↓xo,Int.reduceEq,nh,iD,zde];simp only[V.s,ot (qK (show m<32 by omega)),zde,zdf,b1,zdc,al,b2,t1,zdg,zdd,ho]
end
def NS (n:ma):Prop:= ∃bs,NB n bs/\bs.length<=40
theorem Wo (a b c d e f:Int):NS (5,0,0,a,b,c,0,d,e,f,gN,()):=by
 obtain⟨bs,h1,h2⟩:=Cf (n:=(5,0,0,a,b,c,0,d,e,f,gN,())) (k:=24) (by kernel_rfl)
 exact⟨bs,h1,by omega⟩
theorem Wp (a b c:Int):NS (6,0,0,a,b,0,0,0,0,c,gN,()):=by
 obtain⟨bs,h1,h2⟩:=Cf (n:=(6,0,0,a,b,0,0,0,0,c,gN,())) (k:=12) (by kernel_rfl)
 exact⟨bs,h1,by omega⟩
theorem TK (a b c d:Int):NS (7,0,0,a,0,b,0,c,d,0,gN,()):=by
 obtain⟨bs,h1,h2⟩:=Cf (n:=(7,0,0,a,0,b,0,c,d,0,gN,())) (k:=16) (by kernel_rfl)
 exact⟨bs,h1,by omega⟩
theorem ZY:NS (9,0,0,0,0,0,0,0,0,0,gN,()):=by
 obtain⟨bs,h1,h2⟩:=Cf (n:=(9,0,0,0,0,0,0,0,0,0,gN,())) (k:=3) (by kernel_rfl)
 exact⟨bs,h1,by omega⟩
theorem MX:NS (2,0,0,0,0,0,0,0,0,0,gN,()):=by
 obtain⟨bs,h1,h2⟩:=Ez;exact⟨bs,h1,by omega⟩
theorem ZZ (sq:Int):NS (3,0,sq,0,0,0,0,0,0,0,gN,()):=by
 obtain⟨bs,h1,h2⟩:=Zq sq;exact⟨bs,h1,by omega⟩
theorem Qu (er sq:Int):NS (4,er,sq,0,0,0,0,0,0,0,gN,()):=by
 obtain⟨bs,h1,h2⟩:=P4 er sq;exact⟨bs,h1,by omega⟩
theorem IW {nc:List Int}(h:nc.length=32):NS (1,0,0,0,0,0,0,0,0,0,nc,()):=by
 obtain⟨bs,h1,h2⟩:=Ax h;exact⟨bs,h1,by omega⟩
theorem MY (e:gO)(n:Int): ∃l,jb WX ((e,n,()),())=some ((l,()),())/\l.length<=2/\∀x∈l,NS x:=by
 by_cases h1:e.1=1
 ·obtain⟨l,g1,g2,g3⟩:=nB (b:=fN WX) 2 (λk (s:List ma)=>((n,(),(),[e.2.2.1.1,e.2.2.1.2.1],2,(k:Int),()),e,s,())) (λs=>((s,()),e,())) (λk s=>s.length<=k/\∀x∈s,NS x)
   (λk s hk hI=>by
    obtain⟨i1,i2⟩:=hI;have hx:=zdi (l:=[e.2.2.1.1,e.2.2.1.2.1]) (i:=k) hk;generalize ([e.2.2.1.1,e.2.2.1.2.1]:List ek)[k]'hk=o at hx;have e1:=lx hk (by omega)
    by_cases ho:o.1=n
    ·refine⟨s++ [(5,0,0,e.2.1,o.2.1,e.2.2.1.2.2.2.2.1,0,e.2.2.1.2.2.1,e.2.2.1.2.2.2.1,i64.wrap (o.2.2.2.2.2.2.1-e.2.2.1.2.2.2.1),gN,())],?_,by rw[zdm];simp only[zdn,zdo];omega,λx hx=>?_⟩
     ·simp only[fN,nJ,↓xo,xw,ot (show(k:Int)<2 by omega),ot (show(0:Int)<=(k:Int) by omega),zde,zdf,hx,zdc,ot ho,e1,ot (show((((s.length+1:Nat)):Int))*((112:Nat):Int)<=((room:Nat):Int) by unfold room;omega),zdn,zdo,zd2]
     ·rcases List.mem_append.1 hx with hx|hx
      ·exact i2 x hx
      ·rw[List.mem_singleton.1 hx];exact Wo _ _ _ _ _ _
    ·exact⟨s,by simp only[fN,↓xo,xw,ot (show(k:Int)<2 by omega),ot (show(0:Int)<=(k:Int) by omega),zde,zdd,zdf,hx,zdc,bc ho,e1],by omega,i2⟩)
   (λs _=>by simp only[fN,↓xo,bc (show¬((2:Nat):Int)<2 by omega),zdd]) [] ⟨zek _,λx hx=>(by cases hx)⟩
  change ag (fN WX) ((n,(),(),[e.2.2.1.1,e.2.2.1.2.1],((([e.2.2.1.1,e.2.2.1.2.1]:List ek).length:Nat):Int),0,()),e,[],())=_ at g1;exact⟨l,by simp only[jb,↓xo,ot h1,zde,↓xl,g1,zdc],g2,g3⟩
 ·by_cases h2:e.1=2
  ·by_cases h3:e.2.2.2.1.1=n
   ·refine⟨[(6,0,0,e.2.1,e.2.2.2.1.2.1,0,0,0,0,e.2.2.2.1.2.2.2.2.2.2.1,gN,())],?_,by simp,λx hx=>?_⟩
    ·simp only[jb,↓xo,bc h1,ot h2,ot h3,zde,zdd,ot (show((((([]:List ma).length+([(6,0,0,e.2.1,e.2.2.2.1.2.1,0,0,0,0,e.2.2.2.1.2.2.2.2.2.2.1,(List.replicate 32 (0:Int)),())]:List ma).length:Nat)):Int))*((112:Nat):Int)<=((room:Nat):Int) by unfold room;simp only[zdn,zdo];omega),zed]
    ·rw[List.mem_singleton.1 hx];exact Wp _ _ _
   ·exact⟨[],by simp only[jb,↓xo,bc h1,ot h2,bc h3,zde,zdd],by simp,λx hx=>(by cases hx)⟩
  ·exact⟨[],by simp only[jb,↓xo,bc h1,bc h2,zdd],by simp,λx hx=>(by cases hx)⟩
theorem Wq (e:gO)(n:Int): ∃l,mB WX ((e,n,()),())=some ((l,()),())/\l.length<=3/\∀x∈l,NS x:=by
 obtain⟨l,h1,h2,h3⟩:=MY e n;have key: ∃p,kG WX ((e,()),())=some (((),()),p,())/\p.length<=1/\∀x∈p,NS x:=by
  by_cases c:e.1=1
  ·refine⟨[(7,0,0,e.2.1,0,e.2.2.1.2.2.2.2.1,0,e.2.2.1.2.2.1,e.2.2.1.2.2.2.1,0,gN,())],by simp only[kG,↓xo,ot c,zdg,zdd],by simp,λx hx=>?_⟩
   rw[List.mem_singleton.1 hx];exact TK _ _ _ _
  ·exact⟨[],by simp only[kG,↓xo,bc c,zdh,zde],by simp,λx hx=>(by cases hx)⟩
 obtain⟨p,p1,p2,p3⟩:=key;have vl: [l,p].flatten=l++p:=by simp
 have uM: ∀x∈l++p,NS x:=λx hx=>by
  rcases List.mem_append.1 hx with hx|hx
  ·exact h3 x hx
  ·exact p3 x hx
 rcases CU [l,p] (by rw[vl,zdm];omega) (by simp) with⟨c1,c2⟩|c1
 ·exact⟨[],by simp only[mB,h1,zdc,p1,c1],by simp,λx hx=>(by cases hx)⟩
 ·rw[vl] at c1
  exact⟨l++p,by simp only[mB,h1,zdc,p1,c1,zeu],by rw[zdm];omega,uM⟩
theorem TL {ob bs:List Int}{ov:Bool}(h:ob.length<=4096)(hb:bs.length<=1000): ∃r ob' ov',gE WX (((),bs,()),((ob,ov,()),()))=some ((r,()),((ob',ov',()),()))/\ob'.length<=4096:=by
 have e:i64.wrap (4096-(ob.length:Int))=4096-(ob.length:Int):=nQ (by omega) (by omega)
 cases ov with
 |true=>exact⟨_,_,_,by simp only[gE,zde];rfl,h⟩
 |false=>
  by_cases hl:(bs.length:Int)>4096-(ob.length:Int)
  ·exact⟨_,_,_,by simp only[gE,zdd,↓xo,xw,e,ot hl,zde];rfl,h⟩
  ·have vl: [ob,bs].flatten=ob++bs:=by simp
   by_cases hp:ob++bs=[]
   ·have hc:=concat_nil [ob,bs] (by rw[vl,hp]) (by simp)
    exact⟨true,[],false,by simp only[gE,zdd,↓xo,xw,e,bc hl,hc,zdc],by simp⟩
   ·have hc:=vE [ob,bs] (by rw[vl];exact hp) (by rw[vl,zdm];omega) (by simp)
    exact⟨true,ob++bs,false,by simp only[gE,zdd,↓xo,xw,e,bc hl,hc,zdc,vl,zeu],by rw[zdm];omega⟩
structure zbM (s:wS)(ou:(List Int)×Bool×Unit):Prop where
 out:ou.1.length<=4096
 rn:s.2.2.1.length=32
 at_:s.1=0\/s.1=1\/s.1=2\/s.1=3
 qn:0<=s.2.1/\s.2.1<=31
def CI (v:V):Prop:= ∀i,i<16->∃f o s fr ou,nb v i f o s fr ou/\zbM s ou
section
variable {v:V}{i:Nat}
theorem CI.XA (h:CI v)(o:Nat)(ou:(List Int)×Bool×Unit)(ho:ou.1.length<=4096):CI {v with O:=v.O.set o (ou,())}:=λj hj=>by
 obtain⟨f,o',s,fr,Ix,h1,h2⟩:=h j hj;by_cases e:o'=o
 ·subst e
  exact⟨f,o',s,fr,ou,⟨h1.lt,h1.c,h1.S,h1.F,kL h1.O⟩,⟨ho,h2.rn,h2.at_,h2.qn⟩⟩
 ·exact⟨f,o',s,fr,Ix,⟨h1.lt,h1.c,h1.S,h1.F,by show(v.O.set o _)[o']?=_;rw[kH e];exact h1.O⟩,h2⟩
theorem E1 (h:CI v)(hi:i<16){n:ma}(hn:NS n): ∃O',bY WX (((),(i:Int),n,()),v.e)=some ((),{v with O:=O'}.e)/\CI {v with O:=O'}:=by
 obtain⟨f,o,s,fr,ou,hc,mc⟩:=h i hi;obtain⟨bs,hb,hl⟩:=hn;obtain⟨ob,ov,⟨⟩⟩:=ou;obtain⟨r,ob',ov',h1,h2⟩:=TL (ov:=ov) mc.out (show bs.length<=1000 by omega)
 refine⟨_,?_,h.XA o (ob',ov',()) h2⟩;rcases hb with⟨x,k1,k2⟩|⟨x,k1,k2⟩
 ·simp only[bY,V.e,↓xo,ot (lh hi),zde,zdf,hc.c,zdc,k1,k2,al,hc.O,h1]
 ·simp only[bY,V.e,↓xo,ot (lh hi),zde,zdf,hc.c,zdc,k1,k2,al,hc.O,h1]
abbrev vX (v:V)(x:gO):=(((),v.c,(),(),()),(v.cfg,v.now,(),v.ph,v.mp,(),v.bp,v.lp,()),(v.tr,()),(v.op,v.ps,()),v.lg,(v.mt,()),x,v.M,v.L,v.S,v.F,v.O,v.B,())
theorem MZ (h:CI v)(hi:i<16)(ns:List ma)(hl:ns.length<=3)(hn: ∀x∈ns,NS x)(e a b:Int)(E2:List gO)(cs:List NW)(k:Int)(x:gO): ∃O',ag (cH WX) (((),e,(),(i:Int),E2,a,b,cs,k,ns,(ns.length:Int),0,()),vX v x)=some (((),e,(),E2,a,b,cs,k,()),vX {v with O:=O'} x)/\CI {v with O:=O'}:=by
 obtain⟨O',g1,g2⟩:=nB (b:=cH WX) ns.length (λj (s:List Bi)=>(((),e,(),(i:Int),E2,a,b,cs,k,ns,(ns.length:Int),(j:Int),()),vX {v with O:=s} x)) (λs=>(((),e,(),E2,a,b,cs,k,()),vX {v with O:=s} x)) (λj s=>CI {v with O:=s})
  (λj s hj hI=>by
   have hx:=zdi hj;have uM:=hn _ (zeq hj);have e1:=lx hj (by omega)
   generalize ns[j]=y at*;obtain⟨O2,o1,o2⟩:=E1 hI hi uM;simp only[V.e] at o1;exact⟨O2,by simp only[cH,↓xo,xw,ot (show(j:Int)<(ns.length:Int) by omega),ot (show(0:Int)<=(j:Int) by omega),zde,zdf,hx,zdc,o1,e1],o2⟩)
  (λs _=>by simp only[cH,↓xo,bc (show¬(ns.length:Int)<(ns.length:Int) by omega),zdd]) v.O h
 exact⟨O',g1,g2⟩
theorem M0 (h:CI v)(e a b:Int)(E2:List gO)(x:gO): ∃O',ag (cC WX) (((),e,(),E2,a,b,v.c,0,()),vX v x)=some (((),e,E2,a,b,()),vX {v with O:=O'} x)/\CI {v with O:=O'}:=by
 obtain⟨O',g1,g2⟩:=nB (b:=cC WX) 16 (λj (s:List Bi)=>(((),e,(),E2,a,b,v.c,(j:Int),()),vX {v with O:=s} x)) (λs=>(((),e,E2,a,b,()),vX {v with O:=s} x)) (λj s=>CI {v with O:=s})
  (λj s hj hI=>by
   obtain⟨f,o,t,fr,ou,hc,mc⟩:=hI j hj;have c1:=hc.c;have c2:=hc.S;change v.c[j]?=_ at c1;change v.S[j]?=_ at c2;have e1:=lx hj (by omega)
   by_cases h3:t.1=3
   ·obtain⟨ns,n1,n2,n3⟩:=Wq x t.2.1
    obtain⟨O2,o1,o2⟩:=MZ hI hj ns n2 n3 e a b E2 v.c (j:Int) x;have e2: ¬t.1=2:=by omega
    exact⟨O2,by simp only[cC,↓xo,xw,↓xl,ot (show(j:Int)<16 by omega),ot (lh hj),zde,zdd,zdf,c1,zdc,al,c2,ai,ay,bc e2,ot h3,zdg,aI c2,n1,o1,e1],o2⟩
   ·exact⟨s,by simp only[cC,↓xo,xw,↓xl,ot (show(j:Int)<16 by omega),ot (lh hj),zde,zdf,c1,zdc,al,c2,ai,bc h3,zdh,aI c2,e1],hI⟩)
  (λs _=>by simp only[cC,↓xo,bc (show¬((16:Nat):Int)<16 by omega),zdd]) v.O h
 exact⟨O',g1,g2⟩
theorem Cx (h:CI v)(e:Int)(E2:List gO)(hl:E2.length<=80000000): ∃O',ag (bS WX) (((),e,E2,(E2.length:Int),0,()),v.e)=some ((e,()),{v with O:=O'}.e)/\CI {v with O:=O'}:=by
 obtain⟨O',g1,g2⟩:=nB (b:=bS WX) E2.length (λj (s:List Bi)=>(((),e,E2,(E2.length:Int),(j:Int),()),{v with O:=s}.e)) (λs=>((e,()),{v with O:=s}.e)) (λj s=>CI {v with O:=s})
  (λj s hj hI=>by
   have hx:=zdi hj;have e1:=Tv hj (by omega)
   generalize E2[j]=x at*;obtain⟨O2,o1,o2⟩:=M0 hI e (E2.length:Int) (j:Int) E2 x;exact⟨O2,by simp only[bS,V.e,↓xo,xw,↓xl,ot (show(j:Int)<(E2.length:Int) by omega),ot (show(0:Int)<=(j:Int) by omega),zde,zdf,hx,zdc,o1,e1],o2⟩)
  (λs _=>by simp only[bS,↓xo,bc (show¬(E2.length:Int)<(E2.length:Int) by omega),zdd]) v.O h
 exact⟨O',g1,g2⟩
end
def XB (k:Nat):Option ((Unit×Unit)×(List Int×Unit))->Bool
 |some (_,(bs,_))=>Nat.beq bs.length k
 |none=>false
theorem uc {k:Nat}{o:Option ((Unit×Unit)×(List Int×Unit))}(h:XB k o=true): ∃bs:List Int,o=some (((),()),(bs,()))/\bs.length=k:=by
 match o,h with
 |some (((),()),(bs,())),h=>exact⟨bs,rfl,zeM h⟩
section
variable {n sq td it id sd od p q sh st wh a b:Int}{tg:List Int}
theorem zcN (h:bf WX (((3,sq,td,it,id,sd,od,p,q,sh,st,wh,a,b,tg,()),()),())=some ((true,()),())): ∃bs:List Int,hU WX (((2,0,n,(3,sq,td,it,id,sd,od,p,q,sh,st,wh,a,b,tg,()),()),()),())=some (((),()),(bs,()))/\bs.length=38:=by
 apply uc;simp only[hU,gP,h,zdc,zdg,zdd];clear h;kernel_rfl
theorem zcO (h:bf WX (((4,sq,td,it,id,sd,od,p,q,sh,st,wh,a,b,tg,()),()),())=some ((true,()),())): ∃bs:List Int,hU WX (((2,0,n,(4,sq,td,it,id,sd,od,p,q,sh,st,wh,a,b,tg,()),()),()),())=some (((),()),(bs,()))/\bs.length=21:=by
 apply uc;simp only[hU,gP,h,zdc,zdg,zdd];clear h;kernel_rfl
theorem zcP (h:bf WX (((5,sq,td,it,id,sd,od,p,q,sh,st,wh,a,b,tg,()),()),())=some ((true,()),())): ∃bs:List Int,hU WX (((2,0,n,(5,sq,td,it,id,sd,od,p,q,sh,st,wh,a,b,tg,()),()),()),())=some (((),()),(bs,()))/\bs.length=28:=by
 apply uc;simp only[hU,gP,h,zdc,zdg,zdd];clear h;kernel_rfl
theorem zcQ (h:bf WX (((6,sq,td,it,id,sd,od,p,q,sh,st,wh,a,b,tg,()),()),())=some ((true,()),())): ∃bs:List Int,hU WX (((2,0,n,(6,sq,td,it,id,sd,od,p,q,sh,st,wh,a,b,tg,()),()),()),())=some (((),()),(bs,()))/\bs.length=17:=by
 apply uc;simp only[hU,gP,h,zdc,zdg,zdd];clear h;kernel_rfl
theorem zcR (h:bf WX (((9,sq,td,it,id,sd,od,p,q,sh,st,wh,a,b,tg,()),()),())=some ((true,()),())): ∃bs:List Int,hU WX (((2,0,n,(9,sq,td,it,id,sd,od,p,q,sh,st,wh,a,b,tg,()),()),()),())=some (((),()),(bs,()))/\bs.length=18:=by
 apply uc;simp only[hU,gP,h,zdc,zdg,zdd];clear h;kernel_rfl
end
theorem zcS: ∀f g:Nat->Int,Ce (jq WX (((List.range 32).map f,(List.range 38).map g,()),()))=true:=λf g=>by kernel_rfl
theorem zcT: ∀f g:Nat->Int,Ce (jq WX (((List.range 32).map f,(List.range 21).map g,()),()))=true:=λf g=>by kernel_rfl
theorem zcU: ∀f g:Nat->Int,Ce (jq WX (((List.range 32).map f,(List.range 28).map g,()),()))=true:=λf g=>by kernel_rfl
theorem zcV: ∀f g:Nat->Int,Ce (jq WX (((List.range 32).map f,(List.range 17).map g,()),()))=true:=λf g=>by kernel_rfl
def zbN (k:Nat):Prop:= ∀f g:Nat->Int,Ce (jq WX (((List.range 32).map f,(List.range k).map g,()),()))=true
theorem Wr (x:Int): ∃u:List Int,lv WX (([],x,()),())=some (((),()),(u,()))/\u.length=4:=uc (by kernel_rfl)
theorem Ws {lg:GJ}{m k:Nat}{r:Ii}{bs:List Int}(h:yQ lg m)(hm:m<=100000000000)(hr:gA WX ((r,()),())=some ((true,()),()))(hp:hU WX ((r,()),())=some (((),()),(bs,())))(hk:bs.length=k)(hl:zbN k)(sZ:k<=100):
  ∃wK,gh WX (((),r,()),(lg,()))=some ((true,()),(wK,()))/\yQ wK (m+36+k):=by
 obtain⟨b,c,ct,u⟩:=lg;obtain⟨hb,hc⟩:=h;simp only at hb hc;obtain⟨f,rfl⟩:=mC c hc;obtain⟨g,hg⟩:=mC bs hk;obtain⟨c',h3,h4⟩:=Ex (hl f g);rw[<-hg] at h3;obtain⟨w,h5,h6⟩:=Wr (WX.wr .u32 (bs.length:Int));have e0:(0:Int)<=0/\(0:Int)<=((32:Nat):Int)/\((32:Nat):Int)<=(32:Nat):=by omega
 have hf: [b,w,bs,c'].flatten.length=b.length+36+k:=by simp;omega
 have hcc:=vE [b,w,bs,c'] (λe=>by rw[e] at hf;rw[zdo] at hf;omega) (by omega) (by simp)
 simp only[gh,hr,zdc,zdg,zdd,hp,h3,h5,↓xo,ot e0,zde,po h4,hcc,zeu];exact⟨_,rfl,by rw[hf];omega,h4⟩
theorem Qv {n:Int}{c:mP}(hn:0<=n/\n<=31)(h:bf WX ((c,()),())=some ((true,()),())): ∃b,gA WX (((2,0,n,c,()),()),())=some ((b,()),()):=by
 simp only[gA,↓xo,ot (show n>=0 by omega),Int.reduceEq,nh,iD,zde,zdd,ot (show n<32 by omega),h,zdc]
 exact⟨_,rfl⟩
theorem Wt {lg:GJ}{m:Nat}{n:Int}{c:mP}(h:yQ lg m)(hm:m<=100000000000)(hn:0<=n/\n<=31)(hc:KB c)(hR:bf WX ((c,()),())=some ((true,()),())): ∃b wK m',gh WX (((),(2,0,n,c,()),()),(lg,()))=some ((b,()),(wK,()))/\yQ wK m'/\m'<=m+100:=by
 obtain⟨b,hr⟩:=Qv hn hR;cases b with
 |false=>exact⟨false,lg,m,by simp only[gh,hr,zdc,zdh,zde],h,by omega⟩
 |true=>
  have key: ∃(k:Nat) (bs:List Int),hU WX (((2,0,n,c,()),()),())=some (((),()),(bs,()))/\bs.length=k/\zbN k/\k<=64:=by
   obtain⟨kd,sq,td,it,id,sd,od,p,q,sh,st,wh,a,b,tg,⟨⟩⟩:=c;have hk:=hc.kind;simp only at hk;rcases hk with rfl|rfl|rfl|rfl|rfl
   ·obtain⟨bs,b1,b2⟩:=zcN (n:=n) hR;exact⟨38,bs,b1,b2,zcS,by omega⟩
   ·obtain⟨bs,b1,b2⟩:=zcO (n:=n) hR;exact⟨21,bs,b1,b2,zcT,by omega⟩
   ·obtain⟨bs,b1,b2⟩:=zcP (n:=n) hR;exact⟨28,bs,b1,b2,zcU,by omega⟩
   ·obtain⟨bs,b1,b2⟩:=zcQ (n:=n) hR;exact⟨17,bs,b1,b2,zcV,by omega⟩
   ·obtain⟨bs,b1,b2⟩:=zcR (n:=n) hR;exact⟨18,bs,b1,b2,VS,by omega⟩
  obtain⟨k,bs,b1,b2,b3,b4⟩:=key;obtain⟨wK,l1,l2⟩:=Ws h hm hr b1 b2 b3 (by omega)
  exact⟨true,wK,_,l1,l2,by omega⟩
def jg (v:V)(i:Nat):wS:=(v.S.getD i (s0,())).1
def lE (F:List wT):Nat:=(F.map λx=>x.1.1.length).sum
theorem wB {v:V}{i f o:Nat}{s:wS}{fr ou:(List Int)×Bool×Unit}(h:nb v i f o s fr ou):jg v i=s:=by
 unfold jg;rw[zdt,h.S];rfl
theorem tE (F G:List wT):lE (F++G)=lE F+lE G:=by unfold lE;rw[zeV,List.sum_append]
theorem Ha {F:List wT}{f:Nat}{x y:wT}(h:F[f]?=some y):lE (F.set f x)+y.1.1.length=lE F+x.1.1.length:=by
 have hf:=(List.getElem?_eq_some_iff.1 h).1;have e1:F=F.take f++ [y]++F.drop (f+1):=by
  have:=zdi hf;rw[h] at this;rw[Option.some.inj this];simp
 have e2:F.set f x=F.take f++ [x]++F.drop (f+1):=by
  rw[ze1,if_pos hf];simp
 rw[e2];have e3:lE F=lE (F.take f)+y.1.1.length+lE (F.drop (f+1)):=by
  conv=>lhs;rw[e1]
  rw[tE,tE];simp[lE]
 rw[e3,tE,tE];have:lE [x]=x.1.1.length:=by simp[lE]
 omega
structure QI (v:V):Prop where
 tre:Fv v.cfg.1 v.tr
 uniq: ∀i j,i<16->j<16->(jg v i).1=3->(jg v j).1=3->(jg v i).2.1=(jg v j).2.1->i=j
 there: ∀i,i<16->(jg v i).1=3->lC v.tr (jg v i).2.1=true
 J9: ∀f:Int,(((List.range 16).countP λi=>decide ((jg v i).1=3/\(iC v.tr (jg v i).2.1).1=f):Nat):Int)<=v.cfg.2.2.2.2.2.2.2.1
theorem Fv.there {a b:List oS}(h:Fv a b)(n:Int):lC b n=lC a n:=by
 unfold lC iC;split
 ·rw[(h.same n.toNat).2.2.1]
 ·rfl
theorem Fv.kj {a b:List oS}(h:Fv a b)(n:Int):(iC b n).1=(iC a n).1:=(h.same n.toNat).1
theorem QI.mono {v v':V}(h:QI v)(hs: ∀j,j<16->(jg v' j).1=3->(jg v j).1=3/\(jg v' j).2.1=(jg v j).2.1)(ht:Fv v.tr v'.tr)(hc:v'.cfg=v.cfg):QI v':=by
 refine⟨by rw[hc];exact h.tre.trans ht,λi j hi hj h1 h2 h3=>?_,λi hi h1=>?_,λf=>?_⟩
 ·obtain⟨a1,a2⟩:=hs i hi h1
  obtain⟨b1,b2⟩:=hs j hj h2;exact h.uniq i j hi hj a1 b1 (by rw[<-a2,<-b2];exact h3)
 ·obtain⟨a1,a2⟩:=hs i hi h1
  rw[ht.there,a2];exact h.there i hi a1
 ·rw[hc]
  have:=List.countP_mono_left (l:=List.range 16) (p:=λi=>decide ((jg v' i).1=3/\(iC v'.tr (jg v' i).2.1).1=f)) (q:=λi=>decide ((jg v i).1=3/\(iC v.tr (jg v i).2.1).1=f)) (λi hi hp=>by
   have hp:=of_decide_eq_true hp;obtain⟨a1,a2⟩:=hs i (List.mem_range.1 hi) hp.1;refine decide_eq_true ⟨a1,?_⟩;rw[<-hp.2,ht.kj,a2])
  have:=h.J9 f;omega
structure VI (P:Nat->V->(Nat->MS)->Prop)(k m:Nat)(v:V)(μ:Nat->MS):Prop where
 ss:SS v μ
 ci:CI v
 mt:v.mt.length=4
 lg:yQ v.lg m
 p:P k v μ
 qi:QI v
structure PK (P:Nat->V->(Nat->MS)->Prop):Prop where
 oL: ∀{k v v' μ},P k v μ->v'.op=v.op->v'.ps=v.ps->v'.cfg=v.cfg->P k v' μ
 quiet: ∀{k v μ v' μ'} {x:Int},SS v μ->P k v μ->SS v' μ'->Kept v v'->v'.ps=v.ps->(∀i,μ' i=μ i\/μ' i=(mM x (μ i)).1)->P k v' μ'
 cmd: ∀{k v μ v' μ'},SS v μ->P k v μ->SS v' μ'->Kept v v'->OA v μ μ' v'.ps->P (k+1) v' μ'
 more: ∀{k v μ},P k v μ->P (k+1) v μ
structure Sm (v v':V):Prop where
 c:v'.c=v.c
 S:v'.S=v.S
 F:v'.F=v.F
 now:v'.now=v.now
 cfg:v'.cfg=v.cfg
 tr:Fv v.tr v'.tr
theorem Sm.jg {v v':V}(h:Sm v v')(i:Nat):jg v' i=jg v i:=by unfold AM.jg;rw[h.S]
theorem Sm.qi {v v':V}(h:Sm v v')(q:QI v):QI v':=q.mono (λj _ h3=>by rw[h.jg] at h3⊢;exact⟨h3,rfl⟩) h.tr h.cfg
theorem Sm.trans {a b c:V}(h:Sm a b)(k:Sm b c):Sm a c:=⟨k.c.trans h.c,k.S.trans h.S,k.F.trans h.F,k.now.trans h.now,k.cfg.trans h.cfg,h.tr.trans k.tr⟩
theorem SS.oL {v v':V}{μ:Nat->MS}(h:SS v μ)(hs:v'.s=v.s):SS v' μ:=by
 obtain⟨c,cfg,now,ph,mp,bp,lp,tr,op,ps,lg,mt,M,L,S,F,O,B⟩:=v;obtain⟨c',zda,Zr,ph',mp',bp',lp',tr',mQ,XK,wK,rl,M',L',S',F',O',B'⟩:=v';simp only[V.s,Prod.mk.injEq] at hs;obtain⟨⟨rfl,rfl,_,rfl,rfl,_,rfl,rfl,_⟩,⟨rfl,_⟩,⟨rfl,rfl,_⟩,rfl,rfl,rfl,_⟩:=hs;exact⟨⟨⟨h.si.qL.mp,h.si.qL.at_⟩,h.si.op,h.si.MQ,h.si.ps⟩,h.tr,h.ph,h.Xz,h.bp,h.B,h.lp,h.L,h.now⟩
theorem CI.oL {v v':V}(h:CI v)(hc:v'.c=v.c)(hS:v'.S=v.S)(hF:v'.F=v.F)(hO:v'.O=v.O):CI v':=λi hi=>by
 obtain⟨f,o,s,fr,ou,h1,h2⟩:=h i hi;exact⟨f,o,s,fr,ou,⟨h1.lt,by rw[hc];exact h1.c,by rw[hS];exact h1.S,by rw[hF];exact h1.F,by rw[hO];exact h1.O⟩,h2⟩
theorem M3 {r:Ii}{v v1:V}{b:Bool}{wK:GJ}(hci:CI v)(hm:v.mt.length=4)(h1:v1.c=v.c)(h2:v1.S=v.S)(h3:v1.F=v.F)(h4:v1.O=v.O)
  (hd:(∃e,ck WX (((),r,()),v.s)=some (.inl (((),e,()),sE v1 [])))\/∃out,out.length<=80000000/\ck WX (((),r,()),v.s)=some (.inr ((out,0,()),v1.s)))
  (hl:gh WX (((),r,()),(v.lg,()))=some ((b,()),(wK,()))):
  ∃e rl O',bR WX (((),r,()),v.e)=some ((e,()),{v1 with lg:=wK,mt:=rl,O:=O'}.e)/\CI {v1 with lg:=wK,mt:=rl,O:=O'}/\rl.length=4:=by
 obtain⟨rl,q,g3,g4⟩:=tC hm (i:=1) (by omega)
 change aR WX (((),1,1,()),_)=_ at g3;have zbO:CI {v1 with lg:=wK,mt:=rl}:=hci.oL h1 h2 h3 h4;rcases hd with⟨e,hd⟩|⟨out,ho,hd⟩
 ·obtain⟨O',l1,l2⟩:=Cx zbO e [] (by simp)
  refine⟨e,rl,O',?_,l2,g4⟩;simp only[V.s] at hd;simp only[V.e,zdo,zeL] at l1;rw[h1,h2,h3,h4] at l1;simp only[bR,V.e,hd,hl,g3,zdc,↓xl,zdo,zeL,l1,h1,h2,h3]
 ·obtain⟨O',l1,l2⟩:=Cx zbO 0 out ho
  refine⟨0,rl,O',?_,l2,g4⟩;simp only[V.s] at hd;simp only[V.e] at l1;rw[h1,h2,h3,h4] at l1;simp only[bR,V.e,hd,hl,g3,zdc,↓xl,l1,h1,h2,h3]
section
variable {P:Nat->V->(Nat->MS)->Prop}{k m:Nat}{v:V}{μ:Nat->MS}
theorem TM (pk:PK P)(h:VI P k m v μ)(hm:m<=100000000000){d:Int}(hd:d=3\/d=4\/d=5){n:Int}(hn:0<=n/\n<=31): ∃e v' μ',bR WX (((),(d,0,n,C0,()),()),v.e)=some ((e,()),v'.e)/\VI P k (m+46) v' μ'/\Sm v v':=by
 obtain⟨v1,μ',x,s1,s2,s3,s4,s5⟩:=TJ h.ss n d hd;obtain⟨wK,l1,l2⟩:=Iv h.lg hm (N4 hd hn.1 (by omega))
 have e1:v1.c=v.c:=by rw[s2.eq]
 have e2:v1.S=v.S:=by rw[s2.eq]
 have e3:v1.F=v.F:=by rw[s2.eq]
 have e4:v1.O=v.O:=by rw[s2.eq]
 have e5:v1.now=v.now:=by rw[s2.eq]
 have e6:v1.cfg=v.cfg:=by rw[s2.eq]
 obtain⟨e,rl,O',r1,r2,r3⟩:=M3 h.ci h.mt e1 e2 e3 e4 s5 l1;have sm:Sm v {v1 with lg:=wK,mt:=rl,O:=O'}:=⟨e1,e2,e3,e5,e6,s2.tr⟩;exact⟨e,_,μ',r1,⟨s1.oL (by rfl),r2,r3,l2,pk.oL (pk.quiet h.ss h.p s1 s2 s3 s4) (by rfl) (by rfl) (by rfl),sm.qi h.qi⟩,sm⟩
theorem zbP (pk:PK P)(h:VI P k m v μ)(hm:m<=100000000000){n:Int}(hn:0<=n/\n<=31){c:mP}(hc:KB c)(hR:bf WX ((c,()),())=some ((true,()),()))(hT:iz WX ((c,()),())=some ((true,()),())): ∃e v' μ' m',bR WX (((),(2,0,n,c,()),()),v.e)=some ((e,()),v'.e)/\VI P (k+1) m' v' μ'/\m'<=m+100/\Sm v v':=by
 obtain⟨v1,μ',s1,s2,s3,s5⟩:=ZX h.ss n hc hT;obtain⟨b,wK,m',l1,l2,l3⟩:=Wt h.lg hm hn hc hR;have e1:v1.c=v.c:=by rw[s2.eq]
 have e2:v1.S=v.S:=by rw[s2.eq]
 have e3:v1.F=v.F:=by rw[s2.eq]
 have e4:v1.O=v.O:=by rw[s2.eq]
 have e5:v1.now=v.now:=by rw[s2.eq]
 have e6:v1.cfg=v.cfg:=by rw[s2.eq]
 obtain⟨e,rl,O',r1,r2,r3⟩:=M3 h.ci h.mt e1 e2 e3 e4 s5 l1;have sm:Sm v {v1 with lg:=wK,mt:=rl,O:=O'}:=⟨e1,e2,e3,e5,e6,s2.tr⟩;exact⟨e,_,μ',m',r1,⟨s1.oL (by rfl),r2,r3,l2,pk.oL (pk.cmd h.ss h.p s1 s2 s3) (by rfl) (by rfl) (by rfl),sm.qi h.qi⟩,l3,sm⟩
end
structure Ev (i:Nat)(v v':V):Prop where
 now:v'.now=v.now
 cfg:v'.cfg=v.cfg
 left:lE v'.F=lE v.F
 jg: ∀j,j<16->jg v' j=jg v j\/(jg v' j).1=0\/(j=i/\(jg v' j).2.2.2.2.1=v.now)
theorem Ev.rfl (i:Nat)(v:V):Ev i v v:=⟨Eq.refl _,Eq.refl _,Eq.refl _,λ_ _=> .inl (Eq.refl _)⟩
theorem Ev.trans {i:Nat}{a b c:V}(h:Ev i a b)(k:Ev i b c):Ev i a c:=⟨k.now.trans h.now,k.cfg.trans h.cfg,k.left.trans h.left,λj hj=>by
 rcases k.jg j hj with e|e|⟨e1,e2⟩
 ·rw[e];exact h.jg j hj
 ·exact .inr (.inl e)
 ·exact .inr (.inr ⟨e1,by rw[e2,h.now]⟩)⟩
structure Dw (v v':V):Prop where
 now:v'.now=v.now
 cfg:v'.cfg=v.cfg
 left:lE v'.F=lE v.F
 jg: ∀j,j<16->jg v' j=jg v j\/(jg v' j).1=0
theorem Dw.rfl (v:V):Dw v v:=⟨Eq.refl _,Eq.refl _,Eq.refl _,λ_ _=> .inl (Eq.refl _)⟩
theorem Dw.trans {a b c:V}(h:Dw a b)(k:Dw b c):Dw a c:=⟨k.now.trans h.now,k.cfg.trans h.cfg,k.left.trans h.left,λj hj=>by
 rcases k.jg j hj with e|e
 ·rw[e];exact h.jg j hj
 ·exact .inr e⟩
theorem Dw.ev {v v':V}(h:Dw v v')(i:Nat):Ev i v v':=⟨h.now,h.cfg,h.left,λj hj=>by
 rcases h.jg j hj with e|e
 ·exact .inl e
 ·exact .inr (.inl e)⟩
theorem Sm.dw {v v':V}(h:Sm v v'):Dw v v':=⟨h.now,h.cfg,by rw[h.F],λj _=> .inl (h.jg j)⟩
theorem AJ {v:V}{i f o:Nat}{s:wS}{fr ou:(List Int)×Bool×Unit}(h:nb v i f o s fr ou){S':List Ao}{x:wS}(hS:S'=v.S.set i (x,()))(j:Nat):(S'.getD j (s0,())).1=if j=i then x else jg v j:=by
 subst hS;have hl:=(List.getElem?_eq_some_iff.1 h.S).1;unfold jg;simp only[zdt,zeJ];by_cases e:i=j
 ·subst e;rw[if_pos rfl,if_pos hl,if_pos rfl];rfl
 ·rw[if_neg e,if_neg (λq=>e q.symm)]
section
variable {P:Nat->V->(Nat->MS)->Prop}{k m:Nat}{v:V}{μ:Nat->MS}{i:Nat}
theorem KC (pk:PK P)(h:VI P k m v μ)(hi:i<16): ∃v',bG WX (((),(i:Int),()),v.e)=some ((),v'.e)/\VI P k m v' μ/\Dw v v'/\jg v' i=s0/\(∀j,j≠i->jg v' j=jg v j)/\v'.tr=v.tr:=by
 obtain⟨f,o,s,fr,ou,hc,mc⟩:=h.ci i hi;obtain⟨rl,h1,h2⟩:=Zt hc h.mt;have hs:=λj=>AJ hc (x:=s0) rfl j;have hdw:Dw v {v with c:=v.c.set i (i+1,v.F.length+1,o+1,()),mt:=rl,S:=v.S.set i (s0,()),F:=v.F++ [(([],false,()),())]}:=⟨rfl,rfl,by rw[tE];rfl,λj _=>by
  show(((v.S.set i (s0,())).getD j (s0,())).1=_)\/((v.S.set i (s0,())).getD j (s0,())).1.1=0
  rw[hs];split
  ·exact .inr rfl
  ·exact .inl rfl⟩
 have hsi:((v.S.set i (s0,())).getD i (s0,())).1=s0:=by rw[hs,if_pos rfl]
 have hsj: ∀j,j≠i->((v.S.set i (s0,())).getD j (s0,())).1=jg v j:=λj hj=>by rw[hs,if_neg hj]
 refine⟨_,h1,⟨h.ss.oL (by rfl),λj hj=>?_,h2,h.lg,pk.oL h.p (by rfl) (by rfl) (by rfl),h.qi.mono (λj hj h3=>?_) .rfl (by rfl)⟩,hdw,hsi,hsj,rfl⟩
 ·by_cases e:j=i
  ·subst e
   exact⟨v.F.length,o,s0,([],false,()),ou,⟨hi,kL hc.c,kL hc.S,by simp,hc.O⟩,⟨mc.out,by simp[s0], .inl rfl,by simp[s0]⟩⟩
  ·obtain⟨f',o',s',wm,Ix,c1,c2⟩:=h.ci j hj
   obtain⟨d1,d2,d3,d4,d5⟩:=nb.other c1 e (i+1,v.F.length+1,o+1,()) (s0,()) [(([],false,()),())];exact⟨f',o',s',wm,Ix,⟨d1,d2,d3,d4,d5⟩,c2⟩
 ·by_cases e:j=i
  ·subst e
   change ((v.S.set j (s0,())).getD j (s0,())).1.1=3 at h3;rw[hsi] at h3;cases h3
  ·change ((v.S.set i (s0,())).getD j (s0,())).1.1=3 at h3
   rw[hsj j e] at h3;refine⟨h3,?_⟩;show((v.S.set i (s0,())).getD j (s0,())).1.2.1=_
   rw[hsj j e]
theorem pV (pk:PK P)(h:VI P k m v μ)(hm:m<=100000000000)(hi:i<16): ∃v' μ' m',bm WX (((),(i:Int),()),v.e)=some ((),v'.e)/\VI P k m' v' μ'/\m'<=m+46/\Dw v v'/\(jg v' i).1=0/\(∀j,j≠i->jg v' j=jg v j)/\Fv v.tr v'.tr:=by
 obtain⟨f,o,s,fr,ou,hc,mc⟩:=h.ci i hi;have KM:=wB hc;by_cases h0:s.1=0
 ·have e2: ¬s.1=2:=by omega
  have e3: ¬s.1=3:=by omega
  refine⟨v,μ,m,?_,h,by omega, .rfl v,by rw[KM];exact h0,λj _=>rfl, .rfl⟩
  simp only[bm,V.e,↓xo,ot (lh hi),zde,zdf,hc.c,zdc,al,hc.S,ai,ay,bc e2,bc e3,ot h0,zdd,aI hc.S]
 ·obtain⟨v1,f1,f2,f3,f4,f5,f6⟩:=KC pk h hi
  by_cases h3:s.1=3
  ·obtain⟨e,v2,μ',r1,r2,r3⟩:=TM pk f2 hm (d:=5) (.inr (.inr rfl)) mc.qn
   have e2: ¬s.1=2:=by omega
   refine⟨v2,μ',m+46,?_,r2,by omega,f3.trans r3.dw,by rw[r3.jg,f4];rfl,λj hj=>by rw[r3.jg,f5 j hj],by rw[<-f6];exact r3.tr⟩
   simp only[V.e] at f1 r1;simp only[bm,V.e,↓xo,ot (lh hi),zde,zdf,hc.c,zdc,al,hc.S,ai,ay,bc e2,ot h3,bc h0,zdd,aI hc.S,f1,r1]
  ·refine⟨v1,μ,m,?_,f2,by omega,f3,by rw[f4];rfl,f5,by rw[f6];exact .rfl⟩
   simp only[V.e] at f1;by_cases h2:s.1=2
   ·simp only[bm,V.e,↓xo,ot (lh hi),zde,zdf,hc.c,zdc,al,hc.S,ai,ay,ot h2,bc h3,bc h0,zdd,aI hc.S,f1]
   ·simp only[bm,V.e,↓xo,ot (lh hi),zde,zdf,hc.c,zdc,al,hc.S,ai,ay,bc h2,bc h3,bc h0,zdd,aI hc.S,f1]
theorem KD (h:CI v): ∃r:Int,eV WX (((),()),v.e)=some ((r,()),v.e)/\(r= -1\/∃i:Nat,i<16/\r=(i:Int)/\(jg v i).1≠0):=by
 have key:=rq (b:=bV WX) (λk l=> ∃j:Nat,j<=16/\k=16-j/\l=((v.c,(j:Int),()),v.S,v.F,v.O,())) (λr=>(∃j:Nat,j<16/\(jg v j).1≠0/\r= .inl (((j:Int),()),v.S,v.F,v.O,()))\/r= .inr ((),v.S,v.F,v.O,())) (λk l hl=>by
  obtain⟨j,hj,rfl,rfl⟩:=hl;by_cases hc:j<16
  ·obtain⟨f,o,s,fr,ou,c1,c2⟩:=h j hc
   have e1:=lx hc (by omega)
   have hs:=wB c1;by_cases h0:s.1=0
   ·exact .inl ⟨((v.c,((j+1:Nat):Int),()),v.S,v.F,v.O,()),by simp only[bV,↓xo,xw,ot (show(j:Int)<16 by omega),ot (lh hc),zde,zdc,zdf,c1.c,al,c1.S,ai,ot h0,zdg,zdd,aI c1.S,e1],16-(j+1),by omega,j+1,by omega,rfl,rfl⟩
   ·cases ho:ou.2.1 with
    |true=>exact .inr ⟨.inl (((j:Int),()),v.S,v.F,v.O,()),by simp only[bV,↓xo,xw,ot (show(j:Int)<16 by omega),ot (lh hc),zde,zdc,zdf,c1.c,al,c1.S,ai,bc h0,zdh,aI c1.S,c1.O,jL,ho,aI c1.O], .inl ⟨j,hc,by rw[hs];exact h0,rfl⟩⟩
    |false=>exact .inl ⟨((v.c,((j+1:Nat):Int),()),v.S,v.F,v.O,()),by simp only[bV,↓xo,xw,ot (show(j:Int)<16 by omega),ot (lh hc),zde,zdc,zdf,c1.c,al,c1.S,ai,bc h0,zdh,zdd,aI c1.S,c1.O,jL,ho,aI c1.O,e1],16-(j+1),by omega,j+1,by omega,rfl,rfl⟩
  ·obtain rfl:j=16:=by omega
   exact .inr ⟨.inr ((),v.S,v.F,v.O,()),by simp only[bV,↓xo,bc (show¬((16:Nat):Int)<16 by omega),zdd], .inr rfl⟩)
 obtain⟨r,h1,h2⟩:=key 16 ((v.c,0,()),v.S,v.F,v.O,()) ⟨0,by omega,by omega,rfl⟩
 rcases h2 with⟨j,hj,hn,rfl⟩|rfl
 ·exact⟨(j:Int),by simp only[eV,V.e,↓xl,h1,zdc], .inr ⟨j,hj,rfl,hn⟩⟩
 ·exact⟨-1,by simp only[eV,V.e,↓xl,h1,zdc], .inl rfl⟩
def busy (v:V):Nat:=(List.range 16).countP λi=>!decide ((jg v i).1=0)
theorem Qw {v v':V}(hi:i<16)(h0:(jg v i).1≠0)(h1:(jg v' i).1=0)(h2: ∀j,j≠i->jg v' j=jg v j):busy v'<busy v:=by
 have key: ∀l:List Nat,(l.countP λi=>!decide ((jg v' i).1=0))+(if i∈l then 1 else 0)<=l.countP λi=>!decide ((jg v i).1=0):=by
  intro l;induction l with
  |nil=>simp
  |cons x l ih=>
   rw[List.countP_cons,List.countP_cons];by_cases e:x=i
   ·subst e
    have a1:(!decide ((jg v' x).1=0))=false:=by rw[decide_eq_true h1];rfl
    have a2:(!decide ((jg v x).1=0))=true:=by rw[decide_eq_false h0];rfl
    simp only[a1,a2,zdX,true_or,if_true,zdk,if_false];split at ih<;>omega
   ·rw[h2 x e]
    have:(i∈x::l)↔i∈l:=by simp[Ne.symm e]
    simp only[this];omega
 have:=key (List.range 16);rw[if_pos (List.mem_range.2 hi)] at this;unfold busy;omega
theorem Wu (v:V):busy v<=16:=by
 have:=List.countP_le_length (p:=λi=>!decide ((jg v i).1=0)) (l:=List.range 16);rw[List.length_range] at this;exact this
theorem yt (pk:PK P)(h:VI P k m v μ)(hm:m<=90000000000): ∃v' μ' m',cd WX (((),()),v.e)=some ((),v'.e)/\VI P k m' v' μ'/\m'<=m+736/\Dw v v'/\Fv v.tr v'.tr:=by
 obtain⟨r,o1,o2⟩:=KD h.ci;have key:=rq (b:=cT WX) (λn l=> ∃(r:Int) (v1:V) (μ1:Nat->MS) (m1:Nat),l=(((),r,()),v1.e)/\VI P k m1 v1 μ1/\m1+46*n<=m+736/\Dw v v1/\Fv v.tr v1.tr/\n=busy v1/\(r= -1\/∃i:Nat,i<16/\r=(i:Int)/\(jg v1 i).1≠0)) (λq=> ∃(v1:V) (μ1:Nat->MS) (m1:Nat),q=((),v1.e)/\VI P k m1 v1 μ1/\m1<=m+736/\Dw v v1/\Fv v.tr v1.tr) (λn l hl=>by
  obtain⟨r,v1,μ1,m1,rfl,i1,i2,i3,i4,i5,i6⟩:=hl;rcases i6 with rfl|⟨i,hi,rfl,hn⟩
  ·exact .inr ⟨_,by simp only[cT,↓xo,bc (show¬(-1:Int)>=0 by omega),zdd],v1,μ1,m1,rfl,i1,by omega,i3,i4⟩
  ·obtain⟨v2,μ2,m2,d1,d2,d3,d4,d5,d6,d7⟩:=pV pk i1 (by omega) hi
   have hb:=Qw hi hn d5 d6;obtain⟨r',p1,p2⟩:=KD d2.ci;exact .inl ⟨_,by simp only[cT,↓xo,ot (show(i:Int)>=0 by omega),zde,d1,zdc,p1],busy v2,by omega,r',v2,μ2,m2,rfl,d2,by omega,i3.trans d4,i4.trans d7,rfl,p2⟩)
 obtain⟨q,h1,v1,μ1,m1,rfl,h2,h3,h4,h5⟩:=key (busy v) (((),r,()),v.e) ⟨r,v,μ,m,rfl,h,by have:=Wu v;omega, .rfl v, .rfl,rfl,o2⟩
 exact⟨v1,μ1,m1,by simp only[cd,o1,zdc,↓xl,h1],h2,h3,h4,h5⟩
theorem uH (pk:PK P)(h:VI P k m v μ)(hi:i<16)(sq er:Int): ∃v',dM WX (((),(i:Int),sq,er,()),v.e)=some ((),v'.e)/\VI P k m v' μ/\Sm v v':=by
 obtain⟨rl,r,h3,h4⟩:=tC h.mt (i:=2) (by omega)
 change aR WX (((),2,1,()),_)=_ at h3;obtain⟨O',n1,n2⟩:=E1 (v:={v with mt:=rl}) (h.ci.oL rfl rfl rfl rfl) hi (Qu er sq);have sm:Sm v {v with mt:=rl,O:=O'}:=⟨rfl,rfl,rfl,rfl,rfl, .rfl⟩;refine⟨_,?_,⟨h.ss.oL (by rfl),n2,h4,h.lg,pk.oL h.p (by rfl) (by rfl) (by rfl),sm.qi h.qi⟩,sm⟩
 simp only[V.e] at n1;simp only[dM,V.e,h3,zdc,n1]
theorem AK (pk:PK P)(h:VI P k m v μ)(hi:i<16){n:ma}(hn:NS n): ∃v',bY WX (((),(i:Int),n,()),v.e)=some ((),v'.e)/\VI P k m v' μ/\Sm v v':=by
 obtain⟨O',n1,n2⟩:=E1 h.ci hi hn;have sm:Sm v {v with O:=O'}:=⟨rfl,rfl,rfl,rfl,rfl, .rfl⟩;exact⟨_,n1,⟨h.ss.oL (by rfl),n2,h.mt,h.lg,pk.oL h.p (by rfl) (by rfl) (by rfl),sm.qi h.qi⟩,sm⟩
end
structure XC (v:V)(n:Int):Prop where
 there:lC v.tr n=true
 alone: ∀j,j<16->(jg v j).1=3->(jg v j).2.1≠n
 room:(((List.range 16).countP λi=>decide ((jg v i).1=3/\(iC v.tr (jg v i).2.1).1=(iC v.tr n).1):Nat):Int)<v.cfg.2.2.2.2.2.2.2.1
section
variable {P:Nat->V->(Nat->MS)->Prop}{k m:Nat}{v:V}{μ:Nat->MS}{i:Nat}
theorem M4 (h:SS v μ){n:Int}(hn:0<=n/\n<=31): ∃b,du WX (((),n,()),v.s)=some ((b,()),v.s):=by
 have l1:=h.lp n.toNat (by omega)
 obtain⟨l,l2⟩:=h.L n.toNat (by omega)
 exact⟨oD l v.now,by simp only[du,kC,V.s,↓xo,ot (show n>=0 by omega),ot (show n<32 by omega),ot (Cw hn),zde,zdc,l1,al,l2,qA,aI l2]⟩
theorem E4 {tr:List oS}{n:Int}(h:lC tr n=true):uW tr n=iC tr n:=by unfold uW;rw[if_pos h]
theorem TN (h:VI P k m v μ){n:Int}(hn:lC v.tr n=true):(ag (bz WX) (((),n,(),0,v.c,0,()),v.e)=some (.inl ((5,()),v.e)))\/(ag (bz WX) (((),n,(),0,v.c,0,()),v.e)=some (.inr (((),((((List.range 16).countP λi=>decide ((jg v i).1=3/\(iC v.tr (jg v i).2.1).1=(iC v.tr n).1):Nat)):Int),()),v.e))/\∀j,j<16->(jg v j).1=3->(jg v j).2.1≠n):=by
 have key:=rq (b:=bz WX) (λq l=> ∃j:Nat,j<=16/\q=16-j/\l=(((),n,(),((((List.range j).countP λi=>decide ((jg v i).1=3/\(iC v.tr (jg v i).2.1).1=(iC v.tr n).1):Nat)):Int),v.c,(j:Int),()),v.e)/\∀j',j'<j->(jg v j').1=3->(jg v j').2.1≠n)
  (λr=>r= .inl ((5,()),v.e)\/(r= .inr (((),((((List.range 16).countP λi=>decide ((jg v i).1=3/\(iC v.tr (jg v i).2.1).1=(iC v.tr n).1):Nat)):Int),()),v.e)/\∀j,j<16->(jg v j).1=3->(jg v j).2.1≠n)) (λq l hl=>by
  obtain⟨j,hj,rfl,rfl,vS⟩:=hl;by_cases hc:j<16
  ·obtain⟨f,o,s,fr,ou,c1,c2⟩:=h.ci j hc
   have e1:=lx hc (by omega)
   have hs:=wB c1;have FK:=List.countP_le_length (p:=λi=>decide ((jg v i).1=3/\(iC v.tr (jg v i).2.1).1=(iC v.tr n).1)) (l:=List.range j);rw[List.length_range] at FK;have OF:(List.range (j+1)).countP (λi=>decide ((jg v i).1=3/\(iC v.tr (jg v i).2.1).1=(iC v.tr n).1))=(List.range j).countP (λi=>decide ((jg v i).1=3/\(iC v.tr (jg v i).2.1).1=(iC v.tr n).1))+(if s.1=3/\(iC v.tr s.2.1).1=(iC v.tr n).1 then 1 else 0):=by
    rw[List.range_succ,List.countP_append,List.countP_cons,List.countP_nil];simp only[hs,zdr,zd2]
   have t1:=oe h.ss.tr n;rw[E4 hn] at t1;by_cases h3:s.1=3
   ·have e2: ¬s.1=2:=by omega
    have t2:=oe h.ss.tr s.2.1;have hth:=h.qi.there j hc (by rw[hs];exact h3)
    rw[hs] at hth;rw[E4 hth] at t2;by_cases h4:s.2.1=n
    ·exact .inr ⟨.inl ((5,()),v.e),by simp only[bz,V.e,↓xo,xw,ot (show(j:Int)<16 by omega),ot (lh hc),zde,zdc,zdf,c1.c,al,c1.S,ai,ay,ot h3,bc e2,zdg,zdd,aI c1.S,ot h4], .inl rfl⟩
    ·by_cases h5:(iC v.tr s.2.1).1=(iC v.tr n).1
     ·rw[if_pos ⟨h3,h5⟩] at OF
      have e3:i64.wrap ((((List.range j).countP λi=>decide ((jg v i).1=3/\(iC v.tr (jg v i).2.1).1=(iC v.tr n).1):Nat):Int)+1)=(((List.range (j+1)).countP λi=>decide ((jg v i).1=3/\(iC v.tr (jg v i).2.1).1=(iC v.tr n).1):Nat):Int):=by
       rw[nQ (by omega) (by omega),OF];omega
      exact .inl ⟨_,by simp only[bz,V.e,↓xo,xw,ot (show(j:Int)<16 by omega),ot (lh hc),zde,zdc,zdf,c1.c,al,c1.S,ai,ay,ot h3,bc e2,zdg,zdd,aI c1.S,bc h4,t1,t2,ot h5,e1,e3],16-(j+1),by omega,j+1,by omega,rfl,rfl,λj' BR h'=>by
       by_cases e:j'=j
       ·subst e;rw[hs];exact h4
       ·exact vS j' (by omega) h'⟩
     ·have Xv:(List.range (j+1)).countP (λi=>decide ((jg v i).1=3/\(iC v.tr (jg v i).2.1).1=(iC v.tr n).1))=(List.range j).countP (λi=>decide ((jg v i).1=3/\(iC v.tr (jg v i).2.1).1=(iC v.tr n).1)):=by rw[OF,if_neg (λq=>h5 q.2)];rfl
      exact .inl ⟨_,by simp only[bz,V.e,↓xo,xw,ot (show(j:Int)<16 by omega),ot (lh hc),zde,zdc,zdf,c1.c,al,c1.S,ai,ay,ot h3,bc e2,zdg,zdd,aI c1.S,bc h4,t1,t2,bc h5,e1,Xv],16-(j+1),by omega,j+1,by omega,rfl,rfl,λj' BR h'=>by
       by_cases e:j'=j
       ·subst e;rw[hs];exact h4
       ·exact vS j' (by omega) h'⟩
   ·have Xv:(List.range (j+1)).countP (λi=>decide ((jg v i).1=3/\(iC v.tr (jg v i).2.1).1=(iC v.tr n).1))=(List.range j).countP (λi=>decide ((jg v i).1=3/\(iC v.tr (jg v i).2.1).1=(iC v.tr n).1)):=by rw[OF,if_neg (λq=>h3 q.1)];rfl
    exact .inl ⟨_,by simp only[bz,V.e,↓xo,xw,ot (show(j:Int)<16 by omega),ot (lh hc),zde,zdc,zdf,c1.c,al,c1.S,ai,bc h3,zdh,aI c1.S,e1,Xv],16-(j+1),by omega,j+1,by omega,rfl,rfl,λj' BR h'=>by
     by_cases e:j'=j
     ·subst e;rw[hs] at h';exact absurd h' h3
     ·exact vS j' (by omega) h'⟩
  ·obtain rfl:j=16:=by omega
   exact .inr ⟨_,by simp only[bz,↓xo,bc (show¬((16:Nat):Int)<16 by omega),zdd], .inr ⟨rfl,vS⟩⟩)
 obtain⟨r,h1,h2⟩:=key 16 (((),n,(),0,v.c,0,()),v.e) ⟨0,by omega,by omega,rfl,λj hj=>by omega⟩
 rcases h2 with rfl|⟨rfl,h2⟩
 ·exact .inl h1
 ·exact .inr ⟨h1,h2⟩
theorem TO (h:VI P k m v μ)(n:Int): ∃e,eK WX (((),n,()),v.e)=some ((e,()),v.e)/\(e=0->XC v n):=by
 have h1:=oJ h.ss.tr n;cases ht:lC v.tr n with
 |false=>
  rw[ht] at h1;exact⟨16,by simp only[eK,V.e,cW,zdc,h1,zdh,zde],λq=>by omega⟩
 |true=>
  rw[ht] at h1;have hn:=qE ht;obtain⟨b,h2⟩:=M4 h.ss hn;have h3:=oe h.ss.tr n;simp only[V.s] at h2;cases b with
  |true=>exact⟨15,by simp only[eK,V.e,cW,zdc,h1,h2,zdg,zdd,zde],λq=>by omega⟩
  |false=>
   cases ho:(uW v.tr n).2.2.2.2.1 with
   |true=>exact⟨7,by simp only[eK,V.e,cW,zdc,h1,h2,h3,ho,zdg,zdd,zde],λq=>by omega⟩
   |false=>
    rcases TN h ht with hl|⟨hl,vS⟩
    ·simp only[V.e] at hl
     exact⟨5,by simp only[eK,V.e,cW,zdc,h1,h2,h3,ho,zdg,zdd,↓xl,hl],λq=>by omega⟩
    ·simp only[V.e] at hl
     by_cases hq:(((List.range 16).countP λi=>decide ((jg v i).1=3/\(iC v.tr (jg v i).2.1).1=(iC v.tr n).1):Nat):Int)>=v.cfg.2.2.2.2.2.2.2.1
     ·exact⟨4,by simp only[eK,V.e,cW,zdc,h1,h2,h3,ho,zdg,zdd,↓xl,hl,dP,↓xo,ot hq,zde],λq=>by omega⟩
     ·exact⟨0,by simp only[eK,V.e,cW,zdc,h1,h2,h3,ho,zdg,zdd,↓xl,hl,dP,↓xo,bc hq],λ_=>⟨ht,vS,by omega⟩⟩
theorem E5 (pk:PK P)(h:VI P k m v μ){f o:Nat}{s:wS}{fr ou:(List Int)×Bool×Unit}(hc:nb v i f o s fr ou){s':wS}(mc:zbM s' ou)(hq:QI {v with S:=v.S.set i (s',())}):VI P k m {v with S:=v.S.set i (s',())} μ:=by
 refine⟨h.ss.oL (by rfl),λj hj=>?_,h.mt,h.lg,pk.oL h.p (by rfl) (by rfl) (by rfl),hq⟩
 by_cases e:j=i
 ·subst e
  exact⟨f,o,s',fr,ou,hc.jg s',mc⟩
 ·obtain⟨f',o',s2,wm,Ix,h1,h2⟩:=h.ci j hj
  exact⟨f',o',s2,wm,Ix,⟨h1.lt,h1.c,by show(v.S.set i _)[j]?=_;rw[kH e];exact h1.S,h1.F,h1.O⟩,h2⟩
theorem IX (h:QI v){f o:Nat}{s:wS}{fr ou:(List Int)×Bool×Unit}(hc:nb v i f o s fr ou){s':wS}(hs:s'.1=3->s.1=3/\s'.2.1=s.2.1):QI {v with S:=v.S.set i (s',())}:=by
 have KM:=wB hc;refine h.mono (λj hj h3=>?_) .rfl (by rfl)
 have e:=AJ hc (x:=s') rfl j;change ((v.S.set i (s',())).getD j (s0,())).1.1=3 at h3;show(jg v j).1=3/\((v.S.set i (s',())).getD j (s0,())).1.2.1=(jg v j).2.1
 rw[e] at h3⊢;by_cases q:j=i
 ·subst q
  rw[if_pos rfl] at h3⊢;rw[KM];exact hs h3
 ·rw[if_neg q] at h3⊢;exact⟨h3,rfl⟩
theorem zbQ (h:QI v){f o:Nat}{s:wS}{fr ou:(List Int)×Bool×Unit}(hc:nb v i f o s fr ou)(h2:s.1≠3){s':wS}(h3:s'.1=3)(hm:XC v s'.2.1):QI {v with S:=v.S.set i (s',())}:=by
 have KM:=wB hc;have es: ∀j,jg {v with S:=v.S.set i (s',())} j=if j=i then s' else jg v j:=λj=>AJ hc (x:=s') rfl j
 refine⟨h.tre,λa b ha hb h1 h2 h4=>?_,λa ha h1=>?_,λfm=>?_⟩
 ·rw[es] at h1 h4
  rw[es] at h2 h4;by_cases qa:a=i
  ·by_cases qb:b=i
   ·rw[qa,qb]
   ·rw[if_pos qa,if_neg qb] at h4
    rw[if_neg qb] at h2;exact absurd h4.symm (hm.alone b hb h2)
  ·by_cases qb:b=i
   ·rw[if_neg qa,if_pos qb] at h4
    rw[if_neg qa] at h1;exact absurd h4 (hm.alone a ha h1)
   ·rw[if_neg qa,if_neg qb] at h4
    rw[if_neg qa] at h1;rw[if_neg qb] at h2;exact h.uniq a b ha hb h1 h2 h4
 ·rw[es] at h1⊢
  by_cases qa:a=i
  ·rw[if_pos qa];exact hm.there
  ·rw[if_neg qa] at h1⊢;exact h.there a ha h1
 ·show(((List.range 16).countP λi_1=>decide ((jg {v with S:=v.S.set i (s',())} i_1).1=3/\(iC v.tr (jg {v with S:=v.S.set i (s',())} i_1).2.1).1=fm):Nat):Int)<=v.cfg.2.2.2.2.2.2.2.1
  simp only[es];by_cases hf:(iC v.tr s'.2.1).1=fm
  ·have key: ∀l:List Nat,l.Nodup->l.countP (λj=>decide ((if j=i then s' else jg v j).1=3/\(iC v.tr (if j=i then s' else jg v j).2.1).1=fm))<=l.countP (λj=>decide ((jg v j).1=3/\(iC v.tr (jg v j).2.1).1=fm))+(if i∈l then 1 else 0):=by
    intro l hl;induction l with
    |nil=>simp
    |cons x l ih=>
     obtain⟨n1,n2⟩:=List.nodup_cons.1 hl;have:=ih n2;rw[List.countP_cons,List.countP_cons];by_cases e:x=i
     ·subst e
      rw[if_neg n1] at this;rw[if_pos (zdq ..)];split<;>split<;>omega
     ·have ZT:(i∈x::l)↔i∈l:=by simp[Ne.symm e]
      simp only[ZT,if_neg e];omega
   have:=key (List.range 16) List.nodup_range;have h6:=hm.room;rw[hf] at h6;split at this<;>omega
  ·have:=List.countP_mono_left (l:=List.range 16) (p:=λj=>decide ((if j=i then s' else jg v j).1=3/\(iC v.tr (if j=i then s' else jg v j).2.1).1=fm)) (q:=λj=>decide ((jg v j).1=3/\(iC v.tr (jg v j).2.1).1=fm)) (λj hj hp=>by
    have hp:=of_decide_eq_true hp;by_cases e:j=i
    ·rw[if_pos e] at hp;exact absurd hp.2 hf
    ·rw[if_neg e] at hp;exact decide_eq_true hp)
   have:=h.J9 fm;omega
theorem E6 {f o:Nat}{s:wS}{fr ou:(List Int)×Bool×Unit}(hc:nb v i f o s fr ou){s':wS}(hs:s'.1=0\/s'.2.2.2.2.1=v.now):Ev i v {v with S:=v.S.set i (s',())}:=⟨rfl,rfl,rfl,λj hj=>by
 show(((v.S.set i (s',())).getD j (s0,())).1=_)\/((v.S.set i (s',())).getD j (s0,())).1.1=0\/_/\((v.S.set i (s',())).getD j (s0,())).1.2.2.2.2.1=_
 rw[AJ hc rfl j];by_cases e:j=i
 ·rw[if_pos e]
  rcases hs with hs|hs
  ·exact .inr (.inl hs)
  ·exact .inr (.inr ⟨e,hs⟩)
 ·rw[if_neg e];exact .inl rfl⟩
theorem Qx {a b:List Int}(ha:a.length=32)(hb:b.length=32): ∃r,jT WX ((a,b,()),())=some ((r,()),()):=by
 obtain⟨CQ,h1,_⟩:=zo a b ha hb 32 0 (by omega) 0#8
 change ag (gQ WX) (((),(),0,0,()),a,b,())=_ at h1;exact⟨WX.af (((CQ.toNat:Nat):Int)=0),by simp only[jT,↓xl,h1,zdc]⟩
theorem M5 (pk:PK P)(h:VI P k m v μ)(hm:m<=90000000000)(hi:i<16){tag:List Int}(zcW:tag.length=32): ∃v' μ' m',cK WX (((),(i:Int),tag,()),v.e)=some ((),v'.e)/\VI P k m' v' μ'/\m'<=m+100/\Ev i v v':=by
 obtain⟨f,o,s,fr,ou,hc,mc⟩:=h.ci i hi;by_cases h2:s.1=2
 ·obtain⟨e,y1,y2⟩:=TO h s.2.1
  by_cases he:e=0
  ·subst he
   have lP:=y2 rfl;have ht:=oe h.ss.tr s.2.1;have yx:=Tx h.ss.tr s.2.1;obtain⟨F1,t1,t2⟩:=Mu yx mc.rn;obtain⟨b,t3⟩:=Qx zcW t2;have J7:=SJ yx mc.rn t1 t3 s.2.1 s.2.2.2.1 s.2.2.2.2.1 v.now;have hs:(2,s.2.1,s.2.2.1,s.2.2.2.1,s.2.2.2.2.1,())=s:=by rw[<-h2]
   rw[hs] at J7;simp only[V.e] at y1;cases b with
   |true=>
    simp only[if_true] at J7;have v1:=E5 pk h hc (s':=(3,s.2.1,gN,1,v.now,())) ⟨mc.out,by simp,by simp,mc.qn⟩ (zbQ h.qi hc (by omega) rfl lP)
    have ev:=E6 hc (s':=(3,s.2.1,gN,1,v.now,())) (.inr rfl);obtain⟨e',v2,μ',r1,r2,r3⟩:=TM pk v1 (by omega) (d:=4) (.inr (.inl rfl)) mc.qn
    obtain⟨v3,w1,w2,w3⟩:=AK pk r2 hi MX;refine⟨v3,μ',m+46,?_,w2,by omega,ev.trans ((r3.trans w3).dw.ev i)⟩
    simp only[V.e] at r1 w1;simp only[cK,V.e,↓xo,ot (lh hi),zde,zdf,hc.c,zdc,al,hc.S,ay,ai,ot h2,aI hc.S,zdg,zdd,y1,eq_self,iD,cW,ht,aX,J7,r1,w1]
   |false=>
    simp only[zdk,if_false] at J7;have v1:=E5 pk h hc (s':=s0) ⟨mc.out,by simp[s0], .inl rfl,by simp[s0]⟩ (IX h.qi hc (λq=>by cases q))
    have ev:=E6 hc (s':=s0) (.inl rfl);obtain⟨e',v2,μ',r1,r2,r3⟩:=TM pk v1 (by omega) (d:=3) (.inl rfl) mc.qn
    obtain⟨v3,w1,w2,w3⟩:=uH pk r2 hi 0 16;obtain⟨v4,x1,x2,x3,x4⟩:=KC pk w2 hi;refine⟨v4,μ',m+46,?_,x2,by omega,ev.trans (((r3.trans w3).dw.trans x3).ev i)⟩
    simp only[V.e] at r1 w1 x1;simp only[cK,V.e,↓xo,ot (lh hi),zde,zdf,hc.c,zdc,al,hc.S,ay,ai,ot h2,aI hc.S,zdg,zdh,zdd,y1,eq_self,iD,cW,ht,aX,J7,r1,w1,x1]
  ·obtain⟨v1,w1,w2,w3⟩:=uH pk h hi 0 e
   obtain⟨v2,μ',m',d1,d2,d3,d4,_⟩:=pV pk w2 (by omega) hi
   refine⟨v2,μ',m',?_,d2,by omega,(w3.dw.trans d4).ev i⟩
   simp only[V.e] at y1 w1 d1;simp only[cK,V.e,↓xo,ot (lh hi),zde,zdf,hc.c,zdc,al,hc.S,ay,ai,ot h2,aI hc.S,zdg,zdd,y1,bc he,zdh,w1,d1]
 ·obtain⟨v2,μ',m',d1,d2,d3,d4,_⟩:=pV pk h (by omega) hi
  refine⟨v2,μ',m',?_,d2,by omega,d4.ev i⟩
  simp only[V.e] at d1;by_cases h3:s.1=3
  ·simp only[cK,V.e,↓xo,ot (lh hi),zde,zdf,hc.c,zdc,al,hc.S,ay,ai,bc h2,ot h3,zdd,aI hc.S,zdh,d1]
  ·simp only[cK,V.e,↓xo,ot (lh hi),zde,zdf,hc.c,zdc,al,hc.S,ay,ai,bc h2,bc h3,zdd,aI hc.S,zdh,d1]
end
def vK (r:nM):Prop:=0<=r.2.1/\r.2.1<=(r.1.length:Int)/\r.1.length<=1000000
theorem Hb {r:nM}(h:vK r){n:Int}(hn:1<=n/\n<=100):(∃r',eF WX (((),n,()),(r,()))=some (.inl (((),()),r',([]:List Int),()))/\vK r')\/∃(l:List Int) (r':nM),eF WX (((),n,()),(r,()))=some (.inr ((l,()),(r',())))/\vK r'/\(l.length:Int)=n:=by
 obtain⟨b,at_,bad,⟨⟩⟩:=r;obtain⟨h1,h2,h3⟩:=h;simp only at h1 h2 h3;cases bad with
 |true=>exact .inl ⟨(b,at_,true,()),by simp only[eF,zde],h1,h2,h3⟩
 |false=>
  have e1:i64.wrap ((b.length:Int)-at_)=(b.length:Int)-at_:=nQ (by omega) (by omega)
  by_cases hc:n>(b.length:Int)-at_
  ·exact .inl ⟨(b,at_,true,()),by simp only[eF,zdd,↓xo,xw,e1,ot hc,zde],h1,h2,h3⟩
  ·have e2:i64.wrap (at_+n)=at_+n:=nQ (by omega) (by omega)
   have e3:i64.wrap (at_+n-n)=at_:=by rw[nQ (by omega) (by omega)];omega
   refine .inr ⟨(b.take (at_+n).toNat).drop at_.toNat,(b,at_+n,false,()),by simp only[eF,zdd,↓xo,xw,e1,bc hc,e2,e3,ot (show 0<=at_/\at_<=at_+n/\at_+n<=(b.length:Int) by omega),zde],⟨?_,?_,h3⟩,?_⟩
   ·show 0<=at_+n;omega
   ·show at_+n<=(b.length:Int);omega
   ·rw[zdI,zdH];omega
theorem Hc (l:List Int)(hl:l.length<=1000): ∃x:Int,ag (cm WX) ((0,l,(l.length:Int),0,()),())=some ((x,()),()):=by
 obtain⟨x,h1,_⟩:=nB (b:=cm WX) l.length (λk (s:Int)=>((s,l,(l.length:Int),(k:Int),()),())) (λs=>((s,()),())) (λ_ _=>True)
  (λk s hk _=>by
   have hx:=zdi hk;have e1:=lx hk (by omega)
   have e0: ¬(8:Int)<0:=by omega
   exact⟨_,by simp only[cm,↓xo,xw,ot (show(k:Int)<(l.length:Int) by omega),ot (show(0:Int)<=(k:Int) by omega),zde,zdf,hx,zdc,bc e0,zdd,e1];rfl,trivial⟩)
  (λs _=>by simp only[cm,↓xo,bc (show¬(l.length:Int)<(l.length:Int) by omega),zdd]) 0 trivial
 exact⟨x,h1⟩
theorem KE {r:nM}(h:vK r){n:Int}(hn:1<=n/\n<=100): ∃(x:Int) (r':nM),eO WX (((),n,()),(r,()))=some ((x,()),(r',()))/\vK r':=by
 rcases Hb h hn with⟨r',h1,h2⟩|⟨l,r',h1,h2,h3⟩
 ·obtain⟨x,hx⟩:=Hc [] (by simp)
  exact⟨x,r',by simp only[eO,h1,zdc,↓xl,hx],h2⟩
 ·obtain⟨x,hx⟩:=Hc l (by omega)
  exact⟨x,r',by simp only[eO,h1,zdc,↓xl,hx],h2⟩
theorem rO {r:nM}(h:vK r): ∃(x:Int) (r':nM),aF WX (((),()),(r,()))=some ((x,()),(r',()))/\vK r':=by
 obtain⟨x,r',h1,h2⟩:=KE h (n:=1) ⟨by omega,by omega⟩
 exact⟨WX.wr .i64 x,r',by simp only[aF,h1,zdc],h2⟩
theorem ng {r:nM}(h:vK r): ∃(x:Int) (r':nM),aU WX (((),()),(r,()))=some ((x,()),(r',()))/\vK r':=by
 obtain⟨x,r',h1,h2⟩:=KE h (n:=4) ⟨by omega,by omega⟩
 exact⟨WX.wr .u32 x,r',by simp only[aU,h1,zdc],h2⟩
theorem Wv {r:nM}(h:vK r): ∃(l:List Int) (r':nM),eJ WX (((),()),(r,()))=some ((l,()),(r',()))/\vK r'/\l.length=32:=by
 have e0:(0:Int)<=0/\(0:Int)<=((32:Nat):Int)/\((32:Nat):Int)<=(32:Nat):=by omega
 have e1:(((32:Nat):Int)-(0:Int)).toNat=32:=by decide
 rcases Hb h (n:=32) ⟨by omega,by omega⟩ with⟨r',h1,h2⟩|⟨l,r',h1,h2,h3⟩
 ·refine⟨_,r',by simp only[eJ,↓xo,ot e0,zde,h1,zdc,e1];rfl,h2,?_⟩
  simp
 ·refine⟨_,r',by simp only[eJ,↓xo,ot e0,zde,h1,zdc,e1];rfl,h2,?_⟩
  have:l.length=32:=by omega
  simp[this]
theorem rV (r:nM): ∃b,cw WX (((),()),(r,()))=some ((b,()),(r,())):=by
 cases hb:r.2.2.1 with
 |true=>exact⟨false,by simp only[cw,hb,zdg,zdd]⟩
 |false=>exact⟨af (r.2.1=(r.1.length:Int)),by simp only[cw,hb,zdh,zde,↓xo]⟩
theorem pW (b:List Int)(h:b.length<=1000000):mX WX ((b,()),())=some (((),()),((b,0,false,()),())):=by
 have hc:=vF b (by omega)
 simp only[mX,hc,zdc]
theorem yu {L R:Type}{b:L->Option (L⊕R)}{l l':L}(h:b l=some (.inl l')):ag b l=ag b l':=by rw[aq,h]
theorem kI {L R:Type}{b:L->Option (L⊕R)}{l:L}{r:R}(h:b l=some (.inr r)):ag b l=some r:=by rw[aq,h]
structure XD (c:mP):Prop where
 right:bf WX ((c,()),())=some ((true,()),())
 kind:1<=c.1/\c.1<=9
 zbR:c.1=1->0<=c.2.2.1/\c.2.2.1<=31
 ans:c.1=2->c.2.2.2.2.2.2.2.2.2.2.2.2.2.2.1.length=32
 cmd:c.1=3\/c.1=4\/c.1=5\/c.1=6\/c.1=9->KB c
def F9 (b:List Int):Prop:= ∃c ok,fe WX ((b,()),())=some ((c,ok,()),())/\(ok=true->XD c)
theorem nS {L R:Type}{F:L->Option (L⊕R)}{a b:Bool->L}(x lo hi:Int)(h0:F (a false)=some (.inl (b false)))(h1:F (a true)=bif WX.af (x>=lo) then some (.inl (b (WX.af (x<=hi)))) else some (.inl (b false)))(t:Bool): ∃t',ag F (a t)=ag F (b t')/\(t'=true->t=true/\lo<=x/\x<=hi):=by
 cases t with
 |false=>exact⟨false,yu h0,λq=>by cases q⟩
 |true=>
  rw[xo,xo] at h1;by_cases h:x>=lo
  ·rw[ot h,zde] at h1
   exact⟨_,yu h1,λq=>⟨rfl,h,kN.1 q⟩⟩
  ·rw[bc h,zdd] at h1
   exact⟨false,yu h1,λq=>by cases q⟩
theorem stepG {L R α:Type}{F:L->Option (L⊕R)}{l l':L}{m:Option α}{x:α}{f:α->Option (L⊕R)}(h:F l=m.bind f)(e:m=some x)(h2:f x=some (.inl l')):ag F l=ag F l':=yu (by rw[h,e];exact h2)
abbrev g1 (k:Int)(c:mP)(t:Bool):ic.D:=(((),t,(),1,k,()),c,(((),1,0,31,()),()),())
abbrev g3 (k:Int)(c:mP)(t:Bool):br.D:=(((),t,(),9,k,()),c,(((),4,0,1073741824,()),((),1,0,7,()),((),4,0,1073741824,()),((),1,0,255,()),((),1,0,255,()),((),4,0,1073741824,()),((),4,0,1073741824,()),((),4,0,1073741824,()),((),4,0,1073741824,()),()),())
abbrev g4 (k:Int)(c:mP)(t:Bool):dA.D:=(((),t,(),4,k,()),c,(((),4,0,1073741824,()),((),1,0,7,()),((),4,0,1073741824,()),((),1,0,31,()),()),())
abbrev g5 (k:Int)(c:mP)(t:Bool):cL.D:=(((),t,(),5,k,()),c,(((),4,0,1073741824,()),((),1,0,7,()),((),4,0,1073741824,()),((),4,0,1073741824,()),((),4,0,1073741824,()),()),())
abbrev g6 (k:Int)(c:mP)(t:Bool):eH.D:=(((),t,(),3,k,()),c,(((),4,0,1073741824,()),((),1,0,8,()),((),1,1,3,()),()),())
abbrev g9 (k:Int)(c:mP)(t:Bool):dB.D:=(((),t,(),4,k,()),c,(((),4,0,1073741824,()),((),1,1,9,()),((),1,0,255,()),((),1,0,255,()),()),())
section
variable (sq td it id sd od p q sh st wh a b:Int)(tg:List Int)
theorem E7: ∃r,bf WX (((1,sq,td,it,id,sd,od,p,q,sh,st,wh,a,b,tg,()),()),())=some ((r,()),())/\(r=true->(0<=td/\td<=31)):=by
 have hf:dC WX (((),()),((1,sq,td,it,id,sd,od,p,q,sh,st,wh,a,b,tg,()),()))=some (.inl (((),true,()),(1,sq,td,it,id,sd,od,p,q,sh,st,wh,a,b,tg,()),(((),1,0,31,()),()),())):=by kernel_rfl
 obtain⟨t0,u0,w0⟩:=nS (F:=ic WX) (a:=g1 0 (1,sq,td,it,id,sd,od,p,q,sh,st,wh,a,b,tg,())) (b:=g1 1 (1,sq,0,it,id,sd,od,p,q,sh,st,wh,a,b,tg,())) td 0 31 (by kernel_rfl) (by kernel_rfl) true
 have hl:ag (ic WX) (g1 0 (1,sq,td,it,id,sd,od,p,q,sh,st,wh,a,b,tg,()) true)=some (((),t0,()),(1,sq,0,it,id,sd,od,p,q,sh,st,wh,a,b,tg,()),(((),1,0,31,()),()),()):=by
  rw[u0];exact kI (by kernel_rfl)
 cases ht:t0 with
 |false=>rw[ht] at hl;exact⟨false,by simp only[bf,hf,zdc,↓xl,hl,↓xo,Int.reduceEq,nh,zdd,zde],λq=>by cases q⟩
 |true=>
  rw[ht] at hl;obtain⟨x0,y0⟩:=w0 ht;exact⟨_,by simp only[bf,hf,zdc,↓xl,hl,↓xo,Int.reduceEq,nh,zdd,zde];rfl,λ_=>y0⟩
theorem E8: ∃r,bf WX (((3,sq,td,it,id,sd,od,p,q,sh,st,wh,a,b,tg,()),()),())=some ((r,()),())/\(r=true->(0<=sq/\sq<=1073741824)/\(0<=it/\it<=7)/\(0<=id/\id<=1073741824)/\(0<=sd/\sd<=255)/\(0<=od/\od<=255)/\(0<=p/\p<=1073741824)/\(0<=q/\q<=1073741824)/\(0<=sh/\sh<=1073741824)/\(0<=st/\st<=1073741824)):=by
 have hf:dC WX (((),()),((3,sq,td,it,id,sd,od,p,q,sh,st,wh,a,b,tg,()),()))=some (.inr (.inl (((),true,()),(3,sq,td,it,id,sd,od,p,q,sh,st,wh,a,b,tg,()),(((),4,0,1073741824,()),((),1,0,7,()),((),4,0,1073741824,()),((),1,0,255,()),((),1,0,255,()),((),4,0,1073741824,()),((),4,0,1073741824,()),((),4,0,1073741824,()),((),4,0,1073741824,()),()),()))):=by kernel_rfl
 obtain⟨t0,u0,w0⟩:=nS (F:=br WX) (a:=g3 0 (3,sq,td,it,id,sd,od,p,q,sh,st,wh,a,b,tg,())) (b:=g3 1 (3,0,td,it,id,sd,od,p,q,sh,st,wh,a,b,tg,())) sq 0 1073741824 (by kernel_rfl) (by kernel_rfl) true
 obtain⟨t1,u1,w1⟩:=nS (F:=br WX) (a:=g3 1 (3,0,td,it,id,sd,od,p,q,sh,st,wh,a,b,tg,())) (b:=g3 2 (3,0,td,0,id,sd,od,p,q,sh,st,wh,a,b,tg,())) it 0 7 (by kernel_rfl) (by kernel_rfl) t0
 obtain⟨t2,u2,w2⟩:=nS (F:=br WX) (a:=g3 2 (3,0,td,0,id,sd,od,p,q,sh,st,wh,a,b,tg,())) (b:=g3 3 (3,0,td,0,0,sd,od,p,q,sh,st,wh,a,b,tg,())) id 0 1073741824 (by kernel_rfl) (by kernel_rfl) t1
 obtain⟨t3,u3,w3⟩:=nS (F:=br WX) (a:=g3 3 (3,0,td,0,0,sd,od,p,q,sh,st,wh,a,b,tg,())) (b:=g3 4 (3,0,td,0,0,0,od,p,q,sh,st,wh,a,b,tg,())) sd 0 255 (by kernel_rfl) (by kernel_rfl) t2
 obtain⟨t4,u4,w4⟩:=nS (F:=br WX) (a:=g3 4 (3,0,td,0,0,0,od,p,q,sh,st,wh,a,b,tg,())) (b:=g3 5 (3,0,td,0,0,0,0,p,q,sh,st,wh,a,b,tg,())) od 0 255 (by kernel_rfl) (by kernel_rfl) t3
 obtain⟨t5,u5,w5⟩:=nS (F:=br WX) (a:=g3 5 (3,0,td,0,0,0,0,p,q,sh,st,wh,a,b,tg,())) (b:=g3 6 (3,0,td,0,0,0,0,0,q,sh,st,wh,a,b,tg,())) p 0 1073741824 (by kernel_rfl) (by kernel_rfl) t4
 obtain⟨t6,u6,w6⟩:=nS (F:=br WX) (a:=g3 6 (3,0,td,0,0,0,0,0,q,sh,st,wh,a,b,tg,())) (b:=g3 7 (3,0,td,0,0,0,0,0,0,sh,st,wh,a,b,tg,())) q 0 1073741824 (by kernel_rfl) (by kernel_rfl) t5
 obtain⟨t7,u7,w7⟩:=nS (F:=br WX) (a:=g3 7 (3,0,td,0,0,0,0,0,0,sh,st,wh,a,b,tg,())) (b:=g3 8 (3,0,td,0,0,0,0,0,0,0,st,wh,a,b,tg,())) sh 0 1073741824 (by kernel_rfl) (by kernel_rfl) t6
 obtain⟨t8,u8,w8⟩:=nS (F:=br WX) (a:=g3 8 (3,0,td,0,0,0,0,0,0,0,st,wh,a,b,tg,())) (b:=g3 9 (3,0,td,0,0,0,0,0,0,0,0,wh,a,b,tg,())) st 0 1073741824 (by kernel_rfl) (by kernel_rfl) t7
 have hl:ag (br WX) (g3 0 (3,sq,td,it,id,sd,od,p,q,sh,st,wh,a,b,tg,()) true)=some (((),t8,()),(3,0,td,0,0,0,0,0,0,0,0,wh,a,b,tg,()),(((),4,0,1073741824,()),((),1,0,7,()),((),4,0,1073741824,()),((),1,0,255,()),((),1,0,255,()),((),4,0,1073741824,()),((),4,0,1073741824,()),((),4,0,1073741824,()),((),4,0,1073741824,()),()),()):=by
  rw[u0,u1,u2,u3,u4,u5,u6,u7,u8];exact kI (by kernel_rfl)
 cases ht:t8 with
 |false=>rw[ht] at hl;exact⟨false,by simp only[bf,hf,zdc,↓xl,hl,↓xo,Int.reduceEq,nh,zdd,zde],λq=>by cases q⟩
 |true=>
  rw[ht] at hl;obtain⟨x8,y8⟩:=w8 ht;obtain⟨x7,y7⟩:=w7 x8;obtain⟨x6,y6⟩:=w6 x7;obtain⟨x5,y5⟩:=w5 x6;obtain⟨x4,y4⟩:=w4 x5;obtain⟨x3,y3⟩:=w3 x4;obtain⟨x2,y2⟩:=w2 x3;obtain⟨x1,y1⟩:=w1 x2;obtain⟨x0,y0⟩:=w0 x1;exact⟨_,by simp only[bf,hf,zdc,↓xl,hl,↓xo,Int.reduceEq,nh,zdd,zde];rfl,λ_=>⟨y0,y1,y2,y3,y4,y5,y6,y7,y8⟩⟩
theorem E9: ∃r,bf WX (((4,sq,td,it,id,sd,od,p,q,sh,st,wh,a,b,tg,()),()),())=some ((r,()),())/\(r=true->(0<=sq/\sq<=1073741824)/\(0<=it/\it<=7)/\(0<=id/\id<=1073741824)/\(0<=td/\td<=31)):=by
 have hf:dC WX (((),()),((4,sq,td,it,id,sd,od,p,q,sh,st,wh,a,b,tg,()),()))=some (.inr (.inr (.inl (((),true,()),(4,sq,td,it,id,sd,od,p,q,sh,st,wh,a,b,tg,()),(((),4,0,1073741824,()),((),1,0,7,()),((),4,0,1073741824,()),((),1,0,31,()),()),())))):=by kernel_rfl
 obtain⟨t0,u0,w0⟩:=nS (F:=dA WX) (a:=g4 0 (4,sq,td,it,id,sd,od,p,q,sh,st,wh,a,b,tg,())) (b:=g4 1 (4,0,td,it,id,sd,od,p,q,sh,st,wh,a,b,tg,())) sq 0 1073741824 (by kernel_rfl) (by kernel_rfl) true
 obtain⟨t1,u1,w1⟩:=nS (F:=dA WX) (a:=g4 1 (4,0,td,it,id,sd,od,p,q,sh,st,wh,a,b,tg,())) (b:=g4 2 (4,0,td,0,id,sd,od,p,q,sh,st,wh,a,b,tg,())) it 0 7 (by kernel_rfl) (by kernel_rfl) t0
 obtain⟨t2,u2,w2⟩:=nS (F:=dA WX) (a:=g4 2 (4,0,td,0,id,sd,od,p,q,sh,st,wh,a,b,tg,())) (b:=g4 3 (4,0,td,0,0,sd,od,p,q,sh,st,wh,a,b,tg,())) id 0 1073741824 (by kernel_rfl) (by kernel_rfl) t1
 obtain⟨t3,u3,w3⟩:=nS (F:=dA WX) (a:=g4 3 (4,0,td,0,0,sd,od,p,q,sh,st,wh,a,b,tg,())) (b:=g4 4 (4,0,0,0,0,sd,od,p,q,sh,st,wh,a,b,tg,())) td 0 31 (by kernel_rfl) (by kernel_rfl) t2
 have hl:ag (dA WX) (g4 0 (4,sq,td,it,id,sd,od,p,q,sh,st,wh,a,b,tg,()) true)=some (((),t3,()),(4,0,0,0,0,sd,od,p,q,sh,st,wh,a,b,tg,()),(((),4,0,1073741824,()),((),1,0,7,()),((),4,0,1073741824,()),((),1,0,31,()),()),()):=by
  rw[u0,u1,u2,u3];exact kI (by kernel_rfl)
 cases ht:t3 with
 |false=>rw[ht] at hl;exact⟨false,by simp only[bf,hf,zdc,↓xl,hl,↓xo,Int.reduceEq,nh,zdd,zde],λq=>by cases q⟩
 |true=>
  rw[ht] at hl;obtain⟨x3,y3⟩:=w3 ht;obtain⟨x2,y2⟩:=w2 x3;obtain⟨x1,y1⟩:=w1 x2;obtain⟨x0,y0⟩:=w0 x1;exact⟨_,by simp only[bf,hf,zdc,↓xl,hl,↓xo,Int.reduceEq,nh,zdd,zde];rfl,λ_=>⟨y0,y1,y2,y3⟩⟩
theorem Fa: ∃r,bf WX (((5,sq,td,it,id,sd,od,p,q,sh,st,wh,a,b,tg,()),()),())=some ((r,()),())/\(r=true->(0<=sq/\sq<=1073741824)/\(0<=it/\it<=7)/\(0<=id/\id<=1073741824)/\(0<=p/\p<=1073741824)/\(0<=q/\q<=1073741824)):=by
 have hf:dC WX (((),()),((5,sq,td,it,id,sd,od,p,q,sh,st,wh,a,b,tg,()),()))=some (.inr (.inr (.inr (.inl (((),true,()),(5,sq,td,it,id,sd,od,p,q,sh,st,wh,a,b,tg,()),(((),4,0,1073741824,()),((),1,0,7,()),((),4,0,1073741824,()),((),4,0,1073741824,()),((),4,0,1073741824,()),()),()))))):=by kernel_rfl
 obtain⟨t0,u0,w0⟩:=nS (F:=cL WX) (a:=g5 0 (5,sq,td,it,id,sd,od,p,q,sh,st,wh,a,b,tg,())) (b:=g5 1 (5,0,td,it,id,sd,od,p,q,sh,st,wh,a,b,tg,())) sq 0 1073741824 (by kernel_rfl) (by kernel_rfl) true
 obtain⟨t1,u1,w1⟩:=nS (F:=cL WX) (a:=g5 1 (5,0,td,it,id,sd,od,p,q,sh,st,wh,a,b,tg,())) (b:=g5 2 (5,0,td,0,id,sd,od,p,q,sh,st,wh,a,b,tg,())) it 0 7 (by kernel_rfl) (by kernel_rfl) t0
 obtain⟨t2,u2,w2⟩:=nS (F:=cL WX) (a:=g5 2 (5,0,td,0,id,sd,od,p,q,sh,st,wh,a,b,tg,())) (b:=g5 3 (5,0,td,0,0,sd,od,p,q,sh,st,wh,a,b,tg,())) id 0 1073741824 (by kernel_rfl) (by kernel_rfl) t1
 obtain⟨t3,u3,w3⟩:=nS (F:=cL WX) (a:=g5 3 (5,0,td,0,0,sd,od,p,q,sh,st,wh,a,b,tg,())) (b:=g5 4 (5,0,td,0,0,sd,od,0,q,sh,st,wh,a,b,tg,())) p 0 1073741824 (by kernel_rfl) (by kernel_rfl) t2
 obtain⟨t4,u4,w4⟩:=nS (F:=cL WX) (a:=g5 4 (5,0,td,0,0,sd,od,0,q,sh,st,wh,a,b,tg,())) (b:=g5 5 (5,0,td,0,0,sd,od,0,0,sh,st,wh,a,b,tg,())) q 0 1073741824 (by kernel_rfl) (by kernel_rfl) t3
 have hl:ag (cL WX) (g5 0 (5,sq,td,it,id,sd,od,p,q,sh,st,wh,a,b,tg,()) true)=some (((),t4,()),(5,0,td,0,0,sd,od,0,0,sh,st,wh,a,b,tg,()),(((),4,0,1073741824,()),((),1,0,7,()),((),4,0,1073741824,()),((),4,0,1073741824,()),((),4,0,1073741824,()),()),()):=by
  rw[u0,u1,u2,u3,u4];exact kI (by kernel_rfl)
 cases ht:t4 with
 |false=>rw[ht] at hl;exact⟨false,by simp only[bf,hf,zdc,↓xl,hl,↓xo,Int.reduceEq,nh,zdd,zde],λq=>by cases q⟩
 |true=>
  rw[ht] at hl;obtain⟨x4,y4⟩:=w4 ht;obtain⟨x3,y3⟩:=w3 x4;obtain⟨x2,y2⟩:=w2 x3;obtain⟨x1,y1⟩:=w1 x2;obtain⟨x0,y0⟩:=w0 x1;exact⟨_,by simp only[bf,hf,zdc,↓xl,hl,↓xo,Int.reduceEq,nh,zdd,zde];rfl,λ_=>⟨y0,y1,y2,y3,y4⟩⟩
theorem Fb: ∃r,bf WX (((6,sq,td,it,id,sd,od,p,q,sh,st,wh,a,b,tg,()),()),())=some ((r,()),())/\(r=true->(0<=sq/\sq<=1073741824)/\(0<=it/\it<=8)/\(1<=wh/\wh<=3)):=by
 have hf:dC WX (((),()),((6,sq,td,it,id,sd,od,p,q,sh,st,wh,a,b,tg,()),()))=some (.inr (.inr (.inr (.inr (.inl (((),true,()),(6,sq,td,it,id,sd,od,p,q,sh,st,wh,a,b,tg,()),(((),4,0,1073741824,()),((),1,0,8,()),((),1,1,3,()),()),())))))):=by kernel_rfl
 obtain⟨t0,u0,w0⟩:=nS (F:=eH WX) (a:=g6 0 (6,sq,td,it,id,sd,od,p,q,sh,st,wh,a,b,tg,())) (b:=g6 1 (6,0,td,it,id,sd,od,p,q,sh,st,wh,a,b,tg,())) sq 0 1073741824 (by kernel_rfl) (by kernel_rfl) true
 obtain⟨t1,u1,w1⟩:=nS (F:=eH WX) (a:=g6 1 (6,0,td,it,id,sd,od,p,q,sh,st,wh,a,b,tg,())) (b:=g6 2 (6,0,td,0,id,sd,od,p,q,sh,st,wh,a,b,tg,())) it 0 8 (by kernel_rfl) (by kernel_rfl) t0
 obtain⟨t2,u2,w2⟩:=nS (F:=eH WX) (a:=g6 2 (6,0,td,0,id,sd,od,p,q,sh,st,wh,a,b,tg,())) (b:=g6 3 (6,0,td,0,id,sd,od,p,q,sh,st,0,a,b,tg,())) wh 1 3 (by kernel_rfl) (by kernel_rfl) t1
 have hl:ag (eH WX) (g6 0 (6,sq,td,it,id,sd,od,p,q,sh,st,wh,a,b,tg,()) true)=some (((),t2,()),(6,0,td,0,id,sd,od,p,q,sh,st,0,a,b,tg,()),(((),4,0,1073741824,()),((),1,0,8,()),((),1,1,3,()),()),()):=by
  rw[u0,u1,u2];exact kI (by kernel_rfl)
 cases ht:t2 with
 |false=>rw[ht] at hl;exact⟨false,by simp only[bf,hf,zdc,↓xl,hl,↓xo,Int.reduceEq,nh,zdd,zde],λq=>by cases q⟩
 |true=>
  rw[ht] at hl;obtain⟨x2,y2⟩:=w2 ht;obtain⟨x1,y1⟩:=w1 x2;obtain⟨x0,y0⟩:=w0 x1;exact⟨_,by simp only[bf,hf,zdc,↓xl,hl,↓xo,Int.reduceEq,nh,zdd,zde];rfl,λ_=>⟨y0,y1,y2⟩⟩
theorem Fc: ∃r,bf WX (((9,sq,td,it,id,sd,od,p,q,sh,st,wh,a,b,tg,()),()),())=some ((r,()),())/\(r=true->(0<=sq/\sq<=1073741824)/\(1<=wh/\wh<=9)/\(0<=a/\a<=255)/\(0<=b/\b<=255)):=by
 have hf:dC WX (((),()),((9,sq,td,it,id,sd,od,p,q,sh,st,wh,a,b,tg,()),()))=some (.inr (.inr (.inr (.inr (.inr (.inl (((),true,()),(9,sq,td,it,id,sd,od,p,q,sh,st,wh,a,b,tg,()),(((),4,0,1073741824,()),((),1,1,9,()),((),1,0,255,()),((),1,0,255,()),()),()))))))):=by kernel_rfl
 obtain⟨t0,u0,w0⟩:=nS (F:=dB WX) (a:=g9 0 (9,sq,td,it,id,sd,od,p,q,sh,st,wh,a,b,tg,())) (b:=g9 1 (9,0,td,it,id,sd,od,p,q,sh,st,wh,a,b,tg,())) sq 0 1073741824 (by kernel_rfl) (by kernel_rfl) true
 obtain⟨t1,u1,w1⟩:=nS (F:=dB WX) (a:=g9 1 (9,0,td,it,id,sd,od,p,q,sh,st,wh,a,b,tg,())) (b:=g9 2 (9,0,td,it,id,sd,od,p,q,sh,st,0,a,b,tg,())) wh 1 9 (by kernel_rfl) (by kernel_rfl) t0
 obtain⟨t2,u2,w2⟩:=nS (F:=dB WX) (a:=g9 2 (9,0,td,it,id,sd,od,p,q,sh,st,0,a,b,tg,())) (b:=g9 3 (9,0,td,it,id,sd,od,p,q,sh,st,0,0,b,tg,())) a 0 255 (by kernel_rfl) (by kernel_rfl) t1
 obtain⟨t3,u3,w3⟩:=nS (F:=dB WX) (a:=g9 3 (9,0,td,it,id,sd,od,p,q,sh,st,0,0,b,tg,())) (b:=g9 4 (9,0,td,it,id,sd,od,p,q,sh,st,0,0,0,tg,())) b 0 255 (by kernel_rfl) (by kernel_rfl) t2
 have hl:ag (dB WX) (g9 0 (9,sq,td,it,id,sd,od,p,q,sh,st,wh,a,b,tg,()) true)=some (((),t3,()),(9,0,td,it,id,sd,od,p,q,sh,st,0,0,0,tg,()),(((),4,0,1073741824,()),((),1,1,9,()),((),1,0,255,()),((),1,0,255,()),()),()):=by
  rw[u0,u1,u2,u3];exact kI (by kernel_rfl)
 cases ht:t3 with
 |false=>rw[ht] at hl;exact⟨false,by simp only[bf,hf,zdc,↓xl,hl,↓xo,Int.reduceEq,nh,zdd,zde],λq=>by cases q⟩
 |true=>
  rw[ht] at hl;obtain⟨x3,y3⟩:=w3 ht;obtain⟨x2,y2⟩:=w2 x3;obtain⟨x1,y1⟩:=w1 x2;obtain⟨x0,y0⟩:=w0 x1;exact⟨_,by simp only[bf,hf,zdc,↓xl,hl,↓xo,Int.reduceEq,nh,zdd,zde];rfl,λ_=>⟨y0,y1,y2,y3⟩⟩
theorem Fe: ∃r,bf WX (((2,sq,td,it,id,sd,od,p,q,sh,st,wh,a,b,tg,()),()),())=some ((r,()),()):=by
 have hf:dC WX (((),()),((2,sq,td,it,id,sd,od,p,q,sh,st,wh,a,b,tg,()),()))=some (.inr (.inr (.inr (.inr (.inr (.inr (((),true,()),(2,sq,td,it,id,sd,od,p,q,sh,st,wh,a,b,tg,()),()))))))):=by kernel_rfl
 have hl:ag (fO WX) (((),true,(),0,0,()),(2,sq,td,it,id,sd,od,p,q,sh,st,wh,a,b,tg,()),())=some (((),true,()),(2,sq,td,it,id,sd,od,p,q,sh,st,wh,a,b,tg,()),()):=kI (by simp only[fO,↓xo,bc (show¬(0:Int)<0 by omega),nh,zdd])
 exact⟨_,by simp only[bf,hf,zdc,↓xl,hl,↓xo,eq_self,Int.reduceEq,iD,nh,zde,zdd];rfl⟩
theorem Ff: ∃r,bf WX (((7,sq,td,it,id,sd,od,p,q,sh,st,wh,a,b,tg,()),()),())=some ((r,()),()):=by
 have hf:dC WX (((),()),((7,sq,td,it,id,sd,od,p,q,sh,st,wh,a,b,tg,()),()))=some (.inr (.inr (.inr (.inr (.inr (.inr (((),true,()),(7,sq,td,it,id,sd,od,p,q,sh,st,wh,a,b,tg,()),()))))))):=by kernel_rfl
 have hl:ag (fO WX) (((),true,(),0,0,()),(7,sq,td,it,id,sd,od,p,q,sh,st,wh,a,b,tg,()),())=some (((),true,()),(7,sq,td,it,id,sd,od,p,q,sh,st,wh,a,b,tg,()),()):=kI (by simp only[fO,↓xo,bc (show¬(0:Int)<0 by omega),nh,zdd])
 exact⟨_,by simp only[bf,hf,zdc,↓xl,hl,↓xo,eq_self,Int.reduceEq,iD,nh,zde,zdd];rfl⟩
theorem Fg: ∃r,bf WX (((8,sq,td,it,id,sd,od,p,q,sh,st,wh,a,b,tg,()),()),())=some ((r,()),()):=by
 have hf:dC WX (((),()),((8,sq,td,it,id,sd,od,p,q,sh,st,wh,a,b,tg,()),()))=some (.inr (.inr (.inr (.inr (.inr (.inr (((),true,()),(8,sq,td,it,id,sd,od,p,q,sh,st,wh,a,b,tg,()),()))))))):=by kernel_rfl
 have hl:ag (fO WX) (((),true,(),0,0,()),(8,sq,td,it,id,sd,od,p,q,sh,st,wh,a,b,tg,()),())=some (((),true,()),(8,sq,td,it,id,sd,od,p,q,sh,st,wh,a,b,tg,()),()):=kI (by simp only[fO,↓xo,bc (show¬(0:Int)<0 by omega),nh,zdd])
 exact⟨_,by simp only[bf,hf,zdc,↓xl,hl,↓xo,eq_self,Int.reduceEq,iD,nh,zde,zdd];rfl⟩
theorem OG {kd:Int}(h1: ¬kd=1)(h2: ¬kd=2)(h3: ¬kd=3)(h4: ¬kd=4)(h5: ¬kd=5)(h6: ¬kd=6)(h7: ¬kd=7)(h8: ¬kd=8)(h9: ¬kd=9):dC WX (((),()),((kd,sq,td,it,id,sd,od,p,q,sh,st,wh,a,b,tg,()),()))=some (.inr (.inr (.inr (.inr (.inr (.inr (((),false,()),(kd,sq,td,it,id,sd,od,p,q,sh,st,wh,a,b,tg,()),()))))))):=by
 simp only[dC,pj,lK,lL,lM,oC,lN,zdc,↓xo,bc h1,bc h2,bc h3,bc h4,bc h5,bc h6,bc h7,bc h8,bc h9,zdd]
theorem TP {kd:Int}(h1: ¬kd=1)(h2: ¬kd=2)(h3: ¬kd=3)(h4: ¬kd=4)(h5: ¬kd=5)(h6: ¬kd=6)(h7: ¬kd=7)(h8: ¬kd=8)(h9: ¬kd=9):bf WX (((kd,sq,td,it,id,sd,od,p,q,sh,st,wh,a,b,tg,()),()),())=some ((false,()),()):=by
 have hf:=OG sq td it id sd od p q sh st wh a b tg h1 h2 h3 h4 h5 h6 h7 h8 h9;have hl:ag (fO WX) (((),false,(),0,0,()),(kd,sq,td,it,id,sd,od,p,q,sh,st,wh,a,b,tg,()),())=some (((),false,()),(kd,sq,td,it,id,sd,od,p,q,sh,st,wh,a,b,tg,()),()):=kI (by simp only[fO,↓xo,bc (show¬(0:Int)<0 by omega),nh,zdd])
 simp only[bf,hf,zdc,↓xl,hl,↓xo,bc h2,zdd]
end
abbrev q1 (k:Int)(r:nM)(c:mP):ku.D:=(((),(),(),(),1,k,()),(0,0,0,0,0,0,0,0,0,0,0,0,0,0,gN,()),r,c,(((),1,0,31,()),()),())
theorem zbS {b:List Int}(hb:b.length<=1000000){r0:nM}(hu:aF WX (((),()),((b,0,false,()),()))=some ((1,()),(r0,())))(o0:vK r0):F9 b:=by
 have hr:=pW b hb;have hf:dC WX (((),()),((1,0,0,0,0,0,0,0,0,0,0,0,0,0,gN,()),()))=some (.inl (((),true,()),(1,0,0,0,0,0,0,0,0,0,0,0,0,0,gN,()),(((),1,0,31,()),()),())):=by kernel_rfl
 obtain⟨x0,r1,e0,o1⟩:=rO o0;have u0:=stepG (F:=ku WX) (l:=q1 0 r0 (1,0,0,0,0,0,0,0,0,0,0,0,0,0,gN,())) (l':=q1 1 r1 (1,0,x0,0,0,0,0,0,0,0,0,0,0,0,gN,())) rfl e0 rfl;have hl:ag (ku WX) (q1 0 r0 (1,0,0,0,0,0,0,0,0,0,0,0,0,0,gN,()))=some (((),(),(),()),(0,0,0,0,0,0,0,0,0,0,0,0,0,0,gN,()),r1,(1,0,x0,0,0,0,0,0,0,0,0,0,0,0,gN,()),(((),1,0,31,()),()),()):=by
  rw[u0];exact kI (by kernel_rfl)
 obtain⟨z,hE⟩:=rV r1;obtain⟨g,hR,hF⟩:=E7 0 x0 0 0 0 0 0 0 0 0 0 0 0 gN;cases z with
 |false=>exact⟨_,false,by simp only[fe,hr,hu,hf,zdc,↓xl,hl,↓xo,Int.reduceEq,nh,zdd,zde,hE,zdg,zdh];rfl,λq=>by cases q⟩
 |true=>
  cases g with
  |false=>exact⟨_,false,by simp only[fe,hr,hu,hf,zdc,↓xl,hl,↓xo,Int.reduceEq,nh,zdd,zde,hE,zdg,zdh,hR];rfl,λq=>by cases q⟩
  |true=>
   have hF:=hF rfl;exact⟨(1,0,x0,0,0,0,0,0,0,0,0,0,0,0,gN,()),true,by simp only[fe,hr,hu,hf,zdc,↓xl,hl,↓xo,Int.reduceEq,nh,zdd,zde,hE,zdg,zdh,hR],λ_=>⟨hR,by simp,λ_=>hF,λq=>by simp at q,λq=>by simp at q⟩⟩
abbrev q3 (k:Int)(r:nM)(c:mP):gm.D:=(((),(),(),(),9,k,()),(0,0,0,0,0,0,0,0,0,0,0,0,0,0,gN,()),r,c,(((),4,0,1073741824,()),((),1,0,7,()),((),4,0,1073741824,()),((),1,0,255,()),((),1,0,255,()),((),4,0,1073741824,()),((),4,0,1073741824,()),((),4,0,1073741824,()),((),4,0,1073741824,()),()),())
theorem zbT {b:List Int}(hb:b.length<=1000000){r0:nM}(hu:aF WX (((),()),((b,0,false,()),()))=some ((3,()),(r0,())))(o0:vK r0):F9 b:=by
 have hr:=pW b hb;have hf:dC WX (((),()),((3,0,0,0,0,0,0,0,0,0,0,0,0,0,gN,()),()))=some (.inr (.inl (((),true,()),(3,0,0,0,0,0,0,0,0,0,0,0,0,0,gN,()),(((),4,0,1073741824,()),((),1,0,7,()),((),4,0,1073741824,()),((),1,0,255,()),((),1,0,255,()),((),4,0,1073741824,()),((),4,0,1073741824,()),((),4,0,1073741824,()),((),4,0,1073741824,()),()),()))):=by kernel_rfl
 obtain⟨x0,r1,e0,o1⟩:=ng o0;obtain⟨x1,r2,e1,o2⟩:=rO o1;obtain⟨x2,r3,e2,o3⟩:=ng o2;obtain⟨x3,r4,e3,o4⟩:=rO o3;obtain⟨x4,r5,e4,o5⟩:=rO o4;obtain⟨x5,r6,e5,o6⟩:=ng o5;obtain⟨x6,r7,e6,o7⟩:=ng o6;obtain⟨x7,r8,e7,o8⟩:=ng o7;obtain⟨x8,r9,e8,o9⟩:=ng o8;have u0:=stepG (F:=gm WX) (l:=q3 0 r0 (3,0,0,0,0,0,0,0,0,0,0,0,0,0,gN,())) (l':=q3 1 r1 (3,i64.wrap x0,0,0,0,0,0,0,0,0,0,0,0,0,gN,())) rfl e0 rfl;have u1:=stepG (F:=gm WX) (l:=q3 1 r1 (3,i64.wrap x0,0,0,0,0,0,0,0,0,0,0,0,0,gN,())) (l':=q3 2 r2 (3,i64.wrap x0,0,x1,0,0,0,0,0,0,0,0,0,0,gN,())) rfl e1 rfl;have u2:=stepG (F:=gm WX) (l:=q3 2 r2 (3,i64.wrap x0,0,x1,0,0,0,0,0,0,0,0,0,0,gN,())) (l':=q3 3 r3 (3,i64.wrap x0,0,x1,i64.wrap x2,0,0,0,0,0,0,0,0,0,gN,())) rfl e2 rfl;have u3:=stepG (F:=gm WX) (l:=q3 3 r3 (3,i64.wrap x0,0,x1,i64.wrap x2,0,0,0,0,0,0,0,0,0,gN,())) (l':=q3 4 r4 (3,i64.wrap x0,0,x1,i64.wrap x2,x3,0,0,0,0,0,0,0,0,gN,())) rfl e3 rfl;have u4:=stepG (F:=gm WX) (l:=q3 4 r4 (3,i64.wrap x0,0,x1,i64.wrap x2,x3,0,0,0,0,0,0,0,0,gN,())) (l':=q3 5 r5 (3,i64.wrap x0,0,x1,i64.wrap x2,x3,x4,0,0,0,0,0,0,0,gN,())) rfl e4 rfl;have u5:=stepG (F:=gm WX) (l:=q3 5 r5 (3,i64.wrap x0,0,x1,i64.wrap x2,x3,x4,0,0,0,0,0,0,0,gN,())) (l':=q3 6 r6 (3,i64.wrap x0,0,x1,i64.wrap x2,x3,x4,i64.wrap x5,0,0,0,0,0,0,gN,())) rfl e5 rfl;have u6:=stepG (F:=gm WX) (l:=q3 6 r6 (3,i64.wrap x0,0,x1,i64.wrap x2,x3,x4,i64.wrap x5,0,0,0,0,0,0,gN,())) (l':=q3 7 r7 (3,i64.wrap x0,0,x1,i64.wrap x2,x3,x4,i64.wrap x5,i64.wrap x6,0,0,0,0,0,gN,())) rfl e6 rfl;have u7:=stepG (F:=gm WX) (l:=q3 7 r7 (3,i64.wrap x0,0,x1,i64.wrap x2,x3,x4,i64.wrap x5,i64.wrap x6,0,0,0,0,0,gN,())) (l':=q3 8 r8 (3,i64.wrap x0,0,x1,i64.wrap x2,x3,x4,i64.wrap x5,i64.wrap x6,i64.wrap x7,0,0,0,0,gN,())) rfl e7 rfl;have u8:=stepG (F:=gm WX) (l:=q3 8 r8 (3,i64.wrap x0,0,x1,i64.wrap x2,x3,x4,i64.wrap x5,i64.wrap x6,i64.wrap x7,0,0,0,0,gN,())) (l':=q3 9 r9 (3,i64.wrap x0,0,x1,i64.wrap x2,x3,x4,i64.wrap x5,i64.wrap x6,i64.wrap x7,i64.wrap x8,0,0,0,gN,())) rfl e8 rfl;have hl:ag (gm WX) (q3 0 r0 (3,0,0,0,0,0,0,0,0,0,0,0,0,0,gN,()))=some (((),(),(),()),(0,0,0,0,0,0,0,0,0,0,0,0,0,0,gN,()),r9,(3,i64.wrap x0,0,x1,i64.wrap x2,x3,x4,i64.wrap x5,i64.wrap x6,i64.wrap x7,i64.wrap x8,0,0,0,gN,()),(((),4,0,1073741824,()),((),1,0,7,()),((),4,0,1073741824,()),((),1,0,255,()),((),1,0,255,()),((),4,0,1073741824,()),((),4,0,1073741824,()),((),4,0,1073741824,()),((),4,0,1073741824,()),()),()):=by
  rw[u0,u1,u2,u3,u4,u5,u6,u7,u8];exact kI (by kernel_rfl)
 obtain⟨z,hE⟩:=rV r9;obtain⟨g,hR,hF⟩:=E8 (i64.wrap x0) 0 x1 (i64.wrap x2) x3 x4 (i64.wrap x5) (i64.wrap x6) (i64.wrap x7) (i64.wrap x8) 0 0 0 gN;cases z with
 |false=>exact⟨_,false,by simp only[fe,hr,hu,hf,zdc,↓xl,hl,↓xo,Int.reduceEq,nh,zdd,zde,hE,zdg,zdh];rfl,λq=>by cases q⟩
 |true=>
  cases g with
  |false=>exact⟨_,false,by simp only[fe,hr,hu,hf,zdc,↓xl,hl,↓xo,Int.reduceEq,nh,zdd,zde,hE,zdg,zdh,hR];rfl,λq=>by cases q⟩
  |true=>
   have hF:=hF rfl;exact⟨(3,i64.wrap x0,0,x1,i64.wrap x2,x3,x4,i64.wrap x5,i64.wrap x6,i64.wrap x7,i64.wrap x8,0,0,0,gN,()),true,by simp only[fe,hr,hu,hf,zdc,↓xl,hl,↓xo,Int.reduceEq,nh,zdd,zde,hE,zdg,zdh,hR],λ_=>⟨hR,by simp,λq=>by simp at q,λq=>by simp at q,λ_=>⟨.inl rfl,⟨hF.2.1.1,zeU hF.2.1.2 (by decide),λ_=>hF.2.1.2⟩,λq=>by simp at q,zei _,zei _⟩⟩⟩
abbrev q4 (k:Int)(r:nM)(c:mP):iA.D:=(((),(),(),(),4,k,()),(0,0,0,0,0,0,0,0,0,0,0,0,0,0,gN,()),r,c,(((),4,0,1073741824,()),((),1,0,7,()),((),4,0,1073741824,()),((),1,0,31,()),()),())
theorem zbU {b:List Int}(hb:b.length<=1000000){r0:nM}(hu:aF WX (((),()),((b,0,false,()),()))=some ((4,()),(r0,())))(o0:vK r0):F9 b:=by
 have hr:=pW b hb;have hf:dC WX (((),()),((4,0,0,0,0,0,0,0,0,0,0,0,0,0,gN,()),()))=some (.inr (.inr (.inl (((),true,()),(4,0,0,0,0,0,0,0,0,0,0,0,0,0,gN,()),(((),4,0,1073741824,()),((),1,0,7,()),((),4,0,1073741824,()),((),1,0,31,()),()),())))):=by kernel_rfl
 obtain⟨x0,r1,e0,o1⟩:=ng o0;obtain⟨x1,r2,e1,o2⟩:=rO o1;obtain⟨x2,r3,e2,o3⟩:=ng o2;obtain⟨x3,r4,e3,o4⟩:=rO o3;have u0:=stepG (F:=iA WX) (l:=q4 0 r0 (4,0,0,0,0,0,0,0,0,0,0,0,0,0,gN,())) (l':=q4 1 r1 (4,i64.wrap x0,0,0,0,0,0,0,0,0,0,0,0,0,gN,())) rfl e0 rfl;have u1:=stepG (F:=iA WX) (l:=q4 1 r1 (4,i64.wrap x0,0,0,0,0,0,0,0,0,0,0,0,0,gN,())) (l':=q4 2 r2 (4,i64.wrap x0,0,x1,0,0,0,0,0,0,0,0,0,0,gN,())) rfl e1 rfl;have u2:=stepG (F:=iA WX) (l:=q4 2 r2 (4,i64.wrap x0,0,x1,0,0,0,0,0,0,0,0,0,0,gN,())) (l':=q4 3 r3 (4,i64.wrap x0,0,x1,i64.wrap x2,0,0,0,0,0,0,0,0,0,gN,())) rfl e2 rfl;have u3:=stepG (F:=iA WX) (l:=q4 3 r3 (4,i64.wrap x0,0,x1,i64.wrap x2,0,0,0,0,0,0,0,0,0,gN,())) (l':=q4 4 r4 (4,i64.wrap x0,x3,x1,i64.wrap x2,0,0,0,0,0,0,0,0,0,gN,())) rfl e3 rfl;have hl:ag (iA WX) (q4 0 r0 (4,0,0,0,0,0,0,0,0,0,0,0,0,0,gN,()))=some (((),(),(),()),(0,0,0,0,0,0,0,0,0,0,0,0,0,0,gN,()),r4,(4,i64.wrap x0,x3,x1,i64.wrap x2,0,0,0,0,0,0,0,0,0,gN,()),(((),4,0,1073741824,()),((),1,0,7,()),((),4,0,1073741824,()),((),1,0,31,()),()),()):=by
  rw[u0,u1,u2,u3];exact kI (by kernel_rfl)
 obtain⟨z,hE⟩:=rV r4;obtain⟨g,hR,hF⟩:=E9 (i64.wrap x0) x3 x1 (i64.wrap x2) 0 0 0 0 0 0 0 0 0 gN;cases z with
 |false=>exact⟨_,false,by simp only[fe,hr,hu,hf,zdc,↓xl,hl,↓xo,Int.reduceEq,nh,zdd,zde,hE,zdg,zdh];rfl,λq=>by cases q⟩
 |true=>
  cases g with
  |false=>exact⟨_,false,by simp only[fe,hr,hu,hf,zdc,↓xl,hl,↓xo,Int.reduceEq,nh,zdd,zde,hE,zdg,zdh,hR];rfl,λq=>by cases q⟩
  |true=>
   have hF:=hF rfl;exact⟨(4,i64.wrap x0,x3,x1,i64.wrap x2,0,0,0,0,0,0,0,0,0,gN,()),true,by simp only[fe,hr,hu,hf,zdc,↓xl,hl,↓xo,Int.reduceEq,nh,zdd,zde,hE,zdg,zdh,hR],λ_=>⟨hR,by simp,λq=>by simp at q,λq=>by simp at q,λ_=>⟨.inr (.inl rfl),⟨hF.2.1.1,zeU hF.2.1.2 (by decide),λ_=>hF.2.1.2⟩,λq=>by simp at q,zei _,zei _⟩⟩⟩
abbrev q5 (k:Int)(r:nM)(c:mP):ig.D:=(((),(),(),(),5,k,()),(0,0,0,0,0,0,0,0,0,0,0,0,0,0,gN,()),r,c,(((),4,0,1073741824,()),((),1,0,7,()),((),4,0,1073741824,()),((),4,0,1073741824,()),((),4,0,1073741824,()),()),())
theorem zbV {b:List Int}(hb:b.length<=1000000){r0:nM}(hu:aF WX (((),()),((b,0,false,()),()))=some ((5,()),(r0,())))(o0:vK r0):F9 b:=by
 have hr:=pW b hb;have hf:dC WX (((),()),((5,0,0,0,0,0,0,0,0,0,0,0,0,0,gN,()),()))=some (.inr (.inr (.inr (.inl (((),true,()),(5,0,0,0,0,0,0,0,0,0,0,0,0,0,gN,()),(((),4,0,1073741824,()),((),1,0,7,()),((),4,0,1073741824,()),((),4,0,1073741824,()),((),4,0,1073741824,()),()),()))))):=by kernel_rfl
 obtain⟨x0,r1,e0,o1⟩:=ng o0;obtain⟨x1,r2,e1,o2⟩:=rO o1;obtain⟨x2,r3,e2,o3⟩:=ng o2;obtain⟨x3,r4,e3,o4⟩:=ng o3;obtain⟨x4,r5,e4,o5⟩:=ng o4;have u0:=stepG (F:=ig WX) (l:=q5 0 r0 (5,0,0,0,0,0,0,0,0,0,0,0,0,0,gN,())) (l':=q5 1 r1 (5,i64.wrap x0,0,0,0,0,0,0,0,0,0,0,0,0,gN,())) rfl e0 rfl;have u1:=stepG (F:=ig WX) (l:=q5 1 r1 (5,i64.wrap x0,0,0,0,0,0,0,0,0,0,0,0,0,gN,())) (l':=q5 2 r2 (5,i64.wrap x0,0,x1,0,0,0,0,0,0,0,0,0,0,gN,())) rfl e1 rfl;have u2:=stepG (F:=ig WX) (l:=q5 2 r2 (5,i64.wrap x0,0,x1,0,0,0,0,0,0,0,0,0,0,gN,())) (l':=q5 3 r3 (5,i64.wrap x0,0,x1,i64.wrap x2,0,0,0,0,0,0,0,0,0,gN,())) rfl e2 rfl;have u3:=stepG (F:=ig WX) (l:=q5 3 r3 (5,i64.wrap x0,0,x1,i64.wrap x2,0,0,0,0,0,0,0,0,0,gN,())) (l':=q5 4 r4 (5,i64.wrap x0,0,x1,i64.wrap x2,0,0,i64.wrap x3,0,0,0,0,0,0,gN,())) rfl e3 rfl;have u4:=stepG (F:=ig WX) (l:=q5 4 r4 (5,i64.wrap x0,0,x1,i64.wrap x2,0,0,i64.wrap x3,0,0,0,0,0,0,gN,())) (l':=q5 5 r5 (5,i64.wrap x0,0,x1,i64.wrap x2,0,0,i64.wrap x3,i64.wrap x4,0,0,0,0,0,gN,())) rfl e4 rfl;have hl:ag (ig WX) (q5 0 r0 (5,0,0,0,0,0,0,0,0,0,0,0,0,0,gN,()))=some (((),(),(),()),(0,0,0,0,0,0,0,0,0,0,0,0,0,0,gN,()),r5,(5,i64.wrap x0,0,x1,i64.wrap x2,0,0,i64.wrap x3,i64.wrap x4,0,0,0,0,0,gN,()),(((),4,0,1073741824,()),((),1,0,7,()),((),4,0,1073741824,()),((),4,0,1073741824,()),((),4,0,1073741824,()),()),()):=by
  rw[u0,u1,u2,u3,u4];exact kI (by kernel_rfl)
 obtain⟨z,hE⟩:=rV r5;obtain⟨g,hR,hF⟩:=Fa (i64.wrap x0) 0 x1 (i64.wrap x2) 0 0 (i64.wrap x3) (i64.wrap x4) 0 0 0 0 0 gN;cases z with
 |false=>exact⟨_,false,by simp only[fe,hr,hu,hf,zdc,↓xl,hl,↓xo,Int.reduceEq,nh,zdd,zde,hE,zdg,zdh];rfl,λq=>by cases q⟩
 |true=>
  cases g with
  |false=>exact⟨_,false,by simp only[fe,hr,hu,hf,zdc,↓xl,hl,↓xo,Int.reduceEq,nh,zdd,zde,hE,zdg,zdh,hR];rfl,λq=>by cases q⟩
  |true=>
   have hF:=hF rfl;exact⟨(5,i64.wrap x0,0,x1,i64.wrap x2,0,0,i64.wrap x3,i64.wrap x4,0,0,0,0,0,gN,()),true,by simp only[fe,hr,hu,hf,zdc,↓xl,hl,↓xo,Int.reduceEq,nh,zdd,zde,hE,zdg,zdh,hR],λ_=>⟨hR,by simp,λq=>by simp at q,λq=>by simp at q,λ_=>⟨.inr (.inr (.inl rfl)),⟨hF.2.1.1,zeU hF.2.1.2 (by decide),λ_=>hF.2.1.2⟩,λq=>by simp at q,zei _,zei _⟩⟩⟩
abbrev q6 (k:Int)(r:nM)(c:mP):iT.D:=(((),(),(),(),3,k,()),(0,0,0,0,0,0,0,0,0,0,0,0,0,0,gN,()),r,c,(((),4,0,1073741824,()),((),1,0,8,()),((),1,1,3,()),()),())
theorem zbW {b:List Int}(hb:b.length<=1000000){r0:nM}(hu:aF WX (((),()),((b,0,false,()),()))=some ((6,()),(r0,())))(o0:vK r0):F9 b:=by
 have hr:=pW b hb;have hf:dC WX (((),()),((6,0,0,0,0,0,0,0,0,0,0,0,0,0,gN,()),()))=some (.inr (.inr (.inr (.inr (.inl (((),true,()),(6,0,0,0,0,0,0,0,0,0,0,0,0,0,gN,()),(((),4,0,1073741824,()),((),1,0,8,()),((),1,1,3,()),()),())))))):=by kernel_rfl
 obtain⟨x0,r1,e0,o1⟩:=ng o0;obtain⟨x1,r2,e1,o2⟩:=rO o1;obtain⟨x2,r3,e2,o3⟩:=rO o2;have u0:=stepG (F:=iT WX) (l:=q6 0 r0 (6,0,0,0,0,0,0,0,0,0,0,0,0,0,gN,())) (l':=q6 1 r1 (6,i64.wrap x0,0,0,0,0,0,0,0,0,0,0,0,0,gN,())) rfl e0 rfl;have u1:=stepG (F:=iT WX) (l:=q6 1 r1 (6,i64.wrap x0,0,0,0,0,0,0,0,0,0,0,0,0,gN,())) (l':=q6 2 r2 (6,i64.wrap x0,0,x1,0,0,0,0,0,0,0,0,0,0,gN,())) rfl e1 rfl;have u2:=stepG (F:=iT WX) (l:=q6 2 r2 (6,i64.wrap x0,0,x1,0,0,0,0,0,0,0,0,0,0,gN,())) (l':=q6 3 r3 (6,i64.wrap x0,0,x1,0,0,0,0,0,0,0,x2,0,0,gN,())) rfl e2 rfl;have hl:ag (iT WX) (q6 0 r0 (6,0,0,0,0,0,0,0,0,0,0,0,0,0,gN,()))=some (((),(),(),()),(0,0,0,0,0,0,0,0,0,0,0,0,0,0,gN,()),r3,(6,i64.wrap x0,0,x1,0,0,0,0,0,0,0,x2,0,0,gN,()),(((),4,0,1073741824,()),((),1,0,8,()),((),1,1,3,()),()),()):=by
  rw[u0,u1,u2];exact kI (by kernel_rfl)
 obtain⟨z,hE⟩:=rV r3;obtain⟨g,hR,hF⟩:=Fb (i64.wrap x0) 0 x1 0 0 0 0 0 0 0 x2 0 0 gN;cases z with
 |false=>exact⟨_,false,by simp only[fe,hr,hu,hf,zdc,↓xl,hl,↓xo,Int.reduceEq,nh,zdd,zde,hE,zdg,zdh];rfl,λq=>by cases q⟩
 |true=>
  cases g with
  |false=>exact⟨_,false,by simp only[fe,hr,hu,hf,zdc,↓xl,hl,↓xo,Int.reduceEq,nh,zdd,zde,hE,zdg,zdh,hR];rfl,λq=>by cases q⟩
  |true=>
   have hF:=hF rfl;exact⟨(6,i64.wrap x0,0,x1,0,0,0,0,0,0,0,x2,0,0,gN,()),true,by simp only[fe,hr,hu,hf,zdc,↓xl,hl,↓xo,Int.reduceEq,nh,zdd,zde,hE,zdg,zdh,hR],λ_=>⟨hR,by simp,λq=>by simp at q,λq=>by simp at q,λ_=>⟨.inr (.inr (.inr (.inl rfl))),⟨hF.2.1.1,hF.2.1.2,λq=>absurd rfl q⟩,λq=>by simp at q,zei _,zei _⟩⟩⟩
abbrev q9 (k:Int)(r:nM)(c:mP):iB.D:=(((),(),(),(),4,k,()),(0,0,0,0,0,0,0,0,0,0,0,0,0,0,gN,()),r,c,(((),4,0,1073741824,()),((),1,1,9,()),((),1,0,255,()),((),1,0,255,()),()),())
theorem zbX {b:List Int}(hb:b.length<=1000000){r0:nM}(hu:aF WX (((),()),((b,0,false,()),()))=some ((9,()),(r0,())))(o0:vK r0):F9 b:=by
 have hr:=pW b hb;have hf:dC WX (((),()),((9,0,0,0,0,0,0,0,0,0,0,0,0,0,gN,()),()))=some (.inr (.inr (.inr (.inr (.inr (.inl (((),true,()),(9,0,0,0,0,0,0,0,0,0,0,0,0,0,gN,()),(((),4,0,1073741824,()),((),1,1,9,()),((),1,0,255,()),((),1,0,255,()),()),()))))))):=by kernel_rfl
 obtain⟨x0,r1,e0,o1⟩:=ng o0;obtain⟨x1,r2,e1,o2⟩:=rO o1;obtain⟨x2,r3,e2,o3⟩:=rO o2;obtain⟨x3,r4,e3,o4⟩:=rO o3;have u0:=stepG (F:=iB WX) (l:=q9 0 r0 (9,0,0,0,0,0,0,0,0,0,0,0,0,0,gN,())) (l':=q9 1 r1 (9,i64.wrap x0,0,0,0,0,0,0,0,0,0,0,0,0,gN,())) rfl e0 rfl;have u1:=stepG (F:=iB WX) (l:=q9 1 r1 (9,i64.wrap x0,0,0,0,0,0,0,0,0,0,0,0,0,gN,())) (l':=q9 2 r2 (9,i64.wrap x0,0,0,0,0,0,0,0,0,0,x1,0,0,gN,())) rfl e1 rfl;have u2:=stepG (F:=iB WX) (l:=q9 2 r2 (9,i64.wrap x0,0,0,0,0,0,0,0,0,0,x1,0,0,gN,())) (l':=q9 3 r3 (9,i64.wrap x0,0,0,0,0,0,0,0,0,0,x1,x2,0,gN,())) rfl e2 rfl;have u3:=stepG (F:=iB WX) (l:=q9 3 r3 (9,i64.wrap x0,0,0,0,0,0,0,0,0,0,x1,x2,0,gN,())) (l':=q9 4 r4 (9,i64.wrap x0,0,0,0,0,0,0,0,0,0,x1,x2,x3,gN,())) rfl e3 rfl;have hl:ag (iB WX) (q9 0 r0 (9,0,0,0,0,0,0,0,0,0,0,0,0,0,gN,()))=some (((),(),(),()),(0,0,0,0,0,0,0,0,0,0,0,0,0,0,gN,()),r4,(9,i64.wrap x0,0,0,0,0,0,0,0,0,0,x1,x2,x3,gN,()),(((),4,0,1073741824,()),((),1,1,9,()),((),1,0,255,()),((),1,0,255,()),()),()):=by
  rw[u0,u1,u2,u3];exact kI (by kernel_rfl)
 obtain⟨z,hE⟩:=rV r4;obtain⟨g,hR,hF⟩:=Fc (i64.wrap x0) 0 0 0 0 0 0 0 0 0 x1 x2 x3 gN;cases z with
 |false=>exact⟨_,false,by simp only[fe,hr,hu,hf,zdc,↓xl,hl,↓xo,Int.reduceEq,nh,zdd,zde,hE,zdg,zdh];rfl,λq=>by cases q⟩
 |true=>
  cases g with
  |false=>exact⟨_,false,by simp only[fe,hr,hu,hf,zdc,↓xl,hl,↓xo,Int.reduceEq,nh,zdd,zde,hE,zdg,zdh,hR];rfl,λq=>by cases q⟩
  |true=>
   have hF:=hF rfl;exact⟨(9,i64.wrap x0,0,0,0,0,0,0,0,0,0,x1,x2,x3,gN,()),true,by simp only[fe,hr,hu,hf,zdc,↓xl,hl,↓xo,Int.reduceEq,nh,zdd,zde,hE,zdg,zdh,hR],λ_=>⟨hR,by simp,λq=>by simp at q,λq=>by simp at q,λ_=>⟨.inr (.inr (.inr (.inr rfl))),⟨zei _,(by show(0:Int)<=8;decide),λ_=>(by show(0:Int)<=7;decide)⟩,λ_=>hF.2.1,hF.2.2.1.1,hF.2.2.2.1⟩⟩⟩
theorem zbY {b:List Int}(hb:b.length<=1000000){r0:nM}(hu:aF WX (((),()),((b,0,false,()),()))=some ((2,()),(r0,())))(o0:vK r0):F9 b:=by
 have hr:=pW b hb;have hf:dC WX (((),()),((2,0,0,0,0,0,0,0,0,0,0,0,0,0,gN,()),()))=some (.inr (.inr (.inr (.inr (.inr (.inr (((),true,()),(2,0,0,0,0,0,0,0,0,0,0,0,0,0,gN,()),()))))))):=by kernel_rfl
 have hl:ag (gS WX) (((),(),(),(),0,0,()),(0,0,0,0,0,0,0,0,0,0,0,0,0,0,gN,()),r0,(2,0,0,0,0,0,0,0,0,0,0,0,0,0,gN,()),())=some (((),(),(),()),(0,0,0,0,0,0,0,0,0,0,0,0,0,0,gN,()),r0,(2,0,0,0,0,0,0,0,0,0,0,0,0,0,gN,()),()):=kI (by simp only[gS,↓xo,bc (show¬(0:Int)<0 by omega),nh,zdd])
 obtain⟨l,r1,hS,o1,hL⟩:=Wv o0;obtain⟨z,hE⟩:=rV r1;obtain⟨g,hR⟩:=Fe 0 0 0 0 0 0 0 0 0 0 0 0 0 l;cases z with
 |false=>exact⟨_,false,by simp only[fe,hr,hu,hf,zdc,↓xl,hl,↓xo,eq_self,Int.reduceEq,iD,nh,zdd,zde,hE,zdg,zdh,hS];rfl,λq=>by cases q⟩
 |true=>
  cases g with
  |false=>exact⟨_,false,by simp only[fe,hr,hu,hf,zdc,↓xl,hl,↓xo,eq_self,Int.reduceEq,iD,nh,zdd,zde,hE,zdg,zdh,hS,hR];rfl,λq=>by cases q⟩
  |true=>exact⟨(2,0,0,0,0,0,0,0,0,0,0,0,0,0,l,()),true,by simp only[fe,hr,hu,hf,zdc,↓xl,hl,↓xo,eq_self,Int.reduceEq,iD,nh,zdd,zde,hE,zdg,zdh,hS,hR],λ_=>⟨hR,by simp,λq=>by simp at q,λ_=>hL,λq=>by simp at q⟩⟩
theorem zbZ {b:List Int}(hb:b.length<=1000000){r0:nM}(hu:aF WX (((),()),((b,0,false,()),()))=some ((7,()),(r0,())))(o0:vK r0):F9 b:=by
 have hr:=pW b hb;have hf:dC WX (((),()),((7,0,0,0,0,0,0,0,0,0,0,0,0,0,gN,()),()))=some (.inr (.inr (.inr (.inr (.inr (.inr (((),true,()),(7,0,0,0,0,0,0,0,0,0,0,0,0,0,gN,()),()))))))):=by kernel_rfl
 have hl:ag (gS WX) (((),(),(),(),0,0,()),(0,0,0,0,0,0,0,0,0,0,0,0,0,0,gN,()),r0,(7,0,0,0,0,0,0,0,0,0,0,0,0,0,gN,()),())=some (((),(),(),()),(0,0,0,0,0,0,0,0,0,0,0,0,0,0,gN,()),r0,(7,0,0,0,0,0,0,0,0,0,0,0,0,0,gN,()),()):=kI (by simp only[gS,↓xo,bc (show¬(0:Int)<0 by omega),nh,zdd])
 obtain⟨z,hE⟩:=rV r0;obtain⟨g,hR⟩:=Ff 0 0 0 0 0 0 0 0 0 0 0 0 0 gN;cases z with
 |false=>exact⟨_,false,by simp only[fe,hr,hu,hf,zdc,↓xl,hl,↓xo,eq_self,Int.reduceEq,iD,nh,zdd,zde,hE,zdg,zdh];rfl,λq=>by cases q⟩
 |true=>
  cases g with
  |false=>exact⟨_,false,by simp only[fe,hr,hu,hf,zdc,↓xl,hl,↓xo,eq_self,Int.reduceEq,iD,nh,zdd,zde,hE,zdg,zdh,hR];rfl,λq=>by cases q⟩
  |true=>exact⟨(7,0,0,0,0,0,0,0,0,0,0,0,0,0,gN,()),true,by simp only[fe,hr,hu,hf,zdc,↓xl,hl,↓xo,eq_self,Int.reduceEq,iD,nh,zdd,zde,hE,zdg,zdh,hR],λ_=>⟨hR,by simp,λq=>by simp at q,λq=>by simp at q,λq=>by simp at q⟩⟩
theorem zb0 {b:List Int}(hb:b.length<=1000000){r0:nM}(hu:aF WX (((),()),((b,0,false,()),()))=some ((8,()),(r0,())))(o0:vK r0):F9 b:=by
 have hr:=pW b hb;have hf:dC WX (((),()),((8,0,0,0,0,0,0,0,0,0,0,0,0,0,gN,()),()))=some (.inr (.inr (.inr (.inr (.inr (.inr (((),true,()),(8,0,0,0,0,0,0,0,0,0,0,0,0,0,gN,()),()))))))):=by kernel_rfl
 have hl:ag (gS WX) (((),(),(),(),0,0,()),(0,0,0,0,0,0,0,0,0,0,0,0,0,0,gN,()),r0,(8,0,0,0,0,0,0,0,0,0,0,0,0,0,gN,()),())=some (((),(),(),()),(0,0,0,0,0,0,0,0,0,0,0,0,0,0,gN,()),r0,(8,0,0,0,0,0,0,0,0,0,0,0,0,0,gN,()),()):=kI (by simp only[gS,↓xo,bc (show¬(0:Int)<0 by omega),nh,zdd])
 obtain⟨z,hE⟩:=rV r0;obtain⟨g,hR⟩:=Fg 0 0 0 0 0 0 0 0 0 0 0 0 0 gN;cases z with
 |false=>exact⟨_,false,by simp only[fe,hr,hu,hf,zdc,↓xl,hl,↓xo,eq_self,Int.reduceEq,iD,nh,zdd,zde,hE,zdg,zdh];rfl,λq=>by cases q⟩
 |true=>
  cases g with
  |false=>exact⟨_,false,by simp only[fe,hr,hu,hf,zdc,↓xl,hl,↓xo,eq_self,Int.reduceEq,iD,nh,zdd,zde,hE,zdg,zdh,hR];rfl,λq=>by cases q⟩
  |true=>exact⟨(8,0,0,0,0,0,0,0,0,0,0,0,0,0,gN,()),true,by simp only[fe,hr,hu,hf,zdc,↓xl,hl,↓xo,eq_self,Int.reduceEq,iD,nh,zdd,zde,hE,zdg,zdh,hR],λ_=>⟨hR,by simp,λq=>by simp at q,λq=>by simp at q,λq=>by simp at q⟩⟩
theorem Ww {b:List Int}(hb:b.length<=1000000):F9 b:=by
 obtain⟨x,r0,hu,o0⟩:=rO (r:=(b,0,false,())) ⟨zei _,Int.natCast_nonneg _,hb⟩;by_cases h1:x=1
 ·subst h1;exact zbS hb hu o0
 by_cases h2:x=2
 ·subst h2;exact zbY hb hu o0
 by_cases h3:x=3
 ·subst h3;exact zbT hb hu o0
 by_cases h4:x=4
 ·subst h4;exact zbU hb hu o0
 by_cases h5:x=5
 ·subst h5;exact zbV hb hu o0
 by_cases h6:x=6
 ·subst h6;exact zbW hb hu o0
 by_cases h7:x=7
 ·subst h7;exact zbZ hb hu o0
 by_cases h8:x=8
 ·subst h8;exact zb0 hb hu o0
 by_cases h9:x=9
 ·subst h9;exact zbX hb hu o0
 have hr:=pW b hb;have hf:=OG 0 0 0 0 0 0 0 0 0 0 0 0 0 gN h1 h2 h3 h4 h5 h6 h7 h8 h9;have hR:=TP 0 0 0 0 0 0 0 0 0 0 0 0 0 gN h1 h2 h3 h4 h5 h6 h7 h8 h9;have hl:ag (gS WX) (((),(),(),(),0,0,()),(0,0,0,0,0,0,0,0,0,0,0,0,0,0,gN,()),r0,(x,0,0,0,0,0,0,0,0,0,0,0,0,0,gN,()),())=some (((),(),(),()),(0,0,0,0,0,0,0,0,0,0,0,0,0,0,gN,()),r0,(x,0,0,0,0,0,0,0,0,0,0,0,0,0,gN,()),()):=kI (by simp only[gS,↓xo,bc (show¬(0:Int)<0 by omega),nh,zdd])
 obtain⟨z,hE⟩:=rV r0;cases z with
 |false=>exact⟨_,false,by simp only[fe,hr,hu,hf,zdc,↓xl,hl,↓xo,bc h2,zdd,zde,hE,zdg,zdh,hR];rfl,λq=>by cases q⟩
 |true=>exact⟨_,false,by simp only[fe,hr,hu,hf,zdc,↓xl,hl,↓xo,bc h2,zdd,zde,hE,zdg,zdh,hR];rfl,λq=>by cases q⟩
theorem OH (n:Int):kQ WX ((n,()),())=some ((decide (1<=n/\n<=256),()),()):=by
 by_cases h1:n>=1
 ·by_cases h2:n<=256
  ·simp only[kQ,↓xo,ot h1,zde,ot h2];rw[decide_eq_true ⟨h1,h2⟩]
  ·simp only[kQ,↓xo,ot h1,zde,bc h2];rw[decide_eq_false (λq=>h2 q.2)]
 ·simp only[kQ,↓xo,bc h1,zdd];rw[decide_eq_false (λq=>h1 q.1)]
theorem Qy (left:List Int)(hl:left.length<=1000000): ∃(out:List (List Int)) (wm:(List Int)×Bool×Unit),ag (bH WX) (((),(),()),(left,false,()),[],())=some ((out,()),(wm,()))/\2*out.length+wm.1.length<=left.length/\∀x∈out,x.length<=1000000:=by
 have key:=rq (b:=bH WX) (λk l=> ∃(a:List Int) (out:List (List Int)),l=(((),(),()),(a,false,()),out,())/\k=a.length/\2*out.length+a.length<=left.length/\∀x∈out,x.length<=1000000)
  (λr=> ∃(out:List (List Int)) (wm:(List Int)×Bool×Unit),r=((out,()),(wm,()))/\2*out.length+wm.1.length<=left.length/\∀x∈out,x.length<=1000000) (λk l hk=>by
  obtain⟨a,out,rfl,rfl,h1,h2⟩:=hk;by_cases hc:(a.length:Int)>=2
  ·have x0:=zdi (l:=a) (i:=0) (by omega)
   have x1:=zdi (l:=a) (i:=1) (by omega)
   generalize a[0]'(by omega)=y0 at x0
   generalize a[1]'(by omega)=y1 at x1
   have z0:(0:Int).toNat=0:=rfl;have z1:(1:Int).toNat=1:=rfl;have z2:(2:Int).toNat=2:=rfl;have e8: ¬(8:Int)<0:=by omega
   have e0:(0:Int)<=0:=by omega
   have V4:(0:Int)<=1:=by omega
   generalize hN:WX.AL .i64 (WX.shl .i64 (i64.wrap y0) 8) (i64.wrap y1)=N;have hm:=OH N;by_cases hN1:1<=N/\N<=256
   ·rw[decide_eq_true hN1] at hm
    have w1:i64.wrap ((a.length:Int)-2)=(a.length:Int)-2:=nQ (by omega) (by omega)
    have w2:i64.wrap (2+N)=2+N:=nQ (by omega) (by omega)
    by_cases hs:(a.length:Int)-2<N
    ·exact .inr ⟨((out,()),((a,false,()),())),by simp only[bH,↓xo,xw,ot hc,ot e0,ot V4,bc e8,zde,zdd,z0,z1,x0,x1,zdc,hN,hm,zdg,w1,ot hs],out,(a,false,()),rfl,h1,h2⟩
    ·have c1:=vF ((a.take (2+N).toNat).drop 2) (by rw[zdI,zdH];omega)
     have c2:=vF (a.drop (2+N).toNat) (by rw[zdI];omega)
     refine .inl ⟨(((),(),()),(a.drop (2+N).toNat,false,()),out++ [(a.take (2+N).toNat).drop 2],()),by simp only[bH,↓xo,xw,ot hc,ot e0,ot V4,bc e8,zde,zdd,z0,z1,z2,x0,x1,zdc,hN,hm,zdg,w1,bc hs,w2,ot (show 0<=(2:Int)/\(2:Int)<=2+N/\2+N<=(a.length:Int) by omega),c1,ot (show(((out.length+([(a.take (2+N).toNat).drop 2]:List (List Int)).length:Nat):Int))*((24:Nat):Int)<=((room:Nat):Int) by unfold room;simp only[zdn,zdo];omega),ot (show 0<=2+N/\2+N<=(a.length:Int)/\(a.length:Int)<=(a.length:Int) by omega),c2],(a.drop (2+N).toNat).length,by rw[zdI];omega,_,_,rfl,rfl,?_,λx hx=>?_⟩
     ·rw[zdm,zdI];simp only[zdn,zdo];omega
     ·rcases List.mem_append.1 hx with hx|hx
      ·exact h2 x hx
      ·rw[List.mem_singleton.1 hx,zdI,zdH];omega
   ·rw[decide_eq_false hN1] at hm
    refine .inr ⟨((out,()),(([],true,()),())),by simp only[bH,↓xo,xw,ot hc,ot e0,ot V4,bc e8,zde,zdd,z0,z1,x0,x1,zdc,hN,hm,zdh],out,([],true,()),rfl,?_,h2⟩
    simp only[zdo];omega
  ·exact .inr ⟨((out,()),((a,false,()),())),by simp only[bH,↓xo,bc hc,zdd],out,(a,false,()),rfl,h1,h2⟩)
 obtain⟨r,h1,out,wm,rfl,h2,h3⟩:=key left.length (((),(),()),(left,false,()),[],()) ⟨left,[],rfl,rfl,by simp,λx hx=>(by cases hx)⟩
 exact⟨out,wm,h1,h2,h3⟩
theorem TQ (fr:(List Int)×Bool×Unit)(bs:List Int)(hl:fr.1.length+bs.length<=1000000): ∃(out:List (List Int)) (wm:(List Int)×Bool×Unit),(cf WX (((),bs,()),(fr,()))=some (.inl (((),()),wm,out,()))\/cf WX (((),bs,()),(fr,()))=some (.inr ((out,()),(wm,()))))/\2*out.length+wm.1.length<=fr.1.length+bs.length/\∀x∈out,x.length<=1000000:=by
 obtain⟨left,bad,⟨⟩⟩:=fr;simp only at hl;cases bad with
 |true=>exact⟨[],(left,true,()), .inl (by simp only[cf,zde]),by simp,λx hx=>(by cases hx)⟩
 |false=>
  have vl: [left,bs].flatten=left++bs:=by simp
  obtain⟨out,wm,g1,g2,g3⟩:=Qy (left++bs) (by rw[zdm];omega)
  rw[zdm] at g2;refine⟨out,wm, .inr ?_,g2,g3⟩;rcases FZ [left,bs] (by rw[vl,zdm];omega) (by simp) with⟨c1,c2⟩|c1
  ·rw[vl] at c2
   rw[c2] at g1;simp only[cf,zdd,c1,zdc,↓xl,g1]
  ·rw[vl] at c1
   simp only[cf,zdd,c1,zdc,zeu,↓xl,g1]
section
variable {P:Nat->V->(Nat->MS)->Prop}{k m:Nat}{v:V}{μ:Nat->MS}{i:Nat}
theorem VI.le (pk:PK P)(h:VI P k m v μ){k':Nat}(hk:k<=k'):VI P k' m v μ:=by
 have: ∀d,VI P (k+d) m v μ:=by
  intro d;induction d with
  |zero=>exact h
  |succ d ih=>exact⟨ih.ss,ih.ci,ih.mt,ih.lg,pk.more ih.p,ih.qi⟩
 have:=this (k'-k);rwa [show k+(k'-k)=k' by omega] at this
theorem TR {s:wS}(h:s.1=3)(sq now:Int): ∃b nx,dY WX (((),sq,now,()),(s,()))=some ((b,()),((3,s.2.1,s.2.2.1,nx,now,()),())):=by
 by_cases h1:sq=s.2.2.2.1
 ·by_cases h2:s.2.2.2.1=1073741824
  ·exact⟨false,s.2.2.2.1,by simp only[dY,dr,↓xo,eq_self,iD,zdg,zdd,zdc,ot h1,ot h2,zde,h]⟩
  ·exact⟨true,i64.wrap (s.2.2.2.1+1),by simp only[dY,dr,↓xo,xw,eq_self,iD,zdg,zdd,zdc,ot h1,bc h2,h]⟩
 ·exact⟨false,s.2.2.2.1,by simp only[dY,dr,↓xo,eq_self,iD,zdg,zdh,zdd,zde,zdc,bc h1,h]⟩
theorem TS {c:mP}(h:bf WX ((c,()),())=some ((true,()),()))(hk:c.1=3\/c.1=4\/c.1=5\/c.1=6\/c.1=9):iz WX ((c,()),())=some ((true,()),()):=by
 by_cases h3:c.1=3
 ·simp only[iz,↓xo,ot h3,zde,h,zdc]
 by_cases h4:c.1=4
 ·simp only[iz,↓xo,bc h3,ot h4,zde,zdd,h,zdc]
 by_cases h5:c.1=5
 ·simp only[iz,↓xo,bc h3,bc h4,ot h5,zde,zdd,h,zdc]
 by_cases h6:c.1=6
 ·simp only[iz,↓xo,bc h3,bc h4,bc h5,ot h6,zde,zdd,h,zdc]
 ·have h9:c.1=9:=by omega
  simp only[iz,↓xo,bc h3,bc h4,bc h5,bc h6,ot h9,zde,zdd,h,zdc]
theorem KF (pk:PK P)(h:VI P k m v μ)(hm:m<=90000000000)(hi:i<16)(yf:(jg v i).1=3){c:mP}(hc:XD c)(h1: ¬c.1=1)(h2: ¬c.1=2): ∃v' μ' m',dN WX (((),(i:Int),c,()),v.e)=some ((),v'.e)/\VI P (k+1) m' v' μ'/\m'<=m+100/\Ev i v v':=by
 obtain⟨f,o,s,fr,ou,nL,mc⟩:=h.ci i hi;rw[wB nL] at yf;have kd:=hc.kind;by_cases h7:c.1=7
 ·have v1:=E5 pk h nL (s':=(3,s.2.1,s.2.2.1,s.2.2.2.1,v.now,())) ⟨mc.out,mc.rn,by simp,mc.qn⟩ (IX h.qi nL (λ_=>⟨yf,rfl⟩))
  have ev:=E6 nL (s':=(3,s.2.1,s.2.2.1,s.2.2.2.1,v.now,())) (.inr rfl);refine⟨_,μ,m,?_,v1.le pk (by omega),by omega,ev⟩
  simp only[dN,V.e,↓xo,ot (lh hi),zde,zdf,nL.c,zdc,ot h7,aX,al,nL.S,dr,eq_self,iD,zdg,zdd,yf]
 by_cases h8:c.1=8
 ·obtain⟨v1,w1,w2,w3⟩:=AK pk h hi ZY
  obtain⟨v2,μ',m',d1,d2,d3,d4,_⟩:=pV pk w2 (by omega) hi
  refine⟨v2,μ',m',?_,d2.le pk (by omega),by omega,(w3.dw.trans d4).ev i⟩
  simp only[V.e] at w1 d1;simp only[dN,V.e,↓xo,ot (lh hi),zde,zdf,nL.c,zdc,bc h7,ot h8,zdd,w1,d1]
 have hk:c.1=3\/c.1=4\/c.1=5\/c.1=6\/c.1=9:=by omega
 obtain⟨b,nx,ht⟩:=TR yf c.2.1 v.now;have v1:=E5 pk h nL (s':=(3,s.2.1,s.2.2.1,nx,v.now,())) ⟨mc.out,mc.rn,by simp,mc.qn⟩ (IX h.qi nL (λ_=>⟨yf,rfl⟩))
 have ev:=E6 nL (s':=(3,s.2.1,s.2.2.1,nx,v.now,())) (.inr rfl);cases b with
 |false=>
  obtain⟨v2,w1,w2,w3⟩:=uH pk v1 hi c.2.1 14;refine⟨v2,μ,m,?_,w2.le pk (by omega),by omega,ev.trans (w3.dw.ev i)⟩
  simp only[V.e] at w1;simp only[dN,V.e,↓xo,ot (lh hi),zde,zdf,nL.c,zdc,bc h7,bc h8,zdd,aX,al,nL.S,ht,zdh,w1]
 |true=>
  obtain⟨e,v2,μ',m',r1,r2,r3,r4⟩:=zbP pk v1 (by omega) mc.qn (hc.cmd hk) hc.right (TS hc.right hk)
  have e32: ¬(3:Int)=2:=by omega
  have um:=kL (y:=(((3:Int),s.2.1,s.2.2.1,nx,v.now,()),())) nL.S;simp only[V.e] at r1;by_cases he:e=0
  ·subst he
   obtain⟨v3,w1,w2,w3⟩:=AK pk r2 hi (ZZ c.2.1);refine⟨v3,μ',m',?_,w2,r3,ev.trans ((r4.trans w3).dw.ev i)⟩;simp only[V.e] at w1;simp only[dN,V.e,↓xo,ot (lh hi),zde,zdf,nL.c,zdc,bc h7,bc h8,zdd,aX,al,nL.S,ht,zdg,um,ay,bc e32,eq_self,iD,zeO,r1,w1]
  ·obtain⟨v3,w1,w2,w3⟩:=uH pk r2 hi c.2.1 e
   refine⟨v3,μ',m',?_,w2,r3,ev.trans ((r4.trans w3).dw.ev i)⟩;simp only[V.e] at w1;simp only[dN,V.e,↓xo,ot (lh hi),zde,zdf,nL.c,zdc,bc h7,bc h8,zdd,aX,al,nL.S,ht,zdg,zdh,um,ay,bc e32,eq_self,iD,zeO,r1,bc he,w1]
theorem TT (pk:PK P)(h:VI P k m v μ)(hm:m<=90000000000)(hi:i<16){x:List Int}(hx:x.length<=1000000): ∃v' μ' m',cX WX (((),(i:Int),x,()),v.e)=some ((),v'.e)/\VI P (k+1) m' v' μ'/\m'<=m+100/\Ev i v v':=by
 obtain⟨f,o,s,fr,ou,nL,mc⟩:=h.ci i hi;obtain⟨c,ok,g1,g2⟩:=Ww hx;cases ok with
 |false=>
  obtain⟨v2,μ',m',d1,d2,d3,d4,_⟩:=pV pk h (by omega) hi
  refine⟨v2,μ',m',?_,d2.le pk (by omega),by omega,d4.ev i⟩
  simp only[V.e] at d1;simp only[cX,V.e,↓xo,ot (lh hi),zde,zdf,nL.c,zdc,g1,zdh,d1]
 |true=>
  have hc:=g2 rfl;by_cases h1:c.1=1
  ·by_cases hs:s.1=1
   ·have v1:=E5 pk h nL (s':=(2,c.2.2.1,s.2.2.1,s.2.2.2.1,v.now,())) ⟨mc.out,mc.rn,by simp,hc.zbR h1⟩ (IX h.qi nL (λq=>by simp at q))
    have ev:=E6 nL (s':=(2,c.2.2.1,s.2.2.1,s.2.2.2.1,v.now,())) (.inr rfl);obtain⟨v2,w1,w2,w3⟩:=AK pk v1 hi (IW mc.rn);refine⟨v2,μ,m,?_,w2.le pk (by omega),by omega,ev.trans (w3.dw.ev i)⟩
    have um:=kL (y:=(((2:Int),c.2.2.1,s.2.2.1,s.2.2.2.1,v.now,()),())) nL.S;have Xo: ¬(2:Int)=1:=by omega
    simp only[V.e] at w1;simp only[cX,V.e,↓xo,ot (lh hi),zde,zdf,nL.c,zdc,g1,zdg,zdd,ot h1,aX,al,nL.S,eG,ot hs,um,fa,bc Xo,eq_self,iD,zeO,w1]
   ·obtain⟨v2,μ',m',d1,d2,d3,d4,_⟩:=pV pk h (by omega) hi
    refine⟨v2,μ',m',?_,d2.le pk (by omega),by omega,d4.ev i⟩
    simp only[V.e] at d1;simp only[cX,V.e,↓xo,ot (lh hi),zde,zdf,nL.c,zdc,g1,zdg,zdh,zdd,ot h1,aX,al,nL.S,eG,bc hs,aI nL.S,d1]
  by_cases h2:c.1=2
  ·obtain⟨v2,μ',m',d1,d2,d3,d4⟩:=M5 pk h hm hi (hc.ans h2)
   refine⟨v2,μ',m',?_,d2.le pk (by omega),d3,d4⟩
   simp only[V.e] at d1;simp only[cX,V.e,↓xo,ot (lh hi),zde,zdf,nL.c,zdc,g1,zdg,zdd,bc h1,ot h2,d1]
  by_cases h3:s.1=3
  ·obtain⟨v2,μ',m',d1,d2,d3,d4⟩:=KF pk h hm hi (by rw[wB nL];exact h3) hc h1 h2
   refine⟨v2,μ',m',?_,d2,d3,d4⟩;simp only[V.e] at d1;simp only[cX,V.e,↓xo,ot (lh hi),zde,zdf,nL.c,zdc,g1,zdg,zdd,bc h1,bc h2,al,nL.S,ai,ot h3,aI nL.S,d1]
  ·obtain⟨v2,μ',m',d1,d2,d3,d4,_⟩:=pV pk h (by omega) hi
   refine⟨v2,μ',m',?_,d2.le pk (by omega),by omega,d4.ev i⟩
   simp only[V.e] at d1;simp only[cX,V.e,↓xo,ot (lh hi),zde,zdf,nL.c,zdc,g1,zdg,zdh,zdd,bc h1,bc h2,al,nL.S,ai,bc h3,aI nL.S,d1]
end
structure Ew (i:Nat)(v v':V):Prop where
 now:v'.now=v.now
 cfg:v'.cfg=v.cfg
 jg: ∀j,j<16->jg v' j=jg v j\/(jg v' j).1=0\/(j=i/\(jg v' j).2.2.2.2.1=v.now)
theorem Ev.ew {i:Nat}{v v':V}(h:Ev i v v'):Ew i v v':=⟨h.now,h.cfg,h.jg⟩
section
variable {P:Nat->V->(Nat->MS)->Prop}{k m:Nat}{v:V}{μ:Nat->MS}{i:Nat}
theorem Wx {F:List wT}{f:Nat}{y:wT}(h:F[f]?=some y):y.1.1.length<=lE F:=by
 have:=Ha h (x:=(([],false,()),()));simp only[zdo] at this;omega
theorem KG (pk:PK P)(h:VI P k m v μ)(hi:i<16)(out:List (List Int))(ho: ∀x∈out,x.length<=1000000)(hl:out.length<=1000000)(hm:m<=10000000000): ∃v' μ' m',ag (bL WX) (((),(i:Int),out,(out.length:Int),0,()),v.e)=some (((),(i:Int),()),v'.e)/\VI P (k+out.length) m' v' μ'/\m'<=m+900*out.length/\Ev i v v':=by
 have key:=rq (b:=bL WX) (λq l=> ∃(j:Nat) (v1:V) (μ1:Nat->MS) (m1:Nat),j<=out.length/\q=out.length-j/\l=(((),(i:Int),out,(out.length:Int),(j:Int),()),v1.e)/\VI P (k+j) m1 v1 μ1/\m1<=m+900*j/\Ev i v v1)
  (λr=> ∃(v1:V) (μ1:Nat->MS) (m1:Nat),r=(((),(i:Int),()),v1.e)/\VI P (k+out.length) m1 v1 μ1/\m1<=m+900*out.length/\Ev i v v1) (λq l hq=>by
  obtain⟨j,v1,μ1,m1,hj,rfl,rfl,i1,i2,i3⟩:=hq;by_cases hc:j<out.length
  ·obtain⟨f,o,s,fr,ou,nL,mc⟩:=i1.ci i hi
   have hA:=PZ nL;have hx:=zdi hc;have WV:=ho _ (zeq hc);have e1:=lx hc hl;generalize out[j]=x at hx WV;by_cases h0:s.1=0
   ·exact .inr ⟨(((),(i:Int),()),v1.e),by simp only[bL,↓xo,ot (show(j:Int)<(out.length:Int) by omega),ot (show(0:Int)<=(j:Int) by omega),zde,zdf,hx,zdc,hA,ot h0],v1,μ1,m1,rfl,i1.le pk (by omega),by omega,i3⟩
   ·obtain⟨rl,r,h3,h4⟩:=tC i1.mt (i:=0) (by omega)
    change aR WX (((),0,1,()),_)=_ at h3;have v2:VI P (k+j) m1 {v1 with mt:=rl} μ1:=⟨i1.ss.oL (by rfl),i1.ci.oL rfl rfl rfl rfl,h4,i1.lg,pk.oL i1.p (by rfl) (by rfl) (by rfl),i1.qi.mono (λ_ _ h=>⟨h,rfl⟩) .rfl (by rfl)⟩
    obtain⟨v3,μ3,m3,b1,b2,b3,b4⟩:=TT pk v2 (by omega) hi WV
    obtain⟨v4,μ4,m4,s1,s2,s3,s4,_⟩:=yt pk b2 (by omega)
    have b4':Ev i v1 v3:=⟨b4.now,b4.cfg,b4.left,b4.jg⟩;refine .inl ⟨(((),(i:Int),out,(out.length:Int),((j+1:Nat):Int),()),v4.e),?_,out.length-(j+1),by omega,j+1,v4,μ4,m4,by omega,rfl,rfl,s2,by omega,i3.trans (b4'.trans (s4.ev i))⟩
    simp only[V.e] at hA b1 s1⊢;simp only[bL,↓xo,xw,ot (show(j:Int)<(out.length:Int) by omega),ot (show(0:Int)<=(j:Int) by omega),zde,zdf,hx,zdc,hA,bc h0,zdd,h3,b1,s1,e1]
  ·obtain rfl:j=out.length:=by omega
   exact .inr ⟨(((),(i:Int),()),v1.e),by simp only[bL,↓xo,bc (show¬(out.length:Int)<(out.length:Int) by omega),zdd],v1,μ1,m1,rfl,i1,i2,i3⟩)
 obtain⟨r,h1,v1,μ1,m1,rfl,h2,h3,h4⟩:=key out.length (((),(i:Int),out,(out.length:Int),0,()),v.e) ⟨0,v,μ,m,by omega,by omega,rfl,h,by omega, .rfl i v⟩
 exact⟨v1,μ1,m1,h1,h2,h3,h4⟩
theorem Qz (pk:PK P)(h:VI P k m v μ)(hi:i<16)(bs:List Int)(hl:lE v.F+bs.length<=1000000)(hm:m<=10000000000): ∃v' μ' k' m',cN WX (((),(i:Int),bs,()),v.e)=some ((),v'.e)/\VI P k' m' v' μ'/\2*k'+lE v'.F<=2*k+lE v.F+bs.length/\m'<=m+1000*(lE v.F+bs.length+1)/\Ew i v v':=by
 obtain⟨f,o,s,fr,ou,nL,mc⟩:=h.ci i hi;have vl:=Wx nL.F;simp only at vl;obtain⟨out,wm,g1,g2,g3⟩:=TQ fr bs (by omega)
 have hls:=Ha nL.F (x:=(wm,()));simp only at hls;have v1:VI P k m {v with F:=v.F.set f (wm,())} μ:=⟨h.ss.oL (by rfl),λj hj=>by
  obtain⟨f2,o2,s2,Uo,VP,c1,c2⟩:=h.ci j hj;by_cases e:f2=f
  ·subst e
   exact⟨f2,o2,s2,wm,VP,⟨c1.lt,c1.c,c1.S,kL c1.F,c1.O⟩,c2⟩
  ·exact⟨f2,o2,s2,Uo,VP,⟨c1.lt,c1.c,c1.S,by show(v.F.set f _)[f2]?=_;rw[kH e];exact c1.F,c1.O⟩,c2⟩,h.mt,h.lg,pk.oL h.p (by rfl) (by rfl) (by rfl),h.qi.mono (λ_ _ h=>⟨h,rfl⟩) .rfl (by rfl)⟩
 obtain⟨v2,μ2,m2,l1,l2,l3,l4⟩:=KG pk v1 hi out g3 (by omega) hm
 have hle:lE v2.F=lE (v.F.set f (wm,())):=l4.left;have ew:Ew i v v2:=⟨l4.now,l4.cfg,l4.jg⟩;obtain⟨f3,o3,s3,fr3,ou3,c3,ok3⟩:=l2.ci i hi;simp only[V.e] at l1;cases hb:fr3.2.1 with
 |false=>
  refine⟨v2,μ2,k+out.length,m2,?_,l2,by omega,by omega,ew⟩
  simp only[V.e];rcases g1 with g1|g1
  ·simp only[cN,↓xo,ot (lh hi),zde,zdf,nL.c,zdc,al,nL.F,g1,↓xl,l1,c3.c,c3.F,eB,hb,zdd,aI c3.F]
  ·simp only[cN,↓xo,ot (lh hi),zde,zdf,nL.c,zdc,al,nL.F,g1,↓xl,l1,c3.c,c3.F,eB,hb,zdd,aI c3.F]
 |true=>
  obtain⟨v3,μ3,m3,d1,d2,d3,d4,_⟩:=pV pk l2 (by omega) hi
  obtain⟨v4,μ4,m4,w1,w2,w3,w4,_⟩:=yt pk d2 (by omega)
  have dw:=d4.trans w4;have zdb:lE v4.F=lE v2.F:=dw.left;have dv:=dw.ev i;refine⟨v4,μ4,k+out.length,m4,?_,w2,by omega,by omega,⟨dv.now.trans ew.now,dv.cfg.trans ew.cfg,λj hj=>?_⟩⟩
  ·simp only[V.e] at d1 w1⊢
   rcases g1 with g1|g1
   ·simp only[cN,↓xo,ot (lh hi),zde,zdf,nL.c,zdc,al,nL.F,g1,↓xl,l1,c3.c,c3.F,eB,hb,aI c3.F,d1,w1]
   ·simp only[cN,↓xo,ot (lh hi),zde,zdf,nL.c,zdc,al,nL.F,g1,↓xl,l1,c3.c,c3.F,eB,hb,aI c3.F,d1,w1]
  ·rcases dw.jg j hj with e|e
   ·rw[e];exact ew.jg j hj
   ·exact .inr (.inl e)
def DoR (P:Nat->V->(Nat->MS)->Prop)(k m:Nat)(v:V)(i:Nat)(n:Nat)(o:Option ((Bool×Unit)×VT)):Prop:=
 (o=some ((false,()),v.e))\/∃v' μ' k' m',o=some ((true,()),v'.e)/\VI P k' m' v' μ'/\2*k'+lE v'.F<=2*k+lE v.F+n/\m'<=m+1000*(lE v.F+n+1)/\Ew i v v'
theorem M6 (pk:PK P)(h:VI P k m v μ)(hi:i<16)(bs:List Int)(hl:lE v.F+bs.length<=1000000)(hm:m<=10000000000):DoR P k m v i bs.length (aD WX (((),(2,(i:Int),0,gN,bs,()),()),v.e)):=by
 obtain⟨f,o,s,fr,ou,nL,mc⟩:=h.ci i hi;have e1: ¬(2:Int)=4:=by omega
 have e2: ¬(2:Int)=1:=by omega
 by_cases h0:s.1=0
 ·refine .inl ?_
  simp only[aD,fg,V.e,↓xo,bc e1,bc e2,zdd,ot (show(i:Int)>=0 by omega),ot (show(i:Int)<16 by omega),ot (lh hi),zde,zdc,zdg,eq_self,iD,zdf,nL.c,al,nL.S,ai,ot h0,aI nL.S]
 ·obtain⟨v',μ',k',m',b1,b2,b3,b4,b5⟩:=Qz pk h hi bs hl hm
  refine .inr ⟨v',μ',k',m',?_,b2,b3,b4,b5⟩;simp only[V.e] at b1⊢;simp only[aD,fg,↓xo,bc e1,bc e2,zdd,ot (show(i:Int)>=0 by omega),ot (show(i:Int)<16 by omega),ot (lh hi),zde,zdc,zdg,eq_self,iD,zdf,nL.c,al,nL.S,ai,bc h0,aI nL.S,b1]
theorem QA (pk:PK P)(h:VI P k m v μ)(hi:i<16)(hm:m<=10000000000):DoR P k m v i 0 (aD WX (((),(3,(i:Int),0,gN,[],()),()),v.e)):=by
 obtain⟨f,o,s,fr,ou,nL,mc⟩:=h.ci i hi;have e1: ¬(3:Int)=4:=by omega
 have e2: ¬(3:Int)=1:=by omega
 have e3: ¬(3:Int)=2:=by omega
 by_cases h0:s.1=0
 ·refine .inl ?_
  simp only[aD,fg,V.e,↓xo,bc e1,bc e2,bc e3,zdd,ot (show(i:Int)>=0 by omega),ot (show(i:Int)<16 by omega),ot (lh hi),zde,zdc,zdg,zdh,eq_self,iD,zdf,nL.c,al,nL.S,ai,ot h0,aI nL.S]
 ·obtain⟨v3,μ3,m3,d1,d2,d3,d4,_⟩:=pV pk h (by omega) hi
  obtain⟨v4,μ4,m4,w1,w2,w3,w4,_⟩:=yt pk d2 (by omega)
  have dw:=d4.trans w4;refine .inr ⟨v4,μ4,k,m4,?_,w2,by rw[dw.left];omega,by omega,(dw.ev i).ew⟩
  simp only[V.e] at d1 w1⊢;simp only[aD,fg,↓xo,bc e1,bc e2,bc e3,zdd,ot (show(i:Int)>=0 by omega),ot (show(i:Int)<16 by omega),ot (lh hi),zde,zdc,zdg,zdh,eq_self,iD,zdf,nL.c,al,nL.S,ai,bc h0,aI nL.S,d1,w1]
theorem IY (pk:PK P)(h:VI P k m v μ)(hi:i<16){nc:List Int}(hn:nc.length=32):DoR P k m v i 0 (aD WX (((),(1,(i:Int),0,nc,[],()),()),v.e)):=by
 obtain⟨f,o,s,fr,ou,nL,mc⟩:=h.ci i hi;have e1: ¬(1:Int)=4:=by omega
 by_cases h0:s.1=0
 ·have hd:=EA nL h0 nc
  have hF:(v.F++ [((([]:List Int),false,()),())])[v.F.length]?=some (([],false,()),()):=by simp
  have hO:(v.O++ [((([]:List Int),false,()),())])[v.O.length]?=some (([],false,()),()):=by simp
  have hs:=λj=>AJ nL (x:=(1,0,nc,0,v.now,())) rfl j;refine .inr ⟨_,μ,k,m,hd,⟨h.ss.oL (by rfl),λj hj=>?_,h.mt,h.lg,pk.oL h.p (by rfl) (by rfl) (by rfl),h.qi.mono (λj hj h3=>?_) .rfl (by rfl)⟩,?_,by omega,⟨rfl,rfl,λj hj=>?_⟩⟩
  ·by_cases e:j=i
   ·subst e
    exact⟨_,_,_,_,_,⟨hi,kL nL.c,kL nL.S,hF,hO⟩,⟨by simp,hn,by simp,by simp⟩⟩
   ·obtain⟨f',o',s',wm,Ix,c1,c2⟩:=h.ci j hj
    refine⟨f',o',s',wm,Ix,⟨c1.lt,?_,?_,?_,?_⟩,c2⟩
    ·show(v.c.set i _)[j]?=_;rw[kH e];exact c1.c
    ·show(v.S.set i _)[j]?=_;rw[kH e];exact c1.S
    ·show(v.F++_)[f']?=_;rw[zd3 (List.getElem?_eq_some_iff.1 c1.F).1];exact c1.F
    ·show(v.O++_)[o']?=_;rw[zd3 (List.getElem?_eq_some_iff.1 c1.O).1];exact c1.O
  ·change ((v.S.set i ((1,0,nc,0,v.now,()),())).getD j (s0,())).1.1=3 at h3
   show(jg v j).1=3/\((v.S.set i ((1,0,nc,0,v.now,()),())).getD j (s0,())).1.2.1=(jg v j).2.1
   rw[hs] at h3⊢;by_cases e:j=i
   ·rw[if_pos e] at h3;simp at h3
   ·rw[if_neg e] at h3⊢;exact⟨h3,rfl⟩
  ·show 2*k+lE (v.F++_)<=_
   rw[tE];simp[lE]
  ·show(((v.S.set i ((1,0,nc,0,v.now,()),())).getD j (s0,())).1=_)\/((v.S.set i ((1,0,nc,0,v.now,()),())).getD j (s0,())).1.1=0\/_/\((v.S.set i ((1,0,nc,0,v.now,()),())).getD j (s0,())).1.2.2.2.2.1=_
   rw[hs];by_cases e:j=i
   ·rw[if_pos e];exact .inr (.inr ⟨e,rfl⟩)
   ·rw[if_neg e];exact .inl rfl
 ·refine .inl ?_
  simp only[aD,fg,V.e,↓xo,bc e1,zdd,ot (show(i:Int)>=0 by omega),ot (show(i:Int)<16 by omega),ot (lh hi),zde,zdc,zdg,zdh,eq_self,iD,zdf,nL.c,al,aX,nL.S,dQ,bc h0,aI nL.S]
end
section
variable {P:Nat->V->(Nat->MS)->Prop}{k m:Nat}{v:V}{μ:Nat->MS}{i:Nat}
abbrev idle (v:V):Int:=v.cfg.2.2.2.2.2.2.1
def Fh (s:wS)(now d:Int):Bool:=decide (s.1≠0/\i64.wrap (now-s.2.2.2.2.1)>=d)
theorem Wy (s:wS)(now d:Int):eE WX (((),now,d,()),(s,()))=some ((Fh s now d,()),(s,())):=by
 unfold Fh;by_cases h0:s.1=0
 ·simp only[eE,↓xo,ot h0,zdg,zdd];rw[decide_eq_false (λq=>q.1 h0)]
 ·by_cases h1:i64.wrap (now-s.2.2.2.2.1)>=d
  ·simp only[eE,↓xo,xw,bc h0,zdh,zde,ot h1];rw[decide_eq_true ⟨h0,h1⟩]
  ·simp only[eE,↓xo,xw,bc h0,zdh,zde,bc h1];rw[decide_eq_false (λq=>h1 q.2)]
theorem QB (pk:PK P)(h:VI P k m v μ)(hm:m<=10000000000): ∃v' μ' m',ag (dq WX) (((),v.c,0,()),v.e)=some (((),()),v'.e)/\VI P k m' v' μ'/\m'<=m+736/\Dw v v'/\∀j,j<16->(jg v' j).1=0\/(jg v' j=jg v j/\Fh (jg v j) v.now (idle v)=false):=by
 obtain⟨⟨v',μ',m'⟩,l1,l2,l3,l4,l5⟩:=nB (b:=dq WX) 16 (λj (s:V×(Nat->MS)×Nat)=>(((),v.c,(j:Int),()),s.1.e)) (λs=>(((),()),s.1.e))
  (λj s=>VI P k s.2.2 s.1 s.2.1/\s.2.2<=m+46*j/\Dw v s.1/\∀j',j'<j->(jg s.1 j').1=0\/(jg s.1 j'=jg v j'/\Fh (jg v j') v.now (idle v)=false))
  (λj s hj hI=>by
   obtain⟨v1,μ1,m1⟩:=s;obtain⟨i1,i2,i3,i4⟩:=hI;simp only at i1 i2 i3 i4;obtain⟨f0,o0,s0',fr0,ou0,c0,_⟩:=h.ci j hj;have hc0:=c0.c;obtain⟨f,o,s,fr,ou,nL,mc⟩:=i1.ci j hj;have hs:=wB nL;have e1:=lx hj (by omega)
   have kR:=Wy s v1.now v1.cfg.2.2.2.2.2.2.1;cases hb:Fh s v1.now v1.cfg.2.2.2.2.2.2.1 with
   |true=>
    rw[hb] at kR;obtain⟨v3,μ3,m3,d1,d2,d3,d4,d5,d6,_⟩:=pV pk i1 (by omega) hj
    refine⟨(v3,μ3,m3),?_,d2,by simp only;omega,i3.trans d4,λj' BR=>?_⟩
    ·simp only[V.e] at d1⊢
     simp only[dq,↓xo,xw,ot (show(j:Int)<16 by omega),ot (lh hj),zde,zdf,hc0,zdc,aX,dP,al,nL.S,kR,aI nL.S,d1,e1]
    ·by_cases e:j'=j
     ·subst e;exact .inl d5
     ·show(jg v3 j').1=0\/(jg v3 j'=_/\_)
      rw[d6 j' e];exact i4 j' (by omega)
   |false=>
    rw[hb] at kR;refine⟨(v1,μ1,m1),?_,i1,by simp only;omega,i3,λj' BR=>?_⟩
    ·simp only[V.e]
     simp only[dq,↓xo,xw,ot (show(j:Int)<16 by omega),ot (lh hj),zde,zdf,hc0,zdc,aX,dP,al,nL.S,kR,zdd,aI nL.S,e1]
    ·by_cases e:j'=j
     ·subst e
      rcases i3.jg j' hj with q|q
      ·refine .inr ⟨q,?_⟩
       rw[<-q,hs,<-i3.now];unfold idle;rw[<-i3.cfg];exact hb
      ·exact .inl q
     ·exact i4 j' (by omega))
  (λs _=>by simp only[dq,↓xo,bc (show¬((16:Nat):Int)<16 by omega),zdd]) (v,μ,m) ⟨h,by simp only;omega, .rfl v,λj hj=>by omega⟩
 exact⟨v',μ',m',l1,l2,by simp only at l3;omega,l4,l5⟩
theorem QC (pk:PK P)(h:VI P k m v μ)(hm:m<=1000000000)(n:Int):aD WX (((),(4,0,n,gN,[],()),()),v.e)=some ((false,()),v.e)\/∃v' μ' m',aD WX (((),(4,0,n,gN,[],()),()),v.e)=some ((true,()),v'.e)/\VI P k m' v' μ'/\lE v'.F=lE v.F/\m'<=m+2000/\1<=n/\v'.now=v.now+n/\v'.cfg=v.cfg/\∀j,j<16->(jg v' j).1=0\/(jg v' j=jg v j/\Fh (jg v j) v'.now (idle v)=false):=by
 have FH:=h.ss.now;have e:i64.wrap (1099511627776-v.now)=1099511627776-v.now:=nQ (by omega) (by omega)
 by_cases h1:n<1
 ·exact .inl (by simp only[aD,fE,V.e,↓xo,eq_self,iD,zde,ot h1,zdc])
 by_cases h2:n>1099511627776-v.now
 ·exact .inl (by simp only[aD,fE,V.e,↓xo,xw,eq_self,iD,zde,bc h1,zdd,aX,zdc,e,ot h2])
 ·have hdo:=VK (v:=v) n (by omega) (by omega) FH.1 FH.2
  obtain⟨wK,g1,g2⟩:=Iv h.lg (by omega) (VL (n:=n) (by omega) (by omega))
  obtain⟨e',rl,O',r1,r2,r3⟩:=M3 (v1:={v with now:=v.now+n}) h.ci h.mt (by rfl) (by rfl) (by rfl) (by rfl) (.inl ⟨0,hdo⟩) g1
  have s1:SS {v with now:=v.now+n} μ:=⟨⟨⟨h.ss.si.qL.mp,h.ss.si.qL.at_⟩,h.ss.si.op,h.ss.si.MQ,h.ss.si.ps⟩,h.ss.tr,h.ss.ph,h.ss.Xz,h.ss.bp,h.ss.B,h.ss.lp,h.ss.L,by show 0<=v.now+n/\v.now+n<=1099511627776;omega⟩
  have v2:VI P k (m+46) {v with now:=v.now+n,lg:=wK,mt:=rl,O:=O'} μ:=⟨s1.oL (by rfl),r2,r3,g2,pk.oL h.p (by rfl) (by rfl) (by rfl),h.qi.mono (λ_ _ h=>⟨h,rfl⟩) .rfl (by rfl)⟩
  obtain⟨v3,μ3,m3,l1,l2,l3,l4,l5⟩:=QB pk v2 (by omega)
  obtain⟨v4,μ4,m4,w1,w2,w3,w4,_⟩:=yt pk l2 (by omega)
  have dw:=l4.trans w4;refine .inr ⟨v4,μ4,m4,?_,w2,dw.left,by omega,by omega,dw.now,dw.cfg,λj hj=>?_⟩
  ·simp only[V.e] at r1 l1 w1⊢
   simp only[aD,fE,↓xo,xw,eq_self,iD,zde,bc h1,zdd,aX,zdc,e,bc h2,r1,↓xl,l1,w1]
  ·rcases w4.jg j hj with q|q
   ·rw[q]
    have hn:v4.now=v.now+n:=dw.now;rw[hn];exact l5 j hj
   ·exact .inl q
end
abbrev BJ (x:Int):Prop:= -9223372036854775808<=x/\x<=9223372036854775807
theorem QD {a b c d e f g:Int}(ha:BJ a)(hb:BJ b)(hc:BJ c)(hd:BJ d)(he:BJ e)(hf:BJ f): ∃o:ek,gv WX (((a,b,c,d,e,f,g,()),()),())=some ((o,()),()):=by
 obtain⟨r1,_,_,w1⟩:=jN ha (lo:=0) (hi:=5) (by omega) (by omega) (by omega)
 obtain⟨r2,_,_,w2⟩:=jN hb (lo:=0) (hi:=15) (by omega) (by omega) (by omega)
 obtain⟨r3,_,_,w3⟩:=jN hc (lo:=0) (hi:=1) (by omega) (by omega) (by omega)
 obtain⟨r4,_,_,w4⟩:=jN hc (lo:=0) (hi:=9) (by omega) (by omega) (by omega)
 obtain⟨r5,_,_,w5⟩:=jN hd (lo:=95) (hi:=105) (by omega) (by omega) (by omega)
 obtain⟨r6,l6,u6,w6⟩:=jN he (lo:=1) (hi:=12) (by omega) (by omega) (by omega)
 obtain⟨r7,_,_,w7⟩:=jN hf (lo:=0) (hi:=r6) (by omega) (by omega) (by omega)
 have e2: ¬(2:Int)=0:=by omega
 have cb: ∀(q:Bool) (x y:Option ((ek×Unit)×Unit)),(∃o:ek,x=some ((o,()),()))->(∃o:ek,y=some ((o,()),()))->∃o:ek,(bif q then x else y)=some ((o,()),()):=λq x y hx hy=>by cases q<;>assumption
 simp only[gv,w1,w2,w3,w4,w5,w6,w7,zdc,↓xo,bc e2,zdd];repeat' first|exact⟨_,rfl⟩|apply cb
theorem TU {a b c d e f g:Int}(ha:BJ a)(hb:BJ b)(hc:BJ c)(hd:BJ d)(he:BJ e)(hf:BJ f)(hg:BJ g): ∃o:ek,ia WX (((a,b,c,d,e,f,g,()),()),())=some ((o,()),()):=by
 obtain⟨o,h1⟩:=QD (g:=g) ha hb hc hd he hf;obtain⟨r2,_,_,w2⟩:=jN hg (lo:=0) (hi:=32) (by omega) (by omega) (by omega)
 by_cases h:r2<11
 ·exact⟨_,by simp only[ia,h1,w2,zdc,↓xo,ot h,zde];rfl⟩
 ·exact⟨_,by simp only[ia,h1,w2,zdc,↓xo,bc h,zdd];rfl⟩
def Ct (o:Option ((mP×Unit)×Unit)):Prop:= ∃c:mP,o=some ((c,()),())/\c.2.2.2.2.2.2.2.2.2.2.2.2.2.2.1=gN
theorem Ct.bif {q:Bool}{x y:Option ((mP×Unit)×Unit)}(hx:Ct x)(hy:Ct y):Ct (bif q then x else y):=by cases q<;>assumption
structure DoI (d:Va):Prop where
 x0:BJ d.1
 x1:BJ d.2.1
 x2:BJ d.2.2.1
 x3:BJ d.2.2.2.1
 x4:BJ d.2.2.2.2.1
 y0:BJ d.2.2.2.2.2.1.1
 y1:BJ d.2.2.2.2.2.1.2.1
 y2:BJ d.2.2.2.2.2.1.2.2.1
 y3:BJ d.2.2.2.2.2.1.2.2.2.1
 y4:BJ d.2.2.2.2.2.1.2.2.2.2.1
 y5:BJ d.2.2.2.2.2.1.2.2.2.2.2.1
 y6:BJ d.2.2.2.2.2.1.2.2.2.2.2.2.1
theorem TV {d:Va}(h:DoI d):Ct (ik WX ((d,()),())):=by
 obtain⟨x0,x1,x2,x3,x4,⟨y0,y1,y2,y3,y4,y5,y6,⟨⟩⟩,⟨⟩⟩:=d;obtain⟨a0,a1,a2,a3,a4,b0,b1,b2,b3,b4,b5,b6⟩:=h;simp only at a0 a1 a2 a3 a4 b0 b1 b2 b3 b4 b5 b6;obtain⟨o,s1⟩:=TU b0 b1 b2 b3 b4 b5 b6;obtain⟨r2,_,_,w2⟩:=jN a4 (lo:=0) (hi:=3) (by omega) (by omega) (by omega)
 obtain⟨r3,_,_,w3⟩:=jN a0 (lo:=0) (hi:=15) (by omega) (by omega) (by omega)
 obtain⟨r4,_,_,w4⟩:=jN a3 (lo:=0) (hi:=7) (by omega) (by omega) (by omega)
 obtain⟨r5,_,_,w5⟩:=jN a1 (lo:=0) (hi:=7) (by omega) (by omega) (by omega)
 obtain⟨r6,_,_,w6⟩:=jN b3 (lo:=95) (hi:=105) (by omega) (by omega) (by omega)
 obtain⟨r7,_,_,w7⟩:=jN a4 (lo:=0) (hi:=8) (by omega) (by omega) (by omega)
 obtain⟨r8,_,_,w8⟩:=jN a2 (lo:=1) (hi:=3) (by omega) (by omega) (by omega)
 obtain⟨r9,_,_,w9⟩:=jN a2 (lo:=1) (hi:=9) (by omega) (by omega) (by omega)
 obtain⟨nj,_,_,w10⟩:=jN a3 (lo:=0) (hi:=8) (by omega) (by omega) (by omega)
 simp only[ik,s1,w2,w3,w4,w5,w6,w7,w8,w9,w10,zdc,↓xo];repeat' first|exact⟨_,rfl,rfl⟩|apply Ct.bif
theorem Wz (c:mP)(ht:c.2.2.2.2.2.2.2.2.2.2.2.2.2.2.1.length=32): ∃bs:List Int,gP WX ((c,()),())=some (((),()),(bs,()))/\bs.length<=60:=by
 obtain⟨kd,sq,td,it,id,sd,od,p,q,sh,st,wh,a,b,tg,⟨⟩⟩:=c;simp only at ht;have no: ∀{c:mP},bf WX ((c,()),())=some ((false,()),())->∃bs:List Int,gP WX ((c,()),())=some (((),()),(bs,()))/\bs.length<=60:=λh=>⟨[],by simp only[gP,h,zdc,zdh,zde],by simp⟩
 have le: ∀{o:Option ((Unit×Unit)×(List Int×Unit))} (k:Nat),k<=60->XB k o=true->∃bs:List Int,o=some (((),()),(bs,()))/\bs.length<=60:=λk hk h=>by
  obtain⟨bs,h1,h2⟩:=uc h;exact⟨bs,h1,by omega⟩
 by_cases h1:kd=1
 ·subst h1
  obtain⟨r,hr,_⟩:=E7 sq td it id sd od p q sh st wh a b tg;cases r with
  |false=>exact no hr
  |true=>
   apply le 2 (by omega)
   simp only[gP,hr,zdc,zdg,zdd];clear hr le no ht;kernel_rfl
 by_cases h2:kd=2
 ·subst h2
  obtain⟨r,hr⟩:=Fe sq td it id sd od p q sh st wh a b tg;cases r with
  |false=>exact no hr
  |true=>
   obtain⟨f,rfl⟩:=mC tg ht;apply le 33 (by omega)
   simp only[gP,hr,zdc,zdg,zdd];clear hr le no ht h1;kernel_rfl
 by_cases h3:kd=3
 ·subst h3
  obtain⟨r,hr,_⟩:=E8 sq td it id sd od p q sh st wh a b tg;cases r with
  |false=>exact no hr
  |true=>
   apply le 28 (by omega)
   simp only[gP,hr,zdc,zdg,zdd];clear hr le no ht h1 h2;kernel_rfl
 by_cases h4:kd=4
 ·subst h4
  obtain⟨r,hr,_⟩:=E9 sq td it id sd od p q sh st wh a b tg;cases r with
  |false=>exact no hr
  |true=>
   apply le 11 (by omega)
   simp only[gP,hr,zdc,zdg,zdd];clear hr le no ht h1 h2 h3;kernel_rfl
 by_cases h5:kd=5
 ·subst h5
  obtain⟨r,hr,_⟩:=Fa sq td it id sd od p q sh st wh a b tg;cases r with
  |false=>exact no hr
  |true=>
   apply le 18 (by omega)
   simp only[gP,hr,zdc,zdg,zdd];clear hr le no ht h1 h2 h3 h4;kernel_rfl
 by_cases h6:kd=6
 ·subst h6
  obtain⟨r,hr,_⟩:=Fb sq td it id sd od p q sh st wh a b tg;cases r with
  |false=>exact no hr
  |true=>
   apply le 7 (by omega)
   simp only[gP,hr,zdc,zdg,zdd];clear hr le no ht h1 h2 h3 h4 h5;kernel_rfl
 by_cases h7:kd=7
 ·subst h7
  obtain⟨r,hr⟩:=Ff sq td it id sd od p q sh st wh a b tg;cases r with
  |false=>exact no hr
  |true=>
   apply le 1 (by omega)
   simp only[gP,hr,zdc,zdg,zdd];clear hr le no ht h1 h2 h3 h4 h5 h6;kernel_rfl
 by_cases h8:kd=8
 ·subst h8
  obtain⟨r,hr⟩:=Fg sq td it id sd od p q sh st wh a b tg;cases r with
  |false=>exact no hr
  |true=>
   apply le 1 (by omega)
   simp only[gP,hr,zdc,zdg,zdd];clear hr le no ht h1 h2 h3 h4 h5 h6 h7;kernel_rfl
 by_cases h9:kd=9
 ·subst h9
  obtain⟨r,hr,_⟩:=Fc sq td it id sd od p q sh st wh a b tg;cases r with
  |false=>exact no hr
  |true=>
   apply le 8 (by omega)
   simp only[gP,hr,zdc,zdg,zdd];clear hr le no ht h1 h2 h3 h4 h5 h6 h7 h8;kernel_rfl
 exact no (TP sq td it id sd od p q sh st wh a b tg h1 h2 h3 h4 h5 h6 h7 h8 h9)
theorem TW {bs:List Int}(h:bs.length<=200): ∃fb:List Int,gi WX ((bs,()),())=some (((),()),(fb,()))/\fb.length<=bs.length+2:=by
 have hm:=OH (bs.length:Int);have e8: ¬(8:Int)<0:=by omega
 by_cases h1:1<=(bs.length:Int)/\(bs.length:Int)<=256
 ·rw[decide_eq_true h1] at hm
  refine⟨[WX.wr .u8 (WX.shr .i64 (bs.length:Int) 8),WX.wr .u8 (bs.length:Int)]++bs,?_,by rw[zdm];simp only[zdn,zdo];omega⟩
  simp only[gi,hm,zdc,zdg,zdd,↓xo,bc e8,ot (show(((([WX.wr .u8 (WX.shr .i64 (bs.length:Int) 8),WX.wr .u8 (bs.length:Int)]:List Int).length+bs.length:Nat):Int))*((1:Nat):Int)<=((room:Nat):Int) by unfold room;simp only[zdn,zdo];omega),zde]
 ·rw[decide_eq_false h1] at hm
  exact⟨[],by simp only[gi,hm,zdc,zdh,zde],by simp⟩
inductive Cy:yz->Prop
 |conn (i:Nat) (nc:List Int) (hi:i<16) (hn:nc.length=32):Cy (1,(i:Int),0,nc,[],())
 |bytes (i:Nat) (bs:List Int) (hi:i<16) (hb:bs.length<=62):Cy (2,(i:Int),0,gN,bs,())
 |gone (i:Nat) (hi:i<16):Cy (3,(i:Int),0,gN,[],())
 |tick (n:Int) (hn:1<=n/\n<=30):Cy (4,0,n,gN,[],())
structure MvI (q:Aq):Prop where
 k:BJ q.1
 c:BJ q.2.1
 d:DoI q.2.2.1
theorem Hd {i:Nat}(h:i<16):0<=(i:Int)/\(i:Int)<(16:Nat):=by omega
def m0:MS:=([],[],[],0,0)
theorem zb1 {v:V}{i:Nat}(h:v.M[i]?=some e0):zbI v i m0:=by
 refine⟨[],[],[],h,⟨λp hp=>(by cases hp),λp hp=>(by cases hp),by simp,rfl,rfl⟩,⟨⟨?_,?_,by decide,λa ha=>(by cases ha)⟩,λo ho=>(by cases ho),by decide⟩,λo ho=>(by cases ho)⟩
 ·exact⟨λa ha=>(by cases ha),λa ha=>(by cases ha),List.Pairwise.nil⟩
 ·exact⟨λa ha=>(by cases ha),λa ha=>(by cases ha),List.Pairwise.nil⟩
theorem TX {n i:Nat}(hn:n<32)(hi:i<8):tb oo n i=0:=by
 unfold tb;rw[zdt,zdt,show oo[n]?=some (List.replicate 8 (0:Int)) from qf hn _]
 show((List.replicate 8 (0:Int))[i]?).getD 0=0
 rw[qf hi];rfl
theorem OI:AH oo:=⟨by simp[oo],λr hr=>by rw[(List.mem_replicate.1 hr).2];simp⟩
theorem WA (a0 a1:Int):((yD a0 a1).all λx=>decide (0<=x.1)&&decide (x.1<=7)&&Nat.beq x.2.2.2.2.2.1.length 32)=true:=by kernel_rfl
theorem WB (a0 a1:Int):Nat.beq (yD a0 a1).length 32=true:=by kernel_rfl
theorem Z0 (a0 a1:Int):Qq (yD a0 a1):=by
 have h:=List.all_eq_true.1 (WA a0 a1);refine⟨zeM (WB a0 a1),λx hx=>?_,λx hx=>?_⟩
 ·have:=h x hx
  simp only[zdl,zdr] at this;exact this.1
 ·have:=h x hx
  simp only[zdl,zdr] at this;exact zeM this.2
theorem TY: ∀n,n<32->(VV 32 0 (List.replicate 32 0))[n]?=some (n+1):=by decide
theorem Z1: ∀n,n<8->p8[n]?=some (n+1):=by decide
section
variable {P:Nat->V->(Nat->MS)->Prop}
theorem Z2 (g:wR){i:Nat}(hi:i<16):jg (v0 g) i=s0:=by
 exact wB (Df g i hi)
theorem zb2 {c:List Int}{g:wR}(h:Up c g)(hp:P 0 (v0 g) (λ_=>m0)):VI P 0 0 (v0 g) (λ_=>m0):=by
 obtain⟨a0,a1,a2,a3,a4,a5,b,r,t,l,d,q,_,_,_,_,_,_,_,_,hr,_,_,_,hq,rfl⟩:=h.ex;have hz: ∀i,i<16->¬(jg (v0 (yD a0 a1,L6.set 1 (a2,a3,a4,a5,()),b,r,t,l,d,q,())) i).1=3:=λi hi=>by rw[Z2 _ hi];simp[s0]
 refine⟨⟨⟨⟨Z1,λi hi=>zb1 (qf hi _)⟩,⟨OI,λn i hn hi=>?_⟩,λn i hn hi=>TX hn hi,⟨OI,λn i hn hi=>?_⟩⟩,Z0 a0 a1,⟨by simp[v0],by simp[v0],by simp[v0]⟩,SU,TY,λn hn=>⟨(b,r,b,0,()),qf hn _,by show r≠0;omega⟩,TY,λn hn=>⟨_,qf hn _⟩,⟨zei _,(by show(0:Int)<=1099511627776;decide)⟩⟩,
  λi hi=>⟨i,i,s0,([],false,()),([],false,()),Df _ i hi,⟨by simp,by simp[s0], .inl rfl,by simp[s0]⟩⟩,by simp[v0],⟨rfl,by simp[v0]⟩,hp,⟨.rfl,λi j hi hj h1=>absurd h1 (hz i hi),λi hi h1=>absurd h1 (hz i hi),λf=>?_⟩⟩
 ·show 0<=tb oo n i/\tb oo n i<=_
  rw[TX hn hi];exact⟨zei _,by decide⟩
 ·show _<=tb oo n i/\tb oo n i<=_
  rw[TX hn hi];exact⟨by decide,by decide⟩
 ·have:(List.range 16).countP (λi=>decide ((jg (v0 (yD a0 a1,L6.set 1 (a2,a3,a4,a5,()),b,r,t,l,d,q,())) i).1=3/\(iC (v0 (yD a0 a1,L6.set 1 (a2,a3,a4,a5,()),b,r,t,l,d,q,())).tr (jg (v0 (yD a0 a1,L6.set 1 (a2,a3,a4,a5,()),b,r,t,l,d,q,())) i).2.1).1=f))=0:=by
   rw[List.countP_eq_zero];intro i hi hp;exact hz i (List.mem_range.1 hi) (of_decide_eq_true hp).1
  rw[this];show((0:Nat):Int)<=q
  omega
def GV (P:Nat->V->(Nat->MS)->Prop)(s:Nat)(v:V):Prop:= ∃μ k m,VI P k m v μ/\2*k+lE v.F<=62*s/\m<=8000000*s
theorem GV.le {s s':Nat}{v:V}(h:GV P s v)(hs:s<=s'):GV P s' v:=by
 obtain⟨μ,k,m,h1,h2,h3⟩:=h;exact⟨μ,k,m,h1,by omega,by omega⟩
theorem TZ (g:wR):lE (v0 g).F=0:=by
 unfold v0 lE;simp
theorem XE {c:List Int}{g:wR}(h:Up c g)(hp:P 0 (v0 g) (λ_=>m0)):GV P 0 (v0 g):=⟨_,0,0,zb2 h hp,by rw[TZ];omega,by omega⟩
def Rel (st:yz)(ok:Bool)(v v':V):Prop:=v'.cfg=v.cfg/\((ok=false/\v'=v)\/(ok=true/\st.1≠4/\∃i:Nat,i<16/\st.2.1=(i:Int)/\Ew i v v')\/
 (ok=true/\st.1=4/\1<=st.2.2.1/\v'.now=v.now+st.2.2.1/\∀j,j<16->(jg v' j).1=0\/(jg v' j=jg v j/\Fh (jg v j) v'.now (idle v)=false)))
theorem T2 (pk:PK P){s:Nat}{v:V}(h:GV P s v)(hs:s<125){st:yz}(jZ:Cy st): ∃ok v',aD WX (((),st,()),v.e)=some ((ok,()),v'.e)/\GV P (s+1) v'/\Rel st ok v v':=by
 have h0:=h;obtain⟨μ,k,m,h1,h2,h3⟩:=h;have key: ∀(i n:Nat) {o},n<=62->i<16->st.1≠4->st.2.1=(i:Int)->aD WX (((),st,()),v.e)=o->DoR P k m v i n o->∃ok v',aD WX (((),st,()),v.e)=some ((ok,()),v'.e)/\GV P (s+1) v'/\Rel st ok v v':=by
  intro i n o hn hi hk hc ho hr;subst ho;rcases hr with hr|⟨v',μ',k',m',r1,r2,r3,r4,r5⟩
  ·exact⟨false,v,hr,h0.le (by omega),rfl, .inl ⟨rfl,rfl⟩⟩
  ·exact⟨true,v',r1,⟨μ',k',m',r2,by omega,by omega⟩,r5.cfg, .inr (.inl ⟨rfl,hk,i,hi,hc,r5⟩)⟩
 cases jZ with
 |conn i nc hi hn=>exact key i 0 (by omega) hi (by simp) rfl rfl (IY pk h1 hi hn)
 |bytes i bs hi hb=>exact key i bs.length hb hi (by simp) rfl rfl (M6 pk h1 hi bs (by omega) (by omega))
 |gone i hi=>exact key i 0 (by omega) hi (by simp) rfl rfl (QA pk h1 hi (by omega))
 |tick n hn=>
  rcases QC pk h1 (by omega) n with hr|⟨v',μ',m',r1,r2,r3,r4,r5,r6,r7,r8⟩
  ·exact⟨false,v,hr,h0.le (by omega),rfl, .inl ⟨rfl,rfl⟩⟩
  ·exact⟨true,v',r1,⟨μ',k,m',r2,by omega,by omega⟩,r7, .inr (.inr ⟨rfl,rfl,r5,r6,r8⟩)⟩
theorem QE {c:List Int}(hc:SP c): ∃g,Up c g/\da WX ((c,()),())=some ((g,()),())/\ir WX ((c,()),())=some (.inr (((),()),((),List.replicate 16 (0:Int),()),(v0 g).e)):=by
 obtain⟨g,h1,h2⟩:=P6 hc;have h3:=MB h2;exact⟨g,h2,h1,by simp only[ir,h1,h3,zdc,↓xo,eq_self,iD,zdg,zdd]⟩
theorem GV.ci {s:Nat}{v:V}(h:GV P s v):CI v:=by obtain⟨_,_,_,h1,_⟩:=h;exact h1.ci
end
end AM
