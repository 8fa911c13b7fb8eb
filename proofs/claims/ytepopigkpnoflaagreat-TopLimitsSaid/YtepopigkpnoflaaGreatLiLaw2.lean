/- The engine and the venue, in plain Lean: what the printed functions keep, continued. Conditions: none. -/
import Derived.Test.YtepopigkpnoflaaGreatLiLaw1
set_option linter.unusedVariables false
set_option linter.unusedSimpArgs false
set_option maxRecDepth 100000
namespace AM
open Go Go.Proofs IntKind
theorem E7 {m:MS}(h:yn m)(k:Nat)(out:List ld):jF k m out=(m,out):=by
 obtain⟨A,B,ws,last,no⟩:=m;cases k with
 |zero=>rfl
 |succ k=>
  have:ws.findIdx? (Gf last)=none:=by
   rw[zfh];exact λx hx=>h x hx
  unfold jF;rw[this]
theorem NF (o:cY){m:MS}(hh:yn m): ∃x rest,(js o m).2=x::rest/\(¬x.2.2.2.2.2.2.1=0->(js o m).1=m):=by
 unfold js;split
 ·exact⟨_,_,rfl,λ_=>by simp only[E7 hh]⟩
 ·split
  ·exact⟨_,_,rfl,λq=>absurd rfl q⟩
  ·refine⟨_,_,rfl,λq=>?_⟩
   unfold iu at q⊢;split
   ·exact congrArg Prod.fst (E7 hh _ _)
   ·rename_i h0
    rw[if_neg h0] at q;split at q
    ·exact absurd rfl q
    ·exact absurd rfl q
structure SS (v:V)(μ:Nat->MS):Prop where
 si:SI v μ
 tr:Q3 v.tr
 ph:PhI v.ph
 Yh:v.cfg.2.1.length=32
 bp: ∀n,n<32->v.bp[n]?=some (n+1)
 B: ∀n,n<32->∃k,v.B[n]?=some (k,())/\k.2.1≠0
 lp: ∀n,n<32->v.lp[n]?=some (n+1)
 L: ∀n,n<32->∃k,v.L[n]?=some (k,())
 now:0<=v.now/\v.now<=1099511627776
abbrev l0:uA:=(0,0,0,0,())
def amR (gC:cY)(p q:Int):cY:=(gC.1,gC.2.1,gC.2.2.1,gC.2.2.2.1,gC.2.2.2.2.1,p,q,min (qu gC) q,gC.2.2.2.2.2.2.2.2)
inductive Pg (v:V)(μ:Nat->MS):(Nat->MS)->List (List Int)->Prop
 |same:Pg v μ μ v.ps
 |Ph (x:Int) (μ':Nat->MS) (h: ∀i,μ' i=μ i\/μ' i=(ml x (μ i)).1):Pg v μ μ' v.ps
 |rem (i:Nat) (t d:Int) (hi:i<8):Pg v μ (qV μ i ((lV t d (μ i).1 (μ i).2.1 (μ i).2.2.1).2.2.1,(lV t d (μ i).1 (μ i).2.1 (μ i).2.2.1).2.2.2.1,(lV t d (μ i).1 (μ i).2.1 (μ i).2.2.1).2.2.2.2,(μ i).2.2.2)) v.ps
 |add (i:Nat) (o:cY) (hi:i<8) (h:wW v.op v.ps (v.cfg.2.1.getD o.1.toNat l0) o i):Pg v μ (qV μ i (js o (μ i)).1) (oS i v.ps (js o (μ i)).2)
 |K6 (i:Nat) (n:Nat) (d p q:Int) (gC:cY) (hi:i<8) (hn:n<32) (hw:oO n d (μ i).1 (μ i).2.1 (μ i).2.2.1=some gC)
   (h: ¬p=an gC\/q>aj gC->wW (Jr v.op n i (tb v.op n i-aj gC)) v.ps (v.cfg.2.1.getD n l0) (amR gC p q) i):
   Pg v μ (qV μ i (eG n d p q (μ i)).2.1) (oS i v.ps (eG n d p q (μ i)).2.2)
structure Kept (v v':V):Prop where
 eq:v'={v with ph:=v'.ph,tr:=v'.tr,op:=v'.op,ps:=v'.ps,M:=v'.M,L:=v'.L,B:=v'.B}
 tr:FG v.tr v'.tr
theorem Kept.rfl (v:V):Kept v v:=⟨Eq.refl v, .rfl⟩
def NG (v:V)(μ:Nat->MS)(o:Option ((((Unit×Int×Unit)×(xe×Int×Unit×Jl×(List Nat)×Unit×(List Nat)×(List Nat)×Unit)×((List oX)×Unit)×((List (List Int))×(List (List Int))×Unit)×List gN×(List uF)×(List tz)×(List vM)×Unit))⊕((List gN×Int×Unit)×ST))):Prop:=
 ∃v' μ',SS v' μ'/\Kept v v'/\Pg v μ μ' v'.ps/\((∃e,o=some (.inl (((),e,()),sE v' [])))\/∃out,out.length<=80000000/\o=some (.inr ((out,0,()),v'.s)))
section
variable {v:V}{μ:Nat->MS}{i n:Nat}
theorem NG.same (h:SS v μ)(e:Int){o}(ho:o=some (.inl (((),e,()),sE v []))):NG v μ o:=⟨v,μ,h, .rfl v, .same, .inl ⟨e,ho⟩⟩
theorem BM (h:SS v μ)(n d i o:Int): ∃e,c9 WX (((),n,d,i,o,()),v.s)=some ((e,()),v.s):=by
 obtain⟨⟨e,⟨⟩⟩,h1⟩:=WW h.tr h.ph n d i o;exact⟨e,by simp only[c9,V.s,h1,zdy]⟩
theorem Dr (h:SS v μ)(hn:n<32):v.cfg.2.1[n]?=some (v.cfg.2.1.getD n l0):=by
 have:=zdE (l:=v.cfg.2.1) (i:=n) (by rw[h.Yh];exact hn)
 rw[zdP,this];rfl
theorem SS.kf (h:SS v μ){op ps M}{μ':Nat->MS}(hs:SI {v with op:=op,ps:=ps,M:=M} μ'):SS {v with op:=op,ps:=ps,M:=M} μ':=⟨hs,h.tr,h.ph,h.Yh,h.bp,h.B,h.lp,h.L,h.now⟩
theorem BN (μ:Nat->MS)(i:Nat):qV μ i (μ i)=μ:=by
 funext j
 unfold qV;split
 ·rename_i e;rw[e]
 ·rfl
theorem WY (h:SS v μ)(hi:i<8)(l:uA)(o:cY): ∃e,gx WX (((),l,o,(i:Int),()),Gh v.op v.ps)=some ((e,()),Gh v.op v.ps)/\(e=0->wW v.op v.ps l o i):=KZ h.si.op.sP h.si.ps.sP hi l o h.si.op.AW h.si.ps.AW
theorem Pj (hm:E5 v μ)(ho:Lw v.op)(hx: ∀n j,n<32->j<8->j≠i->tb v.op n j=uV n (μ j))(hp:Q0 v.ps)(hi:i<8)(l:List ld)(hl:l.length<=70)(hc: ∀x∈l,pz x): ∃out mV,eW WX (((),(i:Int),l,()),v.s)=some ((out,()),{v with ps:=oS i v.ps l,op:=mV}.s)/\SI {v with ps:=oS i v.ps l,op:=mV} μ/\out.length<=80000000:=by
 obtain⟨out,mV,h1,h2,h3,h4,h5⟩:=WU hm ho hp hi l hl hc;refine⟨out,mV,h1,⟨⟨hm.mp,hm.at_⟩,h3,λn j hn hj=>?_,h2⟩,h5⟩;show tb mV n j=_
 rw[h4 n j hn];split
 ·rename_i e;rw[e]
 ·rename_i e;exact hx n j hn hj e
theorem Ug (h:SS v μ)(hn:n<32)(hi:i<8)(kd sq td id sd od pr qt sh st wh a b:Int)(tg:List Int):NG v μ (fu WX (((),(n:Int),(kd,sq,td,(i:Int),id,sd,od,pr,qt,sh,st,wh,a,b,tg,()),()),v.s)):=by
 obtain⟨e,lQ⟩:=BM h (n:Int) 1 (i:Int) (n:Int);simp only[V.s] at lQ;by_cases he:e=0
 ·subst he
  have U8:=oa h.tr (n:Int);have C1:=Dr h hn;generalize ho:((n:Int),id,(vk v.tr n).1,sd,od,pr,qt,sh,st,())=o;obtain⟨e2,Uc,Lp⟩:=WY h hi (v.cfg.2.1.getD n l0) o;by_cases he2:e2=0
  ·subst he2
   have Oh:=Lp rfl;obtain⟨bs,ss,eZ,hM,hB,hI,hH⟩:=h.si.pV.at_ i hi;obtain⟨oV,oW,H6,a1,a2,a3,a4,a5⟩:=Ny (last:=(μ i).2.2.2.1) (no:=(μ i).2.2.2.2) hB hI o;have a6:=zG o (μ i) hI;obtain⟨x,rest,b1,b2⟩:=NF o hH;change dB WX (((),o,()),CA (μ i).2.2.2.1 (μ i).2.2.2.2 bs ss (μ i).2.2.1 eZ)=some (((),()),((),(),()),kn (js o (μ i)).1.2.2.2.1 (js o (μ i)).1.2.2.2.2,(js o (μ i)).1.2.2.1,oV,oW,(js o (μ i)).2,H6,()) at a1;have m1:=Dq h.si.pV hi (m:=(js o (μ i)).1) a2 a3 a4;have hp:=h.si.pV.mp i hi;have e0:(0:Int)<=0/\(0:Int)<((((js o (μ i)).2.length:Nat)):Int):=by rw[b1];simp only[zdJ];omega
   have e1:(js o (μ i)).2[(0:Int).toNat]?=some x:=by rw[b1];rfl
   by_cases hx:x.2.2.2.2.2.2.1=0
   ·obtain⟨out,mV,c1,c2,c3⟩:=Pj m1 h.si.op (λm j hm hj lF=>by unfold qV;rw[if_neg lF];exact h.si.Lx m j hm hj) h.si.ps hi (js o (μ i)).2 a5 a6
    refine⟨{v with ps:=oS i v.ps (js o (μ i)).2,op:=mV,M:=v.M.set i (CA (js o (μ i)).1.2.2.2.1 (js o (μ i)).1.2.2.2.2 oV oW (js o (μ i)).1.2.2.1 H6)},qV μ i (js o (μ i)).1,h.kf c2,⟨rfl, .rfl⟩,Pg.add i o hi (by rw[show o.1.toNat=n by rw[<-ho];exact zdB n];exact Oh), .inr ⟨out,c3,?_⟩⟩
    simp only[V.s] at c1⊢;simp only[fu,lQ,zdy,↓xo,eq_self,iL,zdC,zdz,U8,ot (qU hn),zdA,zdB,C1,ho,Uc,ot (CC hi),hp,au,hM,a1,ot e0,e1,ot hx,c1]
   ·have hμ:=b2 hx
    have m2:qV μ i (js o (μ i)).1=μ:=by rw[hμ];exact BN μ i
    rw[m2] at m1;refine⟨{v with M:=v.M.set i (CA (js o (μ i)).1.2.2.2.1 (js o (μ i)).1.2.2.2.2 oV oW (js o (μ i)).1.2.2.1 H6)},μ,h.kf (op:=v.op) (ps:=v.ps) ⟨m1,h.si.op,h.si.Lx,h.si.ps⟩,⟨rfl, .rfl⟩, .same, .inl ⟨x.2.2.2.2.2.2.1,?_⟩⟩;simp only[V.s];simp only[fu,lQ,zdy,↓xo,eq_self,iL,zdC,zdz,U8,ot (qU hn),zdA,zdB,C1,ho,Uc,ot (CC hi),hp,au,hM,a1,ot e0,e1,bc hx,zdD]
  ·refine .same h e2 ?_
   simp only[V.s,fu,lQ,zdy,↓xo,eq_self,iL,zdC,zdz,U8,ot (qU hn),zdA,zdB,C1,ho,Uc,bc he2,zdD]
 ·refine .same h e ?_
  simp only[V.s,fu,lQ,zdy,↓xo,bc he,zdD,zdA]
end
theorem BO {t d:Int}{m:Nat}{o:cY}: ∀{A:List mL},mj t d A=some (m,o)->o∈rF A/\o.1=t
 | [],h=>by cases h
 |a::A,h=>by
  unfold mj at h;unfold rF;rw[zen];cases ho:KI t d a with
  |some x=>
   rw[ho] at h;simp only[zdF,Prod.mk.injEq] at h;obtain⟨_,rfl⟩:=h;unfold KI at ho;have hp:jW t d x=true:=List.find?_some ho;exact⟨zdQ _ (List.mem_of_find?_eq_some ho),(of_decide_eq_true hp).1⟩
  |none=>
   rw[ho] at h;simp only[zew] at h;obtain⟨⟨m',o'⟩,h1,h2⟩:=h;simp only[Prod.mk.injEq] at h2;obtain⟨_,rfl⟩:=h2;obtain⟨i1,i2⟩:=BO h1;exact⟨zdR _ i1,i2⟩
theorem E8 {t d:Int}{A B:List mL}{ws:List cY}{o:cY}(h:oO t d A B ws=some o):o∈s9 A B ws/\o.1=t:=by
 unfold oO uo at h;unfold s9;cases hA:mj t d A with
 |some x=>
  rw[hA] at h;simp only[zdF] at h;subst h;obtain⟨i1,i2⟩:=BO (o:=x.2) hA;exact⟨zdQ _ i1,i2⟩
 |none=>
  rw[hA] at h;cases hB:mj t d B with
  |some x=>
   rw[hB] at h;simp only[zdF] at h;subst h;obtain⟨i1,i2⟩:=BO (o:=x.2) hB;exact⟨zdR _ (zdQ _ i1),i2⟩
  |none=>
   rw[hB] at h;cases hw:ws.findIdx? (jW t d) with
   |none=>rw[hw] at h;cases h
   |some n=>
    rw[hw] at h;obtain⟨hn,hp,_⟩:=List.findIdx?_eq_some_iff_getElem.1 hw;have hg:ws.getD n o0=ws[n]:=by rw[zdP,zdE hn];rfl
    simp only[hg,zdF] at h;subst h;exact⟨zdR _ (zdR _ (zeO hn)),(of_decide_eq_true hp).1⟩
theorem Uh {t:Int}{l:List cY}(h: ∀o∈l,1<=aj o){o:cY}(ho:o∈l)(ht:o.1=t):aj o<=rM t l:=by
 unfold rM;induction l with
 |nil=>cases ho
 |cons x l ih=>
  have nn:0<=gU (l.map λo=>if o.1=t then aj o else 0):=by
   clear ih ho;induction l with
   |nil=>exact zeF _
   |cons y l UU=>
    have:=UU λo ho=>by
     rcases List.mem_cons.1 ho with rfl|ho
     ·exact h _ (zdM ..)
     ·exact h _ (zdL _ (zdL _ ho))
    have hy:=h y (zdL _ (zdM ..));simp only[zex,gU,zev] at this⊢;split<;>omega
  have hx:=h x (zdM ..);simp only[zex,gU,zev] at*;rcases List.mem_cons.1 ho with rfl|ho
  ·rw[if_pos ht];omega
  ·have:=ih (λo ho=>h o (zdL _ ho)) ho
   split<;>omega
theorem NH {t d p q:Int}{m:MS}(h: ¬(eG t d p q m).1=0):(eG t d p q m).2.1=m:=by
 unfold eG at h⊢;split
 ·rfl
 ·rename_i gC hw
  rw[hw] at h;simp only at h⊢;split
  ·rfl
  ·rename_i h1
   rw[if_neg h1] at h;split at h
   ·exact absurd rfl h
   ·exact absurd rfl h
section
variable {v:V}{μ:Nat->MS}{i n:Nat}
theorem E9 (h:SS v μ)(hn:n<32)(hi:i<8){d p q:Int}{gC:cY}(hw:oO n d (μ i).1 (μ i).2.1 (μ i).2.2.1=some gC){Ub:List (List Int)}(ho:Lw Ub)(hx: ∀m j,m<32->j<8->tb Ub m j=tb v.op m j)
  (hr: ¬p=an gC\/q>aj gC->wW (Jr v.op n i (tb v.op n i-aj gC)) v.ps (v.cfg.2.1.getD n l0) (amR gC p q) i) {bs ss:List Nat} {st:List gz} (hM:v.M[i]?=some (CA (μ i).2.2.2.1 (μ i).2.2.2.2 bs ss (μ i).2.2.1 st)) (hB:Bk bs ss st (μ i).1 (μ i).2.1):
  ∃oV oW eZ,fV WX (((),(n:Int),d,p,q,()),CA (μ i).2.2.2.1 (μ i).2.2.2.2 bs ss (μ i).2.2.1 st)=some (((),(eG n d p q (μ i)).1,()),T4 (eG n d p q (μ i)).2.1.2.2.2.1 (eG n d p q (μ i)).2.1.2.2.2.2 oV oW (eG n d p q (μ i)).2.1.2.2.1 (eG n d p q (μ i)).2.2 eZ)/\
  ((¬(eG n d p q (μ i)).1=0/\SS {v with op:=Ub,M:=v.M.set i (CA (eG n d p q (μ i)).2.1.2.2.2.1 (eG n d p q (μ i)).2.1.2.2.2.2 oV oW (eG n d p q (μ i)).2.1.2.2.1 eZ)} μ)\/
   ((eG n d p q (μ i)).1=0/\∃out mV,eW WX (((),(i:Int),(eG n d p q (μ i)).2.2,()),{v with op:=Ub,M:=v.M.set i (CA (eG n d p q (μ i)).2.1.2.2.2.1 (eG n d p q (μ i)).2.1.2.2.2.2 oV oW (eG n d p q (μ i)).2.1.2.2.1 eZ)}.s)=some ((out,()),{v with ps:=oS i v.ps (eG n d p q (μ i)).2.2,op:=mV,M:=v.M.set i (CA (eG n d p q (μ i)).2.1.2.2.2.1 (eG n d p q (μ i)).2.1.2.2.2.2 oV oW (eG n d p q (μ i)).2.1.2.2.1 eZ)}.s)/\
    SS {v with ps:=oS i v.ps (eG n d p q (μ i)).2.2,op:=mV,M:=v.M.set i (CA (eG n d p q (μ i)).2.1.2.2.2.1 (eG n d p q (μ i)).2.1.2.2.2.2 oV oW (eG n d p q (μ i)).2.1.2.2.1 eZ)} (qV μ i (eG n d p q (μ i)).2.1)/\out.length<=80000000)):=by
 obtain⟨_,_,_,_,_,hI,hH⟩:=h.si.pV.at_ i hi;obtain⟨oV,oW,eZ,a1,a2,a3,a4,a5,a6⟩:=KU (last:=(μ i).2.2.2.1) (no:=(μ i).2.2.2.2) hB hI hH (n:Int) d p q;change fV WX (((),(n:Int),d,p,q,()),CA (μ i).2.2.2.1 (μ i).2.2.2.2 bs ss (μ i).2.2.1 st)=some (((),(eG n d p q (μ i)).1,()),T4 (eG n d p q (μ i)).2.1.2.2.2.1 (eG n d p q (μ i)).2.1.2.2.2.2 oV oW (eG n d p q (μ i)).2.1.2.2.1 (eG n d p q (μ i)).2.2 eZ) at a1;have m1:=Dq h.si.pV hi (m:=(eG n d p q (μ i)).2.1) a2 a3 a4;refine⟨oV,oW,eZ,a1,?_⟩;by_cases he:(eG n d p q (μ i)).1=0
 ·refine .inr ⟨he,?_⟩
  obtain⟨out,mV,c1,c2,c3⟩:=Pj (v:={v with op:=Ub,M:=v.M.set i (CA (eG n d p q (μ i)).2.1.2.2.2.1 (eG n d p q (μ i)).2.1.2.2.2.2 oV oW (eG n d p q (μ i)).2.1.2.2.1 eZ)}) (i:=i) ⟨m1.mp,m1.at_⟩ ho (λm j hm hj lF=>by unfold qV;rw[if_neg lF];exact(hx m j hm hj).trans (h.si.Lx m j hm hj)) h.si.ps hi (eG n d p q (μ i)).2.2 a6 a5
  exact⟨out,mV,c1,h.kf c2,c3⟩
 ·refine .inl ⟨he,?_⟩
  have m2:qV μ i (eG n d p q (μ i)).2.1=μ:=by rw[NH he];exact BN μ i
  rw[m2] at m1;exact h.kf (ps:=v.ps) ⟨⟨m1.mp,m1.at_⟩,ho,λm j hm hj=>(hx m j hm hj).trans (h.si.Lx m j hm hj),h.si.ps⟩
theorem Ui (h:SS v μ)(hn:n<32)(hi:i<8)(kd sq td d sd od p q sh st wh a b:Int)(tg:List Int):NG v μ (cr WX (((),(n:Int),(kd,sq,td,(i:Int),d,sd,od,p,q,sh,st,wh,a,b,tg,()),()),v.s)):=by
 obtain⟨e,lQ⟩:=BM h (n:Int) 1 (i:Int) (n:Int);simp only[V.s] at lQ;by_cases he:e=0
 ·subst he
  obtain⟨bs,ss,eZ,hM,hB,hI,hH⟩:=h.si.pV.at_ i hi;have hp:=h.si.pV.mp i hi;have hf:=I2 (last:=(μ i).2.2.2.1) (no:=(μ i).2.2.2.2) hB hI (n:Int) d;have C1:=Dr h hn;cases hw:oO (n:Int) d (μ i).1 (μ i).2.1 (μ i).2.2.1 with
  |none=>
   rw[hw] at hf;simp only[Option.getD_none,zeR] at hf;refine .same h 6 ?_;simp only[V.s,cr,lQ,zdy,↓xo,eq_self,iL,zdC,zdz,ot (CC hi),zdA,zdB,hp,au,hM,hf,zdD,aJ hM]
  |some gC=>
   rw[hw] at hf;simp only[zeV,zfn] at hf;obtain⟨w1,w2⟩:=E8 hw;have wq:=uq hI _ w1;have wo:aj gC<=uV (n:Int) (μ i):=Uh (λo ho=>(uq hI o ho).1) w1 w2;have hx:=h.si.Lx n i hn hi;have hb:=h.si.op.AW n i hn hi;by_cases hc: ¬p=an gC\/q>aj gC
   ·
    have s1:=E4 (ps:=v.ps) h.si.op.sP hn hi (q:= -aj gC) (by omega) hb
    have v1:WR (tb v.op n i+ -aj gC) 0 1099511627776=true:=decide_eq_true (by omega)
    unfold FF at s1;rw[v1,if_pos rfl] at s1;have e1:tb v.op n i+ -aj gC=tb v.op n i-aj gC:=by omega
    rw[e1] at s1;have r1:=yo h.si.op.sP n i (tb v.op n i-aj gC) hn;have b1:Lw (Jr v.op n i (tb v.op n i-aj gC)):=⟨r1,λm j hm hj=>by
     rw[ur h.si.op.sP hn hi];split
     ·omega
     ·exact h.si.op.AW m j hm hj⟩
    obtain⟨e2,k1,k2⟩:=KZ r1 h.si.ps.sP hi (v.cfg.2.1.getD n l0) (amR gC p q) b1.AW h.si.ps.AW;have t1:tb (Jr v.op n i (tb v.op n i-aj gC)) n i=tb v.op n i-aj gC:=by rw[ur h.si.op.sP hn hi,if_pos ⟨rfl,rfl⟩]
    have s2:=E4 (ps:=v.ps) r1 hn hi (q:=aj gC) (by omega) (b1.AW n i hn hi)
    rw[t1] at s2;have v2:WR (tb v.op n i-aj gC+aj gC) 0 1099511627776=true:=decide_eq_true (by omega)
    unfold FF at s2;rw[v2,if_pos rfl] at s2;have e3:tb v.op n i-aj gC+aj gC=tb v.op n i:=by omega
    rw[e3] at s2;generalize zb4:Jr (Jr v.op n i (tb v.op n i-aj gC)) n i (tb v.op n i)=Ub at s2;have x2: ∀m j,tb Ub m j=tb v.op m j:=λm j=>by
     rw[<-zb4,ur r1 hn hi];split
     ·rename_i e;rw[e.1,e.2]
     ·rename_i e;rw[ur h.si.op.sP hn hi,if_neg e]
    have o2:Lw Ub:=⟨by rw[<-zb4];exact yo r1 n i _ hn,λm j hm hj=>by rw[x2];exact h.si.op.AW m j hm hj⟩
    have e0:i64.wrap (0-gC.2.2.2.2.2.2.1)= -aj gC:=by
     show i64.wrap (0-aj gC)=_
     rw[nO (by omega) (by omega)];omega
    unfold amR at k1;change gx WX (((),_,(gC.1,gC.2.1,gC.2.2.1,gC.2.2.2.1,gC.2.2.2.2.1,p,q,min gC.2.2.2.2.2.2.2.1 q,gC.2.2.2.2.2.2.2.2),(i:Int),()),_)=_ at k1;by_cases he2:e2=0
    ·subst he2
     obtain⟨oV,oW,H6,a1,a2⟩:=E9 h hn hi hw o2 (λm j _ _=>x2 m j) (λ_=>k2 rfl) hM hB;rcases a2 with⟨a2,a3⟩|⟨a2,out,mV,a3,a4,a5⟩
     ·refine⟨_,μ,a3,⟨rfl, .rfl⟩, .same, .inl ⟨(eG n d p q (μ i)).1,?_⟩⟩
      simp only[V.s];by_cases IP:p=an gC
      ·simp only[cr,lQ,zdy,↓xo,xw,vP,eq_self,iL,zdC,zdz,ot (CC hi),ot (qU hn),zdA,zdB,hp,au,hM,hf,aJ hM,ot (show p=gC.2.2.2.2.2.1 from IP),ot (show q>gC.2.2.2.2.2.2.1 by have:=hc.resolve_left (λq=>q IP);exact this),e0,s1,C1,k1,s2,a1,bc a2,zdD]
      ·simp only[cr,lQ,zdy,↓xo,xw,vP,eq_self,iL,zdC,zdz,ot (CC hi),ot (qU hn),zdA,zdB,hp,au,hM,hf,aJ hM,bc (show¬p=gC.2.2.2.2.2.1 from IP),e0,s1,C1,k1,s2,a1,bc a2,zdD]
     ·refine⟨_,_,a4,⟨rfl, .rfl⟩,Pg.K6 i n d p q gC hi hn hw (λ_=>k2 rfl), .inr ⟨out,a5,?_⟩⟩
      simp only[V.s] at a3⊢;by_cases IP:p=an gC
      ·simp only[cr,lQ,zdy,↓xo,xw,vP,eq_self,iL,zdC,zdz,ot (CC hi),ot (qU hn),zdA,zdB,hp,au,hM,hf,aJ hM,ot (show p=gC.2.2.2.2.2.1 from IP),ot (show q>gC.2.2.2.2.2.2.1 by have:=hc.resolve_left (λq=>q IP);exact this),e0,s1,C1,k1,s2,a1,ot a2,a3]
      ·simp only[cr,lQ,zdy,↓xo,xw,vP,eq_self,iL,zdC,zdD,zdz,ot (CC hi),ot (qU hn),zdA,zdB,hp,au,hM,hf,aJ hM,bc (show¬p=gC.2.2.2.2.2.1 from IP),e0,s1,C1,k1,s2,a1,ot a2,a3]
    ·refine⟨{v with op:=Ub},μ,h.kf (ps:=v.ps) (M:=v.M) ⟨⟨h.si.pV.mp,h.si.pV.at_⟩,o2,λm j hm hj=>(x2 m j).trans (h.si.Lx m j hm hj),h.si.ps⟩,⟨rfl, .rfl⟩, .same, .inl ⟨e2,?_⟩⟩
     by_cases IP:p=an gC
     ·simp only[V.s,cr,lQ,zdy,↓xo,xw,vP,eq_self,iL,zdC,zdz,ot (CC hi),ot (qU hn),zdA,zdB,hp,au,hM,hf,aJ hM,ot (show p=gC.2.2.2.2.2.1 from IP),ot (show q>gC.2.2.2.2.2.2.1 by have:=hc.resolve_left (λq=>q IP);exact this),e0,s1,C1,k1,s2,bc he2,zdD]
     ·simp only[V.s,cr,lQ,zdy,↓xo,xw,vP,eq_self,iL,zdC,zdz,ot (CC hi),ot (qU hn),zdA,zdB,hp,au,hM,hf,aJ hM,bc (show¬p=gC.2.2.2.2.2.1 from IP),e0,s1,C1,k1,s2,bc he2,zdD]
   ·have IP:p=an gC:=by
     by_cases q:p=an gC
     ·exact q
     ·exact absurd (.inl q) hc
    have hc2: ¬q>aj gC:=λq=>hc (.inr q);obtain⟨oV,oW,H6,a1,a2⟩:=E9 h hn hi hw h.si.op (λm j _ _=>rfl) (λq=>absurd q hc) hM hB;rcases a2 with⟨a2,a3⟩|⟨a2,out,mV,a3,a4,a5⟩
    ·refine⟨_,μ,a3,⟨rfl, .rfl⟩, .same, .inl ⟨(eG n d p q (μ i)).1,?_⟩⟩
     simp only[V.s];simp only[cr,lQ,zdy,↓xo,xw,vP,eq_self,iL,zdC,zdz,ot (CC hi),ot (qU hn),zdA,zdB,hp,au,hM,hf,aJ hM,ot (show p=gC.2.2.2.2.2.1 from IP),bc (show¬q>gC.2.2.2.2.2.2.1 from hc2),a1,bc a2,zdD]
    ·refine⟨_,_,a4,⟨rfl, .rfl⟩,Pg.K6 i n d p q gC hi hn hw (λq=>absurd q hc), .inr ⟨out,a5,?_⟩⟩
     simp only[V.s] at a3⊢;simp only[cr,lQ,zdy,↓xo,xw,vP,eq_self,iL,zdC,zdz,ot (CC hi),ot (qU hn),zdA,zdB,hp,au,hM,hf,aJ hM,ot (show p=gC.2.2.2.2.2.1 from IP),bc (show¬q>gC.2.2.2.2.2.2.1 from hc2),a1,ot a2,a3]
 ·refine .same h e ?_
  simp only[V.s,cr,lQ,zdy,↓xo,bc he,zdD,zdA]
end
def Nz {β:Type}(y:β)(o:Option ((Int×Unit)×β)):Prop:= ∃x:Int,x≠0/\o=some ((x,()),y)
theorem Nz.bif {β:Type}{y:β}{c:Bool}{a b:Option ((Int×Unit)×β)}(h1:Nz y a)(h2:Nz y b):Nz y (bif c then a else b):=by cases c<;>assumption
theorem Nz.mk {β:Type}{x:Int}(h:x≠0)(y:β):Nz y (some ((x,()),y)):=⟨x,h,rfl⟩
section
variable {tr:List oX}
theorem Q5 (h:Q3 tr){ph:Jl}(hp:PhI ph)(n i o:Int)(ho:lC tr o=false):Nz (Rw tr) (lz WX (((),ph,n,3,i,o,()),Rw tr)):=by
 have hx:=Hh h n;obtain⟨b,hb⟩:=ND hp.b hx;have e1: ¬(3:Int)=2:=by omega
 have e2: ¬(3:Int)=4:=by omega
 have e3: ¬(3:Int)=1:=by omega
 simp only[lz,oI h,oa h,↓xo,zdy,ot (I6 hx),zdA,hb,bc e1,bc e2,bc e3,zdD,zdz,ho,eq_self,iL];repeat' first|exact Nz.mk (by omega) _|apply Nz.bif
end
section
variable {v:V}{μ:Nat->MS}{i n:Nat}
theorem Pg.move {w:V}(h1:w.op=v.op)(h2:w.ps=v.ps)(h3:w.cfg=v.cfg){μ':Nat->MS}{Xs:List (List Int)}(h:Pg w μ μ' Xs):Pg v μ μ' Xs:=by
 cases h with
 |same=>rw[h2];exact .same
 |Ph x _ h=>rw[h2];exact .Ph x _ h
 |rem i t d hi=>rw[h2];exact .rem i t d hi
 |add i o hi h=>rw[h2];exact .add i o hi (by rw[<-h1,<-h2,<-h3];exact h)
 |K6 i n d p q gC hi hn hw h=>rw[h2];exact .K6 i n d p q gC hi hn hw (λq=>by rw[<-h1,<-h2,<-h3];exact h q)
theorem NG.bif {c:Bool}{a b}(h1:NG v μ a)(h2:NG v μ b):NG v μ (bif c then a else b):=by cases c<;>assumption
theorem SS.phs (h:SS v μ){ph:Jl}(hp:PhI ph):SS {v with ph:=ph} μ:=⟨⟨⟨h.si.pV.mp,h.si.pV.at_⟩,h.si.op,h.si.Lx,h.si.ps⟩,h.tr,hp,h.Yh,h.bp,h.B,h.lp,h.L,h.now⟩
theorem SS.trs (h:SS v μ){tr:List oX}(ht:FG v.tr tr):SS {v with tr:=tr} μ:=⟨⟨⟨h.si.pV.mp,h.si.pV.at_⟩,h.si.op,h.si.Lx,h.si.ps⟩,ht.inv h.tr,h.ph,h.Yh,h.bp,h.B,h.lp,h.L,h.now⟩
theorem SS.Uj (h:SS v μ)(n:Nat)(k:uA):SS {v with L:=v.L.set n (k,())} μ:=⟨⟨⟨h.si.pV.mp,h.si.pV.at_⟩,h.si.op,h.si.Lx,h.si.ps⟩,h.tr,h.ph,h.Yh,h.bp,h.B,h.lp,λm hm=>by
 obtain⟨k',hk⟩:=h.L m hm;by_cases e:m=n
 ·subst e;exact⟨k,kI hk⟩
 ·exact⟨k',by show(v.L.set n _)[m]?=_;rw[kF e];exact hk⟩,h.now⟩
theorem SS.zb5 (h:SS v μ)(n:Nat)(k:uA)(hk:k.2.1≠0):SS {v with B:=v.B.set n (k,())} μ:=⟨⟨⟨h.si.pV.mp,h.si.pV.at_⟩,h.si.op,h.si.Lx,h.si.ps⟩,h.tr,h.ph,h.Yh,h.bp,λm hm=>by
 obtain⟨k',ti,h'⟩:=h.B m hm;by_cases e:m=n
 ·subst e;exact⟨k,kI ti,hk⟩
 ·exact⟨k',by show(v.B.set n _)[m]?=_;rw[kF e];exact ti,h'⟩,h.lp,h.L,h.now⟩
theorem BP (h:SS v μ)(x a:Int)(ha:0<=a/\a<=8): ∃out mV M' μ',cZ WX (((),a,x,()),v.s)=some ((out,()),{v with op:=mV,M:=M'}.s)/\SS {v with op:=mV,M:=M'} μ'/\out.length<=512/\Pg v μ μ' v.ps:=by
 obtain⟨out,mV,M',μ',h1,h2,h3,h4⟩:=K4 h.si x a ha;exact⟨out,mV,M',μ',h1,h.kf (ps:=v.ps) h2,h3, .Ph x μ' h4⟩
theorem WZ (h:SS v μ)(f:Int): ∃s,gk WX (((),f,()),v.s)=some ((s,()),v.s):=by
 have key:=rG (b:=di WX) (λk l=> ∃n:Nat,n<=32/\k=32-n/\l=(((),f,(n:Int),()),v.s)) (λr=>(∃s:Int,r= .inl ((s,()),v.s))\/r= .inr ((),v.s)) (λk l hl=>by
  obtain⟨n,hn,rfl,rfl⟩:=hl;by_cases hc:n<32
  ·have e1:=lD hc (by omega)
   have h1:=oI h.tr (n:Int);have h2:=oa h.tr (n:Int);obtain⟨⟨s,⟨⟩⟩,h3⟩:=Pf h.tr (n:Int) 3;cases ht:lC v.tr (n:Int) with
   |true=>
    rw[ht] at h1;by_cases hf:(vk v.tr (n:Int)).1=f
    ·exact .inr ⟨.inl ((s,()),v.s),by simp only[di,V.s,↓xo,oT ((n:Int)<32),zdA,h1,zdy,h2,ot hf,h3], .inl ⟨s,rfl⟩⟩
    ·exact .inl ⟨(((),f,((n+1:Nat):Int),()),v.s),by simp only[di,V.s,↓xo,xw,oT ((n:Int)<32),zdA,zdz,h1,zdy,h2,bc hf,e1],32-(n+1),by omega,n+1,by omega,rfl,rfl⟩
   |false=>
    rw[ht] at h1;exact .inl ⟨(((),f,((n+1:Nat):Int),()),v.s),by simp only[di,V.s,↓xo,xw,oT ((n:Int)<32),zdA,zdz,h1,zdy,e1],32-(n+1),by omega,n+1,by omega,rfl,rfl⟩
  ·exact .inr ⟨.inr ((),v.s),by simp only[di,↓xo,oF ((n:Int)<32),zdz], .inr rfl⟩)
 obtain⟨r,h1,h2⟩:=key 32 (((),f,0,()),v.s) ⟨0,by omega,by omega,rfl⟩
 rcases h2 with⟨s,rfl⟩|rfl
 ·exact⟨s,by simp only[gk,↓xl,h1,zdy]⟩
 ·exact⟨0,by simp only[gk,↓xl,h1,zdy]⟩
theorem Q6 (h:SS v μ)(n:Int)(kd sq td it id sd od p q sh st wh a b:Int)(tg:List Int):NG v μ (ek WX (((),n,(kd,sq,td,it,id,sd,od,p,q,sh,st,wh,a,b,tg,()),()),v.s)):=by
 obtain⟨e,lQ⟩:=BM h n 3 0 a;have hth:e=0->lC v.tr a=true:=λhe=>by
  cases ht:lC v.tr a with
  |true=>rfl
  |false=>
   obtain⟨x,hx,hy⟩:=Q5 h.tr h.ph n 0 a ht;simp only[c9,V.s,hy,zdy,zdF,Prod.mk.injEq] at lQ;exact absurd (lQ.1.1.trans he) hx
 simp only[V.s] at lQ;by_cases he:e=0
 ·have ha:=qO (hth he)
  subst he;have ho:=Pe h.tr a true;have hf:=Pe h.tr a false;by_cases c1:wh=1
  ·obtain⟨out,mV,M',μ',s1,s2,s3,s4⟩:=BP (h.trs (I5 v.tr a true)) (WX.shl .u64 1 (IntKind.u64.wrap a)) 8 ⟨by omega,by omega⟩
   refine⟨_,μ',s2,⟨rfl,I5 v.tr a true⟩,?_, .inr ⟨out,by omega,?_⟩⟩
   ·exact s4.move (by rfl) (by rfl) (by rfl)
   ·simp only[V.s] at s1⊢
    simp only[ek,lQ,zdy,↓xo,xw,eq_self,iL,zdC,zdz,ot c1,zdA,ho,bc (ta a),s1]
  by_cases c2:wh=2
  ·refine⟨_,μ,h.trs (I5 v.tr a false),⟨rfl,I5 v.tr a false⟩, .same, .inl ⟨0,?_⟩⟩
   simp only[V.s,ek,lQ,zdy,↓xo,xw,eq_self,iL,zdC,zdz,bc c1,ot c2,zdA,hf]
  by_cases c3:wh=3
  ·have l1:=h.lp a.toNat (by omega)
   obtain⟨k,l2⟩:=h.L a.toNat (by omega)
   refine⟨_,μ,h.Uj a.toNat (k.1,k.2.1,0,0,()),⟨rfl, .rfl⟩, .same, .inl ⟨0,?_⟩⟩;simp only[V.s,ek,lQ,zdy,↓xo,xw,eq_self,iL,zdC,zdz,bc c1,bc c2,ot c3,zdA,ot (CD ha),l1,au,l2,gr]
  ·refine .same h 0 ?_
   simp only[V.s,ek,lQ,zdy,↓xo,xw,eq_self,iL,zdC,zdz,bc c1,bc c2,bc c3]
 ·refine .same h e ?_
  simp only[V.s,ek,lQ,zdy,↓xo,bc he,zdD,zdA]
end
section
variable {v:V}{μ:Nat->MS}
theorem NG.ph (h:SS v μ){p1 p2:List Bool}{p3:List Int}(h1:p1.length=8)(h2:p2.length=8)(h3:p3.length=8){o}(ho:o=some (.inl (((),0,()),sE {v with ph:=(p1,p2,p3,())} []))):NG v μ o:=⟨_,μ,h.phs (ph:=(p1,p2,p3,())) ⟨h1,h2,h3⟩,⟨rfl, .rfl⟩, .same, .inl ⟨0,ho⟩⟩
theorem Uk (h:SS v μ)(n:Int)(kd sq td it id sd od p q sh st wh a b:Int)(tg:List Int)(hw:4<=wh/\wh<=9)(ha:0<=a)(hb:0<=b):NG v μ (cj WX (((),n,(kd,sq,td,it,id,sd,od,p,q,sh,st,wh,a,b,tg,()),()),v.s)):=by
 obtain⟨e,lQ⟩:=BM h n 4 0 0;simp only[V.s] at lQ;by_cases he:e=0
 ·subst he
  by_cases a8:a>=8
  ·obtain Vi:wh=4\/wh=5\/wh=6\/wh=7\/wh=8\/wh=9:=by omega
   rcases Vi with rfl|rfl|rfl|rfl|rfl|rfl<;>
   (refine .same h 1 ?_
    simp only[V.s,cj,lQ,zdy,↓xo,eq_self,Int.reduceEq,iL,nq,zdC,zdz,zdA,ot a8])
  ·have a7:0<=a/\a<=7:=by omega
   have hp:=h.ph;obtain⟨x1,g1⟩:=ND hp.a a7;obtain⟨x2,g2⟩:=ND hp.b a7;obtain⟨x3,g3⟩:=ND hp.c a7;by_cases w4:wh=4
   ·subst w4
    refine .ph h (p1:=v.ph.1.set a.toNat true) (p2:=v.ph.2.1) (p3:=v.ph.2.2.1) (by rw[zec];exact hp.a) hp.b hp.c ?_
    simp only[V.s,cj,lQ,zdy,↓xo,eq_self,Int.reduceEq,iL,nq,zdC,zdz,zdA,bc a8,ot (I6 a7),g1]
   by_cases w5:wh=5
   ·subst w5
    refine .ph h (p1:=v.ph.1.set a.toNat false) (p2:=v.ph.2.1) (p3:=v.ph.2.2.1) (by rw[zec];exact hp.a) hp.b hp.c ?_
    simp only[V.s,cj,lQ,zdy,↓xo,eq_self,Int.reduceEq,iL,nq,zdC,zdz,zdA,bc a8,ot (I6 a7),g1]
   by_cases w6:wh=6
   ·subst w6
    have h1:=h.phs (ph:=(v.ph.1,v.ph.2.1.set a.toNat true,v.ph.2.2.1,())) ⟨hp.a,by rw[zec];exact hp.b,hp.c⟩
    obtain⟨s,hf⟩:=WZ h1 a;obtain⟨out,mV,M',μ',s1,s2,s3,s4⟩:=BP h1 s 8 ⟨by omega,by omega⟩
    refine⟨_,μ',s2,⟨rfl, .rfl⟩,s4.move (by rfl) (by rfl) (by rfl), .inr ⟨out,by omega,?_⟩⟩
    simp only[V.s] at s1 hf⊢;simp only[cj,lQ,zdy,↓xo,eq_self,Int.reduceEq,iL,nq,zdC,zdz,zdA,bc a8,ot (I6 a7),g2,hf,s1]
   by_cases w7:wh=7
   ·subst w7
    refine .ph h (p1:=v.ph.1) (p2:=v.ph.2.1.set a.toNat false) (p3:=v.ph.2.2.1) hp.a (by rw[zec];exact hp.b) hp.c ?_
    simp only[V.s,cj,lQ,zdy,↓xo,eq_self,Int.reduceEq,iL,nq,zdC,zdz,zdA,bc a8,ot (I6 a7),g2]
   by_cases b8:b>=8
   ·refine .same h 1 ?_
    obtain Vi:wh=8\/wh=9:=by omega
    rcases Vi with rfl|rfl<;>
    simp only[V.s,cj,lQ,zdy,↓xo,eq_self,Int.reduceEq,iL,nq,zdC,zdz,zdA,bc a8,ot b8]
   by_cases ba:b=a
   ·refine .same h 1 ?_
    obtain Vi:wh=8\/wh=9:=by omega
    rcases Vi with rfl|rfl<;>
    simp only[V.s,cj,lQ,zdy,↓xo,eq_self,Int.reduceEq,iL,nq,zdC,zdz,zdA,bc a8,bc b8,ot ba]
   by_cases w8:wh=8
   ·subst w8
    refine .ph h (p1:=v.ph.1) (p2:=v.ph.2.1) (p3:=v.ph.2.2.1.set a.toNat (WX.AU .i64 x3 (WX.shl .i64 1 (IntKind.u64.wrap b)))) hp.a hp.b (by rw[zec];exact hp.c) ?_
    simp only[V.s,cj,lQ,zdy,↓xo,xw,eq_self,Int.reduceEq,iL,nq,zdC,zdz,zdA,bc a8,bc b8,bc ba,ot (I6 a7),g3,bc (ta b)]
   ·obtain rfl:wh=9:=by omega
    refine .ph h (p1:=v.ph.1) (p2:=v.ph.2.1) (p3:=v.ph.2.2.1.set a.toNat (WX.Dv .i64 x3 (WX.shl .i64 1 (IntKind.u64.wrap b)))) hp.a hp.b (by rw[zec];exact hp.c) ?_
    simp only[V.s,cj,lQ,zdy,↓xo,xw,eq_self,Int.reduceEq,iL,nq,zdC,zdz,zdA,bc a8,bc b8,bc ba,ot (I6 a7),g3,bc (ta b)]
 ·refine .same h e ?_
  simp only[V.s,cj,lQ,zdy,↓xo,bc he,zdD,zdA]
end
structure K7 (c:mU):Prop where
 kind:c.1=3\/c.1=4\/c.1=5\/c.1=6\/c.1=9
 inst:0<=c.2.2.2.1/\c.2.2.2.1<=8/\(c.1≠6->c.2.2.2.1<=7)
 what:c.1=9->1<=c.2.2.2.2.2.2.2.2.2.2.2.1/\c.2.2.2.2.2.2.2.2.2.2.2.1<=9
 a:0<=c.2.2.2.2.2.2.2.2.2.2.2.2.1
 b:0<=c.2.2.2.2.2.2.2.2.2.2.2.2.2.1
theorem NI {t d:Int}{A B:List mL}{ws:List cY}(h:(lV t d A B ws).2.1=false):(lV t d A B ws).2.2=(A,B,ws):=by
 unfold lV at h⊢;split
 ·rename_i h1;rw[if_pos h1] at h;cases h
 ·rename_i h1
  rw[if_neg h1] at h;have e:(uH t d A B).2.2=(A,B):=by
   unfold uH at h1⊢;cases hA:mj t d A with
   |some x=>rw[hA] at h1;exact absurd rfl h1
   |none=>
    rw[hA] at h1;cases hB:mj t d B with
    |some x=>rw[hB] at h1;exact absurd rfl h1
    |none=>rfl
  split
  ·rename_i n hn;rw[hn] at h;cases h
  ·rw[e]
section
variable {v:V}{μ:Nat->MS}{i n:Nat}
theorem Ul (h:SS v μ)(n:Int)(set:Int)(c:mU):(∃X,ag (cD WX) (((),n,(),set,0,()),(v.cfg,v.now,(),v.ph,v.mp,(),v.bp,v.lp,()),(v.tr,()),(v.op,v.ps,()),c,v.M,v.L,v.B,())=some (.inl (((),X,()),(v.cfg,v.now,(),v.ph,v.mp,(),v.bp,v.lp,()),(v.tr,()),(v.op,v.ps,()),c,[],v.M,v.L,v.B,())))\/ag (cD WX) (((),n,(),set,0,()),(v.cfg,v.now,(),v.ph,v.mp,(),v.bp,v.lp,()),(v.tr,()),(v.op,v.ps,()),c,v.M,v.L,v.B,())=some (.inr (((),(),set,()),(v.cfg,v.now,(),v.ph,v.mp,(),v.bp,v.lp,()),(v.tr,()),(v.op,v.ps,()),c,v.M,v.L,v.B,())):=by
 have key:=rG (b:=cD WX) (λk l=> ∃m:Nat,m<=32/\k=32-m/\l=(((),n,(),set,(m:Int),()),(v.cfg,v.now,(),v.ph,v.mp,(),v.bp,v.lp,()),(v.tr,()),(v.op,v.ps,()),c,v.M,v.L,v.B,())) (λr=>(∃X,r= .inl (((),X,()),(v.cfg,v.now,(),v.ph,v.mp,(),v.bp,v.lp,()),(v.tr,()),(v.op,v.ps,()),c,[],v.M,v.L,v.B,()))\/r= .inr (((),(),set,()),(v.cfg,v.now,(),v.ph,v.mp,(),v.bp,v.lp,()),(v.tr,()),(v.op,v.ps,()),c,v.M,v.L,v.B,())) (λk l hl=>by
  obtain⟨m,hm,rfl,rfl⟩:=hl;by_cases hc:m<32
  ·have e1:=lD hc (by omega)
   obtain⟨e,lQ⟩:=BM h n 2 0 (m:Int);simp only[V.s] at lQ;by_cases hb:WX.sT .u64 (WX.shr .u64 set (IntKind.u64.wrap (m:Int))) 1=1
   ·by_cases he:e=0
    ·exact .inl ⟨_,by simp only[cD,↓xo,xw,oT ((m:Int)<32),zdA,bc (ta (m:Int)),zdz,ot hb,lQ,zdy,ot he,zdC,e1],32-(m+1),by omega,m+1,by omega,rfl,rfl⟩
    ·exact .inr ⟨_,by simp only[cD,↓xo,xw,oT ((m:Int)<32),zdA,bc (ta (m:Int)),zdz,ot hb,lQ,zdy,bc he,zdD], .inl ⟨7,rfl⟩⟩
   ·exact .inl ⟨_,by simp only[cD,↓xo,xw,oT ((m:Int)<32),zdA,bc (ta (m:Int)),zdz,bc hb,e1],32-(m+1),by omega,m+1,by omega,rfl,rfl⟩
  ·obtain rfl:m=32:=by omega
   exact .inr ⟨_,by simp only[cD,↓xo,oF (((32:Nat):Int)<32),zdz], .inr rfl⟩)
 obtain⟨r,h1,h2⟩:=key 32 (((),n,(),set,0,()),(v.cfg,v.now,(),v.ph,v.mp,(),v.bp,v.lp,()),(v.tr,()),(v.op,v.ps,()),c,v.M,v.L,v.B,()) ⟨0,by omega,by omega,rfl⟩
 rcases h2 with⟨X,rfl⟩|rfl
 ·exact .inl ⟨X,h1⟩
 ·exact .inr h1
theorem zap (h:SS v μ)(hn:n<32)(c:mU)(hc:K7 c):NG v μ (cL WX (((),(n:Int),c,()),v.s)):=by
 obtain⟨kd,sq,td,it,id,sd,od,p,q,sh,st,wh,a,b,tg,⟨⟩⟩:=c;obtain⟨c1,c2,c3,c4,c5⟩:=hc;simp only at c1 c2 c3 c4 c5;obtain⟨i,rfl⟩:=zft c2.1;rcases c1 with rfl|rfl|rfl|rfl|rfl
 ·have hi:i<8:=by have:=c2.2.2 (by omega);omega
  obtain⟨v',μ',s1,s2,s3,⟨e,ho⟩|⟨out,hl,ho⟩⟩:=Ug h hn hi 3 sq td id sd od p q sh st wh a b tg
  ·exact⟨v',μ',s1,s2,s3, .inl ⟨e,by simp only[cL,↓xo,eq_self,iL,zdA,ho,zdy]⟩⟩
  ·exact⟨v',μ',s1,s2,s3, .inr ⟨out,hl,by simp only[cL,↓xo,eq_self,iL,zdA,ho,zdy]⟩⟩
 ·have hi:i<8:=by have:=c2.2.2 (by omega);omega
  obtain⟨e,lQ⟩:=BM h (n:Int) 2 (i:Int) td;by_cases he:e=0
  ·subst he
   obtain⟨bs,ss,eZ,hM,hB,hI,hH⟩:=h.si.pV.at_ i hi;have hp:=h.si.pV.mp i hi;obtain⟨oV,oW,H6,r1,r2⟩:=Nw (last:=(μ i).2.2.2.1) (no:=(μ i).2.2.2.2) hB hI td id;obtain⟨r3,r4⟩:=AN hI td id;have m1:=Dq h.si.pV hi (m:=((lV td id (μ i).1 (μ i).2.1 (μ i).2.2.1).2.2.1,(lV td id (μ i).1 (μ i).2.1 (μ i).2.2.1).2.2.2.1,(lV td id (μ i).1 (μ i).2.1 (μ i).2.2.1).2.2.2.2,(μ i).2.2.2)) r2 r3 (λo ho=>hH o (r4.subset ho));simp only at m1;simp only[V.s] at lQ;cases hf:(lV td id (μ i).1 (μ i).2.1 (μ i).2.2.1).2.1 with
   |false=>
    rw[hf] at r1;have vG:=NI hf;rw[vG] at m1 r1;rw[show((μ i).1,(μ i).2.1,(μ i).2.2.1,(μ i).2.2.2)=μ i from rfl,BN] at m1
    refine⟨_,μ,h.kf (op:=v.op) (ps:=v.ps) ⟨⟨m1.mp,m1.at_⟩,h.si.op,h.si.Lx,h.si.ps⟩,⟨rfl, .rfl⟩, .same, .inl ⟨6,?_⟩⟩;simp only[V.s];simp only[cL,↓xo,eq_self,Int.reduceEq,iL,nq,zdA,zdz,lQ,zdy,zdC,zdD,ot (CC hi),zdB,hp,au,hM,r1]
   |true=>
    rw[hf] at r1;obtain⟨out,mV,g1,g2,g3,g4⟩:=Pd (i:=i) m1 h.si.op hi [(lV td id (μ i).1 (μ i).2.1 (μ i).2.2.1).1] (by simp)
    refine⟨_,_,h.kf (op:=mV) (ps:=v.ps) ⟨⟨m1.mp,m1.at_⟩,g2,λm j hm hj=>?_,h.si.ps⟩,⟨rfl, .rfl⟩, .rem i td id hi, .inr ⟨out,by rw[g4];simp,?_⟩⟩
    ·show tb mV m j=_
     rw[g3 m j hm];unfold qV;split
     ·rename_i e;rw[if_pos rfl]
     ·exact h.si.Lx m j hm hj
    ·simp only[V.s] at g1⊢
     simp only[cL,↓xo,eq_self,Int.reduceEq,iL,nq,zdA,zdz,lQ,zdy,zdC,ot (CC hi),zdB,hp,au,hM,r1,g1]
  ·refine .same h e ?_
   simp only[V.s] at lQ⊢;simp only[cL,↓xo,eq_self,Int.reduceEq,iL,nq,zdA,zdz,lQ,zdy,bc he,zdD]
 ·have hi:i<8:=by have:=c2.2.2 (by omega);omega
  obtain⟨v',μ',s1,s2,s3,⟨e,ho⟩|⟨out,hl,ho⟩⟩:=Ui h hn hi 5 sq td id sd od p q sh st wh a b tg
  ·exact⟨v',μ',s1,s2,s3, .inl ⟨e,by simp only[cL,↓xo,eq_self,Int.reduceEq,iL,nq,zdA,zdz,ho,zdy]⟩⟩
  ·exact⟨v',μ',s1,s2,s3, .inr ⟨out,hl,by simp only[cL,↓xo,eq_self,Int.reduceEq,iL,nq,zdA,zdz,ho,zdy]⟩⟩
 ·obtain⟨⟨set,⟨⟩⟩,hs⟩:=Pf h.tr (n:Int) wh
  rcases Ul h (n:Int) set (6,sq,td,(i:Int),id,sd,od,p,q,sh,st,wh,a,b,tg,()) with⟨X,hl⟩|hl
  ·refine .same h X ?_
   simp only[V.s];simp only[cL,↓xo,↓xl,eq_self,Int.reduceEq,iL,nq,zdA,zdz,hs,zdy,hl]
  ·obtain⟨out,mV,M',μ',s1,s2,s3,s4⟩:=BP h set (i:Int) ⟨by omega,by omega⟩
   refine⟨_,μ',s2,⟨rfl, .rfl⟩,s4, .inr ⟨out,by omega,?_⟩⟩
   simp only[V.s] at s1⊢;simp only[cL,↓xo,↓xl,eq_self,Int.reduceEq,iL,nq,zdA,zdz,hs,zdy,hl,s1]
 ·have hw:=c3 rfl
  by_cases w3:wh<=3
  ·obtain⟨v',μ',s1,s2,s3,⟨e,ho⟩|⟨out,hl,ho⟩⟩:=Q6 h (n:Int) 9 sq td (i:Int) id sd od p q sh st wh a b tg
   ·exact⟨v',μ',s1,s2,s3, .inl ⟨e,by simp only[cL,↓xo,eq_self,Int.reduceEq,iL,nq,zdA,zdz,ot w3,ho,zdy]⟩⟩
   ·exact⟨v',μ',s1,s2,s3, .inr ⟨out,hl,by simp only[cL,↓xo,eq_self,Int.reduceEq,iL,nq,zdA,zdz,ot w3,ho,zdy]⟩⟩
  ·obtain⟨v',μ',s1,s2,s3,⟨e,ho⟩|⟨out,hl,ho⟩⟩:=Uk h (n:Int) 9 sq td (i:Int) id sd od p q sh st wh a b tg ⟨by omega,by omega⟩ c4 c5
   ·exact⟨v',μ',s1,s2,s3, .inl ⟨e,by simp only[cL,↓xo,eq_self,Int.reduceEq,iL,nq,zdA,zdz,bc w3,ho,zdy]⟩⟩
   ·exact⟨v',μ',s1,s2,s3, .inr ⟨out,hl,by simp only[cL,↓xo,eq_self,Int.reduceEq,iL,nq,zdA,zdz,bc w3,ho,zdy]⟩⟩
theorem Pk (h:SS v μ){k:Int}(hk:k≠1){n:Int}(hn:lC v.tr n=false)(c:mU):dA WX (((),(k,0,n,c,()),()),v.s)=some ((false,()),v.s):=by
 have h1:=oI h.tr n;rw[hn] at h1;simp only[dA,V.s,↓xo,bc hk,zdz,eq_self,iL,zdC,h1,zdy,zdD,zdA]
theorem zaq (h:SS v μ){n:Int}(hn:lC v.tr n=true)(k:Int)(hk:k=3\/k=4\/k=5):dA WX (((),(k,0,n,C0,()),()),v.s)=some ((true,()),v.s):=by
 have h1:=oI h.tr n;rw[hn] at h1;have e1: ¬k=1:=by omega
 have e2: ¬k=2:=by omega
 simp only[dA,V.s,↓xo,bc e1,zdz,eq_self,iL,zdC,h1,zdy,bc e2,oT (k>=1),oT (k<=5),zdA,qz,M9,zeX]
theorem zb6 (h:SS v μ){k:Int}(hk:k≠1){n:Int}(hn:lC v.tr n=false)(c:mU):NG v μ (cd WX (((),(k,0,n,c,()),()),v.s)):=by
 refine .same h 1 ?_;simp only[cd,Pk h hk hn c,zdy,zdD,zdA];rfl
def W3 (v:V)(μ:Nat->MS)(o:Option ((((Unit×Int×Unit)×(xe×Int×Unit×Jl×(List Nat)×Unit×(List Nat)×(List Nat)×Unit)×((List oX)×Unit)×((List (List Int))×(List (List Int))×Unit)×List gN×(List uF)×(List tz)×(List vM)×Unit))⊕((List gN×Int×Unit)×ST))):Prop:=
 ∃v' μ' x,SS v' μ'/\Kept v v'/\v'.ps=v.ps/\(∀i,μ' i=μ i\/μ' i=(ml x (μ i)).1)/\((∃e,o=some (.inl (((),e,()),sE v' [])))\/∃out,out.length<=80000000/\o=some (.inr ((out,0,()),v'.s)))
theorem W3.same (h:SS v μ)(e:Int){o}(ho:o=some (.inl (((),e,()),sE v []))):W3 v μ o:=⟨v,μ,0,h, .rfl v,rfl,λ_=> .inl rfl, .inl ⟨e,ho⟩⟩
theorem zar (h:SS v μ){k:Int}(hk:k≠1){n:Int}(hn:lC v.tr n=false)(c:mU):W3 v μ (cd WX (((),(k,0,n,c,()),()),v.s)):=by
 refine .same h 1 ?_;simp only[cd,Pk h hk hn c,zdy,zdD,zdA];rfl
theorem Um (h:SS v μ)(n:Int)(k:Int)(hk:k=3\/k=4\/k=5):W3 v μ (cd WX (((),(k,0,n,C0,()),()),v.s)):=by
 cases ht:lC v.tr n with
 |false=>exact zar h (by omega) ht C0
 |true=>
  have hf:=zaq h ht k hk;have hn:=qO ht;have l1:=h.lp n.toNat (by omega)
  obtain⟨l,l2⟩:=h.L n.toNat (by omega)
  rcases hk with rfl|rfl|rfl
  ·refine⟨_,μ,0,h.Uj n.toNat (failed l v.now),⟨rfl, .rfl⟩,rfl,λ_=> .inl rfl, .inl ⟨0,?_⟩⟩
   simp only[cd,hf,zdy,zdC,zdz,↓xo,Int.reduceEq,nq,iL,zdA];simp only[V.s,ot (CD hn),zdA,l1,zdy,au,l2,QG]
  ·have hl:dq WX (((),n,()),v.s)=some ((oD l v.now,()),v.s):=by
    simp only[dq,ky,V.s,↓xo,oT (n>=0),oT (n<32),ot (CD hn),zdA,zdy,l1,au,l2,qK,aJ l2]
   cases hk:oD l v.now with
   |true=>
    refine .same h 15 ?_;simp only[cd,hf,zdy,zdC,zdz,↓xo,Int.reduceEq,nq,iL,zdA,hl,hk];simp only[V.s]
   |false=>
    refine⟨_,μ,0,h.Uj n.toNat (l.1,l.2.1,0,0,()),⟨rfl, .rfl⟩,rfl,λ_=> .inl rfl, .inl ⟨0,?_⟩⟩;simp only[cd,hf,zdy,zdC,zdz,↓xo,Int.reduceEq,nq,iL,zdA,hl,hk];simp only[V.s,ot (CD hn),zdA,l1,zdy,au,l2,gr]
  ·obtain⟨out,mV,M',μ',s1,s2,s3,s4⟩:=K4 h.si (WX.shl .u64 1 (IntKind.u64.wrap n)) 8 ⟨by omega,by omega⟩
   refine⟨_,μ',_,h.kf (ps:=v.ps) s2,⟨rfl, .rfl⟩,rfl,s4, .inr ⟨out,by omega,?_⟩⟩
   simp only[cd,hf,zdy,zdC,zdz,↓xo,xw,Int.reduceEq,nq,iL,zdA,bc (ta n),s1]
theorem zas (h:SS v μ)(n:Int){c:mU}(hc:K7 c)(hk:iA WX ((c,()),())=some ((true,()),())):NG v μ (cd WX (((),(2,0,n,c,()),()),v.s)):=by
 cases ht:lC v.tr n with
 |false=>exact zb6 h (by omega) ht c
 |true=>
  have h1:=oI h.tr n;rw[ht] at h1;have hn:=qO ht;obtain⟨m,rfl⟩:=zft hn.1;have hf:dA WX (((),(2,0,(m:Int),c,()),()),v.s)=some ((true,()),v.s):=by
   simp only[dA,V.s,↓xo,Int.reduceEq,nq,iL,zdz,zdA,eq_self,zdC,h1,zdy,hk]
  have b1:=h.bp m (by omega)
  obtain⟨k,b2,b3⟩:=h.B m (by omega)
  obtain⟨b,k',t1,t2⟩:=Uf k v.now b3;cases b with
  |false=>
   refine⟨_,μ,h.zb5 m k' (by rw[t2];exact b3),⟨rfl, .rfl⟩, .same, .inl ⟨13,?_⟩⟩
   simp only[cd,hf,zdy,zdC,zdz,↓xo,Int.reduceEq,nq,iL,zdA];simp only[V.s,ot (qU (show m<32 by omega)),zdA,zdB,b1,zdy,au,b2,t1,zdD]
  |true=>
   obtain⟨v',μ',s1,s2,s3,s4⟩:=zap (n:=m) (h.zb5 m k' (by rw[t2];exact b3)) (by omega) c hc
   have s2':Kept v v':=⟨by rw[s2.eq],s2.tr⟩
   rcases s4 with⟨e,ho⟩|⟨out,hl,ho⟩
   ·refine⟨v',μ',s1,s2',s3.move (by rfl) (by rfl) (by rfl), .inl ⟨e,?_⟩⟩
    simp only[V.s] at ho;simp only[cd,hf,zdy,zdC,zdz,↓xo,Int.reduceEq,nq,iL,zdA];simp only[V.s,ot (qU (show m<32 by omega)),zdA,zdB,b1,zdy,au,b2,t1,zdC,zdz,ho]
   ·refine⟨v',μ',s1,s2',s3.move (by rfl) (by rfl) (by rfl), .inr ⟨out,hl,?_⟩⟩
    simp only[V.s] at ho;simp only[cd,hf,zdy,zdC,zdz,↓xo,Int.reduceEq,nq,iL,zdA];simp only[V.s,ot (qU (show m<32 by omega)),zdA,zdB,b1,zdy,au,b2,t1,zdC,zdz,ho]
end
def NS (n:mi):Prop:= ∃bs,NB n bs/\bs.length<=40
theorem W4 (a b c d e f:Int):NS (5,0,0,a,b,c,0,d,e,f,gL,()):=by
 obtain⟨bs,h1,h2⟩:=Cm (n:=(5,0,0,a,b,c,0,d,e,f,gL,())) (k:=24) (by kernel_rfl)
 exact⟨bs,h1,by omega⟩
theorem W5 (a b c:Int):NS (6,0,0,a,b,0,0,0,0,c,gL,()):=by
 obtain⟨bs,h1,h2⟩:=Cm (n:=(6,0,0,a,b,0,0,0,0,c,gL,())) (k:=12) (by kernel_rfl)
 exact⟨bs,h1,by omega⟩
theorem Un (a b c d:Int):NS (7,0,0,a,0,b,0,c,d,0,gL,()):=by
 obtain⟨bs,h1,h2⟩:=Cm (n:=(7,0,0,a,0,b,0,c,d,0,gL,())) (k:=16) (by kernel_rfl)
 exact⟨bs,h1,by omega⟩
theorem zat:NS (9,0,0,0,0,0,0,0,0,0,gL,()):=by
 obtain⟨bs,h1,h2⟩:=Cm (n:=(9,0,0,0,0,0,0,0,0,0,gL,())) (k:=3) (by kernel_rfl)
 exact⟨bs,h1,by omega⟩
theorem NJ:NS (2,0,0,0,0,0,0,0,0,0,gL,()):=by
 obtain⟨bs,h1,h2⟩:=EG;exact⟨bs,h1,by omega⟩
theorem zau (sq:Int):NS (3,0,sq,0,0,0,0,0,0,0,gL,()):=by
 obtain⟨bs,h1,h2⟩:=Z1 sq;exact⟨bs,h1,by omega⟩
theorem Q7 (er sq:Int):NS (4,er,sq,0,0,0,0,0,0,0,gL,()):=by
 obtain⟨bs,h1,h2⟩:=QJ er sq;exact⟨bs,h1,by omega⟩
theorem I7 {nc:List Int}(h:nc.length=32):NS (1,0,0,0,0,0,0,0,0,0,nc,()):=by
 obtain⟨bs,h1,h2⟩:=AF h;exact⟨bs,h1,by omega⟩
theorem NK (e:gN)(n:Int): ∃l,iZ WX ((e,n,()),())=some ((l,()),())/\l.length<=2/\∀x∈l,NS x:=by
 by_cases h1:e.1=1
 ·obtain⟨l,g1,g2,g3⟩:=pO (b:=fH WX) 2 (λk (s:List mi)=>((n,(),(),[e.2.2.1.1,e.2.2.1.2.1],2,(k:Int),()),e,s,())) (λs=>((s,()),e,())) (λk s=>s.length<=k/\∀x∈s,NS x)
   (λk s hk hI=>by
    obtain⟨i1,i2⟩:=hI;have hx:=zdE (l:=[e.2.2.1.1,e.2.2.1.2.1]) (i:=k) hk;generalize ([e.2.2.1.1,e.2.2.1.2.1]:List cY)[k]'hk=o at hx;have e1:=lD hk (by omega)
    by_cases ho:o.1=n
    ·refine⟨s++ [(5,0,0,e.2.1,o.2.1,e.2.2.1.2.2.2.2.1,0,e.2.2.1.2.2.1,e.2.2.1.2.2.2.1,i64.wrap (o.2.2.2.2.2.2.1-e.2.2.1.2.2.2.1),gL,())],?_,by rw[zdI];simp only[zdJ,zdK];omega,λx hx=>?_⟩
     ·simp only[fH,nK,↓xo,xw,oT ((k:Int)<2),oT ((0:Int)<=(k:Int)),zdA,zdB,hx,zdy,ot ho,e1,ot (show((((s.length+1:Nat)):Int))*((112:Nat):Int)<=((room:Nat):Int) by unfold room;omega),zdJ,zdK,zep]
     ·rcases List.mem_append.1 hx with hx|hx
      ·exact i2 x hx
      ·rw[List.mem_singleton.1 hx];exact W4 _ _ _ _ _ _
    ·exact⟨s,by simp only[fH,↓xo,xw,oT ((k:Int)<2),oT ((0:Int)<=(k:Int)),zdA,zdz,zdB,hx,zdy,bc ho,e1],by omega,i2⟩)
   (λs _=>by simp only[fH,↓xo,oF (((2:Nat):Int)<2),zdz]) [] ⟨zeH _,λx hx=>(by cases hx)⟩
  change ag (fH WX) ((n,(),(),[e.2.2.1.1,e.2.2.1.2.1],((([e.2.2.1.1,e.2.2.1.2.1]:List cY).length:Nat):Int),0,()),e,[],())=_ at g1;exact⟨l,by simp only[iZ,↓xo,ot h1,zdA,↓xl,g1,zdy],g2,g3⟩
 ·by_cases h2:e.1=2
  ·by_cases h3:e.2.2.2.1.1=n
   ·refine⟨[(6,0,0,e.2.1,e.2.2.2.1.2.1,0,0,0,0,e.2.2.2.1.2.2.2.2.2.2.1,gL,())],?_,by simp,λx hx=>?_⟩
    ·simp only[iZ,↓xo,bc h1,ot h2,ot h3,zdA,zdz,ot (show((((([]:List mi).length+([(6,0,0,e.2.1,e.2.2.2.1.2.1,0,0,0,0,e.2.2.2.1.2.2.2.2.2.2.1,(List.replicate 32 (0:Int)),())]:List mi).length:Nat)):Int))*((112:Nat):Int)<=((room:Nat):Int) by unfold room;simp only[zdJ,zdK];omega),zeA]
    ·rw[List.mem_singleton.1 hx];exact W5 _ _ _
   ·exact⟨[],by simp only[iZ,↓xo,bc h1,ot h2,bc h3,zdA,zdz],by simp,λx hx=>(by cases hx)⟩
  ·exact⟨[],by simp only[iZ,↓xo,bc h1,bc h2,zdz],by simp,λx hx=>(by cases hx)⟩
theorem W6 (e:gN)(n:Int): ∃l,mJ WX ((e,n,()),())=some ((l,()),())/\l.length<=3/\∀x∈l,NS x:=by
 obtain⟨l,h1,h2,h3⟩:=NK e n;have key: ∃p,kD WX ((e,()),())=some (((),()),p,())/\p.length<=1/\∀x∈p,NS x:=by
  by_cases c:e.1=1
  ·refine⟨[(7,0,0,e.2.1,0,e.2.2.1.2.2.2.2.1,0,e.2.2.1.2.2.1,e.2.2.1.2.2.2.1,0,gL,())],by simp only[kD,↓xo,ot c,zdC,zdz],by simp,λx hx=>?_⟩
   rw[List.mem_singleton.1 hx];exact Un _ _ _ _
  ·exact⟨[],by simp only[kD,↓xo,bc c,zdD,zdA],by simp,λx hx=>(by cases hx)⟩
 obtain⟨p,p1,p2,p3⟩:=key;have vC: [l,p].flatten=l++p:=by simp
 have vd: ∀x∈l++p,NS x:=λx hx=>by
  rcases List.mem_append.1 hx with hx|hx
  ·exact h3 x hx
  ·exact p3 x hx
 rcases CZ [l,p] (by rw[vC,zdI];omega) (by simp) with⟨c1,c2⟩|c1
 ·exact⟨[],by simp only[mJ,h1,zdy,p1,c1],by simp,λx hx=>(by cases hx)⟩
 ·rw[vC] at c1
  exact⟨l++p,by simp only[mJ,h1,zdy,p1,c1,zeS],by rw[zdI];omega,vd⟩
theorem Uo {ob bs:List Int}{ov:Bool}(h:ob.length<=4096)(hb:bs.length<=1000): ∃r ob' ov',gy WX (((),bs,()),((ob,ov,()),()))=some ((r,()),((ob',ov',()),()))/\ob'.length<=4096:=by
 have e:i64.wrap (4096-(ob.length:Int))=4096-(ob.length:Int):=nO (by omega) (by omega)
 cases ov with
 |true=>exact⟨_,_,_,by simp only[gy,zdA];rfl,h⟩
 |false=>
  by_cases hl:(bs.length:Int)>4096-(ob.length:Int)
  ·exact⟨_,_,_,by simp only[gy,zdz,↓xo,xw,e,ot hl,zdA];rfl,h⟩
  ·have vC: [ob,bs].flatten=ob++bs:=by simp
   by_cases hp:ob++bs=[]
   ·have hc:=concat_nil [ob,bs] (by rw[vC,hp]) (by simp)
    exact⟨true,[],false,by simp only[gy,zdz,↓xo,xw,e,bc hl,hc,zdy],by simp⟩
   ·have hc:=vQ [ob,bs] (by rw[vC];exact hp) (by rw[vC,zdI];omega) (by simp)
    exact⟨true,ob++bs,false,by simp only[gy,zdz,↓xo,xw,e,bc hl,hc,zdy,vC,zeS],by rw[zdI];omega⟩
structure zb7 (s:xv)(ou:(List Int)×Bool×Unit):Prop where
 out:ou.1.length<=4096
 rD:s.2.2.1.length=32
 at_:s.1=0\/s.1=1\/s.1=2\/s.1=3
 qB:0<=s.2.1/\s.2.1<=31
def CI (v:V):Prop:= ∀i,i<16->∃f o s fr ou,nv v i f o s fr ou/\zb7 s ou
section
variable {v:V}{i:Nat}
theorem CI.zb8 (h:CI v)(o:Nat)(ou:(List Int)×Bool×Unit)(ho:ou.1.length<=4096):CI {v with O:=v.O.set o (ou,())}:=λj hj=>by
 obtain⟨f,o',s,fr,IQ,h1,h2⟩:=h j hj;by_cases e:o'=o
 ·subst e
  exact⟨f,o',s,fr,ou,⟨h1.lt,h1.c,h1.S,h1.F,kI h1.O⟩,⟨ho,h2.rD,h2.at_,h2.qB⟩⟩
 ·exact⟨f,o',s,fr,IQ,⟨h1.lt,h1.c,h1.S,h1.F,by show(v.O.set o _)[o']?=_;rw[kF e];exact h1.O⟩,h2⟩
theorem Fa (h:CI v)(hi:i<16){n:mi}(hn:NS n): ∃O',bX WX (((),(i:Int),n,()),v.e)=some ((),{v with O:=O'}.e)/\CI {v with O:=O'}:=by
 obtain⟨f,o,s,fr,ou,hc,l8⟩:=h i hi;obtain⟨bs,hb,hl⟩:=hn;obtain⟨ob,ov,⟨⟩⟩:=ou;obtain⟨r,ob',ov',h1,h2⟩:=Uo (ov:=ov) l8.out (show bs.length<=1000 by omega)
 refine⟨_,?_,h.zb8 o (ob',ov',()) h2⟩;rcases hb with⟨x,k1,k2⟩|⟨x,k1,k2⟩
 ·simp only[bX,V.e,↓xo,ot (lu hi),zdA,zdB,hc.c,zdy,k1,k2,au,hc.O,h1]
 ·simp only[bX,V.e,↓xo,ot (lu hi),zdA,zdB,hc.c,zdy,k1,k2,au,hc.O,h1]
abbrev vX (v:V)(x:gN):=(((),v.c,(),(),()),(v.cfg,v.now,(),v.ph,v.mp,(),v.bp,v.lp,()),(v.tr,()),(v.op,v.ps,()),v.lg,(v.mt,()),x,v.M,v.L,v.S,v.F,v.O,v.B,())
theorem NL (h:CI v)(hi:i<16)(ns:List mi)(hl:ns.length<=3)(hn: ∀x∈ns,NS x)(e a b:Int)(Fb:List gN)(cs:List OG)(k:Int)(x:gN): ∃O',ag (cE WX) (((),e,(),(i:Int),Fb,a,b,cs,k,ns,(ns.length:Int),0,()),vX v x)=some (((),e,(),Fb,a,b,cs,k,()),vX {v with O:=O'} x)/\CI {v with O:=O'}:=by
 obtain⟨O',g1,g2⟩:=pO (b:=cE WX) ns.length (λj (s:List Bt)=>(((),e,(),(i:Int),Fb,a,b,cs,k,ns,(ns.length:Int),(j:Int),()),vX {v with O:=s} x)) (λs=>(((),e,(),Fb,a,b,cs,k,()),vX {v with O:=s} x)) (λj s=>CI {v with O:=s})
  (λj s hj hI=>by
   have hx:=zdE hj;have vd:=hn _ (zeO hj);have e1:=lD hj (by omega)
   generalize ns[j]=y at*;obtain⟨O2,o1,o2⟩:=Fa hI hi vd;simp only[V.e] at o1;exact⟨O2,by simp only[cE,↓xo,xw,oT ((j:Int)<(ns.length:Int)),oT ((0:Int)<=(j:Int)),zdA,zdB,hx,zdy,o1,e1],o2⟩)
  (λs _=>by simp only[cE,↓xo,oF ((ns.length:Int)<(ns.length:Int)),zdz]) v.O h
 exact⟨O',g1,g2⟩
theorem NM (h:CI v)(e a b:Int)(Fb:List gN)(x:gN): ∃O',ag (cz WX) (((),e,(),Fb,a,b,v.c,0,()),vX v x)=some (((),e,Fb,a,b,()),vX {v with O:=O'} x)/\CI {v with O:=O'}:=by
 obtain⟨O',g1,g2⟩:=pO (b:=cz WX) 16 (λj (s:List Bt)=>(((),e,(),Fb,a,b,v.c,(j:Int),()),vX {v with O:=s} x)) (λs=>(((),e,Fb,a,b,()),vX {v with O:=s} x)) (λj s=>CI {v with O:=s})
  (λj s hj hI=>by
   obtain⟨f,o,t,fr,ou,hc,l8⟩:=hI j hj;have c1:=hc.c;have c2:=hc.S;change v.c[j]?=_ at c1;change v.S[j]?=_ at c2;have e1:=lD hj (by omega)
   by_cases h3:t.1=3
   ·obtain⟨ns,n1,n2,n3⟩:=W6 x t.2.1
    obtain⟨O2,o1,o2⟩:=NL hI hj ns n2 n3 e a b Fb v.c (j:Int) x;have e2: ¬t.1=2:=by omega
    exact⟨O2,by simp only[cz,↓xo,xw,↓xl,oT ((j:Int)<16),ot (lu hj),zdA,zdz,zdB,c1,zdy,au,c2,ai,aB,bc e2,ot h3,zdC,aJ c2,n1,o1,e1],o2⟩
   ·exact⟨s,by simp only[cz,↓xo,xw,↓xl,oT ((j:Int)<16),ot (lu hj),zdA,zdB,c1,zdy,au,c2,ai,bc h3,zdD,aJ c2,e1],hI⟩)
  (λs _=>by simp only[cz,↓xo,oF (((16:Nat):Int)<16),zdz]) v.O h
 exact⟨O',g1,g2⟩
theorem CE (h:CI v)(e:Int)(Fb:List gN)(hl:Fb.length<=80000000): ∃O',ag (bR WX) (((),e,Fb,(Fb.length:Int),0,()),v.e)=some ((e,()),{v with O:=O'}.e)/\CI {v with O:=O'}:=by
 obtain⟨O',g1,g2⟩:=pO (b:=bR WX) Fb.length (λj (s:List Bt)=>(((),e,Fb,(Fb.length:Int),(j:Int),()),{v with O:=s}.e)) (λs=>((e,()),{v with O:=s}.e)) (λj s=>CI {v with O:=s})
  (λj s hj hI=>by
   have hx:=zdE hj;have e1:=Ua hj (by omega)
   generalize Fb[j]=x at*;obtain⟨O2,o1,o2⟩:=NM hI e (Fb.length:Int) (j:Int) Fb x;exact⟨O2,by simp only[bR,V.e,↓xo,xw,↓xl,oT ((j:Int)<(Fb.length:Int)),oT ((0:Int)<=(j:Int)),zdA,zdB,hx,zdy,o1,e1],o2⟩)
  (λs _=>by simp only[bR,↓xo,oF ((Fb.length:Int)<(Fb.length:Int)),zdz]) v.O h
 exact⟨O',g1,g2⟩
end
def Yi (k:Nat):Option ((Unit×Unit)×(List Int×Unit))->Bool
 |some (_,(bs,_))=>Nat.beq bs.length k
 |none=>false
theorem uw {k:Nat}{o:Option ((Unit×Unit)×(List Int×Unit))}(h:Yi k o=true): ∃bs:List Int,o=some (((),()),(bs,()))/\bs.length=k:=by
 match o,h with
 |some (((),()),(bs,())),h=>exact⟨bs,rfl,zfb h⟩
section
variable {n sq td it id sd od p q sh st wh a b:Int}{tg:List Int}
theorem zc9 (h:bg WX (((3,sq,td,it,id,sd,od,p,q,sh,st,wh,a,b,tg,()),()),())=some ((true,()),())): ∃bs:List Int,hZ WX (((2,0,n,(3,sq,td,it,id,sd,od,p,q,sh,st,wh,a,b,tg,()),()),()),())=some (((),()),(bs,()))/\bs.length=38:=by
 apply uw;simp only[hZ,gO,h,zdy,zdC,zdz];clear h;kernel_rfl
theorem zda (h:bg WX (((4,sq,td,it,id,sd,od,p,q,sh,st,wh,a,b,tg,()),()),())=some ((true,()),())): ∃bs:List Int,hZ WX (((2,0,n,(4,sq,td,it,id,sd,od,p,q,sh,st,wh,a,b,tg,()),()),()),())=some (((),()),(bs,()))/\bs.length=21:=by
 apply uw;simp only[hZ,gO,h,zdy,zdC,zdz];clear h;kernel_rfl
theorem zdb (h:bg WX (((5,sq,td,it,id,sd,od,p,q,sh,st,wh,a,b,tg,()),()),())=some ((true,()),())): ∃bs:List Int,hZ WX (((2,0,n,(5,sq,td,it,id,sd,od,p,q,sh,st,wh,a,b,tg,()),()),()),())=some (((),()),(bs,()))/\bs.length=28:=by
 apply uw;simp only[hZ,gO,h,zdy,zdC,zdz];clear h;kernel_rfl
theorem zdc (h:bg WX (((6,sq,td,it,id,sd,od,p,q,sh,st,wh,a,b,tg,()),()),())=some ((true,()),())): ∃bs:List Int,hZ WX (((2,0,n,(6,sq,td,it,id,sd,od,p,q,sh,st,wh,a,b,tg,()),()),()),())=some (((),()),(bs,()))/\bs.length=17:=by
 apply uw;simp only[hZ,gO,h,zdy,zdC,zdz];clear h;kernel_rfl
theorem zdd (h:bg WX (((9,sq,td,it,id,sd,od,p,q,sh,st,wh,a,b,tg,()),()),())=some ((true,()),())): ∃bs:List Int,hZ WX (((2,0,n,(9,sq,td,it,id,sd,od,p,q,sh,st,wh,a,b,tg,()),()),()),())=some (((),()),(bs,()))/\bs.length=18:=by
 apply uw;simp only[hZ,gO,h,zdy,zdC,zdz];clear h;kernel_rfl
end
theorem zde: ∀f g:Nat->Int,Cl (jo WX (((List.range 32).map f,(List.range 38).map g,()),()))=true:=λf g=>by kernel_rfl
theorem zdf: ∀f g:Nat->Int,Cl (jo WX (((List.range 32).map f,(List.range 21).map g,()),()))=true:=λf g=>by kernel_rfl
theorem zdg: ∀f g:Nat->Int,Cl (jo WX (((List.range 32).map f,(List.range 28).map g,()),()))=true:=λf g=>by kernel_rfl
theorem zdh: ∀f g:Nat->Int,Cl (jo WX (((List.range 32).map f,(List.range 17).map g,()),()))=true:=λf g=>by kernel_rfl
def zb9 (k:Nat):Prop:= ∀f g:Nat->Int,Cl (jo WX (((List.range 32).map f,(List.range k).map g,()),()))=true
theorem W7 (x:Int): ∃u:List Int,lr WX (([],x,()),())=some (((),()),(u,()))/\u.length=4:=uw (by kernel_rfl)
theorem W8 {lg:Jm}{m k:Nat}{r:Iw}{bs:List Int}(h:zb lg m)(hm:m<=100000000000)(hr:gv WX ((r,()),())=some ((true,()),()))(hp:hZ WX ((r,()),())=some (((),()),(bs,())))(hk:bs.length=k)(hl:zb9 k)(ti:k<=100):
  ∃xf,fX WX (((),r,()),(lg,()))=some ((true,()),(xf,()))/\zb xf (m+36+k):=by
 obtain⟨b,c,ct,u⟩:=lg;obtain⟨hb,hc⟩:=h;simp only at hb hc;obtain⟨f,rfl⟩:=mK c hc;obtain⟨g,hg⟩:=mK bs hk;obtain⟨c',h3,h4⟩:=EE (hl f g);rw[<-hg] at h3;obtain⟨w,h5,h6⟩:=W7 (WX.wr .u32 (bs.length:Int));have e0:(0:Int)<=0/\(0:Int)<=((32:Nat):Int)/\((32:Nat):Int)<=(32:Nat):=by omega
 have hf: [b,w,bs,c'].flatten.length=b.length+36+k:=by simp;omega
 have hcc:=vQ [b,w,bs,c'] (λe=>by rw[e] at hf;rw[zdK] at hf;omega) (by omega) (by simp)
 simp only[fX,hr,zdy,zdC,zdz,hp,h3,h5,↓xo,ot e0,zdA,pw h4,hcc,zeS];exact⟨_,rfl,by rw[hf];omega,h4⟩
theorem Q8 {n:Int}{c:mU}(hn:0<=n/\n<=31)(h:bg WX ((c,()),())=some ((true,()),())): ∃b,gv WX (((2,0,n,c,()),()),())=some ((b,()),()):=by
 simp only[gv,↓xo,oT (n>=0),Int.reduceEq,nq,iL,zdA,zdz,oT (n<32),h,zdy];exact⟨_,rfl⟩
theorem W9 {lg:Jm}{m:Nat}{n:Int}{c:mU}(h:zb lg m)(hm:m<=100000000000)(hn:0<=n/\n<=31)(hc:K7 c)(hR:bg WX ((c,()),())=some ((true,()),())): ∃b xf m',fX WX (((),(2,0,n,c,()),()),(lg,()))=some ((b,()),(xf,()))/\zb xf m'/\m'<=m+100:=by
 obtain⟨b,hr⟩:=Q8 hn hR;cases b with
 |false=>exact⟨false,lg,m,by simp only[fX,hr,zdy,zdD,zdA],h,by omega⟩
 |true=>
  have key: ∃(k:Nat) (bs:List Int),hZ WX (((2,0,n,c,()),()),())=some (((),()),(bs,()))/\bs.length=k/\zb9 k/\k<=64:=by
   obtain⟨kd,sq,td,it,id,sd,od,p,q,sh,st,wh,a,b,tg,⟨⟩⟩:=c;have hk:=hc.kind;simp only at hk;rcases hk with rfl|rfl|rfl|rfl|rfl
   ·obtain⟨bs,b1,b2⟩:=zc9 (n:=n) hR;exact⟨38,bs,b1,b2,zde,by omega⟩
   ·obtain⟨bs,b1,b2⟩:=zda (n:=n) hR;exact⟨21,bs,b1,b2,zdf,by omega⟩
   ·obtain⟨bs,b1,b2⟩:=zdb (n:=n) hR;exact⟨28,bs,b1,b2,zdg,by omega⟩
   ·obtain⟨bs,b1,b2⟩:=zdc (n:=n) hR;exact⟨17,bs,b1,b2,zdh,by omega⟩
   ·obtain⟨bs,b1,b2⟩:=zdd (n:=n) hR;exact⟨18,bs,b1,b2,Ws,by omega⟩
  obtain⟨k,bs,b1,b2,b3,b4⟩:=key;obtain⟨xf,l1,l2⟩:=W8 h hm hr b1 b2 b3 (by omega)
  exact⟨true,xf,_,l1,l2,by omega⟩
def jg (v:V)(i:Nat):xv:=(v.S.getD i (s0,())).1
def lE (F:List xn):Nat:=(F.map λx=>x.1.1.length).sum
theorem wX {v:V}{i f o:Nat}{s:xv}{fr ou:(List Int)×Bool×Unit}(h:nv v i f o s fr ou):jg v i=s:=by
 unfold jg;rw[zdP,h.S];rfl
theorem tR (F G:List xn):lE (F++G)=lE F+lE G:=by unfold lE;rw[zfk,List.sum_append]
theorem Hi {F:List xn}{f:Nat}{x y:xn}(h:F[f]?=some y):lE (F.set f x)+y.1.1.length=lE F+x.1.1.length:=by
 have hf:=(List.getElem?_eq_some_iff.1 h).1;have e1:F=F.take f++ [y]++F.drop (f+1):=by
  have:=zdE hf;rw[h] at this;rw[Option.some.inj this];simp
 have e2:F.set f x=F.take f++ [x]++F.drop (f+1):=by
  rw[zfq,if_pos hf];simp
 rw[e2];have e3:lE F=lE (F.take f)+y.1.1.length+lE (F.drop (f+1)):=by
  conv=>lhs;rw[e1]
  rw[tR,tR];simp[lE]
 rw[e3,tR,tR];have:lE [x]=x.1.1.length:=by simp[lE]
 omega
structure QI (v:V):Prop where
 tre:FG v.cfg.1 v.tr
 uniq: ∀i j,i<16->j<16->(jg v i).1=3->(jg v j).1=3->(jg v i).2.1=(jg v j).2.1->i=j
 there: ∀i,i<16->(jg v i).1=3->lC v.tr (jg v i).2.1=true
 Ky: ∀f:Int,(((List.range 16).countP λi=>decide ((jg v i).1=3/\(iD v.tr (jg v i).2.1).1=f):Nat):Int)<=v.cfg.2.2.2.2.2.2.2.1
theorem FG.there {a b:List oX}(h:FG a b)(n:Int):lC b n=lC a n:=by
 unfold lC iD;split
 ·rw[(h.same n.toNat).2.2.1]
 ·rfl
theorem FG.jL {a b:List oX}(h:FG a b)(n:Int):(iD b n).1=(iD a n).1:=(h.same n.toNat).1
theorem QI.mono {v v':V}(h:QI v)(hs: ∀j,j<16->(jg v' j).1=3->(jg v j).1=3/\(jg v' j).2.1=(jg v j).2.1)(ht:FG v.tr v'.tr)(hc:v'.cfg=v.cfg):QI v':=by
 refine⟨by rw[hc];exact h.tre.trans ht,λi j hi hj h1 h2 h3=>?_,λi hi h1=>?_,λf=>?_⟩
 ·obtain⟨a1,a2⟩:=hs i hi h1
  obtain⟨b1,b2⟩:=hs j hj h2;exact h.uniq i j hi hj a1 b1 (by rw[<-a2,<-b2];exact h3)
 ·obtain⟨a1,a2⟩:=hs i hi h1
  rw[ht.there,a2];exact h.there i hi a1
 ·rw[hc]
  have:=List.countP_mono_left (l:=List.range 16) (p:=λi=>decide ((jg v' i).1=3/\(iD v'.tr (jg v' i).2.1).1=f)) (q:=λi=>decide ((jg v i).1=3/\(iD v.tr (jg v i).2.1).1=f)) (λi hi hp=>by
   have hp:=of_decide_eq_true hp;obtain⟨a1,a2⟩:=hs i (List.mem_range.1 hi) hp.1;refine decide_eq_true ⟨a1,?_⟩;rw[<-hp.2,ht.jL,a2])
  have:=h.Ky f;omega
structure VI (P:Nat->V->(Nat->MS)->Prop)(k m:Nat)(v:V)(μ:Nat->MS):Prop where
 ss:SS v μ
 ci:CI v
 mt:v.mt.length=4
 lg:zb v.lg m
 p:P k v μ
 qi:QI v
structure PK (P:Nat->V->(Nat->MS)->Prop):Prop where
 pa: ∀{k v v' μ},P k v μ->v'.op=v.op->v'.ps=v.ps->v'.cfg=v.cfg->P k v' μ
 quiet: ∀{k v μ v' μ'} {x:Int},SS v μ->P k v μ->SS v' μ'->Kept v v'->v'.ps=v.ps->(∀i,μ' i=μ i\/μ' i=(ml x (μ i)).1)->P k v' μ'
 cmd: ∀{k v μ v' μ'},SS v μ->P k v μ->SS v' μ'->Kept v v'->Pg v μ μ' v'.ps->P (k+1) v' μ'
 more: ∀{k v μ},P k v μ->P (k+1) v μ
structure Sm (v v':V):Prop where
 c:v'.c=v.c
 S:v'.S=v.S
 F:v'.F=v.F
 now:v'.now=v.now
 cfg:v'.cfg=v.cfg
 tr:FG v.tr v'.tr
theorem Sm.jg {v v':V}(h:Sm v v')(i:Nat):jg v' i=jg v i:=by unfold AM.jg;rw[h.S]
theorem Sm.qi {v v':V}(h:Sm v v')(q:QI v):QI v':=q.mono (λj _ h3=>by rw[h.jg] at h3⊢;exact⟨h3,rfl⟩) h.tr h.cfg
theorem Sm.trans {a b c:V}(h:Sm a b)(k:Sm b c):Sm a c:=⟨k.c.trans h.c,k.S.trans h.S,k.F.trans h.F,k.now.trans h.now,k.cfg.trans h.cfg,h.tr.trans k.tr⟩
theorem SS.pa {v v':V}{μ:Nat->MS}(h:SS v μ)(hs:v'.s=v.s):SS v' μ:=by
 obtain⟨c,cfg,now,ph,mp,bp,lp,tr,op,ps,lg,mt,M,L,S,F,O,B⟩:=v;obtain⟨c',zdv,Z2,ph',mp',bp',lp',tr',mV,Xs,xf,rC,M',L',S',F',O',B'⟩:=v';simp only[V.s,Prod.mk.injEq] at hs;obtain⟨⟨rfl,rfl,_,rfl,rfl,_,rfl,rfl,_⟩,⟨rfl,_⟩,⟨rfl,rfl,_⟩,rfl,rfl,rfl,_⟩:=hs;exact⟨⟨⟨h.si.pV.mp,h.si.pV.at_⟩,h.si.op,h.si.Lx,h.si.ps⟩,h.tr,h.ph,h.Yh,h.bp,h.B,h.lp,h.L,h.now⟩
theorem CI.pa {v v':V}(h:CI v)(hc:v'.c=v.c)(hS:v'.S=v.S)(hF:v'.F=v.F)(hO:v'.O=v.O):CI v':=λi hi=>by
 obtain⟨f,o,s,fr,ou,h1,h2⟩:=h i hi;exact⟨f,o,s,fr,ou,⟨h1.lt,by rw[hc];exact h1.c,by rw[hS];exact h1.S,by rw[hF];exact h1.F,by rw[hO];exact h1.O⟩,h2⟩
theorem NN {r:Iw}{v v1:V}{b:Bool}{xf:Jm}(hci:CI v)(hm:v.mt.length=4)(h1:v1.c=v.c)(h2:v1.S=v.S)(h3:v1.F=v.F)(h4:v1.O=v.O)
  (hd:(∃e,cd WX (((),r,()),v.s)=some (.inl (((),e,()),sE v1 [])))\/∃out,out.length<=80000000/\cd WX (((),r,()),v.s)=some (.inr ((out,0,()),v1.s)))
  (hl:fX WX (((),r,()),(v.lg,()))=some ((b,()),(xf,()))):
  ∃e rC O',bQ WX (((),r,()),v.e)=some ((e,()),{v1 with lg:=xf,mt:=rC,O:=O'}.e)/\CI {v1 with lg:=xf,mt:=rC,O:=O'}/\rC.length=4:=by
 obtain⟨rC,q,g3,g4⟩:=tP hm (i:=1) (by omega)
 change aT WX (((),1,1,()),_)=_ at g3;have zca:CI {v1 with lg:=xf,mt:=rC}:=hci.pa h1 h2 h3 h4;rcases hd with⟨e,hd⟩|⟨out,ho,hd⟩
 ·obtain⟨O',l1,l2⟩:=CE zca e [] (by simp)
  refine⟨e,rC,O',?_,l2,g4⟩;simp only[V.s] at hd;simp only[V.e,zdK,zfa] at l1;rw[h1,h2,h3,h4] at l1;simp only[bQ,V.e,hd,hl,g3,zdy,↓xl,zdK,zfa,l1,h1,h2,h3]
 ·obtain⟨O',l1,l2⟩:=CE zca 0 out ho
  refine⟨0,rC,O',?_,l2,g4⟩;simp only[V.s] at hd;simp only[V.e] at l1;rw[h1,h2,h3,h4] at l1;simp only[bQ,V.e,hd,hl,g3,zdy,↓xl,l1,h1,h2,h3]
section
variable {P:Nat->V->(Nat->MS)->Prop}{k m:Nat}{v:V}{μ:Nat->MS}
theorem Up (pk:PK P)(h:VI P k m v μ)(hm:m<=100000000000){d:Int}(hd:d=3\/d=4\/d=5){n:Int}(hn:0<=n/\n<=31): ∃e v' μ',bQ WX (((),(d,0,n,C0,()),()),v.e)=some ((e,()),v'.e)/\VI P k (m+46) v' μ'/\Sm v v':=by
 obtain⟨v1,μ',x,s1,s2,s3,s4,s5⟩:=Um h.ss n d hd;obtain⟨xf,l1,l2⟩:=IN h.lg hm (ON hd hn.1 (by omega))
 have e1:v1.c=v.c:=by rw[s2.eq]
 have e2:v1.S=v.S:=by rw[s2.eq]
 have e3:v1.F=v.F:=by rw[s2.eq]
 have e4:v1.O=v.O:=by rw[s2.eq]
 have e5:v1.now=v.now:=by rw[s2.eq]
 have e6:v1.cfg=v.cfg:=by rw[s2.eq]
 obtain⟨e,rC,O',r1,r2,r3⟩:=NN h.ci h.mt e1 e2 e3 e4 s5 l1;have sm:Sm v {v1 with lg:=xf,mt:=rC,O:=O'}:=⟨e1,e2,e3,e5,e6,s2.tr⟩;exact⟨e,_,μ',r1,⟨s1.pa (by rfl),r2,r3,l2,pk.pa (pk.quiet h.ss h.p s1 s2 s3 s4) (by rfl) (by rfl) (by rfl),sm.qi h.qi⟩,sm⟩
theorem zcb (pk:PK P)(h:VI P k m v μ)(hm:m<=100000000000){n:Int}(hn:0<=n/\n<=31){c:mU}(hc:K7 c)(hR:bg WX ((c,()),())=some ((true,()),()))(hT:iA WX ((c,()),())=some ((true,()),())): ∃e v' μ' m',bQ WX (((),(2,0,n,c,()),()),v.e)=some ((e,()),v'.e)/\VI P (k+1) m' v' μ'/\m'<=m+100/\Sm v v':=by
 obtain⟨v1,μ',s1,s2,s3,s5⟩:=zas h.ss n hc hT;obtain⟨b,xf,m',l1,l2,l3⟩:=W9 h.lg hm hn hc hR;have e1:v1.c=v.c:=by rw[s2.eq]
 have e2:v1.S=v.S:=by rw[s2.eq]
 have e3:v1.F=v.F:=by rw[s2.eq]
 have e4:v1.O=v.O:=by rw[s2.eq]
 have e5:v1.now=v.now:=by rw[s2.eq]
 have e6:v1.cfg=v.cfg:=by rw[s2.eq]
 obtain⟨e,rC,O',r1,r2,r3⟩:=NN h.ci h.mt e1 e2 e3 e4 s5 l1;have sm:Sm v {v1 with lg:=xf,mt:=rC,O:=O'}:=⟨e1,e2,e3,e5,e6,s2.tr⟩;exact⟨e,_,μ',m',r1,⟨s1.pa (by rfl),r2,r3,l2,pk.pa (pk.cmd h.ss h.p s1 s2 s3) (by rfl) (by rfl) (by rfl),sm.qi h.qi⟩,l3,sm⟩
end
structure Ev (i:Nat)(v v':V):Prop where
 now:v'.now=v.now
 cfg:v'.cfg=v.cfg
 left:lE v'.F=lE v.F
 jg: ∀j,j<16->jg v' j=jg v j\/(jg v' j).1=0\/(j=i/\(jg v' j).2.2.2.2.1=v.now)
theorem Ev.rfl (i:Nat)(v:V):Ev i v v:=⟨Eq.refl _,Eq.refl _,Eq.refl _,λ_ _=> .inl (Eq.refl _)⟩
theorem Ev.trans {i:Nat}{a b c:V}(h:Ev i a b)(k:Ev i b c):Ev i a c:=⟨k.now.trans h.now,k.cfg.trans h.cfg,k.left.trans h.left,λj hj=>by
 rcases k.jg j hj with e|e|⟨e1,e2⟩
 ·rw[e];exact h.jg j hj
 ·exact .inr (.inl e)
 ·exact .inr (.inr ⟨e1,by rw[e2,h.now]⟩)⟩
structure Dw (v v':V):Prop where
 now:v'.now=v.now
 cfg:v'.cfg=v.cfg
 left:lE v'.F=lE v.F
 jg: ∀j,j<16->jg v' j=jg v j\/(jg v' j).1=0
theorem Dw.rfl (v:V):Dw v v:=⟨Eq.refl _,Eq.refl _,Eq.refl _,λ_ _=> .inl (Eq.refl _)⟩
theorem Dw.trans {a b c:V}(h:Dw a b)(k:Dw b c):Dw a c:=⟨k.now.trans h.now,k.cfg.trans h.cfg,k.left.trans h.left,λj hj=>by
 rcases k.jg j hj with e|e
 ·rw[e];exact h.jg j hj
 ·exact .inr e⟩
theorem Dw.ev {v v':V}(h:Dw v v')(i:Nat):Ev i v v':=⟨h.now,h.cfg,h.left,λj hj=>by
 rcases h.jg j hj with e|e
 ·exact .inl e
 ·exact .inr (.inl e)⟩
theorem Sm.dw {v v':V}(h:Sm v v'):Dw v v':=⟨h.now,h.cfg,by rw[h.F],λj _=> .inl (h.jg j)⟩
theorem AP {v:V}{i f o:Nat}{s:xv}{fr ou:(List Int)×Bool×Unit}(h:nv v i f o s fr ou){S':List Aw}{x:xv}(hS:S'=v.S.set i (x,()))(j:Nat):(S'.getD j (s0,())).1=if j=i then x else jg v j:=by
 subst hS;have hl:=(List.getElem?_eq_some_iff.1 h.S).1;unfold jg;simp only[zdP,ze8];by_cases e:i=j
 ·subst e;rw[if_pos rfl,if_pos hl,if_pos rfl];rfl
 ·rw[if_neg e,if_neg (λq=>e q.symm)]
section
variable {P:Nat->V->(Nat->MS)->Prop}{k m:Nat}{v:V}{μ:Nat->MS}{i:Nat}
theorem K8 (pk:PK P)(h:VI P k m v μ)(hi:i<16): ∃v',bE WX (((),(i:Int),()),v.e)=some ((),v'.e)/\VI P k m v' μ/\Dw v v'/\jg v' i=s0/\(∀j,j≠i->jg v' j=jg v j)/\v'.tr=v.tr:=by
 obtain⟨f,o,s,fr,ou,hc,l8⟩:=h.ci i hi;obtain⟨rC,h1,h2⟩:=Z4 hc h.mt;have hs:=λj=>AP hc (x:=s0) rfl j;have hdw:Dw v {v with c:=v.c.set i (i+1,v.F.length+1,o+1,()),mt:=rC,S:=v.S.set i (s0,()),F:=v.F++ [(([],false,()),())]}:=⟨rfl,rfl,by rw[tR];rfl,λj _=>by
  show(((v.S.set i (s0,())).getD j (s0,())).1=_)\/((v.S.set i (s0,())).getD j (s0,())).1.1=0
  rw[hs];split
  ·exact .inr rfl
  ·exact .inl rfl⟩
 have hsi:((v.S.set i (s0,())).getD i (s0,())).1=s0:=by rw[hs,if_pos rfl]
 have hsj: ∀j,j≠i->((v.S.set i (s0,())).getD j (s0,())).1=jg v j:=λj hj=>by rw[hs,if_neg hj]
 refine⟨_,h1,⟨h.ss.pa (by rfl),λj hj=>?_,h2,h.lg,pk.pa h.p (by rfl) (by rfl) (by rfl),h.qi.mono (λj hj h3=>?_) .rfl (by rfl)⟩,hdw,hsi,hsj,rfl⟩
 ·by_cases e:j=i
  ·subst e
   exact⟨v.F.length,o,s0,([],false,()),ou,⟨hi,kI hc.c,kI hc.S,by simp,hc.O⟩,⟨l8.out,by simp[s0], .inl rfl,by simp[s0]⟩⟩
  ·obtain⟨f',o',s',wQ,IQ,c1,c2⟩:=h.ci j hj
   obtain⟨d1,d2,d3,d4,d5⟩:=nv.other c1 e (i+1,v.F.length+1,o+1,()) (s0,()) [(([],false,()),())];exact⟨f',o',s',wQ,IQ,⟨d1,d2,d3,d4,d5⟩,c2⟩
 ·by_cases e:j=i
  ·subst e
   change ((v.S.set j (s0,())).getD j (s0,())).1.1=3 at h3;rw[hsi] at h3;cases h3
  ·change ((v.S.set i (s0,())).getD j (s0,())).1.1=3 at h3
   rw[hsj j e] at h3;refine⟨h3,?_⟩;show((v.S.set i (s0,())).getD j (s0,())).1.2.1=_
   rw[hsj j e]
theorem qk (pk:PK P)(h:VI P k m v μ)(hm:m<=100000000000)(hi:i<16): ∃v' μ' m',bn WX (((),(i:Int),()),v.e)=some ((),v'.e)/\VI P k m' v' μ'/\m'<=m+46/\Dw v v'/\(jg v' i).1=0/\(∀j,j≠i->jg v' j=jg v j)/\FG v.tr v'.tr:=by
 obtain⟨f,o,s,fr,ou,hc,l8⟩:=h.ci i hi;have Ln:=wX hc;by_cases h0:s.1=0
 ·have e2: ¬s.1=2:=by omega
  have e3: ¬s.1=3:=by omega
  refine⟨v,μ,m,?_,h,by omega, .rfl v,by rw[Ln];exact h0,λj _=>rfl, .rfl⟩
  simp only[bn,V.e,↓xo,ot (lu hi),zdA,zdB,hc.c,zdy,au,hc.S,ai,aB,bc e2,bc e3,ot h0,zdz,aJ hc.S]
 ·obtain⟨v1,f1,f2,f3,f4,f5,f6⟩:=K8 pk h hi
  by_cases h3:s.1=3
  ·obtain⟨e,v2,μ',r1,r2,r3⟩:=Up pk f2 hm (d:=5) (.inr (.inr rfl)) l8.qB
   have e2: ¬s.1=2:=by omega
   refine⟨v2,μ',m+46,?_,r2,by omega,f3.trans r3.dw,by rw[r3.jg,f4];rfl,λj hj=>by rw[r3.jg,f5 j hj],by rw[<-f6];exact r3.tr⟩
   simp only[V.e] at f1 r1;simp only[bn,V.e,↓xo,ot (lu hi),zdA,zdB,hc.c,zdy,au,hc.S,ai,aB,bc e2,ot h3,bc h0,zdz,aJ hc.S,f1,r1]
  ·refine⟨v1,μ,m,?_,f2,by omega,f3,by rw[f4];rfl,f5,by rw[f6];exact .rfl⟩
   simp only[V.e] at f1;by_cases h2:s.1=2
   ·simp only[bn,V.e,↓xo,ot (lu hi),zdA,zdB,hc.c,zdy,au,hc.S,ai,aB,ot h2,bc h3,bc h0,zdz,aJ hc.S,f1]
   ·simp only[bn,V.e,↓xo,ot (lu hi),zdA,zdB,hc.c,zdy,au,hc.S,ai,aB,bc h2,bc h3,bc h0,zdz,aJ hc.S,f1]
theorem K9 (h:CI v): ∃r:Int,eX WX (((),()),v.e)=some ((r,()),v.e)/\(r= -1\/∃i:Nat,i<16/\r=(i:Int)/\(jg v i).1≠0):=by
 have key:=rG (b:=bU WX) (λk l=> ∃j:Nat,j<=16/\k=16-j/\l=((v.c,(j:Int),()),v.S,v.F,v.O,())) (λr=>(∃j:Nat,j<16/\(jg v j).1≠0/\r= .inl (((j:Int),()),v.S,v.F,v.O,()))\/r= .inr ((),v.S,v.F,v.O,())) (λk l hl=>by
  obtain⟨j,hj,rfl,rfl⟩:=hl;by_cases hc:j<16
  ·obtain⟨f,o,s,fr,ou,c1,c2⟩:=h j hc
   have e1:=lD hc (by omega)
   have hs:=wX c1;by_cases h0:s.1=0
   ·exact .inl ⟨((v.c,((j+1:Nat):Int),()),v.S,v.F,v.O,()),by simp only[bU,↓xo,xw,oT ((j:Int)<16),ot (lu hc),zdA,zdy,zdB,c1.c,au,c1.S,ai,ot h0,zdC,zdz,aJ c1.S,e1],16-(j+1),by omega,j+1,by omega,rfl,rfl⟩
   ·cases ho:ou.2.1 with
    |true=>exact .inr ⟨.inl (((j:Int),()),v.S,v.F,v.O,()),by simp only[bU,↓xo,xw,oT ((j:Int)<16),ot (lu hc),zdA,zdy,zdB,c1.c,au,c1.S,ai,bc h0,zdD,aJ c1.S,c1.O,jI,ho,aJ c1.O], .inl ⟨j,hc,by rw[hs];exact h0,rfl⟩⟩
    |false=>exact .inl ⟨((v.c,((j+1:Nat):Int),()),v.S,v.F,v.O,()),by simp only[bU,↓xo,xw,oT ((j:Int)<16),ot (lu hc),zdA,zdy,zdB,c1.c,au,c1.S,ai,bc h0,zdD,zdz,aJ c1.S,c1.O,jI,ho,aJ c1.O,e1],16-(j+1),by omega,j+1,by omega,rfl,rfl⟩
  ·obtain rfl:j=16:=by omega
   exact .inr ⟨.inr ((),v.S,v.F,v.O,()),by simp only[bU,↓xo,oF (((16:Nat):Int)<16),zdz], .inr rfl⟩)
 obtain⟨r,h1,h2⟩:=key 16 ((v.c,0,()),v.S,v.F,v.O,()) ⟨0,by omega,by omega,rfl⟩
 rcases h2 with⟨j,hj,hn,rfl⟩|rfl
 ·exact⟨(j:Int),by simp only[eX,V.e,↓xl,h1,zdy], .inr ⟨j,hj,rfl,hn⟩⟩
 ·exact⟨-1,by simp only[eX,V.e,↓xl,h1,zdy], .inl rfl⟩
def busy (v:V):Nat:=(List.range 16).countP λi=>!decide ((jg v i).1=0)
theorem Q9 {v v':V}(hi:i<16)(h0:(jg v i).1≠0)(h1:(jg v' i).1=0)(h2: ∀j,j≠i->jg v' j=jg v j):busy v'<busy v:=by
 have key: ∀l:List Nat,(l.countP λi=>!decide ((jg v' i).1=0))+(if i∈l then 1 else 0)<=l.countP λi=>!decide ((jg v i).1=0):=by
  intro l;induction l with
  |nil=>simp
  |cons x l ih=>
   rw[List.countP_cons,List.countP_cons];by_cases e:x=i
   ·subst e
    have a1:(!decide ((jg v' x).1=0))=false:=by rw[decide_eq_true h1];rfl
    have a2:(!decide ((jg v x).1=0))=true:=by rw[decide_eq_false h0];rfl
    simp only[a1,a2,zek,true_or,if_true,zdG,if_false];split at ih<;>omega
   ·rw[h2 x e]
    have:(i∈x::l)↔i∈l:=by simp[Ne.symm e]
    simp only[this];omega
 have:=key (List.range 16);rw[if_pos (List.mem_range.2 hi)] at this;unfold busy;omega
theorem Xa (v:V):busy v<=16:=by
 have:=List.countP_le_length (p:=λi=>!decide ((jg v i).1=0)) (l:=List.range 16);rw[List.length_range] at this;exact this
theorem yE (pk:PK P)(h:VI P k m v μ)(hm:m<=90000000000): ∃v' μ' m',bZ WX (((),()),v.e)=some ((),v'.e)/\VI P k m' v' μ'/\m'<=m+736/\Dw v v'/\FG v.tr v'.tr:=by
 obtain⟨r,o1,o2⟩:=K9 h.ci;have key:=rG (b:=cQ WX) (λn l=> ∃(r:Int) (v1:V) (μ1:Nat->MS) (m1:Nat),l=(((),r,()),v1.e)/\VI P k m1 v1 μ1/\m1+46*n<=m+736/\Dw v v1/\FG v.tr v1.tr/\n=busy v1/\(r= -1\/∃i:Nat,i<16/\r=(i:Int)/\(jg v1 i).1≠0)) (λq=> ∃(v1:V) (μ1:Nat->MS) (m1:Nat),q=((),v1.e)/\VI P k m1 v1 μ1/\m1<=m+736/\Dw v v1/\FG v.tr v1.tr) (λn l hl=>by
  obtain⟨r,v1,μ1,m1,rfl,i1,i2,i3,i4,i5,i6⟩:=hl;rcases i6 with rfl|⟨i,hi,rfl,hn⟩
  ·exact .inr ⟨_,by simp only[cQ,↓xo,oF ((-1:Int)>=0),zdz],v1,μ1,m1,rfl,i1,by omega,i3,i4⟩
  ·obtain⟨v2,μ2,m2,d1,d2,d3,d4,d5,d6,d7⟩:=qk pk i1 (by omega) hi
   have hb:=Q9 hi hn d5 d6;obtain⟨r',p1,p2⟩:=K9 d2.ci;exact .inl ⟨_,by simp only[cQ,↓xo,oT ((i:Int)>=0),zdA,d1,zdy,p1],busy v2,by omega,r',v2,μ2,m2,rfl,d2,by omega,i3.trans d4,i4.trans d7,rfl,p2⟩)
 obtain⟨q,h1,v1,μ1,m1,rfl,h2,h3,h4,h5⟩:=key (busy v) (((),r,()),v.e) ⟨r,v,μ,m,rfl,h,by have:=Xa v;omega, .rfl v, .rfl,rfl,o2⟩
 exact⟨v1,μ1,m1,by simp only[bZ,o1,zdy,↓xl,h1],h2,h3,h4,h5⟩
theorem uW (pk:PK P)(h:VI P k m v μ)(hi:i<16)(sq er:Int): ∃v',dI WX (((),(i:Int),sq,er,()),v.e)=some ((),v'.e)/\VI P k m v' μ/\Sm v v':=by
 obtain⟨rC,r,h3,h4⟩:=tP h.mt (i:=2) (by omega)
 change aT WX (((),2,1,()),_)=_ at h3;obtain⟨O',n1,n2⟩:=Fa (v:={v with mt:=rC}) (h.ci.pa rfl rfl rfl rfl) hi (Q7 er sq);have sm:Sm v {v with mt:=rC,O:=O'}:=⟨rfl,rfl,rfl,rfl,rfl, .rfl⟩;refine⟨_,?_,⟨h.ss.pa (by rfl),n2,h4,h.lg,pk.pa h.p (by rfl) (by rfl) (by rfl),sm.qi h.qi⟩,sm⟩
 simp only[V.e] at n1;simp only[dI,V.e,h3,zdy,n1]
theorem AQ (pk:PK P)(h:VI P k m v μ)(hi:i<16){n:mi}(hn:NS n): ∃v',bX WX (((),(i:Int),n,()),v.e)=some ((),v'.e)/\VI P k m v' μ/\Sm v v':=by
 obtain⟨O',n1,n2⟩:=Fa h.ci hi hn;have sm:Sm v {v with O:=O'}:=⟨rfl,rfl,rfl,rfl,rfl, .rfl⟩;exact⟨_,n1,⟨h.ss.pa (by rfl),n2,h.mt,h.lg,pk.pa h.p (by rfl) (by rfl) (by rfl),sm.qi h.qi⟩,sm⟩
end
structure Yj (v:V)(n:Int):Prop where
 there:lC v.tr n=true
 alone: ∀j,j<16->(jg v j).1=3->(jg v j).2.1≠n
 room:(((List.range 16).countP λi=>decide ((jg v i).1=3/\(iD v.tr (jg v i).2.1).1=(iD v.tr n).1):Nat):Int)<v.cfg.2.2.2.2.2.2.2.1
section
variable {P:Nat->V->(Nat->MS)->Prop}{k m:Nat}{v:V}{μ:Nat->MS}{i:Nat}
theorem NO (h:SS v μ){n:Int}(hn:0<=n/\n<=31): ∃b,dq WX (((),n,()),v.s)=some ((b,()),v.s):=by
 have l1:=h.lp n.toNat (by omega)
 obtain⟨l,l2⟩:=h.L n.toNat (by omega)
 exact⟨oD l v.now,by simp only[dq,ky,V.s,↓xo,oT (n>=0),oT (n<32),ot (CD hn),zdA,zdy,l1,au,l2,qK,aJ l2]⟩
theorem Fc {tr:List oX}{n:Int}(h:lC tr n=true):vk tr n=iD tr n:=by unfold vk;rw[if_pos h]
theorem Uq (h:VI P k m v μ){n:Int}(hn:lC v.tr n=true):(ag (bx WX) (((),n,(),0,v.c,0,()),v.e)=some (.inl ((5,()),v.e)))\/(ag (bx WX) (((),n,(),0,v.c,0,()),v.e)=some (.inr (((),((((List.range 16).countP λi=>decide ((jg v i).1=3/\(iD v.tr (jg v i).2.1).1=(iD v.tr n).1):Nat)):Int),()),v.e))/\∀j,j<16->(jg v j).1=3->(jg v j).2.1≠n):=by
 have key:=rG (b:=bx WX) (λq l=> ∃j:Nat,j<=16/\q=16-j/\l=(((),n,(),((((List.range j).countP λi=>decide ((jg v i).1=3/\(iD v.tr (jg v i).2.1).1=(iD v.tr n).1):Nat)):Int),v.c,(j:Int),()),v.e)/\∀j',j'<j->(jg v j').1=3->(jg v j').2.1≠n)
  (λr=>r= .inl ((5,()),v.e)\/(r= .inr (((),((((List.range 16).countP λi=>decide ((jg v i).1=3/\(iD v.tr (jg v i).2.1).1=(iD v.tr n).1):Nat)):Int),()),v.e)/\∀j,j<16->(jg v j).1=3->(jg v j).2.1≠n)) (λq l hl=>by
  obtain⟨j,hj,rfl,rfl,wy⟩:=hl;by_cases hc:j<16
  ·obtain⟨f,o,s,fr,ou,c1,c2⟩:=h.ci j hc
   have e1:=lD hc (by omega)
   have hs:=wX c1;have FX:=List.countP_le_length (p:=λi=>decide ((jg v i).1=3/\(iD v.tr (jg v i).2.1).1=(iD v.tr n).1)) (l:=List.range j);rw[List.length_range] at FX;have Pl:(List.range (j+1)).countP (λi=>decide ((jg v i).1=3/\(iD v.tr (jg v i).2.1).1=(iD v.tr n).1))=(List.range j).countP (λi=>decide ((jg v i).1=3/\(iD v.tr (jg v i).2.1).1=(iD v.tr n).1))+(if s.1=3/\(iD v.tr s.2.1).1=(iD v.tr n).1 then 1 else 0):=by
    rw[List.range_succ,List.countP_append,List.countP_cons,List.countP_nil];simp only[hs,zdN,zep]
   have t1:=oa h.ss.tr n;rw[Fc hn] at t1;by_cases h3:s.1=3
   ·have e2: ¬s.1=2:=by omega
    have t2:=oa h.ss.tr s.2.1;have hth:=h.qi.there j hc (by rw[hs];exact h3)
    rw[hs] at hth;rw[Fc hth] at t2;by_cases h4:s.2.1=n
    ·exact .inr ⟨.inl ((5,()),v.e),by simp only[bx,V.e,↓xo,xw,oT ((j:Int)<16),ot (lu hc),zdA,zdy,zdB,c1.c,au,c1.S,ai,aB,ot h3,bc e2,zdC,zdz,aJ c1.S,ot h4], .inl rfl⟩
    ·by_cases h5:(iD v.tr s.2.1).1=(iD v.tr n).1
     ·rw[if_pos ⟨h3,h5⟩] at Pl
      have e3:i64.wrap ((((List.range j).countP λi=>decide ((jg v i).1=3/\(iD v.tr (jg v i).2.1).1=(iD v.tr n).1):Nat):Int)+1)=(((List.range (j+1)).countP λi=>decide ((jg v i).1=3/\(iD v.tr (jg v i).2.1).1=(iD v.tr n).1):Nat):Int):=by
       rw[nO (by omega) (by omega),Pl];omega
      exact .inl ⟨_,by simp only[bx,V.e,↓xo,xw,oT ((j:Int)<16),ot (lu hc),zdA,zdy,zdB,c1.c,au,c1.S,ai,aB,ot h3,bc e2,zdC,zdz,aJ c1.S,bc h4,t1,t2,ot h5,e1,e3],16-(j+1),by omega,j+1,by omega,rfl,rfl,λj' BZ h'=>by
       by_cases e:j'=j
       ·subst e;rw[hs];exact h4
       ·exact wy j' (by omega) h'⟩
     ·have Vc:(List.range (j+1)).countP (λi=>decide ((jg v i).1=3/\(iD v.tr (jg v i).2.1).1=(iD v.tr n).1))=(List.range j).countP (λi=>decide ((jg v i).1=3/\(iD v.tr (jg v i).2.1).1=(iD v.tr n).1)):=by rw[Pl,if_neg (λq=>h5 q.2)];rfl
      exact .inl ⟨_,by simp only[bx,V.e,↓xo,xw,oT ((j:Int)<16),ot (lu hc),zdA,zdy,zdB,c1.c,au,c1.S,ai,aB,ot h3,bc e2,zdC,zdz,aJ c1.S,bc h4,t1,t2,bc h5,e1,Vc],16-(j+1),by omega,j+1,by omega,rfl,rfl,λj' BZ h'=>by
       by_cases e:j'=j
       ·subst e;rw[hs];exact h4
       ·exact wy j' (by omega) h'⟩
   ·have Vc:(List.range (j+1)).countP (λi=>decide ((jg v i).1=3/\(iD v.tr (jg v i).2.1).1=(iD v.tr n).1))=(List.range j).countP (λi=>decide ((jg v i).1=3/\(iD v.tr (jg v i).2.1).1=(iD v.tr n).1)):=by rw[Pl,if_neg (λq=>h3 q.1)];rfl
    exact .inl ⟨_,by simp only[bx,V.e,↓xo,xw,oT ((j:Int)<16),ot (lu hc),zdA,zdy,zdB,c1.c,au,c1.S,ai,bc h3,zdD,aJ c1.S,e1,Vc],16-(j+1),by omega,j+1,by omega,rfl,rfl,λj' BZ h'=>by
     by_cases e:j'=j
     ·subst e;rw[hs] at h';exact absurd h' h3
     ·exact wy j' (by omega) h'⟩
  ·obtain rfl:j=16:=by omega
   exact .inr ⟨_,by simp only[bx,↓xo,oF (((16:Nat):Int)<16),zdz], .inr ⟨rfl,wy⟩⟩)
 obtain⟨r,h1,h2⟩:=key 16 (((),n,(),0,v.c,0,()),v.e) ⟨0,by omega,by omega,rfl,λj hj=>by omega⟩
 rcases h2 with rfl|⟨rfl,h2⟩
 ·exact .inl h1
 ·exact .inr ⟨h1,h2⟩
theorem Ur (h:VI P k m v μ)(n:Int): ∃e,eI WX (((),n,()),v.e)=some ((e,()),v.e)/\(e=0->Yj v n):=by
 have h1:=oI h.ss.tr n;cases ht:lC v.tr n with
 |false=>
  rw[ht] at h1;exact⟨16,by simp only[eI,V.e,cT,zdy,h1,zdD,zdA],λq=>by omega⟩
 |true=>
  rw[ht] at h1;have hn:=qO ht;obtain⟨b,h2⟩:=NO h.ss hn;have h3:=oa h.ss.tr n;simp only[V.s] at h2;cases b with
  |true=>exact⟨15,by simp only[eI,V.e,cT,zdy,h1,h2,zdC,zdz,zdA],λq=>by omega⟩
  |false=>
   cases ho:(vk v.tr n).2.2.2.2.1 with
   |true=>exact⟨7,by simp only[eI,V.e,cT,zdy,h1,h2,h3,ho,zdC,zdz,zdA],λq=>by omega⟩
   |false=>
    rcases Uq h ht with hl|⟨hl,wy⟩
    ·simp only[V.e] at hl
     exact⟨5,by simp only[eI,V.e,cT,zdy,h1,h2,h3,ho,zdC,zdz,↓xl,hl],λq=>by omega⟩
    ·simp only[V.e] at hl
     by_cases hq:(((List.range 16).countP λi=>decide ((jg v i).1=3/\(iD v.tr (jg v i).2.1).1=(iD v.tr n).1):Nat):Int)>=v.cfg.2.2.2.2.2.2.2.1
     ·exact⟨4,by simp only[eI,V.e,cT,zdy,h1,h2,h3,ho,zdC,zdz,↓xl,hl,dM,↓xo,ot hq,zdA],λq=>by omega⟩
     ·exact⟨0,by simp only[eI,V.e,cT,zdy,h1,h2,h3,ho,zdC,zdz,↓xl,hl,dM,↓xo,bc hq],λ_=>⟨ht,wy,by omega⟩⟩
theorem Fe (pk:PK P)(h:VI P k m v μ){f o:Nat}{s:xv}{fr ou:(List Int)×Bool×Unit}(hc:nv v i f o s fr ou){s':xv}(l8:zb7 s' ou)(hq:QI {v with S:=v.S.set i (s',())}):VI P k m {v with S:=v.S.set i (s',())} μ:=by
 refine⟨h.ss.pa (by rfl),λj hj=>?_,h.mt,h.lg,pk.pa h.p (by rfl) (by rfl) (by rfl),hq⟩
 by_cases e:j=i
 ·subst e
  exact⟨f,o,s',fr,ou,hc.jg s',l8⟩
 ·obtain⟨f',o',s2,wQ,IQ,h1,h2⟩:=h.ci j hj
  exact⟨f',o',s2,wQ,IQ,⟨h1.lt,h1.c,by show(v.S.set i _)[j]?=_;rw[kF e];exact h1.S,h1.F,h1.O⟩,h2⟩
theorem I8 (h:QI v){f o:Nat}{s:xv}{fr ou:(List Int)×Bool×Unit}(hc:nv v i f o s fr ou){s':xv}(hs:s'.1=3->s.1=3/\s'.2.1=s.2.1):QI {v with S:=v.S.set i (s',())}:=by
 have Ln:=wX hc;refine h.mono (λj hj h3=>?_) .rfl (by rfl)
 have e:=AP hc (x:=s') rfl j;change ((v.S.set i (s',())).getD j (s0,())).1.1=3 at h3;show(jg v j).1=3/\((v.S.set i (s',())).getD j (s0,())).1.2.1=(jg v j).2.1
 rw[e] at h3⊢;by_cases q:j=i
 ·subst q
  rw[if_pos rfl] at h3⊢;rw[Ln];exact hs h3
 ·rw[if_neg q] at h3⊢;exact⟨h3,rfl⟩
theorem zcc (h:QI v){f o:Nat}{s:xv}{fr ou:(List Int)×Bool×Unit}(hc:nv v i f o s fr ou)(h2:s.1≠3){s':xv}(h3:s'.1=3)(hm:Yj v s'.2.1):QI {v with S:=v.S.set i (s',())}:=by
 have Ln:=wX hc;have es: ∀j,jg {v with S:=v.S.set i (s',())} j=if j=i then s' else jg v j:=λj=>AP hc (x:=s') rfl j
 refine⟨h.tre,λa b ha hb h1 h2 h4=>?_,λa ha h1=>?_,λfm=>?_⟩
 ·rw[es] at h1 h4
  rw[es] at h2 h4;by_cases qa:a=i
  ·by_cases qb:b=i
   ·rw[qa,qb]
   ·rw[if_pos qa,if_neg qb] at h4
    rw[if_neg qb] at h2;exact absurd h4.symm (hm.alone b hb h2)
  ·by_cases qb:b=i
   ·rw[if_neg qa,if_pos qb] at h4
    rw[if_neg qa] at h1;exact absurd h4 (hm.alone a ha h1)
   ·rw[if_neg qa,if_neg qb] at h4
    rw[if_neg qa] at h1;rw[if_neg qb] at h2;exact h.uniq a b ha hb h1 h2 h4
 ·rw[es] at h1⊢
  by_cases qa:a=i
  ·rw[if_pos qa];exact hm.there
  ·rw[if_neg qa] at h1⊢;exact h.there a ha h1
 ·show(((List.range 16).countP λi_1=>decide ((jg {v with S:=v.S.set i (s',())} i_1).1=3/\(iD v.tr (jg {v with S:=v.S.set i (s',())} i_1).2.1).1=fm):Nat):Int)<=v.cfg.2.2.2.2.2.2.2.1
  simp only[es];by_cases hf:(iD v.tr s'.2.1).1=fm
  ·have key: ∀l:List Nat,l.Nodup->l.countP (λj=>decide ((if j=i then s' else jg v j).1=3/\(iD v.tr (if j=i then s' else jg v j).2.1).1=fm))<=l.countP (λj=>decide ((jg v j).1=3/\(iD v.tr (jg v j).2.1).1=fm))+(if i∈l then 1 else 0):=by
    intro l hl;induction l with
    |nil=>simp
    |cons x l ih=>
     obtain⟨n1,n2⟩:=List.nodup_cons.1 hl;have:=ih n2;rw[List.countP_cons,List.countP_cons];by_cases e:x=i
     ·subst e
      rw[if_neg n1] at this;rw[if_pos (zdM ..)];split<;>split<;>omega
     ·have hm':(i∈x::l)↔i∈l:=by simp[Ne.symm e]
      simp only[hm',if_neg e];omega
   have:=key (List.range 16) List.nodup_range;have h6:=hm.room;rw[hf] at h6;split at this<;>omega
  ·have:=List.countP_mono_left (l:=List.range 16) (p:=λj=>decide ((if j=i then s' else jg v j).1=3/\(iD v.tr (if j=i then s' else jg v j).2.1).1=fm)) (q:=λj=>decide ((jg v j).1=3/\(iD v.tr (jg v j).2.1).1=fm)) (λj hj hp=>by
    have hp:=of_decide_eq_true hp;by_cases e:j=i
    ·rw[if_pos e] at hp;exact absurd hp.2 hf
    ·rw[if_neg e] at hp;exact decide_eq_true hp)
   have:=h.Ky fm;omega
theorem Ff {f o:Nat}{s:xv}{fr ou:(List Int)×Bool×Unit}(hc:nv v i f o s fr ou){s':xv}(hs:s'.1=0\/s'.2.2.2.2.1=v.now):Ev i v {v with S:=v.S.set i (s',())}:=⟨rfl,rfl,rfl,λj hj=>by
 show(((v.S.set i (s',())).getD j (s0,())).1=_)\/((v.S.set i (s',())).getD j (s0,())).1.1=0\/_/\((v.S.set i (s',())).getD j (s0,())).1.2.2.2.2.1=_
 rw[AP hc rfl j];by_cases e:j=i
 ·rw[if_pos e]
  rcases hs with hs|hs
  ·exact .inr (.inl hs)
  ·exact .inr (.inr ⟨e,hs⟩)
 ·rw[if_neg e];exact .inl rfl⟩
theorem Ra {a b:List Int}(ha:a.length=32)(hb:b.length=32): ∃r,jR WX ((a,b,()),())=some ((r,()),()):=by
 obtain⟨CV,h1,_⟩:=zD a b ha hb 32 0 (by omega) 0#8
 change ag (gP WX) (((),(),0,0,()),a,b,())=_ at h1;exact⟨WX.af (((CV.toNat:Nat):Int)=0),by simp only[jR,↓xl,h1,zdy]⟩
theorem NP (pk:PK P)(h:VI P k m v μ)(hm:m<=90000000000)(hi:i<16){tag:List Int}(zdi:tag.length=32): ∃v' μ' m',cH WX (((),(i:Int),tag,()),v.e)=some ((),v'.e)/\VI P k m' v' μ'/\m'<=m+100/\Ev i v v':=by
 obtain⟨f,o,s,fr,ou,hc,l8⟩:=h.ci i hi;by_cases h2:s.1=2
 ·obtain⟨e,y1,y2⟩:=Ur h s.2.1
  by_cases he:e=0
  ·subst he
   have lQ:=y2 rfl;have ht:=oa h.ss.tr s.2.1;have yJ:=Ud h.ss.tr s.2.1;obtain⟨F9,t1,t2⟩:=Na yJ l8.rD;obtain⟨b,t3⟩:=Ra zdi t2;have Kw:=To yJ l8.rD t1 t3 s.2.1 s.2.2.2.1 s.2.2.2.2.1 v.now;have hs:(2,s.2.1,s.2.2.1,s.2.2.2.1,s.2.2.2.2.1,())=s:=by rw[<-h2]
   rw[hs] at Kw;simp only[V.e] at y1;cases b with
   |true=>
    simp only[if_true] at Kw;have v1:=Fe pk h hc (s':=(3,s.2.1,gL,1,v.now,())) ⟨l8.out,by simp,by simp,l8.qB⟩ (zcc h.qi hc (by omega) rfl lQ)
    have ev:=Ff hc (s':=(3,s.2.1,gL,1,v.now,())) (.inr rfl);obtain⟨e',v2,μ',r1,r2,r3⟩:=Up pk v1 (by omega) (d:=4) (.inr (.inl rfl)) l8.qB
    obtain⟨v3,w1,w2,w3⟩:=AQ pk r2 hi NJ;refine⟨v3,μ',m+46,?_,w2,by omega,ev.trans ((r3.trans w3).dw.ev i)⟩
    simp only[V.e] at r1 w1;simp only[cH,V.e,↓xo,ot (lu hi),zdA,zdB,hc.c,zdy,au,hc.S,aB,ai,ot h2,aJ hc.S,zdC,zdz,y1,eq_self,iL,cT,ht,aZ,Kw,r1,w1]
   |false=>
    simp only[zdG,if_false] at Kw;have v1:=Fe pk h hc (s':=s0) ⟨l8.out,by simp[s0], .inl rfl,by simp[s0]⟩ (I8 h.qi hc (λq=>by cases q))
    have ev:=Ff hc (s':=s0) (.inl rfl);obtain⟨e',v2,μ',r1,r2,r3⟩:=Up pk v1 (by omega) (d:=3) (.inl rfl) l8.qB
    obtain⟨v3,w1,w2,w3⟩:=uW pk r2 hi 0 16;obtain⟨v4,x1,x2,x3,x4⟩:=K8 pk w2 hi;refine⟨v4,μ',m+46,?_,x2,by omega,ev.trans (((r3.trans w3).dw.trans x3).ev i)⟩
    simp only[V.e] at r1 w1 x1;simp only[cH,V.e,↓xo,ot (lu hi),zdA,zdB,hc.c,zdy,au,hc.S,aB,ai,ot h2,aJ hc.S,zdC,zdD,zdz,y1,eq_self,iL,cT,ht,aZ,Kw,r1,w1,x1]
  ·obtain⟨v1,w1,w2,w3⟩:=uW pk h hi 0 e
   obtain⟨v2,μ',m',d1,d2,d3,d4,_⟩:=qk pk w2 (by omega) hi
   refine⟨v2,μ',m',?_,d2,by omega,(w3.dw.trans d4).ev i⟩
   simp only[V.e] at y1 w1 d1;simp only[cH,V.e,↓xo,ot (lu hi),zdA,zdB,hc.c,zdy,au,hc.S,aB,ai,ot h2,aJ hc.S,zdC,zdz,y1,bc he,zdD,w1,d1]
 ·obtain⟨v2,μ',m',d1,d2,d3,d4,_⟩:=qk pk h (by omega) hi
  refine⟨v2,μ',m',?_,d2,by omega,d4.ev i⟩
  simp only[V.e] at d1;by_cases h3:s.1=3
  ·simp only[cH,V.e,↓xo,ot (lu hi),zdA,zdB,hc.c,zdy,au,hc.S,aB,ai,bc h2,ot h3,zdz,aJ hc.S,zdD,d1]
  ·simp only[cH,V.e,↓xo,ot (lu hi),zdA,zdB,hc.c,zdy,au,hc.S,aB,ai,bc h2,bc h3,zdz,aJ hc.S,zdD,d1]
end
def vZ (r:nN):Prop:=0<=r.2.1/\r.2.1<=(r.1.length:Int)/\r.1.length<=1000000
theorem Hj {r:nN}(h:vZ r){n:Int}(hn:1<=n/\n<=100):(∃r',eC WX (((),n,()),(r,()))=some (.inl (((),()),r',([]:List Int),()))/\vZ r')\/∃(l:List Int) (r':nN),eC WX (((),n,()),(r,()))=some (.inr ((l,()),(r',())))/\vZ r'/\(l.length:Int)=n:=by
 obtain⟨b,at_,bad,⟨⟩⟩:=r;obtain⟨h1,h2,h3⟩:=h;simp only at h1 h2 h3;cases bad with
 |true=>exact .inl ⟨(b,at_,true,()),by simp only[eC,zdA],h1,h2,h3⟩
 |false=>
  have e1:i64.wrap ((b.length:Int)-at_)=(b.length:Int)-at_:=nO (by omega) (by omega)
  by_cases hc:n>(b.length:Int)-at_
  ·exact .inl ⟨(b,at_,true,()),by simp only[eC,zdz,↓xo,xw,e1,ot hc,zdA],h1,h2,h3⟩
  ·have e2:i64.wrap (at_+n)=at_+n:=nO (by omega) (by omega)
   have e3:i64.wrap (at_+n-n)=at_:=by rw[nO (by omega) (by omega)];omega
   refine .inr ⟨(b.take (at_+n).toNat).drop at_.toNat,(b,at_+n,false,()),by simp only[eC,zdz,↓xo,xw,e1,bc hc,e2,e3,oT (0<=at_/\at_<=at_+n/\at_+n<=(b.length:Int)),zdA],⟨?_,?_,h3⟩,?_⟩
   ·show 0<=at_+n;omega
   ·show at_+n<=(b.length:Int);omega
   ·rw[zd4,zd3];omega
theorem Hk (l:List Int)(hl:l.length<=1000): ∃x:Int,ag (cg WX) ((0,l,(l.length:Int),0,()),())=some ((x,()),()):=by
 obtain⟨x,h1,_⟩:=pO (b:=cg WX) l.length (λk (s:Int)=>((s,l,(l.length:Int),(k:Int),()),())) (λs=>((s,()),())) (λ_ _=>True)
  (λk s hk _=>by
   have hx:=zdE hk;have e1:=lD hk (by omega)
   have e0: ¬(8:Int)<0:=by omega
   exact⟨_,by simp only[cg,↓xo,xw,oT ((k:Int)<(l.length:Int)),oT ((0:Int)<=(k:Int)),zdA,zdB,hx,zdy,bc e0,zdz,e1];rfl,trivial⟩)
  (λs _=>by simp only[cg,↓xo,oF ((l.length:Int)<(l.length:Int)),zdz]) 0 trivial
 exact⟨x,h1⟩
theorem La {r:nN}(h:vZ r){n:Int}(hn:1<=n/\n<=100): ∃(x:Int) (r':nN),eN WX (((),n,()),(r,()))=some ((x,()),(r',()))/\vZ r':=by
 rcases Hj h hn with⟨r',h1,h2⟩|⟨l,r',h1,h2,h3⟩
 ·obtain⟨x,hx⟩:=Hk [] (by simp)
  exact⟨x,r',by simp only[eN,h1,zdy,↓xl,hx],h2⟩
 ·obtain⟨x,hx⟩:=Hk l (by omega)
  exact⟨x,r',by simp only[eN,h1,zdy,↓xl,hx],h2⟩
theorem sa {r:nN}(h:vZ r): ∃(x:Int) (r':nN),aH WX (((),()),(r,()))=some ((x,()),(r',()))/\vZ r':=by
 obtain⟨x,r',h1,h2⟩:=La h (n:=1) ⟨by omega,by omega⟩
 exact⟨WX.wr .i64 x,r',by simp only[aH,h1,zdy],h2⟩
theorem np {r:nN}(h:vZ r): ∃(x:Int) (r':nN),aW WX (((),()),(r,()))=some ((x,()),(r',()))/\vZ r':=by
 obtain⟨x,r',h1,h2⟩:=La h (n:=4) ⟨by omega,by omega⟩
 exact⟨WX.wr .u32 x,r',by simp only[aW,h1,zdy],h2⟩
theorem Xb {r:nN}(h:vZ r): ∃(l:List Int) (r':nN),eH WX (((),()),(r,()))=some ((l,()),(r',()))/\vZ r'/\l.length=32:=by
 have e0:(0:Int)<=0/\(0:Int)<=((32:Nat):Int)/\((32:Nat):Int)<=(32:Nat):=by omega
 have e1:(((32:Nat):Int)-(0:Int)).toNat=32:=by decide
 rcases Hj h (n:=32) ⟨by omega,by omega⟩ with⟨r',h1,h2⟩|⟨l,r',h1,h2,h3⟩
 ·refine⟨_,r',by simp only[eH,↓xo,ot e0,zdA,h1,zdy,e1];rfl,h2,?_⟩
  simp
 ·refine⟨_,r',by simp only[eH,↓xo,ot e0,zdA,h1,zdy,e1];rfl,h2,?_⟩
  have:l.length=32:=by omega
  simp[this]
theorem sv (r:nN): ∃b,cp WX (((),()),(r,()))=some ((b,()),(r,())):=by
 cases hb:r.2.2.1 with
 |true=>exact⟨false,by simp only[cp,hb,zdC,zdz]⟩
 |false=>exact⟨af (r.2.1=(r.1.length:Int)),by simp only[cp,hb,zdD,zdA,↓xo]⟩
theorem ql (b:List Int)(h:b.length<=1000000):m9 WX ((b,()),())=some (((),()),((b,0,false,()),())):=by
 have hc:=ED b (by omega)
 simp only[m9,hc,zdy]
theorem yF {L R:Type}{b:L->Option (L⊕R)}{l l':L}(h:b l=some (.inl l')):ag b l=ag b l':=by rw[aw,h]
theorem kG {L R:Type}{b:L->Option (L⊕R)}{l:L}{r:R}(h:b l=some (.inr r)):ag b l=some r:=by rw[aw,h]
structure Yk (c:mU):Prop where
 right:bg WX ((c,()),())=some ((true,()),())
 kind:1<=c.1/\c.1<=9
 zcd:c.1=1->0<=c.2.2.1/\c.2.2.1<=31
 ans:c.1=2->c.2.2.2.2.2.2.2.2.2.2.2.2.2.2.1.length=32
 cmd:c.1=3\/c.1=4\/c.1=5\/c.1=6\/c.1=9->K7 c
def Gj (b:List Int):Prop:= ∃c ok,ff WX ((b,()),())=some ((c,ok,()),())/\(ok=true->Yk c)
theorem nV {L R:Type}{F:L->Option (L⊕R)}{a b:Bool->L}(x lo hi:Int)(h0:F (a false)=some (.inl (b false)))(h1:F (a true)=bif WX.af (x>=lo) then some (.inl (b (WX.af (x<=hi)))) else some (.inl (b false)))(t:Bool): ∃t',ag F (a t)=ag F (b t')/\(t'=true->t=true/\lo<=x/\x<=hi):=by
 cases t with
 |false=>exact⟨false,yF h0,λq=>by cases q⟩
 |true=>
  rw[xo,xo] at h1;by_cases h:x>=lo
  ·rw[ot h,zdA] at h1
   exact⟨_,yF h1,λq=>⟨rfl,h,kL.1 q⟩⟩
  ·rw[bc h,zdz] at h1
   exact⟨false,yF h1,λq=>by cases q⟩
theorem stepG {L R α:Type}{F:L->Option (L⊕R)}{l l':L}{m:Option α}{x:α}{f:α->Option (L⊕R)}(h:F l=m.bind f)(e:m=some x)(h2:f x=some (.inl l')):ag F l=ag F l':=yF (by rw[h,e];exact h2)
abbrev g1 (k:Int)(c:mU)(t:Bool):ij.D:=(((),t,(),1,k,()),c,(((),1,0,31,()),()),())
abbrev g3 (k:Int)(c:mU)(t:Bool):br.D:=(((),t,(),9,k,()),c,(((),4,0,1073741824,()),((),1,0,7,()),((),4,0,1073741824,()),((),1,0,255,()),((),1,0,255,()),((),4,0,1073741824,()),((),4,0,1073741824,()),((),4,0,1073741824,()),((),4,0,1073741824,()),()),())
abbrev g4 (k:Int)(c:mU)(t:Bool):dx.D:=(((),t,(),4,k,()),c,(((),4,0,1073741824,()),((),1,0,7,()),((),4,0,1073741824,()),((),1,0,31,()),()),())
abbrev g5 (k:Int)(c:mU)(t:Bool):cI.D:=(((),t,(),5,k,()),c,(((),4,0,1073741824,()),((),1,0,7,()),((),4,0,1073741824,()),((),4,0,1073741824,()),((),4,0,1073741824,()),()),())
abbrev g6 (k:Int)(c:mU)(t:Bool):eE.D:=(((),t,(),3,k,()),c,(((),4,0,1073741824,()),((),1,0,8,()),((),1,1,3,()),()),())
abbrev g9 (k:Int)(c:mU)(t:Bool):dy.D:=(((),t,(),4,k,()),c,(((),4,0,1073741824,()),((),1,1,9,()),((),1,0,255,()),((),1,0,255,()),()),())
section
variable (sq td it id sd od p q sh st wh a b:Int)(tg:List Int)
theorem Fg: ∃r,bg WX (((1,sq,td,it,id,sd,od,p,q,sh,st,wh,a,b,tg,()),()),())=some ((r,()),())/\(r=true->(0<=td/\td<=31)):=by
 have hf:dz WX (((),()),((1,sq,td,it,id,sd,od,p,q,sh,st,wh,a,b,tg,()),()))=some (.inl (((),true,()),(1,sq,td,it,id,sd,od,p,q,sh,st,wh,a,b,tg,()),(((),1,0,31,()),()),())):=by kernel_rfl
 obtain⟨t0,u0,w0⟩:=nV (F:=ij WX) (a:=g1 0 (1,sq,td,it,id,sd,od,p,q,sh,st,wh,a,b,tg,())) (b:=g1 1 (1,sq,0,it,id,sd,od,p,q,sh,st,wh,a,b,tg,())) td 0 31 (by kernel_rfl) (by kernel_rfl) true
 have hl:ag (ij WX) (g1 0 (1,sq,td,it,id,sd,od,p,q,sh,st,wh,a,b,tg,()) true)=some (((),t0,()),(1,sq,0,it,id,sd,od,p,q,sh,st,wh,a,b,tg,()),(((),1,0,31,()),()),()):=by
  rw[u0];exact kG (by kernel_rfl)
 cases ht:t0 with
 |false=>rw[ht] at hl;exact⟨false,by simp only[bg,hf,zdy,↓xl,hl,↓xo,Int.reduceEq,nq,zdz,zdA],λq=>by cases q⟩
 |true=>
  rw[ht] at hl;obtain⟨x0,y0⟩:=w0 ht;exact⟨_,by simp only[bg,hf,zdy,↓xl,hl,↓xo,Int.reduceEq,nq,zdz,zdA];rfl,λ_=>y0⟩
theorem Fh: ∃r,bg WX (((3,sq,td,it,id,sd,od,p,q,sh,st,wh,a,b,tg,()),()),())=some ((r,()),())/\(r=true->(0<=sq/\sq<=1073741824)/\(0<=it/\it<=7)/\(0<=id/\id<=1073741824)/\(0<=sd/\sd<=255)/\(0<=od/\od<=255)/\(0<=p/\p<=1073741824)/\(0<=q/\q<=1073741824)/\(0<=sh/\sh<=1073741824)/\(0<=st/\st<=1073741824)):=by
 have hf:dz WX (((),()),((3,sq,td,it,id,sd,od,p,q,sh,st,wh,a,b,tg,()),()))=some (.inr (.inl (((),true,()),(3,sq,td,it,id,sd,od,p,q,sh,st,wh,a,b,tg,()),(((),4,0,1073741824,()),((),1,0,7,()),((),4,0,1073741824,()),((),1,0,255,()),((),1,0,255,()),((),4,0,1073741824,()),((),4,0,1073741824,()),((),4,0,1073741824,()),((),4,0,1073741824,()),()),()))):=by kernel_rfl
 obtain⟨t0,u0,w0⟩:=nV (F:=br WX) (a:=g3 0 (3,sq,td,it,id,sd,od,p,q,sh,st,wh,a,b,tg,())) (b:=g3 1 (3,0,td,it,id,sd,od,p,q,sh,st,wh,a,b,tg,())) sq 0 1073741824 (by kernel_rfl) (by kernel_rfl) true
 obtain⟨t1,u1,w1⟩:=nV (F:=br WX) (a:=g3 1 (3,0,td,it,id,sd,od,p,q,sh,st,wh,a,b,tg,())) (b:=g3 2 (3,0,td,0,id,sd,od,p,q,sh,st,wh,a,b,tg,())) it 0 7 (by kernel_rfl) (by kernel_rfl) t0
 obtain⟨t2,u2,w2⟩:=nV (F:=br WX) (a:=g3 2 (3,0,td,0,id,sd,od,p,q,sh,st,wh,a,b,tg,())) (b:=g3 3 (3,0,td,0,0,sd,od,p,q,sh,st,wh,a,b,tg,())) id 0 1073741824 (by kernel_rfl) (by kernel_rfl) t1
 obtain⟨t3,u3,w3⟩:=nV (F:=br WX) (a:=g3 3 (3,0,td,0,0,sd,od,p,q,sh,st,wh,a,b,tg,())) (b:=g3 4 (3,0,td,0,0,0,od,p,q,sh,st,wh,a,b,tg,())) sd 0 255 (by kernel_rfl) (by kernel_rfl) t2
 obtain⟨t4,u4,w4⟩:=nV (F:=br WX) (a:=g3 4 (3,0,td,0,0,0,od,p,q,sh,st,wh,a,b,tg,())) (b:=g3 5 (3,0,td,0,0,0,0,p,q,sh,st,wh,a,b,tg,())) od 0 255 (by kernel_rfl) (by kernel_rfl) t3
 obtain⟨t5,u5,w5⟩:=nV (F:=br WX) (a:=g3 5 (3,0,td,0,0,0,0,p,q,sh,st,wh,a,b,tg,())) (b:=g3 6 (3,0,td,0,0,0,0,0,q,sh,st,wh,a,b,tg,())) p 0 1073741824 (by kernel_rfl) (by kernel_rfl) t4
 obtain⟨t6,u6,w6⟩:=nV (F:=br WX) (a:=g3 6 (3,0,td,0,0,0,0,0,q,sh,st,wh,a,b,tg,())) (b:=g3 7 (3,0,td,0,0,0,0,0,0,sh,st,wh,a,b,tg,())) q 0 1073741824 (by kernel_rfl) (by kernel_rfl) t5
 obtain⟨t7,u7,w7⟩:=nV (F:=br WX) (a:=g3 7 (3,0,td,0,0,0,0,0,0,sh,st,wh,a,b,tg,())) (b:=g3 8 (3,0,td,0,0,0,0,0,0,0,st,wh,a,b,tg,())) sh 0 1073741824 (by kernel_rfl) (by kernel_rfl) t6
 obtain⟨t8,u8,w8⟩:=nV (F:=br WX) (a:=g3 8 (3,0,td,0,0,0,0,0,0,0,st,wh,a,b,tg,())) (b:=g3 9 (3,0,td,0,0,0,0,0,0,0,0,wh,a,b,tg,())) st 0 1073741824 (by kernel_rfl) (by kernel_rfl) t7
 have hl:ag (br WX) (g3 0 (3,sq,td,it,id,sd,od,p,q,sh,st,wh,a,b,tg,()) true)=some (((),t8,()),(3,0,td,0,0,0,0,0,0,0,0,wh,a,b,tg,()),(((),4,0,1073741824,()),((),1,0,7,()),((),4,0,1073741824,()),((),1,0,255,()),((),1,0,255,()),((),4,0,1073741824,()),((),4,0,1073741824,()),((),4,0,1073741824,()),((),4,0,1073741824,()),()),()):=by
  rw[u0,u1,u2,u3,u4,u5,u6,u7,u8];exact kG (by kernel_rfl)
 cases ht:t8 with
 |false=>rw[ht] at hl;exact⟨false,by simp only[bg,hf,zdy,↓xl,hl,↓xo,Int.reduceEq,nq,zdz,zdA],λq=>by cases q⟩
 |true=>
  rw[ht] at hl;obtain⟨x8,y8⟩:=w8 ht;obtain⟨x7,y7⟩:=w7 x8;obtain⟨x6,y6⟩:=w6 x7;obtain⟨x5,y5⟩:=w5 x6;obtain⟨x4,y4⟩:=w4 x5;obtain⟨x3,y3⟩:=w3 x4;obtain⟨x2,y2⟩:=w2 x3;obtain⟨x1,y1⟩:=w1 x2;obtain⟨x0,y0⟩:=w0 x1;exact⟨_,by simp only[bg,hf,zdy,↓xl,hl,↓xo,Int.reduceEq,nq,zdz,zdA];rfl,λ_=>⟨y0,y1,y2,y3,y4,y5,y6,y7,y8⟩⟩
theorem Fi: ∃r,bg WX (((4,sq,td,it,id,sd,od,p,q,sh,st,wh,a,b,tg,()),()),())=some ((r,()),())/\(r=true->(0<=sq/\sq<=1073741824)/\(0<=it/\it<=7)/\(0<=id/\id<=1073741824)/\(0<=td/\td<=31)):=by
 have hf:dz WX (((),()),((4,sq,td,it,id,sd,od,p,q,sh,st,wh,a,b,tg,()),()))=some (.inr (.inr (.inl (((),true,()),(4,sq,td,it,id,sd,od,p,q,sh,st,wh,a,b,tg,()),(((),4,0,1073741824,()),((),1,0,7,()),((),4,0,1073741824,()),((),1,0,31,()),()),())))):=by kernel_rfl
 obtain⟨t0,u0,w0⟩:=nV (F:=dx WX) (a:=g4 0 (4,sq,td,it,id,sd,od,p,q,sh,st,wh,a,b,tg,())) (b:=g4 1 (4,0,td,it,id,sd,od,p,q,sh,st,wh,a,b,tg,())) sq 0 1073741824 (by kernel_rfl) (by kernel_rfl) true
 obtain⟨t1,u1,w1⟩:=nV (F:=dx WX) (a:=g4 1 (4,0,td,it,id,sd,od,p,q,sh,st,wh,a,b,tg,())) (b:=g4 2 (4,0,td,0,id,sd,od,p,q,sh,st,wh,a,b,tg,())) it 0 7 (by kernel_rfl) (by kernel_rfl) t0
 obtain⟨t2,u2,w2⟩:=nV (F:=dx WX) (a:=g4 2 (4,0,td,0,id,sd,od,p,q,sh,st,wh,a,b,tg,())) (b:=g4 3 (4,0,td,0,0,sd,od,p,q,sh,st,wh,a,b,tg,())) id 0 1073741824 (by kernel_rfl) (by kernel_rfl) t1
 obtain⟨t3,u3,w3⟩:=nV (F:=dx WX) (a:=g4 3 (4,0,td,0,0,sd,od,p,q,sh,st,wh,a,b,tg,())) (b:=g4 4 (4,0,0,0,0,sd,od,p,q,sh,st,wh,a,b,tg,())) td 0 31 (by kernel_rfl) (by kernel_rfl) t2
 have hl:ag (dx WX) (g4 0 (4,sq,td,it,id,sd,od,p,q,sh,st,wh,a,b,tg,()) true)=some (((),t3,()),(4,0,0,0,0,sd,od,p,q,sh,st,wh,a,b,tg,()),(((),4,0,1073741824,()),((),1,0,7,()),((),4,0,1073741824,()),((),1,0,31,()),()),()):=by
  rw[u0,u1,u2,u3];exact kG (by kernel_rfl)
 cases ht:t3 with
 |false=>rw[ht] at hl;exact⟨false,by simp only[bg,hf,zdy,↓xl,hl,↓xo,Int.reduceEq,nq,zdz,zdA],λq=>by cases q⟩
 |true=>
  rw[ht] at hl;obtain⟨x3,y3⟩:=w3 ht;obtain⟨x2,y2⟩:=w2 x3;obtain⟨x1,y1⟩:=w1 x2;obtain⟨x0,y0⟩:=w0 x1;exact⟨_,by simp only[bg,hf,zdy,↓xl,hl,↓xo,Int.reduceEq,nq,zdz,zdA];rfl,λ_=>⟨y0,y1,y2,y3⟩⟩
theorem Fj: ∃r,bg WX (((5,sq,td,it,id,sd,od,p,q,sh,st,wh,a,b,tg,()),()),())=some ((r,()),())/\(r=true->(0<=sq/\sq<=1073741824)/\(0<=it/\it<=7)/\(0<=id/\id<=1073741824)/\(0<=p/\p<=1073741824)/\(0<=q/\q<=1073741824)):=by
 have hf:dz WX (((),()),((5,sq,td,it,id,sd,od,p,q,sh,st,wh,a,b,tg,()),()))=some (.inr (.inr (.inr (.inl (((),true,()),(5,sq,td,it,id,sd,od,p,q,sh,st,wh,a,b,tg,()),(((),4,0,1073741824,()),((),1,0,7,()),((),4,0,1073741824,()),((),4,0,1073741824,()),((),4,0,1073741824,()),()),()))))):=by kernel_rfl
 obtain⟨t0,u0,w0⟩:=nV (F:=cI WX) (a:=g5 0 (5,sq,td,it,id,sd,od,p,q,sh,st,wh,a,b,tg,())) (b:=g5 1 (5,0,td,it,id,sd,od,p,q,sh,st,wh,a,b,tg,())) sq 0 1073741824 (by kernel_rfl) (by kernel_rfl) true
 obtain⟨t1,u1,w1⟩:=nV (F:=cI WX) (a:=g5 1 (5,0,td,it,id,sd,od,p,q,sh,st,wh,a,b,tg,())) (b:=g5 2 (5,0,td,0,id,sd,od,p,q,sh,st,wh,a,b,tg,())) it 0 7 (by kernel_rfl) (by kernel_rfl) t0
 obtain⟨t2,u2,w2⟩:=nV (F:=cI WX) (a:=g5 2 (5,0,td,0,id,sd,od,p,q,sh,st,wh,a,b,tg,())) (b:=g5 3 (5,0,td,0,0,sd,od,p,q,sh,st,wh,a,b,tg,())) id 0 1073741824 (by kernel_rfl) (by kernel_rfl) t1
 obtain⟨t3,u3,w3⟩:=nV (F:=cI WX) (a:=g5 3 (5,0,td,0,0,sd,od,p,q,sh,st,wh,a,b,tg,())) (b:=g5 4 (5,0,td,0,0,sd,od,0,q,sh,st,wh,a,b,tg,())) p 0 1073741824 (by kernel_rfl) (by kernel_rfl) t2
 obtain⟨t4,u4,w4⟩:=nV (F:=cI WX) (a:=g5 4 (5,0,td,0,0,sd,od,0,q,sh,st,wh,a,b,tg,())) (b:=g5 5 (5,0,td,0,0,sd,od,0,0,sh,st,wh,a,b,tg,())) q 0 1073741824 (by kernel_rfl) (by kernel_rfl) t3
 have hl:ag (cI WX) (g5 0 (5,sq,td,it,id,sd,od,p,q,sh,st,wh,a,b,tg,()) true)=some (((),t4,()),(5,0,td,0,0,sd,od,0,0,sh,st,wh,a,b,tg,()),(((),4,0,1073741824,()),((),1,0,7,()),((),4,0,1073741824,()),((),4,0,1073741824,()),((),4,0,1073741824,()),()),()):=by
  rw[u0,u1,u2,u3,u4];exact kG (by kernel_rfl)
 cases ht:t4 with
 |false=>rw[ht] at hl;exact⟨false,by simp only[bg,hf,zdy,↓xl,hl,↓xo,Int.reduceEq,nq,zdz,zdA],λq=>by cases q⟩
 |true=>
  rw[ht] at hl;obtain⟨x4,y4⟩:=w4 ht;obtain⟨x3,y3⟩:=w3 x4;obtain⟨x2,y2⟩:=w2 x3;obtain⟨x1,y1⟩:=w1 x2;obtain⟨x0,y0⟩:=w0 x1;exact⟨_,by simp only[bg,hf,zdy,↓xl,hl,↓xo,Int.reduceEq,nq,zdz,zdA];rfl,λ_=>⟨y0,y1,y2,y3,y4⟩⟩
theorem Fk: ∃r,bg WX (((6,sq,td,it,id,sd,od,p,q,sh,st,wh,a,b,tg,()),()),())=some ((r,()),())/\(r=true->(0<=sq/\sq<=1073741824)/\(0<=it/\it<=8)/\(1<=wh/\wh<=3)):=by
 have hf:dz WX (((),()),((6,sq,td,it,id,sd,od,p,q,sh,st,wh,a,b,tg,()),()))=some (.inr (.inr (.inr (.inr (.inl (((),true,()),(6,sq,td,it,id,sd,od,p,q,sh,st,wh,a,b,tg,()),(((),4,0,1073741824,()),((),1,0,8,()),((),1,1,3,()),()),())))))):=by kernel_rfl
 obtain⟨t0,u0,w0⟩:=nV (F:=eE WX) (a:=g6 0 (6,sq,td,it,id,sd,od,p,q,sh,st,wh,a,b,tg,())) (b:=g6 1 (6,0,td,it,id,sd,od,p,q,sh,st,wh,a,b,tg,())) sq 0 1073741824 (by kernel_rfl) (by kernel_rfl) true
 obtain⟨t1,u1,w1⟩:=nV (F:=eE WX) (a:=g6 1 (6,0,td,it,id,sd,od,p,q,sh,st,wh,a,b,tg,())) (b:=g6 2 (6,0,td,0,id,sd,od,p,q,sh,st,wh,a,b,tg,())) it 0 8 (by kernel_rfl) (by kernel_rfl) t0
 obtain⟨t2,u2,w2⟩:=nV (F:=eE WX) (a:=g6 2 (6,0,td,0,id,sd,od,p,q,sh,st,wh,a,b,tg,())) (b:=g6 3 (6,0,td,0,id,sd,od,p,q,sh,st,0,a,b,tg,())) wh 1 3 (by kernel_rfl) (by kernel_rfl) t1
 have hl:ag (eE WX) (g6 0 (6,sq,td,it,id,sd,od,p,q,sh,st,wh,a,b,tg,()) true)=some (((),t2,()),(6,0,td,0,id,sd,od,p,q,sh,st,0,a,b,tg,()),(((),4,0,1073741824,()),((),1,0,8,()),((),1,1,3,()),()),()):=by
  rw[u0,u1,u2];exact kG (by kernel_rfl)
 cases ht:t2 with
 |false=>rw[ht] at hl;exact⟨false,by simp only[bg,hf,zdy,↓xl,hl,↓xo,Int.reduceEq,nq,zdz,zdA],λq=>by cases q⟩
 |true=>
  rw[ht] at hl;obtain⟨x2,y2⟩:=w2 ht;obtain⟨x1,y1⟩:=w1 x2;obtain⟨x0,y0⟩:=w0 x1;exact⟨_,by simp only[bg,hf,zdy,↓xl,hl,↓xo,Int.reduceEq,nq,zdz,zdA];rfl,λ_=>⟨y0,y1,y2⟩⟩
theorem Fm: ∃r,bg WX (((9,sq,td,it,id,sd,od,p,q,sh,st,wh,a,b,tg,()),()),())=some ((r,()),())/\(r=true->(0<=sq/\sq<=1073741824)/\(1<=wh/\wh<=9)/\(0<=a/\a<=255)/\(0<=b/\b<=255)):=by
 have hf:dz WX (((),()),((9,sq,td,it,id,sd,od,p,q,sh,st,wh,a,b,tg,()),()))=some (.inr (.inr (.inr (.inr (.inr (.inl (((),true,()),(9,sq,td,it,id,sd,od,p,q,sh,st,wh,a,b,tg,()),(((),4,0,1073741824,()),((),1,1,9,()),((),1,0,255,()),((),1,0,255,()),()),()))))))):=by kernel_rfl
 obtain⟨t0,u0,w0⟩:=nV (F:=dy WX) (a:=g9 0 (9,sq,td,it,id,sd,od,p,q,sh,st,wh,a,b,tg,())) (b:=g9 1 (9,0,td,it,id,sd,od,p,q,sh,st,wh,a,b,tg,())) sq 0 1073741824 (by kernel_rfl) (by kernel_rfl) true
 obtain⟨t1,u1,w1⟩:=nV (F:=dy WX) (a:=g9 1 (9,0,td,it,id,sd,od,p,q,sh,st,wh,a,b,tg,())) (b:=g9 2 (9,0,td,it,id,sd,od,p,q,sh,st,0,a,b,tg,())) wh 1 9 (by kernel_rfl) (by kernel_rfl) t0
 obtain⟨t2,u2,w2⟩:=nV (F:=dy WX) (a:=g9 2 (9,0,td,it,id,sd,od,p,q,sh,st,0,a,b,tg,())) (b:=g9 3 (9,0,td,it,id,sd,od,p,q,sh,st,0,0,b,tg,())) a 0 255 (by kernel_rfl) (by kernel_rfl) t1
 obtain⟨t3,u3,w3⟩:=nV (F:=dy WX) (a:=g9 3 (9,0,td,it,id,sd,od,p,q,sh,st,0,0,b,tg,())) (b:=g9 4 (9,0,td,it,id,sd,od,p,q,sh,st,0,0,0,tg,())) b 0 255 (by kernel_rfl) (by kernel_rfl) t2
 have hl:ag (dy WX) (g9 0 (9,sq,td,it,id,sd,od,p,q,sh,st,wh,a,b,tg,()) true)=some (((),t3,()),(9,0,td,it,id,sd,od,p,q,sh,st,0,0,0,tg,()),(((),4,0,1073741824,()),((),1,1,9,()),((),1,0,255,()),((),1,0,255,()),()),()):=by
  rw[u0,u1,u2,u3];exact kG (by kernel_rfl)
 cases ht:t3 with
 |false=>rw[ht] at hl;exact⟨false,by simp only[bg,hf,zdy,↓xl,hl,↓xo,Int.reduceEq,nq,zdz,zdA],λq=>by cases q⟩
 |true=>
  rw[ht] at hl;obtain⟨x3,y3⟩:=w3 ht;obtain⟨x2,y2⟩:=w2 x3;obtain⟨x1,y1⟩:=w1 x2;obtain⟨x0,y0⟩:=w0 x1;exact⟨_,by simp only[bg,hf,zdy,↓xl,hl,↓xo,Int.reduceEq,nq,zdz,zdA];rfl,λ_=>⟨y0,y1,y2,y3⟩⟩
theorem Fo: ∃r,bg WX (((2,sq,td,it,id,sd,od,p,q,sh,st,wh,a,b,tg,()),()),())=some ((r,()),()):=by
 have hf:dz WX (((),()),((2,sq,td,it,id,sd,od,p,q,sh,st,wh,a,b,tg,()),()))=some (.inr (.inr (.inr (.inr (.inr (.inr (((),true,()),(2,sq,td,it,id,sd,od,p,q,sh,st,wh,a,b,tg,()),()))))))):=by kernel_rfl
 have hl:ag (fI WX) (((),true,(),0,0,()),(2,sq,td,it,id,sd,od,p,q,sh,st,wh,a,b,tg,()),())=some (((),true,()),(2,sq,td,it,id,sd,od,p,q,sh,st,wh,a,b,tg,()),()):=kG (by simp only[fI,↓xo,oF ((0:Int)<0),nq,zdz])
 exact⟨_,by simp only[bg,hf,zdy,↓xl,hl,↓xo,eq_self,Int.reduceEq,iL,nq,zdA,zdz];rfl⟩
theorem Fq: ∃r,bg WX (((7,sq,td,it,id,sd,od,p,q,sh,st,wh,a,b,tg,()),()),())=some ((r,()),()):=by
 have hf:dz WX (((),()),((7,sq,td,it,id,sd,od,p,q,sh,st,wh,a,b,tg,()),()))=some (.inr (.inr (.inr (.inr (.inr (.inr (((),true,()),(7,sq,td,it,id,sd,od,p,q,sh,st,wh,a,b,tg,()),()))))))):=by kernel_rfl
 have hl:ag (fI WX) (((),true,(),0,0,()),(7,sq,td,it,id,sd,od,p,q,sh,st,wh,a,b,tg,()),())=some (((),true,()),(7,sq,td,it,id,sd,od,p,q,sh,st,wh,a,b,tg,()),()):=kG (by simp only[fI,↓xo,oF ((0:Int)<0),nq,zdz])
 exact⟨_,by simp only[bg,hf,zdy,↓xl,hl,↓xo,eq_self,Int.reduceEq,iL,nq,zdA,zdz];rfl⟩
theorem Fs: ∃r,bg WX (((8,sq,td,it,id,sd,od,p,q,sh,st,wh,a,b,tg,()),()),())=some ((r,()),()):=by
 have hf:dz WX (((),()),((8,sq,td,it,id,sd,od,p,q,sh,st,wh,a,b,tg,()),()))=some (.inr (.inr (.inr (.inr (.inr (.inr (((),true,()),(8,sq,td,it,id,sd,od,p,q,sh,st,wh,a,b,tg,()),()))))))):=by kernel_rfl
 have hl:ag (fI WX) (((),true,(),0,0,()),(8,sq,td,it,id,sd,od,p,q,sh,st,wh,a,b,tg,()),())=some (((),true,()),(8,sq,td,it,id,sd,od,p,q,sh,st,wh,a,b,tg,()),()):=kG (by simp only[fI,↓xo,oF ((0:Int)<0),nq,zdz])
 exact⟨_,by simp only[bg,hf,zdy,↓xl,hl,↓xo,eq_self,Int.reduceEq,iL,nq,zdA,zdz];rfl⟩
theorem Pm {kd:Int}(h1: ¬kd=1)(h2: ¬kd=2)(h3: ¬kd=3)(h4: ¬kd=4)(h5: ¬kd=5)(h6: ¬kd=6)(h7: ¬kd=7)(h8: ¬kd=8)(h9: ¬kd=9):dz WX (((),()),((kd,sq,td,it,id,sd,od,p,q,sh,st,wh,a,b,tg,()),()))=some (.inr (.inr (.inr (.inr (.inr (.inr (((),false,()),(kd,sq,td,it,id,sd,od,p,q,sh,st,wh,a,b,tg,()),()))))))):=by
 simp only[dz,pt,lL,lM,lN,oC,lO,zdy,↓xo,bc h1,bc h2,bc h3,bc h4,bc h5,bc h6,bc h7,bc h8,bc h9,zdz]
theorem Us {kd:Int}(h1: ¬kd=1)(h2: ¬kd=2)(h3: ¬kd=3)(h4: ¬kd=4)(h5: ¬kd=5)(h6: ¬kd=6)(h7: ¬kd=7)(h8: ¬kd=8)(h9: ¬kd=9):bg WX (((kd,sq,td,it,id,sd,od,p,q,sh,st,wh,a,b,tg,()),()),())=some ((false,()),()):=by
 have hf:=Pm sq td it id sd od p q sh st wh a b tg h1 h2 h3 h4 h5 h6 h7 h8 h9;have hl:ag (fI WX) (((),false,(),0,0,()),(kd,sq,td,it,id,sd,od,p,q,sh,st,wh,a,b,tg,()),())=some (((),false,()),(kd,sq,td,it,id,sd,od,p,q,sh,st,wh,a,b,tg,()),()):=kG (by simp only[fI,↓xo,oF ((0:Int)<0),nq,zdz])
 simp only[bg,hf,zdy,↓xl,hl,↓xo,bc h2,zdz]
end
abbrev q1 (k:Int)(r:nN)(c:mU):kq.D:=(((),(),(),(),1,k,()),(0,0,0,0,0,0,0,0,0,0,0,0,0,0,gL,()),r,c,(((),1,0,31,()),()),())
theorem zce {b:List Int}(hb:b.length<=1000000){r0:nN}(hu:aH WX (((),()),((b,0,false,()),()))=some ((1,()),(r0,())))(o0:vZ r0):Gj b:=by
 have hr:=ql b hb;have hf:dz WX (((),()),((1,0,0,0,0,0,0,0,0,0,0,0,0,0,gL,()),()))=some (.inl (((),true,()),(1,0,0,0,0,0,0,0,0,0,0,0,0,0,gL,()),(((),1,0,31,()),()),())):=by kernel_rfl
 obtain⟨x0,r1,e0,o1⟩:=sa o0;have u0:=stepG (F:=kq WX) (l:=q1 0 r0 (1,0,0,0,0,0,0,0,0,0,0,0,0,0,gL,())) (l':=q1 1 r1 (1,0,x0,0,0,0,0,0,0,0,0,0,0,0,gL,())) rfl e0 rfl;have hl:ag (kq WX) (q1 0 r0 (1,0,0,0,0,0,0,0,0,0,0,0,0,0,gL,()))=some (((),(),(),()),(0,0,0,0,0,0,0,0,0,0,0,0,0,0,gL,()),r1,(1,0,x0,0,0,0,0,0,0,0,0,0,0,0,gL,()),(((),1,0,31,()),()),()):=by
  rw[u0];exact kG (by kernel_rfl)
 obtain⟨z,hE⟩:=sv r1;obtain⟨g,hR,hF⟩:=Fg 0 x0 0 0 0 0 0 0 0 0 0 0 0 gL;cases z with
 |false=>exact⟨_,false,by simp only[ff,hr,hu,hf,zdy,↓xl,hl,↓xo,Int.reduceEq,nq,zdz,zdA,hE,zdC,zdD];rfl,λq=>by cases q⟩
 |true=>
  cases g with
  |false=>exact⟨_,false,by simp only[ff,hr,hu,hf,zdy,↓xl,hl,↓xo,Int.reduceEq,nq,zdz,zdA,hE,zdC,zdD,hR];rfl,λq=>by cases q⟩
  |true=>
   have hF:=hF rfl;exact⟨(1,0,x0,0,0,0,0,0,0,0,0,0,0,0,gL,()),true,by simp only[ff,hr,hu,hf,zdy,↓xl,hl,↓xo,Int.reduceEq,nq,zdz,zdA,hE,zdC,zdD,hR],λ_=>⟨hR,by simp,λ_=>hF,λq=>by simp at q,λq=>by simp at q⟩⟩
abbrev q3 (k:Int)(r:nN)(c:mU):gf.D:=(((),(),(),(),9,k,()),(0,0,0,0,0,0,0,0,0,0,0,0,0,0,gL,()),r,c,(((),4,0,1073741824,()),((),1,0,7,()),((),4,0,1073741824,()),((),1,0,255,()),((),1,0,255,()),((),4,0,1073741824,()),((),4,0,1073741824,()),((),4,0,1073741824,()),((),4,0,1073741824,()),()),())
theorem zcf {b:List Int}(hb:b.length<=1000000){r0:nN}(hu:aH WX (((),()),((b,0,false,()),()))=some ((3,()),(r0,())))(o0:vZ r0):Gj b:=by
 have hr:=ql b hb;have hf:dz WX (((),()),((3,0,0,0,0,0,0,0,0,0,0,0,0,0,gL,()),()))=some (.inr (.inl (((),true,()),(3,0,0,0,0,0,0,0,0,0,0,0,0,0,gL,()),(((),4,0,1073741824,()),((),1,0,7,()),((),4,0,1073741824,()),((),1,0,255,()),((),1,0,255,()),((),4,0,1073741824,()),((),4,0,1073741824,()),((),4,0,1073741824,()),((),4,0,1073741824,()),()),()))):=by kernel_rfl
 obtain⟨x0,r1,e0,o1⟩:=np o0;obtain⟨x1,r2,e1,o2⟩:=sa o1;obtain⟨x2,r3,e2,o3⟩:=np o2;obtain⟨x3,r4,e3,o4⟩:=sa o3;obtain⟨x4,r5,e4,o5⟩:=sa o4;obtain⟨x5,r6,e5,o6⟩:=np o5;obtain⟨x6,r7,e6,o7⟩:=np o6;obtain⟨x7,r8,e7,o8⟩:=np o7;obtain⟨x8,r9,e8,o9⟩:=np o8;have u0:=stepG (F:=gf WX) (l:=q3 0 r0 (3,0,0,0,0,0,0,0,0,0,0,0,0,0,gL,())) (l':=q3 1 r1 (3,i64.wrap x0,0,0,0,0,0,0,0,0,0,0,0,0,gL,())) rfl e0 rfl;have u1:=stepG (F:=gf WX) (l:=q3 1 r1 (3,i64.wrap x0,0,0,0,0,0,0,0,0,0,0,0,0,gL,())) (l':=q3 2 r2 (3,i64.wrap x0,0,x1,0,0,0,0,0,0,0,0,0,0,gL,())) rfl e1 rfl;have u2:=stepG (F:=gf WX) (l:=q3 2 r2 (3,i64.wrap x0,0,x1,0,0,0,0,0,0,0,0,0,0,gL,())) (l':=q3 3 r3 (3,i64.wrap x0,0,x1,i64.wrap x2,0,0,0,0,0,0,0,0,0,gL,())) rfl e2 rfl;have u3:=stepG (F:=gf WX) (l:=q3 3 r3 (3,i64.wrap x0,0,x1,i64.wrap x2,0,0,0,0,0,0,0,0,0,gL,())) (l':=q3 4 r4 (3,i64.wrap x0,0,x1,i64.wrap x2,x3,0,0,0,0,0,0,0,0,gL,())) rfl e3 rfl;have u4:=stepG (F:=gf WX) (l:=q3 4 r4 (3,i64.wrap x0,0,x1,i64.wrap x2,x3,0,0,0,0,0,0,0,0,gL,())) (l':=q3 5 r5 (3,i64.wrap x0,0,x1,i64.wrap x2,x3,x4,0,0,0,0,0,0,0,gL,())) rfl e4 rfl;have u5:=stepG (F:=gf WX) (l:=q3 5 r5 (3,i64.wrap x0,0,x1,i64.wrap x2,x3,x4,0,0,0,0,0,0,0,gL,())) (l':=q3 6 r6 (3,i64.wrap x0,0,x1,i64.wrap x2,x3,x4,i64.wrap x5,0,0,0,0,0,0,gL,())) rfl e5 rfl;have u6:=stepG (F:=gf WX) (l:=q3 6 r6 (3,i64.wrap x0,0,x1,i64.wrap x2,x3,x4,i64.wrap x5,0,0,0,0,0,0,gL,())) (l':=q3 7 r7 (3,i64.wrap x0,0,x1,i64.wrap x2,x3,x4,i64.wrap x5,i64.wrap x6,0,0,0,0,0,gL,())) rfl e6 rfl;have u7:=stepG (F:=gf WX) (l:=q3 7 r7 (3,i64.wrap x0,0,x1,i64.wrap x2,x3,x4,i64.wrap x5,i64.wrap x6,0,0,0,0,0,gL,())) (l':=q3 8 r8 (3,i64.wrap x0,0,x1,i64.wrap x2,x3,x4,i64.wrap x5,i64.wrap x6,i64.wrap x7,0,0,0,0,gL,())) rfl e7 rfl;have u8:=stepG (F:=gf WX) (l:=q3 8 r8 (3,i64.wrap x0,0,x1,i64.wrap x2,x3,x4,i64.wrap x5,i64.wrap x6,i64.wrap x7,0,0,0,0,gL,())) (l':=q3 9 r9 (3,i64.wrap x0,0,x1,i64.wrap x2,x3,x4,i64.wrap x5,i64.wrap x6,i64.wrap x7,i64.wrap x8,0,0,0,gL,())) rfl e8 rfl;have hl:ag (gf WX) (q3 0 r0 (3,0,0,0,0,0,0,0,0,0,0,0,0,0,gL,()))=some (((),(),(),()),(0,0,0,0,0,0,0,0,0,0,0,0,0,0,gL,()),r9,(3,i64.wrap x0,0,x1,i64.wrap x2,x3,x4,i64.wrap x5,i64.wrap x6,i64.wrap x7,i64.wrap x8,0,0,0,gL,()),(((),4,0,1073741824,()),((),1,0,7,()),((),4,0,1073741824,()),((),1,0,255,()),((),1,0,255,()),((),4,0,1073741824,()),((),4,0,1073741824,()),((),4,0,1073741824,()),((),4,0,1073741824,()),()),()):=by
  rw[u0,u1,u2,u3,u4,u5,u6,u7,u8];exact kG (by kernel_rfl)
 obtain⟨z,hE⟩:=sv r9;obtain⟨g,hR,hF⟩:=Fh (i64.wrap x0) 0 x1 (i64.wrap x2) x3 x4 (i64.wrap x5) (i64.wrap x6) (i64.wrap x7) (i64.wrap x8) 0 0 0 gL;cases z with
 |false=>exact⟨_,false,by simp only[ff,hr,hu,hf,zdy,↓xl,hl,↓xo,Int.reduceEq,nq,zdz,zdA,hE,zdC,zdD];rfl,λq=>by cases q⟩
 |true=>
  cases g with
  |false=>exact⟨_,false,by simp only[ff,hr,hu,hf,zdy,↓xl,hl,↓xo,Int.reduceEq,nq,zdz,zdA,hE,zdC,zdD,hR];rfl,λq=>by cases q⟩
  |true=>
   have hF:=hF rfl;exact⟨(3,i64.wrap x0,0,x1,i64.wrap x2,x3,x4,i64.wrap x5,i64.wrap x6,i64.wrap x7,i64.wrap x8,0,0,0,gL,()),true,by simp only[ff,hr,hu,hf,zdy,↓xl,hl,↓xo,Int.reduceEq,nq,zdz,zdA,hE,zdC,zdD,hR],λ_=>⟨hR,by simp,λq=>by simp at q,λq=>by simp at q,λ_=>⟨.inl rfl,⟨hF.2.1.1,zfj hF.2.1.2 (by decide),λ_=>hF.2.1.2⟩,λq=>by simp at q,zeF _,zeF _⟩⟩⟩
abbrev q4 (k:Int)(r:nN)(c:mU):iB.D:=(((),(),(),(),4,k,()),(0,0,0,0,0,0,0,0,0,0,0,0,0,0,gL,()),r,c,(((),4,0,1073741824,()),((),1,0,7,()),((),4,0,1073741824,()),((),1,0,31,()),()),())
theorem zcg {b:List Int}(hb:b.length<=1000000){r0:nN}(hu:aH WX (((),()),((b,0,false,()),()))=some ((4,()),(r0,())))(o0:vZ r0):Gj b:=by
 have hr:=ql b hb;have hf:dz WX (((),()),((4,0,0,0,0,0,0,0,0,0,0,0,0,0,gL,()),()))=some (.inr (.inr (.inl (((),true,()),(4,0,0,0,0,0,0,0,0,0,0,0,0,0,gL,()),(((),4,0,1073741824,()),((),1,0,7,()),((),4,0,1073741824,()),((),1,0,31,()),()),())))):=by kernel_rfl
 obtain⟨x0,r1,e0,o1⟩:=np o0;obtain⟨x1,r2,e1,o2⟩:=sa o1;obtain⟨x2,r3,e2,o3⟩:=np o2;obtain⟨x3,r4,e3,o4⟩:=sa o3;have u0:=stepG (F:=iB WX) (l:=q4 0 r0 (4,0,0,0,0,0,0,0,0,0,0,0,0,0,gL,())) (l':=q4 1 r1 (4,i64.wrap x0,0,0,0,0,0,0,0,0,0,0,0,0,gL,())) rfl e0 rfl;have u1:=stepG (F:=iB WX) (l:=q4 1 r1 (4,i64.wrap x0,0,0,0,0,0,0,0,0,0,0,0,0,gL,())) (l':=q4 2 r2 (4,i64.wrap x0,0,x1,0,0,0,0,0,0,0,0,0,0,gL,())) rfl e1 rfl;have u2:=stepG (F:=iB WX) (l:=q4 2 r2 (4,i64.wrap x0,0,x1,0,0,0,0,0,0,0,0,0,0,gL,())) (l':=q4 3 r3 (4,i64.wrap x0,0,x1,i64.wrap x2,0,0,0,0,0,0,0,0,0,gL,())) rfl e2 rfl;have u3:=stepG (F:=iB WX) (l:=q4 3 r3 (4,i64.wrap x0,0,x1,i64.wrap x2,0,0,0,0,0,0,0,0,0,gL,())) (l':=q4 4 r4 (4,i64.wrap x0,x3,x1,i64.wrap x2,0,0,0,0,0,0,0,0,0,gL,())) rfl e3 rfl;have hl:ag (iB WX) (q4 0 r0 (4,0,0,0,0,0,0,0,0,0,0,0,0,0,gL,()))=some (((),(),(),()),(0,0,0,0,0,0,0,0,0,0,0,0,0,0,gL,()),r4,(4,i64.wrap x0,x3,x1,i64.wrap x2,0,0,0,0,0,0,0,0,0,gL,()),(((),4,0,1073741824,()),((),1,0,7,()),((),4,0,1073741824,()),((),1,0,31,()),()),()):=by
  rw[u0,u1,u2,u3];exact kG (by kernel_rfl)
 obtain⟨z,hE⟩:=sv r4;obtain⟨g,hR,hF⟩:=Fi (i64.wrap x0) x3 x1 (i64.wrap x2) 0 0 0 0 0 0 0 0 0 gL;cases z with
 |false=>exact⟨_,false,by simp only[ff,hr,hu,hf,zdy,↓xl,hl,↓xo,Int.reduceEq,nq,zdz,zdA,hE,zdC,zdD];rfl,λq=>by cases q⟩
 |true=>
  cases g with
  |false=>exact⟨_,false,by simp only[ff,hr,hu,hf,zdy,↓xl,hl,↓xo,Int.reduceEq,nq,zdz,zdA,hE,zdC,zdD,hR];rfl,λq=>by cases q⟩
  |true=>
   have hF:=hF rfl;exact⟨(4,i64.wrap x0,x3,x1,i64.wrap x2,0,0,0,0,0,0,0,0,0,gL,()),true,by simp only[ff,hr,hu,hf,zdy,↓xl,hl,↓xo,Int.reduceEq,nq,zdz,zdA,hE,zdC,zdD,hR],λ_=>⟨hR,by simp,λq=>by simp at q,λq=>by simp at q,λ_=>⟨.inr (.inl rfl),⟨hF.2.1.1,zfj hF.2.1.2 (by decide),λ_=>hF.2.1.2⟩,λq=>by simp at q,zeF _,zeF _⟩⟩⟩
abbrev q5 (k:Int)(r:nN)(c:mU):ik.D:=(((),(),(),(),5,k,()),(0,0,0,0,0,0,0,0,0,0,0,0,0,0,gL,()),r,c,(((),4,0,1073741824,()),((),1,0,7,()),((),4,0,1073741824,()),((),4,0,1073741824,()),((),4,0,1073741824,()),()),())
theorem zch {b:List Int}(hb:b.length<=1000000){r0:nN}(hu:aH WX (((),()),((b,0,false,()),()))=some ((5,()),(r0,())))(o0:vZ r0):Gj b:=by
 have hr:=ql b hb;have hf:dz WX (((),()),((5,0,0,0,0,0,0,0,0,0,0,0,0,0,gL,()),()))=some (.inr (.inr (.inr (.inl (((),true,()),(5,0,0,0,0,0,0,0,0,0,0,0,0,0,gL,()),(((),4,0,1073741824,()),((),1,0,7,()),((),4,0,1073741824,()),((),4,0,1073741824,()),((),4,0,1073741824,()),()),()))))):=by kernel_rfl
 obtain⟨x0,r1,e0,o1⟩:=np o0;obtain⟨x1,r2,e1,o2⟩:=sa o1;obtain⟨x2,r3,e2,o3⟩:=np o2;obtain⟨x3,r4,e3,o4⟩:=np o3;obtain⟨x4,r5,e4,o5⟩:=np o4;have u0:=stepG (F:=ik WX) (l:=q5 0 r0 (5,0,0,0,0,0,0,0,0,0,0,0,0,0,gL,())) (l':=q5 1 r1 (5,i64.wrap x0,0,0,0,0,0,0,0,0,0,0,0,0,gL,())) rfl e0 rfl;have u1:=stepG (F:=ik WX) (l:=q5 1 r1 (5,i64.wrap x0,0,0,0,0,0,0,0,0,0,0,0,0,gL,())) (l':=q5 2 r2 (5,i64.wrap x0,0,x1,0,0,0,0,0,0,0,0,0,0,gL,())) rfl e1 rfl;have u2:=stepG (F:=ik WX) (l:=q5 2 r2 (5,i64.wrap x0,0,x1,0,0,0,0,0,0,0,0,0,0,gL,())) (l':=q5 3 r3 (5,i64.wrap x0,0,x1,i64.wrap x2,0,0,0,0,0,0,0,0,0,gL,())) rfl e2 rfl;have u3:=stepG (F:=ik WX) (l:=q5 3 r3 (5,i64.wrap x0,0,x1,i64.wrap x2,0,0,0,0,0,0,0,0,0,gL,())) (l':=q5 4 r4 (5,i64.wrap x0,0,x1,i64.wrap x2,0,0,i64.wrap x3,0,0,0,0,0,0,gL,())) rfl e3 rfl;have u4:=stepG (F:=ik WX) (l:=q5 4 r4 (5,i64.wrap x0,0,x1,i64.wrap x2,0,0,i64.wrap x3,0,0,0,0,0,0,gL,())) (l':=q5 5 r5 (5,i64.wrap x0,0,x1,i64.wrap x2,0,0,i64.wrap x3,i64.wrap x4,0,0,0,0,0,gL,())) rfl e4 rfl;have hl:ag (ik WX) (q5 0 r0 (5,0,0,0,0,0,0,0,0,0,0,0,0,0,gL,()))=some (((),(),(),()),(0,0,0,0,0,0,0,0,0,0,0,0,0,0,gL,()),r5,(5,i64.wrap x0,0,x1,i64.wrap x2,0,0,i64.wrap x3,i64.wrap x4,0,0,0,0,0,gL,()),(((),4,0,1073741824,()),((),1,0,7,()),((),4,0,1073741824,()),((),4,0,1073741824,()),((),4,0,1073741824,()),()),()):=by
  rw[u0,u1,u2,u3,u4];exact kG (by kernel_rfl)
 obtain⟨z,hE⟩:=sv r5;obtain⟨g,hR,hF⟩:=Fj (i64.wrap x0) 0 x1 (i64.wrap x2) 0 0 (i64.wrap x3) (i64.wrap x4) 0 0 0 0 0 gL;cases z with
 |false=>exact⟨_,false,by simp only[ff,hr,hu,hf,zdy,↓xl,hl,↓xo,Int.reduceEq,nq,zdz,zdA,hE,zdC,zdD];rfl,λq=>by cases q⟩
 |true=>
  cases g with
  |false=>exact⟨_,false,by simp only[ff,hr,hu,hf,zdy,↓xl,hl,↓xo,Int.reduceEq,nq,zdz,zdA,hE,zdC,zdD,hR];rfl,λq=>by cases q⟩
  |true=>
   have hF:=hF rfl;exact⟨(5,i64.wrap x0,0,x1,i64.wrap x2,0,0,i64.wrap x3,i64.wrap x4,0,0,0,0,0,gL,()),true,by simp only[ff,hr,hu,hf,zdy,↓xl,hl,↓xo,Int.reduceEq,nq,zdz,zdA,hE,zdC,zdD,hR],λ_=>⟨hR,by simp,λq=>by simp at q,λq=>by simp at q,λ_=>⟨.inr (.inr (.inl rfl)),⟨hF.2.1.1,zfj hF.2.1.2 (by decide),λ_=>hF.2.1.2⟩,λq=>by simp at q,zeF _,zeF _⟩⟩⟩
abbrev q6 (k:Int)(r:nN)(c:mU):iR.D:=(((),(),(),(),3,k,()),(0,0,0,0,0,0,0,0,0,0,0,0,0,0,gL,()),r,c,(((),4,0,1073741824,()),((),1,0,8,()),((),1,1,3,()),()),())
theorem zci {b:List Int}(hb:b.length<=1000000){r0:nN}(hu:aH WX (((),()),((b,0,false,()),()))=some ((6,()),(r0,())))(o0:vZ r0):Gj b:=by
 have hr:=ql b hb;have hf:dz WX (((),()),((6,0,0,0,0,0,0,0,0,0,0,0,0,0,gL,()),()))=some (.inr (.inr (.inr (.inr (.inl (((),true,()),(6,0,0,0,0,0,0,0,0,0,0,0,0,0,gL,()),(((),4,0,1073741824,()),((),1,0,8,()),((),1,1,3,()),()),())))))):=by kernel_rfl
 obtain⟨x0,r1,e0,o1⟩:=np o0;obtain⟨x1,r2,e1,o2⟩:=sa o1;obtain⟨x2,r3,e2,o3⟩:=sa o2;have u0:=stepG (F:=iR WX) (l:=q6 0 r0 (6,0,0,0,0,0,0,0,0,0,0,0,0,0,gL,())) (l':=q6 1 r1 (6,i64.wrap x0,0,0,0,0,0,0,0,0,0,0,0,0,gL,())) rfl e0 rfl;have u1:=stepG (F:=iR WX) (l:=q6 1 r1 (6,i64.wrap x0,0,0,0,0,0,0,0,0,0,0,0,0,gL,())) (l':=q6 2 r2 (6,i64.wrap x0,0,x1,0,0,0,0,0,0,0,0,0,0,gL,())) rfl e1 rfl;have u2:=stepG (F:=iR WX) (l:=q6 2 r2 (6,i64.wrap x0,0,x1,0,0,0,0,0,0,0,0,0,0,gL,())) (l':=q6 3 r3 (6,i64.wrap x0,0,x1,0,0,0,0,0,0,0,x2,0,0,gL,())) rfl e2 rfl;have hl:ag (iR WX) (q6 0 r0 (6,0,0,0,0,0,0,0,0,0,0,0,0,0,gL,()))=some (((),(),(),()),(0,0,0,0,0,0,0,0,0,0,0,0,0,0,gL,()),r3,(6,i64.wrap x0,0,x1,0,0,0,0,0,0,0,x2,0,0,gL,()),(((),4,0,1073741824,()),((),1,0,8,()),((),1,1,3,()),()),()):=by
  rw[u0,u1,u2];exact kG (by kernel_rfl)
 obtain⟨z,hE⟩:=sv r3;obtain⟨g,hR,hF⟩:=Fk (i64.wrap x0) 0 x1 0 0 0 0 0 0 0 x2 0 0 gL;cases z with
 |false=>exact⟨_,false,by simp only[ff,hr,hu,hf,zdy,↓xl,hl,↓xo,Int.reduceEq,nq,zdz,zdA,hE,zdC,zdD];rfl,λq=>by cases q⟩
 |true=>
  cases g with
  |false=>exact⟨_,false,by simp only[ff,hr,hu,hf,zdy,↓xl,hl,↓xo,Int.reduceEq,nq,zdz,zdA,hE,zdC,zdD,hR];rfl,λq=>by cases q⟩
  |true=>
   have hF:=hF rfl;exact⟨(6,i64.wrap x0,0,x1,0,0,0,0,0,0,0,x2,0,0,gL,()),true,by simp only[ff,hr,hu,hf,zdy,↓xl,hl,↓xo,Int.reduceEq,nq,zdz,zdA,hE,zdC,zdD,hR],λ_=>⟨hR,by simp,λq=>by simp at q,λq=>by simp at q,λ_=>⟨.inr (.inr (.inr (.inl rfl))),⟨hF.2.1.1,hF.2.1.2,λq=>absurd rfl q⟩,λq=>by simp at q,zeF _,zeF _⟩⟩⟩
abbrev q9 (k:Int)(r:nN)(c:mU):iC.D:=(((),(),(),(),4,k,()),(0,0,0,0,0,0,0,0,0,0,0,0,0,0,gL,()),r,c,(((),4,0,1073741824,()),((),1,1,9,()),((),1,0,255,()),((),1,0,255,()),()),())
theorem zcj {b:List Int}(hb:b.length<=1000000){r0:nN}(hu:aH WX (((),()),((b,0,false,()),()))=some ((9,()),(r0,())))(o0:vZ r0):Gj b:=by
 have hr:=ql b hb;have hf:dz WX (((),()),((9,0,0,0,0,0,0,0,0,0,0,0,0,0,gL,()),()))=some (.inr (.inr (.inr (.inr (.inr (.inl (((),true,()),(9,0,0,0,0,0,0,0,0,0,0,0,0,0,gL,()),(((),4,0,1073741824,()),((),1,1,9,()),((),1,0,255,()),((),1,0,255,()),()),()))))))):=by kernel_rfl
 obtain⟨x0,r1,e0,o1⟩:=np o0;obtain⟨x1,r2,e1,o2⟩:=sa o1;obtain⟨x2,r3,e2,o3⟩:=sa o2;obtain⟨x3,r4,e3,o4⟩:=sa o3;have u0:=stepG (F:=iC WX) (l:=q9 0 r0 (9,0,0,0,0,0,0,0,0,0,0,0,0,0,gL,())) (l':=q9 1 r1 (9,i64.wrap x0,0,0,0,0,0,0,0,0,0,0,0,0,gL,())) rfl e0 rfl;have u1:=stepG (F:=iC WX) (l:=q9 1 r1 (9,i64.wrap x0,0,0,0,0,0,0,0,0,0,0,0,0,gL,())) (l':=q9 2 r2 (9,i64.wrap x0,0,0,0,0,0,0,0,0,0,x1,0,0,gL,())) rfl e1 rfl;have u2:=stepG (F:=iC WX) (l:=q9 2 r2 (9,i64.wrap x0,0,0,0,0,0,0,0,0,0,x1,0,0,gL,())) (l':=q9 3 r3 (9,i64.wrap x0,0,0,0,0,0,0,0,0,0,x1,x2,0,gL,())) rfl e2 rfl;have u3:=stepG (F:=iC WX) (l:=q9 3 r3 (9,i64.wrap x0,0,0,0,0,0,0,0,0,0,x1,x2,0,gL,())) (l':=q9 4 r4 (9,i64.wrap x0,0,0,0,0,0,0,0,0,0,x1,x2,x3,gL,())) rfl e3 rfl;have hl:ag (iC WX) (q9 0 r0 (9,0,0,0,0,0,0,0,0,0,0,0,0,0,gL,()))=some (((),(),(),()),(0,0,0,0,0,0,0,0,0,0,0,0,0,0,gL,()),r4,(9,i64.wrap x0,0,0,0,0,0,0,0,0,0,x1,x2,x3,gL,()),(((),4,0,1073741824,()),((),1,1,9,()),((),1,0,255,()),((),1,0,255,()),()),()):=by
  rw[u0,u1,u2,u3];exact kG (by kernel_rfl)
 obtain⟨z,hE⟩:=sv r4;obtain⟨g,hR,hF⟩:=Fm (i64.wrap x0) 0 0 0 0 0 0 0 0 0 x1 x2 x3 gL;cases z with
 |false=>exact⟨_,false,by simp only[ff,hr,hu,hf,zdy,↓xl,hl,↓xo,Int.reduceEq,nq,zdz,zdA,hE,zdC,zdD];rfl,λq=>by cases q⟩
 |true=>
  cases g with
  |false=>exact⟨_,false,by simp only[ff,hr,hu,hf,zdy,↓xl,hl,↓xo,Int.reduceEq,nq,zdz,zdA,hE,zdC,zdD,hR];rfl,λq=>by cases q⟩
  |true=>
   have hF:=hF rfl;exact⟨(9,i64.wrap x0,0,0,0,0,0,0,0,0,0,x1,x2,x3,gL,()),true,by simp only[ff,hr,hu,hf,zdy,↓xl,hl,↓xo,Int.reduceEq,nq,zdz,zdA,hE,zdC,zdD,hR],λ_=>⟨hR,by simp,λq=>by simp at q,λq=>by simp at q,λ_=>⟨.inr (.inr (.inr (.inr rfl))),⟨zeF _,(by show(0:Int)<=8;decide),λ_=>(by show(0:Int)<=7;decide)⟩,λ_=>hF.2.1,hF.2.2.1.1,hF.2.2.2.1⟩⟩⟩
theorem zck {b:List Int}(hb:b.length<=1000000){r0:nN}(hu:aH WX (((),()),((b,0,false,()),()))=some ((2,()),(r0,())))(o0:vZ r0):Gj b:=by
 have hr:=ql b hb;have hf:dz WX (((),()),((2,0,0,0,0,0,0,0,0,0,0,0,0,0,gL,()),()))=some (.inr (.inr (.inr (.inr (.inr (.inr (((),true,()),(2,0,0,0,0,0,0,0,0,0,0,0,0,0,gL,()),()))))))):=by kernel_rfl
 have hl:ag (gR WX) (((),(),(),(),0,0,()),(0,0,0,0,0,0,0,0,0,0,0,0,0,0,gL,()),r0,(2,0,0,0,0,0,0,0,0,0,0,0,0,0,gL,()),())=some (((),(),(),()),(0,0,0,0,0,0,0,0,0,0,0,0,0,0,gL,()),r0,(2,0,0,0,0,0,0,0,0,0,0,0,0,0,gL,()),()):=kG (by simp only[gR,↓xo,oF ((0:Int)<0),nq,zdz])
 obtain⟨l,r1,hS,o1,hL⟩:=Xb o0;obtain⟨z,hE⟩:=sv r1;obtain⟨g,hR⟩:=Fo 0 0 0 0 0 0 0 0 0 0 0 0 0 l;cases z with
 |false=>exact⟨_,false,by simp only[ff,hr,hu,hf,zdy,↓xl,hl,↓xo,eq_self,Int.reduceEq,iL,nq,zdz,zdA,hE,zdC,zdD,hS];rfl,λq=>by cases q⟩
 |true=>
  cases g with
  |false=>exact⟨_,false,by simp only[ff,hr,hu,hf,zdy,↓xl,hl,↓xo,eq_self,Int.reduceEq,iL,nq,zdz,zdA,hE,zdC,zdD,hS,hR];rfl,λq=>by cases q⟩
  |true=>exact⟨(2,0,0,0,0,0,0,0,0,0,0,0,0,0,l,()),true,by simp only[ff,hr,hu,hf,zdy,↓xl,hl,↓xo,eq_self,Int.reduceEq,iL,nq,zdz,zdA,hE,zdC,zdD,hS,hR],λ_=>⟨hR,by simp,λq=>by simp at q,λ_=>hL,λq=>by simp at q⟩⟩
theorem zcl {b:List Int}(hb:b.length<=1000000){r0:nN}(hu:aH WX (((),()),((b,0,false,()),()))=some ((7,()),(r0,())))(o0:vZ r0):Gj b:=by
 have hr:=ql b hb;have hf:dz WX (((),()),((7,0,0,0,0,0,0,0,0,0,0,0,0,0,gL,()),()))=some (.inr (.inr (.inr (.inr (.inr (.inr (((),true,()),(7,0,0,0,0,0,0,0,0,0,0,0,0,0,gL,()),()))))))):=by kernel_rfl
 have hl:ag (gR WX) (((),(),(),(),0,0,()),(0,0,0,0,0,0,0,0,0,0,0,0,0,0,gL,()),r0,(7,0,0,0,0,0,0,0,0,0,0,0,0,0,gL,()),())=some (((),(),(),()),(0,0,0,0,0,0,0,0,0,0,0,0,0,0,gL,()),r0,(7,0,0,0,0,0,0,0,0,0,0,0,0,0,gL,()),()):=kG (by simp only[gR,↓xo,oF ((0:Int)<0),nq,zdz])
 obtain⟨z,hE⟩:=sv r0;obtain⟨g,hR⟩:=Fq 0 0 0 0 0 0 0 0 0 0 0 0 0 gL;cases z with
 |false=>exact⟨_,false,by simp only[ff,hr,hu,hf,zdy,↓xl,hl,↓xo,eq_self,Int.reduceEq,iL,nq,zdz,zdA,hE,zdC,zdD];rfl,λq=>by cases q⟩
 |true=>
  cases g with
  |false=>exact⟨_,false,by simp only[ff,hr,hu,hf,zdy,↓xl,hl,↓xo,eq_self,Int.reduceEq,iL,nq,zdz,zdA,hE,zdC,zdD,hR];rfl,λq=>by cases q⟩
  |true=>exact⟨(7,0,0,0,0,0,0,0,0,0,0,0,0,0,gL,()),true,by simp only[ff,hr,hu,hf,zdy,↓xl,hl,↓xo,eq_self,Int.reduceEq,iL,nq,zdz,zdA,hE,zdC,zdD,hR],λ_=>⟨hR,by simp,λq=>by simp at q,λq=>by simp at q,λq=>by simp at q⟩⟩
theorem zcm {b:List Int}(hb:b.length<=1000000){r0:nN}(hu:aH WX (((),()),((b,0,false,()),()))=some ((8,()),(r0,())))(o0:vZ r0):Gj b:=by
 have hr:=ql b hb;have hf:dz WX (((),()),((8,0,0,0,0,0,0,0,0,0,0,0,0,0,gL,()),()))=some (.inr (.inr (.inr (.inr (.inr (.inr (((),true,()),(8,0,0,0,0,0,0,0,0,0,0,0,0,0,gL,()),()))))))):=by kernel_rfl
 have hl:ag (gR WX) (((),(),(),(),0,0,()),(0,0,0,0,0,0,0,0,0,0,0,0,0,0,gL,()),r0,(8,0,0,0,0,0,0,0,0,0,0,0,0,0,gL,()),())=some (((),(),(),()),(0,0,0,0,0,0,0,0,0,0,0,0,0,0,gL,()),r0,(8,0,0,0,0,0,0,0,0,0,0,0,0,0,gL,()),()):=kG (by simp only[gR,↓xo,oF ((0:Int)<0),nq,zdz])
 obtain⟨z,hE⟩:=sv r0;obtain⟨g,hR⟩:=Fs 0 0 0 0 0 0 0 0 0 0 0 0 0 gL;cases z with
 |false=>exact⟨_,false,by simp only[ff,hr,hu,hf,zdy,↓xl,hl,↓xo,eq_self,Int.reduceEq,iL,nq,zdz,zdA,hE,zdC,zdD];rfl,λq=>by cases q⟩
 |true=>
  cases g with
  |false=>exact⟨_,false,by simp only[ff,hr,hu,hf,zdy,↓xl,hl,↓xo,eq_self,Int.reduceEq,iL,nq,zdz,zdA,hE,zdC,zdD,hR];rfl,λq=>by cases q⟩
  |true=>exact⟨(8,0,0,0,0,0,0,0,0,0,0,0,0,0,gL,()),true,by simp only[ff,hr,hu,hf,zdy,↓xl,hl,↓xo,eq_self,Int.reduceEq,iL,nq,zdz,zdA,hE,zdC,zdD,hR],λ_=>⟨hR,by simp,λq=>by simp at q,λq=>by simp at q,λq=>by simp at q⟩⟩
theorem Xc {b:List Int}(hb:b.length<=1000000):Gj b:=by
 obtain⟨x,r0,hu,o0⟩:=sa (r:=(b,0,false,())) ⟨zeF _,Int.natCast_nonneg _,hb⟩;by_cases h1:x=1
 ·subst h1;exact zce hb hu o0
 by_cases h2:x=2
 ·subst h2;exact zck hb hu o0
 by_cases h3:x=3
 ·subst h3;exact zcf hb hu o0
 by_cases h4:x=4
 ·subst h4;exact zcg hb hu o0
 by_cases h5:x=5
 ·subst h5;exact zch hb hu o0
 by_cases h6:x=6
 ·subst h6;exact zci hb hu o0
 by_cases h7:x=7
 ·subst h7;exact zcl hb hu o0
 by_cases h8:x=8
 ·subst h8;exact zcm hb hu o0
 by_cases h9:x=9
 ·subst h9;exact zcj hb hu o0
 have hr:=ql b hb;have hf:=Pm 0 0 0 0 0 0 0 0 0 0 0 0 0 gL h1 h2 h3 h4 h5 h6 h7 h8 h9;have hR:=Us 0 0 0 0 0 0 0 0 0 0 0 0 0 gL h1 h2 h3 h4 h5 h6 h7 h8 h9;have hl:ag (gR WX) (((),(),(),(),0,0,()),(0,0,0,0,0,0,0,0,0,0,0,0,0,0,gL,()),r0,(x,0,0,0,0,0,0,0,0,0,0,0,0,0,gL,()),())=some (((),(),(),()),(0,0,0,0,0,0,0,0,0,0,0,0,0,0,gL,()),r0,(x,0,0,0,0,0,0,0,0,0,0,0,0,0,gL,()),()):=kG (by simp only[gR,↓xo,oF ((0:Int)<0),nq,zdz])
 obtain⟨z,hE⟩:=sv r0;cases z with
 |false=>exact⟨_,false,by simp only[ff,hr,hu,hf,zdy,↓xl,hl,↓xo,bc h2,zdz,zdA,hE,zdC,zdD,hR];rfl,λq=>by cases q⟩
 |true=>exact⟨_,false,by simp only[ff,hr,hu,hf,zdy,↓xl,hl,↓xo,bc h2,zdz,zdA,hE,zdC,zdD,hR];rfl,λq=>by cases q⟩
theorem Pn (n:Int):kP WX ((n,()),())=some ((decide (1<=n/\n<=256),()),()):=by
 by_cases h1:n>=1
 ·by_cases h2:n<=256
  ·simp only[kP,↓xo,ot h1,zdA,ot h2];rw[decide_eq_true ⟨h1,h2⟩]
  ·simp only[kP,↓xo,ot h1,zdA,bc h2];rw[decide_eq_false (λq=>h2 q.2)]
 ·simp only[kP,↓xo,bc h1,zdz];rw[decide_eq_false (λq=>h1 q.1)]
theorem Rb (left:List Int)(hl:left.length<=1000000): ∃(out:List (List Int)) (wQ:(List Int)×Bool×Unit),ag (bF WX) (((),(),()),(left,false,()),[],())=some ((out,()),(wQ,()))/\2*out.length+wQ.1.length<=left.length/\∀x∈out,x.length<=1000000:=by
 have key:=rG (b:=bF WX) (λk l=> ∃(a:List Int) (out:List (List Int)),l=(((),(),()),(a,false,()),out,())/\k=a.length/\2*out.length+a.length<=left.length/\∀x∈out,x.length<=1000000)
  (λr=> ∃(out:List (List Int)) (wQ:(List Int)×Bool×Unit),r=((out,()),(wQ,()))/\2*out.length+wQ.1.length<=left.length/\∀x∈out,x.length<=1000000) (λk l hk=>by
  obtain⟨a,out,rfl,rfl,h1,h2⟩:=hk;by_cases hc:(a.length:Int)>=2
  ·have x0:=zdE (l:=a) (i:=0) (by omega)
   have x1:=zdE (l:=a) (i:=1) (by omega)
   generalize a[0]'(by omega)=y0 at x0
   generalize a[1]'(by omega)=y1 at x1
   have z0:(0:Int).toNat=0:=rfl;have z1:(1:Int).toNat=1:=rfl;have z2:(2:Int).toNat=2:=rfl;have e8: ¬(8:Int)<0:=by omega
   have e0:(0:Int)<=0:=by omega
   have WE:(0:Int)<=1:=by omega
   generalize hN:WX.AU .i64 (WX.shl .i64 (i64.wrap y0) 8) (i64.wrap y1)=N;have hm:=Pn N;by_cases hN1:1<=N/\N<=256
   ·rw[decide_eq_true hN1] at hm
    have w1:i64.wrap ((a.length:Int)-2)=(a.length:Int)-2:=nO (by omega) (by omega)
    have w2:i64.wrap (2+N)=2+N:=nO (by omega) (by omega)
    by_cases hs:(a.length:Int)-2<N
    ·exact .inr ⟨((out,()),((a,false,()),())),by simp only[bF,↓xo,xw,ot hc,ot e0,ot WE,bc e8,zdA,zdz,z0,z1,x0,x1,zdy,hN,hm,zdC,w1,ot hs],out,(a,false,()),rfl,h1,h2⟩
    ·have c1:=ED ((a.take (2+N).toNat).drop 2) (by rw[zd4,zd3];omega)
     have c2:=ED (a.drop (2+N).toNat) (by rw[zd4];omega)
     refine .inl ⟨(((),(),()),(a.drop (2+N).toNat,false,()),out++ [(a.take (2+N).toNat).drop 2],()),by simp only[bF,↓xo,xw,ot hc,ot e0,ot WE,bc e8,zdA,zdz,z0,z1,z2,x0,x1,zdy,hN,hm,zdC,w1,bc hs,w2,oT (0<=(2:Int)/\(2:Int)<=2+N/\2+N<=(a.length:Int)),c1,ot (show(((out.length+([(a.take (2+N).toNat).drop 2]:List (List Int)).length:Nat):Int))*((24:Nat):Int)<=((room:Nat):Int) by unfold room;simp only[zdJ,zdK];omega),oT (0<=2+N/\2+N<=(a.length:Int)/\(a.length:Int)<=(a.length:Int)),c2],(a.drop (2+N).toNat).length,by rw[zd4];omega,_,_,rfl,rfl,?_,λx hx=>?_⟩
     ·rw[zdI,zd4];simp only[zdJ,zdK];omega
     ·rcases List.mem_append.1 hx with hx|hx
      ·exact h2 x hx
      ·rw[List.mem_singleton.1 hx,zd4,zd3];omega
   ·rw[decide_eq_false hN1] at hm
    refine .inr ⟨((out,()),(([],true,()),())),by simp only[bF,↓xo,xw,ot hc,ot e0,ot WE,bc e8,zdA,zdz,z0,z1,x0,x1,zdy,hN,hm,zdD],out,([],true,()),rfl,?_,h2⟩
    simp only[zdK];omega
  ·exact .inr ⟨((out,()),((a,false,()),())),by simp only[bF,↓xo,bc hc,zdz],out,(a,false,()),rfl,h1,h2⟩)
 obtain⟨r,h1,out,wQ,rfl,h2,h3⟩:=key left.length (((),(),()),(left,false,()),[],()) ⟨left,[],rfl,rfl,by simp,λx hx=>(by cases hx)⟩
 exact⟨out,wQ,h1,h2,h3⟩
theorem Ut (fr:(List Int)×Bool×Unit)(bs:List Int)(hl:fr.1.length+bs.length<=1000000): ∃(out:List (List Int)) (wQ:(List Int)×Bool×Unit),(ca WX (((),bs,()),(fr,()))=some (.inl (((),()),wQ,out,()))\/ca WX (((),bs,()),(fr,()))=some (.inr ((out,()),(wQ,()))))/\2*out.length+wQ.1.length<=fr.1.length+bs.length/\∀x∈out,x.length<=1000000:=by
 obtain⟨left,bad,⟨⟩⟩:=fr;simp only at hl;cases bad with
 |true=>exact⟨[],(left,true,()), .inl (by simp only[ca,zdA]),by simp,λx hx=>(by cases hx)⟩
 |false=>
  have vC: [left,bs].flatten=left++bs:=by simp
  obtain⟨out,wQ,g1,g2,g3⟩:=Rb (left++bs) (by rw[zdI];omega)
  rw[zdI] at g2;refine⟨out,wQ, .inr ?_,g2,g3⟩;rcases F8 [left,bs] (by rw[vC,zdI];omega) (by simp) with⟨c1,c2⟩|c1
  ·rw[vC] at c2
   rw[c2] at g1;simp only[ca,zdz,c1,zdy,↓xl,g1]
  ·rw[vC] at c1
   simp only[ca,zdz,c1,zdy,zeS,↓xl,g1]
section
variable {P:Nat->V->(Nat->MS)->Prop}{k m:Nat}{v:V}{μ:Nat->MS}{i:Nat}
theorem VI.le (pk:PK P)(h:VI P k m v μ){k':Nat}(hk:k<=k'):VI P k' m v μ:=by
 have: ∀d,VI P (k+d) m v μ:=by
  intro d;induction d with
  |zero=>exact h
  |succ d ih=>exact⟨ih.ss,ih.ci,ih.mt,ih.lg,pk.more ih.p,ih.qi⟩
 have:=this (k'-k);rwa [show k+(k'-k)=k' by omega] at this
theorem Uu {s:xv}(h:s.1=3)(sq now:Int): ∃b nx,dV WX (((),sq,now,()),(s,()))=some ((b,()),((3,s.2.1,s.2.2.1,nx,now,()),())):=by
 by_cases h1:sq=s.2.2.2.1
 ·by_cases h2:s.2.2.2.1=1073741824
  ·exact⟨false,s.2.2.2.1,by simp only[dV,dm,↓xo,eq_self,iL,zdC,zdz,zdy,ot h1,ot h2,zdA,h]⟩
  ·exact⟨true,i64.wrap (s.2.2.2.1+1),by simp only[dV,dm,↓xo,xw,eq_self,iL,zdC,zdz,zdy,ot h1,bc h2,h]⟩
 ·exact⟨false,s.2.2.2.1,by simp only[dV,dm,↓xo,eq_self,iL,zdC,zdD,zdz,zdA,zdy,bc h1,h]⟩
theorem Uv {c:mU}(h:bg WX ((c,()),())=some ((true,()),()))(hk:c.1=3\/c.1=4\/c.1=5\/c.1=6\/c.1=9):iA WX ((c,()),())=some ((true,()),()):=by
 by_cases h3:c.1=3
 ·simp only[iA,↓xo,ot h3,zdA,h,zdy]
 by_cases h4:c.1=4
 ·simp only[iA,↓xo,bc h3,ot h4,zdA,zdz,h,zdy]
 by_cases h5:c.1=5
 ·simp only[iA,↓xo,bc h3,bc h4,ot h5,zdA,zdz,h,zdy]
 by_cases h6:c.1=6
 ·simp only[iA,↓xo,bc h3,bc h4,bc h5,ot h6,zdA,zdz,h,zdy]
 ·have h9:c.1=9:=by omega
  simp only[iA,↓xo,bc h3,bc h4,bc h5,bc h6,ot h9,zdA,zdz,h,zdy]
theorem Lb (pk:PK P)(h:VI P k m v μ)(hm:m<=90000000000)(hi:i<16)(xk:(jg v i).1=3){c:mU}(hc:Yk c)(h1: ¬c.1=1)(h2: ¬c.1=2): ∃v' μ' m',dJ WX (((),(i:Int),c,()),v.e)=some ((),v'.e)/\VI P (k+1) m' v' μ'/\m'<=m+100/\Ev i v v':=by
 obtain⟨f,o,s,fr,ou,nM,l8⟩:=h.ci i hi;rw[wX nM] at xk;have kd:=hc.kind;by_cases h7:c.1=7
 ·have v1:=Fe pk h nM (s':=(3,s.2.1,s.2.2.1,s.2.2.2.1,v.now,())) ⟨l8.out,l8.rD,by simp,l8.qB⟩ (I8 h.qi nM (λ_=>⟨xk,rfl⟩))
  have ev:=Ff nM (s':=(3,s.2.1,s.2.2.1,s.2.2.2.1,v.now,())) (.inr rfl);refine⟨_,μ,m,?_,v1.le pk (by omega),by omega,ev⟩
  simp only[dJ,V.e,↓xo,ot (lu hi),zdA,zdB,nM.c,zdy,ot h7,aZ,au,nM.S,dm,eq_self,iL,zdC,zdz,xk]
 by_cases h8:c.1=8
 ·obtain⟨v1,w1,w2,w3⟩:=AQ pk h hi zat
  obtain⟨v2,μ',m',d1,d2,d3,d4,_⟩:=qk pk w2 (by omega) hi
  refine⟨v2,μ',m',?_,d2.le pk (by omega),by omega,(w3.dw.trans d4).ev i⟩
  simp only[V.e] at w1 d1;simp only[dJ,V.e,↓xo,ot (lu hi),zdA,zdB,nM.c,zdy,bc h7,ot h8,zdz,w1,d1]
 have hk:c.1=3\/c.1=4\/c.1=5\/c.1=6\/c.1=9:=by omega
 obtain⟨b,nx,ht⟩:=Uu xk c.2.1 v.now;have v1:=Fe pk h nM (s':=(3,s.2.1,s.2.2.1,nx,v.now,())) ⟨l8.out,l8.rD,by simp,l8.qB⟩ (I8 h.qi nM (λ_=>⟨xk,rfl⟩))
 have ev:=Ff nM (s':=(3,s.2.1,s.2.2.1,nx,v.now,())) (.inr rfl);cases b with
 |false=>
  obtain⟨v2,w1,w2,w3⟩:=uW pk v1 hi c.2.1 14;refine⟨v2,μ,m,?_,w2.le pk (by omega),by omega,ev.trans (w3.dw.ev i)⟩
  simp only[V.e] at w1;simp only[dJ,V.e,↓xo,ot (lu hi),zdA,zdB,nM.c,zdy,bc h7,bc h8,zdz,aZ,au,nM.S,ht,zdD,w1]
 |true=>
  obtain⟨e,v2,μ',m',r1,r2,r3,r4⟩:=zcb pk v1 (by omega) l8.qB (hc.cmd hk) hc.right (Uv hc.right hk)
  have e32: ¬(3:Int)=2:=by omega
  have uD:=kI (y:=(((3:Int),s.2.1,s.2.2.1,nx,v.now,()),())) nM.S;simp only[V.e] at r1;by_cases he:e=0
  ·subst he
   obtain⟨v3,w1,w2,w3⟩:=AQ pk r2 hi (zau c.2.1);refine⟨v3,μ',m',?_,w2,r3,ev.trans ((r4.trans w3).dw.ev i)⟩;simp only[V.e] at w1;simp only[dJ,V.e,↓xo,ot (lu hi),zdA,zdB,nM.c,zdy,bc h7,bc h8,zdz,aZ,au,nM.S,ht,zdC,uD,aB,bc e32,eq_self,iL,zfd,r1,w1]
  ·obtain⟨v3,w1,w2,w3⟩:=uW pk r2 hi c.2.1 e
   refine⟨v3,μ',m',?_,w2,r3,ev.trans ((r4.trans w3).dw.ev i)⟩;simp only[V.e] at w1;simp only[dJ,V.e,↓xo,ot (lu hi),zdA,zdB,nM.c,zdy,bc h7,bc h8,zdz,aZ,au,nM.S,ht,zdC,zdD,uD,aB,bc e32,eq_self,iL,zfd,r1,bc he,w1]
theorem Uw (pk:PK P)(h:VI P k m v μ)(hm:m<=90000000000)(hi:i<16){x:List Int}(hx:x.length<=1000000): ∃v' μ' m',cU WX (((),(i:Int),x,()),v.e)=some ((),v'.e)/\VI P (k+1) m' v' μ'/\m'<=m+100/\Ev i v v':=by
 obtain⟨f,o,s,fr,ou,nM,l8⟩:=h.ci i hi;obtain⟨c,ok,g1,g2⟩:=Xc hx;cases ok with
 |false=>
  obtain⟨v2,μ',m',d1,d2,d3,d4,_⟩:=qk pk h (by omega) hi
  refine⟨v2,μ',m',?_,d2.le pk (by omega),by omega,d4.ev i⟩
  simp only[V.e] at d1;simp only[cU,V.e,↓xo,ot (lu hi),zdA,zdB,nM.c,zdy,g1,zdD,d1]
 |true=>
  have hc:=g2 rfl;by_cases h1:c.1=1
  ·by_cases hs:s.1=1
   ·have v1:=Fe pk h nM (s':=(2,c.2.2.1,s.2.2.1,s.2.2.2.1,v.now,())) ⟨l8.out,l8.rD,by simp,hc.zcd h1⟩ (I8 h.qi nM (λq=>by simp at q))
    have ev:=Ff nM (s':=(2,c.2.2.1,s.2.2.1,s.2.2.2.1,v.now,())) (.inr rfl);obtain⟨v2,w1,w2,w3⟩:=AQ pk v1 hi (I7 l8.rD);refine⟨v2,μ,m,?_,w2.le pk (by omega),by omega,ev.trans (w3.dw.ev i)⟩
    have uD:=kI (y:=(((2:Int),c.2.2.1,s.2.2.1,s.2.2.2.1,v.now,()),())) nM.S;have X8: ¬(2:Int)=1:=by omega
    simp only[V.e] at w1;simp only[cU,V.e,↓xo,ot (lu hi),zdA,zdB,nM.c,zdy,g1,zdC,zdz,ot h1,aZ,au,nM.S,eD,ot hs,uD,fc,bc X8,eq_self,iL,zfd,w1]
   ·obtain⟨v2,μ',m',d1,d2,d3,d4,_⟩:=qk pk h (by omega) hi
    refine⟨v2,μ',m',?_,d2.le pk (by omega),by omega,d4.ev i⟩
    simp only[V.e] at d1;simp only[cU,V.e,↓xo,ot (lu hi),zdA,zdB,nM.c,zdy,g1,zdC,zdD,zdz,ot h1,aZ,au,nM.S,eD,bc hs,aJ nM.S,d1]
  by_cases h2:c.1=2
  ·obtain⟨v2,μ',m',d1,d2,d3,d4⟩:=NP pk h hm hi (hc.ans h2)
   refine⟨v2,μ',m',?_,d2.le pk (by omega),d3,d4⟩
   simp only[V.e] at d1;simp only[cU,V.e,↓xo,ot (lu hi),zdA,zdB,nM.c,zdy,g1,zdC,zdz,bc h1,ot h2,d1]
  by_cases h3:s.1=3
  ·obtain⟨v2,μ',m',d1,d2,d3,d4⟩:=Lb pk h hm hi (by rw[wX nM];exact h3) hc h1 h2
   refine⟨v2,μ',m',?_,d2,d3,d4⟩;simp only[V.e] at d1;simp only[cU,V.e,↓xo,ot (lu hi),zdA,zdB,nM.c,zdy,g1,zdC,zdz,bc h1,bc h2,au,nM.S,ai,ot h3,aJ nM.S,d1]
  ·obtain⟨v2,μ',m',d1,d2,d3,d4,_⟩:=qk pk h (by omega) hi
   refine⟨v2,μ',m',?_,d2.le pk (by omega),by omega,d4.ev i⟩
   simp only[V.e] at d1;simp only[cU,V.e,↓xo,ot (lu hi),zdA,zdB,nM.c,zdy,g1,zdC,zdD,zdz,bc h1,bc h2,au,nM.S,ai,bc h3,aJ nM.S,d1]
end
structure Ew (i:Nat)(v v':V):Prop where
 now:v'.now=v.now
 cfg:v'.cfg=v.cfg
 jg: ∀j,j<16->jg v' j=jg v j\/(jg v' j).1=0\/(j=i/\(jg v' j).2.2.2.2.1=v.now)
theorem Ev.ew {i:Nat}{v v':V}(h:Ev i v v'):Ew i v v':=⟨h.now,h.cfg,h.jg⟩
section
variable {P:Nat->V->(Nat->MS)->Prop}{k m:Nat}{v:V}{μ:Nat->MS}{i:Nat}
theorem Xd {F:List xn}{f:Nat}{y:xn}(h:F[f]?=some y):y.1.1.length<=lE F:=by
 have:=Hi h (x:=(([],false,()),()));simp only[zdK] at this;omega
theorem Lc (pk:PK P)(h:VI P k m v μ)(hi:i<16)(out:List (List Int))(ho: ∀x∈out,x.length<=1000000)(hl:out.length<=1000000)(hm:m<=10000000000): ∃v' μ' m',ag (bL WX) (((),(i:Int),out,(out.length:Int),0,()),v.e)=some (((),(i:Int),()),v'.e)/\VI P (k+out.length) m' v' μ'/\m'<=m+900*out.length/\Ev i v v':=by
 have key:=rG (b:=bL WX) (λq l=> ∃(j:Nat) (v1:V) (μ1:Nat->MS) (m1:Nat),j<=out.length/\q=out.length-j/\l=(((),(i:Int),out,(out.length:Int),(j:Int),()),v1.e)/\VI P (k+j) m1 v1 μ1/\m1<=m+900*j/\Ev i v v1)
  (λr=> ∃(v1:V) (μ1:Nat->MS) (m1:Nat),r=(((),(i:Int),()),v1.e)/\VI P (k+out.length) m1 v1 μ1/\m1<=m+900*out.length/\Ev i v v1) (λq l hq=>by
  obtain⟨j,v1,μ1,m1,hj,rfl,rfl,i1,i2,i3⟩:=hq;by_cases hc:j<out.length
  ·obtain⟨f,o,s,fr,ou,nM,l8⟩:=i1.ci i hi
   have hA:=Tf nM;have hx:=zdE hc;have XD:=ho _ (zeO hc);have e1:=lD hc hl;generalize out[j]=x at hx XD;by_cases h0:s.1=0
   ·exact .inr ⟨(((),(i:Int),()),v1.e),by simp only[bL,↓xo,oT ((j:Int)<(out.length:Int)),oT ((0:Int)<=(j:Int)),zdA,zdB,hx,zdy,hA,ot h0],v1,μ1,m1,rfl,i1.le pk (by omega),by omega,i3⟩
   ·obtain⟨rC,r,h3,h4⟩:=tP i1.mt (i:=0) (by omega)
    change aT WX (((),0,1,()),_)=_ at h3;have v2:VI P (k+j) m1 {v1 with mt:=rC} μ1:=⟨i1.ss.pa (by rfl),i1.ci.pa rfl rfl rfl rfl,h4,i1.lg,pk.pa i1.p (by rfl) (by rfl) (by rfl),i1.qi.mono (λ_ _ h=>⟨h,rfl⟩) .rfl (by rfl)⟩
    obtain⟨v3,μ3,m3,b1,b2,b3,b4⟩:=Uw pk v2 (by omega) hi XD
    obtain⟨v4,μ4,m4,s1,s2,s3,s4,_⟩:=yE pk b2 (by omega)
    have b4':Ev i v1 v3:=⟨b4.now,b4.cfg,b4.left,b4.jg⟩;refine .inl ⟨(((),(i:Int),out,(out.length:Int),((j+1:Nat):Int),()),v4.e),?_,out.length-(j+1),by omega,j+1,v4,μ4,m4,by omega,rfl,rfl,s2,by omega,i3.trans (b4'.trans (s4.ev i))⟩
    simp only[V.e] at hA b1 s1⊢;simp only[bL,↓xo,xw,oT ((j:Int)<(out.length:Int)),oT ((0:Int)<=(j:Int)),zdA,zdB,hx,zdy,hA,bc h0,zdz,h3,b1,s1,e1]
  ·obtain rfl:j=out.length:=by omega
   exact .inr ⟨(((),(i:Int),()),v1.e),by simp only[bL,↓xo,oF ((out.length:Int)<(out.length:Int)),zdz],v1,μ1,m1,rfl,i1,i2,i3⟩)
 obtain⟨r,h1,v1,μ1,m1,rfl,h2,h3,h4⟩:=key out.length (((),(i:Int),out,(out.length:Int),0,()),v.e) ⟨0,v,μ,m,by omega,by omega,rfl,h,by omega, .rfl i v⟩
 exact⟨v1,μ1,m1,h1,h2,h3,h4⟩
theorem Rc (pk:PK P)(h:VI P k m v μ)(hi:i<16)(bs:List Int)(hl:lE v.F+bs.length<=1000000)(hm:m<=10000000000): ∃v' μ' k' m',cK WX (((),(i:Int),bs,()),v.e)=some ((),v'.e)/\VI P k' m' v' μ'/\2*k'+lE v'.F<=2*k+lE v.F+bs.length/\m'<=m+1000*(lE v.F+bs.length+1)/\Ew i v v':=by
 obtain⟨f,o,s,fr,ou,nM,l8⟩:=h.ci i hi;have vC:=Xd nM.F;simp only at vC;obtain⟨out,wQ,g1,g2,g3⟩:=Ut fr bs (by omega)
 have hls:=Hi nM.F (x:=(wQ,()));simp only at hls;have v1:VI P k m {v with F:=v.F.set f (wQ,())} μ:=⟨h.ss.pa (by rfl),λj hj=>by
  obtain⟨f2,o2,s2,U7,Wp,c1,c2⟩:=h.ci j hj;by_cases e:f2=f
  ·subst e
   exact⟨f2,o2,s2,wQ,Wp,⟨c1.lt,c1.c,c1.S,kI c1.F,c1.O⟩,c2⟩
  ·exact⟨f2,o2,s2,U7,Wp,⟨c1.lt,c1.c,c1.S,by show(v.F.set f _)[f2]?=_;rw[kF e];exact c1.F,c1.O⟩,c2⟩,h.mt,h.lg,pk.pa h.p (by rfl) (by rfl) (by rfl),h.qi.mono (λ_ _ h=>⟨h,rfl⟩) .rfl (by rfl)⟩
 obtain⟨v2,μ2,m2,l1,l2,l3,l4⟩:=Lc pk v1 hi out g3 (by omega) hm
 have hle:lE v2.F=lE (v.F.set f (wQ,())):=l4.left;have ew:Ew i v v2:=⟨l4.now,l4.cfg,l4.jg⟩;obtain⟨f3,o3,s3,fr3,ou3,c3,ok3⟩:=l2.ci i hi;simp only[V.e] at l1;cases hb:fr3.2.1 with
 |false=>
  refine⟨v2,μ2,k+out.length,m2,?_,l2,by omega,by omega,ew⟩
  simp only[V.e];rcases g1 with g1|g1
  ·simp only[cK,↓xo,ot (lu hi),zdA,zdB,nM.c,zdy,au,nM.F,g1,↓xl,l1,c3.c,c3.F,et,hb,zdz,aJ c3.F]
  ·simp only[cK,↓xo,ot (lu hi),zdA,zdB,nM.c,zdy,au,nM.F,g1,↓xl,l1,c3.c,c3.F,et,hb,zdz,aJ c3.F]
 |true=>
  obtain⟨v3,μ3,m3,d1,d2,d3,d4,_⟩:=qk pk l2 (by omega) hi
  obtain⟨v4,μ4,m4,w1,w2,w3,w4,_⟩:=yE pk d2 (by omega)
  have dw:=d4.trans w4;have zdw:lE v4.F=lE v2.F:=dw.left;have dv:=dw.ev i;refine⟨v4,μ4,k+out.length,m4,?_,w2,by omega,by omega,⟨dv.now.trans ew.now,dv.cfg.trans ew.cfg,λj hj=>?_⟩⟩
  ·simp only[V.e] at d1 w1⊢
   rcases g1 with g1|g1
   ·simp only[cK,↓xo,ot (lu hi),zdA,zdB,nM.c,zdy,au,nM.F,g1,↓xl,l1,c3.c,c3.F,et,hb,aJ c3.F,d1,w1]
   ·simp only[cK,↓xo,ot (lu hi),zdA,zdB,nM.c,zdy,au,nM.F,g1,↓xl,l1,c3.c,c3.F,et,hb,aJ c3.F,d1,w1]
  ·rcases dw.jg j hj with e|e
   ·rw[e];exact ew.jg j hj
   ·exact .inr (.inl e)
def DoR (P:Nat->V->(Nat->MS)->Prop)(k m:Nat)(v:V)(i:Nat)(n:Nat)(o:Option ((Bool×Unit)×VT)):Prop:=
 (o=some ((false,()),v.e))\/∃v' μ' k' m',o=some ((true,()),v'.e)/\VI P k' m' v' μ'/\2*k'+lE v'.F<=2*k+lE v.F+n/\m'<=m+1000*(lE v.F+n+1)/\Ew i v v'
theorem NQ (pk:PK P)(h:VI P k m v μ)(hi:i<16)(bs:List Int)(hl:lE v.F+bs.length<=1000000)(hm:m<=10000000000):DoR P k m v i bs.length (aI WX (((),(2,(i:Int),0,gL,bs,()),()),v.e)):=by
 obtain⟨f,o,s,fr,ou,nM,l8⟩:=h.ci i hi;have e1: ¬(2:Int)=4:=by omega
 have e2: ¬(2:Int)=1:=by omega
 by_cases h0:s.1=0
 ·refine .inl ?_
  simp only[aI,gb,V.e,↓xo,bc e1,bc e2,zdz,oT ((i:Int)>=0),oT ((i:Int)<16),ot (lu hi),zdA,zdy,zdC,eq_self,iL,zdB,nM.c,au,nM.S,ai,ot h0,aJ nM.S]
 ·obtain⟨v',μ',k',m',b1,b2,b3,b4,b5⟩:=Rc pk h hi bs hl hm
  refine .inr ⟨v',μ',k',m',?_,b2,b3,b4,b5⟩;simp only[V.e] at b1⊢;simp only[aI,gb,↓xo,bc e1,bc e2,zdz,oT ((i:Int)>=0),oT ((i:Int)<16),ot (lu hi),zdA,zdy,zdC,eq_self,iL,zdB,nM.c,au,nM.S,ai,bc h0,aJ nM.S,b1]
theorem Rd (pk:PK P)(h:VI P k m v μ)(hi:i<16)(hm:m<=10000000000):DoR P k m v i 0 (aI WX (((),(3,(i:Int),0,gL,[],()),()),v.e)):=by
 obtain⟨f,o,s,fr,ou,nM,l8⟩:=h.ci i hi;have e1: ¬(3:Int)=4:=by omega
 have e2: ¬(3:Int)=1:=by omega
 have e3: ¬(3:Int)=2:=by omega
 by_cases h0:s.1=0
 ·refine .inl ?_
  simp only[aI,gb,V.e,↓xo,bc e1,bc e2,bc e3,zdz,oT ((i:Int)>=0),oT ((i:Int)<16),ot (lu hi),zdA,zdy,zdC,zdD,eq_self,iL,zdB,nM.c,au,nM.S,ai,ot h0,aJ nM.S]
 ·obtain⟨v3,μ3,m3,d1,d2,d3,d4,_⟩:=qk pk h (by omega) hi
  obtain⟨v4,μ4,m4,w1,w2,w3,w4,_⟩:=yE pk d2 (by omega)
  have dw:=d4.trans w4;refine .inr ⟨v4,μ4,k,m4,?_,w2,by rw[dw.left];omega,by omega,(dw.ev i).ew⟩
  simp only[V.e] at d1 w1⊢;simp only[aI,gb,↓xo,bc e1,bc e2,bc e3,zdz,oT ((i:Int)>=0),oT ((i:Int)<16),ot (lu hi),zdA,zdy,zdC,zdD,eq_self,iL,zdB,nM.c,au,nM.S,ai,bc h0,aJ nM.S,d1,w1]
theorem I9 (pk:PK P)(h:VI P k m v μ)(hi:i<16){nc:List Int}(hn:nc.length=32):DoR P k m v i 0 (aI WX (((),(1,(i:Int),0,nc,[],()),()),v.e)):=by
 obtain⟨f,o,s,fr,ou,nM,l8⟩:=h.ci i hi;have e1: ¬(1:Int)=4:=by omega
 by_cases h0:s.1=0
 ·have hd:=EH nM h0 nc
  have hF:(v.F++ [((([]:List Int),false,()),())])[v.F.length]?=some (([],false,()),()):=by simp
  have hO:(v.O++ [((([]:List Int),false,()),())])[v.O.length]?=some (([],false,()),()):=by simp
  have hs:=λj=>AP nM (x:=(1,0,nc,0,v.now,())) rfl j;refine .inr ⟨_,μ,k,m,hd,⟨h.ss.pa (by rfl),λj hj=>?_,h.mt,h.lg,pk.pa h.p (by rfl) (by rfl) (by rfl),h.qi.mono (λj hj h3=>?_) .rfl (by rfl)⟩,?_,by omega,⟨rfl,rfl,λj hj=>?_⟩⟩
  ·by_cases e:j=i
   ·subst e
    exact⟨_,_,_,_,_,⟨hi,kI nM.c,kI nM.S,hF,hO⟩,⟨by simp,hn,by simp,by simp⟩⟩
   ·obtain⟨f',o',s',wQ,IQ,c1,c2⟩:=h.ci j hj
    refine⟨f',o',s',wQ,IQ,⟨c1.lt,?_,?_,?_,?_⟩,c2⟩
    ·show(v.c.set i _)[j]?=_;rw[kF e];exact c1.c
    ·show(v.S.set i _)[j]?=_;rw[kF e];exact c1.S
    ·show(v.F++_)[f']?=_;rw[zeq (List.getElem?_eq_some_iff.1 c1.F).1];exact c1.F
    ·show(v.O++_)[o']?=_;rw[zeq (List.getElem?_eq_some_iff.1 c1.O).1];exact c1.O
  ·change ((v.S.set i ((1,0,nc,0,v.now,()),())).getD j (s0,())).1.1=3 at h3
   show(jg v j).1=3/\((v.S.set i ((1,0,nc,0,v.now,()),())).getD j (s0,())).1.2.1=(jg v j).2.1
   rw[hs] at h3⊢;by_cases e:j=i
   ·rw[if_pos e] at h3;simp at h3
   ·rw[if_neg e] at h3⊢;exact⟨h3,rfl⟩
  ·show 2*k+lE (v.F++_)<=_
   rw[tR];simp[lE]
  ·show(((v.S.set i ((1,0,nc,0,v.now,()),())).getD j (s0,())).1=_)\/((v.S.set i ((1,0,nc,0,v.now,()),())).getD j (s0,())).1.1=0\/_/\((v.S.set i ((1,0,nc,0,v.now,()),())).getD j (s0,())).1.2.2.2.2.1=_
   rw[hs];by_cases e:j=i
   ·rw[if_pos e];exact .inr (.inr ⟨e,rfl⟩)
   ·rw[if_neg e];exact .inl rfl
 ·refine .inl ?_
  simp only[aI,gb,V.e,↓xo,bc e1,zdz,oT ((i:Int)>=0),oT ((i:Int)<16),ot (lu hi),zdA,zdy,zdC,zdD,eq_self,iL,zdB,nM.c,au,aZ,nM.S,dN,bc h0,aJ nM.S]
end
section
variable {P:Nat->V->(Nat->MS)->Prop}{k m:Nat}{v:V}{μ:Nat->MS}{i:Nat}
abbrev idle (v:V):Int:=v.cfg.2.2.2.2.2.2.1
def Ft (s:xv)(now d:Int):Bool:=decide (s.1≠0/\i64.wrap (now-s.2.2.2.2.1)>=d)
theorem Xe (s:xv)(now d:Int):eB WX (((),now,d,()),(s,()))=some ((Ft s now d,()),(s,())):=by
 unfold Ft;by_cases h0:s.1=0
 ·simp only[eB,↓xo,ot h0,zdC,zdz];rw[decide_eq_false (λq=>q.1 h0)]
 ·by_cases h1:i64.wrap (now-s.2.2.2.2.1)>=d
  ·simp only[eB,↓xo,xw,bc h0,zdD,zdA,ot h1];rw[decide_eq_true ⟨h0,h1⟩]
  ·simp only[eB,↓xo,xw,bc h0,zdD,zdA,bc h1];rw[decide_eq_false (λq=>h1 q.2)]
theorem Re (pk:PK P)(h:VI P k m v μ)(hm:m<=10000000000): ∃v' μ' m',ag (dj WX) (((),v.c,0,()),v.e)=some (((),()),v'.e)/\VI P k m' v' μ'/\m'<=m+736/\Dw v v'/\∀j,j<16->(jg v' j).1=0\/(jg v' j=jg v j/\Ft (jg v j) v.now (idle v)=false):=by
 obtain⟨⟨v',μ',m'⟩,l1,l2,l3,l4,l5⟩:=pO (b:=dj WX) 16 (λj (s:V×(Nat->MS)×Nat)=>(((),v.c,(j:Int),()),s.1.e)) (λs=>(((),()),s.1.e))
  (λj s=>VI P k s.2.2 s.1 s.2.1/\s.2.2<=m+46*j/\Dw v s.1/\∀j',j'<j->(jg s.1 j').1=0\/(jg s.1 j'=jg v j'/\Ft (jg v j') v.now (idle v)=false))
  (λj s hj hI=>by
   obtain⟨v1,μ1,m1⟩:=s;obtain⟨i1,i2,i3,i4⟩:=hI;simp only at i1 i2 i3 i4;obtain⟨f0,o0,s0',fr0,ou0,c0,_⟩:=h.ci j hj;have hc0:=c0.c;obtain⟨f,o,s,fr,ou,nM,l8⟩:=i1.ci j hj;have hs:=wX nM;have e1:=lD hj (by omega)
   have kQ:=Xe s v1.now v1.cfg.2.2.2.2.2.2.1;cases hb:Ft s v1.now v1.cfg.2.2.2.2.2.2.1 with
   |true=>
    rw[hb] at kQ;obtain⟨v3,μ3,m3,d1,d2,d3,d4,d5,d6,_⟩:=qk pk i1 (by omega) hj
    refine⟨(v3,μ3,m3),?_,d2,by simp only;omega,i3.trans d4,λj' BZ=>?_⟩
    ·simp only[V.e] at d1⊢
     simp only[dj,↓xo,xw,oT ((j:Int)<16),ot (lu hj),zdA,zdB,hc0,zdy,aZ,dM,au,nM.S,kQ,aJ nM.S,d1,e1]
    ·by_cases e:j'=j
     ·subst e;exact .inl d5
     ·show(jg v3 j').1=0\/(jg v3 j'=_/\_)
      rw[d6 j' e];exact i4 j' (by omega)
   |false=>
    rw[hb] at kQ;refine⟨(v1,μ1,m1),?_,i1,by simp only;omega,i3,λj' BZ=>?_⟩
    ·simp only[V.e]
     simp only[dj,↓xo,xw,oT ((j:Int)<16),ot (lu hj),zdA,zdB,hc0,zdy,aZ,dM,au,nM.S,kQ,zdz,aJ nM.S,e1]
    ·by_cases e:j'=j
     ·subst e
      rcases i3.jg j' hj with q|q
      ·refine .inr ⟨q,?_⟩
       rw[<-q,hs,<-i3.now];unfold idle;rw[<-i3.cfg];exact hb
      ·exact .inl q
     ·exact i4 j' (by omega))
  (λs _=>by simp only[dj,↓xo,oF (((16:Nat):Int)<16),zdz]) (v,μ,m) ⟨h,by simp only;omega, .rfl v,λj hj=>by omega⟩
 exact⟨v',μ',m',l1,l2,by simp only at l3;omega,l4,l5⟩
theorem Rf (pk:PK P)(h:VI P k m v μ)(hm:m<=1000000000)(n:Int):aI WX (((),(4,0,n,gL,[],()),()),v.e)=some ((false,()),v.e)\/∃v' μ' m',aI WX (((),(4,0,n,gL,[],()),()),v.e)=some ((true,()),v'.e)/\VI P k m' v' μ'/\lE v'.F=lE v.F/\m'<=m+2000/\1<=n/\v'.now=v.now+n/\v'.cfg=v.cfg/\∀j,j<16->(jg v' j).1=0\/(jg v' j=jg v j/\Ft (jg v j) v'.now (idle v)=false):=by
 have FT:=h.ss.now;have e:i64.wrap (1099511627776-v.now)=1099511627776-v.now:=nO (by omega) (by omega)
 by_cases h1:n<1
 ·exact .inl (by simp only[aI,fD,V.e,↓xo,eq_self,iL,zdA,ot h1,zdy])
 by_cases h2:n>1099511627776-v.now
 ·exact .inl (by simp only[aI,fD,V.e,↓xo,xw,eq_self,iL,zdA,bc h1,zdz,aZ,zdy,e,ot h2])
 ·have hdo:=Wk (v:=v) n (by omega) (by omega) FT.1 FT.2
  obtain⟨xf,g1,g2⟩:=IN h.lg (by omega) (Wl (n:=n) (by omega) (by omega))
  obtain⟨e',rC,O',r1,r2,r3⟩:=NN (v1:={v with now:=v.now+n}) h.ci h.mt (by rfl) (by rfl) (by rfl) (by rfl) (.inl ⟨0,hdo⟩) g1
  have s1:SS {v with now:=v.now+n} μ:=⟨⟨⟨h.ss.si.pV.mp,h.ss.si.pV.at_⟩,h.ss.si.op,h.ss.si.Lx,h.ss.si.ps⟩,h.ss.tr,h.ss.ph,h.ss.Yh,h.ss.bp,h.ss.B,h.ss.lp,h.ss.L,by show 0<=v.now+n/\v.now+n<=1099511627776;omega⟩
  have v2:VI P k (m+46) {v with now:=v.now+n,lg:=xf,mt:=rC,O:=O'} μ:=⟨s1.pa (by rfl),r2,r3,g2,pk.pa h.p (by rfl) (by rfl) (by rfl),h.qi.mono (λ_ _ h=>⟨h,rfl⟩) .rfl (by rfl)⟩
  obtain⟨v3,μ3,m3,l1,l2,l3,l4,l5⟩:=Re pk v2 (by omega)
  obtain⟨v4,μ4,m4,w1,w2,w3,w4,_⟩:=yE pk l2 (by omega)
  have dw:=l4.trans w4;refine .inr ⟨v4,μ4,m4,?_,w2,dw.left,by omega,by omega,dw.now,dw.cfg,λj hj=>?_⟩
  ·simp only[V.e] at r1 l1 w1⊢
   simp only[aI,fD,↓xo,xw,eq_self,iL,zdA,bc h1,zdz,aZ,zdy,e,bc h2,r1,↓xl,l1,w1]
  ·rcases w4.jg j hj with q|q
   ·rw[q]
    have hn:v4.now=v.now+n:=dw.now;rw[hn];exact l5 j hj
   ·exact .inl q
end
abbrev BQ (x:Int):Prop:= -9223372036854775808<=x/\x<=9223372036854775807
theorem Rg {a b c d e f g:Int}(ha:BQ a)(hb:BQ b)(hc:BQ c)(hd:BQ d)(he:BQ e)(hf:BQ f): ∃o:cY,gm WX (((a,b,c,d,e,f,g,()),()),())=some ((o,()),()):=by
 obtain⟨r1,_,_,w1⟩:=jK ha (lo:=0) (hi:=5) (by omega) (by omega) (by omega)
 obtain⟨r2,_,_,w2⟩:=jK hb (lo:=0) (hi:=15) (by omega) (by omega) (by omega)
 obtain⟨r3,_,_,w3⟩:=jK hc (lo:=0) (hi:=1) (by omega) (by omega) (by omega)
 obtain⟨r4,_,_,w4⟩:=jK hc (lo:=0) (hi:=9) (by omega) (by omega) (by omega)
 obtain⟨r5,_,_,w5⟩:=jK hd (lo:=95) (hi:=105) (by omega) (by omega) (by omega)
 obtain⟨r6,l6,u6,w6⟩:=jK he (lo:=1) (hi:=12) (by omega) (by omega) (by omega)
 obtain⟨r7,_,_,w7⟩:=jK hf (lo:=0) (hi:=r6) (by omega) (by omega) (by omega)
 have e2: ¬(2:Int)=0:=by omega
 have cb: ∀(q:Bool) (x y:Option ((cY×Unit)×Unit)),(∃o:cY,x=some ((o,()),()))->(∃o:cY,y=some ((o,()),()))->∃o:cY,(bif q then x else y)=some ((o,()),()):=λq x y hx hy=>by cases q<;>assumption
 simp only[gm,w1,w2,w3,w4,w5,w6,w7,zdy,↓xo,bc e2,zdz];repeat' first|exact⟨_,rfl⟩|apply cb
theorem Ux {a b c d e f g:Int}(ha:BQ a)(hb:BQ b)(hc:BQ c)(hd:BQ d)(he:BQ e)(hf:BQ f)(hg:BQ g): ∃o:cY,ic WX (((a,b,c,d,e,f,g,()),()),())=some ((o,()),()):=by
 obtain⟨o,h1⟩:=Rg (g:=g) ha hb hc hd he hf;obtain⟨r2,_,_,w2⟩:=jK hg (lo:=0) (hi:=32) (by omega) (by omega) (by omega)
 by_cases h:r2<11
 ·exact⟨_,by simp only[ic,h1,w2,zdy,↓xo,ot h,zdA];rfl⟩
 ·exact⟨_,by simp only[ic,h1,w2,zdy,↓xo,bc h,zdz];rfl⟩
def Ct (o:Option ((mU×Unit)×Unit)):Prop:= ∃c:mU,o=some ((c,()),())/\c.2.2.2.2.2.2.2.2.2.2.2.2.2.2.1=gL
theorem Ct.bif {q:Bool}{x y:Option ((mU×Unit)×Unit)}(hx:Ct x)(hy:Ct y):Ct (bif q then x else y):=by cases q<;>assumption
structure DoI (d:VS):Prop where
 x0:BQ d.1
 x1:BQ d.2.1
 x2:BQ d.2.2.1
 x3:BQ d.2.2.2.1
 x4:BQ d.2.2.2.2.1
 y0:BQ d.2.2.2.2.2.1.1
 y1:BQ d.2.2.2.2.2.1.2.1
 y2:BQ d.2.2.2.2.2.1.2.2.1
 y3:BQ d.2.2.2.2.2.1.2.2.2.1
 y4:BQ d.2.2.2.2.2.1.2.2.2.2.1
 y5:BQ d.2.2.2.2.2.1.2.2.2.2.2.1
 y6:BQ d.2.2.2.2.2.1.2.2.2.2.2.2.1
theorem Uy {d:VS}(h:DoI d):Ct (il WX ((d,()),())):=by
 obtain⟨x0,x1,x2,x3,x4,⟨y0,y1,y2,y3,y4,y5,y6,⟨⟩⟩,⟨⟩⟩:=d;obtain⟨a0,a1,a2,a3,a4,b0,b1,b2,b3,b4,b5,b6⟩:=h;simp only at a0 a1 a2 a3 a4 b0 b1 b2 b3 b4 b5 b6;obtain⟨o,s1⟩:=Ux b0 b1 b2 b3 b4 b5 b6;obtain⟨r2,_,_,w2⟩:=jK a4 (lo:=0) (hi:=3) (by omega) (by omega) (by omega)
 obtain⟨r3,_,_,w3⟩:=jK a0 (lo:=0) (hi:=15) (by omega) (by omega) (by omega)
 obtain⟨r4,_,_,w4⟩:=jK a3 (lo:=0) (hi:=7) (by omega) (by omega) (by omega)
 obtain⟨r5,_,_,w5⟩:=jK a1 (lo:=0) (hi:=7) (by omega) (by omega) (by omega)
 obtain⟨r6,_,_,w6⟩:=jK b3 (lo:=95) (hi:=105) (by omega) (by omega) (by omega)
 obtain⟨r7,_,_,w7⟩:=jK a4 (lo:=0) (hi:=8) (by omega) (by omega) (by omega)
 obtain⟨r8,_,_,w8⟩:=jK a2 (lo:=1) (hi:=3) (by omega) (by omega) (by omega)
 obtain⟨r9,_,_,w9⟩:=jK a2 (lo:=1) (hi:=9) (by omega) (by omega) (by omega)
 obtain⟨m7,_,_,w10⟩:=jK a3 (lo:=0) (hi:=8) (by omega) (by omega) (by omega)
 simp only[il,s1,w2,w3,w4,w5,w6,w7,w8,w9,w10,zdy,↓xo];repeat' first|exact⟨_,rfl,rfl⟩|apply Ct.bif
theorem Xf (c:mU)(ht:c.2.2.2.2.2.2.2.2.2.2.2.2.2.2.1.length=32): ∃bs:List Int,gO WX ((c,()),())=some (((),()),(bs,()))/\bs.length<=60:=by
 obtain⟨kd,sq,td,it,id,sd,od,p,q,sh,st,wh,a,b,tg,⟨⟩⟩:=c;simp only at ht;have no: ∀{c:mU},bg WX ((c,()),())=some ((false,()),())->∃bs:List Int,gO WX ((c,()),())=some (((),()),(bs,()))/\bs.length<=60:=λh=>⟨[],by simp only[gO,h,zdy,zdD,zdA],by simp⟩
 have le: ∀{o:Option ((Unit×Unit)×(List Int×Unit))} (k:Nat),k<=60->Yi k o=true->∃bs:List Int,o=some (((),()),(bs,()))/\bs.length<=60:=λk hk h=>by
  obtain⟨bs,h1,h2⟩:=uw h;exact⟨bs,h1,by omega⟩
 by_cases h1:kd=1
 ·subst h1
  obtain⟨r,hr,_⟩:=Fg sq td it id sd od p q sh st wh a b tg;cases r with
  |false=>exact no hr
  |true=>
   apply le 2 (by omega)
   simp only[gO,hr,zdy,zdC,zdz];clear hr le no ht;kernel_rfl
 by_cases h2:kd=2
 ·subst h2
  obtain⟨r,hr⟩:=Fo sq td it id sd od p q sh st wh a b tg;cases r with
  |false=>exact no hr
  |true=>
   obtain⟨f,rfl⟩:=mK tg ht;apply le 33 (by omega)
   simp only[gO,hr,zdy,zdC,zdz];clear hr le no ht h1;kernel_rfl
 by_cases h3:kd=3
 ·subst h3
  obtain⟨r,hr,_⟩:=Fh sq td it id sd od p q sh st wh a b tg;cases r with
  |false=>exact no hr
  |true=>
   apply le 28 (by omega)
   simp only[gO,hr,zdy,zdC,zdz];clear hr le no ht h1 h2;kernel_rfl
 by_cases h4:kd=4
 ·subst h4
  obtain⟨r,hr,_⟩:=Fi sq td it id sd od p q sh st wh a b tg;cases r with
  |false=>exact no hr
  |true=>
   apply le 11 (by omega)
   simp only[gO,hr,zdy,zdC,zdz];clear hr le no ht h1 h2 h3;kernel_rfl
 by_cases h5:kd=5
 ·subst h5
  obtain⟨r,hr,_⟩:=Fj sq td it id sd od p q sh st wh a b tg;cases r with
  |false=>exact no hr
  |true=>
   apply le 18 (by omega)
   simp only[gO,hr,zdy,zdC,zdz];clear hr le no ht h1 h2 h3 h4;kernel_rfl
 by_cases h6:kd=6
 ·subst h6
  obtain⟨r,hr,_⟩:=Fk sq td it id sd od p q sh st wh a b tg;cases r with
  |false=>exact no hr
  |true=>
   apply le 7 (by omega)
   simp only[gO,hr,zdy,zdC,zdz];clear hr le no ht h1 h2 h3 h4 h5;kernel_rfl
 by_cases h7:kd=7
 ·subst h7
  obtain⟨r,hr⟩:=Fq sq td it id sd od p q sh st wh a b tg;cases r with
  |false=>exact no hr
  |true=>
   apply le 1 (by omega)
   simp only[gO,hr,zdy,zdC,zdz];clear hr le no ht h1 h2 h3 h4 h5 h6;kernel_rfl
 by_cases h8:kd=8
 ·subst h8
  obtain⟨r,hr⟩:=Fs sq td it id sd od p q sh st wh a b tg;cases r with
  |false=>exact no hr
  |true=>
   apply le 1 (by omega)
   simp only[gO,hr,zdy,zdC,zdz];clear hr le no ht h1 h2 h3 h4 h5 h6 h7;kernel_rfl
 by_cases h9:kd=9
 ·subst h9
  obtain⟨r,hr,_⟩:=Fm sq td it id sd od p q sh st wh a b tg;cases r with
  |false=>exact no hr
  |true=>
   apply le 8 (by omega)
   simp only[gO,hr,zdy,zdC,zdz];clear hr le no ht h1 h2 h3 h4 h5 h6 h7 h8;kernel_rfl
 exact no (Us sq td it id sd od p q sh st wh a b tg h1 h2 h3 h4 h5 h6 h7 h8 h9)
theorem Uz {bs:List Int}(h:bs.length<=200): ∃fb:List Int,fY WX ((bs,()),())=some (((),()),(fb,()))/\fb.length<=bs.length+2:=by
 have hm:=Pn (bs.length:Int);have e8: ¬(8:Int)<0:=by omega
 by_cases h1:1<=(bs.length:Int)/\(bs.length:Int)<=256
 ·rw[decide_eq_true h1] at hm
  refine⟨[WX.wr .u8 (WX.shr .i64 (bs.length:Int) 8),WX.wr .u8 (bs.length:Int)]++bs,?_,by rw[zdI];simp only[zdJ,zdK];omega⟩
  simp only[fY,hm,zdy,zdC,zdz,↓xo,bc e8,ot (show(((([WX.wr .u8 (WX.shr .i64 (bs.length:Int) 8),WX.wr .u8 (bs.length:Int)]:List Int).length+bs.length:Nat):Int))*((1:Nat):Int)<=((room:Nat):Int) by unfold room;simp only[zdJ,zdK];omega),zdA]
 ·rw[decide_eq_false h1] at hm
  exact⟨[],by simp only[fY,hm,zdy,zdD,zdA],by simp⟩
theorem v7 (c:mU)(i:Int)(ht:c.2.2.2.2.2.2.2.2.2.2.2.2.2.2.1.length=32): ∃fb:List Int,bH WX ((c,i,()),())=some (((2,i,0,gL,(),()),()),(fb,()))/\fb.length<=62:=by
 obtain⟨bs,h1,h2⟩:=Xf c ht;obtain⟨fb,h3,h4⟩:=Uz (bs:=bs) (by omega)
 exact⟨fb,by simp only[bH,h1,zdy,h3],by omega⟩
inductive Fu:yL->Prop
 |conn (i:Nat) (nc:List Int) (hi:i<16) (hn:nc.length=32):Fu (1,(i:Int),0,nc,[],())
 |bytes (i:Nat) (bs:List Int) (hi:i<16) (hb:bs.length<=62):Fu (2,(i:Int),0,gL,bs,())
 |gone (i:Nat) (hi:i<16):Fu (3,(i:Int),0,gL,[],())
 |tick (n:Int) (hn:1<=n/\n<=30):Fu (4,0,n,gL,[],())
structure MvI (q:Ay):Prop where
 k:BQ q.1
 c:BQ q.2.1
 d:DoI q.2.2.1
abbrev vS (v:V)(st:List yL):=(((),v.c,(),(),()),(v.cfg,v.now,(),v.ph,v.mp,(),v.bp,v.lp,()),(v.tr,()),(v.op,v.ps,()),v.lg,(v.mt,()),st,v.M,v.L,v.S,v.F,v.O,v.B,())
def StR (v:V)(o:Option bf.R):Prop:= ∃nx' Ld,o=some (((),()),(((),nx',()),vS v Ld))/\nx'.length=16/\Ld.length<=3/\∀s∈Ld,Fu s
theorem Hl {i:Nat}(h:i<16):0<=(i:Int)/\(i:Int)<(16:Nat):=by omega
section
variable {v:V}
theorem Rh (h:CI v){nx:List Int}(hx:nx.length=16){q:Ay}(hq:MvI q):StR v (bf WX (((),q,()),(((),nx,()),v.e))):=by
 obtain⟨K,C,d,bts,⟨⟩⟩:=q;obtain⟨hk,hc,hd⟩:=hq;simp only at hk hc hd;obtain⟨ci,l1,u1,w1⟩:=jK hc (lo:=0) (hi:=5) (by omega) (by omega) (by omega)
 obtain⟨i,rfl⟩:=zft l1;have hi:i<16:=by omega
 obtain⟨r,l2,u2,w2⟩:=jK hk (lo:=0) (hi:=15) (by omega) (by omega) (by omega)
 by_cases c3:r<=3
 ·obtain⟨nc,n1,n2⟩:=Kx d.2.2.2.1
  obtain⟨t,lt,ut,wt⟩:=jK hd.x1 (lo:=0) (hi:=6) (by omega) (by omega) (by omega)
  have VL:=IS t;have Wr:(kk t).length=32:=by simp[kk]
  obtain⟨tag,⟨q1,q2,t1,t2,t3⟩,t4⟩:=Na Wr n2;have e0:(0:Int)<=0/\(0:Int)<=((32:Nat):Int)/\((32:Nat):Int)<=(32:Nat):=by omega
  have Xg:=zdE (l:=nx) (i:=i) (by omega)
  generalize nx[i]'(by omega)=nxi at Xg
  have HI:=zdE (l:=tag) (i:=0) (by omega)
  generalize tag[0]'(by omega)=tg0 at HI
  obtain⟨f1,s1,b1⟩:=v7 (1,0,t,0,0,0,0,0,0,0,0,0,0,0,gL,()) (i:Int) (by simp)
  by_cases r3:r=3
  ·subst r3
   obtain⟨f2,s2,b2⟩:=v7 (2,0,0,0,0,0,0,0,0,0,0,0,0,0,tag.set 0 (WX.pC .u8 tg0 1),()) (i:Int) (by simp[t4])
   refine⟨nx.set i 1,[(1,(i:Int),0,nc,[],()),(2,(i:Int),0,gL,f1,()),(2,(i:Int),0,gL,f2,())],?_,by rw[zec];exact hx,by simp,λs hs=>?_⟩
   ·have z0:(0:Int).toNat=0:=rfl
    have e1:(0:Int)<=0/\(0:Int)<((32:Nat):Int):=by omega
    simp only[bf,V.e,w1,w2,zdy,↓xo,eq_self,Int.reduceEq,iL,nq,zdA,zdz,n1,wt,VL,ot e0,pw Wr,t1,pw n2,t2,t3,z0,ot e1,HI,ot (Hl hi),zdB,Xg,s1,s2]
   ·simp only[zek,List.mem_nil_iff,or_false] at hs
    rcases hs with rfl|rfl|rfl
    ·exact .conn i nc hi n2
    ·exact .bytes i f1 hi b1
    ·exact .bytes i f2 hi b2
  ·obtain⟨f2,s2,b2⟩:=v7 (2,0,0,0,0,0,0,0,0,0,0,0,0,0,tag,()) (i:Int) (by simp[t4])
   refine⟨nx.set i 1,[(1,(i:Int),0,nc,[],()),(2,(i:Int),0,gL,f1,()),(2,(i:Int),0,gL,f2,())],?_,by rw[zec];exact hx,by simp,λs hs=>?_⟩
   ·obtain hr:r=0\/r=1\/r=2:=by omega
    rcases hr with rfl|rfl|rfl
    ·simp only[bf,V.e,w1,w2,zdy,↓xo,eq_self,Int.reduceEq,iL,nq,zdA,zdz,n1,wt,VL,ot e0,pw Wr,t1,pw n2,t2,t3,ot (Hl hi),zdB,Xg,s1,s2]
    ·simp only[bf,V.e,w1,w2,zdy,↓xo,eq_self,Int.reduceEq,iL,nq,zdA,zdz,n1,wt,VL,ot e0,pw Wr,t1,pw n2,t2,t3,ot (Hl hi),zdB,Xg,s1,s2]
    ·simp only[bf,V.e,w1,w2,zdy,↓xo,eq_self,Int.reduceEq,iL,nq,zdA,zdz,n1,wt,VL,ot e0,pw Wr,t1,pw n2,t2,t3,ot (Hl hi),zdB,Xg,s1,s2]
   ·simp only[zek,List.mem_nil_iff,or_false] at hs
    rcases hs with rfl|rfl|rfl
    ·exact .conn i nc hi n2
    ·exact .bytes i f1 hi b1
    ·exact .bytes i f2 hi b2
 have n0: ¬r=0:=by omega
 have n1: ¬r=1:=by omega
 have n2: ¬r=2:=by omega
 have n3: ¬r=3:=by omega
 by_cases r4:r=4
 ·subst r4
  obtain⟨n,ln,un,wn⟩:=jK hd.x3 (lo:=1) (hi:=30) (by omega) (by omega) (by omega)
  refine⟨nx,[(4,0,n,gL,[],())],?_,hx,by simp,λs hs=>?_⟩
  ·simp only[bf,V.e,w1,w2,zdy,↓xo,eq_self,Int.reduceEq,iL,nq,zdA,zdz,wn]
  ·rw[List.mem_singleton.1 hs];exact .tick n ⟨ln,un⟩
 by_cases r5:r=5
 ·subst r5
  refine⟨nx,[(3,(i:Int),0,gL,[],())],?_,hx,by simp,λs hs=>?_⟩
  ·simp only[bf,V.e,w1,w2,zdy,↓xo,eq_self,Int.reduceEq,iL,nq,zdA,zdz]
  ·rw[List.mem_singleton.1 hs];exact .gone i hi
 by_cases r6:r=6
 ·subst r6
  have em:0<=(0:Int)/\(0:Int)<=min (bts.length:Int) 60/\min (bts.length:Int) 60<=(bts.length:Int):=by omega
  refine⟨nx,[(2,(i:Int),0,gL,bts.take (min (bts.length:Int) 60).toNat,())],?_,hx,by simp,λs hs=>?_⟩
  ·simp only[bf,V.e,w1,w2,zdy,↓xo,vP,eq_self,Int.reduceEq,iL,nq,zdA,zdz,ot em]
  ·rw[List.mem_singleton.1 hs];exact .bytes i _ hi (by rw[zd3];omega)
 by_cases r7:r=7
 ·subst r7
  obtain⟨f1,s1,b1⟩:=v7 (WX.wr .i64 (7+(WX.sT .i64 d.2.2.2.1 1)),0,0,0,0,0,0,0,0,0,0,0,0,0,gL,()) (i:Int) (by simp)
  refine⟨nx,[(2,(i:Int),0,gL,f1,())],?_,hx,by simp,λs hs=>?_⟩
  ·simp only[bf,V.e,w1,w2,zdy,↓xo,eq_self,Int.reduceEq,iL,nq,zdA,zdz,s1]
  ·rw[List.mem_singleton.1 hs];exact .bytes i _ hi b1
 ·obtain⟨c,k1,k2⟩:=Uy hd
  have Xg:=zdE (l:=nx) (i:=i) (by omega)
  generalize nx[i]'(by omega)=nxi at Xg
  obtain⟨f1,s1,b1⟩:=v7 (c.1,nxi,c.2.2) (i:Int) (by show c.2.2.2.2.2.2.2.2.2.2.2.2.2.2.1.length=32;rw[k2];simp)
  obtain⟨f,o,s,fr,ou,nM,l8⟩:=h i hi;have hA:=Tf nM;simp only[V.e] at hA;by_cases h3:s.1=3
  ·refine⟨nx.set i (i64.wrap (nxi+1)),[(2,(i:Int),0,gL,f1,())],?_,by rw[zec];exact hx,by simp,λs hs=>?_⟩
   ·simp only[bf,V.e,w1,w2,zdy,↓xo,xw,bc n0,bc n1,bc n2,bc n3,bc r4,bc r5,bc r6,bc r7,zdA,zdz,k1,ot (Hl hi),zdB,Xg,hA,ot h3,s1]
   ·rw[List.mem_singleton.1 hs];exact .bytes i _ hi b1
  ·refine⟨nx,[(2,(i:Int),0,gL,f1,())],?_,hx,by simp,λs hs=>?_⟩
   ·simp only[bf,V.e,w1,w2,zdy,↓xo,xw,bc n0,bc n1,bc n2,bc n3,bc r4,bc r5,bc r6,bc r7,zdA,zdz,k1,ot (Hl hi),zdB,Xg,hA,bc h3,s1]
   ·rw[List.mem_singleton.1 hs];exact .bytes i _ hi b1
end
def m0:MS:=([],[],[],0,0)
theorem zcn {v:V}{i:Nat}(h:v.M[i]?=some e0):zb3 v i m0:=by
 refine⟨[],[],[],h,⟨λp hp=>(by cases hp),λp hp=>(by cases hp),by simp,rfl,rfl⟩,⟨⟨?_,?_,by decide,λa ha=>(by cases ha)⟩,λo ho=>(by cases ho),by decide⟩,λo ho=>(by cases ho)⟩
 ·exact⟨λa ha=>(by cases ha),λa ha=>(by cases ha),List.Pairwise.nil⟩
 ·exact⟨λa ha=>(by cases ha),λa ha=>(by cases ha),List.Pairwise.nil⟩
theorem Le {n i:Nat}(hn:n<32)(hi:i<8):tb oo n i=0:=by
 unfold tb;rw[zdP,zdP,show oo[n]?=some (List.replicate 8 (0:Int)) from qq hn _]
 show((List.replicate 8 (0:Int))[i]?).getD 0=0
 rw[qq hi];rfl
theorem Po:tG oo:=⟨by simp[oo],λr hr=>by rw[(List.mem_replicate.1 hr).2];simp⟩
theorem Xh (a0 a1:Int):((yR a0 a1).all λx=>decide (0<=x.1)&&decide (x.1<=7)&&Nat.beq x.2.2.2.2.2.1.length 32)=true:=by kernel_rfl
theorem Xi (a0 a1:Int):Nat.beq (yR a0 a1).length 32=true:=by kernel_rfl
theorem zav (a0 a1:Int):Q3 (yR a0 a1):=by
 have h:=List.all_eq_true.1 (Xh a0 a1);refine⟨zfb (Xi a0 a1),λx hx=>?_,λx hx=>?_⟩
 ·have:=h x hx
  simp only[zdH,zdN] at this;exact this.1
 ·have:=h x hx
  simp only[zdH,zdN] at this;exact zfb this.2
theorem UA: ∀n,n<32->(Wv 32 0 (List.replicate 32 0))[n]?=some (n+1):=by decide
theorem zaw: ∀n,n<8->p8[n]?=some (n+1):=by decide
section
variable {P:Nat->V->(Nat->MS)->Prop}
theorem zax (g:xe){i:Nat}(hi:i<16):jg (v0 g) i=s0:=by
 exact wX (Dl g i hi)
theorem zco {c:List Int}{g:xe}(h:U9 c g)(hp:P 0 (v0 g) (λ_=>m0)):VI P 0 0 (v0 g) (λ_=>m0):=by
 obtain⟨a0,a1,a2,a3,a4,a5,b,r,t,l,d,q,_,_,_,_,_,_,_,_,hr,_,_,_,hq,rfl⟩:=h.ex;have hz: ∀i,i<16->¬(jg (v0 (yR a0 a1,L6.set 1 (a2,a3,a4,a5,()),b,r,t,l,d,q,())) i).1=3:=λi hi=>by rw[zax _ hi];simp[s0]
 refine⟨⟨⟨⟨zaw,λi hi=>zcn (qq hi _)⟩,⟨Po,λn i hn hi=>?_⟩,λn i hn hi=>Le hn hi,⟨Po,λn i hn hi=>?_⟩⟩,zav a0 a1,⟨by simp[v0],by simp[v0],by simp[v0]⟩,Nj,UA,λn hn=>⟨(b,r,b,0,()),qq hn _,by show r≠0;omega⟩,UA,λn hn=>⟨_,qq hn _⟩,⟨zeF _,(by show(0:Int)<=1099511627776;decide)⟩⟩,
  λi hi=>⟨i,i,s0,([],false,()),([],false,()),Dl _ i hi,⟨by simp,by simp[s0], .inl rfl,by simp[s0]⟩⟩,by simp[v0],⟨rfl,by simp[v0]⟩,hp,⟨.rfl,λi j hi hj h1=>absurd h1 (hz i hi),λi hi h1=>absurd h1 (hz i hi),λf=>?_⟩⟩
 ·show 0<=tb oo n i/\tb oo n i<=_
  rw[Le hn hi];exact⟨zeF _,by decide⟩
 ·show _<=tb oo n i/\tb oo n i<=_
  rw[Le hn hi];exact⟨by decide,by decide⟩
 ·have:(List.range 16).countP (λi=>decide ((jg (v0 (yR a0 a1,L6.set 1 (a2,a3,a4,a5,()),b,r,t,l,d,q,())) i).1=3/\(iD (v0 (yR a0 a1,L6.set 1 (a2,a3,a4,a5,()),b,r,t,l,d,q,())).tr (jg (v0 (yR a0 a1,L6.set 1 (a2,a3,a4,a5,()),b,r,t,l,d,q,())) i).2.1).1=f))=0:=by
   rw[List.countP_eq_zero];intro i hi hp;exact hz i (List.mem_range.1 hi) (of_decide_eq_true hp).1
  rw[this];show((0:Nat):Int)<=q
  omega
def GV (P:Nat->V->(Nat->MS)->Prop)(s:Nat)(v:V):Prop:= ∃μ k m,VI P k m v μ/\2*k+lE v.F<=62*s/\m<=8000000*s
theorem GV.le {s s':Nat}{v:V}(h:GV P s v)(hs:s<=s'):GV P s' v:=by
 obtain⟨μ,k,m,h1,h2,h3⟩:=h;exact⟨μ,k,m,h1,by omega,by omega⟩
theorem UB (g:xe):lE (v0 g).F=0:=by
 unfold v0 lE;simp
theorem zcp {c:List Int}{g:xe}(h:U9 c g)(hp:P 0 (v0 g) (λ_=>m0)):GV P 0 (v0 g):=⟨_,0,0,zco h hp,by rw[UB];omega,by omega⟩
def Rel (st:yL)(ok:Bool)(v v':V):Prop:=v'.cfg=v.cfg/\((ok=false/\v'=v)\/(ok=true/\st.1≠4/\∃i:Nat,i<16/\st.2.1=(i:Int)/\Ew i v v')\/
 (ok=true/\st.1=4/\1<=st.2.2.1/\v'.now=v.now+st.2.2.1/\∀j,j<16->(jg v' j).1=0\/(jg v' j=jg v j/\Ft (jg v j) v'.now (idle v)=false)))
theorem zay (pk:PK P){s:Nat}{v:V}(h:GV P s v)(hs:s<125){st:yL}(kg:Fu st): ∃ok v',aI WX (((),st,()),v.e)=some ((ok,()),v'.e)/\GV P (s+1) v'/\Rel st ok v v':=by
 have h0:=h;obtain⟨μ,k,m,h1,h2,h3⟩:=h;have key: ∀(i n:Nat) {o},n<=62->i<16->st.1≠4->st.2.1=(i:Int)->aI WX (((),st,()),v.e)=o->DoR P k m v i n o->∃ok v',aI WX (((),st,()),v.e)=some ((ok,()),v'.e)/\GV P (s+1) v'/\Rel st ok v v':=by
  intro i n o hn hi hk hc ho hr;subst ho;rcases hr with hr|⟨v',μ',k',m',r1,r2,r3,r4,r5⟩
  ·exact⟨false,v,hr,h0.le (by omega),rfl, .inl ⟨rfl,rfl⟩⟩
  ·exact⟨true,v',r1,⟨μ',k',m',r2,by omega,by omega⟩,r5.cfg, .inr (.inl ⟨rfl,hk,i,hi,hc,r5⟩)⟩
 cases kg with
 |conn i nc hi hn=>exact key i 0 (by omega) hi (by simp) rfl rfl (I9 pk h1 hi hn)
 |bytes i bs hi hb=>exact key i bs.length hb hi (by simp) rfl rfl (NQ pk h1 hi bs (by omega) (by omega))
 |gone i hi=>exact key i 0 (by omega) hi (by simp) rfl rfl (Rd pk h1 hi (by omega))
 |tick n hn=>
  rcases Rf pk h1 (by omega) n with hr|⟨v',μ',m',r1,r2,r3,r4,r5,r6,r7,r8⟩
  ·exact⟨false,v,hr,h0.le (by omega),rfl, .inl ⟨rfl,rfl⟩⟩
  ·exact⟨true,v',r1,⟨μ',k,m',r2,by omega,by omega⟩,r7, .inr (.inr ⟨rfl,rfl,r5,r6,r8⟩)⟩
theorem Ri {c:List Int}(hc:Tv c): ∃g,U9 c g/\eO WX ((c,()),())=some ((g,()),())/\gn WX ((c,()),())=some (.inr (((),()),((),List.replicate 16 (0:Int),()),(v0 g).e)):=by
 obtain⟨g,h1,h2⟩:=QL hc;have h3:=Tz h2;exact⟨g,h2,h1,by simp only[gn,h1,h3,zdy,↓xo,eq_self,iL,zdC,zdz]⟩
theorem NR (pk:PK P){s:Nat}{v:V}(h:GV P s v)(Ld:List yL)(hl:Ld.length<=3)(hs:s+3<=125)(kg: ∀x∈Ld,Fu x)(p:Unit×(List Int)×Unit)(l:List Ay)(n i:Int): ∃v',ag (eR WX) ((l,n,(),i,Ld,(Ld.length:Int),0,()),p,v.e)=some ((l,n,(),i,()),p,v'.e)/\GV P (s+3) v'/\v'.cfg=v.cfg:=by
 obtain⟨v',l1,l2,l3⟩:=pO (b:=eR WX) Ld.length (λj (w:V)=>((l,n,(),i,Ld,(Ld.length:Int),(j:Int),()),p,w.e)) (λw=>((l,n,(),i,()),p,w.e)) (λj w=>GV P (s+j) w/\w.cfg=v.cfg)
  (λj w hj hI=>by
   have hx:=zdE hj;obtain⟨ok,w',d1,d2,d3,_⟩:=zay pk hI.1 (by omega) (kg _ (zeO hj))
   have e1:=lD hj (by omega)
   generalize Ld[j]=x at hx d1;exact⟨w',by simp only[eR,↓xo,xw,oT ((j:Int)<(Ld.length:Int)),oT ((0:Int)<=(j:Int)),zdA,zdB,hx,zdy,d1,e1],d2,d3.trans hI.2⟩)
  (λw _=>by simp only[eR,↓xo,oF ((Ld.length:Int)<(Ld.length:Int)),zdz]) v ⟨h,rfl⟩
 exact⟨v',l1,l2.le (by omega),l3⟩
theorem GV.ci {s:Nat}{v:V}(h:GV P s v):CI v:=by obtain⟨_,_,_,h1,_⟩:=h;exact h1.ci
theorem UC (pk:PK P){c:List Int}{g:xe}(hg:U9 c g)(hN:gn WX ((c,()),())=some (.inr (((),()),((),List.replicate 16 (0:Int),()),(v0 g).e)))(l:List Ay)(hq: ∀q∈l,MvI q)(n:Nat)(hn:n<=40)(hp:P 0 (v0 g) (λ_=>m0)): ∃p v,iJ WX ((c,l,(n:Int),()),())=some (.inr (((),()),p,v.e))/\GV P 120 v/\v.cfg=g:=by
 have key:=rG (b:=eu WX) (λq d=> ∃(i:Nat) (nx:List Int) (v:V),i<=n/\q=n-i/\d=((l,(n:Int),(),(i:Int),()),((),nx,()),v.e)/\nx.length=16/\GV P (3*i) v/\v.cfg=g)
  (λr=> ∃(p:Unit×(List Int)×Unit) (v:V),r=(((),()),p,v.e)/\GV P 120 v/\v.cfg=g) (λq d hd=>by
  obtain⟨i,nx,v,hi,rfl,rfl,hx,hv,Rp⟩:=hd;by_cases h1:i<l.length
  ·by_cases h2:i<n
   ·have hm:=zdE h1
    obtain⟨nx',Ld,s1,s2,s3,s4⟩:=Rh hv.ci hx (hq _ (zeO h1));generalize l[i]=mv at hm s1;obtain⟨v',l1,l2,l3⟩:=NR pk hv Ld s3 (by omega) s4 ((),nx',()) l (n:Int) (i:Int)
    have e1:=lD h2 (by omega)
    refine .inl ⟨((l,(n:Int),(),((i+1:Nat):Int),()),((),nx',()),v'.e),?_,n-(i+1),by omega,i+1,nx',v',by omega,rfl,rfl,s2,l2.le (by omega),l3.trans Rp⟩
    simp only[V.e] at s1 l1⊢;simp only[eu,↓xo,xw,↓xl,oT ((i:Int)<(l.length:Int)),oT ((i:Int)<(n:Int)),oT ((0:Int)<=(i:Int)),zdA,zdB,hm,zdy,s1,l1,e1]
   ·exact .inr ⟨(((),()),((),nx,()),v.e),by simp only[eu,↓xo,oT ((i:Int)<(l.length:Int)),oF ((i:Int)<(n:Int)),zdA,zdz],_,v,rfl,hv.le (by omega),Rp⟩
  ·exact .inr ⟨(((),()),((),nx,()),v.e),by simp only[eu,↓xo,oF ((i:Int)<(l.length:Int)),zdz],_,v,rfl,hv.le (by omega),Rp⟩)
 obtain⟨r,h1,p,v,rfl,h2,h3⟩:=key n ((l,(n:Int),(),0,()),((),List.replicate 16 (0:Int),()),(v0 g).e) ⟨0,_,v0 g,by omega,by omega,rfl,by simp,zcp hg hp,rfl⟩
 exact⟨p,v,by simp only[iJ,hN,zdy,↓xl,h1],h2,h3⟩
end
end AM
