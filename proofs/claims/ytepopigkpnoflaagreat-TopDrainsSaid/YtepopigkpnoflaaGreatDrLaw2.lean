/- The engine and the venue, in plain Lean: what the printed functions keep, continued. Conditions: none. -/
import Derived.Test.YtepopigkpnoflaaGreatDrLaw1
set_option linter.unusedVariables false
set_option linter.unusedSimpArgs false
set_option maxRecDepth 100000
namespace AM
open Go Go.Proofs IntKind
theorem ES {m:MS}(h:yf m)(k:Nat)(out:List l8):kc k m out=(m,out):=by
 obtain⟨A,B,ws,last,no⟩:=m;cases k with
 |zero=>rfl
 |succ k=>
  have:ws.findIdx? (FY last)=none:=by
   rw[zft];exact λx hx=>h x hx
  unfold kc;rw[this]
theorem MT (o:et){m:MS}(hh:yf m): ∃x rest,(ll o m).2=x::rest/\(¬x.2.2.2.2.2.2.1=0->(ll o m).1=m):=by
 unfold ll;split
 ·exact⟨_,_,rfl,λ_=>by simp only[ES hh]⟩
 ·split
  ·exact⟨_,_,rfl,λq=>absurd rfl q⟩
  ·refine⟨_,_,rfl,λq=>?_⟩
   unfold jl at q⊢;split
   ·exact congrArg Prod.fst (ES hh _ _)
   ·rename_i h0
    rw[if_neg h0] at q;split at q
    ·exact absurd rfl q
    ·exact absurd rfl q
structure SS (v:V)(μ:Nat->MS):Prop where
 si:SI v μ
 tr:Qr v.tr
 ph:PhI v.ph
 XB:v.cfg.2.1.length=32
 bp: ∀n,n<32->v.bp[n]?=some (n+1)
 B: ∀n,n<32->∃k,v.B[n]?=some (k,())/\k.2.1≠0
 lp: ∀n,n<32->v.lp[n]?=some (n+1)
 L: ∀n,n<32->∃k,v.L[n]?=some (k,())
 now:0<=v.now/\v.now<=1099511627776
abbrev l0:wU:=(0,0,0,0,())
def amR (lL:et)(p q:Int):et:=(lL.1,lL.2.1,lL.2.2.1,lL.2.2.2.1,lL.2.2.2.2.1,p,q,min (qn lL) q,lL.2.2.2.2.2.2.2.2)
inductive OA (v:V)(μ:Nat->MS):(Nat->MS)->List (List Int)->Prop
 |same:OA v μ μ v.ps
 |TD (x:Int) (μ':Nat->MS) (h: ∀i,μ' i=μ i\/μ' i=(mQ x (μ i)).1):OA v μ μ' v.ps
 |rem (i:Nat) (t d:Int) (hi:i<8):OA v μ (wK μ i ((mP t d (μ i).1 (μ i).2.1 (μ i).2.2.1).2.2.1,(mP t d (μ i).1 (μ i).2.1 (μ i).2.2.1).2.2.2.1,(mP t d (μ i).1 (μ i).2.1 (μ i).2.2.1).2.2.2.2,(μ i).2.2.2)) v.ps
 |add (i:Nat) (o:et) (hi:i<8) (h:BG v.op v.ps (v.cfg.2.1.getD o.1.toNat l0) o i):OA v μ (wK μ i (ll o (μ i)).1) (um i v.ps (ll o (μ i)).2)
 |OB (i:Nat) (n:Nat) (d p q:Int) (lL:et) (hi:i<8) (hn:n<32) (hw:s7 n d (μ i).1 (μ i).2.1 (μ i).2.2.1=some lL)
   (h: ¬p=aE lL\/q>ay lL->BG (Ow v.op n i (tb v.op n i-ay lL)) v.ps (v.cfg.2.1.getD n l0) (amR lL p q) i):
   OA v μ (wK μ i (fS n d p q (μ i)).2.1) (um i v.ps (fS n d p q (μ i)).2.2)
structure Kept (v v':V):Prop where
 eq:v'={v with ph:=v'.ph,tr:=v'.tr,op:=v'.op,ps:=v'.ps,M:=v'.M,L:=v'.L,B:=v'.B}
 tr:Fi v.tr v'.tr
theorem Kept.rfl (v:V):Kept v v:=⟨Eq.refl v, .rfl⟩
def MU (v:V)(μ:Nat->MS)(o:Option ((((Unit×Int×Unit)×(xd×Int×Unit×H9×(List Nat)×Unit×(List Nat)×(List Nat)×Unit)×((List oS)×Unit)×((List (List Int))×(List (List Int))×Unit)×List gN×(List uD)×(List tv)×(List vM)×Unit))⊕((List gN×Int×Unit)×ST))):Prop:=
 ∃v' μ',SS v' μ'/\Kept v v'/\OA v μ μ' v'.ps/\((∃e,o=some (.inl (((),e,()),sE v' [])))\/∃out,out.length<=80000000/\o=some (.inr ((out,0,()),v'.s)))
section
variable {v:V}{μ:Nat->MS}{i n:Nat}
theorem MU.same (h:SS v μ)(e:Int){o}(ho:o=some (.inl (((),e,()),sE v []))):MU v μ o:=⟨v,μ,h, .rfl v, .same, .inl ⟨e,ho⟩⟩
theorem BH (h:SS v μ)(n d i o:Int): ∃e,dj WX (((),n,d,i,o,()),v.s)=some ((e,()),v.s):=by
 obtain⟨⟨e,⟨⟩⟩,h1⟩:=Wq h.tr h.ph n d i o;exact⟨e,by simp only[dj,V.s,h1,zdM]⟩
theorem OC (h:SS v μ)(hn:n<32):v.cfg.2.1[n]?=some (v.cfg.2.1.getD n l0):=by
 have:=zdS (l:=v.cfg.2.1) (i:=n) (by rw[h.XB];exact hn)
 rw[zd3,this];rfl
theorem SS.kq (h:SS v μ){op ps M}{μ':Nat->MS}(hs:SI {v with op:=op,ps:=ps,M:=M} μ'):SS {v with op:=op,ps:=ps,M:=M} μ':=⟨hs,h.tr,h.ph,h.XB,h.bp,h.B,h.lp,h.L,h.now⟩
theorem BJ (μ:Nat->MS)(i:Nat):wK μ i (μ i)=μ:=by
 funext j
 unfold wK;split
 ·rename_i e;rw[e]
 ·rfl
theorem Wr (h:SS v μ)(hi:i<8)(l:wU)(o:et): ∃e,gD WX (((),l,o,(i:Int),()),IF v.op v.ps)=some ((e,()),IF v.op v.ps)/\(e=0->BG v.op v.ps l o i):=Kq h.si.op.wJ h.si.ps.wJ hi l o h.si.op.Cz h.si.ps.Cz
theorem OD (hm:IG v μ)(ho:KQ v.op)(hx: ∀n j,n<32->j<8->j≠i->tb v.op n j=wY n (μ j))(hp:Qo v.ps)(hi:i<8)(l:List l8)(hl:l.length<=70)(hc: ∀x∈l,s8 x): ∃out mU,eX WX (((),(i:Int),l,()),v.s)=some ((out,()),{v with ps:=um i v.ps l,op:=mU}.s)/\SI {v with ps:=um i v.ps l,op:=mU} μ/\out.length<=80000000:=by
 obtain⟨out,mU,h1,h2,h3,h4,h5⟩:=Wo hm ho hp hi l hl hc;refine⟨out,mU,h1,⟨⟨hm.mp,hm.at_⟩,h3,λn j hn hj=>?_,h2⟩,h5⟩;show tb mU n j=_
 rw[h4 n j hn];split
 ·rename_i e;rw[e]
 ·rename_i e;exact hx n j hn hj e
theorem TE (h:SS v μ)(hn:n<32)(hi:i<8)(kd sq td id sd od pr qt sh st wh a b:Int)(tg:List Int):MU v μ (fw WX (((),(n:Int),(kd,sq,td,(i:Int),id,sd,od,pr,qt,sh,st,wh,a,b,tg,()),()),v.s)):=by
 obtain⟨e,lT⟩:=BH h (n:Int) 1 (i:Int) (n:Int);simp only[V.s] at lT;by_cases he:e=0
 ·subst he
  have htr:=oe h.tr (n:Int);have F1:=OC h hn;generalize ho:((n:Int),id,(vk v.tr n).1,sd,od,pr,qt,sh,st,())=o;obtain⟨e2,Tz,KJ⟩:=Wr h hi (v.cfg.2.1.getD n l0) o;by_cases he2:e2=0
  ·subst he2
   have Ny:=KJ rfl;obtain⟨bs,ss,fe,hM,hB,hI,hH⟩:=h.si.qS.at_ i hi;obtain⟨oW,oX,HL,a1,a2,a3,a4,a5⟩:=To (last:=(μ i).2.2.2.1) (no:=(μ i).2.2.2.2) hB hI o;have a6:=EO o (μ i) hI;obtain⟨x,rest,b1,b2⟩:=MT o hH;change dI WX (((),o,()),Cv (μ i).2.2.2.1 (μ i).2.2.2.2 bs ss (μ i).2.2.1 fe)=some (((),()),((),(),()),ku (ll o (μ i)).1.2.2.2.1 (ll o (μ i)).1.2.2.2.2,(ll o (μ i)).1.2.2.1,oW,oX,(ll o (μ i)).2,HL,()) at a1;have m1:=Dh h.si.qS hi (m:=(ll o (μ i)).1) a2 a3 a4;have hp:=h.si.qS.mp i hi;have e0:(0:Int)<=0/\(0:Int)<((((ll o (μ i)).2.length:Nat)):Int):=by rw[b1];simp only[zdX];omega
   have e1:(ll o (μ i)).2[(0:Int).toNat]?=some x:=by rw[b1];rfl
   by_cases hx:x.2.2.2.2.2.2.1=0
   ·obtain⟨out,mU,c1,c2,c3⟩:=OD m1 h.si.op (λm j hm hj lV=>by unfold wK;rw[if_neg lV];exact h.si.MQ m j hm hj) h.si.ps hi (ll o (μ i)).2 a5 a6
    refine⟨{v with ps:=um i v.ps (ll o (μ i)).2,op:=mU,M:=v.M.set i (Cv (ll o (μ i)).1.2.2.2.1 (ll o (μ i)).1.2.2.2.2 oW oX (ll o (μ i)).1.2.2.1 HL)},wK μ i (ll o (μ i)).1,h.kq c2,⟨rfl, .rfl⟩,OA.add i o hi (by rw[show o.1.toNat=n by rw[<-ho];exact zdP n];exact Ny), .inr ⟨out,c3,?_⟩⟩
    simp only[V.s] at c1⊢;simp only[fw,lT,zdM,↓xo,eq_self,iF,zdQ,zdN,htr,ot (qR hn),zdO,zdP,F1,ho,Tz,ot (CT hi),hp,an,hM,a1,ot e0,e1,ot hx,c1]
   ·have hμ:=b2 hx
    have m2:wK μ i (ll o (μ i)).1=μ:=by rw[hμ];exact BJ μ i
    rw[m2] at m1;refine⟨{v with M:=v.M.set i (Cv (ll o (μ i)).1.2.2.2.1 (ll o (μ i)).1.2.2.2.2 oW oX (ll o (μ i)).1.2.2.1 HL)},μ,h.kq (op:=v.op) (ps:=v.ps) ⟨m1,h.si.op,h.si.MQ,h.si.ps⟩,⟨rfl, .rfl⟩, .same, .inl ⟨x.2.2.2.2.2.2.1,?_⟩⟩;simp only[V.s];simp only[fw,lT,zdM,↓xo,eq_self,iF,zdQ,zdN,htr,ot (qR hn),zdO,zdP,F1,ho,Tz,ot (CT hi),hp,an,hM,a1,ot e0,e1,bg hx,zdR]
  ·refine .same h e2 ?_
   simp only[V.s,fw,lT,zdM,↓xo,eq_self,iF,zdQ,zdN,htr,ot (qR hn),zdO,zdP,F1,ho,Tz,bg he2,zdR]
 ·refine .same h e ?_
  simp only[V.s,fw,lT,zdM,↓xo,bg he,zdR,zdO]
end
theorem BK {t d:Int}{m:Nat}{o:et}: ∀{A:List nu},mX t d A=some (m,o)->o∈ui A/\o.1=t
 | [],h=>by cases h
 |a::A,h=>by
  unfold mX at h;unfold ui;rw[zeA];cases ho:Qi t d a with
  |some x=>
   rw[ho] at h;simp only[zdT,Prod.mk.injEq] at h;obtain⟨_,rfl⟩:=h;unfold Qi at ho;have hp:kM t d x=true:=List.find?_some ho;exact⟨zd4 _ (List.mem_of_find?_eq_some ho),(of_decide_eq_true hp).1⟩
  |none=>
   rw[ho] at h;simp only[zeJ] at h;obtain⟨⟨m',o'⟩,h1,h2⟩:=h;simp only[Prod.mk.injEq] at h2;obtain⟨_,rfl⟩:=h2;obtain⟨i1,i2⟩:=BK h1;exact⟨zd5 _ i1,i2⟩
theorem TF {t d:Int}{A B:List nu}{ws:List et}{o:et}(h:s7 t d A B ws=some o):o∈ye A B ws/\o.1=t:=by
 unfold s7 vj at h;unfold ye;cases hA:mX t d A with
 |some x=>
  rw[hA] at h;simp only[zdT] at h;subst h;obtain⟨i1,i2⟩:=BK (o:=x.2) hA;exact⟨zd4 _ i1,i2⟩
 |none=>
  rw[hA] at h;cases hB:mX t d B with
  |some x=>
   rw[hB] at h;simp only[zdT] at h;subst h;obtain⟨i1,i2⟩:=BK (o:=x.2) hB;exact⟨zd5 _ (zd4 _ i1),i2⟩
  |none=>
   rw[hB] at h;cases hw:ws.findIdx? (kM t d) with
   |none=>rw[hw] at h;cases h
   |some n=>
    rw[hw] at h;obtain⟨hn,hp,_⟩:=List.findIdx?_eq_some_iff_getElem.1 hw;have hg:ws.getD n o0=ws[n]:=by rw[zd3,zdS hn];rfl
    simp only[hg,zdT] at h;subst h;exact⟨zd5 _ (zd5 _ (ze0 hn)),(of_decide_eq_true hp).1⟩
theorem TG {t:Int}{l:List et}(h: ∀o∈l,1<=ay o){o:et}(ho:o∈l)(ht:o.1=t):ay o<=sL t l:=by
 unfold sL;induction l with
 |nil=>cases ho
 |cons x l ih=>
  have nn:0<=jK (l.map λo=>if o.1=t then ay o else 0):=by
   clear ih ho;induction l with
   |nil=>exact zeS _
   |cons y l Uh=>
    have:=Uh λo ho=>by
     rcases List.mem_cons.1 ho with rfl|ho
     ·exact h _ (zd0 ..)
     ·exact h _ (zdZ _ (zdZ _ ho))
    have hy:=h y (zdZ _ (zd0 ..));simp only[zeK,jK,zeI] at this⊢;split<;>omega
  have hx:=h x (zd0 ..);simp only[zeK,jK,zeI] at*;rcases List.mem_cons.1 ho with rfl|ho
  ·rw[if_pos ht];omega
  ·have:=ih (λo ho=>h o (zdZ _ ho)) ho
   split<;>omega
theorem MV {t d p q:Int}{m:MS}(h: ¬(fS t d p q m).1=0):(fS t d p q m).2.1=m:=by
 unfold fS at h⊢;split
 ·rfl
 ·rename_i lL hw
  rw[hw] at h;simp only at h⊢;split
  ·rfl
  ·rename_i h1
   rw[if_neg h1] at h;split at h
   ·exact absurd rfl h
   ·exact absurd rfl h
section
variable {v:V}{μ:Nat->MS}{i n:Nat}
theorem ET (h:SS v μ)(hn:n<32)(hi:i<8){d p q:Int}{lL:et}(hw:s7 n d (μ i).1 (μ i).2.1 (μ i).2.2.1=some lL){Tx:List (List Int)}(ho:KQ Tx)(hx: ∀m j,m<32->j<8->tb Tx m j=tb v.op m j)
  (hr: ¬p=aE lL\/q>ay lL->BG (Ow v.op n i (tb v.op n i-ay lL)) v.ps (v.cfg.2.1.getD n l0) (amR lL p q) i) {bs ss:List Nat} {st:List gF} (hM:v.M[i]?=some (Cv (μ i).2.2.2.1 (μ i).2.2.2.2 bs ss (μ i).2.2.1 st)) (hB:Bk bs ss st (μ i).1 (μ i).2.1):
  ∃oW oX fe,gb WX (((),(n:Int),d,p,q,()),Cv (μ i).2.2.2.1 (μ i).2.2.2.2 bs ss (μ i).2.2.1 st)=some (((),(fS n d p q (μ i)).1,()),Ts (fS n d p q (μ i)).2.1.2.2.2.1 (fS n d p q (μ i)).2.1.2.2.2.2 oW oX (fS n d p q (μ i)).2.1.2.2.1 (fS n d p q (μ i)).2.2 fe)/\
  ((¬(fS n d p q (μ i)).1=0/\SS {v with op:=Tx,M:=v.M.set i (Cv (fS n d p q (μ i)).2.1.2.2.2.1 (fS n d p q (μ i)).2.1.2.2.2.2 oW oX (fS n d p q (μ i)).2.1.2.2.1 fe)} μ)\/
   ((fS n d p q (μ i)).1=0/\∃out mU,eX WX (((),(i:Int),(fS n d p q (μ i)).2.2,()),{v with op:=Tx,M:=v.M.set i (Cv (fS n d p q (μ i)).2.1.2.2.2.1 (fS n d p q (μ i)).2.1.2.2.2.2 oW oX (fS n d p q (μ i)).2.1.2.2.1 fe)}.s)=some ((out,()),{v with ps:=um i v.ps (fS n d p q (μ i)).2.2,op:=mU,M:=v.M.set i (Cv (fS n d p q (μ i)).2.1.2.2.2.1 (fS n d p q (μ i)).2.1.2.2.2.2 oW oX (fS n d p q (μ i)).2.1.2.2.1 fe)}.s)/\
    SS {v with ps:=um i v.ps (fS n d p q (μ i)).2.2,op:=mU,M:=v.M.set i (Cv (fS n d p q (μ i)).2.1.2.2.2.1 (fS n d p q (μ i)).2.1.2.2.2.2 oW oX (fS n d p q (μ i)).2.1.2.2.1 fe)} (wK μ i (fS n d p q (μ i)).2.1)/\out.length<=80000000)):=by
 obtain⟨_,_,_,_,_,hI,hH⟩:=h.si.qS.at_ i hi;obtain⟨oW,oX,fe,a1,a2,a3,a4,a5,a6⟩:=Tt (last:=(μ i).2.2.2.1) (no:=(μ i).2.2.2.2) hB hI hH (n:Int) d p q;change gb WX (((),(n:Int),d,p,q,()),Cv (μ i).2.2.2.1 (μ i).2.2.2.2 bs ss (μ i).2.2.1 st)=some (((),(fS n d p q (μ i)).1,()),Ts (fS n d p q (μ i)).2.1.2.2.2.1 (fS n d p q (μ i)).2.1.2.2.2.2 oW oX (fS n d p q (μ i)).2.1.2.2.1 (fS n d p q (μ i)).2.2 fe) at a1;have m1:=Dh h.si.qS hi (m:=(fS n d p q (μ i)).2.1) a2 a3 a4;refine⟨oW,oX,fe,a1,?_⟩;by_cases he:(fS n d p q (μ i)).1=0
 ·refine .inr ⟨he,?_⟩
  obtain⟨out,mU,c1,c2,c3⟩:=OD (v:={v with op:=Tx,M:=v.M.set i (Cv (fS n d p q (μ i)).2.1.2.2.2.1 (fS n d p q (μ i)).2.1.2.2.2.2 oW oX (fS n d p q (μ i)).2.1.2.2.1 fe)}) (i:=i) ⟨m1.mp,m1.at_⟩ ho (λm j hm hj lV=>by unfold wK;rw[if_neg lV];exact(hx m j hm hj).trans (h.si.MQ m j hm hj)) h.si.ps hi (fS n d p q (μ i)).2.2 a6 a5
  exact⟨out,mU,c1,h.kq c2,c3⟩
 ·refine .inl ⟨he,?_⟩
  have m2:wK μ i (fS n d p q (μ i)).2.1=μ:=by rw[MV he];exact BJ μ i
  rw[m2] at m1;exact h.kq (ps:=v.ps) ⟨⟨m1.mp,m1.at_⟩,ho,λm j hm hj=>(hx m j hm hj).trans (h.si.MQ m j hm hj),h.si.ps⟩
theorem TH (h:SS v μ)(hn:n<32)(hi:i<8)(kd sq td d sd od p q sh st wh a b:Int)(tg:List Int):MU v μ (cE WX (((),(n:Int),(kd,sq,td,(i:Int),d,sd,od,p,q,sh,st,wh,a,b,tg,()),()),v.s)):=by
 obtain⟨e,lT⟩:=BH h (n:Int) 1 (i:Int) (n:Int);simp only[V.s] at lT;by_cases he:e=0
 ·subst he
  obtain⟨bs,ss,fe,hM,hB,hI,hH⟩:=h.si.qS.at_ i hi;have hp:=h.si.qS.mp i hi;have hf:=IE (last:=(μ i).2.2.2.1) (no:=(μ i).2.2.2.2) hB hI (n:Int) d;have F1:=OC h hn;cases hw:s7 (n:Int) d (μ i).1 (μ i).2.1 (μ i).2.2.1 with
  |none=>
   rw[hw] at hf;simp only[Option.getD_none,ze3] at hf;refine .same h 6 ?_;simp only[V.s,cE,lT,zdM,↓xo,eq_self,iF,zdQ,zdN,ot (CT hi),zdO,zdP,hp,an,hM,hf,zdR,aJ hM]
  |some lL=>
   rw[hw] at hf;simp only[ze7,zfz] at hf;obtain⟨w1,w2⟩:=TF hw;have wq:=AI hI _ w1;have wo:ay lL<=wY (n:Int) (μ i):=TG (λo ho=>(AI hI o ho).1) w1 w2;have hx:=h.si.MQ n i hn hi;have hb:=h.si.op.Cz n i hn hi;by_cases hc: ¬p=aE lL\/q>ay lL
   ·
    have s1:=EP (ps:=v.ps) h.si.op.wJ hn hi (q:= -ay lL) (by omega) hb
    have v1:Wm (tb v.op n i+ -ay lL) 0 1099511627776=true:=decide_eq_true (by omega)
    unfold KP at s1;rw[v1,if_pos rfl] at s1;have e1:tb v.op n i+ -ay lL=tb v.op n i-ay lL:=by omega
    rw[e1] at s1;have r1:=AK h.si.op.wJ n i (tb v.op n i-ay lL) hn;have b1:KQ (Ow v.op n i (tb v.op n i-ay lL)):=⟨r1,λm j hm hj=>by
     rw[yg h.si.op.wJ hn hi];split
     ·omega
     ·exact h.si.op.Cz m j hm hj⟩
    obtain⟨e2,k1,k2⟩:=Kq r1 h.si.ps.wJ hi (v.cfg.2.1.getD n l0) (amR lL p q) b1.Cz h.si.ps.Cz;have t1:tb (Ow v.op n i (tb v.op n i-ay lL)) n i=tb v.op n i-ay lL:=by rw[yg h.si.op.wJ hn hi,if_pos ⟨rfl,rfl⟩]
    have s2:=EP (ps:=v.ps) r1 hn hi (q:=ay lL) (by omega) (b1.Cz n i hn hi)
    rw[t1] at s2;have v2:Wm (tb v.op n i-ay lL+ay lL) 0 1099511627776=true:=decide_eq_true (by omega)
    unfold KP at s2;rw[v2,if_pos rfl] at s2;have e3:tb v.op n i-ay lL+ay lL=tb v.op n i:=by omega
    rw[e3] at s2;generalize zbB:Ow (Ow v.op n i (tb v.op n i-ay lL)) n i (tb v.op n i)=Tx at s2;have x2: ∀m j,tb Tx m j=tb v.op m j:=λm j=>by
     rw[<-zbB,yg r1 hn hi];split
     ·rename_i e;rw[e.1,e.2]
     ·rename_i e;rw[yg h.si.op.wJ hn hi,if_neg e]
    have o2:KQ Tx:=⟨by rw[<-zbB];exact AK r1 n i _ hn,λm j hm hj=>by rw[x2];exact h.si.op.Cz m j hm hj⟩
    have e0:i64.wrap (0-lL.2.2.2.2.2.2.1)= -ay lL:=by
     show i64.wrap (0-ay lL)=_
     rw[nR (by omega) (by omega)];omega
    unfold amR at k1;change gD WX (((),_,(lL.1,lL.2.1,lL.2.2.1,lL.2.2.2.1,lL.2.2.2.2.1,p,q,min lL.2.2.2.2.2.2.2.1 q,lL.2.2.2.2.2.2.2.2),(i:Int),()),_)=_ at k1;by_cases he2:e2=0
    ·subst he2
     obtain⟨oW,oX,HL,a1,a2⟩:=ET h hn hi hw o2 (λm j _ _=>x2 m j) (λ_=>k2 rfl) hM hB;rcases a2 with⟨a2,a3⟩|⟨a2,out,mU,a3,a4,a5⟩
     ·refine⟨_,μ,a3,⟨rfl, .rfl⟩, .same, .inl ⟨(fS n d p q (μ i)).1,?_⟩⟩
      simp only[V.s];by_cases Ir:p=aE lL
      ·simp only[cE,lT,zdM,↓xo,xw,vf,eq_self,iF,zdQ,zdN,ot (CT hi),ot (qR hn),zdO,zdP,hp,an,hM,hf,aJ hM,ot (show p=lL.2.2.2.2.2.1 from Ir),ot (show q>lL.2.2.2.2.2.2.1 by have:=hc.resolve_left (λq=>q Ir);exact this),e0,s1,F1,k1,s2,a1,bg a2,zdR]
      ·simp only[cE,lT,zdM,↓xo,xw,vf,eq_self,iF,zdQ,zdN,ot (CT hi),ot (qR hn),zdO,zdP,hp,an,hM,hf,aJ hM,bg (show¬p=lL.2.2.2.2.2.1 from Ir),e0,s1,F1,k1,s2,a1,bg a2,zdR]
     ·refine⟨_,_,a4,⟨rfl, .rfl⟩,OA.OB i n d p q lL hi hn hw (λ_=>k2 rfl), .inr ⟨out,a5,?_⟩⟩
      simp only[V.s] at a3⊢;by_cases Ir:p=aE lL
      ·simp only[cE,lT,zdM,↓xo,xw,vf,eq_self,iF,zdQ,zdN,ot (CT hi),ot (qR hn),zdO,zdP,hp,an,hM,hf,aJ hM,ot (show p=lL.2.2.2.2.2.1 from Ir),ot (show q>lL.2.2.2.2.2.2.1 by have:=hc.resolve_left (λq=>q Ir);exact this),e0,s1,F1,k1,s2,a1,ot a2,a3]
      ·simp only[cE,lT,zdM,↓xo,xw,vf,eq_self,iF,zdQ,zdR,zdN,ot (CT hi),ot (qR hn),zdO,zdP,hp,an,hM,hf,aJ hM,bg (show¬p=lL.2.2.2.2.2.1 from Ir),e0,s1,F1,k1,s2,a1,ot a2,a3]
    ·refine⟨{v with op:=Tx},μ,h.kq (ps:=v.ps) (M:=v.M) ⟨⟨h.si.qS.mp,h.si.qS.at_⟩,o2,λm j hm hj=>(x2 m j).trans (h.si.MQ m j hm hj),h.si.ps⟩,⟨rfl, .rfl⟩, .same, .inl ⟨e2,?_⟩⟩
     by_cases Ir:p=aE lL
     ·simp only[V.s,cE,lT,zdM,↓xo,xw,vf,eq_self,iF,zdQ,zdN,ot (CT hi),ot (qR hn),zdO,zdP,hp,an,hM,hf,aJ hM,ot (show p=lL.2.2.2.2.2.1 from Ir),ot (show q>lL.2.2.2.2.2.2.1 by have:=hc.resolve_left (λq=>q Ir);exact this),e0,s1,F1,k1,s2,bg he2,zdR]
     ·simp only[V.s,cE,lT,zdM,↓xo,xw,vf,eq_self,iF,zdQ,zdN,ot (CT hi),ot (qR hn),zdO,zdP,hp,an,hM,hf,aJ hM,bg (show¬p=lL.2.2.2.2.2.1 from Ir),e0,s1,F1,k1,s2,bg he2,zdR]
   ·have Ir:p=aE lL:=by
     by_cases q:p=aE lL
     ·exact q
     ·exact absurd (.inl q) hc
    have hc2: ¬q>ay lL:=λq=>hc (.inr q);obtain⟨oW,oX,HL,a1,a2⟩:=ET h hn hi hw h.si.op (λm j _ _=>rfl) (λq=>absurd q hc) hM hB;rcases a2 with⟨a2,a3⟩|⟨a2,out,mU,a3,a4,a5⟩
    ·refine⟨_,μ,a3,⟨rfl, .rfl⟩, .same, .inl ⟨(fS n d p q (μ i)).1,?_⟩⟩
     simp only[V.s];simp only[cE,lT,zdM,↓xo,xw,vf,eq_self,iF,zdQ,zdN,ot (CT hi),ot (qR hn),zdO,zdP,hp,an,hM,hf,aJ hM,ot (show p=lL.2.2.2.2.2.1 from Ir),bg (show¬q>lL.2.2.2.2.2.2.1 from hc2),a1,bg a2,zdR]
    ·refine⟨_,_,a4,⟨rfl, .rfl⟩,OA.OB i n d p q lL hi hn hw (λq=>absurd q hc), .inr ⟨out,a5,?_⟩⟩
     simp only[V.s] at a3⊢;simp only[cE,lT,zdM,↓xo,xw,vf,eq_self,iF,zdQ,zdN,ot (CT hi),ot (qR hn),zdO,zdP,hp,an,hM,hf,aJ hM,ot (show p=lL.2.2.2.2.2.1 from Ir),bg (show¬q>lL.2.2.2.2.2.2.1 from hc2),a1,ot a2,a3]
 ·refine .same h e ?_
  simp only[V.s,cE,lT,zdM,↓xo,bg he,zdR,zdO]
end
def Nz {β:Type}(y:β)(o:Option ((Int×Unit)×β)):Prop:= ∃x:Int,x≠0/\o=some ((x,()),y)
theorem Nz.bif {β:Type}{y:β}{c:Bool}{a b:Option ((Int×Unit)×β)}(h1:Nz y a)(h2:Nz y b):Nz y (bif c then a else b):=by cases c<;>assumption
theorem Nz.mk {β:Type}{x:Int}(h:x≠0)(y:β):Nz y (some ((x,()),y)):=⟨x,h,rfl⟩
section
variable {tr:List oS}
theorem Qt (h:Qr tr){ph:H9}(hp:PhI ph)(n i o:Int)(ho:lE tr o=false):Nz (QS tr) (lC WX (((),ph,n,3,i,o,()),QS tr)):=by
 have hx:=G1 h n;obtain⟨b,hb⟩:=MR hp.b hx;have e1: ¬(3:Int)=2:=by omega
 have e2: ¬(3:Int)=4:=by omega
 have e3: ¬(3:Int)=1:=by omega
 simp only[lC,oJ h,oe h,↓xo,zdM,ot (IL hx),zdO,hb,bg e1,bg e2,bg e3,zdR,zdN,ho,eq_self,iF];repeat' first|exact Nz.mk (by omega) _|apply Nz.bif
end
section
variable {v:V}{μ:Nat->MS}{i n:Nat}
theorem OA.move {w:V}(h1:w.op=v.op)(h2:w.ps=v.ps)(h3:w.cfg=v.cfg){μ':Nat->MS}{XL:List (List Int)}(h:OA w μ μ' XL):OA v μ μ' XL:=by
 cases h with
 |same=>rw[h2];exact .same
 |TD x _ h=>rw[h2];exact .TD x _ h
 |rem i t d hi=>rw[h2];exact .rem i t d hi
 |add i o hi h=>rw[h2];exact .add i o hi (by rw[<-h1,<-h2,<-h3];exact h)
 |OB i n d p q lL hi hn hw h=>rw[h2];exact .OB i n d p q lL hi hn hw (λq=>by rw[<-h1,<-h2,<-h3];exact h q)
theorem MU.bif {c:Bool}{a b}(h1:MU v μ a)(h2:MU v μ b):MU v μ (bif c then a else b):=by cases c<;>assumption
theorem SS.phs (h:SS v μ){ph:H9}(hp:PhI ph):SS {v with ph:=ph} μ:=⟨⟨⟨h.si.qS.mp,h.si.qS.at_⟩,h.si.op,h.si.MQ,h.si.ps⟩,h.tr,hp,h.XB,h.bp,h.B,h.lp,h.L,h.now⟩
theorem SS.trs (h:SS v μ){tr:List oS}(ht:Fi v.tr tr):SS {v with tr:=tr} μ:=⟨⟨⟨h.si.qS.mp,h.si.qS.at_⟩,h.si.op,h.si.MQ,h.si.ps⟩,ht.inv h.tr,h.ph,h.XB,h.bp,h.B,h.lp,h.L,h.now⟩
theorem SS.TI (h:SS v μ)(n:Nat)(k:wU):SS {v with L:=v.L.set n (k,())} μ:=⟨⟨⟨h.si.qS.mp,h.si.qS.at_⟩,h.si.op,h.si.MQ,h.si.ps⟩,h.tr,h.ph,h.XB,h.bp,h.B,h.lp,λm hm=>by
 obtain⟨k',hk⟩:=h.L m hm;by_cases e:m=n
 ·subst e;exact⟨k,ko hk⟩
 ·exact⟨k',by show(v.L.set n _)[m]?=_;rw[kL e];exact hk⟩,h.now⟩
theorem SS.zbC (h:SS v μ)(n:Nat)(k:wU)(hk:k.2.1≠0):SS {v with B:=v.B.set n (k,())} μ:=⟨⟨⟨h.si.qS.mp,h.si.qS.at_⟩,h.si.op,h.si.MQ,h.si.ps⟩,h.tr,h.ph,h.XB,h.bp,λm hm=>by
 obtain⟨k',th,h'⟩:=h.B m hm;by_cases e:m=n
 ·subst e;exact⟨k,ko th,hk⟩
 ·exact⟨k',by show(v.B.set n _)[m]?=_;rw[kL e];exact th,h'⟩,h.lp,h.L,h.now⟩
theorem BL (h:SS v μ)(x a:Int)(ha:0<=a/\a<=8): ∃out mU M' μ',di WX (((),a,x,()),v.s)=some ((out,()),{v with op:=mU,M:=M'}.s)/\SS {v with op:=mU,M:=M'} μ'/\out.length<=512/\OA v μ μ' v.ps:=by
 obtain⟨out,mU,M',μ',h1,h2,h3,h4⟩:=Kt h.si x a ha;exact⟨out,mU,M',μ',h1,h.kq (ps:=v.ps) h2,h3, .TD x μ' h4⟩
theorem Ws (h:SS v μ)(f:Int): ∃s,gr WX (((),f,()),v.s)=some ((s,()),v.s):=by
 have key:=rD (b:=dx WX) (λk l=> ∃n:Nat,n<=32/\k=32-n/\l=(((),f,(n:Int),()),v.s)) (λr=>(∃s:Int,r= .inl ((s,()),v.s))\/r= .inr ((),v.s)) (λk l hl=>by
  obtain⟨n,hn,rfl,rfl⟩:=hl;by_cases hc:n<32
  ·have e1:=lG hc (by omega)
   have h1:=oJ h.tr (n:Int);have h2:=oe h.tr (n:Int);obtain⟨⟨s,⟨⟩⟩,h3⟩:=Oz h.tr (n:Int) 3;cases ht:lE v.tr (n:Int) with
   |true=>
    rw[ht] at h1;by_cases hf:(vk v.tr (n:Int)).1=f
    ·exact .inr ⟨.inl ((s,()),v.s),by simp only[dx,V.s,↓xo,oT ((n:Int)<32),zdO,h1,zdM,h2,ot hf,h3], .inl ⟨s,rfl⟩⟩
    ·exact .inl ⟨(((),f,((n+1:Nat):Int),()),v.s),by simp only[dx,V.s,↓xo,xw,oT ((n:Int)<32),zdO,zdN,h1,zdM,h2,bg hf,e1],32-(n+1),by omega,n+1,by omega,rfl,rfl⟩
   |false=>
    rw[ht] at h1;exact .inl ⟨(((),f,((n+1:Nat):Int),()),v.s),by simp only[dx,V.s,↓xo,xw,oT ((n:Int)<32),zdO,zdN,h1,zdM,e1],32-(n+1),by omega,n+1,by omega,rfl,rfl⟩
  ·exact .inr ⟨.inr ((),v.s),by simp only[dx,↓xo,oF ((n:Int)<32),zdN], .inr rfl⟩)
 obtain⟨r,h1,h2⟩:=key 32 (((),f,0,()),v.s) ⟨0,by omega,by omega,rfl⟩
 rcases h2 with⟨s,rfl⟩|rfl
 ·exact⟨s,by simp only[gr,↓xl,h1,zdM]⟩
 ·exact⟨0,by simp only[gr,↓xl,h1,zdM]⟩
theorem Qu (h:SS v μ)(n:Int)(kd sq td it id sd od p q sh st wh a b:Int)(tg:List Int):MU v μ (eD WX (((),n,(kd,sq,td,it,id,sd,od,p,q,sh,st,wh,a,b,tg,()),()),v.s)):=by
 obtain⟨e,lT⟩:=BH h n 3 0 a;have hth:e=0->lE v.tr a=true:=λhe=>by
  cases ht:lE v.tr a with
  |true=>rfl
  |false=>
   obtain⟨x,hx,hy⟩:=Qt h.tr h.ph n 0 a ht;simp only[dj,V.s,hy,zdM,zdT,Prod.mk.injEq] at lT;exact absurd (lT.1.1.trans he) hx
 simp only[V.s] at lT;by_cases he:e=0
 ·have ha:=qL (hth he)
  subst he;have ho:=Oy h.tr a true;have hf:=Oy h.tr a false;by_cases c1:wh=1
  ·obtain⟨out,mU,M',μ',s1,s2,s3,s4⟩:=BL (h.trs (IK v.tr a true)) (WX.shl .u64 1 (IntKind.u64.wrap a)) 8 ⟨by omega,by omega⟩
   refine⟨_,μ',s2,⟨rfl,IK v.tr a true⟩,?_, .inr ⟨out,by omega,?_⟩⟩
   ·exact s4.move (by rfl) (by rfl) (by rfl)
   ·simp only[V.s] at s1⊢
    simp only[eD,lT,zdM,↓xo,xw,eq_self,iF,zdQ,zdN,ot c1,zdO,ho,bg (s9 a),s1]
  by_cases c2:wh=2
  ·refine⟨_,μ,h.trs (IK v.tr a false),⟨rfl,IK v.tr a false⟩, .same, .inl ⟨0,?_⟩⟩
   simp only[V.s,eD,lT,zdM,↓xo,xw,eq_self,iF,zdQ,zdN,bg c1,ot c2,zdO,hf]
  by_cases c3:wh=3
  ·have l1:=h.lp a.toNat (by omega)
   obtain⟨k,l2⟩:=h.L a.toNat (by omega)
   refine⟨_,μ,h.TI a.toNat (k.1,k.2.1,0,0,()),⟨rfl, .rfl⟩, .same, .inl ⟨0,?_⟩⟩;simp only[V.s,eD,lT,zdM,↓xo,xw,eq_self,iF,zdQ,zdN,bg c1,bg c2,ot c3,zdO,ot (Cx ha),l1,an,l2,gz]
  ·refine .same h 0 ?_
   simp only[V.s,eD,lT,zdM,↓xo,xw,eq_self,iF,zdQ,zdN,bg c1,bg c2,bg c3]
 ·refine .same h e ?_
  simp only[V.s,eD,lT,zdM,↓xo,bg he,zdR,zdO]
end
section
variable {v:V}{μ:Nat->MS}
theorem MU.ph (h:SS v μ){p1 p2:List Bool}{p3:List Int}(h1:p1.length=8)(h2:p2.length=8)(h3:p3.length=8){o}(ho:o=some (.inl (((),0,()),sE {v with ph:=(p1,p2,p3,())} []))):MU v μ o:=⟨_,μ,h.phs (ph:=(p1,p2,p3,())) ⟨h1,h2,h3⟩,⟨rfl, .rfl⟩, .same, .inl ⟨0,ho⟩⟩
theorem TJ (h:SS v μ)(n:Int)(kd sq td it id sd od p q sh st wh a b:Int)(tg:List Int)(hw:4<=wh/\wh<=9)(ha:0<=a)(hb:0<=b):MU v μ (cr WX (((),n,(kd,sq,td,it,id,sd,od,p,q,sh,st,wh,a,b,tg,()),()),v.s)):=by
 obtain⟨e,lT⟩:=BH h n 4 0 0;simp only[V.s] at lT;by_cases he:e=0
 ·subst he
  by_cases a8:a>=8
  ·obtain UF:wh=4\/wh=5\/wh=6\/wh=7\/wh=8\/wh=9:=by omega
   rcases UF with rfl|rfl|rfl|rfl|rfl|rfl<;>
   (refine .same h 1 ?_
    simp only[V.s,cr,lT,zdM,↓xo,eq_self,Int.reduceEq,iF,nk,zdQ,zdN,zdO,ot a8])
  ·have a7:0<=a/\a<=7:=by omega
   have hp:=h.ph;obtain⟨x1,g1⟩:=MR hp.a a7;obtain⟨x2,g2⟩:=MR hp.b a7;obtain⟨x3,g3⟩:=MR hp.c a7;by_cases w4:wh=4
   ·subst w4
    refine .ph h (p1:=v.ph.1.set a.toNat true) (p2:=v.ph.2.1) (p3:=v.ph.2.2.1) (by rw[zeq];exact hp.a) hp.b hp.c ?_
    simp only[V.s,cr,lT,zdM,↓xo,eq_self,Int.reduceEq,iF,nk,zdQ,zdN,zdO,bg a8,ot (IL a7),g1]
   by_cases w5:wh=5
   ·subst w5
    refine .ph h (p1:=v.ph.1.set a.toNat false) (p2:=v.ph.2.1) (p3:=v.ph.2.2.1) (by rw[zeq];exact hp.a) hp.b hp.c ?_
    simp only[V.s,cr,lT,zdM,↓xo,eq_self,Int.reduceEq,iF,nk,zdQ,zdN,zdO,bg a8,ot (IL a7),g1]
   by_cases w6:wh=6
   ·subst w6
    have h1:=h.phs (ph:=(v.ph.1,v.ph.2.1.set a.toNat true,v.ph.2.2.1,())) ⟨hp.a,by rw[zeq];exact hp.b,hp.c⟩
    obtain⟨s,hf⟩:=Ws h1 a;obtain⟨out,mU,M',μ',s1,s2,s3,s4⟩:=BL h1 s 8 ⟨by omega,by omega⟩
    refine⟨_,μ',s2,⟨rfl, .rfl⟩,s4.move (by rfl) (by rfl) (by rfl), .inr ⟨out,by omega,?_⟩⟩
    simp only[V.s] at s1 hf⊢;simp only[cr,lT,zdM,↓xo,eq_self,Int.reduceEq,iF,nk,zdQ,zdN,zdO,bg a8,ot (IL a7),g2,hf,s1]
   by_cases w7:wh=7
   ·subst w7
    refine .ph h (p1:=v.ph.1) (p2:=v.ph.2.1.set a.toNat false) (p3:=v.ph.2.2.1) hp.a (by rw[zeq];exact hp.b) hp.c ?_
    simp only[V.s,cr,lT,zdM,↓xo,eq_self,Int.reduceEq,iF,nk,zdQ,zdN,zdO,bg a8,ot (IL a7),g2]
   by_cases b8:b>=8
   ·refine .same h 1 ?_
    obtain UF:wh=8\/wh=9:=by omega
    rcases UF with rfl|rfl<;>
    simp only[V.s,cr,lT,zdM,↓xo,eq_self,Int.reduceEq,iF,nk,zdQ,zdN,zdO,bg a8,ot b8]
   by_cases ba:b=a
   ·refine .same h 1 ?_
    obtain UF:wh=8\/wh=9:=by omega
    rcases UF with rfl|rfl<;>
    simp only[V.s,cr,lT,zdM,↓xo,eq_self,Int.reduceEq,iF,nk,zdQ,zdN,zdO,bg a8,bg b8,ot ba]
   by_cases w8:wh=8
   ·subst w8
    refine .ph h (p1:=v.ph.1) (p2:=v.ph.2.1) (p3:=v.ph.2.2.1.set a.toNat (WX.AO .i64 x3 (WX.shl .i64 1 (IntKind.u64.wrap b)))) hp.a hp.b (by rw[zeq];exact hp.c) ?_
    simp only[V.s,cr,lT,zdM,↓xo,xw,eq_self,Int.reduceEq,iF,nk,zdQ,zdN,zdO,bg a8,bg b8,bg ba,ot (IL a7),g3,bg (s9 b)]
   ·obtain rfl:wh=9:=by omega
    refine .ph h (p1:=v.ph.1) (p2:=v.ph.2.1) (p3:=v.ph.2.2.1.set a.toNat (WX.Di .i64 x3 (WX.shl .i64 1 (IntKind.u64.wrap b)))) hp.a hp.b (by rw[zeq];exact hp.c) ?_
    simp only[V.s,cr,lT,zdM,↓xo,xw,eq_self,Int.reduceEq,iF,nk,zdQ,zdN,zdO,bg a8,bg b8,bg ba,ot (IL a7),g3,bg (s9 b)]
 ·refine .same h e ?_
  simp only[V.s,cr,lT,zdM,↓xo,bg he,zdR,zdO]
end
structure Kv (c:mS):Prop where
 kind:c.1=3\/c.1=4\/c.1=5\/c.1=6\/c.1=9
 inst:0<=c.2.2.2.1/\c.2.2.2.1<=8/\(c.1≠6->c.2.2.2.1<=7)
 what:c.1=9->1<=c.2.2.2.2.2.2.2.2.2.2.2.1/\c.2.2.2.2.2.2.2.2.2.2.2.1<=9
 a:0<=c.2.2.2.2.2.2.2.2.2.2.2.2.1
 b:0<=c.2.2.2.2.2.2.2.2.2.2.2.2.2.1
theorem MW {t d:Int}{A B:List nu}{ws:List et}(h:(mP t d A B ws).2.1=false):(mP t d A B ws).2.2=(A,B,ws):=by
 unfold mP at h⊢;split
 ·rename_i h1;rw[if_pos h1] at h;cases h
 ·rename_i h1
  rw[if_neg h1] at h;have e:(vh t d A B).2.2=(A,B):=by
   unfold vh at h1⊢;cases hA:mX t d A with
   |some x=>rw[hA] at h1;exact absurd rfl h1
   |none=>
    rw[hA] at h1;cases hB:mX t d B with
    |some x=>rw[hB] at h1;exact absurd rfl h1
    |none=>rfl
  split
  ·rename_i n hn;rw[hn] at h;cases h
  ·rw[e]
section
variable {v:V}{μ:Nat->MS}{i n:Nat}
theorem TK (h:SS v μ)(n:Int)(set:Int)(c:mS):(∃X,ag (cK WX) (((),n,(),set,0,()),(v.cfg,v.now,(),v.ph,v.mp,(),v.bp,v.lp,()),(v.tr,()),(v.op,v.ps,()),c,v.M,v.L,v.B,())=some (.inl (((),X,()),(v.cfg,v.now,(),v.ph,v.mp,(),v.bp,v.lp,()),(v.tr,()),(v.op,v.ps,()),c,[],v.M,v.L,v.B,())))\/ag (cK WX) (((),n,(),set,0,()),(v.cfg,v.now,(),v.ph,v.mp,(),v.bp,v.lp,()),(v.tr,()),(v.op,v.ps,()),c,v.M,v.L,v.B,())=some (.inr (((),(),set,()),(v.cfg,v.now,(),v.ph,v.mp,(),v.bp,v.lp,()),(v.tr,()),(v.op,v.ps,()),c,v.M,v.L,v.B,())):=by
 have key:=rD (b:=cK WX) (λk l=> ∃m:Nat,m<=32/\k=32-m/\l=(((),n,(),set,(m:Int),()),(v.cfg,v.now,(),v.ph,v.mp,(),v.bp,v.lp,()),(v.tr,()),(v.op,v.ps,()),c,v.M,v.L,v.B,())) (λr=>(∃X,r= .inl (((),X,()),(v.cfg,v.now,(),v.ph,v.mp,(),v.bp,v.lp,()),(v.tr,()),(v.op,v.ps,()),c,[],v.M,v.L,v.B,()))\/r= .inr (((),(),set,()),(v.cfg,v.now,(),v.ph,v.mp,(),v.bp,v.lp,()),(v.tr,()),(v.op,v.ps,()),c,v.M,v.L,v.B,())) (λk l hl=>by
  obtain⟨m,hm,rfl,rfl⟩:=hl;by_cases hc:m<32
  ·have e1:=lG hc (by omega)
   obtain⟨e,lT⟩:=BH h n 2 0 (m:Int);simp only[V.s] at lT;by_cases hb:WX.sP .u64 (WX.shr .u64 set (IntKind.u64.wrap (m:Int))) 1=1
   ·by_cases he:e=0
    ·exact .inl ⟨_,by simp only[cK,↓xo,xw,oT ((m:Int)<32),zdO,bg (s9 (m:Int)),zdN,ot hb,lT,zdM,ot he,zdQ,e1],32-(m+1),by omega,m+1,by omega,rfl,rfl⟩
    ·exact .inr ⟨_,by simp only[cK,↓xo,xw,oT ((m:Int)<32),zdO,bg (s9 (m:Int)),zdN,ot hb,lT,zdM,bg he,zdR], .inl ⟨7,rfl⟩⟩
   ·exact .inl ⟨_,by simp only[cK,↓xo,xw,oT ((m:Int)<32),zdO,bg (s9 (m:Int)),zdN,bg hb,e1],32-(m+1),by omega,m+1,by omega,rfl,rfl⟩
  ·obtain rfl:m=32:=by omega
   exact .inr ⟨_,by simp only[cK,↓xo,oF (((32:Nat):Int)<32),zdN], .inr rfl⟩)
 obtain⟨r,h1,h2⟩:=key 32 (((),n,(),set,0,()),(v.cfg,v.now,(),v.ph,v.mp,(),v.bp,v.lp,()),(v.tr,()),(v.op,v.ps,()),c,v.M,v.L,v.B,()) ⟨0,by omega,by omega,rfl⟩
 rcases h2 with⟨X,rfl⟩|rfl
 ·exact .inl ⟨X,h1⟩
 ·exact .inr h1
theorem ZT (h:SS v μ)(hn:n<32)(c:mS)(hc:Kv c):MU v μ (cS WX (((),(n:Int),c,()),v.s)):=by
 obtain⟨kd,sq,td,it,id,sd,od,p,q,sh,st,wh,a,b,tg,⟨⟩⟩:=c;obtain⟨c1,c2,c3,c4,c5⟩:=hc;simp only at c1 c2 c3 c4 c5;obtain⟨i,rfl⟩:=zfF c2.1;rcases c1 with rfl|rfl|rfl|rfl|rfl
 ·have hi:i<8:=by have:=c2.2.2 (by omega);omega
  obtain⟨v',μ',s1,s2,s3,⟨e,ho⟩|⟨out,hl,ho⟩⟩:=TE h hn hi 3 sq td id sd od p q sh st wh a b tg
  ·exact⟨v',μ',s1,s2,s3, .inl ⟨e,by simp only[cS,↓xo,eq_self,iF,zdO,ho,zdM]⟩⟩
  ·exact⟨v',μ',s1,s2,s3, .inr ⟨out,hl,by simp only[cS,↓xo,eq_self,iF,zdO,ho,zdM]⟩⟩
 ·have hi:i<8:=by have:=c2.2.2 (by omega);omega
  obtain⟨e,lT⟩:=BH h (n:Int) 2 (i:Int) td;by_cases he:e=0
  ·subst he
   obtain⟨bs,ss,fe,hM,hB,hI,hH⟩:=h.si.qS.at_ i hi;have hp:=h.si.qS.mp i hi;obtain⟨oW,oX,HL,r1,r2⟩:=MM (last:=(μ i).2.2.2.1) (no:=(μ i).2.2.2.2) hB hI td id;obtain⟨r3,r4⟩:=EL hI td id;have m1:=Dh h.si.qS hi (m:=((mP td id (μ i).1 (μ i).2.1 (μ i).2.2.1).2.2.1,(mP td id (μ i).1 (μ i).2.1 (μ i).2.2.1).2.2.2.1,(mP td id (μ i).1 (μ i).2.1 (μ i).2.2.1).2.2.2.2,(μ i).2.2.2)) r2 r3 (λo ho=>hH o (r4.subset ho));simp only at m1;simp only[V.s] at lT;cases hf:(mP td id (μ i).1 (μ i).2.1 (μ i).2.2.1).2.1 with
   |false=>
    rw[hf] at r1;have vG:=MW hf;rw[vG] at m1 r1;rw[show((μ i).1,(μ i).2.1,(μ i).2.2.1,(μ i).2.2.2)=μ i from rfl,BJ] at m1
    refine⟨_,μ,h.kq (op:=v.op) (ps:=v.ps) ⟨⟨m1.mp,m1.at_⟩,h.si.op,h.si.MQ,h.si.ps⟩,⟨rfl, .rfl⟩, .same, .inl ⟨6,?_⟩⟩;simp only[V.s];simp only[cS,↓xo,eq_self,Int.reduceEq,iF,nk,zdO,zdN,lT,zdM,zdQ,zdR,ot (CT hi),zdP,hp,an,hM,r1]
   |true=>
    rw[hf] at r1;obtain⟨out,mU,g1,g2,g3,g4⟩:=Ox (i:=i) m1 h.si.op hi [(mP td id (μ i).1 (μ i).2.1 (μ i).2.2.1).1] (by simp)
    refine⟨_,_,h.kq (op:=mU) (ps:=v.ps) ⟨⟨m1.mp,m1.at_⟩,g2,λm j hm hj=>?_,h.si.ps⟩,⟨rfl, .rfl⟩, .rem i td id hi, .inr ⟨out,by rw[g4];simp,?_⟩⟩
    ·show tb mU m j=_
     rw[g3 m j hm];unfold wK;split
     ·rename_i e;rw[if_pos rfl]
     ·exact h.si.MQ m j hm hj
    ·simp only[V.s] at g1⊢
     simp only[cS,↓xo,eq_self,Int.reduceEq,iF,nk,zdO,zdN,lT,zdM,zdQ,ot (CT hi),zdP,hp,an,hM,r1,g1]
  ·refine .same h e ?_
   simp only[V.s] at lT⊢;simp only[cS,↓xo,eq_self,Int.reduceEq,iF,nk,zdO,zdN,lT,zdM,bg he,zdR]
 ·have hi:i<8:=by have:=c2.2.2 (by omega);omega
  obtain⟨v',μ',s1,s2,s3,⟨e,ho⟩|⟨out,hl,ho⟩⟩:=TH h hn hi 5 sq td id sd od p q sh st wh a b tg
  ·exact⟨v',μ',s1,s2,s3, .inl ⟨e,by simp only[cS,↓xo,eq_self,Int.reduceEq,iF,nk,zdO,zdN,ho,zdM]⟩⟩
  ·exact⟨v',μ',s1,s2,s3, .inr ⟨out,hl,by simp only[cS,↓xo,eq_self,Int.reduceEq,iF,nk,zdO,zdN,ho,zdM]⟩⟩
 ·obtain⟨⟨set,⟨⟩⟩,hs⟩:=Oz h.tr (n:Int) wh
  rcases TK h (n:Int) set (6,sq,td,(i:Int),id,sd,od,p,q,sh,st,wh,a,b,tg,()) with⟨X,hl⟩|hl
  ·refine .same h X ?_
   simp only[V.s];simp only[cS,↓xo,↓xl,eq_self,Int.reduceEq,iF,nk,zdO,zdN,hs,zdM,hl]
  ·obtain⟨out,mU,M',μ',s1,s2,s3,s4⟩:=BL h set (i:Int) ⟨by omega,by omega⟩
   refine⟨_,μ',s2,⟨rfl, .rfl⟩,s4, .inr ⟨out,by omega,?_⟩⟩
   simp only[V.s] at s1⊢;simp only[cS,↓xo,↓xl,eq_self,Int.reduceEq,iF,nk,zdO,zdN,hs,zdM,hl,s1]
 ·have hw:=c3 rfl
  by_cases w3:wh<=3
  ·obtain⟨v',μ',s1,s2,s3,⟨e,ho⟩|⟨out,hl,ho⟩⟩:=Qu h (n:Int) 9 sq td (i:Int) id sd od p q sh st wh a b tg
   ·exact⟨v',μ',s1,s2,s3, .inl ⟨e,by simp only[cS,↓xo,eq_self,Int.reduceEq,iF,nk,zdO,zdN,ot w3,ho,zdM]⟩⟩
   ·exact⟨v',μ',s1,s2,s3, .inr ⟨out,hl,by simp only[cS,↓xo,eq_self,Int.reduceEq,iF,nk,zdO,zdN,ot w3,ho,zdM]⟩⟩
  ·obtain⟨v',μ',s1,s2,s3,⟨e,ho⟩|⟨out,hl,ho⟩⟩:=TJ h (n:Int) 9 sq td (i:Int) id sd od p q sh st wh a b tg ⟨by omega,by omega⟩ c4 c5
   ·exact⟨v',μ',s1,s2,s3, .inl ⟨e,by simp only[cS,↓xo,eq_self,Int.reduceEq,iF,nk,zdO,zdN,bg w3,ho,zdM]⟩⟩
   ·exact⟨v',μ',s1,s2,s3, .inr ⟨out,hl,by simp only[cS,↓xo,eq_self,Int.reduceEq,iF,nk,zdO,zdN,bg w3,ho,zdM]⟩⟩
theorem OE (h:SS v μ){k:Int}(hk:k≠1){n:Int}(hn:lE v.tr n=false)(c:mS):dH WX (((),(k,0,n,c,()),()),v.s)=some ((false,()),v.s):=by
 have h1:=oJ h.tr n;rw[hn] at h1;simp only[dH,V.s,↓xo,bg hk,zdN,eq_self,iF,zdQ,h1,zdM,zdR,zdO]
theorem ZU (h:SS v μ){n:Int}(hn:lE v.tr n=true)(k:Int)(hk:k=3\/k=4\/k=5):dH WX (((),(k,0,n,C0,()),()),v.s)=some ((true,()),v.s):=by
 have h1:=oJ h.tr n;rw[hn] at h1;have e1: ¬k=1:=by omega
 have e2: ¬k=2:=by omega
 simp only[dH,V.s,↓xo,bg e1,zdN,eq_self,iF,zdQ,h1,zdM,bg e2,oT (k>=1),oT (k<=5),zdO,qv,Mt,ze9]
theorem zbD (h:SS v μ){k:Int}(hk:k≠1){n:Int}(hn:lE v.tr n=false)(c:mS):MU v μ (cn WX (((),(k,0,n,c,()),()),v.s)):=by
 refine .same h 1 ?_;simp only[cn,OE h hk hn c,zdM,zdR,zdO];rfl
def Wt (v:V)(μ:Nat->MS)(o:Option ((((Unit×Int×Unit)×(xd×Int×Unit×H9×(List Nat)×Unit×(List Nat)×(List Nat)×Unit)×((List oS)×Unit)×((List (List Int))×(List (List Int))×Unit)×List gN×(List uD)×(List tv)×(List vM)×Unit))⊕((List gN×Int×Unit)×ST))):Prop:=
 ∃v' μ' x,SS v' μ'/\Kept v v'/\v'.ps=v.ps/\(∀i,μ' i=μ i\/μ' i=(mQ x (μ i)).1)/\((∃e,o=some (.inl (((),e,()),sE v' [])))\/∃out,out.length<=80000000/\o=some (.inr ((out,0,()),v'.s)))
theorem Wt.same (h:SS v μ)(e:Int){o}(ho:o=some (.inl (((),e,()),sE v []))):Wt v μ o:=⟨v,μ,0,h, .rfl v,rfl,λ_=> .inl rfl, .inl ⟨e,ho⟩⟩
theorem ZV (h:SS v μ){k:Int}(hk:k≠1){n:Int}(hn:lE v.tr n=false)(c:mS):Wt v μ (cn WX (((),(k,0,n,c,()),()),v.s)):=by
 refine .same h 1 ?_;simp only[cn,OE h hk hn c,zdM,zdR,zdO];rfl
theorem TL (h:SS v μ)(n:Int)(k:Int)(hk:k=3\/k=4\/k=5):Wt v μ (cn WX (((),(k,0,n,C0,()),()),v.s)):=by
 cases ht:lE v.tr n with
 |false=>exact ZV h (by omega) ht C0
 |true=>
  have hf:=ZU h ht k hk;have hn:=qL ht;have l1:=h.lp n.toNat (by omega)
  obtain⟨l,l2⟩:=h.L n.toNat (by omega)
  rcases hk with rfl|rfl|rfl
  ·refine⟨_,μ,0,h.TI n.toNat (failed l v.now),⟨rfl, .rfl⟩,rfl,λ_=> .inl rfl, .inl ⟨0,?_⟩⟩
   simp only[cn,hf,zdM,zdQ,zdN,↓xo,Int.reduceEq,nk,iF,zdO];simp only[V.s,ot (Cx hn),zdO,l1,zdM,an,l2,P2]
  ·have hl:dA WX (((),n,()),v.s)=some ((oB l v.now,()),v.s):=by
    simp only[dA,kH,V.s,↓xo,oT (n>=0),oT (n<32),ot (Cx hn),zdO,zdM,l1,an,l2,qH,aJ l2]
   cases hk:oB l v.now with
   |true=>
    refine .same h 15 ?_;simp only[cn,hf,zdM,zdQ,zdN,↓xo,Int.reduceEq,nk,iF,zdO,hl,hk];simp only[V.s]
   |false=>
    refine⟨_,μ,0,h.TI n.toNat (l.1,l.2.1,0,0,()),⟨rfl, .rfl⟩,rfl,λ_=> .inl rfl, .inl ⟨0,?_⟩⟩;simp only[cn,hf,zdM,zdQ,zdN,↓xo,Int.reduceEq,nk,iF,zdO,hl,hk];simp only[V.s,ot (Cx hn),zdO,l1,zdM,an,l2,gz]
  ·obtain⟨out,mU,M',μ',s1,s2,s3,s4⟩:=Kt h.si (WX.shl .u64 1 (IntKind.u64.wrap n)) 8 ⟨by omega,by omega⟩
   refine⟨_,μ',_,h.kq (ps:=v.ps) s2,⟨rfl, .rfl⟩,rfl,s4, .inr ⟨out,by omega,?_⟩⟩
   simp only[cn,hf,zdM,zdQ,zdN,↓xo,xw,Int.reduceEq,nk,iF,zdO,bg (s9 n),s1]
theorem ZW (h:SS v μ)(n:Int){c:mS}(hc:Kv c)(hk:iB WX ((c,()),())=some ((true,()),())):MU v μ (cn WX (((),(2,0,n,c,()),()),v.s)):=by
 cases ht:lE v.tr n with
 |false=>exact zbD h (by omega) ht c
 |true=>
  have h1:=oJ h.tr n;rw[ht] at h1;have hn:=qL ht;obtain⟨m,rfl⟩:=zfF hn.1;have hf:dH WX (((),(2,0,(m:Int),c,()),()),v.s)=some ((true,()),v.s):=by
   simp only[dH,V.s,↓xo,Int.reduceEq,nk,iF,zdN,zdO,eq_self,zdQ,h1,zdM,hk]
  have b1:=h.bp m (by omega)
  obtain⟨k,b2,b3⟩:=h.B m (by omega)
  obtain⟨b,k',t1,t2⟩:=TC k v.now b3;cases b with
  |false=>
   refine⟨_,μ,h.zbC m k' (by rw[t2];exact b3),⟨rfl, .rfl⟩, .same, .inl ⟨13,?_⟩⟩
   simp only[cn,hf,zdM,zdQ,zdN,↓xo,Int.reduceEq,nk,iF,zdO];simp only[V.s,ot (qR (show m<32 by omega)),zdO,zdP,b1,zdM,an,b2,t1,zdR]
  |true=>
   obtain⟨v',μ',s1,s2,s3,s4⟩:=ZT (n:=m) (h.zbC m k' (by rw[t2];exact b3)) (by omega) c hc
   have s2':Kept v v':=⟨by rw[s2.eq],s2.tr⟩
   rcases s4 with⟨e,ho⟩|⟨out,hl,ho⟩
   ·refine⟨v',μ',s1,s2',s3.move (by rfl) (by rfl) (by rfl), .inl ⟨e,?_⟩⟩
    simp only[V.s] at ho;simp only[cn,hf,zdM,zdQ,zdN,↓xo,Int.reduceEq,nk,iF,zdO];simp only[V.s,ot (qR (show m<32 by omega)),zdO,zdP,b1,zdM,an,b2,t1,zdQ,zdN,ho]
   ·refine⟨v',μ',s1,s2',s3.move (by rfl) (by rfl) (by rfl), .inr ⟨out,hl,?_⟩⟩
    simp only[V.s] at ho;simp only[cn,hf,zdM,zdQ,zdN,↓xo,Int.reduceEq,nk,iF,zdO];simp only[V.s,ot (qR (show m<32 by omega)),zdO,zdP,b1,zdM,an,b2,t1,zdQ,zdN,ho]
end
def NS (n:mf):Prop:= ∃bs,NB n bs/\bs.length<=40
theorem Wu (a b c d e f:Int):NS (5,0,0,a,b,c,0,d,e,f,gM,()):=by
 obtain⟨bs,h1,h2⟩:=Ch (n:=(5,0,0,a,b,c,0,d,e,f,gM,())) (k:=24) (by kernel_rfl)
 exact⟨bs,h1,by omega⟩
theorem Wv (a b c:Int):NS (6,0,0,a,b,0,0,0,0,c,gM,()):=by
 obtain⟨bs,h1,h2⟩:=Ch (n:=(6,0,0,a,b,0,0,0,0,c,gM,())) (k:=12) (by kernel_rfl)
 exact⟨bs,h1,by omega⟩
theorem TM (a b c d:Int):NS (7,0,0,a,0,b,0,c,d,0,gM,()):=by
 obtain⟨bs,h1,h2⟩:=Ch (n:=(7,0,0,a,0,b,0,c,d,0,gM,())) (k:=16) (by kernel_rfl)
 exact⟨bs,h1,by omega⟩
theorem ZX:NS (9,0,0,0,0,0,0,0,0,0,gM,()):=by
 obtain⟨bs,h1,h2⟩:=Ch (n:=(9,0,0,0,0,0,0,0,0,0,gM,())) (k:=3) (by kernel_rfl)
 exact⟨bs,h1,by omega⟩
theorem MX:NS (2,0,0,0,0,0,0,0,0,0,gM,()):=by
 obtain⟨bs,h1,h2⟩:=Ep;exact⟨bs,h1,by omega⟩
theorem ZY (sq:Int):NS (3,0,sq,0,0,0,0,0,0,0,gM,()):=by
 obtain⟨bs,h1,h2⟩:=Zn sq;exact⟨bs,h1,by omega⟩
theorem Qv (er sq:Int):NS (4,er,sq,0,0,0,0,0,0,0,gM,()):=by
 obtain⟨bs,h1,h2⟩:=P4 er sq;exact⟨bs,h1,by omega⟩
theorem IM {nc:List Int}(h:nc.length=32):NS (1,0,0,0,0,0,0,0,0,0,nc,()):=by
 obtain⟨bs,h1,h2⟩:=Ay h;exact⟨bs,h1,by omega⟩
theorem MY (e:gN)(n:Int): ∃l,jc WX ((e,n,()),())=some ((l,()),())/\l.length<=2/\∀x∈l,NS x:=by
 by_cases h1:e.1=1
 ·obtain⟨l,g1,g2,g3⟩:=oR (b:=fK WX) 2 (λk (s:List mf)=>((n,(),(),[e.2.2.1.1,e.2.2.1.2.1],2,(k:Int),()),e,s,())) (λs=>((s,()),e,())) (λk s=>s.length<=k/\∀x∈s,NS x)
   (λk s hk hI=>by
    obtain⟨i1,i2⟩:=hI;have hx:=zdS (l:=[e.2.2.1.1,e.2.2.1.2.1]) (i:=k) hk;generalize ([e.2.2.1.1,e.2.2.1.2.1]:List et)[k]'hk=o at hx;have e1:=lG hk (by omega)
    by_cases ho:o.1=n
    ·refine⟨s++ [(5,0,0,e.2.1,o.2.1,e.2.2.1.2.2.2.2.1,0,e.2.2.1.2.2.1,e.2.2.1.2.2.2.1,i64.wrap (o.2.2.2.2.2.2.1-e.2.2.1.2.2.2.1),gM,())],?_,by rw[zdW];simp only[zdX,zdY];omega,λx hx=>?_⟩
     ·simp only[fK,nJ,↓xo,xw,oT ((k:Int)<2),oT ((0:Int)<=(k:Int)),zdO,zdP,hx,zdM,ot ho,e1,ot (show((((s.length+1:Nat)):Int))*((112:Nat):Int)<=((room:Nat):Int) by unfold room;omega),zdX,zdY,zeC]
     ·rcases List.mem_append.1 hx with hx|hx
      ·exact i2 x hx
      ·rw[List.mem_singleton.1 hx];exact Wu _ _ _ _ _ _
    ·exact⟨s,by simp only[fK,↓xo,xw,oT ((k:Int)<2),oT ((0:Int)<=(k:Int)),zdO,zdN,zdP,hx,zdM,bg ho,e1],by omega,i2⟩)
   (λs _=>by simp only[fK,↓xo,oF (((2:Nat):Int)<2),zdN]) [] ⟨zeU _,λx hx=>(by cases hx)⟩
  change ag (fK WX) ((n,(),(),[e.2.2.1.1,e.2.2.1.2.1],((([e.2.2.1.1,e.2.2.1.2.1]:List et).length:Nat):Int),0,()),e,[],())=_ at g1;exact⟨l,by simp only[jc,↓xo,ot h1,zdO,↓xl,g1,zdM],g2,g3⟩
 ·by_cases h2:e.1=2
  ·by_cases h3:e.2.2.2.1.1=n
   ·refine⟨[(6,0,0,e.2.1,e.2.2.2.1.2.1,0,0,0,0,e.2.2.2.1.2.2.2.2.2.2.1,gM,())],?_,by simp,λx hx=>?_⟩
    ·simp only[jc,↓xo,bg h1,ot h2,ot h3,zdO,zdN,ot (show((((([]:List mf).length+([(6,0,0,e.2.1,e.2.2.2.1.2.1,0,0,0,0,e.2.2.2.1.2.2.2.2.2.2.1,(List.replicate 32 (0:Int)),())]:List mf).length:Nat)):Int))*((112:Nat):Int)<=((room:Nat):Int) by unfold room;simp only[zdX,zdY];omega),zeN]
    ·rw[List.mem_singleton.1 hx];exact Wv _ _ _
   ·exact⟨[],by simp only[jc,↓xo,bg h1,ot h2,bg h3,zdO,zdN],by simp,λx hx=>(by cases hx)⟩
  ·exact⟨[],by simp only[jc,↓xo,bg h1,bg h2,zdN],by simp,λx hx=>(by cases hx)⟩
theorem Ww (e:gN)(n:Int): ∃l,mE WX ((e,n,()),())=some ((l,()),())/\l.length<=3/\∀x∈l,NS x:=by
 obtain⟨l,h1,h2,h3⟩:=MY e n;have key: ∃p,kK WX ((e,()),())=some (((),()),p,())/\p.length<=1/\∀x∈p,NS x:=by
  by_cases c:e.1=1
  ·refine⟨[(7,0,0,e.2.1,0,e.2.2.1.2.2.2.2.1,0,e.2.2.1.2.2.1,e.2.2.1.2.2.2.1,0,gM,())],by simp only[kK,↓xo,ot c,zdQ,zdN],by simp,λx hx=>?_⟩
   rw[List.mem_singleton.1 hx];exact TM _ _ _ _
  ·exact⟨[],by simp only[kK,↓xo,bg c,zdR,zdO],by simp,λx hx=>(by cases hx)⟩
 obtain⟨p,p1,p2,p3⟩:=key;have vC: [l,p].flatten=l++p:=by simp
 have uY: ∀x∈l++p,NS x:=λx hx=>by
  rcases List.mem_append.1 hx with hx|hx
  ·exact h3 x hx
  ·exact p3 x hx
 rcases CS [l,p] (by rw[vC,zdW];omega) (by simp) with⟨c1,c2⟩|c1
 ·exact⟨[],by simp only[mE,h1,zdM,p1,c1],by simp,λx hx=>(by cases hx)⟩
 ·rw[vC] at c1
  exact⟨l++p,by simp only[mE,h1,zdM,p1,c1,ze4],by rw[zdW];omega,uY⟩
theorem TN {ob bs:List Int}{ov:Bool}(h:ob.length<=4096)(hb:bs.length<=1000): ∃r ob' ov',gE WX (((),bs,()),((ob,ov,()),()))=some ((r,()),((ob',ov',()),()))/\ob'.length<=4096:=by
 have e:i64.wrap (4096-(ob.length:Int))=4096-(ob.length:Int):=nR (by omega) (by omega)
 cases ov with
 |true=>exact⟨_,_,_,by simp only[gE,zdO];rfl,h⟩
 |false=>
  by_cases hl:(bs.length:Int)>4096-(ob.length:Int)
  ·exact⟨_,_,_,by simp only[gE,zdN,↓xo,xw,e,ot hl,zdO];rfl,h⟩
  ·have vC: [ob,bs].flatten=ob++bs:=by simp
   by_cases hp:ob++bs=[]
   ·have hc:=concat_nil [ob,bs] (by rw[vC,hp]) (by simp)
    exact⟨true,[],false,by simp only[gE,zdN,↓xo,xw,e,bg hl,hc,zdM],by simp⟩
   ·have hc:=vP [ob,bs] (by rw[vC];exact hp) (by rw[vC,zdW];omega) (by simp)
    exact⟨true,ob++bs,false,by simp only[gE,zdN,↓xo,xw,e,bg hl,hc,zdM,vC,ze4],by rw[zdW];omega⟩
structure zbE (s:wV)(ou:(List Int)×Bool×Unit):Prop where
 out:ou.1.length<=4096
 rB:s.2.2.1.length=32
 at_:s.1=0\/s.1=1\/s.1=2\/s.1=3
 qy:0<=s.2.1/\s.2.1<=31
def CI (v:V):Prop:= ∀i,i<16->∃f o s fr ou,mT v i f o s fr ou/\zbE s ou
section
variable {v:V}{i:Nat}
theorem CI.XC (h:CI v)(o:Nat)(ou:(List Int)×Bool×Unit)(ho:ou.1.length<=4096):CI {v with O:=v.O.set o (ou,())}:=λj hj=>by
 obtain⟨f,o',s,fr,Is,h1,h2⟩:=h j hj;by_cases e:o'=o
 ·subst e
  exact⟨f,o',s,fr,ou,⟨h1.lt,h1.c,h1.S,h1.F,ko h1.O⟩,⟨ho,h2.rB,h2.at_,h2.qy⟩⟩
 ·exact⟨f,o',s,fr,Is,⟨h1.lt,h1.c,h1.S,h1.F,by show(v.O.set o _)[o']?=_;rw[kL e];exact h1.O⟩,h2⟩
theorem EU (h:CI v)(hi:i<16){n:mf}(hn:NS n): ∃O',cd WX (((),(i:Int),n,()),v.e)=some ((),{v with O:=O'}.e)/\CI {v with O:=O'}:=by
 obtain⟨f,o,s,fr,ou,hc,mh⟩:=h i hi;obtain⟨bs,hb,hl⟩:=hn;obtain⟨ob,ov,⟨⟩⟩:=ou;obtain⟨r,ob',ov',h1,h2⟩:=TN (ov:=ov) mh.out (show bs.length<=1000 by omega)
 refine⟨_,?_,h.XC o (ob',ov',()) h2⟩;rcases hb with⟨x,k1,k2⟩|⟨x,k1,k2⟩
 ·simp only[cd,V.e,↓xo,ot (lr hi),zdO,zdP,hc.c,zdM,k1,k2,an,hc.O,h1]
 ·simp only[cd,V.e,↓xo,ot (lr hi),zdO,zdP,hc.c,zdM,k1,k2,an,hc.O,h1]
abbrev vX (v:V)(x:gN):=(((),v.c,(),(),()),(v.cfg,v.now,(),v.ph,v.mp,(),v.bp,v.lp,()),(v.tr,()),(v.op,v.ps,()),v.lg,(v.mt,()),x,v.M,v.L,v.S,v.F,v.O,v.B,())
theorem MZ (h:CI v)(hi:i<16)(ns:List mf)(hl:ns.length<=3)(hn: ∀x∈ns,NS x)(e a b:Int)(EV:List gN)(cs:List NW)(k:Int)(x:gN): ∃O',ag (cL WX) (((),e,(),(i:Int),EV,a,b,cs,k,ns,(ns.length:Int),0,()),vX v x)=some (((),e,(),EV,a,b,cs,k,()),vX {v with O:=O'} x)/\CI {v with O:=O'}:=by
 obtain⟨O',g1,g2⟩:=oR (b:=cL WX) ns.length (λj (s:List Bm)=>(((),e,(),(i:Int),EV,a,b,cs,k,ns,(ns.length:Int),(j:Int),()),vX {v with O:=s} x)) (λs=>(((),e,(),EV,a,b,cs,k,()),vX {v with O:=s} x)) (λj s=>CI {v with O:=s})
  (λj s hj hI=>by
   have hx:=zdS hj;have uY:=hn _ (ze0 hj);have e1:=lG hj (by omega)
   generalize ns[j]=y at*;obtain⟨O2,o1,o2⟩:=EU hI hi uY;simp only[V.e] at o1;exact⟨O2,by simp only[cL,↓xo,xw,oT ((j:Int)<(ns.length:Int)),oT ((0:Int)<=(j:Int)),zdO,zdP,hx,zdM,o1,e1],o2⟩)
  (λs _=>by simp only[cL,↓xo,oF ((ns.length:Int)<(ns.length:Int)),zdN]) v.O h
 exact⟨O',g1,g2⟩
theorem M0 (h:CI v)(e a b:Int)(EV:List gN)(x:gN): ∃O',ag (cG WX) (((),e,(),EV,a,b,v.c,0,()),vX v x)=some (((),e,EV,a,b,()),vX {v with O:=O'} x)/\CI {v with O:=O'}:=by
 obtain⟨O',g1,g2⟩:=oR (b:=cG WX) 16 (λj (s:List Bm)=>(((),e,(),EV,a,b,v.c,(j:Int),()),vX {v with O:=s} x)) (λs=>(((),e,EV,a,b,()),vX {v with O:=s} x)) (λj s=>CI {v with O:=s})
  (λj s hj hI=>by
   obtain⟨f,o,t,fr,ou,hc,mh⟩:=hI j hj;have c1:=hc.c;have c2:=hc.S;change v.c[j]?=_ at c1;change v.S[j]?=_ at c2;have e1:=lG hj (by omega)
   by_cases h3:t.1=3
   ·obtain⟨ns,n1,n2,n3⟩:=Ww x t.2.1
    obtain⟨O2,o1,o2⟩:=MZ hI hj ns n2 n3 e a b EV v.c (j:Int) x;have e2: ¬t.1=2:=by omega
    exact⟨O2,by simp only[cG,↓xo,xw,↓xl,oT ((j:Int)<16),ot (lr hj),zdO,zdN,zdP,c1,zdM,an,c2,aj,aA,bg e2,ot h3,zdQ,aJ c2,n1,o1,e1],o2⟩
   ·exact⟨s,by simp only[cG,↓xo,xw,↓xl,oT ((j:Int)<16),ot (lr hj),zdO,zdP,c1,zdM,an,c2,aj,bg h3,zdR,aJ c2,e1],hI⟩)
  (λs _=>by simp only[cG,↓xo,oF (((16:Nat):Int)<16),zdN]) v.O h
 exact⟨O',g1,g2⟩
theorem Cy (h:CI v)(e:Int)(EV:List gN)(hl:EV.length<=80000000): ∃O',ag (bV WX) (((),e,EV,(EV.length:Int),0,()),v.e)=some ((e,()),{v with O:=O'}.e)/\CI {v with O:=O'}:=by
 obtain⟨O',g1,g2⟩:=oR (b:=bV WX) EV.length (λj (s:List Bm)=>(((),e,EV,(EV.length:Int),(j:Int),()),{v with O:=s}.e)) (λs=>((e,()),{v with O:=s}.e)) (λj s=>CI {v with O:=s})
  (λj s hj hI=>by
   have hx:=zdS hj;have e1:=Tw hj (by omega)
   generalize EV[j]=x at*;obtain⟨O2,o1,o2⟩:=M0 hI e (EV.length:Int) (j:Int) EV x;exact⟨O2,by simp only[bV,V.e,↓xo,xw,↓xl,oT ((j:Int)<(EV.length:Int)),oT ((0:Int)<=(j:Int)),zdO,zdP,hx,zdM,o1,e1],o2⟩)
  (λs _=>by simp only[bV,↓xo,oF ((EV.length:Int)<(EV.length:Int)),zdN]) v.O h
 exact⟨O',g1,g2⟩
end
def XD (k:Nat):Option ((Unit×Unit)×(List Int×Unit))->Bool
 |some (_,(bs,_))=>Nat.beq bs.length k
 |none=>false
theorem uq {k:Nat}{o:Option ((Unit×Unit)×(List Int×Unit))}(h:XD k o=true): ∃bs:List Int,o=some (((),()),(bs,()))/\bs.length=k:=by
 match o,h with
 |some (((),()),(bs,())),h=>exact⟨bs,rfl,zfm h⟩
section
variable {n sq td it id sd od p q sh st wh a b:Int}{tg:List Int}
theorem zdo (h:bm WX (((3,sq,td,it,id,sd,od,p,q,sh,st,wh,a,b,tg,()),()),())=some ((true,()),())): ∃bs:List Int,hZ WX (((2,0,n,(3,sq,td,it,id,sd,od,p,q,sh,st,wh,a,b,tg,()),()),()),())=some (((),()),(bs,()))/\bs.length=38:=by
 apply uq;simp only[hZ,gO,h,zdM,zdQ,zdN];clear h;kernel_rfl
theorem zdp (h:bm WX (((4,sq,td,it,id,sd,od,p,q,sh,st,wh,a,b,tg,()),()),())=some ((true,()),())): ∃bs:List Int,hZ WX (((2,0,n,(4,sq,td,it,id,sd,od,p,q,sh,st,wh,a,b,tg,()),()),()),())=some (((),()),(bs,()))/\bs.length=21:=by
 apply uq;simp only[hZ,gO,h,zdM,zdQ,zdN];clear h;kernel_rfl
theorem zdq (h:bm WX (((5,sq,td,it,id,sd,od,p,q,sh,st,wh,a,b,tg,()),()),())=some ((true,()),())): ∃bs:List Int,hZ WX (((2,0,n,(5,sq,td,it,id,sd,od,p,q,sh,st,wh,a,b,tg,()),()),()),())=some (((),()),(bs,()))/\bs.length=28:=by
 apply uq;simp only[hZ,gO,h,zdM,zdQ,zdN];clear h;kernel_rfl
theorem zdr (h:bm WX (((6,sq,td,it,id,sd,od,p,q,sh,st,wh,a,b,tg,()),()),())=some ((true,()),())): ∃bs:List Int,hZ WX (((2,0,n,(6,sq,td,it,id,sd,od,p,q,sh,st,wh,a,b,tg,()),()),()),())=some (((),()),(bs,()))/\bs.length=17:=by
 apply uq;simp only[hZ,gO,h,zdM,zdQ,zdN];clear h;kernel_rfl
theorem zds (h:bm WX (((9,sq,td,it,id,sd,od,p,q,sh,st,wh,a,b,tg,()),()),())=some ((true,()),())): ∃bs:List Int,hZ WX (((2,0,n,(9,sq,td,it,id,sd,od,p,q,sh,st,wh,a,b,tg,()),()),()),())=some (((),()),(bs,()))/\bs.length=18:=by
 apply uq;simp only[hZ,gO,h,zdM,zdQ,zdN];clear h;kernel_rfl
end
theorem zdt: ∀f g:Nat->Int,Cg (jt WX (((List.range 32).map f,(List.range 38).map g,()),()))=true:=λf g=>by kernel_rfl
theorem zdu: ∀f g:Nat->Int,Cg (jt WX (((List.range 32).map f,(List.range 21).map g,()),()))=true:=λf g=>by kernel_rfl
theorem zdv: ∀f g:Nat->Int,Cg (jt WX (((List.range 32).map f,(List.range 28).map g,()),()))=true:=λf g=>by kernel_rfl
theorem zdw: ∀f g:Nat->Int,Cg (jt WX (((List.range 32).map f,(List.range 17).map g,()),()))=true:=λf g=>by kernel_rfl
def zbF (k:Nat):Prop:= ∀f g:Nat->Int,Cg (jt WX (((List.range 32).map f,(List.range k).map g,()),()))=true
theorem Wx (x:Int): ∃u:List Int,lz WX (([],x,()),())=some (((),()),(u,()))/\u.length=4:=uq (by kernel_rfl)
theorem Wy {lg:GC}{m k:Nat}{r:Ia}{bs:List Int}(h:yO lg m)(hm:m<=100000000000)(hr:gA WX ((r,()),())=some ((true,()),()))(hp:hZ WX ((r,()),())=some (((),()),(bs,())))(hk:bs.length=k)(hl:zbF k)(th:k<=100):
  ∃wW,gf WX (((),r,()),(lg,()))=some ((true,()),(wW,()))/\yO wW (m+36+k):=by
 obtain⟨b,c,ct,u⟩:=lg;obtain⟨hb,hc⟩:=h;simp only at hb hc;obtain⟨f,rfl⟩:=mF c hc;obtain⟨g,hg⟩:=mF bs hk;obtain⟨c',h3,h4⟩:=En (hl f g);rw[<-hg] at h3;obtain⟨w,h5,h6⟩:=Wx (WX.wr .u32 (bs.length:Int));have e0:(0:Int)<=0/\(0:Int)<=((32:Nat):Int)/\((32:Nat):Int)<=(32:Nat):=by omega
 have hf: [b,w,bs,c'].flatten.length=b.length+36+k:=by simp;omega
 have hcc:=vP [b,w,bs,c'] (λe=>by rw[e] at hf;rw[zdY] at hf;omega) (by omega) (by simp)
 simp only[gf,hr,zdM,zdQ,zdN,hp,h3,h5,↓xo,ot e0,zdO,pt h4,hcc,ze4];exact⟨_,rfl,by rw[hf];omega,h4⟩
theorem Qw {n:Int}{c:mS}(hn:0<=n/\n<=31)(h:bm WX ((c,()),())=some ((true,()),())): ∃b,gA WX (((2,0,n,c,()),()),())=some ((b,()),()):=by
 simp only[gA,↓xo,oT (n>=0),Int.reduceEq,nk,iF,zdO,zdN,oT (n<32),h,zdM];exact⟨_,rfl⟩
theorem Wz {lg:GC}{m:Nat}{n:Int}{c:mS}(h:yO lg m)(hm:m<=100000000000)(hn:0<=n/\n<=31)(hc:Kv c)(hR:bm WX ((c,()),())=some ((true,()),())): ∃b wW m',gf WX (((),(2,0,n,c,()),()),(lg,()))=some ((b,()),(wW,()))/\yO wW m'/\m'<=m+100:=by
 obtain⟨b,hr⟩:=Qw hn hR;cases b with
 |false=>exact⟨false,lg,m,by simp only[gf,hr,zdM,zdR,zdO],h,by omega⟩
 |true=>
  have key: ∃(k:Nat) (bs:List Int),hZ WX (((2,0,n,c,()),()),())=some (((),()),(bs,()))/\bs.length=k/\zbF k/\k<=64:=by
   obtain⟨kd,sq,td,it,id,sd,od,p,q,sh,st,wh,a,b,tg,⟨⟩⟩:=c;have hk:=hc.kind;simp only at hk;rcases hk with rfl|rfl|rfl|rfl|rfl
   ·obtain⟨bs,b1,b2⟩:=zdo (n:=n) hR;exact⟨38,bs,b1,b2,zdt,by omega⟩
   ·obtain⟨bs,b1,b2⟩:=zdp (n:=n) hR;exact⟨21,bs,b1,b2,zdu,by omega⟩
   ·obtain⟨bs,b1,b2⟩:=zdq (n:=n) hR;exact⟨28,bs,b1,b2,zdv,by omega⟩
   ·obtain⟨bs,b1,b2⟩:=zdr (n:=n) hR;exact⟨17,bs,b1,b2,zdw,by omega⟩
   ·obtain⟨bs,b1,b2⟩:=zds (n:=n) hR;exact⟨18,bs,b1,b2,VZ,by omega⟩
  obtain⟨k,bs,b1,b2,b3,b4⟩:=key;obtain⟨wW,l1,l2⟩:=Wy h hm hr b1 b2 b3 (by omega)
  exact⟨true,wW,_,l1,l2,by omega⟩
def jk (v:V)(i:Nat):wV:=(v.S.getD i (s0,())).1
def lH (F:List xe):Nat:=(F.map λx=>x.1.1.length).sum
theorem wL {v:V}{i f o:Nat}{s:wV}{fr ou:(List Int)×Bool×Unit}(h:mT v i f o s fr ou):jk v i=s:=by
 unfold jk;rw[zd3,h.S];rfl
theorem tO (F G:List xe):lH (F++G)=lH F+lH G:=by unfold lH;rw[zfw,List.sum_append]
theorem G2 {F:List xe}{f:Nat}{x y:xe}(h:F[f]?=some y):lH (F.set f x)+y.1.1.length=lH F+x.1.1.length:=by
 have hf:=(List.getElem?_eq_some_iff.1 h).1;have e1:F=F.take f++ [y]++F.drop (f+1):=by
  have:=zdS hf;rw[h] at this;rw[Option.some.inj this];simp
 have e2:F.set f x=F.take f++ [x]++F.drop (f+1):=by
  rw[zfC,if_pos hf];simp
 rw[e2];have e3:lH F=lH (F.take f)+y.1.1.length+lH (F.drop (f+1)):=by
  conv=>lhs;rw[e1]
  rw[tO,tO];simp[lH]
 rw[e3,tO,tO];have:lH [x]=x.1.1.length:=by simp[lH]
 omega
structure QI (v:V):Prop where
 tre:Fi v.cfg.1 v.tr
 uniq: ∀i j,i<16->j<16->(jk v i).1=3->(jk v j).1=3->(jk v i).2.1=(jk v j).2.1->i=j
 there: ∀i,i<16->(jk v i).1=3->lE v.tr (jk v i).2.1=true
 J1: ∀f:Int,(((List.range 16).countP λi=>decide ((jk v i).1=3/\(iE v.tr (jk v i).2.1).1=f):Nat):Int)<=v.cfg.2.2.2.2.2.2.2.1
theorem Fi.there {a b:List oS}(h:Fi a b)(n:Int):lE b n=lE a n:=by
 unfold lE iE;split
 ·rw[(h.same n.toNat).2.2.1]
 ·rfl
theorem Fi.kp {a b:List oS}(h:Fi a b)(n:Int):(iE b n).1=(iE a n).1:=(h.same n.toNat).1
theorem QI.mono {v v':V}(h:QI v)(hs: ∀j,j<16->(jk v' j).1=3->(jk v j).1=3/\(jk v' j).2.1=(jk v j).2.1)(ht:Fi v.tr v'.tr)(hc:v'.cfg=v.cfg):QI v':=by
 refine⟨by rw[hc];exact h.tre.trans ht,λi j hi hj h1 h2 h3=>?_,λi hi h1=>?_,λf=>?_⟩
 ·obtain⟨a1,a2⟩:=hs i hi h1
  obtain⟨b1,b2⟩:=hs j hj h2;exact h.uniq i j hi hj a1 b1 (by rw[<-a2,<-b2];exact h3)
 ·obtain⟨a1,a2⟩:=hs i hi h1
  rw[ht.there,a2];exact h.there i hi a1
 ·rw[hc]
  have:=List.countP_mono_left (l:=List.range 16) (p:=λi=>decide ((jk v' i).1=3/\(iE v'.tr (jk v' i).2.1).1=f)) (q:=λi=>decide ((jk v i).1=3/\(iE v.tr (jk v i).2.1).1=f)) (λi hi hp=>by
   have hp:=of_decide_eq_true hp;obtain⟨a1,a2⟩:=hs i (List.mem_range.1 hi) hp.1;refine decide_eq_true ⟨a1,?_⟩;rw[<-hp.2,ht.kp,a2])
  have:=h.J1 f;omega
structure VI (P:Nat->V->(Nat->MS)->Prop)(k m:Nat)(v:V)(μ:Nat->MS):Prop where
 ss:SS v μ
 ci:CI v
 mt:v.mt.length=4
 lg:yO v.lg m
 p:P k v μ
 qi:QI v
structure PK (P:Nat->V->(Nat->MS)->Prop):Prop where
 oP: ∀{k v v' μ},P k v μ->v'.op=v.op->v'.ps=v.ps->v'.cfg=v.cfg->P k v' μ
 quiet: ∀{k v μ v' μ'} {x:Int},SS v μ->P k v μ->SS v' μ'->Kept v v'->v'.ps=v.ps->(∀i,μ' i=μ i\/μ' i=(mQ x (μ i)).1)->P k v' μ'
 cmd: ∀{k v μ v' μ'},SS v μ->P k v μ->SS v' μ'->Kept v v'->OA v μ μ' v'.ps->P (k+1) v' μ'
 more: ∀{k v μ},P k v μ->P (k+1) v μ
structure Sm (v v':V):Prop where
 c:v'.c=v.c
 S:v'.S=v.S
 F:v'.F=v.F
 now:v'.now=v.now
 cfg:v'.cfg=v.cfg
 tr:Fi v.tr v'.tr
theorem Sm.jk {v v':V}(h:Sm v v')(i:Nat):jk v' i=jk v i:=by unfold AM.jk;rw[h.S]
theorem Sm.qi {v v':V}(h:Sm v v')(q:QI v):QI v':=q.mono (λj _ h3=>by rw[h.jk] at h3⊢;exact⟨h3,rfl⟩) h.tr h.cfg
theorem Sm.trans {a b c:V}(h:Sm a b)(k:Sm b c):Sm a c:=⟨k.c.trans h.c,k.S.trans h.S,k.F.trans h.F,k.now.trans h.now,k.cfg.trans h.cfg,h.tr.trans k.tr⟩
theorem SS.oP {v v':V}{μ:Nat->MS}(h:SS v μ)(hs:v'.s=v.s):SS v' μ:=by
 obtain⟨c,cfg,now,ph,mp,bp,lp,tr,op,ps,lg,mt,M,L,S,F,O,B⟩:=v;obtain⟨c',zdK,Zo,ph',mp',bp',lp',tr',mU,XL,wW,rA,M',L',S',F',O',B'⟩:=v';simp only[V.s,Prod.mk.injEq] at hs;obtain⟨⟨rfl,rfl,_,rfl,rfl,_,rfl,rfl,_⟩,⟨rfl,_⟩,⟨rfl,rfl,_⟩,rfl,rfl,rfl,_⟩:=hs;exact⟨⟨⟨h.si.qS.mp,h.si.qS.at_⟩,h.si.op,h.si.MQ,h.si.ps⟩,h.tr,h.ph,h.XB,h.bp,h.B,h.lp,h.L,h.now⟩
theorem CI.oP {v v':V}(h:CI v)(hc:v'.c=v.c)(hS:v'.S=v.S)(hF:v'.F=v.F)(hO:v'.O=v.O):CI v':=λi hi=>by
 obtain⟨f,o,s,fr,ou,h1,h2⟩:=h i hi;exact⟨f,o,s,fr,ou,⟨h1.lt,by rw[hc];exact h1.c,by rw[hS];exact h1.S,by rw[hF];exact h1.F,by rw[hO];exact h1.O⟩,h2⟩
theorem M3 {r:Ia}{v v1:V}{b:Bool}{wW:GC}(hci:CI v)(hm:v.mt.length=4)(h1:v1.c=v.c)(h2:v1.S=v.S)(h3:v1.F=v.F)(h4:v1.O=v.O)
  (hd:(∃e,cn WX (((),r,()),v.s)=some (.inl (((),e,()),sE v1 [])))\/∃out,out.length<=80000000/\cn WX (((),r,()),v.s)=some (.inr ((out,0,()),v1.s)))
  (hl:gf WX (((),r,()),(v.lg,()))=some ((b,()),(wW,()))):
  ∃e rA O',bU WX (((),r,()),v.e)=some ((e,()),{v1 with lg:=wW,mt:=rA,O:=O'}.e)/\CI {v1 with lg:=wW,mt:=rA,O:=O'}/\rA.length=4:=by
 obtain⟨rA,q,g3,g4⟩:=tM hm (i:=1) (by omega)
 change aT WX (((),1,1,()),_)=_ at g3;have zbG:CI {v1 with lg:=wW,mt:=rA}:=hci.oP h1 h2 h3 h4;rcases hd with⟨e,hd⟩|⟨out,ho,hd⟩
 ·obtain⟨O',l1,l2⟩:=Cy zbG e [] (by simp)
  refine⟨e,rA,O',?_,l2,g4⟩;simp only[V.s] at hd;simp only[V.e,zdY,zfl] at l1;rw[h1,h2,h3,h4] at l1;simp only[bU,V.e,hd,hl,g3,zdM,↓xl,zdY,zfl,l1,h1,h2,h3]
 ·obtain⟨O',l1,l2⟩:=Cy zbG 0 out ho
  refine⟨0,rA,O',?_,l2,g4⟩;simp only[V.s] at hd;simp only[V.e] at l1;rw[h1,h2,h3,h4] at l1;simp only[bU,V.e,hd,hl,g3,zdM,↓xl,l1,h1,h2,h3]
section
variable {P:Nat->V->(Nat->MS)->Prop}{k m:Nat}{v:V}{μ:Nat->MS}
theorem TO (pk:PK P)(h:VI P k m v μ)(hm:m<=100000000000){d:Int}(hd:d=3\/d=4\/d=5){n:Int}(hn:0<=n/\n<=31): ∃e v' μ',bU WX (((),(d,0,n,C0,()),()),v.e)=some ((e,()),v'.e)/\VI P k (m+46) v' μ'/\Sm v v':=by
 obtain⟨v1,μ',x,s1,s2,s3,s4,s5⟩:=TL h.ss n d hd;obtain⟨wW,l1,l2⟩:=Iq h.lg hm (N6 hd hn.1 (by omega))
 have e1:v1.c=v.c:=by rw[s2.eq]
 have e2:v1.S=v.S:=by rw[s2.eq]
 have e3:v1.F=v.F:=by rw[s2.eq]
 have e4:v1.O=v.O:=by rw[s2.eq]
 have e5:v1.now=v.now:=by rw[s2.eq]
 have e6:v1.cfg=v.cfg:=by rw[s2.eq]
 obtain⟨e,rA,O',r1,r2,r3⟩:=M3 h.ci h.mt e1 e2 e3 e4 s5 l1;have sm:Sm v {v1 with lg:=wW,mt:=rA,O:=O'}:=⟨e1,e2,e3,e5,e6,s2.tr⟩;exact⟨e,_,μ',r1,⟨s1.oP (by rfl),r2,r3,l2,pk.oP (pk.quiet h.ss h.p s1 s2 s3 s4) (by rfl) (by rfl) (by rfl),sm.qi h.qi⟩,sm⟩
theorem zbH (pk:PK P)(h:VI P k m v μ)(hm:m<=100000000000){n:Int}(hn:0<=n/\n<=31){c:mS}(hc:Kv c)(hR:bm WX ((c,()),())=some ((true,()),()))(hT:iB WX ((c,()),())=some ((true,()),())): ∃e v' μ' m',bU WX (((),(2,0,n,c,()),()),v.e)=some ((e,()),v'.e)/\VI P (k+1) m' v' μ'/\m'<=m+100/\Sm v v':=by
 obtain⟨v1,μ',s1,s2,s3,s5⟩:=ZW h.ss n hc hT;obtain⟨b,wW,m',l1,l2,l3⟩:=Wz h.lg hm hn hc hR;have e1:v1.c=v.c:=by rw[s2.eq]
 have e2:v1.S=v.S:=by rw[s2.eq]
 have e3:v1.F=v.F:=by rw[s2.eq]
 have e4:v1.O=v.O:=by rw[s2.eq]
 have e5:v1.now=v.now:=by rw[s2.eq]
 have e6:v1.cfg=v.cfg:=by rw[s2.eq]
 obtain⟨e,rA,O',r1,r2,r3⟩:=M3 h.ci h.mt e1 e2 e3 e4 s5 l1;have sm:Sm v {v1 with lg:=wW,mt:=rA,O:=O'}:=⟨e1,e2,e3,e5,e6,s2.tr⟩;exact⟨e,_,μ',m',r1,⟨s1.oP (by rfl),r2,r3,l2,pk.oP (pk.cmd h.ss h.p s1 s2 s3) (by rfl) (by rfl) (by rfl),sm.qi h.qi⟩,l3,sm⟩
end
structure Ev (i:Nat)(v v':V):Prop where
 now:v'.now=v.now
 cfg:v'.cfg=v.cfg
 left:lH v'.F=lH v.F
 jk: ∀j,j<16->jk v' j=jk v j\/(jk v' j).1=0\/(j=i/\(jk v' j).2.2.2.2.1=v.now)
theorem Ev.rfl (i:Nat)(v:V):Ev i v v:=⟨Eq.refl _,Eq.refl _,Eq.refl _,λ_ _=> .inl (Eq.refl _)⟩
theorem Ev.trans {i:Nat}{a b c:V}(h:Ev i a b)(k:Ev i b c):Ev i a c:=⟨k.now.trans h.now,k.cfg.trans h.cfg,k.left.trans h.left,λj hj=>by
 rcases k.jk j hj with e|e|⟨e1,e2⟩
 ·rw[e];exact h.jk j hj
 ·exact .inr (.inl e)
 ·exact .inr (.inr ⟨e1,by rw[e2,h.now]⟩)⟩
structure Dw (v v':V):Prop where
 now:v'.now=v.now
 cfg:v'.cfg=v.cfg
 left:lH v'.F=lH v.F
 jk: ∀j,j<16->jk v' j=jk v j\/(jk v' j).1=0
theorem Dw.rfl (v:V):Dw v v:=⟨Eq.refl _,Eq.refl _,Eq.refl _,λ_ _=> .inl (Eq.refl _)⟩
theorem Dw.trans {a b c:V}(h:Dw a b)(k:Dw b c):Dw a c:=⟨k.now.trans h.now,k.cfg.trans h.cfg,k.left.trans h.left,λj hj=>by
 rcases k.jk j hj with e|e
 ·rw[e];exact h.jk j hj
 ·exact .inr e⟩
theorem Dw.ev {v v':V}(h:Dw v v')(i:Nat):Ev i v v':=⟨h.now,h.cfg,h.left,λj hj=>by
 rcases h.jk j hj with e|e
 ·exact .inl e
 ·exact .inr (.inl e)⟩
theorem Sm.dw {v v':V}(h:Sm v v'):Dw v v':=⟨h.now,h.cfg,by rw[h.F],λj _=> .inl (h.jk j)⟩
theorem AL {v:V}{i f o:Nat}{s:wV}{fr ou:(List Int)×Bool×Unit}(h:mT v i f o s fr ou){S':List Ar}{x:wV}(hS:S'=v.S.set i (x,()))(j:Nat):(S'.getD j (s0,())).1=if j=i then x else jk v j:=by
 subst hS;have hl:=(List.getElem?_eq_some_iff.1 h.S).1;unfold jk;simp only[zd3,zfj];by_cases e:i=j
 ·subst e;rw[if_pos rfl,if_pos hl,if_pos rfl];rfl
 ·rw[if_neg e,if_neg (λq=>e q.symm)]
section
variable {P:Nat->V->(Nat->MS)->Prop}{k m:Nat}{v:V}{μ:Nat->MS}{i:Nat}
theorem Kw (pk:PK P)(h:VI P k m v μ)(hi:i<16): ∃v',bI WX (((),(i:Int),()),v.e)=some ((),v'.e)/\VI P k m v' μ/\Dw v v'/\jk v' i=s0/\(∀j,j≠i->jk v' j=jk v j)/\v'.tr=v.tr:=by
 obtain⟨f,o,s,fr,ou,hc,mh⟩:=h.ci i hi;obtain⟨rA,h1,h2⟩:=Zq hc h.mt;have hs:=λj=>AL hc (x:=s0) rfl j;have hdw:Dw v {v with c:=v.c.set i (i+1,v.F.length+1,o+1,()),mt:=rA,S:=v.S.set i (s0,()),F:=v.F++ [(([],false,()),())]}:=⟨rfl,rfl,by rw[tO];rfl,λj _=>by
  show(((v.S.set i (s0,())).getD j (s0,())).1=_)\/((v.S.set i (s0,())).getD j (s0,())).1.1=0
  rw[hs];split
  ·exact .inr rfl
  ·exact .inl rfl⟩
 have hsi:((v.S.set i (s0,())).getD i (s0,())).1=s0:=by rw[hs,if_pos rfl]
 have hsj: ∀j,j≠i->((v.S.set i (s0,())).getD j (s0,())).1=jk v j:=λj hj=>by rw[hs,if_neg hj]
 refine⟨_,h1,⟨h.ss.oP (by rfl),λj hj=>?_,h2,h.lg,pk.oP h.p (by rfl) (by rfl) (by rfl),h.qi.mono (λj hj h3=>?_) .rfl (by rfl)⟩,hdw,hsi,hsj,rfl⟩
 ·by_cases e:j=i
  ·subst e
   exact⟨v.F.length,o,s0,([],false,()),ou,⟨hi,ko hc.c,ko hc.S,by simp,hc.O⟩,⟨mh.out,by simp[s0], .inl rfl,by simp[s0]⟩⟩
  ·obtain⟨f',o',s',wD,Is,c1,c2⟩:=h.ci j hj
   obtain⟨d1,d2,d3,d4,d5⟩:=mT.other c1 e (i+1,v.F.length+1,o+1,()) (s0,()) [(([],false,()),())];exact⟨f',o',s',wD,Is,⟨d1,d2,d3,d4,d5⟩,c2⟩
 ·by_cases e:j=i
  ·subst e
   change ((v.S.set j (s0,())).getD j (s0,())).1.1=3 at h3;rw[hsi] at h3;cases h3
  ·change ((v.S.set i (s0,())).getD j (s0,())).1.1=3 at h3
   rw[hsj j e] at h3;refine⟨h3,?_⟩;show((v.S.set i (s0,())).getD j (s0,())).1.2.1=_
   rw[hsj j e]
theorem qe (pk:PK P)(h:VI P k m v μ)(hm:m<=100000000000)(hi:i<16): ∃v' μ' m',bq WX (((),(i:Int),()),v.e)=some ((),v'.e)/\VI P k m' v' μ'/\m'<=m+46/\Dw v v'/\(jk v' i).1=0/\(∀j,j≠i->jk v' j=jk v j)/\Fi v.tr v'.tr:=by
 obtain⟨f,o,s,fr,ou,hc,mh⟩:=h.ci i hi;have KH:=wL hc;by_cases h0:s.1=0
 ·have e2: ¬s.1=2:=by omega
  have e3: ¬s.1=3:=by omega
  refine⟨v,μ,m,?_,h,by omega, .rfl v,by rw[KH];exact h0,λj _=>rfl, .rfl⟩
  simp only[bq,V.e,↓xo,ot (lr hi),zdO,zdP,hc.c,zdM,an,hc.S,aj,aA,bg e2,bg e3,ot h0,zdN,aJ hc.S]
 ·obtain⟨v1,f1,f2,f3,f4,f5,f6⟩:=Kw pk h hi
  by_cases h3:s.1=3
  ·obtain⟨e,v2,μ',r1,r2,r3⟩:=TO pk f2 hm (d:=5) (.inr (.inr rfl)) mh.qy
   have e2: ¬s.1=2:=by omega
   refine⟨v2,μ',m+46,?_,r2,by omega,f3.trans r3.dw,by rw[r3.jk,f4];rfl,λj hj=>by rw[r3.jk,f5 j hj],by rw[<-f6];exact r3.tr⟩
   simp only[V.e] at f1 r1;simp only[bq,V.e,↓xo,ot (lr hi),zdO,zdP,hc.c,zdM,an,hc.S,aj,aA,bg e2,ot h3,bg h0,zdN,aJ hc.S,f1,r1]
  ·refine⟨v1,μ,m,?_,f2,by omega,f3,by rw[f4];rfl,f5,by rw[f6];exact .rfl⟩
   simp only[V.e] at f1;by_cases h2:s.1=2
   ·simp only[bq,V.e,↓xo,ot (lr hi),zdO,zdP,hc.c,zdM,an,hc.S,aj,aA,ot h2,bg h3,bg h0,zdN,aJ hc.S,f1]
   ·simp only[bq,V.e,↓xo,ot (lr hi),zdO,zdP,hc.c,zdM,an,hc.S,aj,aA,bg h2,bg h3,bg h0,zdN,aJ hc.S,f1]
theorem Kx (h:CI v): ∃r:Int,eY WX (((),()),v.e)=some ((r,()),v.e)/\(r= -1\/∃i:Nat,i<16/\r=(i:Int)/\(jk v i).1≠0):=by
 have key:=rD (b:=bY WX) (λk l=> ∃j:Nat,j<=16/\k=16-j/\l=((v.c,(j:Int),()),v.S,v.F,v.O,())) (λr=>(∃j:Nat,j<16/\(jk v j).1≠0/\r= .inl (((j:Int),()),v.S,v.F,v.O,()))\/r= .inr ((),v.S,v.F,v.O,())) (λk l hl=>by
  obtain⟨j,hj,rfl,rfl⟩:=hl;by_cases hc:j<16
  ·obtain⟨f,o,s,fr,ou,c1,c2⟩:=h j hc
   have e1:=lG hc (by omega)
   have hs:=wL c1;by_cases h0:s.1=0
   ·exact .inl ⟨((v.c,((j+1:Nat):Int),()),v.S,v.F,v.O,()),by simp only[bY,↓xo,xw,oT ((j:Int)<16),ot (lr hc),zdO,zdM,zdP,c1.c,an,c1.S,aj,ot h0,zdQ,zdN,aJ c1.S,e1],16-(j+1),by omega,j+1,by omega,rfl,rfl⟩
   ·cases ho:ou.2.1 with
    |true=>exact .inr ⟨.inl (((j:Int),()),v.S,v.F,v.O,()),by simp only[bY,↓xo,xw,oT ((j:Int)<16),ot (lr hc),zdO,zdM,zdP,c1.c,an,c1.S,aj,bg h0,zdR,aJ c1.S,c1.O,jO,ho,aJ c1.O], .inl ⟨j,hc,by rw[hs];exact h0,rfl⟩⟩
    |false=>exact .inl ⟨((v.c,((j+1:Nat):Int),()),v.S,v.F,v.O,()),by simp only[bY,↓xo,xw,oT ((j:Int)<16),ot (lr hc),zdO,zdM,zdP,c1.c,an,c1.S,aj,bg h0,zdR,zdN,aJ c1.S,c1.O,jO,ho,aJ c1.O,e1],16-(j+1),by omega,j+1,by omega,rfl,rfl⟩
  ·obtain rfl:j=16:=by omega
   exact .inr ⟨.inr ((),v.S,v.F,v.O,()),by simp only[bY,↓xo,oF (((16:Nat):Int)<16),zdN], .inr rfl⟩)
 obtain⟨r,h1,h2⟩:=key 16 ((v.c,0,()),v.S,v.F,v.O,()) ⟨0,by omega,by omega,rfl⟩
 rcases h2 with⟨j,hj,hn,rfl⟩|rfl
 ·exact⟨(j:Int),by simp only[eY,V.e,↓xl,h1,zdM], .inr ⟨j,hj,rfl,hn⟩⟩
 ·exact⟨-1,by simp only[eY,V.e,↓xl,h1,zdM], .inl rfl⟩
def busy (v:V):Nat:=(List.range 16).countP λi=>!decide ((jk v i).1=0)
theorem Qx {v v':V}(hi:i<16)(h0:(jk v i).1≠0)(h1:(jk v' i).1=0)(h2: ∀j,j≠i->jk v' j=jk v j):busy v'<busy v:=by
 have key: ∀l:List Nat,(l.countP λi=>!decide ((jk v' i).1=0))+(if i∈l then 1 else 0)<=l.countP λi=>!decide ((jk v i).1=0):=by
  intro l;induction l with
  |nil=>simp
  |cons x l ih=>
   rw[List.countP_cons,List.countP_cons];by_cases e:x=i
   ·subst e
    have a1:(!decide ((jk v' x).1=0))=false:=by rw[decide_eq_true h1];rfl
    have a2:(!decide ((jk v x).1=0))=true:=by rw[decide_eq_false h0];rfl
    simp only[a1,a2,zex,true_or,if_true,zdU,if_false];split at ih<;>omega
   ·rw[h2 x e]
    have:(i∈x::l)↔i∈l:=by simp[Ne.symm e]
    simp only[this];omega
 have:=key (List.range 16);rw[if_pos (List.mem_range.2 hi)] at this;unfold busy;omega
theorem WA (v:V):busy v<=16:=by
 have:=List.countP_le_length (p:=λi=>!decide ((jk v i).1=0)) (l:=List.range 16);rw[List.length_range] at this;exact this
theorem yw (pk:PK P)(h:VI P k m v μ)(hm:m<=90000000000): ∃v' μ' m',cg WX (((),()),v.e)=some ((),v'.e)/\VI P k m' v' μ'/\m'<=m+736/\Dw v v'/\Fi v.tr v'.tr:=by
 obtain⟨r,o1,o2⟩:=Kx h.ci;have key:=rD (b:=cX WX) (λn l=> ∃(r:Int) (v1:V) (μ1:Nat->MS) (m1:Nat),l=(((),r,()),v1.e)/\VI P k m1 v1 μ1/\m1+46*n<=m+736/\Dw v v1/\Fi v.tr v1.tr/\n=busy v1/\(r= -1\/∃i:Nat,i<16/\r=(i:Int)/\(jk v1 i).1≠0)) (λq=> ∃(v1:V) (μ1:Nat->MS) (m1:Nat),q=((),v1.e)/\VI P k m1 v1 μ1/\m1<=m+736/\Dw v v1/\Fi v.tr v1.tr) (λn l hl=>by
  obtain⟨r,v1,μ1,m1,rfl,i1,i2,i3,i4,i5,i6⟩:=hl;rcases i6 with rfl|⟨i,hi,rfl,hn⟩
  ·exact .inr ⟨_,by simp only[cX,↓xo,oF ((-1:Int)>=0),zdN],v1,μ1,m1,rfl,i1,by omega,i3,i4⟩
  ·obtain⟨v2,μ2,m2,d1,d2,d3,d4,d5,d6,d7⟩:=qe pk i1 (by omega) hi
   have hb:=Qx hi hn d5 d6;obtain⟨r',p1,p2⟩:=Kx d2.ci;exact .inl ⟨_,by simp only[cX,↓xo,oT ((i:Int)>=0),zdO,d1,zdM,p1],busy v2,by omega,r',v2,μ2,m2,rfl,d2,by omega,i3.trans d4,i4.trans d7,rfl,p2⟩)
 obtain⟨q,h1,v1,μ1,m1,rfl,h2,h3,h4,h5⟩:=key (busy v) (((),r,()),v.e) ⟨r,v,μ,m,rfl,h,by have:=WA v;omega, .rfl v, .rfl,rfl,o2⟩
 exact⟨v1,μ1,m1,by simp only[cg,o1,zdM,↓xl,h1],h2,h3,h4,h5⟩
theorem uS (pk:PK P)(h:VI P k m v μ)(hi:i<16)(sq er:Int): ∃v',dP WX (((),(i:Int),sq,er,()),v.e)=some ((),v'.e)/\VI P k m v' μ/\Sm v v':=by
 obtain⟨rA,r,h3,h4⟩:=tM h.mt (i:=2) (by omega)
 change aT WX (((),2,1,()),_)=_ at h3;obtain⟨O',n1,n2⟩:=EU (v:={v with mt:=rA}) (h.ci.oP rfl rfl rfl rfl) hi (Qv er sq);have sm:Sm v {v with mt:=rA,O:=O'}:=⟨rfl,rfl,rfl,rfl,rfl, .rfl⟩;refine⟨_,?_,⟨h.ss.oP (by rfl),n2,h4,h.lg,pk.oP h.p (by rfl) (by rfl) (by rfl),sm.qi h.qi⟩,sm⟩
 simp only[V.e] at n1;simp only[dP,V.e,h3,zdM,n1]
theorem AN (pk:PK P)(h:VI P k m v μ)(hi:i<16){n:mf}(hn:NS n): ∃v',cd WX (((),(i:Int),n,()),v.e)=some ((),v'.e)/\VI P k m v' μ/\Sm v v':=by
 obtain⟨O',n1,n2⟩:=EU h.ci hi hn;have sm:Sm v {v with O:=O'}:=⟨rfl,rfl,rfl,rfl,rfl, .rfl⟩;exact⟨_,n1,⟨h.ss.oP (by rfl),n2,h.mt,h.lg,pk.oP h.p (by rfl) (by rfl) (by rfl),sm.qi h.qi⟩,sm⟩
end
structure XE (v:V)(n:Int):Prop where
 there:lE v.tr n=true
 alone: ∀j,j<16->(jk v j).1=3->(jk v j).2.1≠n
 room:(((List.range 16).countP λi=>decide ((jk v i).1=3/\(iE v.tr (jk v i).2.1).1=(iE v.tr n).1):Nat):Int)<v.cfg.2.2.2.2.2.2.2.1
section
variable {P:Nat->V->(Nat->MS)->Prop}{k m:Nat}{v:V}{μ:Nat->MS}{i:Nat}
theorem M4 (h:SS v μ){n:Int}(hn:0<=n/\n<=31): ∃b,dA WX (((),n,()),v.s)=some ((b,()),v.s):=by
 have l1:=h.lp n.toNat (by omega)
 obtain⟨l,l2⟩:=h.L n.toNat (by omega)
 exact⟨oB l v.now,by simp only[dA,kH,V.s,↓xo,oT (n>=0),oT (n<32),ot (Cx hn),zdO,zdM,l1,an,l2,qH,aJ l2]⟩
theorem EW {tr:List oS}{n:Int}(h:lE tr n=true):vk tr n=iE tr n:=by unfold vk;rw[if_pos h]
theorem TP (h:VI P k m v μ){n:Int}(hn:lE v.tr n=true):(ag (bD WX) (((),n,(),0,v.c,0,()),v.e)=some (.inl ((5,()),v.e)))\/(ag (bD WX) (((),n,(),0,v.c,0,()),v.e)=some (.inr (((),((((List.range 16).countP λi=>decide ((jk v i).1=3/\(iE v.tr (jk v i).2.1).1=(iE v.tr n).1):Nat)):Int),()),v.e))/\∀j,j<16->(jk v j).1=3->(jk v j).2.1≠n):=by
 have key:=rD (b:=bD WX) (λq l=> ∃j:Nat,j<=16/\q=16-j/\l=(((),n,(),((((List.range j).countP λi=>decide ((jk v i).1=3/\(iE v.tr (jk v i).2.1).1=(iE v.tr n).1):Nat)):Int),v.c,(j:Int),()),v.e)/\∀j',j'<j->(jk v j').1=3->(jk v j').2.1≠n)
  (λr=>r= .inl ((5,()),v.e)\/(r= .inr (((),((((List.range 16).countP λi=>decide ((jk v i).1=3/\(iE v.tr (jk v i).2.1).1=(iE v.tr n).1):Nat)):Int),()),v.e)/\∀j,j<16->(jk v j).1=3->(jk v j).2.1≠n)) (λq l hl=>by
  obtain⟨j,hj,rfl,rfl,v8⟩:=hl;by_cases hc:j<16
  ·obtain⟨f,o,s,fr,ou,c1,c2⟩:=h.ci j hc
   have e1:=lG hc (by omega)
   have hs:=wL c1;have FB:=List.countP_le_length (p:=λi=>decide ((jk v i).1=3/\(iE v.tr (jk v i).2.1).1=(iE v.tr n).1)) (l:=List.range j);rw[List.length_range] at FB;have OF:(List.range (j+1)).countP (λi=>decide ((jk v i).1=3/\(iE v.tr (jk v i).2.1).1=(iE v.tr n).1))=(List.range j).countP (λi=>decide ((jk v i).1=3/\(iE v.tr (jk v i).2.1).1=(iE v.tr n).1))+(if s.1=3/\(iE v.tr s.2.1).1=(iE v.tr n).1 then 1 else 0):=by
    rw[List.range_succ,List.countP_append,List.countP_cons,List.countP_nil];simp only[hs,zd1,zeC]
   have t1:=oe h.ss.tr n;rw[EW hn] at t1;by_cases h3:s.1=3
   ·have e2: ¬s.1=2:=by omega
    have t2:=oe h.ss.tr s.2.1;have hth:=h.qi.there j hc (by rw[hs];exact h3)
    rw[hs] at hth;rw[EW hth] at t2;by_cases h4:s.2.1=n
    ·exact .inr ⟨.inl ((5,()),v.e),by simp only[bD,V.e,↓xo,xw,oT ((j:Int)<16),ot (lr hc),zdO,zdM,zdP,c1.c,an,c1.S,aj,aA,ot h3,bg e2,zdQ,zdN,aJ c1.S,ot h4], .inl rfl⟩
    ·by_cases h5:(iE v.tr s.2.1).1=(iE v.tr n).1
     ·rw[if_pos ⟨h3,h5⟩] at OF
      have e3:i64.wrap ((((List.range j).countP λi=>decide ((jk v i).1=3/\(iE v.tr (jk v i).2.1).1=(iE v.tr n).1):Nat):Int)+1)=(((List.range (j+1)).countP λi=>decide ((jk v i).1=3/\(iE v.tr (jk v i).2.1).1=(iE v.tr n).1):Nat):Int):=by
       rw[nR (by omega) (by omega),OF];omega
      exact .inl ⟨_,by simp only[bD,V.e,↓xo,xw,oT ((j:Int)<16),ot (lr hc),zdO,zdM,zdP,c1.c,an,c1.S,aj,aA,ot h3,bg e2,zdQ,zdN,aJ c1.S,bg h4,t1,t2,ot h5,e1,e3],16-(j+1),by omega,j+1,by omega,rfl,rfl,λj' BU h'=>by
       by_cases e:j'=j
       ·subst e;rw[hs];exact h4
       ·exact v8 j' (by omega) h'⟩
     ·have Xx:(List.range (j+1)).countP (λi=>decide ((jk v i).1=3/\(iE v.tr (jk v i).2.1).1=(iE v.tr n).1))=(List.range j).countP (λi=>decide ((jk v i).1=3/\(iE v.tr (jk v i).2.1).1=(iE v.tr n).1)):=by rw[OF,if_neg (λq=>h5 q.2)];rfl
      exact .inl ⟨_,by simp only[bD,V.e,↓xo,xw,oT ((j:Int)<16),ot (lr hc),zdO,zdM,zdP,c1.c,an,c1.S,aj,aA,ot h3,bg e2,zdQ,zdN,aJ c1.S,bg h4,t1,t2,bg h5,e1,Xx],16-(j+1),by omega,j+1,by omega,rfl,rfl,λj' BU h'=>by
       by_cases e:j'=j
       ·subst e;rw[hs];exact h4
       ·exact v8 j' (by omega) h'⟩
   ·have Xx:(List.range (j+1)).countP (λi=>decide ((jk v i).1=3/\(iE v.tr (jk v i).2.1).1=(iE v.tr n).1))=(List.range j).countP (λi=>decide ((jk v i).1=3/\(iE v.tr (jk v i).2.1).1=(iE v.tr n).1)):=by rw[OF,if_neg (λq=>h3 q.1)];rfl
    exact .inl ⟨_,by simp only[bD,V.e,↓xo,xw,oT ((j:Int)<16),ot (lr hc),zdO,zdM,zdP,c1.c,an,c1.S,aj,bg h3,zdR,aJ c1.S,e1,Xx],16-(j+1),by omega,j+1,by omega,rfl,rfl,λj' BU h'=>by
     by_cases e:j'=j
     ·subst e;rw[hs] at h';exact absurd h' h3
     ·exact v8 j' (by omega) h'⟩
  ·obtain rfl:j=16:=by omega
   exact .inr ⟨_,by simp only[bD,↓xo,oF (((16:Nat):Int)<16),zdN], .inr ⟨rfl,v8⟩⟩)
 obtain⟨r,h1,h2⟩:=key 16 (((),n,(),0,v.c,0,()),v.e) ⟨0,by omega,by omega,rfl,λj hj=>by omega⟩
 rcases h2 with rfl|⟨rfl,h2⟩
 ·exact .inl h1
 ·exact .inr ⟨h1,h2⟩
theorem TQ (h:VI P k m v μ)(n:Int): ∃e,eO WX (((),n,()),v.e)=some ((e,()),v.e)/\(e=0->XE v n):=by
 have h1:=oJ h.ss.tr n;cases ht:lE v.tr n with
 |false=>
  rw[ht] at h1;exact⟨16,by simp only[eO,V.e,c8,zdM,h1,zdR,zdO],λq=>by omega⟩
 |true=>
  rw[ht] at h1;have hn:=qL ht;obtain⟨b,h2⟩:=M4 h.ss hn;have h3:=oe h.ss.tr n;simp only[V.s] at h2;cases b with
  |true=>exact⟨15,by simp only[eO,V.e,c8,zdM,h1,h2,zdQ,zdN,zdO],λq=>by omega⟩
  |false=>
   cases ho:(vk v.tr n).2.2.2.2.1 with
   |true=>exact⟨7,by simp only[eO,V.e,c8,zdM,h1,h2,h3,ho,zdQ,zdN,zdO],λq=>by omega⟩
   |false=>
    rcases TP h ht with hl|⟨hl,v8⟩
    ·simp only[V.e] at hl
     exact⟨5,by simp only[eO,V.e,c8,zdM,h1,h2,h3,ho,zdQ,zdN,↓xl,hl],λq=>by omega⟩
    ·simp only[V.e] at hl
     by_cases hq:(((List.range 16).countP λi=>decide ((jk v i).1=3/\(iE v.tr (jk v i).2.1).1=(iE v.tr n).1):Nat):Int)>=v.cfg.2.2.2.2.2.2.2.1
     ·exact⟨4,by simp only[eO,V.e,c8,zdM,h1,h2,h3,ho,zdQ,zdN,↓xl,hl,dS,↓xo,ot hq,zdO],λq=>by omega⟩
     ·exact⟨0,by simp only[eO,V.e,c8,zdM,h1,h2,h3,ho,zdQ,zdN,↓xl,hl,dS,↓xo,bg hq],λ_=>⟨ht,v8,by omega⟩⟩
theorem EX (pk:PK P)(h:VI P k m v μ){f o:Nat}{s:wV}{fr ou:(List Int)×Bool×Unit}(hc:mT v i f o s fr ou){s':wV}(mh:zbE s' ou)(hq:QI {v with S:=v.S.set i (s',())}):VI P k m {v with S:=v.S.set i (s',())} μ:=by
 refine⟨h.ss.oP (by rfl),λj hj=>?_,h.mt,h.lg,pk.oP h.p (by rfl) (by rfl) (by rfl),hq⟩
 by_cases e:j=i
 ·subst e
  exact⟨f,o,s',fr,ou,hc.jk s',mh⟩
 ·obtain⟨f',o',s2,wD,Is,h1,h2⟩:=h.ci j hj
  exact⟨f',o',s2,wD,Is,⟨h1.lt,h1.c,by show(v.S.set i _)[j]?=_;rw[kL e];exact h1.S,h1.F,h1.O⟩,h2⟩
theorem IN (h:QI v){f o:Nat}{s:wV}{fr ou:(List Int)×Bool×Unit}(hc:mT v i f o s fr ou){s':wV}(hs:s'.1=3->s.1=3/\s'.2.1=s.2.1):QI {v with S:=v.S.set i (s',())}:=by
 have KH:=wL hc;refine h.mono (λj hj h3=>?_) .rfl (by rfl)
 have e:=AL hc (x:=s') rfl j;change ((v.S.set i (s',())).getD j (s0,())).1.1=3 at h3;show(jk v j).1=3/\((v.S.set i (s',())).getD j (s0,())).1.2.1=(jk v j).2.1
 rw[e] at h3⊢;by_cases q:j=i
 ·subst q
  rw[if_pos rfl] at h3⊢;rw[KH];exact hs h3
 ·rw[if_neg q] at h3⊢;exact⟨h3,rfl⟩
theorem zbI (h:QI v){f o:Nat}{s:wV}{fr ou:(List Int)×Bool×Unit}(hc:mT v i f o s fr ou)(h2:s.1≠3){s':wV}(h3:s'.1=3)(hm:XE v s'.2.1):QI {v with S:=v.S.set i (s',())}:=by
 have KH:=wL hc;have es: ∀j,jk {v with S:=v.S.set i (s',())} j=if j=i then s' else jk v j:=λj=>AL hc (x:=s') rfl j
 refine⟨h.tre,λa b ha hb h1 h2 h4=>?_,λa ha h1=>?_,λfm=>?_⟩
 ·rw[es] at h1 h4
  rw[es] at h2 h4;by_cases qa:a=i
  ·by_cases qb:b=i
   ·rw[qa,qb]
   ·rw[if_pos qa,if_neg qb] at h4
    rw[if_neg qb] at h2;exact absurd h4.symm (hm.alone b hb h2)
  ·by_cases qb:b=i
   ·rw[if_neg qa,if_pos qb] at h4
    rw[if_neg qa] at h1;exact absurd h4 (hm.alone a ha h1)
   ·rw[if_neg qa,if_neg qb] at h4
    rw[if_neg qa] at h1;rw[if_neg qb] at h2;exact h.uniq a b ha hb h1 h2 h4
 ·rw[es] at h1⊢
  by_cases qa:a=i
  ·rw[if_pos qa];exact hm.there
  ·rw[if_neg qa] at h1⊢;exact h.there a ha h1
 ·show(((List.range 16).countP λi_1=>decide ((jk {v with S:=v.S.set i (s',())} i_1).1=3/\(iE v.tr (jk {v with S:=v.S.set i (s',())} i_1).2.1).1=fm):Nat):Int)<=v.cfg.2.2.2.2.2.2.2.1
  simp only[es];by_cases hf:(iE v.tr s'.2.1).1=fm
  ·have key: ∀l:List Nat,l.Nodup->l.countP (λj=>decide ((if j=i then s' else jk v j).1=3/\(iE v.tr (if j=i then s' else jk v j).2.1).1=fm))<=l.countP (λj=>decide ((jk v j).1=3/\(iE v.tr (jk v j).2.1).1=fm))+(if i∈l then 1 else 0):=by
    intro l hl;induction l with
    |nil=>simp
    |cons x l ih=>
     obtain⟨n1,n2⟩:=List.nodup_cons.1 hl;have:=ih n2;rw[List.countP_cons,List.countP_cons];by_cases e:x=i
     ·subst e
      rw[if_neg n1] at this;rw[if_pos (zd0 ..)];split<;>split<;>omega
     ·have ZS:(i∈x::l)↔i∈l:=by simp[Ne.symm e]
      simp only[ZS,if_neg e];omega
   have:=key (List.range 16) List.nodup_range;have h6:=hm.room;rw[hf] at h6;split at this<;>omega
  ·have:=List.countP_mono_left (l:=List.range 16) (p:=λj=>decide ((if j=i then s' else jk v j).1=3/\(iE v.tr (if j=i then s' else jk v j).2.1).1=fm)) (q:=λj=>decide ((jk v j).1=3/\(iE v.tr (jk v j).2.1).1=fm)) (λj hj hp=>by
    have hp:=of_decide_eq_true hp;by_cases e:j=i
    ·rw[if_pos e] at hp;exact absurd hp.2 hf
    ·rw[if_neg e] at hp;exact decide_eq_true hp)
   have:=h.J1 fm;omega
theorem EY {f o:Nat}{s:wV}{fr ou:(List Int)×Bool×Unit}(hc:mT v i f o s fr ou){s':wV}(hs:s'.1=0\/s'.2.2.2.2.1=v.now):Ev i v {v with S:=v.S.set i (s',())}:=⟨rfl,rfl,rfl,λj hj=>by
 show(((v.S.set i (s',())).getD j (s0,())).1=_)\/((v.S.set i (s',())).getD j (s0,())).1.1=0\/_/\((v.S.set i (s',())).getD j (s0,())).1.2.2.2.2.1=_
 rw[AL hc rfl j];by_cases e:j=i
 ·rw[if_pos e]
  rcases hs with hs|hs
  ·exact .inr (.inl hs)
  ·exact .inr (.inr ⟨e,hs⟩)
 ·rw[if_neg e];exact .inl rfl⟩
theorem Qy {a b:List Int}(ha:a.length=32)(hb:b.length=32): ∃r,jV WX ((a,b,()),())=some ((r,()),()):=by
 obtain⟨CO,h1,_⟩:=zt a b ha hb 32 0 (by omega) 0#8
 change ag (gP WX) (((),(),0,0,()),a,b,())=_ at h1;exact⟨WX.aa (((CO.toNat:Nat):Int)=0),by simp only[jV,↓xl,h1,zdM]⟩
theorem M5 (pk:PK P)(h:VI P k m v μ)(hm:m<=90000000000)(hi:i<16){tag:List Int}(zdx:tag.length=32): ∃v' μ' m',cO WX (((),(i:Int),tag,()),v.e)=some ((),v'.e)/\VI P k m' v' μ'/\m'<=m+100/\Ev i v v':=by
 obtain⟨f,o,s,fr,ou,hc,mh⟩:=h.ci i hi;by_cases h2:s.1=2
 ·obtain⟨e,y1,y2⟩:=TQ h s.2.1
  by_cases he:e=0
  ·subst he
   have lT:=y2 rfl;have ht:=oe h.ss.tr s.2.1;have yA:=TA h.ss.tr s.2.1;obtain⟨FR,t1,t2⟩:=Mu yA mh.rB;obtain⟨b,t3⟩:=Qy zdx t2;have JZ:=SJ yA mh.rB t1 t3 s.2.1 s.2.2.2.1 s.2.2.2.2.1 v.now;have hs:(2,s.2.1,s.2.2.1,s.2.2.2.1,s.2.2.2.2.1,())=s:=by rw[<-h2]
   rw[hs] at JZ;simp only[V.e] at y1;cases b with
   |true=>
    simp only[if_true] at JZ;have v1:=EX pk h hc (s':=(3,s.2.1,gM,1,v.now,())) ⟨mh.out,by simp,by simp,mh.qy⟩ (zbI h.qi hc (by omega) rfl lT)
    have ev:=EY hc (s':=(3,s.2.1,gM,1,v.now,())) (.inr rfl);obtain⟨e',v2,μ',r1,r2,r3⟩:=TO pk v1 (by omega) (d:=4) (.inr (.inl rfl)) mh.qy
    obtain⟨v3,w1,w2,w3⟩:=AN pk r2 hi MX;refine⟨v3,μ',m+46,?_,w2,by omega,ev.trans ((r3.trans w3).dw.ev i)⟩
    simp only[V.e] at r1 w1;simp only[cO,V.e,↓xo,ot (lr hi),zdO,zdP,hc.c,zdM,an,hc.S,aA,aj,ot h2,aJ hc.S,zdQ,zdN,y1,eq_self,iF,c8,ht,bd,JZ,r1,w1]
   |false=>
    simp only[zdU,if_false] at JZ;have v1:=EX pk h hc (s':=s0) ⟨mh.out,by simp[s0], .inl rfl,by simp[s0]⟩ (IN h.qi hc (λq=>by cases q))
    have ev:=EY hc (s':=s0) (.inl rfl);obtain⟨e',v2,μ',r1,r2,r3⟩:=TO pk v1 (by omega) (d:=3) (.inl rfl) mh.qy
    obtain⟨v3,w1,w2,w3⟩:=uS pk r2 hi 0 16;obtain⟨v4,x1,x2,x3,x4⟩:=Kw pk w2 hi;refine⟨v4,μ',m+46,?_,x2,by omega,ev.trans (((r3.trans w3).dw.trans x3).ev i)⟩
    simp only[V.e] at r1 w1 x1;simp only[cO,V.e,↓xo,ot (lr hi),zdO,zdP,hc.c,zdM,an,hc.S,aA,aj,ot h2,aJ hc.S,zdQ,zdR,zdN,y1,eq_self,iF,c8,ht,bd,JZ,r1,w1,x1]
  ·obtain⟨v1,w1,w2,w3⟩:=uS pk h hi 0 e
   obtain⟨v2,μ',m',d1,d2,d3,d4,_⟩:=qe pk w2 (by omega) hi
   refine⟨v2,μ',m',?_,d2,by omega,(w3.dw.trans d4).ev i⟩
   simp only[V.e] at y1 w1 d1;simp only[cO,V.e,↓xo,ot (lr hi),zdO,zdP,hc.c,zdM,an,hc.S,aA,aj,ot h2,aJ hc.S,zdQ,zdN,y1,bg he,zdR,w1,d1]
 ·obtain⟨v2,μ',m',d1,d2,d3,d4,_⟩:=qe pk h (by omega) hi
  refine⟨v2,μ',m',?_,d2,by omega,d4.ev i⟩
  simp only[V.e] at d1;by_cases h3:s.1=3
  ·simp only[cO,V.e,↓xo,ot (lr hi),zdO,zdP,hc.c,zdM,an,hc.S,aA,aj,bg h2,ot h3,zdN,aJ hc.S,zdR,d1]
  ·simp only[cO,V.e,↓xo,ot (lr hi),zdO,zdP,hc.c,zdM,an,hc.S,aA,aj,bg h2,bg h3,zdN,aJ hc.S,zdR,d1]
end
def vT (r:nN):Prop:=0<=r.2.1/\r.2.1<=(r.1.length:Int)/\r.1.length<=1000000
theorem G3 {r:nN}(h:vT r){n:Int}(hn:1<=n/\n<=100):(∃r',eJ WX (((),n,()),(r,()))=some (.inl (((),()),r',([]:List Int),()))/\vT r')\/∃(l:List Int) (r':nN),eJ WX (((),n,()),(r,()))=some (.inr ((l,()),(r',())))/\vT r'/\(l.length:Int)=n:=by
 obtain⟨b,at_,bad,⟨⟩⟩:=r;obtain⟨h1,h2,h3⟩:=h;simp only at h1 h2 h3;cases bad with
 |true=>exact .inl ⟨(b,at_,true,()),by simp only[eJ,zdO],h1,h2,h3⟩
 |false=>
  have e1:i64.wrap ((b.length:Int)-at_)=(b.length:Int)-at_:=nR (by omega) (by omega)
  by_cases hc:n>(b.length:Int)-at_
  ·exact .inl ⟨(b,at_,true,()),by simp only[eJ,zdN,↓xo,xw,e1,ot hc,zdO],h1,h2,h3⟩
  ·have e2:i64.wrap (at_+n)=at_+n:=nR (by omega) (by omega)
   have e3:i64.wrap (at_+n-n)=at_:=by rw[nR (by omega) (by omega)];omega
   refine .inr ⟨(b.take (at_+n).toNat).drop at_.toNat,(b,at_+n,false,()),by simp only[eJ,zdN,↓xo,xw,e1,bg hc,e2,e3,oT (0<=at_/\at_<=at_+n/\at_+n<=(b.length:Int)),zdO],⟨?_,?_,h3⟩,?_⟩
   ·show 0<=at_+n;omega
   ·show at_+n<=(b.length:Int);omega
   ·rw[zei,zeh];omega
theorem G4 (l:List Int)(hl:l.length<=1000): ∃x:Int,ag (cq WX) ((0,l,(l.length:Int),0,()),())=some ((x,()),()):=by
 obtain⟨x,h1,_⟩:=oR (b:=cq WX) l.length (λk (s:Int)=>((s,l,(l.length:Int),(k:Int),()),())) (λs=>((s,()),())) (λ_ _=>True)
  (λk s hk _=>by
   have hx:=zdS hk;have e1:=lG hk (by omega)
   have e0: ¬(8:Int)<0:=by omega
   exact⟨_,by simp only[cq,↓xo,xw,oT ((k:Int)<(l.length:Int)),oT ((0:Int)<=(k:Int)),zdO,zdP,hx,zdM,bg e0,zdN,e1];rfl,trivial⟩)
  (λs _=>by simp only[cq,↓xo,oF ((l.length:Int)<(l.length:Int)),zdN]) 0 trivial
 exact⟨x,h1⟩
theorem Ky {r:nN}(h:vT r){n:Int}(hn:1<=n/\n<=100): ∃(x:Int) (r':nN),eS WX (((),n,()),(r,()))=some ((x,()),(r',()))/\vT r':=by
 rcases G3 h hn with⟨r',h1,h2⟩|⟨l,r',h1,h2,h3⟩
 ·obtain⟨x,hx⟩:=G4 [] (by simp)
  exact⟨x,r',by simp only[eS,h1,zdM,↓xl,hx],h2⟩
 ·obtain⟨x,hx⟩:=G4 l (by omega)
  exact⟨x,r',by simp only[eS,h1,zdM,↓xl,hx],h2⟩
theorem rY {r:nN}(h:vT r): ∃(x:Int) (r':nN),aH WX (((),()),(r,()))=some ((x,()),(r',()))/\vT r':=by
 obtain⟨x,r',h1,h2⟩:=Ky h (n:=1) ⟨by omega,by omega⟩
 exact⟨WX.wr .i64 x,r',by simp only[aH,h1,zdM],h2⟩
theorem nj {r:nN}(h:vT r): ∃(x:Int) (r':nN),aX WX (((),()),(r,()))=some ((x,()),(r',()))/\vT r':=by
 obtain⟨x,r',h1,h2⟩:=Ky h (n:=4) ⟨by omega,by omega⟩
 exact⟨WX.wr .u32 x,r',by simp only[aX,h1,zdM],h2⟩
theorem WB {r:nN}(h:vT r): ∃(l:List Int) (r':nN),eN WX (((),()),(r,()))=some ((l,()),(r',()))/\vT r'/\l.length=32:=by
 have e0:(0:Int)<=0/\(0:Int)<=((32:Nat):Int)/\((32:Nat):Int)<=(32:Nat):=by omega
 have e1:(((32:Nat):Int)-(0:Int)).toNat=32:=by decide
 rcases G3 h (n:=32) ⟨by omega,by omega⟩ with⟨r',h1,h2⟩|⟨l,r',h1,h2,h3⟩
 ·refine⟨_,r',by simp only[eN,↓xo,ot e0,zdO,h1,zdM,e1];rfl,h2,?_⟩
  simp
 ·refine⟨_,r',by simp only[eN,↓xo,ot e0,zdO,h1,zdM,e1];rfl,h2,?_⟩
  have:l.length=32:=by omega
  simp[this]
theorem so (r:nN): ∃b,cC WX (((),()),(r,()))=some ((b,()),(r,())):=by
 cases hb:r.2.2.1 with
 |true=>exact⟨false,by simp only[cC,hb,zdQ,zdN]⟩
 |false=>exact⟨aa (r.2.1=(r.1.length:Int)),by simp only[cC,hb,zdR,zdO,↓xo]⟩
theorem qf (b:List Int)(h:b.length<=1000000):m8 WX ((b,()),())=some (((),()),((b,0,false,()),())):=by
 have hc:=vQ b (by omega)
 simp only[m8,hc,zdM]
theorem yx {L R:Type}{b:L->Option (L⊕R)}{l l':L}(h:b l=some (.inl l')):ag b l=ag b l':=by rw[ar,h]
theorem kN {L R:Type}{b:L->Option (L⊕R)}{l:L}{r:R}(h:b l=some (.inr r)):ag b l=some r:=by rw[ar,h]
structure XF (c:mS):Prop where
 right:bm WX ((c,()),())=some ((true,()),())
 kind:1<=c.1/\c.1<=9
 zbJ:c.1=1->0<=c.2.2.1/\c.2.2.1<=31
 ans:c.1=2->c.2.2.2.2.2.2.2.2.2.2.2.2.2.2.1.length=32
 cmd:c.1=3\/c.1=4\/c.1=5\/c.1=6\/c.1=9->Kv c
def F2 (b:List Int):Prop:= ∃c ok,ff WX ((b,()),())=some ((c,ok,()),())/\(ok=true->XF c)
theorem nT {L R:Type}{F:L->Option (L⊕R)}{a b:Bool->L}(x lo hi:Int)(h0:F (a false)=some (.inl (b false)))(h1:F (a true)=bif WX.aa (x>=lo) then some (.inl (b (WX.aa (x<=hi)))) else some (.inl (b false)))(t:Bool): ∃t',ag F (a t)=ag F (b t')/\(t'=true->t=true/\lo<=x/\x<=hi):=by
 cases t with
 |false=>exact⟨false,yx h0,λq=>by cases q⟩
 |true=>
  rw[xo,xo] at h1;by_cases h:x>=lo
  ·rw[ot h,zdO] at h1
   exact⟨_,yx h1,λq=>⟨rfl,h,kR.1 q⟩⟩
  ·rw[bg h,zdN] at h1
   exact⟨false,yx h1,λq=>by cases q⟩
theorem stepG {L R α:Type}{F:L->Option (L⊕R)}{l l':L}{m:Option α}{x:α}{f:α->Option (L⊕R)}(h:F l=m.bind f)(e:m=some x)(h2:f x=some (.inl l')):ag F l=ag F l':=yx (by rw[h,e];exact h2)
abbrev g1 (k:Int)(c:mS)(t:Bool):ij.D:=(((),t,(),1,k,()),c,(((),1,0,31,()),()),())
abbrev g3 (k:Int)(c:mS)(t:Bool):bx.D:=(((),t,(),9,k,()),c,(((),4,0,1073741824,()),((),1,0,7,()),((),4,0,1073741824,()),((),1,0,255,()),((),1,0,255,()),((),4,0,1073741824,()),((),4,0,1073741824,()),((),4,0,1073741824,()),((),4,0,1073741824,()),()),())
abbrev g4 (k:Int)(c:mS)(t:Bool):dE.D:=(((),t,(),4,k,()),c,(((),4,0,1073741824,()),((),1,0,7,()),((),4,0,1073741824,()),((),1,0,31,()),()),())
abbrev g5 (k:Int)(c:mS)(t:Bool):cP.D:=(((),t,(),5,k,()),c,(((),4,0,1073741824,()),((),1,0,7,()),((),4,0,1073741824,()),((),4,0,1073741824,()),((),4,0,1073741824,()),()),())
abbrev g6 (k:Int)(c:mS)(t:Bool):eL.D:=(((),t,(),3,k,()),c,(((),4,0,1073741824,()),((),1,0,8,()),((),1,1,3,()),()),())
abbrev g9 (k:Int)(c:mS)(t:Bool):dF.D:=(((),t,(),4,k,()),c,(((),4,0,1073741824,()),((),1,1,9,()),((),1,0,255,()),((),1,0,255,()),()),())
section
variable (sq td it id sd od p q sh st wh a b:Int)(tg:List Int)
theorem EZ: ∃r,bm WX (((1,sq,td,it,id,sd,od,p,q,sh,st,wh,a,b,tg,()),()),())=some ((r,()),())/\(r=true->(0<=td/\td<=31)):=by
 have hf:dG WX (((),()),((1,sq,td,it,id,sd,od,p,q,sh,st,wh,a,b,tg,()),()))=some (.inl (((),true,()),(1,sq,td,it,id,sd,od,p,q,sh,st,wh,a,b,tg,()),(((),1,0,31,()),()),())):=by kernel_rfl
 obtain⟨t0,u0,w0⟩:=nT (F:=ij WX) (a:=g1 0 (1,sq,td,it,id,sd,od,p,q,sh,st,wh,a,b,tg,())) (b:=g1 1 (1,sq,0,it,id,sd,od,p,q,sh,st,wh,a,b,tg,())) td 0 31 (by kernel_rfl) (by kernel_rfl) true
 have hl:ag (ij WX) (g1 0 (1,sq,td,it,id,sd,od,p,q,sh,st,wh,a,b,tg,()) true)=some (((),t0,()),(1,sq,0,it,id,sd,od,p,q,sh,st,wh,a,b,tg,()),(((),1,0,31,()),()),()):=by
  rw[u0];exact kN (by kernel_rfl)
 cases ht:t0 with
 |false=>rw[ht] at hl;exact⟨false,by simp only[bm,hf,zdM,↓xl,hl,↓xo,Int.reduceEq,nk,zdN,zdO],λq=>by cases q⟩
 |true=>
  rw[ht] at hl;obtain⟨x0,y0⟩:=w0 ht;exact⟨_,by simp only[bm,hf,zdM,↓xl,hl,↓xo,Int.reduceEq,nk,zdN,zdO];rfl,λ_=>y0⟩
theorem E1: ∃r,bm WX (((3,sq,td,it,id,sd,od,p,q,sh,st,wh,a,b,tg,()),()),())=some ((r,()),())/\(r=true->(0<=sq/\sq<=1073741824)/\(0<=it/\it<=7)/\(0<=id/\id<=1073741824)/\(0<=sd/\sd<=255)/\(0<=od/\od<=255)/\(0<=p/\p<=1073741824)/\(0<=q/\q<=1073741824)/\(0<=sh/\sh<=1073741824)/\(0<=st/\st<=1073741824)):=by
 have hf:dG WX (((),()),((3,sq,td,it,id,sd,od,p,q,sh,st,wh,a,b,tg,()),()))=some (.inr (.inl (((),true,()),(3,sq,td,it,id,sd,od,p,q,sh,st,wh,a,b,tg,()),(((),4,0,1073741824,()),((),1,0,7,()),((),4,0,1073741824,()),((),1,0,255,()),((),1,0,255,()),((),4,0,1073741824,()),((),4,0,1073741824,()),((),4,0,1073741824,()),((),4,0,1073741824,()),()),()))):=by kernel_rfl
 obtain⟨t0,u0,w0⟩:=nT (F:=bx WX) (a:=g3 0 (3,sq,td,it,id,sd,od,p,q,sh,st,wh,a,b,tg,())) (b:=g3 1 (3,0,td,it,id,sd,od,p,q,sh,st,wh,a,b,tg,())) sq 0 1073741824 (by kernel_rfl) (by kernel_rfl) true
 obtain⟨t1,u1,w1⟩:=nT (F:=bx WX) (a:=g3 1 (3,0,td,it,id,sd,od,p,q,sh,st,wh,a,b,tg,())) (b:=g3 2 (3,0,td,0,id,sd,od,p,q,sh,st,wh,a,b,tg,())) it 0 7 (by kernel_rfl) (by kernel_rfl) t0
 obtain⟨t2,u2,w2⟩:=nT (F:=bx WX) (a:=g3 2 (3,0,td,0,id,sd,od,p,q,sh,st,wh,a,b,tg,())) (b:=g3 3 (3,0,td,0,0,sd,od,p,q,sh,st,wh,a,b,tg,())) id 0 1073741824 (by kernel_rfl) (by kernel_rfl) t1
 obtain⟨t3,u3,w3⟩:=nT (F:=bx WX) (a:=g3 3 (3,0,td,0,0,sd,od,p,q,sh,st,wh,a,b,tg,())) (b:=g3 4 (3,0,td,0,0,0,od,p,q,sh,st,wh,a,b,tg,())) sd 0 255 (by kernel_rfl) (by kernel_rfl) t2
 obtain⟨t4,u4,w4⟩:=nT (F:=bx WX) (a:=g3 4 (3,0,td,0,0,0,od,p,q,sh,st,wh,a,b,tg,())) (b:=g3 5 (3,0,td,0,0,0,0,p,q,sh,st,wh,a,b,tg,())) od 0 255 (by kernel_rfl) (by kernel_rfl) t3
 obtain⟨t5,u5,w5⟩:=nT (F:=bx WX) (a:=g3 5 (3,0,td,0,0,0,0,p,q,sh,st,wh,a,b,tg,())) (b:=g3 6 (3,0,td,0,0,0,0,0,q,sh,st,wh,a,b,tg,())) p 0 1073741824 (by kernel_rfl) (by kernel_rfl) t4
 obtain⟨t6,u6,w6⟩:=nT (F:=bx WX) (a:=g3 6 (3,0,td,0,0,0,0,0,q,sh,st,wh,a,b,tg,())) (b:=g3 7 (3,0,td,0,0,0,0,0,0,sh,st,wh,a,b,tg,())) q 0 1073741824 (by kernel_rfl) (by kernel_rfl) t5
 obtain⟨t7,u7,w7⟩:=nT (F:=bx WX) (a:=g3 7 (3,0,td,0,0,0,0,0,0,sh,st,wh,a,b,tg,())) (b:=g3 8 (3,0,td,0,0,0,0,0,0,0,st,wh,a,b,tg,())) sh 0 1073741824 (by kernel_rfl) (by kernel_rfl) t6
 obtain⟨t8,u8,w8⟩:=nT (F:=bx WX) (a:=g3 8 (3,0,td,0,0,0,0,0,0,0,st,wh,a,b,tg,())) (b:=g3 9 (3,0,td,0,0,0,0,0,0,0,0,wh,a,b,tg,())) st 0 1073741824 (by kernel_rfl) (by kernel_rfl) t7
 have hl:ag (bx WX) (g3 0 (3,sq,td,it,id,sd,od,p,q,sh,st,wh,a,b,tg,()) true)=some (((),t8,()),(3,0,td,0,0,0,0,0,0,0,0,wh,a,b,tg,()),(((),4,0,1073741824,()),((),1,0,7,()),((),4,0,1073741824,()),((),1,0,255,()),((),1,0,255,()),((),4,0,1073741824,()),((),4,0,1073741824,()),((),4,0,1073741824,()),((),4,0,1073741824,()),()),()):=by
  rw[u0,u1,u2,u3,u4,u5,u6,u7,u8];exact kN (by kernel_rfl)
 cases ht:t8 with
 |false=>rw[ht] at hl;exact⟨false,by simp only[bm,hf,zdM,↓xl,hl,↓xo,Int.reduceEq,nk,zdN,zdO],λq=>by cases q⟩
 |true=>
  rw[ht] at hl;obtain⟨x8,y8⟩:=w8 ht;obtain⟨x7,y7⟩:=w7 x8;obtain⟨x6,y6⟩:=w6 x7;obtain⟨x5,y5⟩:=w5 x6;obtain⟨x4,y4⟩:=w4 x5;obtain⟨x3,y3⟩:=w3 x4;obtain⟨x2,y2⟩:=w2 x3;obtain⟨x1,y1⟩:=w1 x2;obtain⟨x0,y0⟩:=w0 x1;exact⟨_,by simp only[bm,hf,zdM,↓xl,hl,↓xo,Int.reduceEq,nk,zdN,zdO];rfl,λ_=>⟨y0,y1,y2,y3,y4,y5,y6,y7,y8⟩⟩
theorem E2: ∃r,bm WX (((4,sq,td,it,id,sd,od,p,q,sh,st,wh,a,b,tg,()),()),())=some ((r,()),())/\(r=true->(0<=sq/\sq<=1073741824)/\(0<=it/\it<=7)/\(0<=id/\id<=1073741824)/\(0<=td/\td<=31)):=by
 have hf:dG WX (((),()),((4,sq,td,it,id,sd,od,p,q,sh,st,wh,a,b,tg,()),()))=some (.inr (.inr (.inl (((),true,()),(4,sq,td,it,id,sd,od,p,q,sh,st,wh,a,b,tg,()),(((),4,0,1073741824,()),((),1,0,7,()),((),4,0,1073741824,()),((),1,0,31,()),()),())))):=by kernel_rfl
 obtain⟨t0,u0,w0⟩:=nT (F:=dE WX) (a:=g4 0 (4,sq,td,it,id,sd,od,p,q,sh,st,wh,a,b,tg,())) (b:=g4 1 (4,0,td,it,id,sd,od,p,q,sh,st,wh,a,b,tg,())) sq 0 1073741824 (by kernel_rfl) (by kernel_rfl) true
 obtain⟨t1,u1,w1⟩:=nT (F:=dE WX) (a:=g4 1 (4,0,td,it,id,sd,od,p,q,sh,st,wh,a,b,tg,())) (b:=g4 2 (4,0,td,0,id,sd,od,p,q,sh,st,wh,a,b,tg,())) it 0 7 (by kernel_rfl) (by kernel_rfl) t0
 obtain⟨t2,u2,w2⟩:=nT (F:=dE WX) (a:=g4 2 (4,0,td,0,id,sd,od,p,q,sh,st,wh,a,b,tg,())) (b:=g4 3 (4,0,td,0,0,sd,od,p,q,sh,st,wh,a,b,tg,())) id 0 1073741824 (by kernel_rfl) (by kernel_rfl) t1
 obtain⟨t3,u3,w3⟩:=nT (F:=dE WX) (a:=g4 3 (4,0,td,0,0,sd,od,p,q,sh,st,wh,a,b,tg,())) (b:=g4 4 (4,0,0,0,0,sd,od,p,q,sh,st,wh,a,b,tg,())) td 0 31 (by kernel_rfl) (by kernel_rfl) t2
 have hl:ag (dE WX) (g4 0 (4,sq,td,it,id,sd,od,p,q,sh,st,wh,a,b,tg,()) true)=some (((),t3,()),(4,0,0,0,0,sd,od,p,q,sh,st,wh,a,b,tg,()),(((),4,0,1073741824,()),((),1,0,7,()),((),4,0,1073741824,()),((),1,0,31,()),()),()):=by
  rw[u0,u1,u2,u3];exact kN (by kernel_rfl)
 cases ht:t3 with
 |false=>rw[ht] at hl;exact⟨false,by simp only[bm,hf,zdM,↓xl,hl,↓xo,Int.reduceEq,nk,zdN,zdO],λq=>by cases q⟩
 |true=>
  rw[ht] at hl;obtain⟨x3,y3⟩:=w3 ht;obtain⟨x2,y2⟩:=w2 x3;obtain⟨x1,y1⟩:=w1 x2;obtain⟨x0,y0⟩:=w0 x1;exact⟨_,by simp only[bm,hf,zdM,↓xl,hl,↓xo,Int.reduceEq,nk,zdN,zdO];rfl,λ_=>⟨y0,y1,y2,y3⟩⟩
theorem E3: ∃r,bm WX (((5,sq,td,it,id,sd,od,p,q,sh,st,wh,a,b,tg,()),()),())=some ((r,()),())/\(r=true->(0<=sq/\sq<=1073741824)/\(0<=it/\it<=7)/\(0<=id/\id<=1073741824)/\(0<=p/\p<=1073741824)/\(0<=q/\q<=1073741824)):=by
 have hf:dG WX (((),()),((5,sq,td,it,id,sd,od,p,q,sh,st,wh,a,b,tg,()),()))=some (.inr (.inr (.inr (.inl (((),true,()),(5,sq,td,it,id,sd,od,p,q,sh,st,wh,a,b,tg,()),(((),4,0,1073741824,()),((),1,0,7,()),((),4,0,1073741824,()),((),4,0,1073741824,()),((),4,0,1073741824,()),()),()))))):=by kernel_rfl
 obtain⟨t0,u0,w0⟩:=nT (F:=cP WX) (a:=g5 0 (5,sq,td,it,id,sd,od,p,q,sh,st,wh,a,b,tg,())) (b:=g5 1 (5,0,td,it,id,sd,od,p,q,sh,st,wh,a,b,tg,())) sq 0 1073741824 (by kernel_rfl) (by kernel_rfl) true
 obtain⟨t1,u1,w1⟩:=nT (F:=cP WX) (a:=g5 1 (5,0,td,it,id,sd,od,p,q,sh,st,wh,a,b,tg,())) (b:=g5 2 (5,0,td,0,id,sd,od,p,q,sh,st,wh,a,b,tg,())) it 0 7 (by kernel_rfl) (by kernel_rfl) t0
 obtain⟨t2,u2,w2⟩:=nT (F:=cP WX) (a:=g5 2 (5,0,td,0,id,sd,od,p,q,sh,st,wh,a,b,tg,())) (b:=g5 3 (5,0,td,0,0,sd,od,p,q,sh,st,wh,a,b,tg,())) id 0 1073741824 (by kernel_rfl) (by kernel_rfl) t1
 obtain⟨t3,u3,w3⟩:=nT (F:=cP WX) (a:=g5 3 (5,0,td,0,0,sd,od,p,q,sh,st,wh,a,b,tg,())) (b:=g5 4 (5,0,td,0,0,sd,od,0,q,sh,st,wh,a,b,tg,())) p 0 1073741824 (by kernel_rfl) (by kernel_rfl) t2
 obtain⟨t4,u4,w4⟩:=nT (F:=cP WX) (a:=g5 4 (5,0,td,0,0,sd,od,0,q,sh,st,wh,a,b,tg,())) (b:=g5 5 (5,0,td,0,0,sd,od,0,0,sh,st,wh,a,b,tg,())) q 0 1073741824 (by kernel_rfl) (by kernel_rfl) t3
 have hl:ag (cP WX) (g5 0 (5,sq,td,it,id,sd,od,p,q,sh,st,wh,a,b,tg,()) true)=some (((),t4,()),(5,0,td,0,0,sd,od,0,0,sh,st,wh,a,b,tg,()),(((),4,0,1073741824,()),((),1,0,7,()),((),4,0,1073741824,()),((),4,0,1073741824,()),((),4,0,1073741824,()),()),()):=by
  rw[u0,u1,u2,u3,u4];exact kN (by kernel_rfl)
 cases ht:t4 with
 |false=>rw[ht] at hl;exact⟨false,by simp only[bm,hf,zdM,↓xl,hl,↓xo,Int.reduceEq,nk,zdN,zdO],λq=>by cases q⟩
 |true=>
  rw[ht] at hl;obtain⟨x4,y4⟩:=w4 ht;obtain⟨x3,y3⟩:=w3 x4;obtain⟨x2,y2⟩:=w2 x3;obtain⟨x1,y1⟩:=w1 x2;obtain⟨x0,y0⟩:=w0 x1;exact⟨_,by simp only[bm,hf,zdM,↓xl,hl,↓xo,Int.reduceEq,nk,zdN,zdO];rfl,λ_=>⟨y0,y1,y2,y3,y4⟩⟩
theorem E4: ∃r,bm WX (((6,sq,td,it,id,sd,od,p,q,sh,st,wh,a,b,tg,()),()),())=some ((r,()),())/\(r=true->(0<=sq/\sq<=1073741824)/\(0<=it/\it<=8)/\(1<=wh/\wh<=3)):=by
 have hf:dG WX (((),()),((6,sq,td,it,id,sd,od,p,q,sh,st,wh,a,b,tg,()),()))=some (.inr (.inr (.inr (.inr (.inl (((),true,()),(6,sq,td,it,id,sd,od,p,q,sh,st,wh,a,b,tg,()),(((),4,0,1073741824,()),((),1,0,8,()),((),1,1,3,()),()),())))))):=by kernel_rfl
 obtain⟨t0,u0,w0⟩:=nT (F:=eL WX) (a:=g6 0 (6,sq,td,it,id,sd,od,p,q,sh,st,wh,a,b,tg,())) (b:=g6 1 (6,0,td,it,id,sd,od,p,q,sh,st,wh,a,b,tg,())) sq 0 1073741824 (by kernel_rfl) (by kernel_rfl) true
 obtain⟨t1,u1,w1⟩:=nT (F:=eL WX) (a:=g6 1 (6,0,td,it,id,sd,od,p,q,sh,st,wh,a,b,tg,())) (b:=g6 2 (6,0,td,0,id,sd,od,p,q,sh,st,wh,a,b,tg,())) it 0 8 (by kernel_rfl) (by kernel_rfl) t0
 obtain⟨t2,u2,w2⟩:=nT (F:=eL WX) (a:=g6 2 (6,0,td,0,id,sd,od,p,q,sh,st,wh,a,b,tg,())) (b:=g6 3 (6,0,td,0,id,sd,od,p,q,sh,st,0,a,b,tg,())) wh 1 3 (by kernel_rfl) (by kernel_rfl) t1
 have hl:ag (eL WX) (g6 0 (6,sq,td,it,id,sd,od,p,q,sh,st,wh,a,b,tg,()) true)=some (((),t2,()),(6,0,td,0,id,sd,od,p,q,sh,st,0,a,b,tg,()),(((),4,0,1073741824,()),((),1,0,8,()),((),1,1,3,()),()),()):=by
  rw[u0,u1,u2];exact kN (by kernel_rfl)
 cases ht:t2 with
 |false=>rw[ht] at hl;exact⟨false,by simp only[bm,hf,zdM,↓xl,hl,↓xo,Int.reduceEq,nk,zdN,zdO],λq=>by cases q⟩
 |true=>
  rw[ht] at hl;obtain⟨x2,y2⟩:=w2 ht;obtain⟨x1,y1⟩:=w1 x2;obtain⟨x0,y0⟩:=w0 x1;exact⟨_,by simp only[bm,hf,zdM,↓xl,hl,↓xo,Int.reduceEq,nk,zdN,zdO];rfl,λ_=>⟨y0,y1,y2⟩⟩
theorem E5: ∃r,bm WX (((9,sq,td,it,id,sd,od,p,q,sh,st,wh,a,b,tg,()),()),())=some ((r,()),())/\(r=true->(0<=sq/\sq<=1073741824)/\(1<=wh/\wh<=9)/\(0<=a/\a<=255)/\(0<=b/\b<=255)):=by
 have hf:dG WX (((),()),((9,sq,td,it,id,sd,od,p,q,sh,st,wh,a,b,tg,()),()))=some (.inr (.inr (.inr (.inr (.inr (.inl (((),true,()),(9,sq,td,it,id,sd,od,p,q,sh,st,wh,a,b,tg,()),(((),4,0,1073741824,()),((),1,1,9,()),((),1,0,255,()),((),1,0,255,()),()),()))))))):=by kernel_rfl
 obtain⟨t0,u0,w0⟩:=nT (F:=dF WX) (a:=g9 0 (9,sq,td,it,id,sd,od,p,q,sh,st,wh,a,b,tg,())) (b:=g9 1 (9,0,td,it,id,sd,od,p,q,sh,st,wh,a,b,tg,())) sq 0 1073741824 (by kernel_rfl) (by kernel_rfl) true
 obtain⟨t1,u1,w1⟩:=nT (F:=dF WX) (a:=g9 1 (9,0,td,it,id,sd,od,p,q,sh,st,wh,a,b,tg,())) (b:=g9 2 (9,0,td,it,id,sd,od,p,q,sh,st,0,a,b,tg,())) wh 1 9 (by kernel_rfl) (by kernel_rfl) t0
 obtain⟨t2,u2,w2⟩:=nT (F:=dF WX) (a:=g9 2 (9,0,td,it,id,sd,od,p,q,sh,st,0,a,b,tg,())) (b:=g9 3 (9,0,td,it,id,sd,od,p,q,sh,st,0,0,b,tg,())) a 0 255 (by kernel_rfl) (by kernel_rfl) t1
 obtain⟨t3,u3,w3⟩:=nT (F:=dF WX) (a:=g9 3 (9,0,td,it,id,sd,od,p,q,sh,st,0,0,b,tg,())) (b:=g9 4 (9,0,td,it,id,sd,od,p,q,sh,st,0,0,0,tg,())) b 0 255 (by kernel_rfl) (by kernel_rfl) t2
 have hl:ag (dF WX) (g9 0 (9,sq,td,it,id,sd,od,p,q,sh,st,wh,a,b,tg,()) true)=some (((),t3,()),(9,0,td,it,id,sd,od,p,q,sh,st,0,0,0,tg,()),(((),4,0,1073741824,()),((),1,1,9,()),((),1,0,255,()),((),1,0,255,()),()),()):=by
  rw[u0,u1,u2,u3];exact kN (by kernel_rfl)
 cases ht:t3 with
 |false=>rw[ht] at hl;exact⟨false,by simp only[bm,hf,zdM,↓xl,hl,↓xo,Int.reduceEq,nk,zdN,zdO],λq=>by cases q⟩
 |true=>
  rw[ht] at hl;obtain⟨x3,y3⟩:=w3 ht;obtain⟨x2,y2⟩:=w2 x3;obtain⟨x1,y1⟩:=w1 x2;obtain⟨x0,y0⟩:=w0 x1;exact⟨_,by simp only[bm,hf,zdM,↓xl,hl,↓xo,Int.reduceEq,nk,zdN,zdO];rfl,λ_=>⟨y0,y1,y2,y3⟩⟩
theorem E6: ∃r,bm WX (((2,sq,td,it,id,sd,od,p,q,sh,st,wh,a,b,tg,()),()),())=some ((r,()),()):=by
 have hf:dG WX (((),()),((2,sq,td,it,id,sd,od,p,q,sh,st,wh,a,b,tg,()),()))=some (.inr (.inr (.inr (.inr (.inr (.inr (((),true,()),(2,sq,td,it,id,sd,od,p,q,sh,st,wh,a,b,tg,()),()))))))):=by kernel_rfl
 have hl:ag (fN WX) (((),true,(),0,0,()),(2,sq,td,it,id,sd,od,p,q,sh,st,wh,a,b,tg,()),())=some (((),true,()),(2,sq,td,it,id,sd,od,p,q,sh,st,wh,a,b,tg,()),()):=kN (by simp only[fN,↓xo,oF ((0:Int)<0),nk,zdN])
 exact⟨_,by simp only[bm,hf,zdM,↓xl,hl,↓xo,eq_self,Int.reduceEq,iF,nk,zdO,zdN];rfl⟩
theorem E7: ∃r,bm WX (((7,sq,td,it,id,sd,od,p,q,sh,st,wh,a,b,tg,()),()),())=some ((r,()),()):=by
 have hf:dG WX (((),()),((7,sq,td,it,id,sd,od,p,q,sh,st,wh,a,b,tg,()),()))=some (.inr (.inr (.inr (.inr (.inr (.inr (((),true,()),(7,sq,td,it,id,sd,od,p,q,sh,st,wh,a,b,tg,()),()))))))):=by kernel_rfl
 have hl:ag (fN WX) (((),true,(),0,0,()),(7,sq,td,it,id,sd,od,p,q,sh,st,wh,a,b,tg,()),())=some (((),true,()),(7,sq,td,it,id,sd,od,p,q,sh,st,wh,a,b,tg,()),()):=kN (by simp only[fN,↓xo,oF ((0:Int)<0),nk,zdN])
 exact⟨_,by simp only[bm,hf,zdM,↓xl,hl,↓xo,eq_self,Int.reduceEq,iF,nk,zdO,zdN];rfl⟩
theorem E8: ∃r,bm WX (((8,sq,td,it,id,sd,od,p,q,sh,st,wh,a,b,tg,()),()),())=some ((r,()),()):=by
 have hf:dG WX (((),()),((8,sq,td,it,id,sd,od,p,q,sh,st,wh,a,b,tg,()),()))=some (.inr (.inr (.inr (.inr (.inr (.inr (((),true,()),(8,sq,td,it,id,sd,od,p,q,sh,st,wh,a,b,tg,()),()))))))):=by kernel_rfl
 have hl:ag (fN WX) (((),true,(),0,0,()),(8,sq,td,it,id,sd,od,p,q,sh,st,wh,a,b,tg,()),())=some (((),true,()),(8,sq,td,it,id,sd,od,p,q,sh,st,wh,a,b,tg,()),()):=kN (by simp only[fN,↓xo,oF ((0:Int)<0),nk,zdN])
 exact⟨_,by simp only[bm,hf,zdM,↓xl,hl,↓xo,eq_self,Int.reduceEq,iF,nk,zdO,zdN];rfl⟩
theorem OG {kd:Int}(h1: ¬kd=1)(h2: ¬kd=2)(h3: ¬kd=3)(h4: ¬kd=4)(h5: ¬kd=5)(h6: ¬kd=6)(h7: ¬kd=7)(h8: ¬kd=8)(h9: ¬kd=9):dG WX (((),()),((kd,sq,td,it,id,sd,od,p,q,sh,st,wh,a,b,tg,()),()))=some (.inr (.inr (.inr (.inr (.inr (.inr (((),false,()),(kd,sq,td,it,id,sd,od,p,q,sh,st,wh,a,b,tg,()),()))))))):=by
 simp only[dG,po,lO,lP,lQ,oA,lR,zdM,↓xo,bg h1,bg h2,bg h3,bg h4,bg h5,bg h6,bg h7,bg h8,bg h9,zdN]
theorem TR {kd:Int}(h1: ¬kd=1)(h2: ¬kd=2)(h3: ¬kd=3)(h4: ¬kd=4)(h5: ¬kd=5)(h6: ¬kd=6)(h7: ¬kd=7)(h8: ¬kd=8)(h9: ¬kd=9):bm WX (((kd,sq,td,it,id,sd,od,p,q,sh,st,wh,a,b,tg,()),()),())=some ((false,()),()):=by
 have hf:=OG sq td it id sd od p q sh st wh a b tg h1 h2 h3 h4 h5 h6 h7 h8 h9;have hl:ag (fN WX) (((),false,(),0,0,()),(kd,sq,td,it,id,sd,od,p,q,sh,st,wh,a,b,tg,()),())=some (((),false,()),(kd,sq,td,it,id,sd,od,p,q,sh,st,wh,a,b,tg,()),()):=kN (by simp only[fN,↓xo,oF ((0:Int)<0),nk,zdN])
 simp only[bm,hf,zdM,↓xl,hl,↓xo,bg h2,zdN]
end
abbrev q1 (k:Int)(r:nN)(c:mS):ky.D:=(((),(),(),(),1,k,()),(0,0,0,0,0,0,0,0,0,0,0,0,0,0,gM,()),r,c,(((),1,0,31,()),()),())
theorem zbK {b:List Int}(hb:b.length<=1000000){r0:nN}(hu:aH WX (((),()),((b,0,false,()),()))=some ((1,()),(r0,())))(o0:vT r0):F2 b:=by
 have hr:=qf b hb;have hf:dG WX (((),()),((1,0,0,0,0,0,0,0,0,0,0,0,0,0,gM,()),()))=some (.inl (((),true,()),(1,0,0,0,0,0,0,0,0,0,0,0,0,0,gM,()),(((),1,0,31,()),()),())):=by kernel_rfl
 obtain⟨x0,r1,e0,o1⟩:=rY o0;have u0:=stepG (F:=ky WX) (l:=q1 0 r0 (1,0,0,0,0,0,0,0,0,0,0,0,0,0,gM,())) (l':=q1 1 r1 (1,0,x0,0,0,0,0,0,0,0,0,0,0,0,gM,())) rfl e0 rfl;have hl:ag (ky WX) (q1 0 r0 (1,0,0,0,0,0,0,0,0,0,0,0,0,0,gM,()))=some (((),(),(),()),(0,0,0,0,0,0,0,0,0,0,0,0,0,0,gM,()),r1,(1,0,x0,0,0,0,0,0,0,0,0,0,0,0,gM,()),(((),1,0,31,()),()),()):=by
  rw[u0];exact kN (by kernel_rfl)
 obtain⟨z,hE⟩:=so r1;obtain⟨g,hR,hF⟩:=EZ 0 x0 0 0 0 0 0 0 0 0 0 0 0 gM;cases z with
 |false=>exact⟨_,false,by simp only[ff,hr,hu,hf,zdM,↓xl,hl,↓xo,Int.reduceEq,nk,zdN,zdO,hE,zdQ,zdR];rfl,λq=>by cases q⟩
 |true=>
  cases g with
  |false=>exact⟨_,false,by simp only[ff,hr,hu,hf,zdM,↓xl,hl,↓xo,Int.reduceEq,nk,zdN,zdO,hE,zdQ,zdR,hR];rfl,λq=>by cases q⟩
  |true=>
   have hF:=hF rfl;exact⟨(1,0,x0,0,0,0,0,0,0,0,0,0,0,0,gM,()),true,by simp only[ff,hr,hu,hf,zdM,↓xl,hl,↓xo,Int.reduceEq,nk,zdN,zdO,hE,zdQ,zdR,hR],λ_=>⟨hR,by simp,λ_=>hF,λq=>by simp at q,λq=>by simp at q⟩⟩
abbrev q3 (k:Int)(r:nN)(c:mS):gm.D:=(((),(),(),(),9,k,()),(0,0,0,0,0,0,0,0,0,0,0,0,0,0,gM,()),r,c,(((),4,0,1073741824,()),((),1,0,7,()),((),4,0,1073741824,()),((),1,0,255,()),((),1,0,255,()),((),4,0,1073741824,()),((),4,0,1073741824,()),((),4,0,1073741824,()),((),4,0,1073741824,()),()),())
theorem zbL {b:List Int}(hb:b.length<=1000000){r0:nN}(hu:aH WX (((),()),((b,0,false,()),()))=some ((3,()),(r0,())))(o0:vT r0):F2 b:=by
 have hr:=qf b hb;have hf:dG WX (((),()),((3,0,0,0,0,0,0,0,0,0,0,0,0,0,gM,()),()))=some (.inr (.inl (((),true,()),(3,0,0,0,0,0,0,0,0,0,0,0,0,0,gM,()),(((),4,0,1073741824,()),((),1,0,7,()),((),4,0,1073741824,()),((),1,0,255,()),((),1,0,255,()),((),4,0,1073741824,()),((),4,0,1073741824,()),((),4,0,1073741824,()),((),4,0,1073741824,()),()),()))):=by kernel_rfl
 obtain⟨x0,r1,e0,o1⟩:=nj o0;obtain⟨x1,r2,e1,o2⟩:=rY o1;obtain⟨x2,r3,e2,o3⟩:=nj o2;obtain⟨x3,r4,e3,o4⟩:=rY o3;obtain⟨x4,r5,e4,o5⟩:=rY o4;obtain⟨x5,r6,e5,o6⟩:=nj o5;obtain⟨x6,r7,e6,o7⟩:=nj o6;obtain⟨x7,r8,e7,o8⟩:=nj o7;obtain⟨x8,r9,e8,o9⟩:=nj o8;have u0:=stepG (F:=gm WX) (l:=q3 0 r0 (3,0,0,0,0,0,0,0,0,0,0,0,0,0,gM,())) (l':=q3 1 r1 (3,i64.wrap x0,0,0,0,0,0,0,0,0,0,0,0,0,gM,())) rfl e0 rfl;have u1:=stepG (F:=gm WX) (l:=q3 1 r1 (3,i64.wrap x0,0,0,0,0,0,0,0,0,0,0,0,0,gM,())) (l':=q3 2 r2 (3,i64.wrap x0,0,x1,0,0,0,0,0,0,0,0,0,0,gM,())) rfl e1 rfl;have u2:=stepG (F:=gm WX) (l:=q3 2 r2 (3,i64.wrap x0,0,x1,0,0,0,0,0,0,0,0,0,0,gM,())) (l':=q3 3 r3 (3,i64.wrap x0,0,x1,i64.wrap x2,0,0,0,0,0,0,0,0,0,gM,())) rfl e2 rfl;have u3:=stepG (F:=gm WX) (l:=q3 3 r3 (3,i64.wrap x0,0,x1,i64.wrap x2,0,0,0,0,0,0,0,0,0,gM,())) (l':=q3 4 r4 (3,i64.wrap x0,0,x1,i64.wrap x2,x3,0,0,0,0,0,0,0,0,gM,())) rfl e3 rfl;have u4:=stepG (F:=gm WX) (l:=q3 4 r4 (3,i64.wrap x0,0,x1,i64.wrap x2,x3,0,0,0,0,0,0,0,0,gM,())) (l':=q3 5 r5 (3,i64.wrap x0,0,x1,i64.wrap x2,x3,x4,0,0,0,0,0,0,0,gM,())) rfl e4 rfl;have u5:=stepG (F:=gm WX) (l:=q3 5 r5 (3,i64.wrap x0,0,x1,i64.wrap x2,x3,x4,0,0,0,0,0,0,0,gM,())) (l':=q3 6 r6 (3,i64.wrap x0,0,x1,i64.wrap x2,x3,x4,i64.wrap x5,0,0,0,0,0,0,gM,())) rfl e5 rfl;have u6:=stepG (F:=gm WX) (l:=q3 6 r6 (3,i64.wrap x0,0,x1,i64.wrap x2,x3,x4,i64.wrap x5,0,0,0,0,0,0,gM,())) (l':=q3 7 r7 (3,i64.wrap x0,0,x1,i64.wrap x2,x3,x4,i64.wrap x5,i64.wrap x6,0,0,0,0,0,gM,())) rfl e6 rfl;have u7:=stepG (F:=gm WX) (l:=q3 7 r7 (3,i64.wrap x0,0,x1,i64.wrap x2,x3,x4,i64.wrap x5,i64.wrap x6,0,0,0,0,0,gM,())) (l':=q3 8 r8 (3,i64.wrap x0,0,x1,i64.wrap x2,x3,x4,i64.wrap x5,i64.wrap x6,i64.wrap x7,0,0,0,0,gM,())) rfl e7 rfl;have u8:=stepG (F:=gm WX) (l:=q3 8 r8 (3,i64.wrap x0,0,x1,i64.wrap x2,x3,x4,i64.wrap x5,i64.wrap x6,i64.wrap x7,0,0,0,0,gM,())) (l':=q3 9 r9 (3,i64.wrap x0,0,x1,i64.wrap x2,x3,x4,i64.wrap x5,i64.wrap x6,i64.wrap x7,i64.wrap x8,0,0,0,gM,())) rfl e8 rfl;have hl:ag (gm WX) (q3 0 r0 (3,0,0,0,0,0,0,0,0,0,0,0,0,0,gM,()))=some (((),(),(),()),(0,0,0,0,0,0,0,0,0,0,0,0,0,0,gM,()),r9,(3,i64.wrap x0,0,x1,i64.wrap x2,x3,x4,i64.wrap x5,i64.wrap x6,i64.wrap x7,i64.wrap x8,0,0,0,gM,()),(((),4,0,1073741824,()),((),1,0,7,()),((),4,0,1073741824,()),((),1,0,255,()),((),1,0,255,()),((),4,0,1073741824,()),((),4,0,1073741824,()),((),4,0,1073741824,()),((),4,0,1073741824,()),()),()):=by
  rw[u0,u1,u2,u3,u4,u5,u6,u7,u8];exact kN (by kernel_rfl)
 obtain⟨z,hE⟩:=so r9;obtain⟨g,hR,hF⟩:=E1 (i64.wrap x0) 0 x1 (i64.wrap x2) x3 x4 (i64.wrap x5) (i64.wrap x6) (i64.wrap x7) (i64.wrap x8) 0 0 0 gM;cases z with
 |false=>exact⟨_,false,by simp only[ff,hr,hu,hf,zdM,↓xl,hl,↓xo,Int.reduceEq,nk,zdN,zdO,hE,zdQ,zdR];rfl,λq=>by cases q⟩
 |true=>
  cases g with
  |false=>exact⟨_,false,by simp only[ff,hr,hu,hf,zdM,↓xl,hl,↓xo,Int.reduceEq,nk,zdN,zdO,hE,zdQ,zdR,hR];rfl,λq=>by cases q⟩
  |true=>
   have hF:=hF rfl;exact⟨(3,i64.wrap x0,0,x1,i64.wrap x2,x3,x4,i64.wrap x5,i64.wrap x6,i64.wrap x7,i64.wrap x8,0,0,0,gM,()),true,by simp only[ff,hr,hu,hf,zdM,↓xl,hl,↓xo,Int.reduceEq,nk,zdN,zdO,hE,zdQ,zdR,hR],λ_=>⟨hR,by simp,λq=>by simp at q,λq=>by simp at q,λ_=>⟨.inl rfl,⟨hF.2.1.1,zfv hF.2.1.2 (by decide),λ_=>hF.2.1.2⟩,λq=>by simp at q,zeS _,zeS _⟩⟩⟩
abbrev q4 (k:Int)(r:nN)(c:mS):iC.D:=(((),(),(),(),4,k,()),(0,0,0,0,0,0,0,0,0,0,0,0,0,0,gM,()),r,c,(((),4,0,1073741824,()),((),1,0,7,()),((),4,0,1073741824,()),((),1,0,31,()),()),())
theorem zbM {b:List Int}(hb:b.length<=1000000){r0:nN}(hu:aH WX (((),()),((b,0,false,()),()))=some ((4,()),(r0,())))(o0:vT r0):F2 b:=by
 have hr:=qf b hb;have hf:dG WX (((),()),((4,0,0,0,0,0,0,0,0,0,0,0,0,0,gM,()),()))=some (.inr (.inr (.inl (((),true,()),(4,0,0,0,0,0,0,0,0,0,0,0,0,0,gM,()),(((),4,0,1073741824,()),((),1,0,7,()),((),4,0,1073741824,()),((),1,0,31,()),()),())))):=by kernel_rfl
 obtain⟨x0,r1,e0,o1⟩:=nj o0;obtain⟨x1,r2,e1,o2⟩:=rY o1;obtain⟨x2,r3,e2,o3⟩:=nj o2;obtain⟨x3,r4,e3,o4⟩:=rY o3;have u0:=stepG (F:=iC WX) (l:=q4 0 r0 (4,0,0,0,0,0,0,0,0,0,0,0,0,0,gM,())) (l':=q4 1 r1 (4,i64.wrap x0,0,0,0,0,0,0,0,0,0,0,0,0,gM,())) rfl e0 rfl;have u1:=stepG (F:=iC WX) (l:=q4 1 r1 (4,i64.wrap x0,0,0,0,0,0,0,0,0,0,0,0,0,gM,())) (l':=q4 2 r2 (4,i64.wrap x0,0,x1,0,0,0,0,0,0,0,0,0,0,gM,())) rfl e1 rfl;have u2:=stepG (F:=iC WX) (l:=q4 2 r2 (4,i64.wrap x0,0,x1,0,0,0,0,0,0,0,0,0,0,gM,())) (l':=q4 3 r3 (4,i64.wrap x0,0,x1,i64.wrap x2,0,0,0,0,0,0,0,0,0,gM,())) rfl e2 rfl;have u3:=stepG (F:=iC WX) (l:=q4 3 r3 (4,i64.wrap x0,0,x1,i64.wrap x2,0,0,0,0,0,0,0,0,0,gM,())) (l':=q4 4 r4 (4,i64.wrap x0,x3,x1,i64.wrap x2,0,0,0,0,0,0,0,0,0,gM,())) rfl e3 rfl;have hl:ag (iC WX) (q4 0 r0 (4,0,0,0,0,0,0,0,0,0,0,0,0,0,gM,()))=some (((),(),(),()),(0,0,0,0,0,0,0,0,0,0,0,0,0,0,gM,()),r4,(4,i64.wrap x0,x3,x1,i64.wrap x2,0,0,0,0,0,0,0,0,0,gM,()),(((),4,0,1073741824,()),((),1,0,7,()),((),4,0,1073741824,()),((),1,0,31,()),()),()):=by
  rw[u0,u1,u2,u3];exact kN (by kernel_rfl)
 obtain⟨z,hE⟩:=so r4;obtain⟨g,hR,hF⟩:=E2 (i64.wrap x0) x3 x1 (i64.wrap x2) 0 0 0 0 0 0 0 0 0 gM;cases z with
 |false=>exact⟨_,false,by simp only[ff,hr,hu,hf,zdM,↓xl,hl,↓xo,Int.reduceEq,nk,zdN,zdO,hE,zdQ,zdR];rfl,λq=>by cases q⟩
 |true=>
  cases g with
  |false=>exact⟨_,false,by simp only[ff,hr,hu,hf,zdM,↓xl,hl,↓xo,Int.reduceEq,nk,zdN,zdO,hE,zdQ,zdR,hR];rfl,λq=>by cases q⟩
  |true=>
   have hF:=hF rfl;exact⟨(4,i64.wrap x0,x3,x1,i64.wrap x2,0,0,0,0,0,0,0,0,0,gM,()),true,by simp only[ff,hr,hu,hf,zdM,↓xl,hl,↓xo,Int.reduceEq,nk,zdN,zdO,hE,zdQ,zdR,hR],λ_=>⟨hR,by simp,λq=>by simp at q,λq=>by simp at q,λ_=>⟨.inr (.inl rfl),⟨hF.2.1.1,zfv hF.2.1.2 (by decide),λ_=>hF.2.1.2⟩,λq=>by simp at q,zeS _,zeS _⟩⟩⟩
abbrev q5 (k:Int)(r:nN)(c:mS):ik.D:=(((),(),(),(),5,k,()),(0,0,0,0,0,0,0,0,0,0,0,0,0,0,gM,()),r,c,(((),4,0,1073741824,()),((),1,0,7,()),((),4,0,1073741824,()),((),4,0,1073741824,()),((),4,0,1073741824,()),()),())
theorem zbN {b:List Int}(hb:b.length<=1000000){r0:nN}(hu:aH WX (((),()),((b,0,false,()),()))=some ((5,()),(r0,())))(o0:vT r0):F2 b:=by
 have hr:=qf b hb;have hf:dG WX (((),()),((5,0,0,0,0,0,0,0,0,0,0,0,0,0,gM,()),()))=some (.inr (.inr (.inr (.inl (((),true,()),(5,0,0,0,0,0,0,0,0,0,0,0,0,0,gM,()),(((),4,0,1073741824,()),((),1,0,7,()),((),4,0,1073741824,()),((),4,0,1073741824,()),((),4,0,1073741824,()),()),()))))):=by kernel_rfl
 obtain⟨x0,r1,e0,o1⟩:=nj o0;obtain⟨x1,r2,e1,o2⟩:=rY o1;obtain⟨x2,r3,e2,o3⟩:=nj o2;obtain⟨x3,r4,e3,o4⟩:=nj o3;obtain⟨x4,r5,e4,o5⟩:=nj o4;have u0:=stepG (F:=ik WX) (l:=q5 0 r0 (5,0,0,0,0,0,0,0,0,0,0,0,0,0,gM,())) (l':=q5 1 r1 (5,i64.wrap x0,0,0,0,0,0,0,0,0,0,0,0,0,gM,())) rfl e0 rfl;have u1:=stepG (F:=ik WX) (l:=q5 1 r1 (5,i64.wrap x0,0,0,0,0,0,0,0,0,0,0,0,0,gM,())) (l':=q5 2 r2 (5,i64.wrap x0,0,x1,0,0,0,0,0,0,0,0,0,0,gM,())) rfl e1 rfl;have u2:=stepG (F:=ik WX) (l:=q5 2 r2 (5,i64.wrap x0,0,x1,0,0,0,0,0,0,0,0,0,0,gM,())) (l':=q5 3 r3 (5,i64.wrap x0,0,x1,i64.wrap x2,0,0,0,0,0,0,0,0,0,gM,())) rfl e2 rfl;have u3:=stepG (F:=ik WX) (l:=q5 3 r3 (5,i64.wrap x0,0,x1,i64.wrap x2,0,0,0,0,0,0,0,0,0,gM,())) (l':=q5 4 r4 (5,i64.wrap x0,0,x1,i64.wrap x2,0,0,i64.wrap x3,0,0,0,0,0,0,gM,())) rfl e3 rfl;have u4:=stepG (F:=ik WX) (l:=q5 4 r4 (5,i64.wrap x0,0,x1,i64.wrap x2,0,0,i64.wrap x3,0,0,0,0,0,0,gM,())) (l':=q5 5 r5 (5,i64.wrap x0,0,x1,i64.wrap x2,0,0,i64.wrap x3,i64.wrap x4,0,0,0,0,0,gM,())) rfl e4 rfl;have hl:ag (ik WX) (q5 0 r0 (5,0,0,0,0,0,0,0,0,0,0,0,0,0,gM,()))=some (((),(),(),()),(0,0,0,0,0,0,0,0,0,0,0,0,0,0,gM,()),r5,(5,i64.wrap x0,0,x1,i64.wrap x2,0,0,i64.wrap x3,i64.wrap x4,0,0,0,0,0,gM,()),(((),4,0,1073741824,()),((),1,0,7,()),((),4,0,1073741824,()),((),4,0,1073741824,()),((),4,0,1073741824,()),()),()):=by
  rw[u0,u1,u2,u3,u4];exact kN (by kernel_rfl)
 obtain⟨z,hE⟩:=so r5;obtain⟨g,hR,hF⟩:=E3 (i64.wrap x0) 0 x1 (i64.wrap x2) 0 0 (i64.wrap x3) (i64.wrap x4) 0 0 0 0 0 gM;cases z with
 |false=>exact⟨_,false,by simp only[ff,hr,hu,hf,zdM,↓xl,hl,↓xo,Int.reduceEq,nk,zdN,zdO,hE,zdQ,zdR];rfl,λq=>by cases q⟩
 |true=>
  cases g with
  |false=>exact⟨_,false,by simp only[ff,hr,hu,hf,zdM,↓xl,hl,↓xo,Int.reduceEq,nk,zdN,zdO,hE,zdQ,zdR,hR];rfl,λq=>by cases q⟩
  |true=>
   have hF:=hF rfl;exact⟨(5,i64.wrap x0,0,x1,i64.wrap x2,0,0,i64.wrap x3,i64.wrap x4,0,0,0,0,0,gM,()),true,by simp only[ff,hr,hu,hf,zdM,↓xl,hl,↓xo,Int.reduceEq,nk,zdN,zdO,hE,zdQ,zdR,hR],λ_=>⟨hR,by simp,λq=>by simp at q,λq=>by simp at q,λ_=>⟨.inr (.inr (.inl rfl)),⟨hF.2.1.1,zfv hF.2.1.2 (by decide),λ_=>hF.2.1.2⟩,λq=>by simp at q,zeS _,zeS _⟩⟩⟩
abbrev q6 (k:Int)(r:nN)(c:mS):iT.D:=(((),(),(),(),3,k,()),(0,0,0,0,0,0,0,0,0,0,0,0,0,0,gM,()),r,c,(((),4,0,1073741824,()),((),1,0,8,()),((),1,1,3,()),()),())
theorem zbO {b:List Int}(hb:b.length<=1000000){r0:nN}(hu:aH WX (((),()),((b,0,false,()),()))=some ((6,()),(r0,())))(o0:vT r0):F2 b:=by
 have hr:=qf b hb;have hf:dG WX (((),()),((6,0,0,0,0,0,0,0,0,0,0,0,0,0,gM,()),()))=some (.inr (.inr (.inr (.inr (.inl (((),true,()),(6,0,0,0,0,0,0,0,0,0,0,0,0,0,gM,()),(((),4,0,1073741824,()),((),1,0,8,()),((),1,1,3,()),()),())))))):=by kernel_rfl
 obtain⟨x0,r1,e0,o1⟩:=nj o0;obtain⟨x1,r2,e1,o2⟩:=rY o1;obtain⟨x2,r3,e2,o3⟩:=rY o2;have u0:=stepG (F:=iT WX) (l:=q6 0 r0 (6,0,0,0,0,0,0,0,0,0,0,0,0,0,gM,())) (l':=q6 1 r1 (6,i64.wrap x0,0,0,0,0,0,0,0,0,0,0,0,0,gM,())) rfl e0 rfl;have u1:=stepG (F:=iT WX) (l:=q6 1 r1 (6,i64.wrap x0,0,0,0,0,0,0,0,0,0,0,0,0,gM,())) (l':=q6 2 r2 (6,i64.wrap x0,0,x1,0,0,0,0,0,0,0,0,0,0,gM,())) rfl e1 rfl;have u2:=stepG (F:=iT WX) (l:=q6 2 r2 (6,i64.wrap x0,0,x1,0,0,0,0,0,0,0,0,0,0,gM,())) (l':=q6 3 r3 (6,i64.wrap x0,0,x1,0,0,0,0,0,0,0,x2,0,0,gM,())) rfl e2 rfl;have hl:ag (iT WX) (q6 0 r0 (6,0,0,0,0,0,0,0,0,0,0,0,0,0,gM,()))=some (((),(),(),()),(0,0,0,0,0,0,0,0,0,0,0,0,0,0,gM,()),r3,(6,i64.wrap x0,0,x1,0,0,0,0,0,0,0,x2,0,0,gM,()),(((),4,0,1073741824,()),((),1,0,8,()),((),1,1,3,()),()),()):=by
  rw[u0,u1,u2];exact kN (by kernel_rfl)
 obtain⟨z,hE⟩:=so r3;obtain⟨g,hR,hF⟩:=E4 (i64.wrap x0) 0 x1 0 0 0 0 0 0 0 x2 0 0 gM;cases z with
 |false=>exact⟨_,false,by simp only[ff,hr,hu,hf,zdM,↓xl,hl,↓xo,Int.reduceEq,nk,zdN,zdO,hE,zdQ,zdR];rfl,λq=>by cases q⟩
 |true=>
  cases g with
  |false=>exact⟨_,false,by simp only[ff,hr,hu,hf,zdM,↓xl,hl,↓xo,Int.reduceEq,nk,zdN,zdO,hE,zdQ,zdR,hR];rfl,λq=>by cases q⟩
  |true=>
   have hF:=hF rfl;exact⟨(6,i64.wrap x0,0,x1,0,0,0,0,0,0,0,x2,0,0,gM,()),true,by simp only[ff,hr,hu,hf,zdM,↓xl,hl,↓xo,Int.reduceEq,nk,zdN,zdO,hE,zdQ,zdR,hR],λ_=>⟨hR,by simp,λq=>by simp at q,λq=>by simp at q,λ_=>⟨.inr (.inr (.inr (.inl rfl))),⟨hF.2.1.1,hF.2.1.2,λq=>absurd rfl q⟩,λq=>by simp at q,zeS _,zeS _⟩⟩⟩
abbrev q9 (k:Int)(r:nN)(c:mS):iD.D:=(((),(),(),(),4,k,()),(0,0,0,0,0,0,0,0,0,0,0,0,0,0,gM,()),r,c,(((),4,0,1073741824,()),((),1,1,9,()),((),1,0,255,()),((),1,0,255,()),()),())
theorem zbP {b:List Int}(hb:b.length<=1000000){r0:nN}(hu:aH WX (((),()),((b,0,false,()),()))=some ((9,()),(r0,())))(o0:vT r0):F2 b:=by
 have hr:=qf b hb;have hf:dG WX (((),()),((9,0,0,0,0,0,0,0,0,0,0,0,0,0,gM,()),()))=some (.inr (.inr (.inr (.inr (.inr (.inl (((),true,()),(9,0,0,0,0,0,0,0,0,0,0,0,0,0,gM,()),(((),4,0,1073741824,()),((),1,1,9,()),((),1,0,255,()),((),1,0,255,()),()),()))))))):=by kernel_rfl
 obtain⟨x0,r1,e0,o1⟩:=nj o0;obtain⟨x1,r2,e1,o2⟩:=rY o1;obtain⟨x2,r3,e2,o3⟩:=rY o2;obtain⟨x3,r4,e3,o4⟩:=rY o3;have u0:=stepG (F:=iD WX) (l:=q9 0 r0 (9,0,0,0,0,0,0,0,0,0,0,0,0,0,gM,())) (l':=q9 1 r1 (9,i64.wrap x0,0,0,0,0,0,0,0,0,0,0,0,0,gM,())) rfl e0 rfl;have u1:=stepG (F:=iD WX) (l:=q9 1 r1 (9,i64.wrap x0,0,0,0,0,0,0,0,0,0,0,0,0,gM,())) (l':=q9 2 r2 (9,i64.wrap x0,0,0,0,0,0,0,0,0,0,x1,0,0,gM,())) rfl e1 rfl;have u2:=stepG (F:=iD WX) (l:=q9 2 r2 (9,i64.wrap x0,0,0,0,0,0,0,0,0,0,x1,0,0,gM,())) (l':=q9 3 r3 (9,i64.wrap x0,0,0,0,0,0,0,0,0,0,x1,x2,0,gM,())) rfl e2 rfl;have u3:=stepG (F:=iD WX) (l:=q9 3 r3 (9,i64.wrap x0,0,0,0,0,0,0,0,0,0,x1,x2,0,gM,())) (l':=q9 4 r4 (9,i64.wrap x0,0,0,0,0,0,0,0,0,0,x1,x2,x3,gM,())) rfl e3 rfl;have hl:ag (iD WX) (q9 0 r0 (9,0,0,0,0,0,0,0,0,0,0,0,0,0,gM,()))=some (((),(),(),()),(0,0,0,0,0,0,0,0,0,0,0,0,0,0,gM,()),r4,(9,i64.wrap x0,0,0,0,0,0,0,0,0,0,x1,x2,x3,gM,()),(((),4,0,1073741824,()),((),1,1,9,()),((),1,0,255,()),((),1,0,255,()),()),()):=by
  rw[u0,u1,u2,u3];exact kN (by kernel_rfl)
 obtain⟨z,hE⟩:=so r4;obtain⟨g,hR,hF⟩:=E5 (i64.wrap x0) 0 0 0 0 0 0 0 0 0 x1 x2 x3 gM;cases z with
 |false=>exact⟨_,false,by simp only[ff,hr,hu,hf,zdM,↓xl,hl,↓xo,Int.reduceEq,nk,zdN,zdO,hE,zdQ,zdR];rfl,λq=>by cases q⟩
 |true=>
  cases g with
  |false=>exact⟨_,false,by simp only[ff,hr,hu,hf,zdM,↓xl,hl,↓xo,Int.reduceEq,nk,zdN,zdO,hE,zdQ,zdR,hR];rfl,λq=>by cases q⟩
  |true=>
   have hF:=hF rfl;exact⟨(9,i64.wrap x0,0,0,0,0,0,0,0,0,0,x1,x2,x3,gM,()),true,by simp only[ff,hr,hu,hf,zdM,↓xl,hl,↓xo,Int.reduceEq,nk,zdN,zdO,hE,zdQ,zdR,hR],λ_=>⟨hR,by simp,λq=>by simp at q,λq=>by simp at q,λ_=>⟨.inr (.inr (.inr (.inr rfl))),⟨zeS _,(by show(0:Int)<=8;decide),λ_=>(by show(0:Int)<=7;decide)⟩,λ_=>hF.2.1,hF.2.2.1.1,hF.2.2.2.1⟩⟩⟩
theorem zbQ {b:List Int}(hb:b.length<=1000000){r0:nN}(hu:aH WX (((),()),((b,0,false,()),()))=some ((2,()),(r0,())))(o0:vT r0):F2 b:=by
 have hr:=qf b hb;have hf:dG WX (((),()),((2,0,0,0,0,0,0,0,0,0,0,0,0,0,gM,()),()))=some (.inr (.inr (.inr (.inr (.inr (.inr (((),true,()),(2,0,0,0,0,0,0,0,0,0,0,0,0,0,gM,()),()))))))):=by kernel_rfl
 have hl:ag (gR WX) (((),(),(),(),0,0,()),(0,0,0,0,0,0,0,0,0,0,0,0,0,0,gM,()),r0,(2,0,0,0,0,0,0,0,0,0,0,0,0,0,gM,()),())=some (((),(),(),()),(0,0,0,0,0,0,0,0,0,0,0,0,0,0,gM,()),r0,(2,0,0,0,0,0,0,0,0,0,0,0,0,0,gM,()),()):=kN (by simp only[gR,↓xo,oF ((0:Int)<0),nk,zdN])
 obtain⟨l,r1,hS,o1,hL⟩:=WB o0;obtain⟨z,hE⟩:=so r1;obtain⟨g,hR⟩:=E6 0 0 0 0 0 0 0 0 0 0 0 0 0 l;cases z with
 |false=>exact⟨_,false,by simp only[ff,hr,hu,hf,zdM,↓xl,hl,↓xo,eq_self,Int.reduceEq,iF,nk,zdN,zdO,hE,zdQ,zdR,hS];rfl,λq=>by cases q⟩
 |true=>
  cases g with
  |false=>exact⟨_,false,by simp only[ff,hr,hu,hf,zdM,↓xl,hl,↓xo,eq_self,Int.reduceEq,iF,nk,zdN,zdO,hE,zdQ,zdR,hS,hR];rfl,λq=>by cases q⟩
  |true=>exact⟨(2,0,0,0,0,0,0,0,0,0,0,0,0,0,l,()),true,by simp only[ff,hr,hu,hf,zdM,↓xl,hl,↓xo,eq_self,Int.reduceEq,iF,nk,zdN,zdO,hE,zdQ,zdR,hS,hR],λ_=>⟨hR,by simp,λq=>by simp at q,λ_=>hL,λq=>by simp at q⟩⟩
theorem zbR {b:List Int}(hb:b.length<=1000000){r0:nN}(hu:aH WX (((),()),((b,0,false,()),()))=some ((7,()),(r0,())))(o0:vT r0):F2 b:=by
 have hr:=qf b hb;have hf:dG WX (((),()),((7,0,0,0,0,0,0,0,0,0,0,0,0,0,gM,()),()))=some (.inr (.inr (.inr (.inr (.inr (.inr (((),true,()),(7,0,0,0,0,0,0,0,0,0,0,0,0,0,gM,()),()))))))):=by kernel_rfl
 have hl:ag (gR WX) (((),(),(),(),0,0,()),(0,0,0,0,0,0,0,0,0,0,0,0,0,0,gM,()),r0,(7,0,0,0,0,0,0,0,0,0,0,0,0,0,gM,()),())=some (((),(),(),()),(0,0,0,0,0,0,0,0,0,0,0,0,0,0,gM,()),r0,(7,0,0,0,0,0,0,0,0,0,0,0,0,0,gM,()),()):=kN (by simp only[gR,↓xo,oF ((0:Int)<0),nk,zdN])
 obtain⟨z,hE⟩:=so r0;obtain⟨g,hR⟩:=E7 0 0 0 0 0 0 0 0 0 0 0 0 0 gM;cases z with
 |false=>exact⟨_,false,by simp only[ff,hr,hu,hf,zdM,↓xl,hl,↓xo,eq_self,Int.reduceEq,iF,nk,zdN,zdO,hE,zdQ,zdR];rfl,λq=>by cases q⟩
 |true=>
  cases g with
  |false=>exact⟨_,false,by simp only[ff,hr,hu,hf,zdM,↓xl,hl,↓xo,eq_self,Int.reduceEq,iF,nk,zdN,zdO,hE,zdQ,zdR,hR];rfl,λq=>by cases q⟩
  |true=>exact⟨(7,0,0,0,0,0,0,0,0,0,0,0,0,0,gM,()),true,by simp only[ff,hr,hu,hf,zdM,↓xl,hl,↓xo,eq_self,Int.reduceEq,iF,nk,zdN,zdO,hE,zdQ,zdR,hR],λ_=>⟨hR,by simp,λq=>by simp at q,λq=>by simp at q,λq=>by simp at q⟩⟩
theorem zbS {b:List Int}(hb:b.length<=1000000){r0:nN}(hu:aH WX (((),()),((b,0,false,()),()))=some ((8,()),(r0,())))(o0:vT r0):F2 b:=by
 have hr:=qf b hb;have hf:dG WX (((),()),((8,0,0,0,0,0,0,0,0,0,0,0,0,0,gM,()),()))=some (.inr (.inr (.inr (.inr (.inr (.inr (((),true,()),(8,0,0,0,0,0,0,0,0,0,0,0,0,0,gM,()),()))))))):=by kernel_rfl
 have hl:ag (gR WX) (((),(),(),(),0,0,()),(0,0,0,0,0,0,0,0,0,0,0,0,0,0,gM,()),r0,(8,0,0,0,0,0,0,0,0,0,0,0,0,0,gM,()),())=some (((),(),(),()),(0,0,0,0,0,0,0,0,0,0,0,0,0,0,gM,()),r0,(8,0,0,0,0,0,0,0,0,0,0,0,0,0,gM,()),()):=kN (by simp only[gR,↓xo,oF ((0:Int)<0),nk,zdN])
 obtain⟨z,hE⟩:=so r0;obtain⟨g,hR⟩:=E8 0 0 0 0 0 0 0 0 0 0 0 0 0 gM;cases z with
 |false=>exact⟨_,false,by simp only[ff,hr,hu,hf,zdM,↓xl,hl,↓xo,eq_self,Int.reduceEq,iF,nk,zdN,zdO,hE,zdQ,zdR];rfl,λq=>by cases q⟩
 |true=>
  cases g with
  |false=>exact⟨_,false,by simp only[ff,hr,hu,hf,zdM,↓xl,hl,↓xo,eq_self,Int.reduceEq,iF,nk,zdN,zdO,hE,zdQ,zdR,hR];rfl,λq=>by cases q⟩
  |true=>exact⟨(8,0,0,0,0,0,0,0,0,0,0,0,0,0,gM,()),true,by simp only[ff,hr,hu,hf,zdM,↓xl,hl,↓xo,eq_self,Int.reduceEq,iF,nk,zdN,zdO,hE,zdQ,zdR,hR],λ_=>⟨hR,by simp,λq=>by simp at q,λq=>by simp at q,λq=>by simp at q⟩⟩
theorem WC {b:List Int}(hb:b.length<=1000000):F2 b:=by
 obtain⟨x,r0,hu,o0⟩:=rY (r:=(b,0,false,())) ⟨zeS _,Int.natCast_nonneg _,hb⟩;by_cases h1:x=1
 ·subst h1;exact zbK hb hu o0
 by_cases h2:x=2
 ·subst h2;exact zbQ hb hu o0
 by_cases h3:x=3
 ·subst h3;exact zbL hb hu o0
 by_cases h4:x=4
 ·subst h4;exact zbM hb hu o0
 by_cases h5:x=5
 ·subst h5;exact zbN hb hu o0
 by_cases h6:x=6
 ·subst h6;exact zbO hb hu o0
 by_cases h7:x=7
 ·subst h7;exact zbR hb hu o0
 by_cases h8:x=8
 ·subst h8;exact zbS hb hu o0
 by_cases h9:x=9
 ·subst h9;exact zbP hb hu o0
 have hr:=qf b hb;have hf:=OG 0 0 0 0 0 0 0 0 0 0 0 0 0 gM h1 h2 h3 h4 h5 h6 h7 h8 h9;have hR:=TR 0 0 0 0 0 0 0 0 0 0 0 0 0 gM h1 h2 h3 h4 h5 h6 h7 h8 h9;have hl:ag (gR WX) (((),(),(),(),0,0,()),(0,0,0,0,0,0,0,0,0,0,0,0,0,0,gM,()),r0,(x,0,0,0,0,0,0,0,0,0,0,0,0,0,gM,()),())=some (((),(),(),()),(0,0,0,0,0,0,0,0,0,0,0,0,0,0,gM,()),r0,(x,0,0,0,0,0,0,0,0,0,0,0,0,0,gM,()),()):=kN (by simp only[gR,↓xo,oF ((0:Int)<0),nk,zdN])
 obtain⟨z,hE⟩:=so r0;cases z with
 |false=>exact⟨_,false,by simp only[ff,hr,hu,hf,zdM,↓xl,hl,↓xo,bg h2,zdN,zdO,hE,zdQ,zdR,hR];rfl,λq=>by cases q⟩
 |true=>exact⟨_,false,by simp only[ff,hr,hu,hf,zdM,↓xl,hl,↓xo,bg h2,zdN,zdO,hE,zdQ,zdR,hR];rfl,λq=>by cases q⟩
theorem OH (n:Int):kV WX ((n,()),())=some ((decide (1<=n/\n<=256),()),()):=by
 by_cases h1:n>=1
 ·by_cases h2:n<=256
  ·simp only[kV,↓xo,ot h1,zdO,ot h2];rw[decide_eq_true ⟨h1,h2⟩]
  ·simp only[kV,↓xo,ot h1,zdO,bg h2];rw[decide_eq_false (λq=>h2 q.2)]
 ·simp only[kV,↓xo,bg h1,zdN];rw[decide_eq_false (λq=>h1 q.1)]
theorem Qz (left:List Int)(hl:left.length<=1000000): ∃(out:List (List Int)) (wD:(List Int)×Bool×Unit),ag (bJ WX) (((),(),()),(left,false,()),[],())=some ((out,()),(wD,()))/\2*out.length+wD.1.length<=left.length/\∀x∈out,x.length<=1000000:=by
 have key:=rD (b:=bJ WX) (λk l=> ∃(a:List Int) (out:List (List Int)),l=(((),(),()),(a,false,()),out,())/\k=a.length/\2*out.length+a.length<=left.length/\∀x∈out,x.length<=1000000)
  (λr=> ∃(out:List (List Int)) (wD:(List Int)×Bool×Unit),r=((out,()),(wD,()))/\2*out.length+wD.1.length<=left.length/\∀x∈out,x.length<=1000000) (λk l hk=>by
  obtain⟨a,out,rfl,rfl,h1,h2⟩:=hk;by_cases hc:(a.length:Int)>=2
  ·have x0:=zdS (l:=a) (i:=0) (by omega)
   have x1:=zdS (l:=a) (i:=1) (by omega)
   generalize a[0]'(by omega)=y0 at x0
   generalize a[1]'(by omega)=y1 at x1
   have z0:(0:Int).toNat=0:=rfl;have z1:(1:Int).toNat=1:=rfl;have z2:(2:Int).toNat=2:=rfl;have e8: ¬(8:Int)<0:=by omega
   have e0:(0:Int)<=0:=by omega
   have Wa:(0:Int)<=1:=by omega
   generalize hN:WX.AO .i64 (WX.shl .i64 (i64.wrap y0) 8) (i64.wrap y1)=N;have hm:=OH N;by_cases hN1:1<=N/\N<=256
   ·rw[decide_eq_true hN1] at hm
    have w1:i64.wrap ((a.length:Int)-2)=(a.length:Int)-2:=nR (by omega) (by omega)
    have w2:i64.wrap (2+N)=2+N:=nR (by omega) (by omega)
    by_cases hs:(a.length:Int)-2<N
    ·exact .inr ⟨((out,()),((a,false,()),())),by simp only[bJ,↓xo,xw,ot hc,ot e0,ot Wa,bg e8,zdO,zdN,z0,z1,x0,x1,zdM,hN,hm,zdQ,w1,ot hs],out,(a,false,()),rfl,h1,h2⟩
    ·have c1:=vQ ((a.take (2+N).toNat).drop 2) (by rw[zei,zeh];omega)
     have c2:=vQ (a.drop (2+N).toNat) (by rw[zei];omega)
     refine .inl ⟨(((),(),()),(a.drop (2+N).toNat,false,()),out++ [(a.take (2+N).toNat).drop 2],()),by simp only[bJ,↓xo,xw,ot hc,ot e0,ot Wa,bg e8,zdO,zdN,z0,z1,z2,x0,x1,zdM,hN,hm,zdQ,w1,bg hs,w2,oT (0<=(2:Int)/\(2:Int)<=2+N/\2+N<=(a.length:Int)),c1,ot (show(((out.length+([(a.take (2+N).toNat).drop 2]:List (List Int)).length:Nat):Int))*((24:Nat):Int)<=((room:Nat):Int) by unfold room;simp only[zdX,zdY];omega),oT (0<=2+N/\2+N<=(a.length:Int)/\(a.length:Int)<=(a.length:Int)),c2],(a.drop (2+N).toNat).length,by rw[zei];omega,_,_,rfl,rfl,?_,λx hx=>?_⟩
     ·rw[zdW,zei];simp only[zdX,zdY];omega
     ·rcases List.mem_append.1 hx with hx|hx
      ·exact h2 x hx
      ·rw[List.mem_singleton.1 hx,zei,zeh];omega
   ·rw[decide_eq_false hN1] at hm
    refine .inr ⟨((out,()),(([],true,()),())),by simp only[bJ,↓xo,xw,ot hc,ot e0,ot Wa,bg e8,zdO,zdN,z0,z1,x0,x1,zdM,hN,hm,zdR],out,([],true,()),rfl,?_,h2⟩
    simp only[zdY];omega
  ·exact .inr ⟨((out,()),((a,false,()),())),by simp only[bJ,↓xo,bg hc,zdN],out,(a,false,()),rfl,h1,h2⟩)
 obtain⟨r,h1,out,wD,rfl,h2,h3⟩:=key left.length (((),(),()),(left,false,()),[],()) ⟨left,[],rfl,rfl,by simp,λx hx=>(by cases hx)⟩
 exact⟨out,wD,h1,h2,h3⟩
theorem TS (fr:(List Int)×Bool×Unit)(bs:List Int)(hl:fr.1.length+bs.length<=1000000): ∃(out:List (List Int)) (wD:(List Int)×Bool×Unit),(cj WX (((),bs,()),(fr,()))=some (.inl (((),()),wD,out,()))\/cj WX (((),bs,()),(fr,()))=some (.inr ((out,()),(wD,()))))/\2*out.length+wD.1.length<=fr.1.length+bs.length/\∀x∈out,x.length<=1000000:=by
 obtain⟨left,bad,⟨⟩⟩:=fr;simp only at hl;cases bad with
 |true=>exact⟨[],(left,true,()), .inl (by simp only[cj,zdO]),by simp,λx hx=>(by cases hx)⟩
 |false=>
  have vC: [left,bs].flatten=left++bs:=by simp
  obtain⟨out,wD,g1,g2,g3⟩:=Qz (left++bs) (by rw[zdW];omega)
  rw[zdW] at g2;refine⟨out,wD, .inr ?_,g2,g3⟩;rcases FQ [left,bs] (by rw[vC,zdW];omega) (by simp) with⟨c1,c2⟩|c1
  ·rw[vC] at c2
   rw[c2] at g1;simp only[cj,zdN,c1,zdM,↓xl,g1]
  ·rw[vC] at c1
   simp only[cj,zdN,c1,zdM,ze4,↓xl,g1]
section
variable {P:Nat->V->(Nat->MS)->Prop}{k m:Nat}{v:V}{μ:Nat->MS}{i:Nat}
theorem VI.le (pk:PK P)(h:VI P k m v μ){k':Nat}(hk:k<=k'):VI P k' m v μ:=by
 have: ∀d,VI P (k+d) m v μ:=by
  intro d;induction d with
  |zero=>exact h
  |succ d ih=>exact⟨ih.ss,ih.ci,ih.mt,ih.lg,pk.more ih.p,ih.qi⟩
 have:=this (k'-k);rwa [show k+(k'-k)=k' by omega] at this
theorem TT {s:wV}(h:s.1=3)(sq now:Int): ∃b nx,ee WX (((),sq,now,()),(s,()))=some ((b,()),((3,s.2.1,s.2.2.1,nx,now,()),())):=by
 by_cases h1:sq=s.2.2.2.1
 ·by_cases h2:s.2.2.2.1=1073741824
  ·exact⟨false,s.2.2.2.1,by simp only[ee,dz,↓xo,eq_self,iF,zdQ,zdN,zdM,ot h1,ot h2,zdO,h]⟩
  ·exact⟨true,i64.wrap (s.2.2.2.1+1),by simp only[ee,dz,↓xo,xw,eq_self,iF,zdQ,zdN,zdM,ot h1,bg h2,h]⟩
 ·exact⟨false,s.2.2.2.1,by simp only[ee,dz,↓xo,eq_self,iF,zdQ,zdR,zdN,zdO,zdM,bg h1,h]⟩
theorem TU {c:mS}(h:bm WX ((c,()),())=some ((true,()),()))(hk:c.1=3\/c.1=4\/c.1=5\/c.1=6\/c.1=9):iB WX ((c,()),())=some ((true,()),()):=by
 by_cases h3:c.1=3
 ·simp only[iB,↓xo,ot h3,zdO,h,zdM]
 by_cases h4:c.1=4
 ·simp only[iB,↓xo,bg h3,ot h4,zdO,zdN,h,zdM]
 by_cases h5:c.1=5
 ·simp only[iB,↓xo,bg h3,bg h4,ot h5,zdO,zdN,h,zdM]
 by_cases h6:c.1=6
 ·simp only[iB,↓xo,bg h3,bg h4,bg h5,ot h6,zdO,zdN,h,zdM]
 ·have h9:c.1=9:=by omega
  simp only[iB,↓xo,bg h3,bg h4,bg h5,bg h6,ot h9,zdO,zdN,h,zdM]
theorem Kz (pk:PK P)(h:VI P k m v μ)(hm:m<=90000000000)(hi:i<16)(yk:(jk v i).1=3){c:mS}(hc:XF c)(h1: ¬c.1=1)(h2: ¬c.1=2): ∃v' μ' m',dQ WX (((),(i:Int),c,()),v.e)=some ((),v'.e)/\VI P (k+1) m' v' μ'/\m'<=m+100/\Ev i v v':=by
 obtain⟨f,o,s,fr,ou,og,mh⟩:=h.ci i hi;rw[wL og] at yk;have kd:=hc.kind;by_cases h7:c.1=7
 ·have v1:=EX pk h og (s':=(3,s.2.1,s.2.2.1,s.2.2.2.1,v.now,())) ⟨mh.out,mh.rB,by simp,mh.qy⟩ (IN h.qi og (λ_=>⟨yk,rfl⟩))
  have ev:=EY og (s':=(3,s.2.1,s.2.2.1,s.2.2.2.1,v.now,())) (.inr rfl);refine⟨_,μ,m,?_,v1.le pk (by omega),by omega,ev⟩
  simp only[dQ,V.e,↓xo,ot (lr hi),zdO,zdP,og.c,zdM,ot h7,bd,an,og.S,dz,eq_self,iF,zdQ,zdN,yk]
 by_cases h8:c.1=8
 ·obtain⟨v1,w1,w2,w3⟩:=AN pk h hi ZX
  obtain⟨v2,μ',m',d1,d2,d3,d4,_⟩:=qe pk w2 (by omega) hi
  refine⟨v2,μ',m',?_,d2.le pk (by omega),by omega,(w3.dw.trans d4).ev i⟩
  simp only[V.e] at w1 d1;simp only[dQ,V.e,↓xo,ot (lr hi),zdO,zdP,og.c,zdM,bg h7,ot h8,zdN,w1,d1]
 have hk:c.1=3\/c.1=4\/c.1=5\/c.1=6\/c.1=9:=by omega
 obtain⟨b,nx,ht⟩:=TT yk c.2.1 v.now;have v1:=EX pk h og (s':=(3,s.2.1,s.2.2.1,nx,v.now,())) ⟨mh.out,mh.rB,by simp,mh.qy⟩ (IN h.qi og (λ_=>⟨yk,rfl⟩))
 have ev:=EY og (s':=(3,s.2.1,s.2.2.1,nx,v.now,())) (.inr rfl);cases b with
 |false=>
  obtain⟨v2,w1,w2,w3⟩:=uS pk v1 hi c.2.1 14;refine⟨v2,μ,m,?_,w2.le pk (by omega),by omega,ev.trans (w3.dw.ev i)⟩
  simp only[V.e] at w1;simp only[dQ,V.e,↓xo,ot (lr hi),zdO,zdP,og.c,zdM,bg h7,bg h8,zdN,bd,an,og.S,ht,zdR,w1]
 |true=>
  obtain⟨e,v2,μ',m',r1,r2,r3,r4⟩:=zbH pk v1 (by omega) mh.qy (hc.cmd hk) hc.right (TU hc.right hk)
  have e32: ¬(3:Int)=2:=by omega
  have uB:=ko (y:=(((3:Int),s.2.1,s.2.2.1,nx,v.now,()),())) og.S;simp only[V.e] at r1;by_cases he:e=0
  ·subst he
   obtain⟨v3,w1,w2,w3⟩:=AN pk r2 hi (ZY c.2.1);refine⟨v3,μ',m',?_,w2,r3,ev.trans ((r4.trans w3).dw.ev i)⟩;simp only[V.e] at w1;simp only[dQ,V.e,↓xo,ot (lr hi),zdO,zdP,og.c,zdM,bg h7,bg h8,zdN,bd,an,og.S,ht,zdQ,uB,aA,bg e32,eq_self,iF,zfo,r1,w1]
  ·obtain⟨v3,w1,w2,w3⟩:=uS pk r2 hi c.2.1 e
   refine⟨v3,μ',m',?_,w2,r3,ev.trans ((r4.trans w3).dw.ev i)⟩;simp only[V.e] at w1;simp only[dQ,V.e,↓xo,ot (lr hi),zdO,zdP,og.c,zdM,bg h7,bg h8,zdN,bd,an,og.S,ht,zdQ,zdR,uB,aA,bg e32,eq_self,iF,zfo,r1,bg he,w1]
theorem TV (pk:PK P)(h:VI P k m v μ)(hm:m<=90000000000)(hi:i<16){x:List Int}(hx:x.length<=1000000): ∃v' μ' m',c9 WX (((),(i:Int),x,()),v.e)=some ((),v'.e)/\VI P (k+1) m' v' μ'/\m'<=m+100/\Ev i v v':=by
 obtain⟨f,o,s,fr,ou,og,mh⟩:=h.ci i hi;obtain⟨c,ok,g1,g2⟩:=WC hx;cases ok with
 |false=>
  obtain⟨v2,μ',m',d1,d2,d3,d4,_⟩:=qe pk h (by omega) hi
  refine⟨v2,μ',m',?_,d2.le pk (by omega),by omega,d4.ev i⟩
  simp only[V.e] at d1;simp only[c9,V.e,↓xo,ot (lr hi),zdO,zdP,og.c,zdM,g1,zdR,d1]
 |true=>
  have hc:=g2 rfl;by_cases h1:c.1=1
  ·by_cases hs:s.1=1
   ·have v1:=EX pk h og (s':=(2,c.2.2.1,s.2.2.1,s.2.2.2.1,v.now,())) ⟨mh.out,mh.rB,by simp,hc.zbJ h1⟩ (IN h.qi og (λq=>by simp at q))
    have ev:=EY og (s':=(2,c.2.2.1,s.2.2.1,s.2.2.2.1,v.now,())) (.inr rfl);obtain⟨v2,w1,w2,w3⟩:=AN pk v1 hi (IM mh.rB);refine⟨v2,μ,m,?_,w2.le pk (by omega),by omega,ev.trans (w3.dw.ev i)⟩
    have uB:=ko (y:=(((2:Int),c.2.2.1,s.2.2.1,s.2.2.2.1,v.now,()),())) og.S;have Uv: ¬(2:Int)=1:=by omega
    simp only[V.e] at w1;simp only[c9,V.e,↓xo,ot (lr hi),zdO,zdP,og.c,zdM,g1,zdQ,zdN,ot h1,bd,an,og.S,eK,ot hs,uB,fa,bg Uv,eq_self,iF,zfo,w1]
   ·obtain⟨v2,μ',m',d1,d2,d3,d4,_⟩:=qe pk h (by omega) hi
    refine⟨v2,μ',m',?_,d2.le pk (by omega),by omega,d4.ev i⟩
    simp only[V.e] at d1;simp only[c9,V.e,↓xo,ot (lr hi),zdO,zdP,og.c,zdM,g1,zdQ,zdR,zdN,ot h1,bd,an,og.S,eK,bg hs,aJ og.S,d1]
  by_cases h2:c.1=2
  ·obtain⟨v2,μ',m',d1,d2,d3,d4⟩:=M5 pk h hm hi (hc.ans h2)
   refine⟨v2,μ',m',?_,d2.le pk (by omega),d3,d4⟩
   simp only[V.e] at d1;simp only[c9,V.e,↓xo,ot (lr hi),zdO,zdP,og.c,zdM,g1,zdQ,zdN,bg h1,ot h2,d1]
  by_cases h3:s.1=3
  ·obtain⟨v2,μ',m',d1,d2,d3,d4⟩:=Kz pk h hm hi (by rw[wL og];exact h3) hc h1 h2
   refine⟨v2,μ',m',?_,d2,d3,d4⟩;simp only[V.e] at d1;simp only[c9,V.e,↓xo,ot (lr hi),zdO,zdP,og.c,zdM,g1,zdQ,zdN,bg h1,bg h2,an,og.S,aj,ot h3,aJ og.S,d1]
  ·obtain⟨v2,μ',m',d1,d2,d3,d4,_⟩:=qe pk h (by omega) hi
   refine⟨v2,μ',m',?_,d2.le pk (by omega),by omega,d4.ev i⟩
   simp only[V.e] at d1;simp only[c9,V.e,↓xo,ot (lr hi),zdO,zdP,og.c,zdM,g1,zdQ,zdR,zdN,bg h1,bg h2,an,og.S,aj,bg h3,aJ og.S,d1]
end
structure Ew (i:Nat)(v v':V):Prop where
 now:v'.now=v.now
 cfg:v'.cfg=v.cfg
 jk: ∀j,j<16->jk v' j=jk v j\/(jk v' j).1=0\/(j=i/\(jk v' j).2.2.2.2.1=v.now)
theorem Ev.ew {i:Nat}{v v':V}(h:Ev i v v'):Ew i v v':=⟨h.now,h.cfg,h.jk⟩
section
variable {P:Nat->V->(Nat->MS)->Prop}{k m:Nat}{v:V}{μ:Nat->MS}{i:Nat}
theorem WD {F:List xe}{f:Nat}{y:xe}(h:F[f]?=some y):y.1.1.length<=lH F:=by
 have:=G2 h (x:=(([],false,()),()));simp only[zdY] at this;omega
theorem KA (pk:PK P)(h:VI P k m v μ)(hi:i<16)(out:List (List Int))(ho: ∀x∈out,x.length<=1000000)(hl:out.length<=1000000)(hm:m<=10000000000): ∃v' μ' m',ag (bP WX) (((),(i:Int),out,(out.length:Int),0,()),v.e)=some (((),(i:Int),()),v'.e)/\VI P (k+out.length) m' v' μ'/\m'<=m+900*out.length/\Ev i v v':=by
 have key:=rD (b:=bP WX) (λq l=> ∃(j:Nat) (v1:V) (μ1:Nat->MS) (m1:Nat),j<=out.length/\q=out.length-j/\l=(((),(i:Int),out,(out.length:Int),(j:Int),()),v1.e)/\VI P (k+j) m1 v1 μ1/\m1<=m+900*j/\Ev i v v1)
  (λr=> ∃(v1:V) (μ1:Nat->MS) (m1:Nat),r=(((),(i:Int),()),v1.e)/\VI P (k+out.length) m1 v1 μ1/\m1<=m+900*out.length/\Ev i v v1) (λq l hq=>by
  obtain⟨j,v1,μ1,m1,hj,rfl,rfl,i1,i2,i3⟩:=hq;by_cases hc:j<out.length
  ·obtain⟨f,o,s,fr,ou,og,mh⟩:=i1.ci i hi
   have hA:=Sy og;have hx:=zdS hc;have W3:=ho _ (ze0 hc);have e1:=lG hc hl;generalize out[j]=x at hx W3;by_cases h0:s.1=0
   ·exact .inr ⟨(((),(i:Int),()),v1.e),by simp only[bP,↓xo,oT ((j:Int)<(out.length:Int)),oT ((0:Int)<=(j:Int)),zdO,zdP,hx,zdM,hA,ot h0],v1,μ1,m1,rfl,i1.le pk (by omega),by omega,i3⟩
   ·obtain⟨rA,r,h3,h4⟩:=tM i1.mt (i:=0) (by omega)
    change aT WX (((),0,1,()),_)=_ at h3;have v2:VI P (k+j) m1 {v1 with mt:=rA} μ1:=⟨i1.ss.oP (by rfl),i1.ci.oP rfl rfl rfl rfl,h4,i1.lg,pk.oP i1.p (by rfl) (by rfl) (by rfl),i1.qi.mono (λ_ _ h=>⟨h,rfl⟩) .rfl (by rfl)⟩
    obtain⟨v3,μ3,m3,b1,b2,b3,b4⟩:=TV pk v2 (by omega) hi W3
    obtain⟨v4,μ4,m4,s1,s2,s3,s4,_⟩:=yw pk b2 (by omega)
    have b4':Ev i v1 v3:=⟨b4.now,b4.cfg,b4.left,b4.jk⟩;refine .inl ⟨(((),(i:Int),out,(out.length:Int),((j+1:Nat):Int),()),v4.e),?_,out.length-(j+1),by omega,j+1,v4,μ4,m4,by omega,rfl,rfl,s2,by omega,i3.trans (b4'.trans (s4.ev i))⟩
    simp only[V.e] at hA b1 s1⊢;simp only[bP,↓xo,xw,oT ((j:Int)<(out.length:Int)),oT ((0:Int)<=(j:Int)),zdO,zdP,hx,zdM,hA,bg h0,zdN,h3,b1,s1,e1]
  ·obtain rfl:j=out.length:=by omega
   exact .inr ⟨(((),(i:Int),()),v1.e),by simp only[bP,↓xo,oF ((out.length:Int)<(out.length:Int)),zdN],v1,μ1,m1,rfl,i1,i2,i3⟩)
 obtain⟨r,h1,v1,μ1,m1,rfl,h2,h3,h4⟩:=key out.length (((),(i:Int),out,(out.length:Int),0,()),v.e) ⟨0,v,μ,m,by omega,by omega,rfl,h,by omega, .rfl i v⟩
 exact⟨v1,μ1,m1,h1,h2,h3,h4⟩
theorem QA (pk:PK P)(h:VI P k m v μ)(hi:i<16)(bs:List Int)(hl:lH v.F+bs.length<=1000000)(hm:m<=10000000000): ∃v' μ' k' m',cR WX (((),(i:Int),bs,()),v.e)=some ((),v'.e)/\VI P k' m' v' μ'/\2*k'+lH v'.F<=2*k+lH v.F+bs.length/\m'<=m+1000*(lH v.F+bs.length+1)/\Ew i v v':=by
 obtain⟨f,o,s,fr,ou,og,mh⟩:=h.ci i hi;have vC:=WD og.F;simp only at vC;obtain⟨out,wD,g1,g2,g3⟩:=TS fr bs (by omega)
 have hls:=G2 og.F (x:=(wD,()));simp only at hls;have v1:VI P k m {v with F:=v.F.set f (wD,())} μ:=⟨h.ss.oP (by rfl),λj hj=>by
  obtain⟨f2,o2,s2,Uw,VW,c1,c2⟩:=h.ci j hj;by_cases e:f2=f
  ·subst e
   exact⟨f2,o2,s2,wD,VW,⟨c1.lt,c1.c,c1.S,ko c1.F,c1.O⟩,c2⟩
  ·exact⟨f2,o2,s2,Uw,VW,⟨c1.lt,c1.c,c1.S,by show(v.F.set f _)[f2]?=_;rw[kL e];exact c1.F,c1.O⟩,c2⟩,h.mt,h.lg,pk.oP h.p (by rfl) (by rfl) (by rfl),h.qi.mono (λ_ _ h=>⟨h,rfl⟩) .rfl (by rfl)⟩
 obtain⟨v2,μ2,m2,l1,l2,l3,l4⟩:=KA pk v1 hi out g3 (by omega) hm
 have hle:lH v2.F=lH (v.F.set f (wD,())):=l4.left;have ew:Ew i v v2:=⟨l4.now,l4.cfg,l4.jk⟩;obtain⟨f3,o3,s3,fr3,ou3,c3,ok3⟩:=l2.ci i hi;simp only[V.e] at l1;cases hb:fr3.2.1 with
 |false=>
  refine⟨v2,μ2,k+out.length,m2,?_,l2,by omega,by omega,ew⟩
  simp only[V.e];rcases g1 with g1|g1
  ·simp only[cR,↓xo,ot (lr hi),zdO,zdP,og.c,zdM,an,og.F,g1,↓xl,l1,c3.c,c3.F,eE,hb,zdN,aJ c3.F]
  ·simp only[cR,↓xo,ot (lr hi),zdO,zdP,og.c,zdM,an,og.F,g1,↓xl,l1,c3.c,c3.F,eE,hb,zdN,aJ c3.F]
 |true=>
  obtain⟨v3,μ3,m3,d1,d2,d3,d4,_⟩:=qe pk l2 (by omega) hi
  obtain⟨v4,μ4,m4,w1,w2,w3,w4,_⟩:=yw pk d2 (by omega)
  have dw:=d4.trans w4;have zdL:lH v4.F=lH v2.F:=dw.left;have dv:=dw.ev i;refine⟨v4,μ4,k+out.length,m4,?_,w2,by omega,by omega,⟨dv.now.trans ew.now,dv.cfg.trans ew.cfg,λj hj=>?_⟩⟩
  ·simp only[V.e] at d1 w1⊢
   rcases g1 with g1|g1
   ·simp only[cR,↓xo,ot (lr hi),zdO,zdP,og.c,zdM,an,og.F,g1,↓xl,l1,c3.c,c3.F,eE,hb,aJ c3.F,d1,w1]
   ·simp only[cR,↓xo,ot (lr hi),zdO,zdP,og.c,zdM,an,og.F,g1,↓xl,l1,c3.c,c3.F,eE,hb,aJ c3.F,d1,w1]
  ·rcases dw.jk j hj with e|e
   ·rw[e];exact ew.jk j hj
   ·exact .inr (.inl e)
def DoR (P:Nat->V->(Nat->MS)->Prop)(k m:Nat)(v:V)(i:Nat)(n:Nat)(o:Option ((Bool×Unit)×VT)):Prop:=
 (o=some ((false,()),v.e))\/∃v' μ' k' m',o=some ((true,()),v'.e)/\VI P k' m' v' μ'/\2*k'+lH v'.F<=2*k+lH v.F+n/\m'<=m+1000*(lH v.F+n+1)/\Ew i v v'
theorem M6 (pk:PK P)(h:VI P k m v μ)(hi:i<16)(bs:List Int)(hl:lH v.F+bs.length<=1000000)(hm:m<=10000000000):DoR P k m v i bs.length (aI WX (((),(2,(i:Int),0,gM,bs,()),()),v.e)):=by
 obtain⟨f,o,s,fr,ou,og,mh⟩:=h.ci i hi;have e1: ¬(2:Int)=4:=by omega
 have e2: ¬(2:Int)=1:=by omega
 by_cases h0:s.1=0
 ·refine .inl ?_
  simp only[aI,fh,V.e,↓xo,bg e1,bg e2,zdN,oT ((i:Int)>=0),oT ((i:Int)<16),ot (lr hi),zdO,zdM,zdQ,eq_self,iF,zdP,og.c,an,og.S,aj,ot h0,aJ og.S]
 ·obtain⟨v',μ',k',m',b1,b2,b3,b4,b5⟩:=QA pk h hi bs hl hm
  refine .inr ⟨v',μ',k',m',?_,b2,b3,b4,b5⟩;simp only[V.e] at b1⊢;simp only[aI,fh,↓xo,bg e1,bg e2,zdN,oT ((i:Int)>=0),oT ((i:Int)<16),ot (lr hi),zdO,zdM,zdQ,eq_self,iF,zdP,og.c,an,og.S,aj,bg h0,aJ og.S,b1]
theorem QB (pk:PK P)(h:VI P k m v μ)(hi:i<16)(hm:m<=10000000000):DoR P k m v i 0 (aI WX (((),(3,(i:Int),0,gM,[],()),()),v.e)):=by
 obtain⟨f,o,s,fr,ou,og,mh⟩:=h.ci i hi;have e1: ¬(3:Int)=4:=by omega
 have e2: ¬(3:Int)=1:=by omega
 have e3: ¬(3:Int)=2:=by omega
 by_cases h0:s.1=0
 ·refine .inl ?_
  simp only[aI,fh,V.e,↓xo,bg e1,bg e2,bg e3,zdN,oT ((i:Int)>=0),oT ((i:Int)<16),ot (lr hi),zdO,zdM,zdQ,zdR,eq_self,iF,zdP,og.c,an,og.S,aj,ot h0,aJ og.S]
 ·obtain⟨v3,μ3,m3,d1,d2,d3,d4,_⟩:=qe pk h (by omega) hi
  obtain⟨v4,μ4,m4,w1,w2,w3,w4,_⟩:=yw pk d2 (by omega)
  have dw:=d4.trans w4;refine .inr ⟨v4,μ4,k,m4,?_,w2,by rw[dw.left];omega,by omega,(dw.ev i).ew⟩
  simp only[V.e] at d1 w1⊢;simp only[aI,fh,↓xo,bg e1,bg e2,bg e3,zdN,oT ((i:Int)>=0),oT ((i:Int)<16),ot (lr hi),zdO,zdM,zdQ,zdR,eq_self,iF,zdP,og.c,an,og.S,aj,bg h0,aJ og.S,d1,w1]
theorem IP (pk:PK P)(h:VI P k m v μ)(hi:i<16){nc:List Int}(hn:nc.length=32):DoR P k m v i 0 (aI WX (((),(1,(i:Int),0,nc,[],()),()),v.e)):=by
 obtain⟨f,o,s,fr,ou,og,mh⟩:=h.ci i hi;have e1: ¬(1:Int)=4:=by omega
 by_cases h0:s.1=0
 ·have hd:=Er og h0 nc
  have hF:(v.F++ [((([]:List Int),false,()),())])[v.F.length]?=some (([],false,()),()):=by simp
  have hO:(v.O++ [((([]:List Int),false,()),())])[v.O.length]?=some (([],false,()),()):=by simp
  have hs:=λj=>AL og (x:=(1,0,nc,0,v.now,())) rfl j;refine .inr ⟨_,μ,k,m,hd,⟨h.ss.oP (by rfl),λj hj=>?_,h.mt,h.lg,pk.oP h.p (by rfl) (by rfl) (by rfl),h.qi.mono (λj hj h3=>?_) .rfl (by rfl)⟩,?_,by omega,⟨rfl,rfl,λj hj=>?_⟩⟩
  ·by_cases e:j=i
   ·subst e
    exact⟨_,_,_,_,_,⟨hi,ko og.c,ko og.S,hF,hO⟩,⟨by simp,hn,by simp,by simp⟩⟩
   ·obtain⟨f',o',s',wD,Is,c1,c2⟩:=h.ci j hj
    refine⟨f',o',s',wD,Is,⟨c1.lt,?_,?_,?_,?_⟩,c2⟩
    ·show(v.c.set i _)[j]?=_;rw[kL e];exact c1.c
    ·show(v.S.set i _)[j]?=_;rw[kL e];exact c1.S
    ·show(v.F++_)[f']?=_;rw[zeD (List.getElem?_eq_some_iff.1 c1.F).1];exact c1.F
    ·show(v.O++_)[o']?=_;rw[zeD (List.getElem?_eq_some_iff.1 c1.O).1];exact c1.O
  ·change ((v.S.set i ((1,0,nc,0,v.now,()),())).getD j (s0,())).1.1=3 at h3
   show(jk v j).1=3/\((v.S.set i ((1,0,nc,0,v.now,()),())).getD j (s0,())).1.2.1=(jk v j).2.1
   rw[hs] at h3⊢;by_cases e:j=i
   ·rw[if_pos e] at h3;simp at h3
   ·rw[if_neg e] at h3⊢;exact⟨h3,rfl⟩
  ·show 2*k+lH (v.F++_)<=_
   rw[tO];simp[lH]
  ·show(((v.S.set i ((1,0,nc,0,v.now,()),())).getD j (s0,())).1=_)\/((v.S.set i ((1,0,nc,0,v.now,()),())).getD j (s0,())).1.1=0\/_/\((v.S.set i ((1,0,nc,0,v.now,()),())).getD j (s0,())).1.2.2.2.2.1=_
   rw[hs];by_cases e:j=i
   ·rw[if_pos e];exact .inr (.inr ⟨e,rfl⟩)
   ·rw[if_neg e];exact .inl rfl
 ·refine .inl ?_
  simp only[aI,fh,V.e,↓xo,bg e1,zdN,oT ((i:Int)>=0),oT ((i:Int)<16),ot (lr hi),zdO,zdM,zdQ,zdR,eq_self,iF,zdP,og.c,an,bd,og.S,dT,bg h0,aJ og.S]
end
section
variable {P:Nat->V->(Nat->MS)->Prop}{k m:Nat}{v:V}{μ:Nat->MS}{i:Nat}
abbrev idle (v:V):Int:=v.cfg.2.2.2.2.2.2.1
def E9 (s:wV)(now d:Int):Bool:=decide (s.1≠0/\i64.wrap (now-s.2.2.2.2.1)>=d)
theorem WE (s:wV)(now d:Int):eI WX (((),now,d,()),(s,()))=some ((E9 s now d,()),(s,())):=by
 unfold E9;by_cases h0:s.1=0
 ·simp only[eI,↓xo,ot h0,zdQ,zdN];rw[decide_eq_false (λq=>q.1 h0)]
 ·by_cases h1:i64.wrap (now-s.2.2.2.2.1)>=d
  ·simp only[eI,↓xo,xw,bg h0,zdR,zdO,ot h1];rw[decide_eq_true ⟨h0,h1⟩]
  ·simp only[eI,↓xo,xw,bg h0,zdR,zdO,bg h1];rw[decide_eq_false (λq=>h1 q.2)]
theorem QC (pk:PK P)(h:VI P k m v μ)(hm:m<=10000000000): ∃v' μ' m',ag (dy WX) (((),v.c,0,()),v.e)=some (((),()),v'.e)/\VI P k m' v' μ'/\m'<=m+736/\Dw v v'/\∀j,j<16->(jk v' j).1=0\/(jk v' j=jk v j/\E9 (jk v j) v.now (idle v)=false):=by
 obtain⟨⟨v',μ',m'⟩,l1,l2,l3,l4,l5⟩:=oR (b:=dy WX) 16 (λj (s:V×(Nat->MS)×Nat)=>(((),v.c,(j:Int),()),s.1.e)) (λs=>(((),()),s.1.e))
  (λj s=>VI P k s.2.2 s.1 s.2.1/\s.2.2<=m+46*j/\Dw v s.1/\∀j',j'<j->(jk s.1 j').1=0\/(jk s.1 j'=jk v j'/\E9 (jk v j') v.now (idle v)=false))
  (λj s hj hI=>by
   obtain⟨v1,μ1,m1⟩:=s;obtain⟨i1,i2,i3,i4⟩:=hI;simp only at i1 i2 i3 i4;obtain⟨f0,o0,s0',fr0,ou0,c0,_⟩:=h.ci j hj;have hc0:=c0.c;obtain⟨f,o,s,fr,ou,og,mh⟩:=i1.ci j hj;have hs:=wL og;have e1:=lG hj (by omega)
   have kW:=WE s v1.now v1.cfg.2.2.2.2.2.2.1;cases hb:E9 s v1.now v1.cfg.2.2.2.2.2.2.1 with
   |true=>
    rw[hb] at kW;obtain⟨v3,μ3,m3,d1,d2,d3,d4,d5,d6,_⟩:=qe pk i1 (by omega) hj
    refine⟨(v3,μ3,m3),?_,d2,by simp only;omega,i3.trans d4,λj' BU=>?_⟩
    ·simp only[V.e] at d1⊢
     simp only[dy,↓xo,xw,oT ((j:Int)<16),ot (lr hj),zdO,zdP,hc0,zdM,bd,dS,an,og.S,kW,aJ og.S,d1,e1]
    ·by_cases e:j'=j
     ·subst e;exact .inl d5
     ·show(jk v3 j').1=0\/(jk v3 j'=_/\_)
      rw[d6 j' e];exact i4 j' (by omega)
   |false=>
    rw[hb] at kW;refine⟨(v1,μ1,m1),?_,i1,by simp only;omega,i3,λj' BU=>?_⟩
    ·simp only[V.e]
     simp only[dy,↓xo,xw,oT ((j:Int)<16),ot (lr hj),zdO,zdP,hc0,zdM,bd,dS,an,og.S,kW,zdN,aJ og.S,e1]
    ·by_cases e:j'=j
     ·subst e
      rcases i3.jk j' hj with q|q
      ·refine .inr ⟨q,?_⟩
       rw[<-q,hs,<-i3.now];unfold idle;rw[<-i3.cfg];exact hb
      ·exact .inl q
     ·exact i4 j' (by omega))
  (λs _=>by simp only[dy,↓xo,oF (((16:Nat):Int)<16),zdN]) (v,μ,m) ⟨h,by simp only;omega, .rfl v,λj hj=>by omega⟩
 exact⟨v',μ',m',l1,l2,by simp only at l3;omega,l4,l5⟩
theorem QD (pk:PK P)(h:VI P k m v μ)(hm:m<=1000000000)(n:Int):aI WX (((),(4,0,n,gM,[],()),()),v.e)=some ((false,()),v.e)\/∃v' μ' m',aI WX (((),(4,0,n,gM,[],()),()),v.e)=some ((true,()),v'.e)/\VI P k m' v' μ'/\lH v'.F=lH v.F/\m'<=m+2000/\1<=n/\v'.now=v.now+n/\v'.cfg=v.cfg/\∀j,j<16->(jk v' j).1=0\/(jk v' j=jk v j/\E9 (jk v j) v'.now (idle v)=false):=by
 have Fy:=h.ss.now;have e:i64.wrap (1099511627776-v.now)=1099511627776-v.now:=nR (by omega) (by omega)
 by_cases h1:n<1
 ·exact .inl (by simp only[aI,fF,V.e,↓xo,eq_self,iF,zdO,ot h1,zdM])
 by_cases h2:n>1099511627776-v.now
 ·exact .inl (by simp only[aI,fF,V.e,↓xo,xw,eq_self,iF,zdO,bg h1,zdN,bd,zdM,e,ot h2])
 ·have hdo:=VQ (v:=v) n (by omega) (by omega) Fy.1 Fy.2
  obtain⟨wW,g1,g2⟩:=Iq h.lg (by omega) (VR (n:=n) (by omega) (by omega))
  obtain⟨e',rA,O',r1,r2,r3⟩:=M3 (v1:={v with now:=v.now+n}) h.ci h.mt (by rfl) (by rfl) (by rfl) (by rfl) (.inl ⟨0,hdo⟩) g1
  have s1:SS {v with now:=v.now+n} μ:=⟨⟨⟨h.ss.si.qS.mp,h.ss.si.qS.at_⟩,h.ss.si.op,h.ss.si.MQ,h.ss.si.ps⟩,h.ss.tr,h.ss.ph,h.ss.XB,h.ss.bp,h.ss.B,h.ss.lp,h.ss.L,by show 0<=v.now+n/\v.now+n<=1099511627776;omega⟩
  have v2:VI P k (m+46) {v with now:=v.now+n,lg:=wW,mt:=rA,O:=O'} μ:=⟨s1.oP (by rfl),r2,r3,g2,pk.oP h.p (by rfl) (by rfl) (by rfl),h.qi.mono (λ_ _ h=>⟨h,rfl⟩) .rfl (by rfl)⟩
  obtain⟨v3,μ3,m3,l1,l2,l3,l4,l5⟩:=QC pk v2 (by omega)
  obtain⟨v4,μ4,m4,w1,w2,w3,w4,_⟩:=yw pk l2 (by omega)
  have dw:=l4.trans w4;refine .inr ⟨v4,μ4,m4,?_,w2,dw.left,by omega,by omega,dw.now,dw.cfg,λj hj=>?_⟩
  ·simp only[V.e] at r1 l1 w1⊢
   simp only[aI,fF,↓xo,xw,eq_self,iF,zdO,bg h1,zdN,bd,zdM,e,bg h2,r1,↓xl,l1,w1]
  ·rcases w4.jk j hj with q|q
   ·rw[q]
    have hn:v4.now=v.now+n:=dw.now;rw[hn];exact l5 j hj
   ·exact .inl q
end
abbrev BM (x:Int):Prop:= -9223372036854775808<=x/\x<=9223372036854775807
theorem QE {a b c d e f g:Int}(ha:BM a)(hb:BM b)(hc:BM c)(hd:BM d)(he:BM e)(hf:BM f): ∃o:et,gv WX (((a,b,c,d,e,f,g,()),()),())=some ((o,()),()):=by
 obtain⟨r1,_,_,w1⟩:=jC ha (lo:=0) (hi:=5) (by omega) (by omega) (by omega)
 obtain⟨r2,_,_,w2⟩:=jC hb (lo:=0) (hi:=15) (by omega) (by omega) (by omega)
 obtain⟨r3,_,_,w3⟩:=jC hc (lo:=0) (hi:=1) (by omega) (by omega) (by omega)
 obtain⟨r4,_,_,w4⟩:=jC hc (lo:=0) (hi:=9) (by omega) (by omega) (by omega)
 obtain⟨r5,_,_,w5⟩:=jC hd (lo:=95) (hi:=105) (by omega) (by omega) (by omega)
 obtain⟨r6,l6,u6,w6⟩:=jC he (lo:=1) (hi:=12) (by omega) (by omega) (by omega)
 obtain⟨r7,_,_,w7⟩:=jC hf (lo:=0) (hi:=r6) (by omega) (by omega) (by omega)
 have e2: ¬(2:Int)=0:=by omega
 have cb: ∀(q:Bool) (x y:Option ((et×Unit)×Unit)),(∃o:et,x=some ((o,()),()))->(∃o:et,y=some ((o,()),()))->∃o:et,(bif q then x else y)=some ((o,()),()):=λq x y hx hy=>by cases q<;>assumption
 simp only[gv,w1,w2,w3,w4,w5,w6,w7,zdM,↓xo,bg e2,zdN];repeat' first|exact⟨_,rfl⟩|apply cb
theorem TW {a b c d e f g:Int}(ha:BM a)(hb:BM b)(hc:BM c)(hd:BM d)(he:BM e)(hf:BM f)(hg:BM g): ∃o:et,ic WX (((a,b,c,d,e,f,g,()),()),())=some ((o,()),()):=by
 obtain⟨o,h1⟩:=QE (g:=g) ha hb hc hd he hf;obtain⟨r2,_,_,w2⟩:=jC hg (lo:=0) (hi:=32) (by omega) (by omega) (by omega)
 by_cases h:r2<11
 ·exact⟨_,by simp only[ic,h1,w2,zdM,↓xo,ot h,zdO];rfl⟩
 ·exact⟨_,by simp only[ic,h1,w2,zdM,↓xo,bg h,zdN];rfl⟩
def Ct (o:Option ((mS×Unit)×Unit)):Prop:= ∃c:mS,o=some ((c,()),())/\c.2.2.2.2.2.2.2.2.2.2.2.2.2.2.1=gM
theorem Ct.bif {q:Bool}{x y:Option ((mS×Unit)×Unit)}(hx:Ct x)(hy:Ct y):Ct (bif q then x else y):=by cases q<;>assumption
structure DoI (d:Vh):Prop where
 x0:BM d.1
 x1:BM d.2.1
 x2:BM d.2.2.1
 x3:BM d.2.2.2.1
 x4:BM d.2.2.2.2.1
 y0:BM d.2.2.2.2.2.1.1
 y1:BM d.2.2.2.2.2.1.2.1
 y2:BM d.2.2.2.2.2.1.2.2.1
 y3:BM d.2.2.2.2.2.1.2.2.2.1
 y4:BM d.2.2.2.2.2.1.2.2.2.2.1
 y5:BM d.2.2.2.2.2.1.2.2.2.2.2.1
 y6:BM d.2.2.2.2.2.1.2.2.2.2.2.2.1
theorem TX {d:Vh}(h:DoI d):Ct (im WX ((d,()),())):=by
 obtain⟨x0,x1,x2,x3,x4,⟨y0,y1,y2,y3,y4,y5,y6,⟨⟩⟩,⟨⟩⟩:=d;obtain⟨a0,a1,a2,a3,a4,b0,b1,b2,b3,b4,b5,b6⟩:=h;simp only at a0 a1 a2 a3 a4 b0 b1 b2 b3 b4 b5 b6;obtain⟨o,s1⟩:=TW b0 b1 b2 b3 b4 b5 b6;obtain⟨r2,_,_,w2⟩:=jC a4 (lo:=0) (hi:=3) (by omega) (by omega) (by omega)
 obtain⟨r3,_,_,w3⟩:=jC a0 (lo:=0) (hi:=15) (by omega) (by omega) (by omega)
 obtain⟨r4,_,_,w4⟩:=jC a3 (lo:=0) (hi:=7) (by omega) (by omega) (by omega)
 obtain⟨r5,_,_,w5⟩:=jC a1 (lo:=0) (hi:=7) (by omega) (by omega) (by omega)
 obtain⟨r6,_,_,w6⟩:=jC b3 (lo:=95) (hi:=105) (by omega) (by omega) (by omega)
 obtain⟨r7,_,_,w7⟩:=jC a4 (lo:=0) (hi:=8) (by omega) (by omega) (by omega)
 obtain⟨r8,_,_,w8⟩:=jC a2 (lo:=1) (hi:=3) (by omega) (by omega) (by omega)
 obtain⟨r9,_,_,w9⟩:=jC a2 (lo:=1) (hi:=9) (by omega) (by omega) (by omega)
 obtain⟨nA,_,_,w10⟩:=jC a3 (lo:=0) (hi:=8) (by omega) (by omega) (by omega)
 simp only[im,s1,w2,w3,w4,w5,w6,w7,w8,w9,w10,zdM,↓xo];repeat' first|exact⟨_,rfl,rfl⟩|apply Ct.bif
theorem WG (c:mS)(ht:c.2.2.2.2.2.2.2.2.2.2.2.2.2.2.1.length=32): ∃bs:List Int,gO WX ((c,()),())=some (((),()),(bs,()))/\bs.length<=60:=by
 obtain⟨kd,sq,td,it,id,sd,od,p,q,sh,st,wh,a,b,tg,⟨⟩⟩:=c;simp only at ht;have no: ∀{c:mS},bm WX ((c,()),())=some ((false,()),())->∃bs:List Int,gO WX ((c,()),())=some (((),()),(bs,()))/\bs.length<=60:=λh=>⟨[],by simp only[gO,h,zdM,zdR,zdO],by simp⟩
 have le: ∀{o:Option ((Unit×Unit)×(List Int×Unit))} (k:Nat),k<=60->XD k o=true->∃bs:List Int,o=some (((),()),(bs,()))/\bs.length<=60:=λk hk h=>by
  obtain⟨bs,h1,h2⟩:=uq h;exact⟨bs,h1,by omega⟩
 by_cases h1:kd=1
 ·subst h1
  obtain⟨r,hr,_⟩:=EZ sq td it id sd od p q sh st wh a b tg;cases r with
  |false=>exact no hr
  |true=>
   apply le 2 (by omega)
   simp only[gO,hr,zdM,zdQ,zdN];clear hr le no ht;kernel_rfl
 by_cases h2:kd=2
 ·subst h2
  obtain⟨r,hr⟩:=E6 sq td it id sd od p q sh st wh a b tg;cases r with
  |false=>exact no hr
  |true=>
   obtain⟨f,rfl⟩:=mF tg ht;apply le 33 (by omega)
   simp only[gO,hr,zdM,zdQ,zdN];clear hr le no ht h1;kernel_rfl
 by_cases h3:kd=3
 ·subst h3
  obtain⟨r,hr,_⟩:=E1 sq td it id sd od p q sh st wh a b tg;cases r with
  |false=>exact no hr
  |true=>
   apply le 28 (by omega)
   simp only[gO,hr,zdM,zdQ,zdN];clear hr le no ht h1 h2;kernel_rfl
 by_cases h4:kd=4
 ·subst h4
  obtain⟨r,hr,_⟩:=E2 sq td it id sd od p q sh st wh a b tg;cases r with
  |false=>exact no hr
  |true=>
   apply le 11 (by omega)
   simp only[gO,hr,zdM,zdQ,zdN];clear hr le no ht h1 h2 h3;kernel_rfl
 by_cases h5:kd=5
 ·subst h5
  obtain⟨r,hr,_⟩:=E3 sq td it id sd od p q sh st wh a b tg;cases r with
  |false=>exact no hr
  |true=>
   apply le 18 (by omega)
   simp only[gO,hr,zdM,zdQ,zdN];clear hr le no ht h1 h2 h3 h4;kernel_rfl
 by_cases h6:kd=6
 ·subst h6
  obtain⟨r,hr,_⟩:=E4 sq td it id sd od p q sh st wh a b tg;cases r with
  |false=>exact no hr
  |true=>
   apply le 7 (by omega)
   simp only[gO,hr,zdM,zdQ,zdN];clear hr le no ht h1 h2 h3 h4 h5;kernel_rfl
 by_cases h7:kd=7
 ·subst h7
  obtain⟨r,hr⟩:=E7 sq td it id sd od p q sh st wh a b tg;cases r with
  |false=>exact no hr
  |true=>
   apply le 1 (by omega)
   simp only[gO,hr,zdM,zdQ,zdN];clear hr le no ht h1 h2 h3 h4 h5 h6;kernel_rfl
 by_cases h8:kd=8
 ·subst h8
  obtain⟨r,hr⟩:=E8 sq td it id sd od p q sh st wh a b tg;cases r with
  |false=>exact no hr
  |true=>
   apply le 1 (by omega)
   simp only[gO,hr,zdM,zdQ,zdN];clear hr le no ht h1 h2 h3 h4 h5 h6 h7;kernel_rfl
 by_cases h9:kd=9
 ·subst h9
  obtain⟨r,hr,_⟩:=E5 sq td it id sd od p q sh st wh a b tg;cases r with
  |false=>exact no hr
  |true=>
   apply le 8 (by omega)
   simp only[gO,hr,zdM,zdQ,zdN];clear hr le no ht h1 h2 h3 h4 h5 h6 h7 h8;kernel_rfl
 exact no (TR sq td it id sd od p q sh st wh a b tg h1 h2 h3 h4 h5 h6 h7 h8 h9)
theorem TY {bs:List Int}(h:bs.length<=200): ∃fb:List Int,gh WX ((bs,()),())=some (((),()),(fb,()))/\fb.length<=bs.length+2:=by
 have hm:=OH (bs.length:Int);have e8: ¬(8:Int)<0:=by omega
 by_cases h1:1<=(bs.length:Int)/\(bs.length:Int)<=256
 ·rw[decide_eq_true h1] at hm
  refine⟨[WX.wr .u8 (WX.shr .i64 (bs.length:Int) 8),WX.wr .u8 (bs.length:Int)]++bs,?_,by rw[zdW];simp only[zdX,zdY];omega⟩
  simp only[gh,hm,zdM,zdQ,zdN,↓xo,bg e8,ot (show(((([WX.wr .u8 (WX.shr .i64 (bs.length:Int) 8),WX.wr .u8 (bs.length:Int)]:List Int).length+bs.length:Nat):Int))*((1:Nat):Int)<=((room:Nat):Int) by unfold room;simp only[zdX,zdY];omega),zdO]
 ·rw[decide_eq_false h1] at hm
  exact⟨[],by simp only[gh,hm,zdM,zdR,zdO],by simp⟩
inductive Fa:zk->Prop
 |conn (i:Nat) (nc:List Int) (hi:i<16) (hn:nc.length=32):Fa (1,(i:Int),0,nc,[],())
 |bytes (i:Nat) (bs:List Int) (hi:i<16) (hb:bs.length<=62):Fa (2,(i:Int),0,gM,bs,())
 |gone (i:Nat) (hi:i<16):Fa (3,(i:Int),0,gM,[],())
 |tick (n:Int) (hn:1<=n/\n<=30):Fa (4,0,n,gM,[],())
structure MvI (q:zl):Prop where
 k:BM q.1
 c:BM q.2.1
 d:DoI q.2.2.1
theorem G5 {i:Nat}(h:i<16):0<=(i:Int)/\(i:Int)<(16:Nat):=by omega
def m0:MS:=([],[],[],0,0)
theorem zbT {v:V}{i:Nat}(h:v.M[i]?=some e0):zbA v i m0:=by
 refine⟨[],[],[],h,⟨λp hp=>(by cases hp),λp hp=>(by cases hp),by simp,rfl,rfl⟩,⟨⟨?_,?_,by decide,λa ha=>(by cases ha)⟩,λo ho=>(by cases ho),by decide⟩,λo ho=>(by cases ho)⟩
 ·exact⟨λa ha=>(by cases ha),λa ha=>(by cases ha),List.Pairwise.nil⟩
 ·exact⟨λa ha=>(by cases ha),λa ha=>(by cases ha),List.Pairwise.nil⟩
theorem TZ {n i:Nat}(hn:n<32)(hi:i<8):tb oo n i=0:=by
 unfold tb;rw[zd3,zd3,show oo[n]?=some (List.replicate 8 (0:Int)) from qm hn _]
 show((List.replicate 8 (0:Int))[i]?).getD 0=0
 rw[qm hi];rfl
theorem OI:AJ oo:=⟨by simp[oo],λr hr=>by rw[(List.mem_replicate.1 hr).2];simp⟩
theorem WH (a0 a1:Int):((yD a0 a1).all λx=>decide (0<=x.1)&&decide (x.1<=7)&&Nat.beq x.2.2.2.2.2.1.length 32)=true:=by kernel_rfl
theorem WI (a0 a1:Int):Nat.beq (yD a0 a1).length 32=true:=by kernel_rfl
theorem ZZ (a0 a1:Int):Qr (yD a0 a1):=by
 have h:=List.all_eq_true.1 (WH a0 a1);refine⟨zfm (WI a0 a1),λx hx=>?_,λx hx=>?_⟩
 ·have:=h x hx
  simp only[zdV,zd1] at this;exact this.1
 ·have:=h x hx
  simp only[zdV,zd1] at this;exact zfm this.2
theorem T2: ∀n,n<32->(V1 32 0 (List.replicate 32 0))[n]?=some (n+1):=by decide
theorem Z0: ∀n,n<8->p8[n]?=some (n+1):=by decide
section
variable {P:Nat->V->(Nat->MS)->Prop}
theorem Z1 (g:xd){i:Nat}(hi:i<16):jk (v0 g) i=s0:=by
 exact wL (Dc g i hi)
theorem zbU {c:List Int}{g:xd}(h:Ux c g)(hp:P 0 (v0 g) (λ_=>m0)):VI P 0 0 (v0 g) (λ_=>m0):=by
 obtain⟨a0,a1,a2,a3,a4,a5,b,r,t,l,d,q,_,_,_,_,_,_,_,_,hr,_,_,_,hq,rfl⟩:=h.ex;have hz: ∀i,i<16->¬(jk (v0 (yD a0 a1,L6.set 1 (a2,a3,a4,a5,()),b,r,t,l,d,q,())) i).1=3:=λi hi=>by rw[Z1 _ hi];simp[s0]
 refine⟨⟨⟨⟨Z0,λi hi=>zbT (qm hi _)⟩,⟨OI,λn i hn hi=>?_⟩,λn i hn hi=>TZ hn hi,⟨OI,λn i hn hi=>?_⟩⟩,ZZ a0 a1,⟨by simp[v0],by simp[v0],by simp[v0]⟩,SR,T2,λn hn=>⟨(b,r,b,0,()),qm hn _,by show r≠0;omega⟩,T2,λn hn=>⟨_,qm hn _⟩,⟨zeS _,(by show(0:Int)<=1099511627776;decide)⟩⟩,
  λi hi=>⟨i,i,s0,([],false,()),([],false,()),Dc _ i hi,⟨by simp,by simp[s0], .inl rfl,by simp[s0]⟩⟩,by simp[v0],⟨rfl,by simp[v0]⟩,hp,⟨.rfl,λi j hi hj h1=>absurd h1 (hz i hi),λi hi h1=>absurd h1 (hz i hi),λf=>?_⟩⟩
 ·show 0<=tb oo n i/\tb oo n i<=_
  rw[TZ hn hi];exact⟨zeS _,by decide⟩
 ·show _<=tb oo n i/\tb oo n i<=_
  rw[TZ hn hi];exact⟨by decide,by decide⟩
 ·have:(List.range 16).countP (λi=>decide ((jk (v0 (yD a0 a1,L6.set 1 (a2,a3,a4,a5,()),b,r,t,l,d,q,())) i).1=3/\(iE (v0 (yD a0 a1,L6.set 1 (a2,a3,a4,a5,()),b,r,t,l,d,q,())).tr (jk (v0 (yD a0 a1,L6.set 1 (a2,a3,a4,a5,()),b,r,t,l,d,q,())) i).2.1).1=f))=0:=by
   rw[List.countP_eq_zero];intro i hi hp;exact hz i (List.mem_range.1 hi) (of_decide_eq_true hp).1
  rw[this];show((0:Nat):Int)<=q
  omega
def GV (P:Nat->V->(Nat->MS)->Prop)(s:Nat)(v:V):Prop:= ∃μ k m,VI P k m v μ/\2*k+lH v.F<=62*s/\m<=8000000*s
theorem GV.le {s s':Nat}{v:V}(h:GV P s v)(hs:s<=s'):GV P s' v:=by
 obtain⟨μ,k,m,h1,h2,h3⟩:=h;exact⟨μ,k,m,h1,by omega,by omega⟩
theorem T3 (g:xd):lH (v0 g).F=0:=by
 unfold v0 lH;simp
theorem zbV {c:List Int}{g:xd}(h:Ux c g)(hp:P 0 (v0 g) (λ_=>m0)):GV P 0 (v0 g):=⟨_,0,0,zbU h hp,by rw[T3];omega,by omega⟩
def Rel (st:zk)(ok:Bool)(v v':V):Prop:=v'.cfg=v.cfg/\((ok=false/\v'=v)\/(ok=true/\st.1≠4/\∃i:Nat,i<16/\st.2.1=(i:Int)/\Ew i v v')\/
 (ok=true/\st.1=4/\1<=st.2.2.1/\v'.now=v.now+st.2.2.1/\∀j,j<16->(jk v' j).1=0\/(jk v' j=jk v j/\E9 (jk v j) v'.now (idle v)=false)))
theorem Z2 (pk:PK P){s:Nat}{v:V}(h:GV P s v)(hs:s<125){st:zk}(kr:Fa st): ∃ok v',aI WX (((),st,()),v.e)=some ((ok,()),v'.e)/\GV P (s+1) v'/\Rel st ok v v':=by
 have h0:=h;obtain⟨μ,k,m,h1,h2,h3⟩:=h;have key: ∀(i n:Nat) {o},n<=62->i<16->st.1≠4->st.2.1=(i:Int)->aI WX (((),st,()),v.e)=o->DoR P k m v i n o->∃ok v',aI WX (((),st,()),v.e)=some ((ok,()),v'.e)/\GV P (s+1) v'/\Rel st ok v v':=by
  intro i n o hn hi hk hc ho hr;subst ho;rcases hr with hr|⟨v',μ',k',m',r1,r2,r3,r4,r5⟩
  ·exact⟨false,v,hr,h0.le (by omega),rfl, .inl ⟨rfl,rfl⟩⟩
  ·exact⟨true,v',r1,⟨μ',k',m',r2,by omega,by omega⟩,r5.cfg, .inr (.inl ⟨rfl,hk,i,hi,hc,r5⟩)⟩
 cases kr with
 |conn i nc hi hn=>exact key i 0 (by omega) hi (by simp) rfl rfl (IP pk h1 hi hn)
 |bytes i bs hi hb=>exact key i bs.length hb hi (by simp) rfl rfl (M6 pk h1 hi bs (by omega) (by omega))
 |gone i hi=>exact key i 0 (by omega) hi (by simp) rfl rfl (QB pk h1 hi (by omega))
 |tick n hn=>
  rcases QD pk h1 (by omega) n with hr|⟨v',μ',m',r1,r2,r3,r4,r5,r6,r7,r8⟩
  ·exact⟨false,v,hr,h0.le (by omega),rfl, .inl ⟨rfl,rfl⟩⟩
  ·exact⟨true,v',r1,⟨μ',k,m',r2,by omega,by omega⟩,r7, .inr (.inr ⟨rfl,rfl,r5,r6,r8⟩)⟩
theorem QF {c:List Int}(hc:J3 c): ∃g,Ux c g/\dg WX ((c,()),())=some ((g,()),())/\iu WX ((c,()),())=some (.inr (((),()),((),List.replicate 16 (0:Int),()),(v0 g).e)):=by
 obtain⟨g,h1,h2⟩:=P6 hc;have h3:=MB h2;exact⟨g,h2,h1,by simp only[iu,h1,h3,zdM,↓xo,eq_self,iF,zdQ,zdN]⟩
theorem GV.ci {s:Nat}{v:V}(h:GV P s v):CI v:=by obtain⟨_,_,_,h1,_⟩:=h;exact h1.ci
end
end AM
