/- An abstract machine over programs of the model, and its soundness: what it tells of a function, the model's machine does, continued. Conditions: none. -/
import Derived.LoopN
import Derived.WalkKit
import Derived.ProofKit
import Derived.OpenShut
import Derived.ShutString
import Derived.ChangeOld
import Derived.Below
import Derived.SizedLaws
import Derived.Carry
import Derived.Test.YtepopigkpnoflaaGreatAm2
set_option linter.unusedVariables false
set_option linter.unusedSimpArgs false
namespace AM
open Go
variable {α:Type}{P:Program}{base:Nat}
theorem findRf_spec: ∀{args:List AV} {ps:List (Nat×Pat)} {j0 j g n c:Nat},findRf args ps j0=some (j,g,n,c)→j0≤j∧args[j-j0]?=some (.rf g n c)
 | [],ps,j0,j,g,n,c,h=>by cases ps<;>simp[findRf] at h
 |v::vs,[],j0,j,g,n,c,h=>by cases v<;>simp[findRf] at h
 |v::vs,(q,p)::ps,j0,j,g,n,c,h=>by
  have tail:findRf vs ps (j0+1)=some (j,g,n,c)→j0≤j∧(v::vs)[j-j0]?=some (.rf g n c):=by
   intro h1
   obtain⟨h2,h3⟩:=findRf_spec h1
   refine⟨by omega,?_⟩
   rw[show j-j0=(j-(j0+1))+1 by omega]
   simpa using h3
  cases v<;>cases p<;>simp only[findRf] at h<;>first
   |exact tail h
   |(simp only[Option.some.injEq,Prod.mk.injEq] at h;obtain⟨rfl,rfl,rfl,rfl⟩:=h;exact⟨Nat.le_refl _,by simp⟩)
theorem RelEach_set {N:Nm_}{D:Nat→Prop}{w:World}: ∀{vs:List AV} {cs:List Value} {i:Nat} {u:AV} {c:Value},RE N D w vs cs→cs[i]?=some c→VRel N D w u c→RE N D w (vs.set i u) cs
 | [],cs,i,u,c,h,_,_=>by simpa using h
 |v::vs,cs,0,u,c,h,hc,hu=>by
  simp only[RE,List.set_cons_zero] at h⊢
  obtain⟨c',cs',rfl,h1,h2⟩:=h
  simp at hc
  subst hc
  exact⟨_,_,rfl,hu,h2⟩
 |v::vs,cs,i+1,u,c,h,hc,hu=>by
  simp only[RE,List.set_cons_succ] at h⊢
  obtain⟨c',cs',rfl,h1,h2⟩:=h
  exact⟨_,_,rfl,h1,RelEach_set h2 (by simpa using hc) hu⟩
theorem enc_ntup (t:Ty)(x:t.den)(us:List AV):enc t x≠ .tup us:=by
 cases t<;>simp only[enc]<;>try (intro h;cases h;done)
 split<;>(intro h;cases h)
theorem pat_ntup (bk:Nat→Nat)(p:Pat)(x:p.den)(us:List AV):p.mk bk x≠ .tup us:=by
 cases p<;>simp only[Pat.mk]<;>first|exact enc_ntup _ _ _|(intro h;cases h)
theorem mkT_ntup (bk:Nat→Nat)(y:Nat)(us:List AV): ∀(l:List (Nat×Pat)) (d:sdens l),mkT bk l d y≠ .tup us
 | [],_=>by simp only[mkT];intro h;cases h
 |o::os,d=>by
  simp only[mkT]
  split
  ·exact pat_ntup _ _ _ _
  ·exact mkT_ntup bk y us os d.2
theorem convR_res (f:AV→AV){vs:List AV}(h: ∀v∈vs,∀us,v≠ .tup us):convR f (resAV vs)=resAV (vs.map f):=by
 match vs,h with
 | [],_=>rfl
 | [v],h=>
  have:=h v (by simp)
  simp only[resAV,List.map_cons,List.map_nil]
  cases v<;>first|rfl|exact absurd rfl (this _)
 |a::b::l,_=>rfl
theorem resL_res {vs:List AV}(h: ∀v∈vs,∀us,v≠ .tup us):resL (resAV vs)=vs:=by
 match vs,h with
 | [],_=>rfl
 | [v],h=>
  have:=h v (by simp)
  simp only[resAV]
  cases v<;>first|rfl|exact absurd rfl (this _)
 |a::b::l,_=>rfl
theorem res_conv {N N':Nm_}{D D':Nat→Prop}{w:World}: ∀{vs us:List AV} {v:Value},vs.length=us.length→(∀(i:Nat) a b,vs[i]?=some a→us[i]?=some b→∀c,VRel N D w a c→VRel N' D' w b c)→VRel N D w (resAV vs) v→VRel N' D' w (resAV us) v:=by
 intro vs us v hl h hv
 have each: ∀(vs us:List AV) (cs:List Value),vs.length=us.length→(∀(i:Nat) a b,vs[i]?=some a→us[i]?=some b→∀c,VRel N D w a c→VRel N' D' w b c)→RE N D w vs cs→RE N' D' w us cs:=by
  intro vs
  induction vs with
  |nil=>
   intro us cs hl _ hr
   cases us with
   |nil=>simpa only[RE] using hr
   |cons _ _=>simp at hl
  |cons a vs ih=>
   intro us cs hl h hr
   cases us with
   |nil=>simp at hl
   |cons b us=>
    simp only[RE] at hr⊢
    obtain⟨c,cs',rfl,h1,h2⟩:=hr
    exact⟨c,cs',rfl,h 0 a b rfl rfl c h1,ih us cs' (by simpa using hl) (fun i a b ha hb=>h (i+1) a b (by simpa using ha) (by simpa using hb)) h2⟩
 match vs,us,hl with
 | [],[],_=>
  simp only[resAV] at hv⊢
  obtain⟨cs,h1,h2⟩:=VRel_tup.1 hv
  exact VRel_tup.2 ⟨cs,h1,each [] [] _ rfl (by simp) h2⟩
 | [a],[b],_=>exact h 0 a b rfl rfl v hv
 |a::a'::vs,b::b'::us,hl=>
  simp only[resAV] at hv⊢
  obtain⟨cs,h1,h2⟩:=VRel_tup.1 hv
  exact VRel_tup.2 ⟨cs,h1,each _ _ _ hl h h2⟩
 | [],_::_,h=>simp at h
 |_::_,[],h=>simp at h
 | [_],_::_::_,h=>simp at h
 |_::_::_,[_],h=>simp at h
theorem slot_le {N' N2:Nm_}{D:Nat→Prop}{w:World}{ks:List Nat}{bk:Nat→Nat}(hst: ∀i nm,N' i=some nm→N2 i=some nm)(hout: ∀g,g∉ks→∀k c nm,N'.sub g k c=some nm→nm.row=false→N2.sub g k c=some nm){y:Nat}: ∀(l:List (Nat×Pat)) (d:sdens l),(∀o∈l,noK ks o.2.ks=true)→∀c,VRel N' D w (mkT bk l d y) c→VRel N2 D w (mkT bk l d y) c
 | [],_,_,c,_=>by simp only[mkT];exact VRel_undef
 |o::os,d,h,c,hv=>by
  simp only[mkT] at hv⊢
  split
  ·rename_i e
   rw[if_pos e] at hv
   exact vrel_imp (fun g hg=>mk_le hst o.2 d.1 (noK_sub (h o (List.mem_cons_self ..)) hout) g hg) hv
  ·rename_i e
   rw[if_neg e] at hv
   exact slot_le hst hout os d.2 (fun o ho=>h o (List.mem_cons_of_mem _ ho)) c hv
theorem varAt_spec {ep:List (Nat×OPat)}{c:Nat}(h:varAt ep c=true): ∃q∈ep,q.1=c∧q.2.isVar=true:=by
 unfold varAt at h
 rw[List.any_eq_true] at h
 obtain⟨q,hq,h⟩:=h
 rw[Bool.and_eq_true] at h
 refine⟨q,hq,by simpa using h.1,?_⟩
 have h2:=h.2
 unfold OPat.isVar
 exact h2
theorem isVar_nst {p:OPat}(h:p.isVar=true):p.isSt=false:=by cases p<;>simp[OPat.isVar] at h;rfl
theorem EpOk.var_lt {ep:List (Nat×OPat)}(hep:EpOk ep){q:Nat×OPat}(hq:q∈ep)(h:q.2.isSt=false):50≤q.1∧q.1<SB:=by
 have:=hep.ids q hq h
 exact⟨this.1,by unfold SB;omega⟩
theorem back_out {off c:Nat}(h:50≤c)(h':c<SB):back [] off c=off+(c-50):=back_new (by omega) (by omega)
theorem shape_ok {st st1:St}{e:SPat}{ids:List Nat}{av:AV}(hsh:Shaped st e ids av st1){ep:List (Nat×OPat)}{rw:List Nat}(hleak:leakOk e ids rw (nests ep)=true){i:Nat}{o:AObj}(hi:st1.h i=some o)(hrw:i∉rw):
  o= .dead∨(∃(p:OPat) (bk:Nat→Nat) (y:p.den),o=p.mk bk y∧p.isSt=false∧noK (nests ep) p.ks=true)∨∃o0,st.h i=some o0∧(o=o0∨∃r t xs,o0= .row r t xs∧o= .row true t xs):=by
 rcases hsh.heap i o hi with⟨q,hq,h1,bk,y,rfl⟩|h1|h1
 ·right;left
  unfold leakOk at hleak
  rw[Bool.and_eq_true,List.all_eq_true,List.all_eq_true] at hleak
  have:=hleak.2 q hq
  rw[Bool.or_eq_true,Bool.and_eq_true] at this
  rcases this with h2|⟨h2,h3⟩
  ·rw[h1] at h2
   exact absurd (by simpa using h2) hrw
  ·refine⟨q.1.2,bk,y,rfl,?_,h2⟩
   cases hp:q.1.2 with
   |var p=>rfl
   |row t=>rfl
   |store ep'=>rw[hp] at h3;cases h3
 ·exact .inl h1
 ·exact .inr (.inr h1)
theorem leak_slots {e:SPat}{ids rw ks:List Nat}(h:leakOk e ids rw ks=true): ∀o∈e.slots,noK ks o.2.ks=true:=by
 unfold leakOk at h
 rw[Bool.and_eq_true,List.all_eq_true] at h
 exact h.1
theorem inW_spec {W:List Nat}{fresh:Nat}{l:List Nat}(h:inW W fresh l=true){i:Nat}(hi:i∈l):i∈W∨i/100=fresh/100:=by
 unfold inW at h
 rw[List.all_eq_true] at h
 simpa using h i hi
theorem conv_rel {N' N2:Nm_}{D':Nat→Prop}{w':World}{g n off:Nat}{ep:List (Nat×OPat)}{b:Bnd}(hep:EpOk ep)(hst: ∀i,N2 i=N' i)(hn:N2.sub g n=cN_ N' b ep)(hle:Bnd.le (epB off ep) b)(hrow: ∀i,(∃q∈ep,q.2.isVar=true∧i=off+(q.1-50))→∀nm,N' i=some nm→nm.row=false){u:AV}{v:Value}(hu:VRel N' D' w' u v)(hu2:VRel N2 D' w' u v):VRel N2 D' w' (convAV g (n+1) off ep u) v:=by
 unfold convAV
 split
 ·rename_i i
  split
  ·rename_i hc
   rw[Bool.and_eq_true] at hc
   obtain⟨q,hq,h1,h2⟩:=varAt_spec hc.2
   have hlt:=hep.var_lt hq (isVar_nst h2)
   have hoff:off≤i:=by simpa using hc.1
   have hi:i=off+(q.1-50):=by omega
   obtain⟨nm,a,o,e1,e2,e3,e4⟩:=Vp.1 hu
   have hr:=hrow i ⟨q,hq,h2,hi⟩ nm e1
   have ho:o=0:=by
    have:nm.off []=some 0:=by simp[Nm.off,hr,oS]
    rw[this] at e3;cases e3;rfl
   subst ho
   have hcan:cN_ N' b ep (i-off+50)=some nm:=by
    rw[←h1,(canonN_real (N:=N') (b:=b) hlt.2 (fun e he=>(hep.closed.st e he).1) ⟨q,hq,rfl⟩).at_ (hle _ _ (epB_get ep ⟨q,hq,rfl,h2⟩)),←hi]
    exact e1
   unfold VRel
   simp only[AV.isAgg,vrel,RA,RfAt]
   exact⟨nm,a,by rw[hn];exact hcan,hr,e2,by rw[e4]⟩
  ·exact hu2
 ·exact hu2
theorem var_park {M:Nm_}{D:Nat→Prop}{w:World}: ∀{l:List (Nat×OPat)} {d:hD_ l},ParkH D w base M l d→∀{q:Nat×OPat},q∈l→q.2.isVar=true→∃v,VarAt M D w base q.1 v
 | [],_,_,q,hq,_=>by simp at hq
 |(c,p)::os,d,h,q,hq,hv=>by
  simp only[ParkH] at h
  rcases List.mem_cons.1 hq with rfl|hq
  ·cases p with
   |var p=>have h1:=h.1;simp only[ParkP] at h1;exact⟨_,h1⟩
   |row t=>cases hv
   |store e=>cases hv
  ·exact var_park h.2.1 hq hv
theorem row_park {M:Nm_}{D:Nat→Prop}{w:World}: ∀{l:List (Nat×OPat)} {d:hD_ l},ParkH D w base M l d→∀{c:Nat} {t:Ty},(c,OPat.row t)∈l→AM.nodup (l.map (·.1))=true→∃nm,M c=some nm∧nm.row=true∧True
 | [],_,_,q,_,hq,_=>by simp at hq
 |(c,p)::os,d,h,c',t,hq,hn=>by
  simp only[ParkH] at h
  simp only[List.map_cons,AM.nodup,Bool.and_eq_true] at hn
  rcases List.mem_cons.1 hq with e|hq
  ·cases e
   have h1:=h.1
   simp only[ParkP] at h1
   obtain⟨nm,e1,e2,_⟩:=h1
   exact⟨nm,e1,e2,trivial⟩
  ·exact row_park h.2.1 hq hn.2
theorem setS_ne {ep:List (Nat×OPat)}{xs:List (hD_ ep)}{n k:Nat}{d:hD_ ep}(h:k≠n):lget (β:=hD_ ep) (setS xs n d) k=lget (β:=hD_ ep) xs k:=List.getElem?_set_ne (Ne.symm h)
theorem setS_at {ep:List (Nat×OPat)}{xs:List (hD_ ep)}{n:Nat}{d:hD_ ep}(h:n<xs.length):lget (β:=hD_ ep) (setS xs n d) n=some d:=by simp[setS,lget,h]
theorem setS_len {ep:List (Nat×OPat)}{xs:List (hD_ ep)}{n:Nat}{d:hD_ ep}:llen (β:=hD_ ep) (setS xs n d)=llen (β:=hD_ ep) xs:=by simp[setS,llen]
theorem callX_take {sp:FSpec}{F:sp.pre.den→Option (eD sp.exits)}{f:FuncId}{args:List AV}{st:St}{W:List Nat}{fresh:Nat}{k:AV→St→Option α}{fail:Option α}{r:α}(hok:sp.ok=true)(hF:fO P base f sp F)(h100:fresh%100=0){j g n c:Nat}{ep:List (Nat×OPat)}{xs:List (hD_ ep)}{d:hD_ ep}
  (hfind:args[j]?=some (.rf g (n+1) c)) (hs:st.h (SB+g)=some (.store ep xs)) (hd:lget (β:=hD_ ep) xs n=some d) (hep:epOk ep=true) (hf:freeNew st.h (fresh+60) [] ep=true) (hWg:W.contains (SB+g)=true) (hWe:ep.all (fun o=>W.contains (back [] (fresh+60) o.1))=true) (hc:varAt ep c=true)
  (h:callG sp F (args.set j (.ptr (back [] (fresh+60) c) [])) (takeSt st g (fresh+60) ep d) W fresh (fun e ids av st'=>putK W fresh g n (fresh+60) ep xs e ids av st' k) fail=some r):
  fail=some r∨∃av st',k av st'=some r∧CallOK P base W f args st fresh av st':=by
 rcases callG_sound h hok hF h100 with h1|⟨e,ids,av,st1,h1,hcall,hsh⟩
 ·exact .inl h1
 right
 have hep:=epOk_spec hep
 unfold putK at h1
 rcases matchSt_sound h1 hep.closed with h2|⟨dd,ro,b,h2,hle,M,hsim⟩
 ·cases h2
 split at h2
 ·cases h2
 rename_i hcond
 simp only[Bool.and_eq_true,Bool.not_eq_true',List.contains_eq_mem,decide_eq_false_iff_not,List.isEmpty_iff] at hcond
 obtain⟨⟨⟨⟨hro,hleak⟩,hrwg⟩,houts⟩,hinW⟩:=hcond
 subst hro
 rw[List.all_eq_true] at hWe houts
 have hfr: ∀q∈ep,SB≤q.1→absent (st.h q.1)=true:=by
  intro q hq hge
  unfold freeNew at hf
  rw[List.all_eq_true] at hf
  have:=hf q hq
  rw[decide_eq_false (sb_50 hge),decide_eq_true hge] at this
  simpa using this
 have hfn: ∀q∈ep,q.1<SB→50≤q.1→st.h (fresh+60+(q.1-50))=none:=by
  intro q hq hlt h50
  unfold freeNew at hf
  rw[List.all_eq_true] at hf
  have:=hf q hq
  rw[decide_eq_false (show¬q.1<50 by omega),decide_eq_false (show¬SB≤q.1 by omega)] at this
  simp only[Bool.false_or,Bool.and_eq_true,Option.isNone_iff_eq_none] at this
  exact this.2
 have hgst:iS ep (SB+g)=false:=by
  cases h:iS ep (SB+g) with
  |false=>rfl
  |true=>
   obtain⟨q,hq,h1,_⟩:=iS_.1 h
   have:=hfr q hq (by omega)
   rw[h1,hs] at this;cases this
 have hnotout: ∀q∈ep,back [] (fresh+60) q.1≠SB+g:=by
  intro q hq hb
  cases hst:q.2.isSt with
  |true=>
   have hge:=(hep.closed.st q hq).1 hst
   rw[back_st hge] at hb
   rw[iS_.2 ⟨q,hq,hb,hst⟩] at hgst;cases hgst
  |false=>
   obtain⟨g1,g2⟩:=hep.var_lt hq hst
   rw[back_out g1 g2] at hb
   have:=hfn q hq g2 g1
   rw[hb,hs] at this;cases this
 have hdead:(takeSt st g (fresh+60) ep d).h (SB+g)=some .dead:=by
  show mkH (back [] (fresh+60)) ep d (killAll st.h [SB+g]) (SB+g)=_
  rw[mkH_mem hnotout,killAll_at]
  simp
 refine⟨_,_,h2,hcall.1,hcall.2.1,hcall.2.2.1,hcall.2.2.2.1,fun id hid hdiv=>?_,fun N D w S cargs hargs=>?_⟩
 ·have hns:iS ep id=false:=by
   cases h:iS ep id with
   |false=>rfl
   |true=>
    obtain⟨q,hq,h1,h2⟩:=iS_.1 h
    have:=hWe q hq
    rw[back_st ((hep.closed.st q hq).1 h2),h1] at this
    exact absurd (by simpa using this) hid
  have hng:id≠SB+g:=by
   rintro rfl
   exact hid (by simpa using hWg)
  have hnr:(rI ep b).contains id=false:=by
   cases h:(rI ep b).contains id with
   |false=>rfl
   |true=>
    rcases inW_spec hinW (show id∈rI ep b by simpa using h) with h1|h1
    ·exact absurd h1 hid
    ·exact absurd h1 hdiv
  show parkH st1.h ep (rI ep b) g _ id=st.h id
  unfold parkH
  rw[if_neg hng,hns,hnr]
  simp only[Bool.false_eq_true,if_false]
  rw[hcall.2.2.2.2.1 id hid hdiv]
  show mkH (back [] (fresh+60)) ep d (killAll st.h [SB+g]) id=st.h id
  rw[mkH_mem (fun q hq e=>hid (by have:=hWe q hq;rw[e] at this;simpa using this)),killAll_at]
  simp[hng]
 ·obtain⟨N1,D1,S1,X1,r4,r5,r7,r6⟩:=take_sound S hs hd hep hf
  obtain⟨cv,hcj,hvj⟩:=RelEach_get _ _ _ _ hargs hfind
  unfold VRel at hvj
  simp only[AV.isAgg,vrel,RA,RfAt] at hvj
  obtain⟨nm,a,e1,e2,e3,e4⟩:=hvj
  simp only[Option.some.injEq] at e4
  obtain⟨qc,hqc,hqc1,hqc2⟩:=varAt_spec hc
  have hclt:=hep.var_lt hqc (isVar_nst hqc2)
  have hargs1:RE N1 D1 w (args.set j (.ptr (back [] (fresh+60) c) [])) cargs:=
   RelEach_set (RelEach_mono X1.names X1.frozen (X1.keepD S) _ _ hargs) hcj (Vp.2 ⟨nm,a,0,r4 c ⟨by omega,qc,hqc,hqc1⟩ nm e1,e3,by simp[Nm.off,e2,oS],e4⟩)
  refine(hcall.2.2.2.2.2 N1 D1 w S1 cargs hargs1).mono fun en w' hen=>?_
  cases en with
  |panicked c=>exact hen.elim
  |outgrown=>exact hen.elim
  |returned v=>
   obtain⟨N',D',X2,S',hv⟩:=hen
   have X:=X1.trans X2
   obtain⟨Sc,_⟩:=hsim N' D' w' base S'
   rw[froz_nil] at Sc
   have hN'g: ∀k,N'.sub g k=N.sub g k:=fun k=>((X2.hid g hdead).2 k).trans (r5 g hgst k)
   have hobj:ParkP D w base N (SB+g) (.store ep) xs:=S.obj _ _ hs
   simp only[ParkP,sb_sub] at hobj
   have hpark:=park_of_sim (l:=ep) (d:=dd.2) hep.nodup (fun c nm hc=>by obtain⟨e,he,h1,h2⟩:=canon_mem hc;exact⟨e,he,h1,tname_st h2⟩) Sc
   have hxn:n<xs.length:=(List.getElem?_eq_some_iff.1 hd).1
   have hzk: ∀k dk,k≠n→lget (β:=hD_ ep) (setS xs n dd.2) k=some dk→lget (β:=hD_ ep) xs k=some dk:=fun k dk hk h=>(setS_ne hk).symm.trans h
   have hEown: ∀k dk,k≠n→lget (β:=hD_ ep) xs k=some dk→∀bl,OwnH (N.sub g k) ep dk bl→¬Own N1 (takeSt st g (fresh+60) ep d).h bl∧Own N st.h bl∧Lives D w base bl:=by
    intro k dk hk hx bl ho
    have hO:OwnO N (SB+g) (.store ep xs) bl:=by
     show OwnP N (SB+g) (.store ep) xs bl
     simp only[OwnP,sb_sub]
     exact⟨k,dk,hx,ho⟩
    refine⟨?_,⟨SB+g,_,hs,hO⟩,S.lives hs hO⟩
    rintro⟨i,oi,h1,h2⟩
    rcases r6 i oi bl h1 h2 with h3|⟨h3,h4,h5⟩
    ·exact hk (hobj.2.2.2 k n dk d bl hx hd ho h3)
    ·exact h5 (S.apart i (SB+g) oi _ bl h3 hs h4 hO)
   have hvarN: ∀q∈ep,q.2.isVar=true→cN_ N' b ep q.1=N' (fresh+60+(q.1-50)):=fun q hq hv=>
    (canonN_real (N:=N') (b:=b) (hep.var_lt hq (isVar_nst hv)).2 (fun e he=>(hep.closed.st e he).1) ⟨q,hq,rfl⟩).at_ (hle _ _ (epB_get ep ⟨q,hq,rfl,hv⟩))
   obtain⟨N2,t1,t2,t3,t4,t5⟩:=park_sound S X S' hep (s':=st1) rfl M Sc (g:=g) (n:=n) (zs:=setS xs n dd.2) (setS_at hxn) hgst
    (fun k dk hk hz=>by
     have hx:=hzk k dk hk hz
     rw[hN'g]
     obtain⟨p1,p2⟩:=hobj.2.1 k dk hx
     refine⟨⟨ParkH.congr X.frozen (X.keepD S) p1 fun bl ho=>?_,p2⟩,fun bl ho=>⟨fun j' o hj ho' hown=>?_,fun _=>(hEown k dk hk hx bl ho).2.1⟩⟩
     ·obtain⟨q1,_,q3⟩:=hEown k dk hk hx bl ho
      refine⟨X2.keep bl q3.2.2 q1,fun hnd hd'=>?_⟩
      rcases X2.frz bl hd' with h3|h3|h3
      ·exact hnd (r7 bl h3)
      ·exact q1 h3
      ·have:=q3.2.2;omega
     ·obtain⟨q1,_,q3⟩:=hEown k dk hk hx bl ho
      exact q1 (X2.own bl q3.2.2 ⟨j',o,ho',hown⟩))
    (fun k k' dk dk' bl hk hk' hz hz' ho ho'=>by
     rw[hN'g] at ho ho'
     exact hobj.2.2.2 k k' dk dk' bl (hzk k dk hk hz) (hzk k' dk' hk' hz') ho ho')
    (fun k hk=>by
     rw[hN'g]
     exact hobj.2.2.1 k (setS_len▸hk))
    (fun l hl k=>by
     obtain⟨q,hq,h3,_⟩:=iS_.1 hl
     refine S.absent l ?_ k
     rw[←h3]
     exact hfr q hq (by omega))
    (fun c nm hc hr=>by
     rw[hN'g] at hc
     obtain⟨q,hq,h3,h4⟩:=(hobj.2.1 n d hd).2.1 c nm hc
     have hv:q.2.isVar=true:=by
      obtain⟨q1,qp⟩:=q
      cases qp with
      |var p=>rfl
      |store e=>cases h4
      |row t=>
       exfalso
       have:=row_park (hobj.2.1 n d hd).1 hq hep.nodup
       obtain⟨nm',f1,f2,_⟩:=this
       have h3:q1=c:=h3
       rw[h3,hc] at f1
       cases f1
       rw[hr] at f2;cases f2
     rw[←h3,hvarN q hq hv]
     have hlt:=hep.var_lt hq (isVar_nst hv)
     have:=X2.names _ _ (r4 c ⟨by omega,q,hq,h3⟩ nm hc)
     rw[←h3,back_out hlt.1 hlt.2] at this
     exact this)
    (by rw[hs];intro h;cases h) hrwg
    (fun i o hi hrw hne hns=>by
     rcases shape_ok hsh hleak hi hrw with h3|h3|⟨o0,h3,h4⟩
     ·exact .inl h3
     ·exact .inr (.inl h3)
     ·have h3:mkH (back [] (fresh+60)) ep d (killAll st.h [SB+g]) i=some o0:=h3
      rcases mkH_look h3 with⟨q,hq,h5,y,_,_⟩|⟨_,h5⟩
      ·left
       have:=houts q hq
       rw[h5] at this
       simp only[Bool.or_eq_true] at this
       rcases this with(h6|h6)|h6
       ·rw[back_st ((hep.closed.st q hq).1 h6)] at h5
        rw[iS_.2 ⟨q,hq,h5,h6⟩] at hns;cases hns
       ·exact absurd (by simpa using h6) hrw
       ·rw[hi] at h6
        cases o<;>simp[isDead] at h6
        rfl
      ·rw[killAll_at] at h5
       split at h5
       ·rename_i h6;exact absurd (by simpa using h6) hne
       ·exact .inr (.inr ⟨o0,h5,h4⟩))
   refine⟨N2,D',t5,t4,?_⟩
   obtain⟨bk,ds,hav⟩:=hsh.res
   subst hav
   rw[convR_res _ (fun v hv us=>by
    obtain⟨o,_,rfl⟩:=List.mem_map.1 hv
    exact mkT_ntup _ _ _ _ _)]
   refine res_conv (by simp) (fun i a b' ha hb c' hvc=>?_) hv
   rw[List.getElem?_map,ha] at hb
   simp only[Option.map_some,Option.some.injEq] at hb
   subst hb
   rw[List.getElem?_map] at ha
   cases ho:e.slots[i]? with
   |none=>rw[ho] at ha;cases ha
   |some o=>
    rw[ho] at ha
    simp only[Option.map_some,Option.some.injEq] at ha
    subst ha
    refine conv_rel hep t1 t3 hle (fun i' ⟨q,hq,hqv,hi'⟩ nm hnm=>?_) hvc (slot_le (fun i nm h=>by rw[t1];exact h) t2 e.slots ds (leak_slots hleak) c' hvc)
    obtain⟨v',nm',a',f1,f2,f3,_⟩:=var_park hpark.1 hq hqv
    rw[hvarN q hq hqv,←hi',hnm] at f1
    cases f1
    exact f3
theorem storeAt_spec {ep:List (Nat×OPat)}{o:Option AObj}{k:List (hD_ ep)→Option α}{r:α}(h:storeAt ep o k=some r): ∃xs,k xs=some r∧(o=some (.store ep xs)∨absent o=true∧xs=[]):=by
 unfold storeAt at h
 split at h
 ·split at h
  ·rename_i ep' xs ys hc
   obtain⟨rfl,rfl⟩:=castS_some hc
   exact⟨_,h, .inl rfl⟩
  ·cases h
 ·exact⟨_,h, .inr ⟨rfl,rfl⟩⟩
 ·exact⟨_,h, .inr ⟨rfl,rfl⟩⟩
 ·cases h
theorem snocS_at {ep:List (Nat×OPat)}{xs:List (hD_ ep)}{d:hD_ ep}:lget (β:=hD_ ep) (snocS xs d) (lenS xs)=some d:=by simp[snocS,lget,lenS]
theorem snocS_ne {ep:List (Nat×OPat)}{xs:List (hD_ ep)}{d dk:hD_ ep}{k:Nat}(hk:k≠lenS xs)(h:lget (β:=hD_ ep) (snocS xs d) k=some dk):lget (β:=hD_ ep) xs k=some dk:=by
 simp only[snocS,lget,lenS] at*
 have hlt:=(List.getElem?_eq_some_iff.1 h).1
 simp at hlt
 rw[List.getElem?_append_left (by omega)] at h
 exact h
theorem callX_dep {sp:FSpec}{F:sp.pre.den→Option (eD sp.exits)}{f:FuncId}{args:List AV}{st:St}{W:List Nat}{fresh:Nat}{k:AV→St→Option α}{fail:Option α}{r:α}(hok:sp.ok=true)(hF:fO P base f sp F)(h100:fresh%100=0){i g:Nat}{ep:List (Nat×OPat)}
  (hWg:W.contains (SB+g)=true) (hWe:ep.all (fun o=>W.contains o.1)=true) (hep:epOk ep=true) (hab:ep.all (fun o=>!o.2.isSt||absent (st.h o.1))=true)
  (h:callG sp F args st W fresh (fun e ids av st'=>depK W fresh i g ep e ids av st' k) fail=some r):
  fail=some r∨∃av st',k av st'=some r∧CallOK P base W f args st fresh av st':=by
 rcases callG_sound h hok hF h100 with h1|⟨e,ids,av,st1,h1,hcall,hsh⟩
 ·exact .inl h1
 right
 have hep:=epOk_spec hep
 unfold depK at h1
 split at h1
 ·rename_i j hj
  obtain⟨xs,h1,hxs⟩:=storeAt_spec h1
  rcases matchSt_sound h1 hep.closed with h2|⟨dd,ro,b,h2,hle,M,hsim⟩
  ·cases h2
  split at h2
  ·cases h2
  rename_i hcond
  simp only[Bool.and_eq_true,Bool.not_eq_true',List.contains_eq_mem,decide_eq_false_iff_not,List.isEmpty_iff] at hcond
  obtain⟨⟨⟨⟨⟨hro,hleak⟩,hrwg⟩,hv50⟩,hgst⟩,hinW⟩:=hcond
  subst hro
  rw[List.all_eq_true] at hWe hab
  refine⟨_,_,h2,hcall.1,hcall.2.1,hcall.2.2.1,hcall.2.2.2.1,fun id hid hdiv=>?_,fun N D w S cargs hargs=>?_⟩
  ·have hns:iS ep id=false:=by
    cases h:iS ep id with
    |false=>rfl
    |true=>
     obtain⟨q,hq,h1,h2⟩:=iS_.1 h
     have:=hWe q hq
     rw[h1] at this
     exact absurd (by simpa using this) hid
   have hng:id≠SB+g:=by
    rintro rfl
    exact hid (by simpa using hWg)
   have hnr:(rI ep b).contains id=false:=by
    cases h:(rI ep b).contains id with
    |false=>rfl
    |true=>
     rcases inW_spec hinW (show id∈rI ep b by simpa using h) with h1|h1
     ·exact absurd h1 hid
     ·exact absurd h1 hdiv
   show parkH st1.h ep (rI ep b) g _ id=st.h id
   unfold parkH
   rw[if_neg hng,hns,hnr]
   simp only[Bool.false_eq_true,if_false]
   exact hcall.2.2.2.2.1 id hid hdiv
  ·refine(hcall.2.2.2.2.2 N D w S cargs hargs).mono fun en w' hen=>?_
   cases en with
   |panicked c=>exact hen.elim
   |outgrown=>exact hen.elim
   |returned v=>
    obtain⟨N',D',X,S',hv⟩:=hen
    obtain⟨Sc,_⟩:=hsim N' D' w' base S'
    rw[froz_nil] at Sc
    have hpark:=park_of_sim (l:=ep) (d:=dd.2) hep.nodup (fun c nm hc=>by obtain⟨e,he,h1,h2⟩:=canon_mem hc;exact⟨e,he,h1,tname_st h2⟩) Sc
    have hobj:ParkP D' w' base N' (SB+g) (.store ep) xs:=by
     rcases hxs with h3|⟨h3,rfl⟩
     ·exact S'.obj _ _ h3
     ·simp only[ParkP,sb_sub]
      exact⟨Nat.le_add_right SB g,fun k d hk=>by simp[lget] at hk,fun k _=>S'.absent g h3 k,fun k k' d d' b hk=>by simp[lget] at hk⟩
    simp only[ParkP,sb_sub] at hobj
    have hown: ∀k dk bl,lget (β:=hD_ ep) xs k=some dk→OwnH (N'.sub g k) ep dk bl→st1.h (SB+g)=some (.store ep xs)∧OwnO N' (SB+g) (.store ep xs) bl:=by
     intro k dk bl hx ho
     rcases hxs with h3|⟨h3,rfl⟩
     ·refine⟨h3,?_⟩
      show OwnP N' (SB+g) (.store ep) xs bl
      simp only[OwnP,sb_sub]
      exact⟨k,dk,hx,ho⟩
     ·simp[lget] at hx
    obtain⟨q50,hq50,h50,hv50'⟩:=varAt_spec hv50
    have hcan:cN_ N' b ep 50=N' j:=by
     have:=(canonN_real (N:=N') (b:=b) (hep.var_lt hq50 (isVar_nst hv50')).2 (fun e he=>(hep.closed.st e he).1) ⟨q50,hq50,rfl⟩)
     rw[h50] at this
     exact this.at_ (hle 50 (.at_ j) (by simp[Bnd.get]))
    obtain⟨N2,t1,t2,t3,t4,t5⟩:=park_sound S X S' hep (s':=st1) rfl M Sc (g:=g) (n:=lenS xs) (zs:=snocS xs dd.2) snocS_at hgst
     (fun k dk hk hz=>by
      have hx:=snocS_ne hk hz
      refine⟨hobj.2.1 k dk hx,fun bl ho=>?_⟩
      obtain⟨h3,h4⟩:=hown k dk bl hx ho
      exact⟨fun j' o hj' ho' hown'=>hj' (S'.apart j' (SB+g) o _ bl ho' h3 hown' h4),fun hlt=>X.own bl hlt ⟨SB+g,_,h3,h4⟩⟩)
     (fun k k' dk dk' bl hk hk' hz hz' ho ho'=>hobj.2.2.2 k k' dk dk' bl (snocS_ne hk hz) (snocS_ne hk' hz') ho ho')
     (fun k hk=>hobj.2.2.1 k (by
      have:(snocS xs dd.2).length≤k:=hk
      simp only[snocS,List.length_append] at this
      simp only[llen];omega))
     (fun l hl k=>by
      obtain⟨q,hq,h3,h4⟩:=iS_.1 hl
      refine S.absent l ?_ k
      have:=hab q hq
      rw[h4,h3] at this
      simpa using this)
     (fun c nm hc hr=>by
      rw[hobj.2.2.1 (lenS xs) (Nat.le_refl _)] at hc
      cases hc)
     (fun hd=>by
      have:=(X.hid g hd).1
      rcases hxs with h3|⟨h3,_⟩
      ·rw[this] at h3;cases h3
      ·rw[this] at h3;cases h3)
     hrwg (fun i' o hi hrw _ _=>shape_ok hsh hleak hi hrw)
    refine⟨N2,D',t5,t4,?_⟩
    obtain⟨bk,ds,hav⟩:=hsh.res
    subst hav
    have hnt: ∀v∈e.slots.map (fun o=>mkT bk e.slots ds o.1),∀us,v≠ .tup us:=fun v hv us=>by
     obtain⟨o,_,rfl⟩:=List.mem_map.1 hv
     exact mkT_ntup _ _ _ _ _
    unfold depAV
    rw[resL_res hnt] at hj⊢
    refine res_conv (by simp) (fun i' a b' ha hb c' hvc=>?_) hv
    by_cases hii:i'=i
    ·subst hii
     rw[hj] at ha
     cases ha
     have hlt:i'<(e.slots.map (fun o=>mkT bk e.slots ds o.1)).length:=(List.getElem?_eq_some_iff.1 hj).1
     rw[List.getElem?_set_self hlt] at hb
     cases hb
     obtain⟨nm,a,o,e1,e2,e3,e4⟩:=Vp.1 hvc
     obtain⟨v',nm',a',f1,f2,f3,_⟩:=var_park hpark.1 hq50 hv50'
     rw[h50,hcan,e1] at f1
     cases f1
     have ho:o=0:=by
      have:nm.off []=some 0:=by simp[Nm.off,f3,oS]
      rw[this] at e3;cases e3;rfl
     subst ho
     unfold VRel
     simp only[AV.isAgg,vrel,RA,RfAt]
     exact⟨nm,a,by rw[t3,hcan];exact e1,f3,e2,by rw[e4]⟩
    ·rw[List.getElem?_set_ne (Ne.symm hii)] at hb
     rw[ha] at hb
     cases hb
     rw[List.getElem?_map] at ha
     cases ho:e.slots[i']? with
     |none=>rw[ho] at ha;cases ha
     |some o=>
      rw[ho] at ha
      simp only[Option.map_some,Option.some.injEq] at ha
      subst ha
      exact slot_le (fun i nm h=>by rw[t1];exact h) t2 e.slots ds (leak_slots hleak) c' hvc
 ·exact⟨_,_,h1,hcall⟩
 ·cases h1
def ConOK (P:Program)(base:Nat)(f:FuncId)(con:FCon):Prop:=con.sp.ok=true∧fO P base f con.sp con.f
theorem callX_sound {con:FCon}{f:FuncId}{args:List AV}{st:St}{W:List Nat}{fresh:Nat}{k:AV→St→Option α}{fail:Option α}{r:α}(hc:ConOK P base f con)(h100:fresh%100=0)(h:callX con args st W fresh k fail=some r):
  fail=some r∨∃av st',k av st'=some r∧CallOK P base W f args st fresh av st':=by
 unfold callX at h
 split at h
 ·split at h
  ·rcases callG_sound h hc.1 hc.2 h100 with h1|⟨e,ids,av,st1,h1,hcall,_⟩
   ·exact .inl h1
   ·exact .inr ⟨av,st1,h1,hcall⟩
  ·split at h
   ·rename_i hw
    simp only[Bool.and_eq_true] at hw
    exact callX_dep hc.1 hc.2 h100 hw.1.1.1 hw.1.1.2 hw.1.2 hw.2 h
   ·cases h
 ·rename_i j g n c hfind
  split at h
  ·rename_i ep xs hs
   split at h
   ·cases h
   ·rename_i n'
    split at h
    ·cases h
    ·rename_i d hd
     split at h
     ·cases h
     ·rename_i hw
      simp only[Bool.and_eq_true] at hw
      have:=(findRf_spec hfind).2
      rw[Nat.sub_zero] at this
      exact callX_take hc.1 hc.2 h100 this hs hd hw.1.1.1.1 hw.1.1.1.2 hw.1.1.2 hw.1.2 hw.2 h
  ·cases h
theorem callsX_sound {f:FuncId}{args:List AV}{st:St}{W:List Nat}{fresh:Nat}{k:AV→St→Option α}{r:α}(h100:fresh%100=0): ∀(cs:List FCon),(∀c∈cs,ConOK P base f c)→callsX args st W fresh k cs=some r→∃av st',k av st'=some r∧CallOK P base W f args st fresh av st'
 | [],_,h=>by simp[callsX] at h
 |c::cs,hc,h=>by
  unfold callsX at h
  rcases callX_sound (hc c (List.mem_cons_self ..)) h100 h with h1|h1
  ·exact callsX_sound h100 cs (fun c' hc'=>hc c' (List.mem_cons_of_mem _ hc')) h1
  ·exact h1
end AM
namespace AM
open Go
variable {α:Type}{P:Program}{base:Nat}
noncomputable def resRun (P:Program)(tmps:Array Value):ResultVar→Sem Value
 | .tmp t=>pure (tmps.getD t Go.undef)
 | .cell a t=>do loadVar t (←asAddr (tmps.getD a Go.undef))
def resVal:List Value→Value
 | [v]=>v
 |vs=> .tuple vs.toArray
theorem results_eq (fn:Func)(tmps:Array Value)(w:World){vs:List Value}(h:(fn.results.toList.mapM (resRun P tmps)).run P w= .ok vs w):(results fn tmps).run P w= .ok (resVal vs) w:=by
 have e:results fn tmps=(do let vs←fn.results.mapM (resRun P tmps);pure (if h:vs.size=1 then vs[0] else .tuple vs)):=rfl
 rw[e,←Array.toArray_toList (xs:=fn.results),List.mapM_toArray]
 simp only[Sem.run_bind,Sem.run_map,h,Result.andThen_ok,Sem.run_pure]
 match vs with
 | []=>rfl
 | [v]=>rfl
 |a::b::l=>simp[resVal]
theorem resultsOf_sound {st:St}: ∀(l:List ResultVar) (k:List AV→Option α) (r:α),resultsOf P st l k=some r→
  ∃vs,k vs=some r∧vs.length=l.length∧∀N D w a,SRel N D w base st a→∃cs,(l.mapM (resRun P a.tmps)).run P w= .ok cs w∧RE N D w vs cs
 | [],k,r,h=>⟨[],h,rfl,fun N D w a s=>⟨[],by simp,by simp only[RE]⟩⟩
 | .tmp t::l,k,r,h=>by
  unfold resultsOf at h
  obtain⟨vs,h1,h2,h3⟩:=resultsOf_sound l _ r h
  refine⟨_,h1,by simp[h2],fun N D w a s=>?_⟩
  obtain⟨cs,g1,g2⟩:=h3 N D w a s
  refine⟨a.tmps.getD t Go.undef::cs,?_,?_⟩
  ·simp only[List.mapM_cons,resRun,Sem.run_bind,Sem.run_pure,Result.andThen_ok,g1]
  ·simp only[RE]
   exact⟨_,_,rfl,s.tmps t,g2⟩
 | .cell x t::l,k,r,h=>by
  unfold resultsOf at h
  split at h
  ·rename_i i p hx
   obtain⟨u,h0,_,hget⟩:=get_sound h
   split at h0
   ·rename_i hfit
    obtain⟨vs,h1,h2,h3⟩:=resultsOf_sound l _ r h0
    refine⟨_,h1,by simp[h2],fun N D w a s=>?_⟩
    obtain⟨cs,g1,g2⟩:=h3 N D w a s
    have hv:=s.tmps x
    rw[hx] at hv
    obtain⟨nm,ad,o,e1,e2,e3,e4⟩:=Vp.1 hv
    obtain⟨f1,f2,_⟩:=hget N D w base s.sim nm ad o e1 e2 e3
    obtain⟨c,q1,q2⟩:=load_run (P:=P) (N:=N) (D:=D) (w:=w) (ad:=Addr.at_ ad o) (v:=u) rfl hfit (relAt_fun f2 fun j=>by simp[cA,Addr.at_,Nat.add_assoc])
    simp only[Instr.loadAt,Instr.sureAddr,Sem.run_bind,Sem.run_pure,Result.andThen_ok] at q1
    refine⟨c::cs,?_,?_⟩
    ·simp only[List.mapM_cons,resRun,Sem.run_bind,e4,asAddr,Sem.run_pure,Result.andThen_ok,q1,g1]
    ·simp only[RE]
     exact⟨_,_,rfl,q2,g2⟩
   ·cases h0
  ·cases h
theorem each_range {N:Nm_}{D:Nat→Prop}{w:World}{l:List (Nat×Pat)}{f:Nat→AV}{cs:List Value}(hl:l.map (·.1)=List.range cs.length)(h: ∀y,VRel N D w (f y) (cs.getD y Go.undef)):RE N D w (l.map fun o=>f o.1) cs:=by
 have e:(l.map fun o=>f o.1)=(List.range cs.length).map f:=by rw[←hl,List.map_map];rfl
 rw[e]
 clear e hl
 have key: ∀(cs:List Value) (g:Nat→AV),(∀y,VRel N D w (g y) (cs.getD y Go.undef))→RE N D w ((List.range cs.length).map g) cs:=by
  intro cs
  induction cs with
  |nil=>intro g _;simp only[List.length_nil,List.range_zero,List.map_nil,RE]
  |cons c cs ih=>
   intro g hg
   simp only[List.length_cons,List.range_succ_eq_map,List.map_cons,List.map_map,RE]
   exact⟨c,cs,rfl,(by have:=hg 0;exact this),ih (g∘Nat.succ) fun y=>by simpa using hg (y+1)⟩
 exact key cs f h
theorem res_range {N:Nm_}{D:Nat→Prop}{w:World}{l:List (Nat×Pat)}{f:Nat→AV}{cs:List Value}(hl:l.map (·.1)=List.range cs.length)(h: ∀y,VRel N D w (f y) (cs.getD y Go.undef)):VRel N D w (resAV (l.map fun o=>f o.1)) (resVal cs):=by
 have he:=each_range hl h
 have hlen:=RelEach_length he
 match l,cs,he,hlen with
 | [],[],he,_=>exact VRel_tup.2 ⟨_,rfl,he⟩
 | [o],[v],he,_=>
  simp only[List.map_cons,List.map_nil,RE] at he
  obtain⟨c,cs',e,h1,_⟩:=he
  cases e
  exact h1
 |o::o'::os,c::c'::cs,he,_=>exact VRel_tup.2 ⟨_,rfl,he⟩
 | [],_::_,_,h=>simp at h
 |_::_,[],_,h=>simp at h
 | [_],_::_::_,_,h=>simp at h
 |_::_::_,[_],_,h=>simp at h
structure FunIs (P:Program)(f:FuncId)(fn:Func)(sp:FSpec):Prop where
 here:P.funcs[f]?=some fn
 name:(fn.name== "runtime.NumGoroutine")=false
 ok:sp.ok=true
 nt:sp.pre.slots.length≤fn.ntmps
 res: ∀e∈sp.exits,e.slots.map (·.1)=List.range fn.results.size
 body: ∃c,fn.body=some c∧LoopsOK fn c∧DrawsOK c
theorem fun_ok {f:FuncId}{fn:Func}{sp:FSpec}{F:sp.pre.den→Option (eD sp.exits)}{env:Env (eD sp.exits)}(hi:FunIs P f fn sp)(hm:P.follows .mixedOrders=true)(he:EnvCalls P base env)(hl:EnvLoops P base fn env)(hF: ∀d,fB P sp env fn d=F d):fO P base f sp F:=by
 obtain⟨c,hb,hloops,hdraws⟩:=hi.body
 refine⟨⟨fn,hi.here,by simp[hb],hi.name⟩,fun d r hr N D w cargs S hlen hargs=>?_⟩
 have hex:exec P env 100000 [.code c] (sp.pre.st fn.ntmps d) (funK P sp fn)=some r:=by
  rw[←hr,←hF];simp[fB,hb]
 have hg:Good fn [.code c]:=⟨by simpa [Item.ok] using hloops,by simpa [Item.okd] using hdraws,by simp,by intro _ _ _ _ _ e;cases e⟩
 refine calls_of_wp hi.here hb ?_
 have s:SRel N D w base (sp.pre.st fn.ntmps d) {tmps:=cargs.toArray++Array.replicate (fn.ntmps-cargs.toArray.size) Go.undef,defers:=[]}:=by
  refine⟨S,fun y=>?_,?_,rfl⟩
  ·have e:(cargs.toArray++Array.replicate (fn.ntmps-cargs.toArray.size) Go.undef).getD y Go.undef=cargs.getD y Go.undef:=by
    rw[Array.getD_eq_getD_getElem?,List.getD_eq_getElem?_getD,Array.getElem?_append]
    split
    ·simp
    ·rename_i hy
     rw[Array.getElem?_replicate,List.getElem?_eq_none (by simpa using hy)]
     split<;>rfl
   rw[e];exact hargs y
  ·have:=hi.nt
   simp only[Array.size_append,List.size_toArray,Array.size_replicate,SPat.st]
   omega
 refine exec_sound he hl hm _ _ _ _ _ hex hg N D w _ (bodyPost P fn _) s fun out st' hK N' D' w' a' s' x'=>?_
 have hdone:funK P sp fn .norm st'=some r→a'.defers=[]∧∃v,(results fn a'.tmps).run P w'= .ok v w'∧caseP sp.exits r fun e _ d'=> ∃Ne De,ExPost base sp.pre N D (Own N (mkH (fun c=>c) sp.pre.heap d.2 (fun _=>none))) w e Ne De w' d'∧VRel Ne De w' (resAV (e.slots.map fun o=>mkT (fun c=>c) e.slots d'.1 o.1)) v:=by
  intro hK
  unfold funK at hK
  simp only at hK
  obtain⟨vs,h1,h2,h3⟩:=resultsOf_sound (base:=base) _ _ _ hK
  obtain⟨cs,g1,g2⟩:=h3 N' D' w' a' s'
  obtain⟨x,hx,hcase⟩:=tryEx_spec _ _ _ h1 fun e he=>(FSpec.ok_ex hi.ok he).1.closed
  cases hx
  refine⟨s'.defers,_,results_eq fn a'.tmps w' g1,caseP_mono _ _ (fun e n d' hmem ht=>?_) hcase⟩
  obtain⟨Ne,De,post,hvals⟩:=took_post (FSpec.ok_pre hi.ok).st (d:=d.2) (s:={st' with t:=fun i=>(vs[i]?).getD .undef}) S s'.sim x' rfl ht
  refine⟨Ne,De,post,?_⟩
  have hcl:=RelEach_length g2
  refine res_range (f:=fun y=>mkT (fun c=>c) e.slots d'.1 y) (by rw[hi.res e hmem,hcl,h2];simp) fun y=>hvals y _ ?_
  show VRel N' D' w' ((vs[y]?).getD .undef) (cs.getD y Go.undef)
  cases ha:vs[y]? with
  |none=>simp only[Option.getD_none];exact VRel_undef
  |some u=>
   obtain⟨c',hc',hv⟩:=RelEach_get _ _ _ _ g2 ha
   rw[List.getD_eq_getElem?_getD,hc']
   exact hv
 cases out with
 |norm=>exact hdone hK
 |ret=>exact hdone hK
 |exit id=>simp[funK] at hK
end AM
namespace AM
open Go
variable {α:Type}{P:Program}{base:Nat}
theorem outEq_eq {a b:Out}(h:outEq a b=true):a=b:=by
 cases a<;>cases b<;>simp[outEq] at h<;>first|rfl|(subst h;rfl)
theorem tryOuts_spec {s:St}{b:Bnd}{o:Out}: ∀(es:List SPat) (outs:List Out) (k:eD es→Option α) (r:α),tryOuts s b o es outs k=some r→(∀e∈es,Closed e)→∃x,k x=some r∧caseP es x fun e n d'=>Took s b e d'∧(outs[n]?).getD .norm=o
 | [],outs,k,r,h,_=>by simp[tryOuts] at h
 | [e],[],k,r,h,hc=>by simp[tryOuts] at h
 | [e],o'::outs,k,r,h,hc=>by
  unfold tryOuts at h
  simp only at h
  split at h
  ·rename_i ho
   rcases matchSt_took h (hc e (List.mem_cons_self ..)) with h1|⟨d,h1,h2⟩
   ·cases h1
   ·exact⟨d,h1,h2,by simp[outEq_eq ho]⟩
  ·cases h
 |e::e'::es,[],k,r,h,hc=>by simp[tryOuts] at h
 |e::e'::es,o'::outs,k,r,h,hc=>by
  unfold tryOuts at h
  simp only at h
  have htail:tryOuts s b o (e'::es) outs (fun d=>k (.inr d))=some r→∃x,k x=some r∧caseP (e::e'::es) x fun e n d'=>Took s b e d'∧((o'::outs)[n]?).getD .norm=o:=by
   intro h1
   obtain⟨x,h3,h4⟩:=tryOuts_spec (e'::es) outs _ r h1 fun e he=>hc e (List.mem_cons_of_mem _ he)
   exact⟨.inr x,h3,by simpa [caseP] using h4⟩
  split at h
  ·rename_i ho
   rcases matchSt_took (k:=fun d=>k (.inl d)) h (hc e (List.mem_cons_self ..)) with h1|⟨d,h1,h2⟩
   ·exact htail h1
   ·exact⟨.inl d,h1,h2,by simp[outEq_eq ho]⟩
  ·exact htail h
def EndOK (base:Nat)(sp:LSpec)(N:Nm_)(D O:Nat→Prop)(w:World)(x:eD sp.exits)(e:Exit)(a':Act)(w':World):Prop:=
 e≠ .normal∧caseP sp.exits x fun e' n d'=>e=outExit ((sp.outs[n]?).getD .norm)∧∃Ne De,ExPost base sp.pre N D O w e' Ne De w' d'∧SRel Ne De w' base (e'.st sp.nt d') a'
def RoundEnd (base:Nat)(sp:LSpec)(N:Nm_)(D O:Nat→Prop)(w:World):sp.pre.den⊕eD sp.exits→Exit→Act→World→Prop
 | .inl d',e,a',w'=>e= .normal∧∃Ne De,ExPost base sp.pre N D O w sp.pre Ne De w' d'∧SRel Ne De w' base (sp.pre.st sp.nt d') a'
 | .inr x,e,a',w'=>EndOK base sp N D O w x e a' w'
def rO (P:Program)(base:Nat)(fn:Func)(id:Nat)(sp:LSpec)(F:sp.pre.den→Option (sp.pre.den⊕eD sp.exits)):Prop:=
 ∀d r,F d=some r→∀N D w a,SRel N D w base (sp.pre.st sp.nt d) a→(loopAt id fn).wp P (RoundEnd base sp N D (Own N (mkH (fun c=>c) sp.pre.heap d.2 (fun _=>none))) w r) a w
def LSpec.ok (sp:LSpec):Bool:=sp.pre.closed&&sp.exits.all fun e=>exOk sp.pre e
theorem LSpec.ok_ex {sp:LSpec}(h:sp.ok=true){e:SPat}(he:e∈sp.exits):ExOk sp.pre e:=by
 simp only[LSpec.ok,Bool.and_eq_true,List.all_eq_true] at h
 exact exOk_spec (h.2 e he)
theorem LSpec.ok_pre {sp:LSpec}(h:sp.ok=true):Closed sp.pre:=by
 simp only[LSpec.ok,Bool.and_eq_true] at h
 exact closed_spec h.1
theorem round_ok {fn:Func}{id:Nat}{sp:LSpec}{F:sp.pre.den→Option (sp.pre.den⊕eD sp.exits)}{env:Env (sp.pre.den⊕eD sp.exits)}(hok:sp.ok=true)(hloops:LoopsOK fn (loopAt id fn))(hdraws:DrawsOK (loopAt id fn))(hm:P.follows .mixedOrders=true)(he:EnvCalls P base env)(hl:EnvLoops P base fn env)
  (hF: ∀d,lB P sp env fn id d=F d):rO P base fn id sp F:=by
 intro d r hr N D w a s
 have hex:exec P env 100000 [.code (loopAt id fn)] (sp.pre.st sp.nt d) (loopK sp)=some r:=by
  rw[←hr,←hF];rfl
 have hg:Good fn [.code (loopAt id fn)]:=⟨by simpa [Item.ok] using hloops,by simpa [Item.okd] using hdraws,by simp,by intro _ _ _ _ _ e;cases e⟩
 refine exec_sound he hl hm _ _ _ _ _ hex hg N D w _ (RoundEnd base sp N D (Own N (mkH (fun c=>c) sp.pre.heap d.2 (fun _=>none))) w r) s fun out st' hK N' D' w' a' s' x'=>?_
 unfold loopK at hK
 split at hK
 ·cases hK
 ·rename_i hnt
  simp only[decide_eq_true_eq] at hnt
  have hend: ∀o,o≠ .norm→tryOuts st' (keepB sp.pre) o sp.exits sp.outs (fun d=>some (.inr d))=some r→RoundEnd base sp N D (Own N (mkH (fun c=>c) sp.pre.heap d.2 (fun _=>none))) w r (outExit o) a' w':=by
   intro o ho h1
   obtain⟨x,hx,hcase⟩:=tryOuts_spec _ _ _ _ h1 fun e he=>(LSpec.ok_ex hok he).closed
   cases hx
   refine⟨by cases o<;>simp[outExit] at ho⊢,caseP_mono _ _ (fun e n d' hmem ht=>?_) hcase⟩
   obtain⟨ht,hout⟩:=ht
   obtain⟨Ne,De,post,hvals⟩:=took_post (LSpec.ok_pre hok).st (d:=d.2) s.sim s'.sim x' rfl ht
   exact⟨by rw[hout],Ne,De,post,post.sim,fun y=>hvals y _ (s'.tmps y),by rw[s'.nt,hnt];rfl,s'.defers⟩
  cases out with
  |ret=>exact hend .ret (by intro e;cases e) hK
  |exit id=>exact hend (.exit id) (by intro e;cases e) hK
  |norm=>
   rcases matchSt_took (k:=fun d=>some (Sum.inl d)) (show matchSt sp.pre st' (keepB sp.pre) (fun d _ _=>some (Sum.inl d)) none=some r from hK) (LSpec.ok_pre hok) with h1|⟨d',h1,ht⟩
   ·cases h1
   ·cases h1
    obtain⟨Ne,De,post,hvals⟩:=took_post (LSpec.ok_pre hok).st (d:=d.2) s.sim s'.sim x' rfl ht
    exact⟨rfl,Ne,De,post,post.sim,fun y=>hvals y _ (s'.tmps y),by rw[s'.nt,hnt];rfl,s'.defers⟩
theorem rounds_mono {c:Code}{Q Q':Exit→Act→World→Prop}(h: ∀e a w,Q e a w→Q' e a w): ∀(n:Nat) (a:Act) (w:World),Code.rounds P c Q n a w→Code.rounds P c Q' n a w
 |0,_,_,h'=>h'.elim
 |n+1,a,w,h'=>by
  refine wp_mono h' fun e a' w' hq=>?_
  cases e with
  |normal=>exact rounds_mono h n a' w' hq
  |exit id=>exact h _ _ _ hq
  |goto l=>exact h _ _ _ hq
  |ret=>exact h _ _ _ hq
  |panic ch=>exact h _ _ _ hq
  |outgrown=>exact h _ _ _ hq
theorem ExPost.trans {pre e:SPat}{N N1 Ne:Nm_}{D D1 De O O1:Nat→Prop}{w w1 w':World}{d1:pre.den}{d:e.den}(hO:O1=Own N1 (mkH (fun c=>c) pre.heap d1.2 (fun _=>none)))(h1:ExPost base pre N D O w pre N1 D1 w1 d1)(h2:ExPost base pre N1 D1 O1 w1 e Ne De w' d):ExPost base pre N D O w e Ne De w' d:=by
 subst hO
 refine⟨h2.sim,h1.ext.trans h2.ext,fun c h50 hc he=>?_,fun g hg he k c nm h3 h4=>h2.keepS g hg he k c nm (h1.keepS g hg hg k c nm h3 h4) h4⟩
 rw[h2.keep c h50 hc he]
 obtain⟨q,hq,h3,_⟩:=id hc
 exact h1.keep c h50 hc ⟨q,hq,h3⟩
theorem EndOK.trans {sp:LSpec}{N N1:Nm_}{D D1 O O1:Nat→Prop}{w w1:World}{d1:sp.pre.den}(hO:O1=Own N1 (mkH (fun c=>c) sp.pre.heap d1.2 (fun _=>none)))(h1:ExPost base sp.pre N D O w sp.pre N1 D1 w1 d1){x:eD sp.exits}{e:Exit}{a':Act}{w':World}(h2:EndOK base sp N1 D1 O1 w1 x e a' w'):EndOK base sp N D O w x e a' w':=by
 refine⟨h2.1,caseP_mono _ _ (fun e' n d' _ hq=>?_) h2.2⟩
 obtain⟨g1,Ne,De,g2,g3⟩:=hq
 exact⟨g1,Ne,De,h1.trans hO g2,g3⟩
theorem iter_sound {fn:Func}{id:Nat}{sp:LSpec}{F:sp.pre.den→Option (sp.pre.den⊕eD sp.exits)}(hR:rO P base fn id sp F): ∀(n:Nat) (d:sp.pre.den) (x:eD sp.exits),iter F n d=some x→∀N D w a,SRel N D w base (sp.pre.st sp.nt d) a→
  Code.rounds P (loopAt id fn) (EndOK base sp N D (Own N (mkH (fun c=>c) sp.pre.heap d.2 (fun _=>none))) w x) n a w
 |0,d,x,h,_,_,_,_,_=>by simp[iter] at h
 |n+1,d,x,h,N,D,w,a,s=>by
  simp only[iter] at h
  split at h
  ·cases h
  ·rename_i y hy
   cases h
   refine wp_mono (hR d _ hy N D w a s) fun e a' w' hq=>?_
   have hne:=hq.1
   cases e with
   |normal=>exact absurd rfl hne
   |exit id=>exact hq
   |goto l=>exact hq
   |ret=>exact hq
   |panic ch=>exact hq
   |outgrown=>exact hq
  ·rename_i d1 hd
   refine wp_mono (hR d _ hd N D w a s) fun e a' w' hq=>?_
   obtain⟨rfl,N1,D1,post,s1⟩:=hq
   exact rounds_mono (fun e a2 w2 h2=>EndOK.trans rfl post h2) n a' w' (iter_sound hR n d1 x h N1 D1 w' a' s1)
theorem loopBy_sound {fn:Func}{id:Nat}{sp:LSpec}{F:sp.pre.den→Option (sp.pre.den⊕eD sp.exits)}(hok:sp.ok=true)(hR:rO P base fn id sp F){st:St}{k:Out→St→Option α}{fail:Option α}{r:α}(h:loopBy sp F st k fail=some r):
  fail=some r∨∃out st',k out st'=some r∧LoopOK P base fn id st out st':=by
 unfold loopBy at h
 split at h
 ·cases h
 ·rename_i hnt
  simp only[decide_eq_true_eq] at hnt
  rcases matchSt_sound h (LSpec.ok_pre hok) with h1|⟨d,ro,b,h1,_,M,ht⟩
  ·exact .inl h1
  ·right
   split at h1
   ·cases h1
   ·rename_i x hx
    obtain⟨e,n,d',he,h2,h3⟩:=caseEx_spec _ _ _ _ h1
    split at h2
    ·cases h2
    ·rename_i hfree
     have hex:=LSpec.ok_ex hok he
     refine⟨_,_,h2,fun N D w a s=>?_⟩
     obtain⟨m,hm⟩:=loopFix_iff.1 hx
     obtain⟨S1,T1⟩:=ht N D w base s.sim
     have s1:SRel (cN_ N b sp.pre.heap) (froz N D ro) w base (sp.pre.st sp.nt d) a:=⟨S1,fun y=>T1 y _ (s.tmps y),by rw[s.nt,hnt];rfl,s.defers⟩
     refine wp_mono (wp_loop_rounds m (iter_sound hR m d x hm _ _ w a s1)) fun en a' w' hen=>?_
     obtain⟨hout,Ne,De,post,se⟩:=h3 _ hen.2
     obtain⟨N',D',S',X',tr,_⟩:=ret_sound (s:=st) rfl s.sim M hex hfree (lt:=false) (by intro e';cases e') (fun bl hb=>M.canon hb) post.sim post.ext (fun q hq h50=>post.keep q.1 h50 (hex.var q hq h50) ⟨q,hq,rfl⟩) (keepS_of post.keepS)
     refine⟨hout,N',D',⟨S',fun y=>?_,by rw[se.nt];exact hnt.symm,se.defers⟩,X'⟩
     exact(mkT_like fun o' ho' z=>⟨mk_sh _ _ _ _,fun g hg=>tr o'.2 z g (fun c hc=>hex.closed.cs c (.inl (List.mem_flatMap.2 ⟨o',ho',hc⟩))) (fun g hg=>hex.closed.ks g (.inl (List.mem_flatMap.2 ⟨o',ho',hg⟩))) (by intro e';cases e') hg⟩).val (se.tmps y)
def CallsOK (P:Program)(base:Nat)(calls:List (Nat×List FCon)):Prop:= ∀p∈calls,∀c∈p.2,ConOK P base p.1 c
def LoopsAre (P:Program)(base:Nat)(fn:Func)(loops:List (Nat×List LCon)):Prop:= ∀p∈loops,∀l∈p.2,l.sp.ok=true∧rO P base fn p.1 l.sp l.f
theorem lookN_mem {β:Type}{n:Nat}{x:β}: ∀{l:List (Nat×β)},lookN n l=some x→(n,x)∈l
 | [],h=>by simp[lookN] at h
 |p::l,h=>by
  simp only[lookN] at h
  split at h
  ·rename_i e
   cases h;subst e
   exact List.mem_cons_self ..
  ·exact List.mem_cons_of_mem _ (lookN_mem h)
theorem env_calls {calls:List (Nat×List FCon)}{loops:List (Nat×List LCon)}(h:CallsOK P base calls):EnvCalls P base (mE (α:=α) calls loops):=by
 intro f args st fresh k r h100 hc
 simp only[mE] at hc⊢
 cases hf:lookN f calls with
 |none=>rw[hf] at hc;cases hc
 |some c=>
  rw[hf] at hc
  exact callsX_sound h100 c (h _ (lookN_mem hf)) hc
theorem env_loops {fn:Func}{calls:List (Nat×List FCon)}{loops:List (Nat×List LCon)}(h:LoopsAre P base fn loops):EnvLoops P base fn (mE (α:=α) calls loops):=by
 intro id st k r hc
 simp only[mE] at hc
 cases hf:lookN id loops with
 |none=>rw[hf] at hc;cases hc
 |some ls=>
  rw[hf] at hc
  have hls:=h _ (lookN_mem hf)
  simp only at hls hc
  clear hf h
  induction ls with
  |nil=>simp[loopsBy] at hc
  |cons l ls ih=>
   unfold loopsBy at hc
   obtain⟨g1,g2⟩:=hls l (List.mem_cons_self ..)
   rcases loopBy_sound g1 g2 hc with h1|h1
   ·exact ih h1 fun l hl=>hls l (List.mem_cons_of_mem _ hl)
   ·exact h1
end AM
namespace AM
open Go
variable {α:Type}{P:Program}{base:Nat}
def loopIds:Code→List Nat
 | .seq a b=>loopIds a++loopIds b
 | .cond _ a b=>loopIds a++loopIds b
 | .block _ c=>loopIds c
 | .scope c=>loopIds c
 | .loop c=>(firstRegion c).toList++loopIds c
 |_=> []
def drawsB:Code→Bool
 | .seq a b=>drawsB a&&drawsB b
 | .cond _ a b=>drawsB a&&drawsB b
 | .block _ c=>drawsB c
 | .scope c=>drawsB c
 | .loop c=>drawsB c
 | .region _ ops draw=>!draw||drawOk ops
 |_=>true
theorem draws_ok: ∀(c:Code),drawsB c=true→DrawsOK c
 | .seq a b,h=>by simp only[drawsB,Bool.and_eq_true] at h;exact⟨draws_ok a h.1,draws_ok b h.2⟩
 | .cond _ a b,h=>by simp only[drawsB,Bool.and_eq_true] at h;exact⟨draws_ok a h.1,draws_ok b h.2⟩
 | .block _ c,h=>draws_ok c h
 | .scope c,h=>draws_ok c h
 | .region _ ops draw,h=>by
  intro hd
  subst hd
  simpa [drawsB] using h
 | .loop _,_=>trivial
 | .skip,_=>trivial
 | .exit _,_=>trivial
 | .ret,_=>trivial
 | .label _,_=>trivial
 | .goto _,_=>trivial
 | .rangeFunc _ _ _ _,_=>trivial
 | .refuse _,_=>trivial
theorem fLm {id:Nat}: ∀(c:Code) {c':Code},fL_ id c=some c'→id∈loopIds c
 | .seq a b,c',h=>by
  simp only[fL_] at h
  split at h
  ·exact List.mem_append_left _ (fLm a ‹_›)
  ·exact List.mem_append_right _ (fLm b h)
 | .cond _ a b,c',h=>by
  simp only[fL_] at h
  split at h
  ·exact List.mem_append_left _ (fLm a ‹_›)
  ·exact List.mem_append_right _ (fLm b h)
 | .block _ c,_,h=>by simp only[fL_] at h;exact fLm c h
 | .scope c,_,h=>by simp only[fL_] at h;exact fLm c h
 | .loop c,_,h=>by
  simp only[fL_] at h
  split at h
  ·rename_i e;exact List.mem_append_left _ (by rw[e];simp)
  ·exact List.mem_append_right _ (fLm c h)
 | .region _ _ _,_,h=>by simp[fL_] at h
 | .skip,_,h=>by simp[fL_] at h
 | .exit _,_,h=>by simp[fL_] at h
 | .ret,_,h=>by simp[fL_] at h
 | .label _,_,h=>by simp[fL_] at h
 | .goto _,_,h=>by simp[fL_] at h
 | .rangeFunc _ _ _ _,_,h=>by simp[fL_] at h
 | .refuse _,_,h=>by simp[fL_] at h
theorem nodup_left {a b:List Nat}(h:AM.nodup (a++b)=true):AM.nodup a=true:=by
 induction a with
 |nil=>rfl
 |cons x xs ih=>
  simp only[List.cons_append,AM.nodup,Bool.and_eq_true,Bool.not_eq_true',List.contains_eq_mem,decide_eq_false_iff_not,List.mem_append,not_or] at h⊢
  exact⟨h.1.1,ih h.2⟩
theorem loops_sub {fn:Func}: ∀(c:Code),(∀id c',fL_ id c=some c'→loopAt id fn=c')→AM.nodup (loopIds c)=true→LoopsOK fn c
 | .seq a b,H,h=>by
  simp only[loopIds] at h
  obtain⟨h1,h2⟩:=nodup_append h
  refine⟨loops_sub a (fun id c' e=>H id c' (by simp only[fL_,e])) (nodup_left h),loops_sub b (fun id c' e=>H id c' ?_) h1⟩
  have hn:fL_ id a=none:=by
   cases ha:fL_ id a with
   |none=>rfl
   |some x=>exact absurd (fLm b e) (h2 id (fLm a ha))
  simp only[fL_,hn,e]
 | .cond o a b,H,h=>by
  simp only[loopIds] at h
  obtain⟨h1,h2⟩:=nodup_append h
  refine⟨loops_sub a (fun id c' e=>H id c' (by simp only[fL_,e])) (nodup_left h),loops_sub b (fun id c' e=>H id c' ?_) h1⟩
  have hn:fL_ id a=none:=by
   cases ha:fL_ id a with
   |none=>rfl
   |some x=>exact absurd (fLm b e) (h2 id (fLm a ha))
  simp only[fL_,hn,e]
 | .block i c,H,h=>loops_sub c (fun id c' e=>H id c' (by simpa only[fL_] using e)) h
 | .scope c,H,h=>loops_sub c (fun id c' e=>H id c' (by simpa only[fL_] using e)) h
 | .loop c,H,h=>by
  simp only[loopIds] at h
  obtain⟨h1,h2⟩:=nodup_append h
  refine⟨fun id e=>H id c (by simp only[fL_,e,if_true]),loops_sub c (fun id c' e=>H id c' ?_) h1⟩
  have hne: ¬firstRegion c=some id:=fun e'=>h2 id (by rw[e'];simp) (fLm c e)
  simp only[fL_,if_neg hne,e]
 | .region _ _ _,_,_=>trivial
 | .skip,_,_=>trivial
 | .exit _,_,_=>trivial
 | .ret,_,_=>trivial
 | .label _,_,_=>trivial
 | .goto _,_,_=>trivial
 | .rangeFunc _ _ _ _,_,_=>trivial
 | .refuse _,_,_=>trivial
theorem loops_ok {fn:Func}{c:Code}(hb:fn.body=some c)(h:AM.nodup (loopIds c)=true):LoopsOK fn c:=
 loops_sub c (fun id c' e=>by simp only[loopAt,hb,e,Option.getD_some]) h
theorem loop_in {fn:Func}{id:Nat}: ∀(c:Code) {c':Code},fL_ id c=some c'→LoopsOK fn c→drawsB c=true→LoopsOK fn c'∧drawsB c'=true
 | .seq a b,c',h,hl,hd=>by
  simp only[drawsB,Bool.and_eq_true] at hd
  simp only[fL_] at h
  split at h
  ·rename_i x e
   cases h
   exact loop_in a e hl.1 hd.1
  ·exact loop_in b h hl.2 hd.2
 | .cond _ a b,c',h,hl,hd=>by
  simp only[drawsB,Bool.and_eq_true] at hd
  simp only[fL_] at h
  split at h
  ·rename_i x e
   cases h
   exact loop_in a e hl.1 hd.1
  ·exact loop_in b h hl.2 hd.2
 | .block _ c,_,h,hl,hd=>by simp only[fL_] at h;exact loop_in c h hl hd
 | .scope c,_,h,hl,hd=>by simp only[fL_] at h;exact loop_in c h hl hd
 | .loop c,_,h,hl,hd=>by
  simp only[fL_] at h
  split at h
  ·cases h;exact⟨hl.2,hd⟩
  ·exact loop_in c h hl.2 hd
 | .region _ _ _,_,h,_,_=>by simp[fL_] at h
 | .skip,_,h,_,_=>by simp[fL_] at h
 | .exit _,_,h,_,_=>by simp[fL_] at h
 | .ret,_,h,_,_=>by simp[fL_] at h
 | .label _,_,h,_,_=>by simp[fL_] at h
 | .goto _,_,h,_,_=>by simp[fL_] at h
 | .rangeFunc _ _ _ _,_,h,_,_=>by simp[fL_] at h
 | .refuse _,_,h,_,_=>by simp[fL_] at h
def bodyB (fn:Func):Bool:=match fn.body with|some c=>AM.nodup (loopIds c)&&drawsB c|none=>false
theorem bodyB_spec {fn:Func}(h:bodyB fn=true): ∃c,fn.body=some c∧LoopsOK fn c∧DrawsOK c:=by
 unfold bodyB at h
 split at h
 ·rename_i c hc
  simp only[Bool.and_eq_true] at h
  exact⟨c,hc,loops_ok hc h.1,draws_ok c h.2⟩
 ·cases h
theorem loopAt_ok {fn:Func}(h:bodyB fn=true)(id:Nat):LoopsOK fn (loopAt id fn)∧DrawsOK (loopAt id fn):=by
 unfold bodyB at h
 split at h
 ·rename_i c hc
  simp only[Bool.and_eq_true] at h
  unfold loopAt
  rw[hc]
  simp only
  cases hf:fL_ id c with
  |none=>exact⟨trivial,trivial⟩
  |some c'=>
   obtain⟨h1,h2⟩:=loop_in c hf (loops_ok hc h.1) h.2
   exact⟨h1,draws_ok _ h2⟩
 ·cases h
def natsEq:List Nat→List Nat→Bool
 | [],[]=>true
 |a::l,b::m=>decide (a=b)&&natsEq l m
 |_,_=>false
theorem natsEq_eq: ∀{l m:List Nat},natsEq l m=true→l=m
 | [],[],_=>rfl
 |a::l,b::m,h=>by
  simp only[natsEq,Bool.and_eq_true,decide_eq_true_eq] at h
  rw[h.1,natsEq_eq h.2]
 | [],_::_,h=>by simp[natsEq] at h
 |_::_,[],h=>by simp[natsEq] at h
def funB (fn:Func)(sp:FSpec):Bool:=sp.ok&&decide (sp.pre.slots.length≤fn.ntmps)&& (sp.exits.all fun e=>natsEq (e.slots.map (·.1)) (List.range fn.results.size))&&bodyB fn
theorem FunIs.of {f:FuncId}{fn:Func}{sp:FSpec}(h1:P.funcs[f]?=some fn)(h2:(fn.name== "runtime.NumGoroutine")=false)(h3:funB fn sp=true):FunIs P f fn sp:=by
 simp only[funB,Bool.and_eq_true,decide_eq_true_eq,List.all_eq_true] at h3
 exact⟨h1,h2,h3.1.1.1,h3.1.1.2,fun e he=>natsEq_eq (h3.1.2 e he),bodyB_spec h3.2⟩
theorem fC {f:FuncId}{fn:Func}{sp:FSpec}{F:sp.pre.den→Option (eD sp.exits)}{calls:List (Nat×List FCon)}{loops:List (Nat×List LCon)}(h1:P.funcs[f]?=some fn)(h2:(fn.name== "runtime.NumGoroutine")=false)(h3:funB fn sp=true)
  (hm:P.follows .mixedOrders=true) (hc:CallsOK P base calls) (hl:LoopsAre P base fn loops) (hF: ∀d,fB P sp (mE calls loops) fn d=F d):fO P base f sp F:=
 fun_ok (FunIs.of h1 h2 h3) hm (env_calls hc) (env_loops hl) hF
theorem lK {fn:Func}{id:Nat}{sp:LSpec}{F:sp.pre.den→Option (sp.pre.den⊕eD sp.exits)}{calls:List (Nat×List FCon)}{loops:List (Nat×List LCon)}(hok:sp.ok=true)(hb:bodyB fn=true)
  (hm:P.follows .mixedOrders=true) (hc:CallsOK P base calls) (hl:LoopsAre P base fn loops) (hF: ∀d,lB P sp (mE calls loops) fn id d=F d):rO P base fn id sp F:=
 round_ok hok (loopAt_ok hb id).1 (loopAt_ok hb id).2 hm (env_calls hc) (env_loops hl) hF
theorem cN:CallsOK P base []:=fun p hp=>by simp at hp
theorem cC {i:Nat}{cs:List FCon}{l:List (Nat×List FCon)}(h1: ∀c∈cs,ConOK P base i c)(h:CallsOK P base l):CallsOK P base ((i,cs)::l):=List.forall_mem_cons.2 ⟨h1,h⟩
theorem cc0 {i:Nat}{c:FCon}{cs:List FCon}(h1:c.sp.ok=true)(h2:fO P base i c.sp c.f)(h: ∀y∈cs,ConOK P base i y): ∀y∈c::cs,ConOK P base i y:=List.forall_mem_cons.2 ⟨⟨h1,h2⟩,h⟩
theorem cn {i:Nat}: ∀y∈([]:List FCon),ConOK P base i y:=fun p hp=>by simp at hp
theorem lN {fn:Func}:LoopsAre P base fn []:=fun p hp=>by simp at hp
theorem lC {fn:Func}{i:Nat}{ls:List LCon}{l:List (Nat×List LCon)}(h1: ∀x∈ls,x.sp.ok=true∧rO P base fn i x.sp x.f)(h:LoopsAre P base fn l):LoopsAre P base fn ((i,ls)::l):=List.forall_mem_cons.2 ⟨h1,h⟩
theorem lc {fn:Func}{i:Nat}{x:LCon}{ls:List LCon}(h1:x.sp.ok=true)(h2:rO P base fn i x.sp x.f)(h: ∀y∈ls,y.sp.ok=true∧rO P base fn i y.sp y.f): ∀y∈x::ls,y.sp.ok=true∧rO P base fn i y.sp y.f:=List.forall_mem_cons.2 ⟨⟨h1,h2⟩,h⟩
theorem ln {fn:Func}{i:Nat}: ∀y∈([]:List LCon),y.sp.ok=true∧rO P base fn i y.sp y.f:=fun p hp=>by simp at hp
end AM
namespace AM
open Go
variable {α:Type}{P:Program}{base:Nat}
inductive Prim where
 |load (k:IntKind) (p:List Step)
 |add (k:IntKind) (p:List Step)
 |swap (k:IntKind) (p:List Step)
 |once (pd pm:List Step)
def intAt (st:St)(i:Nat)(q p:List Step)(off:Nat)(kd:IntKind)(k:Int→Option α):Option α:=
 st.get i q fun u=>match decide (oS p u.sh=some off) with
  |true=>st.get i (q++p) fun v=>(match v with
   | .val (.int k' x)=>(match decide (k'=kd) with|true=>k x|false=>none)
   |_=>none)
  |false=>none
def cloArgs:AV→Option (FuncId×List AV)
 | .clo (.func g) cs=>some (g,cs)
 | .bnd (.func g) cs=>some (g,cs)
 |_=>none
noncomputable def primBy (calls:List (Nat×List FCon))(pr:Prim)(args:List AV)(st:St)(fresh:Nat)(K:AV→St→Option α):Option α:=match pr,args with
 | .load kd p,[.ptr i q]=>intAt st i q p 0 kd fun x=>K (.val (.int kd x)) st
 | .add kd p,[.ptr i q, .val (.int k' y)]=>(match decide (k'=kd) with
  |true=>intAt st i q p 0 kd fun x=>st.store i (q++p) (.val (.int kd (wr kd (x+y)))) fun st'=>K (.val (.int kd (wr kd (x+y)))) st'
  |false=>none)
 | .swap kd p,[.ptr i q, .val (.int k' y)]=>(match decide (k'=kd) with
  |true=>intAt st i q p 0 kd fun x=>st.store i (q++p) (.val (.int kd y)) fun st'=>K (.val (.int kd x)) st'
  |false=>none)
 | .once pd pm,[.ptr i q,cv]=>(match cloArgs cv with
  |none=>none
  |some (g,cs)=>intAt st i q pd 0 .u32 fun d=>(match odec (d=0) with
  |false=>K (.tup []) st
  |true=>intAt st i q pm 1 .i32 fun m=>(match odec (m=0) with
   |false=>none
   |true=>match st.store i (q++pm) (.val (.int .i32 1)) some,lookN g calls with
    |some st1,some c=>callsX cs st1 (fpsX cs st1 fresh c).2 fresh (fun av st2=>(match av with
     | .tup []=>intAt st2 i q pd 0 .u32 fun _=>intAt st2 i q pm 1 .i32 fun m2=>(match odec (m2=1) with
      |true=>st2.store i (q++pd) (.val (.int .u32 1)) fun st3=>st3.store i (q++pm) (.val (.int .i32 0)) fun st4=>K (.tup []) st4
      |false=>none)
     |_=>none)) c
    |_,_=>none)))
 |_,_=>none
noncomputable def primFp (calls:List (Nat×List FCon))(pr:Prim)(args:List AV)(st:St)(fresh:Nat):List Nat×List Nat:=match pr,args with
 | .load _ _,[.ptr i _]=>([i],[])
 | .add _ _,[.ptr i _,_]=>([],[i])
 | .swap _ _,[.ptr i _,_]=>([],[i])
 | .once _ pm,[.ptr i q,cv]=>(match cloArgs cv with
  |none=>([],[i])
  |some (g,cs)=>(match st.store i (q++pm) (.val (.int .i32 1)) some,lookN g calls with
   |some st1,some c=>((fpsX cs st1 fresh c).1,i::(fpsX cs st1 fresh c).2)
   |_,_=>([],[i])))
 |_,_=>([],[])
noncomputable def mkEnvP (prims:List (Nat×Prim))(calls:List (Nat×List FCon))(loops:List (Nat×List LCon)):Env α where
 call f args st fresh k:=match lookN f prims with
  |some pr=>primBy calls pr args st fresh k
  |none=>(mE calls loops).call f args st fresh k
 loop id st k:=(mE calls loops).loop id st k
 fp f args st fresh:=match lookN f prims with
  |some pr=>primFp calls pr args st fresh
  |none=>(mE (α:=α) calls loops).fp f args st fresh
def IsFun (P:Program)(f:FuncId):Prop:= ∃fn,P.funcs[f]?=some fn∧fn.body.isNone=false∧(fn.name== "runtime.NumGoroutine")=false
def WLoad (P:Program)(f:FuncId)(k:IntKind):Prop:=IsFun P f∧∀(b o:Nat) (x:Int) (w:World),w.cell? ⟨b,o,none⟩=some (.int k x)→Calls P f #[.pointer (some ⟨b,o,none⟩)] w fun e w'=>e= .returned (.int k x)∧w'=w
def WAdd (P:Program)(f:FuncId)(k:IntKind):Prop:=IsFun P f∧∀(b o:Nat) (x y:Int) (w:World),w.cell? ⟨b,o,none⟩=some (.int k x)→w.frozen? ⟨b,o,none⟩=false→
 Calls P f #[.pointer (some ⟨b,o,none⟩), .int k y] w fun e w'=>e= .returned (.int k (k.wrap (x+y)))∧w'=w.setCell ⟨b,o,none⟩ (.int k (k.wrap (x+y)))
def WSwap (P:Program)(f:FuncId)(k:IntKind):Prop:=IsFun P f∧∀(b o:Nat) (x y:Int) (w:World),w.cell? ⟨b,o,none⟩=some (.int k x)→w.frozen? ⟨b,o,none⟩=false→
 Calls P f #[.pointer (some ⟨b,o,none⟩), .int k y] w fun e w'=>e= .returned (.int k x)∧w'=w.setCell ⟨b,o,none⟩ (.int k y)
def WOnce (P:Program)(f:FuncId):Prop:=IsFun P f∧
 (∀(a:Addr) (d:Int),¬d=0→∀(fv:Value) (w:World),w.cell? a=some (.int .u32 d)→Calls P f #[.pointer (some a),fv] w fun e w'=>e= .returned (.tuple #[])∧w'=w)∧
 (∀(b off:Nat) (g:FuncId) (first caps:Array Value) (Post:World→Prop) (w:World),(∀w:World,(callFunc g (first++caps)).run P w= .ok (.enter g (first++caps)) w)→
  w.cell? ⟨b,off,none⟩=some (.int .u32 0)→w.cell? ⟨b,off+1,none⟩=some (.int .i32 0)→w.frozen? ⟨b,off+1,none⟩=false→
  (Calls P g (first++caps) (w.setCell ⟨b,off+1,none⟩ (.int .i32 1)) fun e w'=>e= .returned (.tuple #[])∧Post w'∧(∃x,w'.cell? ⟨b,off,none⟩=some x)∧w'.frozen? ⟨b,off,none⟩=false∧w'.cell? ⟨b,off+1,none⟩=some (.int .i32 1)∧w'.frozen? ⟨b,off+1,none⟩=false)→
  Calls P f #[.pointer (some ⟨b,off,none⟩), .func (.func g) first caps] w fun e w'=>e= .returned (.tuple #[])∧∃w1,Post w1∧w'=(w1.drew.setCell ⟨b,off,none⟩ (.int .u32 1)).setCell ⟨b,off+1,none⟩ (.int .i32 0))
theorem offSh_app: ∀(q p:List Step) (sh t:Sh) (o o':Nat),oS q sh=some o→shP q sh=some t→oS p t=some o'→oS (q++p) sh=some (o+o')
 | [],p,sh,t,o,o',h1,h2,h3=>by
  simp only[oS,Option.some.injEq] at h1
  simp only[shP,Option.some.injEq] at h2
  subst h1;subst h2
  rw[List.nil_append,h3,Nat.zero_add]
 | .fld n::q,p, .agg l,t,o,o',h1,h2,h3=>by
  simp only[List.cons_append,oS,shP] at h1 h2⊢
  cases hl:l[n]? with
  |none=>simp[hl] at h1
  |some s=>
   simp only[hl] at h1 h2⊢
   cases hq:oS q s with
   |none=>simp[hq] at h1
   |some o1=>
    simp only[hq,Option.map_some,Option.some.injEq] at h1
    rw[offSh_app q p s t o1 o' hq h2 h3]
    simp only[Option.map_some,Option.some.injEq]
    omega
 | .idx i::q,p, .arr n e,t,o,o',h1,h2,h3=>by
  simp only[List.cons_append,oS,shP] at h1 h2⊢
  split at h1
  ·rename_i hi
   rw[if_pos hi]
   cases hq:oS q e with
   |none=>simp[hq] at h1
   |some o1=>
    simp only[hq,Option.map_some,Option.some.injEq] at h1
    rw[offSh_app q p e t o1 o' hq h2 h3]
    simp only[Option.map_some,Option.some.injEq]
    omega
  ·cases h1
 | .fld n::q,p, .one,t,o,o',h1,h2,h3=>by simp[oS] at h1
 | .fld n::q,p, .arr _ _,t,o,o',h1,h2,h3=>by simp[oS] at h1
 | .idx i::q,p, .one,t,o,o',h1,h2,h3=>by simp[oS] at h1
 | .idx i::q,p, .agg _,t,o,o',h1,h2,h3=>by simp[oS] at h1
theorem off_app {N:Nm_}{D:Nat→Prop}{w:World}{s:St}(S:Sim N D w base s.h){i:Nat}{q p:List Step}{t:Sh}{nm:Nm}{o o':Nat}(hn:N i=some nm)(hs:s.shape i q=some t)(ho:nm.off q=some o)(hp:oS p t=some o'):nm.off (q++p)=some (o+o'):=by
 unfold St.shape at hs
 split at hs
 ·rename_i v hv
  obtain⟨nm',a,e1,_,e3,e4,_⟩:=S.obj i _ hv
  rw[hn] at e1;cases e1
  have key: ∀x:List Step,nm.off x=oS x nm.sh:=fun x=>by unfold Nm.off;split<;>simp[e3]
  rw[key] at ho⊢
  rw[e4] at ho⊢
  exact offSh_app q p _ t o o' ho hs hp
 ·rename_i ro ty xs hv
  obtain⟨nm',e1,e2,e3,_⟩:=S.obj i _ hv
  rw[hn] at e1;cases e1
  split at hs
  ·rename_i j q'
   simp only[List.cons_append,Nm.off,e2,if_true] at ho⊢
   split at ho
   ·rename_i hj
    rw[if_pos hj]
    cases hq:oS q' nm.sh with
    |none=>simp[hq] at ho
    |some o1=>
     simp only[hq,Option.map_some,Option.some.injEq] at ho
     rw[offSh_app q' p nm.sh t o1 o' hq (by rw[e3];exact hs) hp]
     simp only[Option.map_some,Option.some.injEq]
     omega
   ·cases ho
  ·cases hs
 ·cases hs
theorem intAt_sound {st:St}{i:Nat}{q p:List Step}{off:Nat}{kd:IntKind}{k:Int→Option α}{r:α}(h:intAt st i q p off kd k=some r):
  ∃x,k x=some r∧∀N D w,Sim N D w base st.h→∀nm a o,N i=some nm→nm.base=some a→nm.off q=some o→a.spot=none∧nm.off (q++p)=some (o+off)∧w.cell? ⟨a.block,a.off+o+off,none⟩=some (.int kd x):=by
 unfold intAt at h
 obtain⟨u,h1,h2,_⟩:=get_sound h
 split at h1
 ·rename_i hoff
  simp only[decide_eq_true_eq] at hoff
  obtain⟨v,h4,h5,h6⟩:=get_sound h1
  split at h4
  ·rename_i k' x
   split at h4
   ·rename_i hk
    simp only[decide_eq_true_eq] at hk
    subst hk
    refine⟨x,h4,fun N D w S nm a o hn hb ho=>?_⟩
    have ho2:=off_app S hn h2 ho hoff
    obtain⟨g1,g2,_⟩:=h6 N D w base S nm a _ hn hb ho2
    refine⟨g1,ho2,?_⟩
    simp only[RA,cA] at g2
    rw[show a.off+(o+off+0)=a.off+o+off by omega] at g2
    exact g2
   ·cases h4
  ·cases h4
 ·cases h1
theorem VRel_int {N:Nm_}{D:Nat→Prop}{w:World}(k:IntKind)(x:Int):VRel N D w (.val (.int k x)) (.int k x):=Vv.2 rfl
theorem sizes_int (k:IntKind)(x:Int):(AV.val (.int k x)).size=1:=rfl
theorem put_int {s:St}{i:Nat}{p:List Step}{kd:IntKind}{x:Int}{k:St→Option α}{r:α}(h:s.store i p (.val (.int kd x)) k=some r):
  ∃s',k s'=some r∧s'.t=s.t∧s'.nt=s.nt∧s'.ep=s.ep∧(∀j,j≠i→s'.h j=s.h j)∧∀N D w,Sim N D w base s.h→∀nm a o,N i=some nm→nm.base=some a→nm.off p=some o→
   w.frozen? ⟨a.block,a.off+o,none⟩=false∧(∃y,w.cell? ⟨a.block,a.off+o,none⟩=some y)∧∃D',Sim N D' (w.setCell ⟨a.block,a.off+o,none⟩ (.int kd x)) base s'.h∧Ext N D w s.h N D' (w.setCell ⟨a.block,a.off+o,none⟩ (.int kd x)) s'.h:=by
 obtain⟨s',h1,h2,h3,h4,h5,h6⟩:=store_sound h rfl
 refine⟨s',h1,h2,h3,h4,fun j hj=>h5 j hj (by simp[AV.ids]),fun N D w S nm a o hn hb ho=>?_⟩
 obtain⟨g1,⟨cs,ty,fz,g2,g3,g4⟩,D',g5,g6⟩:=h6 N D w base S nm a o (.int kd x) hn hb ho (VRel_int kd x)
 rw[sizes_int] at g4
 have hc:=cells_isSome g2 (o:=a.off+o) (by omega)
 refine⟨not_frozen g2 g3 (by omega),Option.isSome_iff_exists.1 hc,D',?_⟩
 exact⟨g5,g6⟩
theorem ptr_arg {N:Nm_}{D:Nat→Prop}{w:World}{i:Nat}{q:List Step}{l:List AV}{cargs:List Value}(h:RE N D w (.ptr i q::l) cargs): ∃nm a o rest,N i=some nm∧nm.base=some a∧nm.off q=some o∧cargs= .pointer (some ⟨a.block,a.off+o,none⟩)::rest∧RE N D w l rest:=by
 simp only[RE] at h
 obtain⟨c,cs,rfl,h1,h2⟩:=h
 obtain⟨nm,a,o,g1,g2,g3,g4⟩:=Vp.1 h1
 exact⟨nm,a,o,cs,g1,g2,g3,by rw[g4];rfl,h2⟩
def PrimOK (P:Program)(base:Nat)(calls:List (Nat×List FCon))(f:FuncId)(pr:Prim):Prop:= ∀(α:Type) (args:List AV) (st:St) (fresh:Nat) (k:AV→St→Option α) (r:α),fresh%100=0→primBy calls pr args st fresh k=some r→
 ∃av st',k av st'=some r∧CallOK P base (primFp calls pr args st fresh).2 f args st fresh av st'
theorem prim_load {calls:List (Nat×List FCon)}{f:FuncId}{kd:IntKind}{p:List Step}(hw:WLoad P f kd):PrimOK P base calls f (.load kd p):=by
 intro α args st fresh k r _ h
 unfold primBy at h
 split at h<;>first|(rename_i heq;cases heq)|skip
 all_goals first|cases h|skip
 rename_i i q
 obtain⟨x,h1,h2⟩:=intAt_sound (base:=base) h
 refine⟨_,_,h1,hw.1,rfl,rfl,rfl,fun _ _ _=>rfl,fun N D w S cargs hc=>?_⟩
 obtain⟨nm,a,o,rest,g1,g2,g3,rfl,g5⟩:=ptr_arg hc
 simp only[RE] at g5;subst g5
 obtain⟨_,_,hcell⟩:=h2 N D w S nm a o g1 g2 g3
 refine(hw.2 _ _ _ _ hcell).mono fun e w' he=>?_
 obtain⟨rfl,rfl⟩:=he
 exact⟨N,D,Ext.refl _ _ _ _,S,VRel_int _ _⟩
theorem int_arg {N:Nm_}{D:Nat→Prop}{w:World}{k:IntKind}{y:Int}{rest:List Value}(h:RE N D w [.val (.int k y)] rest):rest=[.int k y]:=by
 simp only[RE] at h
 obtain⟨c,cs,rfl,h1,rfl⟩:=h
 rw[Vv.1 h1]
theorem prim_add {calls:List (Nat×List FCon)}{f:FuncId}{kd:IntKind}{p:List Step}(hw:WAdd P f kd):PrimOK P base calls f (.add kd p):=by
 intro α args st fresh k r _ h
 unfold primBy at h
 split at h<;>first|(rename_i heq;cases heq)|skip
 all_goals first|cases h|skip
 rename_i i q k' y
 split at h
 ·rename_i hk
  simp only[decide_eq_true_eq] at hk
  subst hk
  obtain⟨x,h1,h2⟩:=intAt_sound (base:=base) h
  obtain⟨st',h3,h4,h5,h6,h7,h8⟩:=put_int (base:=base) h1
  refine⟨_,_,h3,hw.1,h4,h5,h6,fun j hj _=>h7 j (fun e=>hj (by subst e;simp[primFp])),fun N D w S cargs hc=>?_⟩
  obtain⟨nm,a,o,rest,g1,g2,g3,rfl,g5⟩:=ptr_arg hc
  rw[int_arg g5]
  obtain⟨_,hoff,hcell⟩:=h2 N D w S nm a o g1 g2 g3
  rw[Nat.add_zero] at hoff hcell
  obtain⟨z1,_,D',z2,z3⟩:=h8 N D w S nm a o g1 g2 hoff
  refine(hw.2 _ _ _ _ _ hcell z1).mono fun e w' he=>?_
  obtain⟨rfl,rfl⟩:=he
  rw[←wr_eq]
  exact⟨N,D',z3,z2,VRel_int _ _⟩
 ·cases h
theorem prim_swap {calls:List (Nat×List FCon)}{f:FuncId}{kd:IntKind}{p:List Step}(hw:WSwap P f kd):PrimOK P base calls f (.swap kd p):=by
 intro α args st fresh k r _ h
 unfold primBy at h
 split at h<;>first|(rename_i heq;cases heq)|skip
 all_goals first|cases h|skip
 rename_i i q k' y
 split at h
 ·rename_i hk
  simp only[decide_eq_true_eq] at hk
  subst hk
  obtain⟨x,h1,h2⟩:=intAt_sound (base:=base) h
  obtain⟨st',h3,h4,h5,h6,h7,h8⟩:=put_int (base:=base) h1
  refine⟨_,_,h3,hw.1,h4,h5,h6,fun j hj _=>h7 j (fun e=>hj (by subst e;simp[primFp])),fun N D w S cargs hc=>?_⟩
  obtain⟨nm,a,o,rest,g1,g2,g3,rfl,g5⟩:=ptr_arg hc
  rw[int_arg g5]
  obtain⟨_,hoff,hcell⟩:=h2 N D w S nm a o g1 g2 g3
  rw[Nat.add_zero] at hoff hcell
  obtain⟨z1,_,D',z2,z3⟩:=h8 N D w S nm a o g1 g2 hoff
  refine(hw.2 _ _ _ _ _ hcell z1).mono fun e w' he=>?_
  obtain⟨rfl,rfl⟩:=he
  exact⟨N,D',z3,z2,VRel_int _ _⟩
 ·cases h
end AM
namespace AM
open Go
variable {α:Type}{P:Program}{base:Nat}
theorem Sim.drew {N:Nm_}{D:Nat→Prop}{w:World}{h:Nat→Option AObj}(S:Sim N D w base h):Sim N D w.drew base h∧Ext N D w h N D w.drew h:=
 ⟨⟨fun i o hi=>ObjAt_congr (S.obj i o hi) (Nm_.le_refl _) (fun _ h=>h) (fun _ _=>rfl) (fun _ _=>⟨rfl,fun h=>h⟩) (fun _ _ _ _=>rfl),S.apart,S.frozen,S.named,S.size,S.absent⟩,
  Nm_.le_refl _,fun _ h=>h,rfl,rfl,rfl,Nat.le_refl _,fun _ _ _=>rfl,fun _ _ h=>h,fun _ h=> .inl h,fun _ _ h=> .inl h,fun _ h=>h,fun _ h=>⟨h,fun _=>rfl⟩⟩
theorem cloArgs_rel {N:Nm_}{D:Nat→Prop}{w:World}{cv:AV}{g:FuncId}{cs:List AV}{c:Value}(h:cloArgs cv=some (g,cs))(hv:VRel N D w cv c): ∃first caps:Array Value,c= .func (.func g) first caps∧RE N D w cs (first++caps).toList:=by
 unfold cloArgs at h
 split at h
 ·cases h
  unfold VRel at hv
  simp only[AV.isAgg,vrel,RA] at hv
  obtain⟨cc,q1,q2⟩:=hv
  simp only[Option.some.injEq] at q1
  exact⟨#[],cc,q1,by simpa using q2⟩
 ·cases h
  unfold VRel at hv
  simp only[AV.isAgg,vrel,RA] at hv
  obtain⟨cc,q1,q2⟩:=hv
  simp only[Option.some.injEq] at q1
  exact⟨cc,#[],q1,by simpa using q2⟩
 ·cases h
theorem prim_once {calls:List (Nat×List FCon)}{f:FuncId}{pd pm:List Step}(hw:WOnce P f)(hcs:CallsOK P base calls):PrimOK P base calls f (.once pd pm):=by
 intro α args st fresh k r h100 h
 unfold primBy at h
 split at h<;>first|(rename_i heq;cases heq)|skip
 all_goals first|cases h|skip
 rename_i i q cv
 split at h
 ·cases h
 rename_i g cs hcv
 obtain⟨d,h1,h2⟩:=intAt_sound (base:=base) h
 split at h1
 ·rename_i hd
  have hd0: ¬d=0:=fun e=>by rw[odec_iff.2 e] at hd;cases hd
  refine⟨_,_,h1,hw.1,rfl,rfl,rfl,fun _ _ _=>rfl,fun N D w S cargs hc=>?_⟩
  obtain⟨nm,a,o,rest,g1,g2,g3,rfl,g5⟩:=ptr_arg hc
  obtain⟨c1,cs1,rfl,_,hr⟩: ∃c1 cs1,rest=c1::cs1∧VRel N D w cv c1∧RE N D w [] cs1:=by unfold RE at g5;exact g5
  simp only[RE] at hr;subst hr
  obtain⟨_,_,hcell⟩:=h2 N D w S nm a o g1 g2 g3
  rw[Nat.add_zero] at hcell
  refine(hw.2.1 _ d hd0 c1 w hcell).mono fun e w' he=>?_
  obtain⟨rfl,rfl⟩:=he
  exact⟨N,D,Ext.refl _ _ _ _,S,VRel_tup.2 ⟨#[],rfl,by simp only[RE]⟩⟩
 ·rename_i hd
  have hd0:=odec_iff.1 hd
  subst hd0
  obtain⟨m,h3,h4⟩:=intAt_sound (base:=base) h1
  split at h3
  ·cases h3
  rename_i hm
  have hm0:=odec_iff.1 hm
  subst hm0
  split at h3
  ·rename_i st1 c hst1 hc
   obtain⟨s',e1,t1,t2,t3,t4,t5⟩:=put_int (base:=base) hst1
   cases e1
   obtain⟨av,st2,h5,hcall⟩:=callsX_sound h100 c (hcs _ (lookN_mem hc)) h3
   obtain⟨⟨fn,f1,f2,f3⟩,c1,c2,c3,c4,c5⟩:=hcall
   split at h5
   ·obtain⟨d2,h6,h7⟩:=intAt_sound (base:=base) h5
    obtain⟨m2,h8,h9⟩:=intAt_sound (base:=base) h6
    split at h8
    ·rename_i hm2
     have hm20:=odec_iff.1 hm2
     subst hm20
     obtain⟨st3,h10,u1,u2,u3,u4,u5⟩:=put_int (base:=base) h8
     obtain⟨st4,h11,v1,v2,v3,v4,v5⟩:=put_int (base:=base) h10
     refine⟨_,_,h11,hw.1,by rw[v1,u1,c1,t1],by rw[v2,u2,c2,t2],by rw[v3,u3,c3,t3],fun j hj hj2=>?_,fun N D w S cargs hcr=>?_⟩
     ·simp only[primFp,hcv,hst1,hc,List.mem_cons,not_or] at hj
      rw[v4 j hj.1,u4 j hj.1,c4 j hj.2 hj2,t4 j hj.1]
     ·obtain⟨nm,a,o,rest,g1,g2,g3,rfl,g5⟩:=ptr_arg hcr
      obtain⟨cl,cs1,rfl,hcl,hr⟩: ∃c1 cs1,rest=c1::cs1∧VRel N D w cv c1∧RE N D w [] cs1:=by unfold RE at g5;exact g5
      simp only[RE] at hr;subst hr
      obtain⟨first,caps,rfl,q2⟩:=cloArgs_rel hcv hcl
      obtain⟨_,hoffd,hcd⟩:=h2 N D w S nm a o g1 g2 g3
      obtain⟨_,hoffm,hcm⟩:=h4 N D w S nm a o g1 g2 g3
      rw[Nat.add_zero] at hoffd hcd
      obtain⟨z1,_,D1,S1,X1⟩:=t5 N D w S nm a (o+1) g1 g2 hoffm
      rw[←Nat.add_assoc] at z1 S1 X1
      have hg: ∀w:World,(callFunc g (first++caps)).run P w= .ok (.enter g (first++caps)) w:=by
       intro w
       simp only[callFunc,Sem.run_bind,run_program,Result.andThen_ok,f1,f3,f2,Bool.false_eq_true,if_false,Sem.run_pure]
      have hq2:RE N D1 (w.setCell ⟨a.block,a.off+o+1,none⟩ (.int .i32 1)) cs (first++caps).toList:=RelEach_mono X1.names X1.frozen (X1.keepD S) _ _ q2
      have hin:=c5 N D1 _ S1 (first++caps).toList hq2
      refine(hw.2.2 a.block (a.off+o) g first caps (fun w1=> ∃N' D',Ext N D w st.h N' D' w1 st2.h∧Sim N' D' w1 base st2.h) w hg hcd hcm z1 (hin.mono fun e w1 he=>?_)).mono fun e w' he=>?_
      ·cases e with
       |returned v=>
        obtain⟨N',D',x2,s2,hv⟩:=he
        obtain⟨l,rfl,hl⟩:=VRel_tup.1 hv
        simp only[RE] at hl
        obtain rfl:l= #[]:=by apply Array.ext';simpa using hl
        have g1':=x2.names i nm g1
        obtain⟨_,hoffd',hcd'⟩:=h7 N' D' w1 s2 nm a o g1' g2 g3
        obtain⟨_,hoffm',hcm'⟩:=h9 N' D' w1 s2 nm a o g1' g2 g3
        rw[Nat.add_zero] at hoffd' hcd'
        obtain⟨y1,_,D3,S3,X3⟩:=u5 N' D' w1 s2 nm a o g1' g2 hoffd'
        refine⟨rfl,⟨N',D',X1.trans x2,s2⟩,⟨_,hcd'⟩,y1,hcm',?_⟩
        obtain⟨y2,_,_⟩:=v5 N' D3 _ S3 nm a (o+1) g1' g2 hoffm'
        rw[←Nat.add_assoc] at y2
        rw[World.frozen?_setCell] at y2
        exact y2
       |panicked c=>exact he.elim
       |outgrown=>exact he.elim
      ·obtain⟨rfl,w1,⟨N',D',x2,s2⟩,rfl⟩:=he
       have g1':=x2.names i nm g1
       obtain⟨_,hoffd',_⟩:=h7 N' D' w1 s2 nm a o g1' g2 g3
       obtain⟨_,hoffm',_⟩:=h9 N' D' w1 s2 nm a o g1' g2 g3
       rw[Nat.add_zero] at hoffd'
       obtain⟨s3,x3⟩:=s2.drew
       obtain⟨_,_,D3,S3,X3⟩:=u5 N' D' _ s3 nm a o g1' g2 hoffd'
       obtain⟨_,_,D4,S4,X4⟩:=v5 N' D3 _ S3 nm a (o+1) g1' g2 hoffm'
       rw[←Nat.add_assoc] at S4 X4
       exact⟨N',D4,((x2.trans x3).trans X3).trans X4,S4,VRel_tup.2 ⟨#[],rfl,by simp only[RE]⟩⟩
    ·cases h8
   ·cases h5
  ·cases h3
def PrimsOK (P:Program)(base:Nat)(calls:List (Nat×List FCon))(prims:List (Nat×Prim)):Prop:= ∀p∈prims,PrimOK P base calls p.1 p.2
theorem env_callsP {prims:List (Nat×Prim)}{calls:List (Nat×List FCon)}{loops:List (Nat×List LCon)}(hp:PrimsOK P base calls prims)(h:CallsOK P base calls):EnvCalls P base (mkEnvP (α:=α) prims calls loops):=by
 intro f args st fresh k r h100 hc
 simp only[mkEnvP] at hc⊢
 cases hf:lookN f prims with
 |none=>rw[hf] at hc;exact env_calls h f args st fresh k r h100 hc
 |some pr=>rw[hf] at hc;exact hp _ (lookN_mem hf) α args st fresh k r h100 hc
theorem env_loopsP {fn:Func}{prims:List (Nat×Prim)}{calls:List (Nat×List FCon)}{loops:List (Nat×List LCon)}(h:LoopsAre P base fn loops):EnvLoops P base fn (mkEnvP (α:=α) prims calls loops):=fun id st k r hc=>env_loops (calls:=calls) h id st k r hc
theorem fun_conP {f:FuncId}{fn:Func}{sp:FSpec}{F:sp.pre.den→Option (eD sp.exits)}{prims:List (Nat×Prim)}{calls:List (Nat×List FCon)}{loops:List (Nat×List LCon)}(h1:P.funcs[f]?=some fn)(h2:(fn.name== "runtime.NumGoroutine")=false)(h3:funB fn sp=true)
  (hm:P.follows .mixedOrders=true) (hp:PrimsOK P base calls prims) (hc:CallsOK P base calls) (hl:LoopsAre P base fn loops) (hF: ∀d,fB P sp (mkEnvP prims calls loops) fn d=F d):fO P base f sp F:=
 fun_ok (FunIs.of h1 h2 h3) hm (env_callsP hp hc) (env_loopsP hl) hF
theorem loop_conP {fn:Func}{id:Nat}{sp:LSpec}{F:sp.pre.den→Option (sp.pre.den⊕eD sp.exits)}{prims:List (Nat×Prim)}{calls:List (Nat×List FCon)}{loops:List (Nat×List LCon)}(hok:sp.ok=true)(hb:bodyB fn=true)
  (hm:P.follows .mixedOrders=true) (hp:PrimsOK P base calls prims) (hc:CallsOK P base calls) (hl:LoopsAre P base fn loops) (hF: ∀d,lB P sp (mkEnvP prims calls loops) fn id d=F d):rO P base fn id sp F:=
 round_ok hok (loopAt_ok hb id).1 (loopAt_ok hb id).2 hm (env_callsP hp hc) (env_loopsP hl) hF
theorem pN {calls:List (Nat×List FCon)}:PrimsOK P base calls []:=fun p hp=>by simp at hp
theorem pC {calls:List (Nat×List FCon)}{p:Nat×Prim}{l:List (Nat×Prim)}(h1:PrimOK P base calls p.1 p.2)(h:PrimsOK P base calls l):PrimsOK P base calls (p::l):=List.forall_mem_cons.2 ⟨h1,h⟩
end AM
namespace AM
open Go Go.RowKit Go.ChangeShapes Go.WideShapes
def Ty.bytes:Ty→Nat
 | .int k=>k.bits/8| .bool=>1| .str=>16| .nil=>0| .cons a b=>a.bytes+b.bytes| .arr n t=>n*t.bytes| .deep _=>24| .ref _=>8
mutual
def tyFit (P:Program):Nat→TypeId→Ty→Bool
 |0,_,_=>false
 |n+1,t,te=>decide (P.cellsOf t=te.size)&& (match P.underlying t,te with
  |some (.int k), .int k'=>decide (k=k')
  |some .bool, .bool=>true
  |some .string, .str=>true
  |some (.slice e), .deep te=>tyFit P n e te&&decide (1≤te.size)&&decide (te.bytes≤P.bytesOf e)
  |some (.array m e), .arr m' te=>decide (m=m')&&tyFit P n e te
  |some (.struct fs),te=>fitFs P n fs.toList 0 te
  |_,_=>false)
def fitFs (P:Program):Nat→List Field→Nat→Ty→Bool
 |0,_,_,_=>false
 |_+1,[],_, .nil=>true
 |n+1,f::fs,off, .cons a b=>decide (f.offset=off)&&tyFit P n f.type a&&fitFs P n fs (off+a.size) b
 |_+1,_,_,_=>false
end
def InR (k:IntKind)(n:Int):Prop:=k.min≤n∧n≤k.max
def lmem {β:Type}(x:β)(xs:List β):Prop:=x∈xs
def Rng:(t:Ty)→t.den→Prop
 | .int k,n=>InR k n
 | .str,s=>ByteArray.size s≤140737488351232
 | .cons a b,p=>Rng a p.1∧Rng b p.2
 | .arr n t,xs=>llen (β:=t.den) xs=n∧∀x:t.den,lmem (β:=t.den) x xs→Rng t x
 | .deep t,xs=>llen (β:=t.den) xs*t.bytes≤140737488351232∧∀x:t.den,lmem (β:=t.den) x xs→Rng t x
 |_,_=>True
theorem choose_list {β:Type}{Q:Nat→β→Prop}: ∀(n:Nat),(∀i,i<n→∃x,Q i x)→∃xs:List β,xs.length=n∧∀i x,xs[i]?=some x→Q i x
 |0,_=>⟨[],rfl,fun i x h=>by simp at h⟩
 |n+1,h=>by
  obtain⟨xs,h1,h2⟩:=choose_list n fun i hi=>h i (by omega)
  obtain⟨x,hx⟩:=h n (by omega)
  refine⟨xs++ [x],by simp[h1],fun i y hy=>?_⟩
  rw[List.getElem?_append] at hy
  split at hy
  ·exact h2 i y hy
  ·rename_i hi
   have:i=n:=by
    have:=(List.getElem?_eq_some_iff.1 hy).1
    simp at this;omega
   subst this
   simp[h1] at hy
   subst hy;exact hx
theorem mem_of_get {β:Type}{Q:β→Prop}{xs:List β}(h: ∀(i:Nat) (x:β),xs[i]?=some x→Q x): ∀x,lmem x xs→Q x:=by
 intro x hx
 obtain⟨i,hi⟩:=List.getElem?_of_mem hx
 exact h i x hi
section
variable {H:Type}{enc:TypeId×Value→H}{P:Program}{w:World}{N:Nm_}{D:Nat→Prop}
def Small (l:List Nat):Prop:= ∀n∈l,n≤reachBytes
theorem Small.left {a b:List Nat}(h:Small (a++b)):Small a:=fun n hn=>h n (List.mem_append_left _ hn)
theorem Small.right {a b:List Nat}(h:Small (a++b)):Small b:=fun n hn=>h n (List.mem_append_right _ hn)
theorem small_all {e:TypeId}: ∀{l:List (DataW H)} {i:Nat} {d:DataW H},Small (DataW.weightsAll P e l)→l[i]?=some d→Small (d.weights P e)
 | [],_,_,_,h=>by simp at h
 |x::xs,0,d,h,hd=>by
  simp at hd;subst hd
  simp only[DataW.weightsAll] at h
  exact h.left
 |x::xs,i+1,d,h,hd=>by
  simp only[DataW.weightsAll] at h
  exact small_all h.right (by simpa using hd)
theorem read_list {m fuel:Nat}{e:TypeId}{te:Ty}(ih: ∀(cs:List Value) (x:DataW H×List MemPlace),DataW.trod enc P w 0 (fun _=>true) true fuel e cs=some x→Small (x.1.weights P e)→∃y:te.den,TRel N D w te y (cs[·]?)∧Rng te y∧cs.length=te.size)
  {xs:List (DataW H×List MemPlace)} (hl:xs.length=m) (hs:Small (DataW.weightsAll P e (xs.map (·.1)))) {f:Nat→Option (List Value)} (hf: ∀i,i<m→(f i).bind (DataW.trod enc P w 0 (fun _=>true) true fuel e)=xs[i]?):
  ∃ys:List te.den,ys.length=m∧∀i y,ys[i]?=some y→∃cs,f i=some cs∧TRel N D w te y (cs[·]?)∧Rng te y∧cs.length=te.size:=by
 refine choose_list m fun i hi=>?_
 have h1:=hf i hi
 rw[List.getElem?_eq_getElem (by omega)] at h1
 obtain⟨cs,h2,h3⟩:=Option.bind_eq_some_iff.1 h1
 obtain⟨y,g⟩:=ih cs _ h3 (small_all hs (i:=i) (by simp[hl,hi]))
 exact⟨y,cs,h2,g⟩
theorem trod_read (hD: ∀b,b<w.heap.size→D b): ∀(m:Nat),
  (∀(t:TypeId) (te:Ty) (fuel:Nat) (cs:List Value) (x:DataW H×List MemPlace),tyFit P m t te=true→DataW.trod enc P w 0 (fun _=>true) true fuel t cs=some x→Small (x.1.weights P t)→∃y:te.den,TRel N D w te y (cs[·]?)∧Rng te y∧cs.length=te.size)∧
  (∀(fs:List Field) (off:Nat) (te:Ty) (fuel:Nat) (cs:List Value) (xs:List (DataW H×List MemPlace)),fitFs P m fs off te=true→(∀(i:Nat) (f:Field),fs[i]?=some f→DataW.trod enc P w 0 (fun _=>true) true fuel f.type ((cs.drop f.offset).take (P.cellsOf f.type))=xs[i]?)→xs.length=fs.length→Small (DataW.weightsEach P (fs.map (·.type)) (xs.map (·.1)))→∃y:te.den,TRel N D w te y (fun j=>cs[off+j]?)∧Rng te y)
 |0=>⟨fun t te fuel cs x h=>by simp[tyFit] at h,fun fs off te fuel cs xs h=>by simp[fitFs] at h⟩
 |m+1=>by
  obtain⟨ih1,ih2⟩:=trod_read hD m
  refine⟨fun t te fuel cs x hfit h hs=>?_,fun fs off te fuel cs xs hfit h hl hs=>?_⟩
  ·unfold tyFit at hfit
   simp only[Bool.and_eq_true,decide_eq_true_eq] at hfit
   obtain⟨hcells,hfit⟩:=hfit
   split at hfit
   ·rename_i k k' hu
    simp only[decide_eq_true_eq] at hfit
    subst hfit
    obtain⟨n,rfl,rfl,hw⟩:=DataW.trod_int hu h
    simp only[Lit.wf,Bool.and_eq_true,decide_eq_true_eq] at hw
    exact⟨n,rfl,hw,rfl⟩
   ·rename_i hu
    obtain⟨b,rfl,rfl⟩:=DataW.trod_bool hu h
    exact⟨b,rfl,trivial,rfl⟩
   ·rename_i hu
    obtain⟨s,rfl,rfl,_⟩:=DataW.trod_string hu h
    refine⟨s,rfl,?_,rfl⟩
    have:=hs s.data.toList.length (by simp[DataW.weights])
    show s.size≤140737488351232
    have e:s.data.toList.length=s.size:=by simp
    rw[e] at this
    exact this
   ·rename_i e te hu
    simp only[Bool.and_eq_true,decide_eq_true_eq] at hfit
    obtain⟨⟨hfe,h1⟩,hby⟩:=hfit
    rcases DataW.trod_slice hu h with⟨rfl,rfl⟩|⟨a,len,cap,elems,rest,n,rfl,rfl,rfl,_,hlc,_,hel,hget,_⟩
    ·refine⟨([]:List te.den),⟨none,0,rfl,Nat.le_refl _,fun _=>rfl,by intro ad ha;cases ha⟩,⟨by simp[llen],fun x hx=>by simp[lmem] at hx⟩,rfl⟩
    ·simp only[DataW.weights,hu] at hs
     have hce:P.cellsOf e=te.size:=by
      cases m with
      |zero=>simp[tyFit] at hfe
      |succ m=>unfold tyFit at hfe;simp only[Bool.and_eq_true,decide_eq_true_eq] at hfe;exact hfe.1
     obtain⟨ys,g1,g2⟩:=read_list (fun cs x hx hsm=>ih1 e te n cs x hfe hx hsm) hel (fun q hq=>hs q (List.mem_cons_of_mem _ (List.mem_append_left _ hq))) hget
     have hlen:llen (β:=te.den) ys=len:=g1
     have hbytes:=hs _ (List.mem_cons_self ..)
     have hspot:len≠0→a.spot=none:=by
      intro hne
      have h0:ys[0]?=some (ys[0]'(by omega)):=List.getElem?_eq_getElem (by omega)
      obtain⟨cs,c1,_,_,c4⟩:=g2 0 _ h0
      obtain⟨_,c5,c6⟩:=World.cells?_some c1
      have c7:=c6 0 (by omega)
      rw[List.getElem?_eq_getElem (by omega)] at c7
      simp only[Nat.zero_mul,Addr.add,if_true] at c7
      unfold World.cell? at c7
      split at c7
      ·split at c7
       ·cases c7
       ·rename_i hsp
        simpa using hsp
      ·cases c7
     refine⟨(ys:List te.den),⟨some a,cap,by rw[hlen];rfl,by rw[hlen];exact hlc,(by intro e';cases e'),fun ad had hne=>?_⟩,⟨?_,?_⟩,rfl⟩
     ·cases had
      rw[hlen] at hne
      have hsp:=hspot hne
      refine⟨hsp,?_,fun i y hy=>?_⟩
      ·have h0:ys[0]?=some (ys[0]'(by omega)):=List.getElem?_eq_getElem (by omega)
       obtain⟨cs,c1,_,_,c4⟩:=g2 0 _ h0
       simp only[Nat.zero_mul,Addr.add,if_true] at c1
       exact hD _ (World.cells?_block c1 (by omega))
      ·obtain⟨cs,c1,c2,_,c4⟩:=g2 i y hy
       obtain⟨_,c5,c6⟩:=World.cells?_some c1
       refine Tc_ te y _ _ (fun j hj=>?_) c2
       rw[←c6 j (by omega)]
       obtain⟨b,o,sp⟩:=a
       simp only at hsp
       subst hsp
       simp only[cA,addr_add,hce,Nat.add_assoc]
     ·show llen (β:=te.den) ys*te.bytes≤140737488351232
      rw[hlen]
      have h2:len*te.bytes≤(elems.length+rest.length)*P.bytesOf e:=Nat.mul_le_mul (by omega) hby
      simp only[List.length_map] at hbytes
      exact Nat.le_trans h2 hbytes
     ·exact mem_of_get fun i y hy=>(g2 i y hy).elim fun cs hcs=>hcs.2.2.1
   ·rename_i n e n' te hu
    simp only[Bool.and_eq_true,decide_eq_true_eq] at hfit
    obtain⟨rfl,hfe⟩:=hfit
    obtain⟨xs,k,rfl,rfl,hlen,hxl,hget⟩:=DataW.trod_array hu h
    simp only[DataW.weights,hu] at hs
    have hce:P.cellsOf e=te.size:=by
     cases m with
     |zero=>simp[tyFit] at hfe
     |succ m=>unfold tyFit at hfe;simp only[Bool.and_eq_true,decide_eq_true_eq] at hfe;exact hfe.1
    obtain⟨ys,g1,g2⟩:=read_list (f:=fun i=>some ((cs.drop (i*P.cellsOf e)).take (P.cellsOf e))) (fun cs x hx hsm=>ih1 e te k cs x hfe hx hsm) hxl hs (fun i hi=>by simpa using hget i hi)
    refine⟨(ys:List te.den),⟨g1,fun i y hy=>?_⟩,⟨g1,?_⟩,by rw[hlen,hcells]⟩
    ·obtain⟨cs',c1,c2,_,c4⟩:=g2 i y hy
     cases c1
     refine Tc_ te y _ _ (fun j hj=>?_) c2
     simp only
     rw[List.getElem?_take,if_pos (by omega),List.getElem?_drop,hce]
    ·exact mem_of_get fun i y hy=>(g2 i y hy).elim fun cs hcs=>hcs.2.2.1
   ·rename_i fs hu
    obtain⟨xs,k,rfl,rfl,hlen,hxl,hget⟩:=DataW.trod_struct hu h
    simp only[DataW.weights,hu] at hs
    obtain⟨y,g1,g2⟩:=ih2 fs.toList 0 _ k cs xs hfit (fun i f hf=>hget i f (by simpa using hf)) (by simpa using hxl) (by simpa using hs)
    exact⟨y,by simpa using g1,g2,by rw[hlen,hcells]⟩
   ·cases hfit
  ·unfold fitFs at hfit
   split at hfit
   ·cases hfit
   ·exact⟨(),trivial,trivial⟩
   ·rename_i off _ n f fs a b he
    obtain rfl:m=n:=Nat.succ.inj he
    cases xs with
    |nil=>simp at hl
    |cons x xs=>
     simp only[Bool.and_eq_true,decide_eq_true_eq] at hfit
     obtain⟨⟨rfl,hfa⟩,hfb⟩:=hfit
     simp only[List.map_cons,DataW.weightsEach] at hs
     have h0:=h 0 f rfl
     simp only[List.getElem?_cons_zero] at h0
     have hca:P.cellsOf f.type=a.size:=by
      cases m with
      |zero=>simp[tyFit] at hfa
      |succ m=>unfold tyFit at hfa;simp only[Bool.and_eq_true,decide_eq_true_eq] at hfa;exact hfa.1
     obtain⟨y,y1,y2,y3⟩:=ih1 f.type a fuel _ x hfa h0 hs.left
     obtain⟨z,z1,z2⟩:=ih2 fs (f.offset+a.size) b fuel cs xs hfb (fun i g hg=>by simpa using h (i+1) g (by simpa using hg)) (by simpa using hl) hs.right
     refine⟨(y,z),⟨Tc_ a y _ _ (fun j hj=>?_) y1,TRel.func z1 fun j=>by rw[Nat.add_assoc]⟩,y2,z2⟩
     rw[List.getElem?_take,if_pos (by omega),List.getElem?_drop]
   ·cases hfit
end
end AM
namespace AM
open Go Go.RowKit Go.ChangeShapes Go.WideShapes
def holes:Nat→List Ty→List (Nat×Pat)
 |_,[]=> []
 |i,t::ts=>(i, .hole t)::holes (i+1) ts
def RngS:(i:Nat)→(ts:List Ty)→sdens (holes i ts)→Prop
 |_,[],_=>True
 |i,t::ts,d=>Rng t d.1∧RngS (i+1) ts d.2
def fits (P:Program):List TypeId→List Ty→Bool
 | [],[]=>true
 |p::ps,t::ts=>tyFit P 40 p t&&fits P ps ts
 |_,_=>false
section
variable {H:Type}{enc:TypeId×Value→H}{P:Program}{w:World}{N:Nm_}{D:Nat→Prop}{base:Nat}
theorem tyFit_size {m:Nat}{t:TypeId}{te:Ty}(h:tyFit P m t te=true):P.cellsOf t=te.size:=by
 cases m with
 |zero=>simp[tyFit] at h
 |succ m=>unfold tyFit at h;simp only[Bool.and_eq_true,decide_eq_true_eq] at h;exact h.1
theorem one_cell {te:Ty}{x:te.den}{v:Value}(ha:(AM.enc te x).isAgg=false)(hs:te.size=1)(h:TRel N D w te x ([v][·]?)):VRel N D w (AM.enc te x) v:=by
 unfold VRel
 rw[ha]
 refine(enc_rel te x _).2 (Tc_ te x _ _ (fun j hj=>?_) h)
 obtain rfl:j=0:=by omega
 rfl
theorem many_cells {te:Ty}{x:te.den}{cs:Array Value}(ha:(AM.enc te x).isAgg=true)(hs:cs.size=te.size)(h:TRel N D w te x (cs.toList[·]?)):VRel N D w (AM.enc te x) (.agg cs):=by
 unfold VRel
 rw[ha]
 exact⟨cs,rfl,by rw[hs,enc_size],(enc_rel te x _).2 (TRel.func h fun j=>by simp)⟩
theorem enc_isAgg (te:Ty)(x:te.den):(AM.enc te x).isAgg=(tsh te).isAgg:=by rw[isAgg_sh,enc_sh]
theorem cons_agg (a b:Ty):(tsh (.cons a b)).isAgg=true:=by
 simp only[tsh]
 cases tsh b<;>rfl
theorem fitFs_agg {m:Nat}{fs:List Field}{off:Nat}{te:Ty}(hf:fitFs P m fs off te=true):(tsh te).isAgg=true:=by
 cases m with
 |zero=>simp[fitFs] at hf
 |succ m=>
  unfold fitFs at hf
  split at hf
  ·cases hf
  ·rfl
  ·exact cons_agg _ _
  ·cases hf
theorem val_read {m:Nat}{t:TypeId}{te:Ty}{x:te.den}{v:Value}(hf:tyFit P m t te=true)(hv:Value.okWide P w .any base t v)(h:TRel N D w te x (v.cells.toList[·]?)):VRel N D w (AM.enc te x) v:=by
 have hsz:=tyFit_size hf
 cases m with
 |zero=>simp[tyFit] at hf
 |succ m=>
  unfold tyFit at hf
  simp only[Bool.and_eq_true,decide_eq_true_eq] at hf
  replace hf:=hf.2
  split at hf
  ·rename_i k k' hu
   obtain⟨n,rfl⟩:=okWide_int hu hv
   exact one_cell (by rw[enc_isAgg];rfl) rfl (by simpa [Value.cells] using h)
  ·rename_i hu
   obtain⟨n,rfl⟩:=okWide_bool hu hv
   exact one_cell (by rw[enc_isAgg];rfl) rfl (by simpa [Value.cells] using h)
  ·rename_i hu
   obtain⟨n,rfl⟩:=okWide_string hu hv
   exact one_cell (by rw[enc_isAgg];rfl) rfl (by simpa [Value.cells] using h)
  ·rename_i e te hu
   obtain⟨a,l,c,rfl⟩:=okWide_slice hu hv
   exact one_cell (by rw[enc_isAgg];rfl) rfl (by simpa [Value.cells] using h)
  ·rename_i n e n' te hu
   simp only[Value.okWide,hu] at hv
   obtain⟨cs,rfl,hcs,_⟩:=hv
   exact many_cells (by rw[enc_isAgg];rfl) (by rw[hcs,hsz]) (by simpa [Value.cells] using h)
  ·rename_i fs hu
   simp only[Value.okWide,hu] at hv
   obtain⟨cs,rfl,hcs,_⟩:=hv
   exact many_cells (by rw[enc_isAgg];exact fitFs_agg hf) (by rw[hcs,hsz]) (by simpa [Value.cells] using h)
  ·cases hf
theorem args_read (hD: ∀b,b<w.heap.size→D b): ∀(pts:List TypeId) (ts:List Ty) (i:Nat) (vs:List Value) (ds:List (DataW H)) (ps:List MemPlace),fits P pts ts=true→DataW.TrodAll enc P w 0 (fun _=>true) true pts vs ds ps→
  (∀(j:Nat) t v,pts[j]?=some t→vs[j]?=some v→Value.okWide P w .any base t v)→Small (DataW.weightsEach P pts ds)→
  ∃d:sdens (holes i ts),RngS i ts d∧vs.length=ts.length∧∀y,VRel N D w (mkT (fun c=>c) (holes i ts) d (i+y)) (vs.getD y Go.undef)
 | [],[],i,vs,ds,ps,_,h,_,_=>by
  obtain⟨rfl,rfl,rfl⟩:=trodAll_nil h
  exact⟨(),trivial,rfl,fun y=>by simp only[holes,mkT];exact VRel_undef⟩
 |p::pts,t::ts,i,vs,ds,ps,hf,h,hv,hs=>by
  obtain⟨v,vs,d,ds,p1,q1,rfl,rfl,rfl,⟨fuel,h1⟩,h2⟩:=trodAll_cons h
  simp only[fits,Bool.and_eq_true] at hf
  simp only[DataW.weightsEach] at hs
  obtain⟨x,x1,x2,_⟩:=(trod_read hD 40).1 p t fuel _ _ hf.1 h1 hs.left
  obtain⟨d2,e1,e2,e3⟩:=args_read hD pts ts (i+1) vs ds q1 hf.2 h2 (fun j t v g1 g2=>hv (j+1) t v (by simpa using g1) (by simpa using g2)) hs.right
  refine⟨(x,d2),⟨x2,e1⟩,by simp[e2],fun y=>?_⟩
  cases y with
  |zero=>
   simp only[holes,mkT,Nat.add_zero,if_true,Pat.mk]
   exact val_read hf.1 (hv 0 p v rfl rfl) x1
  |succ y=>
   simp only[holes,mkT]
   rw[if_neg (by omega)]
   have:=e3 y
   rw[show i+1+y=i+(y+1) by omega] at this
   simpa using this
 | [],_::_,_,_,_,_,h,_,_,_=>by simp[fits] at h
 |_::_,[],_,_,_,_,h,_,_,_=>by simp[fits] at h
theorem trodAll_back (hl:laidOutB P=true): ∀{pts:List TypeId} {vs:List Value} {ds:List (DataW H)} {ps:List MemPlace} {w':World},(pts.all fun t=>P.readableRec t&&decide (t<P.types.size))=true→DataW.TrodAll enc P w 0 (fun _=>true) true pts vs ds ps→Below w.heap.size w w'→
  DataW.TrodAll enc P w' 0 (fun b=>decide (b<w.heap.size)) true pts vs ds ps
 | [],vs,ds,ps,w',_,h,_=>by
  obtain⟨rfl,rfl,rfl⟩:=trodAll_nil h
  exact trodAll_mk0
 |p::pts,vs,ds,ps,w',hr,h,hb=>by
  obtain⟨v,vs,d,ds,p1,q1,rfl,rfl,rfl,h1,h2⟩:=trodAll_cons h
  simp only[List.all_cons,Bool.and_eq_true,decide_eq_true_eq] at hr
  obtain⟨fuel,h1'⟩:=id h1
  refine⟨p1,q1,Below.trod hl hr.1.1 hr.1.2 h1 hb (fun x hx=>DataW.trod_lt fuel _ _ _ h1' x hx),trodAll_back hl hr.2 h2 hb,rfl⟩
theorem law_walk {f:FuncId}{ts:List Ty}{lt:Bool}{F:SPat.den ⟨holes 0 ts,[]⟩→Option (eD [⟨[(0, .hole .bool)],[]⟩])}(hF: ∀base,fO P base f ⟨⟨holes 0 ts,[]⟩,[⟨[(0, .hole .bool)],[]⟩],lt⟩ F)(hp: ∀d:sdens (holes 0 ts),RngS 0 ts d→F (d,())=some (((true,()),()):(Bool×Unit)×Unit))
  {pts:List TypeId} (hfit:fits P pts ts=true) {args:Array Value} {ds:List (DataW H)} {ps:List MemPlace} (hA:DataW.TrodAll enc P w 0 (fun _=>true) true pts args.toList ds ps)
  (hval: ∀(j:Nat) t v,pts[j]?=some t→args[j]?=some v→Value.okWide P w .any base t v) (hs:Small (DataW.weightsEach P pts ds)):
  Calls P f args w fun e w'=>e= .returned (.bool true)∧Below w.heap.size w w':=by
 obtain⟨d,h1,h2,h3⟩:=args_read (N:=Nm_.nil) (D:=fun b=>b<w.heap.size) (base:=base) (fun _ h=>h) pts ts 0 _ _ _ hfit hA (fun j t v g1 g2=>hval j t v g1 (by simpa using g2)) hs
 have hlen: ∀(i:Nat) (ts:List Ty),(holes i ts).length=ts.length:=by
  intro i ts
  induction ts generalizing i with
  |nil=>rfl
  |cons t ts ih=>simp[holes,ih]
 have S:Sim Nm_.nil (fun b=>b<w.heap.size) w w.heap.size (mkH (fun c=>c) ([]:List (Nat×OPat)) () (fun _=>none)):=
  ⟨fun i o h=>by simp[mkH] at h,fun i j oi oj b h=>by simp[mkH] at h,fun b h=>h,(fun i nm h=>by cases h),Nat.le_refl _,fun _ _ _=>rfl⟩
 have hc:=(hF w.heap.size).2 (d,()) _ (hp d h1) Nm_.nil (fun b=>b<w.heap.size) w args.toList S (by rw[h2,hlen]) (fun y=>by have:=h3 y;rwa [Nat.zero_add] at this)
 refine hc.mono fun e w' he=>?_
 cases e with
 |panicked c=>exact he.elim
 |outgrown=>exact he.elim
 |returned v=>
  obtain⟨Ne,De,post,hv⟩:=he
  have hv:VRel Ne De w' (AM.enc .bool true) v:=hv
  refine⟨by rw[Vv.1 hv],⟨post.ext.os,post.ext.tape,post.ext.output,post.ext.size,fun b hb=>post.ext.keep b hb fun ho=>?_⟩⟩
  obtain⟨i,o,g1,_⟩:=ho
  simp[mkH] at g1
end
end AM
namespace AM
open Go
theorem ot {p:Prop}(h:p):odec p=true:=odec_iff.2 h
theorem of_ {p:Prop}(h: ¬p):odec p=false:=by
 cases e:odec p with
 |false=>rfl
 |true=>exact absurd (odec_iff.1 e) h
theorem odT:odec True=true:=ot trivial
theorem odF:odec False=false:=of_ id
theorem wr64 {n:Int}(h0: -9223372036854775808≤n)(h1:n≤9223372036854775807):wr .i64 n=n:=by rw[wr_eq,IntKind.wrap_i64];omega
theorem rng64 {n:Int}(h:Rng (.int .i64) n): -9223372036854775808≤n∧n≤9223372036854775807:=h
theorem loop_ind {L R:Type}{b:L→Option (L⊕R)}(I:L→Prop)(Q:R→Prop)(μ:L→Nat)(h: ∀l,I l→(∃r,b l=some (.inr r)∧Q r)∨(∃l',b l=some (.inl l')∧I l'∧μ l'<μ l)): ∀l,I l→∃r,loopFix b l=some r∧Q r:=by
 have key: ∀n l,μ l≤n→I l→∃r,loopFix b l=some r∧Q r:=by
  intro n
  induction n with
  |zero=>
   intro l hn hl
   rcases h l hl with⟨r,h1,h2⟩|⟨l',h1,h2,h3⟩
   ·exact⟨r,by rw[loopFix_eq,h1],h2⟩
   ·omega
  |succ n ih=>
   intro l hn hl
   rcases h l hl with⟨r,h1,h2⟩|⟨l',h1,h2,h3⟩
   ·exact⟨r,by rw[loopFix_eq,h1],h2⟩
   ·obtain⟨r,h4,h5⟩:=ih l' (by omega) h2
    exact⟨r,by rw[loopFix_eq,h1];exact h4,h5⟩
 exact fun l hl=>key (μ l) l (Nat.le_refl _) hl
theorem boolEq_eq (a b:Bool):boolEq a b=(a==b):=rfl
theorem get_int {β:Type}{xs:List β}{i:Int}(h0:0≤i)(h1:i<(xs.length:Int)): ∃x,xs[i.toNat]?=some x∧x∈xs:=by
 have h:i.toNat<xs.length:=by omega
 exact⟨xs[i.toNat],List.getElem?_eq_getElem h,List.getElem_mem h⟩
theorem within_ok {v lo hi:Int}(hv: -9223372036854775808≤v∧v≤9223372036854775807)(h0: -4611686018427387904≤lo)(h1:lo≤hi)(h2:hi≤4611686018427387902)(h3:hi-lo<4611686018427387904):
  ∃r,lo≤r∧r≤hi∧(bif odec ((wr .i64 ((wr .i64 (hi-lo))+1))=0) then none else(bif (odec ((Int.tmod v (wr .i64 ((wr .i64 (hi-lo))+1)))<0)) then some ((((wr .i64 (lo+(wr .i64 ((wr .i64 ((wr .i64 ((Int.tmod v (wr .i64 ((wr .i64 (hi-lo))+1)))+hi))-lo))+1)))),()),()))
   else some ((((wr .i64 (lo+(Int.tmod v (wr .i64 ((wr .i64 (hi-lo))+1))))),()),()))):Option ((Int×Unit)×Unit))=some ((r,()),()):=by
 have e1:wr .i64 (hi-lo)=hi-lo:=wr64 (by omega) (by omega)
 have e2:wr .i64 (hi-lo+1)=hi-lo+1:=wr64 (by omega) (by omega)
 rw[e1,e2]
 have hm0:Int.tmod v (hi-lo+1)<hi-lo+1:=by
  have:=Int.tmod_lt_of_pos v (show 0<hi-lo+1 by omega)
  exact this
 have hm1: -(hi-lo+1)<Int.tmod v (hi-lo+1):=by
  have:=Int.lt_tmod_of_pos v (show 0<hi-lo+1 by omega)
  exact this
 generalize Int.tmod v (hi-lo+1)=m at hm0 hm1
 simp only[odec_eq,Bool.cond_decide]
 rw[if_neg (by omega)]
 by_cases hm:m<0
 ·rw[if_pos hm]
  refine⟨lo+(m+hi-lo+1),by omega,by omega,?_⟩
  rw[wr64 (n:=m+hi) (by omega) (by omega),wr64 (n:=m+hi-lo) (by omega) (by omega),wr64 (n:=m+hi-lo+1) (by omega) (by omega),wr64 (by omega) (by omega)]
 ·rw[if_neg hm]
  refine⟨lo+m,by omega,by omega,?_⟩
  rw[wr64 (by omega) (by omega)]
end AM
namespace AM
open Go
structure W where
 odec:(p:Prop)→ [Decidable p]→Bool
 wr:IntKind→Int→Int
 shr:IntKind→Int→Int→Int
 shl:IntKind→Int→Int→Int
 band:IntKind→Int→Int→Int
 bor:IntKind→Int→Int→Int
 bxor:IntKind→Int→Int→Int
 bandn:IntKind→Int→Int→Int
 imin:Int→Int→Int
 imax:Int→Int→Int
 intEq:Int→Int→Bool
 teq:(t:Ty)→t.den→t.den→Bool
 loopFix:{L R:Type}→(L→Option (L⊕R))→L→Option R
noncomputable def W0:W:=⟨fun p _=>odec p,wr,shr,shl,band,bor,bxor,bandn,imin,imax,intEq,teq,loopFix⟩
noncomputable def loopX {L R:Type}:Nat→(L→Option (L⊕R))→L→Option R
 |0,b,l=>loopFix b l
 |n+1,b,l=>match b l with|none=>none|some (.inr r)=>some r|some (.inl l')=>loopX n b l'
theorem loopX_eq {L R:Type}: ∀(n:Nat) (b:L→Option (L⊕R)) (l:L),loopX n b l=loopFix b l
 |0,_,_=>rfl
 |n+1,b,l=>by
  rw[loopFix_eq]
  simp only[loopX]
  cases b l with
  |none=>rfl
  |some x=>cases x with
   |inl l'=>exact loopX_eq n b l'
   |inr r=>rfl
def xshr (k:IntKind)(a b:Int):Int:=a.fdiv (2^(min b.toNat k.bits))
def xband (k:IntKind)(a b:Int):Int:=k.wrap ((BitVec.ofInt k.bits a&&&BitVec.ofInt k.bits b).toNat)
def xbor (k:IntKind)(a b:Int):Int:=k.wrap ((BitVec.ofInt k.bits a|||BitVec.ofInt k.bits b).toNat)
def xbxor (k:IntKind)(a b:Int):Int:=k.wrap ((BitVec.ofInt k.bits a^^^BitVec.ofInt k.bits b).toNat)
def xbandn (k:IntKind)(a b:Int):Int:=k.wrap ((BitVec.ofInt k.bits a&&& ~~~BitVec.ofInt k.bits b).toNat)
def xieq (a b:Int):Bool:=decide (a=b)
def xteq:(t:Ty)→t.den→t.den→Bool
 | .int _,a,b=>xieq a b
 | .bool,a,b=>boolEq a b
 | .str,a,b=>strEq a b
 | .nil,_,_=>true
 | .cons a b,x,y=>xteq a x.1 y.1&&xteq b x.2 y.2
 | .arr _ t,xs,ys=>(List.zip (α:=t.den) (β:=t.den) xs ys).all fun p=>xteq t p.1 p.2
 | .deep _,_,_=>false
 | .ref _,_,_=>false
theorem ieq_eq (a b:Int):intEq a b=xieq a b:=odec_eq (a=b)
theorem xteq_eq: ∀(t:Ty) (x y:t.den),teq t x y=xteq t x y
 | .int _,a,b=>ieq_eq a b
 | .bool,a,b=>rfl
 | .str,a,b=>rfl
 | .nil,_,_=>rfl
 | .cons a b,x,y=>by
  show(teq a x.1 y.1&&teq b x.2 y.2)=(xteq a x.1 y.1&&xteq b x.2 y.2)
  rw[xteq_eq a,xteq_eq b]
 | .arr _ t,xs,ys=>by
  show((List.zip (α:=t.den) (β:=t.den) xs ys).all fun p=>teq t p.1 p.2)=((List.zip (α:=t.den) (β:=t.den) xs ys).all fun p=>xteq t p.1 p.2)
  congr 1
  funext p
  exact xteq_eq t p.1 p.2
 | .deep _,_,_=>rfl
 | .ref _,_,_=>rfl
noncomputable def WX:W:=⟨fun p _=>decide p,fun k n=>k.wrap n,xshr,fun k a b=>k.wrap (a*2^(min b.toNat k.bits)),xband,xbor,xbxor,xbandn,fun a b=>bif decide (b<a) then b else a,fun a b=>bif decide (b>a) then b else a,fun a b=>decide (a=b),xteq,loopX 1000000⟩
theorem W0_WX:W0=WX:=by
 unfold W0 WX
 congr 1
 ·funext p i;exact odec_eq p
 ·funext k n;exact wr_eq k n
 ·funext k a b;exact shr_eq k a b
 ·funext k a b;exact wr_eq k _
 ·funext k a b;exact wr_eq k _
 ·funext k a b;exact wr_eq k _
 ·funext k a b;exact wr_eq k _
 ·funext k a b;exact wr_eq k _
 ·funext a b;unfold imin;rw[odec_eq]
 ·funext a b;unfold imax;rw[odec_eq]
 ·funext a b;exact odec_eq _
 ·funext t x y;exact xteq_eq t x y
 ·funext L R b l;exact(loopX_eq _ b l).symm
end AM
